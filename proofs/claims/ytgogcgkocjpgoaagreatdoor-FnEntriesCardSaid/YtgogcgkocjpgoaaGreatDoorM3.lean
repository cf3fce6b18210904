/- Part 3 of the proof: 23 texts, one behind the other. -/
import Derived.Laws.IdiomStrings
import Derived.Laws.Bits64b
import Derived.Test.YtgogcgkocjpgoaaGreatDoorRows
import Derived.MakeChecks
import Derived.Stop.LaidErr
import Derived.Shelf.Vars
import Derived.LaidLaws
import Derived.ProofKit
import Derived.OpenShut
import Derived.Test.YtgogcgkocjpgoaaGreatDoorCards
import Derived.Test.YtgogcgkocjpgoaaGreatDoorTie
import Derived.LaidMore
import Derived.Lay
import Derived.SevenTiedAt
import Derived.Stop.Joined
import Derived.Test.YtgogcgkocjpgoaaGreatDoorM2
/- Numbers with their sign: the reference writes and reads them. -/
namespace Go.Proofs.YtgogcgkocjpgoaaGreatDoor
open Go.RowKit
set_option maxRecDepth 100000 in
theorem numNeg_f (n : Int) (h0 : -999999 ≤ n) (hn : n < 0) : Fn Tryz.prog 178 [.int .i64 n] [] [] (fun (_ : Unit) => True) (fun _ => .string (bz (Lib.itoa n))) (fun _ => []) := by
  have hz : (bz (decI (-n))).size ≤ 7 := by rw [bz_size]; exact dec_len (by omega)
  have zl : (⟨#[45]⟩ : ByteArray).size = 1 := rfl
  refine enter Tryz.func178 rfl Tryz.ntmps178 fun w0 => ?_
  refine go ?_; intros
  refine c_if rfl (fun e0 => ?_) (fun e0 => ?_)
  rotate_left
  · exact absurd hn e0
  refine go ?_; intros
  refine cb (fun w st => num7_c (-n) (by omega) (by omega) w) ?_
  refine go ?_; intros
  rw [show (⟨#[45]⟩ : ByteArray) ++ bz (decI (-n)) = bz (Lib.itoa n) by
    rw [itoa_neg hn]
    unfold decI
    rw [show (-n).toNat = n.natAbs by omega]
    apply ByteArray.ext; simp [bz, ByteArray.data_append]]
  refine ret () trivial rfl
theorem numI_c (n : Int) (h0 : -999999 ≤ n) (h1 : n ≤ 999999) (w : World) : Calls Tryz.prog 178 #[.int .i64 n] w fun e w2 => e = .returned (.string (bz (Lib.itoa n))) ∧ Below w.heap.size w w2 := by
  by_cases hn : n < 0
  · exact (numNeg_f n h0 hn).val w (fun p hp => by cases hp)
  · rw [itoa_dec (by omega)]
    exact num7_c n (by omega) (by omega) w
theorem unS_at {s : ByteArray} (h : 1 < s.size) : unS s.data.toList = if s[0] = 45 then (s.extract 1 s.size).data.toList else s.data.toList := by
  have e : s.data.toList.head? = some s[0] := by
    rw [List.head?_eq_getElem?, List.getElem?_eq_getElem (by rw [size_list]; omega)]; rfl
  unfold unS
  rw [size_list, e, ext_end, bz_list]
  by_cases h2 : s[0] = 45
  · rw [if_pos ⟨h, by rw [h2]⟩, if_pos h2]
  · rw [if_neg (fun hh => h2 (Option.some.inj hh.2)), if_neg h2]
theorem unS_short {s : ByteArray} (h : ¬ 1 < s.size) : unS s.data.toList = s.data.toList := by
  unfold unS; rw [size_list, if_neg (fun hh => h hh.1)]
theorem yd_subu8 {P : Program} {n : Nat} {fr : Fr} {H : List Pc} {ty : TypeId} {x y : Operand} {a b : Int} {t t' : TypeId} (hx : ev fr x = some (.int .u8 a)) (hy : ev fr y = some (.int .u8 b)) (h0 : 0 ≤ a - b) (h1 : a - b ≤ 255) : Yd P n fr H (.binOp .sub t x y t') ty (.int .u8 (a - b)) := .mk fun c w d pos aft gd hA _ => by
  simp [execOp, hA.ev hx, hA.ev hy, eqGuard_sub, binOp_sub, Op.intArith, IntWalk.u8_in _ ⟨h0, h1⟩]
structure RdOk (t : ByteArray) (z : Nat × Nat) : Prop where
  k : z.2 ≤ t.size
  v : z.1 = dval (t.data.toList.take z.2)
  d : ∀ c ∈ t.data.toList.take z.2, 48 ≤ c.toNat ∧ c.toNat ≤ 57
set_option maxRecDepth 100000 in
theorem l1Read_f (s : ByteArray) (hs : s.size ≤ 1000000000) : Fn Tryz.prog 98 [.string s] [] [] (fun (_ : Unit) => True) (fun _ => .tuple #[.int .i64 (resPI s).1, .bool (resPI s).2]) (fun _ => []) := by
  refine enter Tryz.func98 rfl Tryz.ntmps98 fun w0 => ?_
  refine go ?_; intros
  refine wg_if rfl rfl (fun h1 => ?_) (fun h1 => ?_)
  · have h1 : 1 < s.size := by omega
    refine go ?_; intros
    refine c_if rfl (fun h2 => ?_) (fun h2 => ?_)
    · have ht : (s.extract 1 s.size).data.toList = unS s.data.toList := by rw [unS_at h1, if_pos (UInt8.toNat_inj.1 (by have : ((s[0]).toNat : Int) = 45 := h2; show (s[0]).toNat = 45; omega))]
      have hts : (s.extract 1 s.size).size = s.size - 1 := by simp
      refine goN ?_; intros
      apply wO; apply oc; rfl; exact yd_sll rfl rfl (by omega) (by omega)
      rw [show s.extract (1 : Int).toNat s.size = s.extract 1 s.size from rfl]
      generalize s.extract 1 s.size = t at ht hts ⊢
      refine go ?_; intros
      refine ce (fun w s => l1In_c _ _ _ _) ?_
      cases g1 : btw 1 ((t.size : Nat) : Int) 6
      · have hr : resPI s = (0, false) := by
          rcases Classical.em (resPI s = (0, false)) with h | h
          · exact h
          · exfalso
            obtain ⟨v, h0, h1', hsv, q1, q2, q3, q4, q5⟩ := read_good h
            rw [← ht, size_list] at q1 q2
            have : btw 1 ((t.size : Nat) : Int) 6 = true := by unfold btw; rw [decide_eq_true (by omega), decide_eq_true (by omega)]; rfl
            rw [this] at g1; cases g1
        rw [hr]
        refine go ?_; intros
        refine ret () trivial rfl
      obtain ⟨t1, t6⟩ : 1 ≤ t.size ∧ t.size ≤ 6 := by unfold btw at g1; simp only [Bool.and_eq_true, decide_eq_true_eq] at g1; omega
      refine go ?_; intros
      refine c_loopR [0, 2, 3, 4] (fun z : Nat × Nat => [(5, .int .i64 (z.1 : Nat)), (6, .int .i64 (z.2 : Nat))]) (RdOk t) (fun z => t.size - z.2) (0, 0) ⟨Nat.zero_le _, rfl, by simp⟩ fun z hz => ?_
      obtain ⟨vv, k⟩ := z
      obtain ⟨z1, z2, z3⟩ := hz
      dsimp only at z1 z2 z3 ⊢
      have hv6 : vv ≤ 999999 := by
        have := dval_lt (t.data.toList.take k).length _ rfl z3
        have hl : (t.data.toList.take k).length ≤ 6 := by rw [List.length_take, size_list]; omega
        have := Nat.pow_le_pow_right (show 0 < 10 by omega) hl
        omega
      refine go ?_; intros
      refine c_if rfl (fun h1 => ?_) (fun h1 => ?_)
      · have hk : k < t.size := by omega
        have hkl : k < t.data.toList.length := by rw [size_list]; exact hk
        have hm : t[k] ∈ unS s.data.toList := by rw [← ht]; exact List.getElem_mem hkl
        refine go ?_; intros
        refine wg_if rfl rfl (fun h3 => ?_) (fun h3 => ?_)
        · have h3 : ((t[k]).toNat : Int) < 48 := h3
          have hr : resPI s = (0, false) := by
            rcases Classical.em (resPI s = (0, false)) with h | h
            · exact h
            · exfalso
              obtain ⟨v, h0, h1', hsv, q1, q2, q3, q4, q5⟩ := read_good h
              have := q3 _ hm; omega
          rw [hr]
          refine go ?_; intros
          refine ret () trivial rfl
        have h3k : ¬ ((t[k]).toNat : Int) < 48 := h3
        refine go ?_; intros
        refine c_if rfl (fun h4 => ?_) (fun h4 => ?_)
        · have h4 : 57 < ((t[k]).toNat : Int) := h4
          have hr : resPI s = (0, false) := by
            rcases Classical.em (resPI s = (0, false)) with h | h
            · exact h
            · exfalso
              obtain ⟨v, h0, h1', hsv, q1, q2, q3, q4, q5⟩ := read_good h
              have := q3 _ hm; omega
          rw [hr]
          refine go ?_; intros
          refine ret () trivial rfl
        have h4k : ¬ 57 < ((t[k]).toNat : Int) := h4
        refine go ?_; intros
        apply wO; apply oc; rfl; exact yd_subu8 rfl rfl (by omega) (by omega)
        apply wO; apply oc; rfl; exact yd_cv rfl (by omega) (by omega)
        refine goN ?_; intros
        have e48 : ∀ x : Nat, 48 ≤ x → 10 * ((vv : Nat) : Int) + (((x : Nat) : Int) - 48) = ((10 * vv + (x - 48) : Nat) : Int) := fun x hx => by omega
        rw [e48]
        rotate_left
        · show 48 ≤ (t[k]).toNat; omega
        refine go ?_; intros
        have etk : t.data.toList.take (k + 1) = t.data.toList.take k ++ [t[k]] := by rw [List.take_succ_eq_append_getElem hkl]; rfl
        refine n_lp (10 * vv + ((t[k]).toNat - 48), k + 1) ⟨by show k + 1 ≤ t.size; omega, by show _ = dval (t.data.toList.take (k + 1)); rw [etk, dval_app, ← z2], by
          show ∀ c ∈ t.data.toList.take (k + 1), 48 ≤ c.toNat ∧ c.toNat ≤ 57
          rw [etk]
          intro c hc
          rcases List.mem_append.1 hc with hc | hc
          · exact z3 c hc
          · rw [List.mem_singleton] at hc; subst hc; omega⟩ (by show t.size - (k + 1) < t.size - k; omega)
      · have hks : k = t.size := by omega
        have z2 : vv = dval (unS s.data.toList) := by rw [← ht, z2, List.take_of_length_le (by rw [size_list]; omega)]
        have htz : (unS s.data.toList).length = t.size := by rw [← ht, size_list]
        refine go ?_; intros
        refine c_if rfl (fun h5 => ?_) (fun h5 => ?_)
        · refine go ?_; intros
          refine cb (fun w st => numI_c (-((vv : Nat) : Int)) (by omega) (by omega) w) ?_
          refine go ?_; intros
          by_cases h6 : bz (Lib.itoa (-((vv : Nat) : Int))) = s
          · have hr : resPI s = (-((vv : Nat) : Int), true) := by rw [← h6]; exact resPI_itoa (by omega) (by omega)
            rw [decide_eq_false (by simpa using h6), hr]
            refine go ?_; intros
            refine ret () trivial rfl
          · rw [decide_eq_true h6]
            have hr : resPI s = (0, false) := by
              rcases Classical.em (resPI s = (0, false)) with h | h
              · exact h
              · exfalso
                obtain ⟨v, h0, h1', hsv, q1, q2, q3, q4, q5⟩ := read_good h
                rw [htz] at q5
                have hv : v = -((vv : Nat) : Int) := by omega
                exact h6 (by rw [← hv]; exact hsv.symm)
            rw [hr]
            refine go ?_; intros
            refine ret () trivial rfl
        · refine go ?_; intros
          refine cb (fun w st => numI_c (((vv : Nat) : Int)) (by omega) (by omega) w) ?_
          refine go ?_; intros
          by_cases h6 : bz (Lib.itoa (((vv : Nat) : Int))) = s
          · have hr : resPI s = (((vv : Nat) : Int), true) := by rw [← h6]; exact resPI_itoa (by omega) (by omega)
            rw [decide_eq_false (by simpa using h6), hr]
            refine go ?_; intros
            refine ret () trivial rfl
          · rw [decide_eq_true h6]
            have hr : resPI s = (0, false) := by
              rcases Classical.em (resPI s = (0, false)) with h | h
              · exact h
              · exfalso
                obtain ⟨v, h0, h1', hsv, q1, q2, q3, q4, q5⟩ := read_good h
                rw [htz] at q5
                have hv : v = ((vv : Nat) : Int) := by omega
                exact h6 (by rw [← hv]; exact hsv.symm)
            rw [hr]
            refine go ?_; intros
            refine ret () trivial rfl
    · have ht : s.data.toList = unS s.data.toList := by rw [unS_at h1, if_neg (fun e => h2 (by show ((s[0]).toNat : Int) = 45; rw [e]; rfl))]
      refine go ?_; intros
      refine ce (fun w s => l1In_c _ _ _ _) ?_
      cases g1 : btw 1 ((s.size : Nat) : Int) 6
      · have hr : resPI s = (0, false) := by
          rcases Classical.em (resPI s = (0, false)) with h | h
          · exact h
          · exfalso
            obtain ⟨v, h0, h1', hsv, q1, q2, q3, q4, q5⟩ := read_good h
            rw [← ht, size_list] at q1 q2
            have : btw 1 ((s.size : Nat) : Int) 6 = true := by unfold btw; rw [decide_eq_true (by omega), decide_eq_true (by omega)]; rfl
            rw [this] at g1; cases g1
        rw [hr]
        refine go ?_; intros
        refine ret () trivial rfl
      obtain ⟨t1, t6⟩ : 1 ≤ s.size ∧ s.size ≤ 6 := by unfold btw at g1; simp only [Bool.and_eq_true, decide_eq_true_eq] at g1; omega
      refine go ?_; intros
      refine c_loopR [0, 2, 3, 4] (fun z : Nat × Nat => [(5, .int .i64 (z.1 : Nat)), (6, .int .i64 (z.2 : Nat))]) (RdOk s) (fun z => s.size - z.2) (0, 0) ⟨Nat.zero_le _, rfl, by simp⟩ fun z hz => ?_
      obtain ⟨vv, k⟩ := z
      obtain ⟨z1, z2, z3⟩ := hz
      dsimp only at z1 z2 z3 ⊢
      have hv6 : vv ≤ 999999 := by
        have := dval_lt (s.data.toList.take k).length _ rfl z3
        have hl : (s.data.toList.take k).length ≤ 6 := by rw [List.length_take, size_list]; omega
        have := Nat.pow_le_pow_right (show 0 < 10 by omega) hl
        omega
      refine go ?_; intros
      refine c_if rfl (fun h1 => ?_) (fun h1 => ?_)
      · have hk : k < s.size := by omega
        have hkl : k < s.data.toList.length := by rw [size_list]; exact hk
        have hm : s[k] ∈ unS s.data.toList := by rw [← ht]; exact List.getElem_mem hkl
        refine go ?_; intros
        refine wg_if rfl rfl (fun h3 => ?_) (fun h3 => ?_)
        · have h3 : ((s[k]).toNat : Int) < 48 := h3
          have hr : resPI s = (0, false) := by
            rcases Classical.em (resPI s = (0, false)) with h | h
            · exact h
            · exfalso
              obtain ⟨v, h0, h1', hsv, q1, q2, q3, q4, q5⟩ := read_good h
              have := q3 _ hm; omega
          rw [hr]
          refine go ?_; intros
          refine ret () trivial rfl
        have h3k : ¬ ((s[k]).toNat : Int) < 48 := h3
        refine go ?_; intros
        refine c_if rfl (fun h4 => ?_) (fun h4 => ?_)
        · have h4 : 57 < ((s[k]).toNat : Int) := h4
          have hr : resPI s = (0, false) := by
            rcases Classical.em (resPI s = (0, false)) with h | h
            · exact h
            · exfalso
              obtain ⟨v, h0, h1', hsv, q1, q2, q3, q4, q5⟩ := read_good h
              have := q3 _ hm; omega
          rw [hr]
          refine go ?_; intros
          refine ret () trivial rfl
        have h4k : ¬ 57 < ((s[k]).toNat : Int) := h4
        refine go ?_; intros
        apply wO; apply oc; rfl; exact yd_subu8 rfl rfl (by omega) (by omega)
        apply wO; apply oc; rfl; exact yd_cv rfl (by omega) (by omega)
        refine goN ?_; intros
        have e48 : ∀ x : Nat, 48 ≤ x → 10 * ((vv : Nat) : Int) + (((x : Nat) : Int) - 48) = ((10 * vv + (x - 48) : Nat) : Int) := fun x hx => by omega
        rw [e48]
        rotate_left
        · show 48 ≤ (s[k]).toNat; omega
        refine go ?_; intros
        have etk : s.data.toList.take (k + 1) = s.data.toList.take k ++ [s[k]] := by rw [List.take_succ_eq_append_getElem hkl]; rfl
        refine n_lp (10 * vv + ((s[k]).toNat - 48), k + 1) ⟨by show k + 1 ≤ s.size; omega, by show _ = dval (s.data.toList.take (k + 1)); rw [etk, dval_app, ← z2], by
          show ∀ c ∈ s.data.toList.take (k + 1), 48 ≤ c.toNat ∧ c.toNat ≤ 57
          rw [etk]
          intro c hc
          rcases List.mem_append.1 hc with hc | hc
          · exact z3 c hc
          · rw [List.mem_singleton] at hc; subst hc; omega⟩ (by show s.size - (k + 1) < s.size - k; omega)
      · have hks : k = s.size := by omega
        have z2 : vv = dval (unS s.data.toList) := by rw [← ht, z2, List.take_of_length_le (by rw [size_list]; omega)]
        have htz : (unS s.data.toList).length = s.size := by rw [← ht, size_list]
        refine go ?_; intros
        refine c_if rfl (fun h5 => ?_) (fun h5 => ?_)
        · refine go ?_; intros
          refine cb (fun w st => numI_c (-((vv : Nat) : Int)) (by omega) (by omega) w) ?_
          refine go ?_; intros
          by_cases h6 : bz (Lib.itoa (-((vv : Nat) : Int))) = s
          · have hr : resPI s = (-((vv : Nat) : Int), true) := by rw [← h6]; exact resPI_itoa (by omega) (by omega)
            rw [decide_eq_false (by simpa using h6), hr]
            refine go ?_; intros
            refine ret () trivial rfl
          · rw [decide_eq_true h6]
            have hr : resPI s = (0, false) := by
              rcases Classical.em (resPI s = (0, false)) with h | h
              · exact h
              · exfalso
                obtain ⟨v, h0, h1', hsv, q1, q2, q3, q4, q5⟩ := read_good h
                rw [htz] at q5
                have hv : v = -((vv : Nat) : Int) := by omega
                exact h6 (by rw [← hv]; exact hsv.symm)
            rw [hr]
            refine go ?_; intros
            refine ret () trivial rfl
        · refine go ?_; intros
          refine cb (fun w st => numI_c (((vv : Nat) : Int)) (by omega) (by omega) w) ?_
          refine go ?_; intros
          by_cases h6 : bz (Lib.itoa (((vv : Nat) : Int))) = s
          · have hr : resPI s = (((vv : Nat) : Int), true) := by rw [← h6]; exact resPI_itoa (by omega) (by omega)
            rw [decide_eq_false (by simpa using h6), hr]
            refine go ?_; intros
            refine ret () trivial rfl
          · rw [decide_eq_true h6]
            have hr : resPI s = (0, false) := by
              rcases Classical.em (resPI s = (0, false)) with h | h
              · exact h
              · exfalso
                obtain ⟨v, h0, h1', hsv, q1, q2, q3, q4, q5⟩ := read_good h
                rw [htz] at q5
                have hv : v = ((vv : Nat) : Int) := by omega
                exact h6 (by rw [← hv]; exact hsv.symm)
            rw [hr]
            refine go ?_; intros
            refine ret () trivial rfl
  · have ht : s.data.toList = unS s.data.toList := (unS_short (by omega)).symm
    refine go ?_; intros
    refine ce (fun w s => l1In_c _ _ _ _) ?_
    cases g1 : btw 1 ((s.size : Nat) : Int) 6
    · have hr : resPI s = (0, false) := by
        rcases Classical.em (resPI s = (0, false)) with h | h
        · exact h
        · exfalso
          obtain ⟨v, h0, h1', hsv, q1, q2, q3, q4, q5⟩ := read_good h
          rw [← ht, size_list] at q1 q2
          have : btw 1 ((s.size : Nat) : Int) 6 = true := by unfold btw; rw [decide_eq_true (by omega), decide_eq_true (by omega)]; rfl
          rw [this] at g1; cases g1
      rw [hr]
      refine go ?_; intros
      refine ret () trivial rfl
    obtain ⟨t1, t6⟩ : 1 ≤ s.size ∧ s.size ≤ 6 := by unfold btw at g1; simp only [Bool.and_eq_true, decide_eq_true_eq] at g1; omega
    refine go ?_; intros
    refine c_loopR [0, 2, 3, 4] (fun z : Nat × Nat => [(5, .int .i64 (z.1 : Nat)), (6, .int .i64 (z.2 : Nat))]) (RdOk s) (fun z => s.size - z.2) (0, 0) ⟨Nat.zero_le _, rfl, by simp⟩ fun z hz => ?_
    obtain ⟨vv, k⟩ := z
    obtain ⟨z1, z2, z3⟩ := hz
    dsimp only at z1 z2 z3 ⊢
    have hv6 : vv ≤ 999999 := by
      have := dval_lt (s.data.toList.take k).length _ rfl z3
      have hl : (s.data.toList.take k).length ≤ 6 := by rw [List.length_take, size_list]; omega
      have := Nat.pow_le_pow_right (show 0 < 10 by omega) hl
      omega
    refine go ?_; intros
    refine c_if rfl (fun h1 => ?_) (fun h1 => ?_)
    · have hk : k < s.size := by omega
      have hkl : k < s.data.toList.length := by rw [size_list]; exact hk
      have hm : s[k] ∈ unS s.data.toList := by rw [← ht]; exact List.getElem_mem hkl
      refine go ?_; intros
      refine wg_if rfl rfl (fun h3 => ?_) (fun h3 => ?_)
      · have h3 : ((s[k]).toNat : Int) < 48 := h3
        have hr : resPI s = (0, false) := by
          rcases Classical.em (resPI s = (0, false)) with h | h
          · exact h
          · exfalso
            obtain ⟨v, h0, h1', hsv, q1, q2, q3, q4, q5⟩ := read_good h
            have := q3 _ hm; omega
        rw [hr]
        refine go ?_; intros
        refine ret () trivial rfl
      have h3k : ¬ ((s[k]).toNat : Int) < 48 := h3
      refine go ?_; intros
      refine c_if rfl (fun h4 => ?_) (fun h4 => ?_)
      · have h4 : 57 < ((s[k]).toNat : Int) := h4
        have hr : resPI s = (0, false) := by
          rcases Classical.em (resPI s = (0, false)) with h | h
          · exact h
          · exfalso
            obtain ⟨v, h0, h1', hsv, q1, q2, q3, q4, q5⟩ := read_good h
            have := q3 _ hm; omega
        rw [hr]
        refine go ?_; intros
        refine ret () trivial rfl
      have h4k : ¬ 57 < ((s[k]).toNat : Int) := h4
      refine go ?_; intros
      apply wO; apply oc; rfl; exact yd_subu8 rfl rfl (by omega) (by omega)
      apply wO; apply oc; rfl; exact yd_cv rfl (by omega) (by omega)
      refine goN ?_; intros
      have e48 : ∀ x : Nat, 48 ≤ x → 10 * ((vv : Nat) : Int) + (((x : Nat) : Int) - 48) = ((10 * vv + (x - 48) : Nat) : Int) := fun x hx => by omega
      rw [e48]
      rotate_left
      · show 48 ≤ (s[k]).toNat; omega
      refine go ?_; intros
      have etk : s.data.toList.take (k + 1) = s.data.toList.take k ++ [s[k]] := by rw [List.take_succ_eq_append_getElem hkl]; rfl
      refine n_lp (10 * vv + ((s[k]).toNat - 48), k + 1) ⟨by show k + 1 ≤ s.size; omega, by show _ = dval (s.data.toList.take (k + 1)); rw [etk, dval_app, ← z2], by
        show ∀ c ∈ s.data.toList.take (k + 1), 48 ≤ c.toNat ∧ c.toNat ≤ 57
        rw [etk]
        intro c hc
        rcases List.mem_append.1 hc with hc | hc
        · exact z3 c hc
        · rw [List.mem_singleton] at hc; subst hc; omega⟩ (by show s.size - (k + 1) < s.size - k; omega)
    · have hks : k = s.size := by omega
      have z2 : vv = dval (unS s.data.toList) := by rw [← ht, z2, List.take_of_length_le (by rw [size_list]; omega)]
      have htz : (unS s.data.toList).length = s.size := by rw [← ht, size_list]
      refine go ?_; intros
      refine c_if rfl (fun h5 => ?_) (fun h5 => ?_)
      · refine go ?_; intros
        refine cb (fun w st => numI_c (-((vv : Nat) : Int)) (by omega) (by omega) w) ?_
        refine go ?_; intros
        by_cases h6 : bz (Lib.itoa (-((vv : Nat) : Int))) = s
        · have hr : resPI s = (-((vv : Nat) : Int), true) := by rw [← h6]; exact resPI_itoa (by omega) (by omega)
          rw [decide_eq_false (by simpa using h6), hr]
          refine go ?_; intros
          refine ret () trivial rfl
        · rw [decide_eq_true h6]
          have hr : resPI s = (0, false) := by
            rcases Classical.em (resPI s = (0, false)) with h | h
            · exact h
            · exfalso
              obtain ⟨v, h0, h1', hsv, q1, q2, q3, q4, q5⟩ := read_good h
              rw [htz] at q5
              have hv : v = -((vv : Nat) : Int) := by omega
              exact h6 (by rw [← hv]; exact hsv.symm)
          rw [hr]
          refine go ?_; intros
          refine ret () trivial rfl
      · refine go ?_; intros
        refine cb (fun w st => numI_c (((vv : Nat) : Int)) (by omega) (by omega) w) ?_
        refine go ?_; intros
        by_cases h6 : bz (Lib.itoa (((vv : Nat) : Int))) = s
        · have hr : resPI s = (((vv : Nat) : Int), true) := by rw [← h6]; exact resPI_itoa (by omega) (by omega)
          rw [decide_eq_false (by simpa using h6), hr]
          refine go ?_; intros
          refine ret () trivial rfl
        · rw [decide_eq_true h6]
          have hr : resPI s = (0, false) := by
            rcases Classical.em (resPI s = (0, false)) with h | h
            · exact h
            · exfalso
              obtain ⟨v, h0, h1', hsv, q1, q2, q3, q4, q5⟩ := read_good h
              rw [htz] at q5
              have hv : v = ((vv : Nat) : Int) := by omega
              exact h6 (by rw [← hv]; exact hsv.symm)
          rw [hr]
          refine go ?_; intros
          refine ret () trivial rfl
end Go.Proofs.YtgogcgkocjpgoaaGreatDoor
/- Deliveries read out of sentences: the program and the reference. -/
namespace Go.Proofs.YtgogcgkocjpgoaaGreatDoor
open Go.RowKit
end Go.Proofs.YtgogcgkocjpgoaaGreatDoor
/- Reports: their texts, and that they come back out of them. Plain. -/
namespace Go.Proofs.YtgogcgkocjpgoaaGreatDoor
open Go.RowKit
end Go.Proofs.YtgogcgkocjpgoaaGreatDoor
/- Reports: checked, written; the program and the reference. -/
namespace Go.Proofs.YtgogcgkocjpgoaaGreatDoor
open Go.RowKit
theorem sl_cells {w : World} {a : Option Addr} {n cp : Nat} {xs : List ByteArray} {F : List Nat} (h : (Pc.sl EStr (.slice a n cp) xs F).P w) (h0 : 0 < xs.length) : ∃ b o, a = some ⟨b, o, none⟩ ∧ n = xs.length ∧ xs.length ≤ cp ∧ b < w.heap.size ∧ ∀ (j : Nat) x, xs[j]? = some x → w.cell? ⟨b, o + j, none⟩ = some (.string x) := by
  have hlt := h.2.lt
  obtain ⟨hz, a', cap, hv, hl, h | ⟨b, o, F', rfl, hne, rfl, hc⟩⟩ := h
  · rw [h.1] at h0; simp at h0
  · simp only [Value.slice.injEq] at hv
    obtain ⟨rfl, rfl, rfl⟩ := hv
    refine ⟨b, o, rfl, rfl, hl.1, hlt (by decide) b (by simp), fun j x hj => ?_⟩
    obtain ⟨hj1, rfl⟩ := List.getElem?_eq_some_iff.1 hj
    obtain ⟨cs, F1, ⟨rfl, -, -⟩, h2, -⟩ := hc.get j hj1
    have := h2 0 (by decide)
    simpa [EStr] using this
theorem join_c (xs : List ByteArray) (sep : ByteArray) (a : Option Addr) (cp : Nat) (F : List Nat) (w : World) (h : (Pc.sl EStr (.slice a xs.length cp) xs F).P w) (h0 : 0 < xs.length) (hN : xs.length ≤ 1000000000) (hlen : (Lib.join (xs.map (·.data.toList)) sep.data.toList).length ≤ 1000000000) :
    Calls Tryz.prog 165 #[.slice a xs.length cp, .string sep] w fun e w' => e = .returned (.string (bz (Lib.join (xs.map (·.data.toList)) sep.data.toList))) ∧ Below w.heap.size w w' := by
  obtain ⟨b, o, rfl, -, hcap, hb, hc⟩ := sl_cells h h0
  exact Tryz.strings_Join b o cp xs sep w hc hb (by omega) hcap (by omega)
structure RtS where
  k : Nat
  a : Option Addr
  c : Nat
  F : List Nat
end Go.Proofs.YtgogcgkocjpgoaaGreatDoor
/- Elements: written as texts; the program and the reference. -/
namespace Go.Proofs.YtgogcgkocjpgoaaGreatDoor
open Go.RowKit
theorem made_s (n : Nat) : madeCells (Value.string ⟨#[]⟩).cells (n * 1) = (List.replicate n (Value.string ⟨#[]⟩)).toArray := by
  rw [Nat.mul_one]
  apply Array.ext
  · simp [madeCells]
  · intro i h1 h2
    simp [madeCells, Value.cells, Nat.mod_one]
theorem flat_rep (w : World) : ∀ n : Nat, Flat EStr w (List.replicate n (Value.string ⟨#[]⟩)) (List.replicate n ⟨#[]⟩) []
  | 0 => ⟨rfl, rfl⟩
  | n + 1 => ⟨[.string ⟨#[]⟩], List.replicate n (Value.string ⟨#[]⟩), [], [], by simp [List.replicate_succ], by simp, ⟨rfl, Nat.zero_le _, rfl⟩, flat_rep w n⟩
def itB (f : Int) : ByteArray := bz (Lib.itoa f)
def zsJ (l : List Int) (k : Nat) : List ByteArray := (l.take k).map itB ++ List.replicate (l.length - k) ⟨#[]⟩
theorem zsJ_len {l : List Int} {k : Nat} (h : k ≤ l.length) : (zsJ l k).length = l.length := by unfold zsJ; simp; omega
theorem zsJ_set {l : List Int} {k : Nat} (h : k < l.length) : (zsJ l k).set k (itB l[k]) = zsJ l (k + 1) := by
  unfold zsJ
  have e : List.replicate (l.length - k) (⟨#[]⟩ : ByteArray) = ⟨#[]⟩ :: List.replicate (l.length - (k + 1)) ⟨#[]⟩ := by rw [show l.length - k = (l.length - (k + 1)) + 1 by omega, List.replicate_succ]
  have hl : ((l.take k).map itB).length = k := by rw [List.length_map, List.length_take]; omega
  rw [e, List.set_append_right _ _ (by omega), hl, Nat.sub_self, List.set_cons_zero, List.take_succ_eq_append_getElem h, List.map_append]
  simp only [List.map_cons, List.map_nil, List.append_assoc, List.cons_append, List.nil_append]
theorem join_fac (l : List Int) (h : 0 < l.length) : Lib.join ((l.map itB).map (·.data.toList)) [] = facB l := by
  cases l with
  | nil => cases h
  | cons f l =>
    rw [List.map_map, List.map_cons, Lib.join_cons, facB_cons]
    unfold Lib.joinTail facB
    rw [List.map_map]
    simp only [Function.comp_def, itB, bz_list, List.nil_append]
theorem joinF_c (l : List Int) (g : Nat) (F : List Nat) (w : World) (hf : ∀ f ∈ l, 1 ≤ f ∧ f ≤ 7) (h0 : 0 < l.length) (h7 : l.length ≤ 7) (h : (Pc.sl EStr (.slice (some ⟨g, 0, none⟩) l.length l.length) (l.map itB) F).P w) :
    Calls Tryz.prog 165 #[.slice (some ⟨g, 0, none⟩) l.length l.length, .string ⟨#[]⟩] w fun e w' => e = .returned (.string (bz (facB l))) ∧ Below w.heap.size w w' := by
  have hml : (l.map itB).length = l.length := List.length_map ..
  have hd : (⟨#[]⟩ : ByteArray).data.toList = [] := rfl
  have := join_c (l.map itB) ⟨#[]⟩ (some ⟨g, 0, none⟩) l.length F w (by rw [hml]; exact h) (by omega) (by omega) (by rw [hd, join_fac l h0, (facB_back hf).2.2]; omega)
  rw [hml, hd, join_fac l h0] at this
  exact this
set_option maxRecDepth 100000 in
theorem joinInts_f (l : List Int) (a : Option Addr) (c : Nat) (F FT : List Nat) (hf : ∀ f ∈ l, 1 ≤ f ∧ f ≤ 7) (h0 : 0 < l.length) (h7 : l.length ≤ 7) : Fn Tryz.prog 172 [.slice a l.length c, .string ⟨#[]⟩] [.sl EInt (.slice a l.length c) l F, EnvP FT] [] (fun (_ : Unit) => True) (fun _ => .string (bz (facB l))) (fun _ => []) := by
  refine enter Tryz.func172 rfl Tryz.ntmps172 fun w0 => ?_
  refine go ?_; intros
  apply wO
  refine o_ms l.length (cs := List.replicate l.length (.string ⟨#[]⟩)) rfl rfl rfl (made_s _) (by omega) (by omega) fun g => ?_
  refine t_row (E := EStr) (xs := List.replicate l.length ⟨#[]⟩) (fun w => flat_rep w _) ?_ (by rw [List.length_replicate]; omega)
  rw [List.length_replicate, show List.replicate l.length (⟨#[]⟩ : ByteArray) = zsJ l 0 by unfold zsJ; simp]
  refine go ?_; intros
  refine c_loopS [1, 4, 5, 11, 12] (fun k : Nat => [(13, .int .i64 (k : Nat))]) (fun k => [.ow EStr 9 (.slice (some ⟨g, 0, none⟩) l.length l.length) (zsJ l k) [g]]) (fun k => k ≤ l.length) (fun k => l.length - k) 0 (Nat.zero_le _) fun k hk => ?_
  have hzl := zsJ_len hk
  refine go ?_; intros
  refine c_if rfl (fun h1 => ?_) (fun h1 => ?_)
  · have hk1 : k < l.length := by omega
    have hfk := hf _ (List.getElem_mem hk1)
    refine at_int (xs := l) k ?_
    rintro hi b o e1
    rw [e1]
    refine go ?_; intros
    refine cb (fun w st => itoa_c l[k] (by omega) (by omega) FT w (st.get (p := EnvP FT) (by simp))) ?_
    refine focF (m := 1) scal_EStr k ?_ (by repeat (first | exact .here | apply Pick.there)) rfl (by omega)
    rintro _ g2 A cs B e2 - hr hH
    cases e2
    obtain ⟨rfl, -⟩ := hr w0
    refine go ?_; intros
    refine unfF (itB l[k]) hH (fun w => ⟨rfl, by rw [itB, bz_size]; have := itoa_len (k := 0) (n := l[k]) (by omega) (by omega); unfold maxLen; omega, rfl⟩) ?_
    rw [zsJ_set hk1]
    refine go ?_; intros
    refine n_lp (k + 1) hk1 (by omega)
  · have hk1 : k = l.length := by omega
    subst hk1
    rw [show zsJ l l.length = l.map itB by unfold zsJ; simp]
    have hml : (l.map itB).length = l.length := List.length_map ..
    refine t_read (E := EStr) (xs := l.map itB) fun F8 => ?_
    refine go ?_; intros
    refine cb (fun w st => joinF_c l g F8 w hf h0 h7 (st.get (p := .sl EStr (.slice (some ⟨g, 0, none⟩) l.length l.length) (l.map itB) F8) (by simp))) ?_
    refine go ?_; intros
    refine ret () trivial rfl
def accE (e : Element) (k : Nat) : Bs := Lib.itoa e.clock ++ tailE (e.entries.take k)
theorem accE_succ {e : Element} {k : Nat} (h : k < e.entries.length) : accE e (k + 1) = accE e k ++ 59 :: 32 :: entB e.entries[k] := by
  unfold accE tailE jnS
  rw [List.take_succ_eq_append_getElem h]
  simp only [List.map_append, List.flatten_append, List.map_cons, List.map_nil, List.flatten_cons, List.flatten_nil, List.append_nil, List.append_assoc]
theorem accE_size {e : Element} (hg : goodElement e = true) (k : Nat) : (bz (accE e k)).size ≤ 159 := by
  have h1 := tailE_len hg k
  have h2 := clk_len hg
  unfold accE
  rw [bz_size, List.length_append]; omega
theorem accE_I {e : Element} {k : Nat} (h : k < e.entries.length) : bz (accE e k) ++ (⟨#[59, 32]⟩ ++ bz (Lib.itoa e.entries[k].number) ++ ⟨#[32, 102, 111, 114, 32]⟩ ++ bz (facB e.entries[k].faces) ++ ⟨#[32, 117, 110, 116, 105, 108, 32]⟩ ++ bz (Lib.itoa e.entries[k].untl)) = bz (accE e (k + 1)) := by
  rw [accE_succ h]
  apply ByteArray.ext; simp [bz, ByteArray.data_append, entB, jnB]
set_option maxRecDepth 100000 in
theorem entriesText_f (e : Element) (v : Value) (F FT : List Nat) (hg0 : goodElement e = true) : Fn Tryz.prog 85 [v] [.isv EElement v e F, EnvP FT] [] (fun (_ : Unit) => True) (fun _ => .string (elT e)) (fun _ => []) := by
  have hc := goodC hg0
  have hr5 := (good_room hg0).2.1
  refine enter Tryz.func85 rfl Tryz.ntmps85 fun w0 => ?_
  refine openElement ?_
  rintro a1 c1 F1 rfl l1
  refine go ?_; intros
  refine cb (fun w st => itoa_c e.clock (by omega) (by omega) FT w (st.get (p := EnvP FT) (by simp))) ?_
  rw [show bz (Lib.itoa e.clock) = bz (accE e 0) by unfold accE tailE jnS; simp]
  refine go ?_; intros
  refine c_loopR [2, 10, 11] (fun k : Nat => [(3, .string (bz (accE e k))), (12, .int .i64 (k : Nat))]) (fun k => k ≤ e.entries.length) (fun k => e.entries.length - k) 0 (Nat.zero_le _) fun k hk0 => ?_
  have hs := accE_size hg0 k
  refine go ?_; intros
  refine c_if rfl (fun h1 => ?_) (fun h1 => ?_)
  · have hk : k < e.entries.length := by omega
    have hg := goodX hg0 (List.getElem_mem hk)
    have g0 := hg.n0
    have g1 := hg.n1
    have g2 := hg.u0
    have g3 := hg.u1
    have z1 : (bz (Lib.itoa e.entries[k].number)).size ≤ 5 := by rw [bz_size]; exact itoa_len (k := 4) g0 (by omega)
    have z2 : (bz (Lib.itoa e.entries[k].untl)).size ≤ 5 := by rw [bz_size]; exact itoa_len (k := 4) (by omega) (by omega)
    have z3 : (bz (facB e.entries[k].faces)).size ≤ 7 := by rw [bz_size, (facB_back hg.f).2.2]; exact hg.l
    have ql0 : (⟨#[59, 32]⟩ : ByteArray).size = 2 := rfl
    have ql2 : (⟨#[32, 102, 111, 114, 32]⟩ : ByteArray).size = 5 := rfl
    have ql4 : (⟨#[32, 117, 110, 116, 105, 108, 32]⟩ : ByteArray).size = 7 := rfl
    have q0 : (⟨#[59, 32]⟩ ++ bz (Lib.itoa e.entries[k].number)).size = _ := ByteArray.size_append
    have q1 : (⟨#[59, 32]⟩ ++ bz (Lib.itoa e.entries[k].number) ++ ⟨#[32, 102, 111, 114, 32]⟩).size = _ := ByteArray.size_append
    have q2 : (⟨#[59, 32]⟩ ++ bz (Lib.itoa e.entries[k].number) ++ ⟨#[32, 102, 111, 114, 32]⟩ ++ bz (facB e.entries[k].faces)).size = _ := ByteArray.size_append
    have q3 : (⟨#[59, 32]⟩ ++ bz (Lib.itoa e.entries[k].number) ++ ⟨#[32, 102, 111, 114, 32]⟩ ++ bz (facB e.entries[k].faces) ++ ⟨#[32, 117, 110, 116, 105, 108, 32]⟩).size = _ := ByteArray.size_append
    have q4 : (⟨#[59, 32]⟩ ++ bz (Lib.itoa e.entries[k].number) ++ ⟨#[32, 102, 111, 114, 32]⟩ ++ bz (facB e.entries[k].faces) ++ ⟨#[32, 117, 110, 116, 105, 108, 32]⟩ ++ bz (Lib.itoa e.entries[k].untl)).size = _ := ByteArray.size_append
    have qz : (bz (accE e k) ++ (⟨#[59, 32]⟩ ++ bz (Lib.itoa e.entries[k].number) ++ ⟨#[32, 102, 111, 114, 32]⟩ ++ bz (facB e.entries[k].faces) ++ ⟨#[32, 117, 110, 116, 105, 108, 32]⟩ ++ bz (Lib.itoa e.entries[k].untl))).size = _ := ByteArray.size_append
    refine atEntry (xs := e.entries) k ?_
    rintro hi b o a3 c3 F3 e1 l3
    rw [e1]
    refine go ?_; intros
    refine d_start [0] [] ?_
    refine dt 0 ?_
    refine dt 1 ?_
    refine dt 2 ?_
    refine dt 6 ?_
    refine dt 7 ?_
    refine dt 11 ?_
    refine dt 12 ?_
    refine dO 3 (by kernel_rfl) (by rw [List.getElem?_toArray]; rfl) ?_
    apply o_call; rfl; kernel_rfl; exact evsE
    refine cb (fun w st => itoa_c e.entries[k].number (by omega) (by omega) FT w (st.get (p := EnvP FT) (by simp))) ?_
    refine dk ?_
    refine dt 4 ?_
    refine dt 5 ?_
    refine dO 8 (by kernel_rfl) (by rw [List.getElem?_toArray]; rfl) ?_
    apply o_call; rfl; kernel_rfl; exact evsE
    refine cb (fun w st => (joinInts_f e.entries[k].faces a3 c3 F3 FT hg.f hg.p hg.l).val w (hol2 (st.get (p := .sl EInt (.slice a3 e.entries[k].faces.length c3) e.entries[k].faces F3) (by simp)) (st.get (p := EnvP FT) (by simp)))) ?_
    refine dk ?_
    refine dt 9 ?_
    refine dt 10 ?_
    refine dO 13 (by kernel_rfl) (by rw [List.getElem?_toArray]; rfl) ?_
    apply o_call; rfl; kernel_rfl; exact evsE
    refine cb (fun w st => itoa_c e.entries[k].untl (by omega) (by omega) FT w (st.get (p := EnvP FT) (by simp))) ?_
    refine dk ?_
    refine dt 14 ?_
    refine dt 15 ?_
    refine dt 16 ?_
    refine dd ?_
    refine go ?_; intros
    rw [accE_I hk]
    refine n_lp (k + 1) hk (by show e.entries.length - (k + 1) < e.entries.length - k; omega)
  · have hk : k = e.entries.length := by omega
    rw [show bz (accE e k) = elT e by unfold accE elT elB; rw [hk, List.take_length]]
    refine go ?_; intros
    refine ret () trivial rfl
theorem EntriesText_f (e : Element) (v : Value) (F FT : List Nat) : Fn Tryz.prog 12 [v] [.isv EElement v e F, EnvP FT] [] (fun (_ : Unit) => True) (fun _ => .tuple #[.string (resET e).1, .bool (resET e).2]) (fun _ => []) := by
  refine enter Tryz.func12 rfl Tryz.ntmps12 fun w0 => ?_
  refine openElement ?_
  rintro a1 c1 F1 rfl l1
  refine go ?_; intros
  refine cb (fun w st => IsValidElement_c _ e F w (st.get (p := .isv EElement (.agg #[.int .i64 e.clock, .slice a1 e.entries.length c1]) e F) (by simp))) ?_
  cases g : goodElement e
  · rw [show resET e = (⟨#[]⟩, false) by unfold resET; rw [g]; rfl]
    refine go ?_; intros
    refine ret () trivial rfl
  rw [show resET e = (elT e, true) by unfold resET; rw [g]; rfl]
  refine go ?_; intros
  refine cb (fun w st => (entriesText_f e _ F FT g).val w (hol2 (st.get (p := .isv EElement (.agg #[.int .i64 e.clock, .slice a1 e.entries.length c1]) e F) (by simp)) (st.get (p := EnvP FT) (by simp)))) ?_
  refine go ?_; intros
  refine ret () trivial rfl

set_option maxRecDepth 100000 in
theorem l14Text_f (e : Element) (v : Value) (F FT : List Nat) (hg0 : goodElement e = true) : Fn Tryz.prog 90 [v] [.isv EElement v e F, EnvP FT] [] (fun (_ : Unit) => True) (fun _ => .string (elT e)) (fun _ => []) := by
  have hc := goodC hg0
  have hr5 := (good_room hg0).2.1
  refine enter Tryz.func90 rfl Tryz.ntmps90 fun w0 => ?_
  refine openElement ?_
  rintro a1 c1 F1 rfl l1
  refine go ?_; intros
  refine cb (fun w st => numI_c e.clock (by omega) (by omega) w) ?_
  rw [show bz (Lib.itoa e.clock) = bz (accE e 0) by unfold accE tailE jnS; simp]
  refine go ?_; intros
  refine c_loopR [1, 2] (fun k : Nat => [(3, .string (bz (accE e k))), (4, .int .i64 (k : Nat))]) (fun k => k ≤ e.entries.length) (fun k => e.entries.length - k) 0 (Nat.zero_le _) fun k hk0 => ?_
  have hs := accE_size hg0 k
  refine go ?_; intros
  refine c_if rfl (fun h1 => ?_) (fun h1 => ?_)
  · have hk : k < e.entries.length := by omega
    have hg := goodX hg0 (List.getElem_mem hk)
    have g0 := hg.n0
    have g1 := hg.n1
    have g2 := hg.u0
    have g3 := hg.u1
    have z1 : (bz (Lib.itoa e.entries[k].number)).size ≤ 5 := by rw [bz_size]; exact itoa_len (k := 4) g0 (by omega)
    have z2 : (bz (Lib.itoa e.entries[k].untl)).size ≤ 5 := by rw [bz_size]; exact itoa_len (k := 4) (by omega) (by omega)
    have z3 : (bz (facB e.entries[k].faces)).size ≤ 7 := by rw [bz_size, (facB_back hg.f).2.2]; exact hg.l
    have ql1 : (⟨#[59, 32]⟩ : ByteArray).size = 2 := rfl
    have ql3 : (⟨#[32, 102, 111, 114, 32]⟩ : ByteArray).size = 5 := rfl
    have ql5 : (⟨#[32, 117, 110, 116, 105, 108, 32]⟩ : ByteArray).size = 7 := rfl
    have q0 : (bz (accE e k) ++ ⟨#[59, 32]⟩).size = _ := ByteArray.size_append
    have q1 : (bz (accE e k) ++ ⟨#[59, 32]⟩ ++ bz (Lib.itoa e.entries[k].number)).size = _ := ByteArray.size_append
    have q2 : (bz (accE e k) ++ ⟨#[59, 32]⟩ ++ bz (Lib.itoa e.entries[k].number) ++ ⟨#[32, 102, 111, 114, 32]⟩).size = _ := ByteArray.size_append
    have q3 : (bz (accE e k) ++ ⟨#[59, 32]⟩ ++ bz (Lib.itoa e.entries[k].number) ++ ⟨#[32, 102, 111, 114, 32]⟩ ++ bz (facB e.entries[k].faces)).size = _ := ByteArray.size_append
    have q4 : (bz (accE e k) ++ ⟨#[59, 32]⟩ ++ bz (Lib.itoa e.entries[k].number) ++ ⟨#[32, 102, 111, 114, 32]⟩ ++ bz (facB e.entries[k].faces) ++ ⟨#[32, 117, 110, 116, 105, 108, 32]⟩).size = _ := ByteArray.size_append
    have q5 : (bz (accE e k) ++ ⟨#[59, 32]⟩ ++ bz (Lib.itoa e.entries[k].number) ++ ⟨#[32, 102, 111, 114, 32]⟩ ++ bz (facB e.entries[k].faces) ++ ⟨#[32, 117, 110, 116, 105, 108, 32]⟩ ++ bz (Lib.itoa e.entries[k].untl)).size = _ := ByteArray.size_append
    refine atEntry (xs := e.entries) k ?_
    rintro hi b o a3 c3 F3 e1 l3
    rw [e1]
    refine go ?_; intros
    refine cb (fun w st => numI_c e.entries[k].number (by omega) (by omega) w) ?_
    refine go ?_; intros
    rw [show bz (accE e k) ++ ⟨#[59, 32]⟩ ++ bz (Lib.itoa e.entries[k].number) ++ ⟨#[32, 102, 111, 114, 32]⟩ = bz (accE e k) ++ ⟨#[59, 32]⟩ ++ bz (Lib.itoa e.entries[k].number) ++ ⟨#[32, 102, 111, 114, 32]⟩ ++ bz (facB (e.entries[k].faces.take 0)) by apply ByteArray.ext; simp [bz, ByteArray.data_append, facB]]
    refine c_loopR [1, 2, 4, 9, 10, 11, 12, 13, 16, 17, 18, 19, 20, 21, 22, 23, 24, 25, 26] (fun j : Nat => [(3, .string (bz (accE e k) ++ ⟨#[59, 32]⟩ ++ bz (Lib.itoa e.entries[k].number) ++ ⟨#[32, 102, 111, 114, 32]⟩ ++ bz (facB (e.entries[k].faces.take j)))), (5, .int .i64 (j : Nat))]) (fun j => j ≤ e.entries[k].faces.length) (fun j => e.entries[k].faces.length - j) 0 (Nat.zero_le _) fun j hj0 => ?_
    have zj : (bz (facB (e.entries[k].faces.take j))).size ≤ 7 := by
      rw [bz_size, (facB_back fun f hf => hg.f f (List.mem_of_mem_take hf)).2.2, List.length_take]; have := hg.l; omega
    have qj : (bz (accE e k) ++ ⟨#[59, 32]⟩ ++ bz (Lib.itoa e.entries[k].number) ++ ⟨#[32, 102, 111, 114, 32]⟩ ++ bz (facB (e.entries[k].faces.take j))).size = _ := ByteArray.size_append
    refine go ?_; intros
    refine c_if rfl (fun h2 => ?_) (fun h2 => ?_)
    · have hj : j < e.entries[k].faces.length := by omega
      have hl7 := hg.l
      have hfj := hg.f _ (List.getElem_mem hj)
      have zf : (bz (Lib.itoa e.entries[k].faces[j])).size ≤ 1 := by rw [bz_size]; exact itoa_len (k := 0) (by omega) (by omega)
      have qf : (bz (accE e k) ++ ⟨#[59, 32]⟩ ++ bz (Lib.itoa e.entries[k].number) ++ ⟨#[32, 102, 111, 114, 32]⟩ ++ bz (facB (e.entries[k].faces.take j)) ++ bz (Lib.itoa e.entries[k].faces[j])).size = _ := ByteArray.size_append
      refine at_int (xs := e.entries[k].faces) j ?_
      rintro hi5 b5 o5 e5
      rw [e5]
      refine go ?_; intros
      refine cb (fun w st => numI_c e.entries[k].faces[j] (by omega) (by omega) w) ?_
      refine go ?_; intros
      rw [show bz (accE e k) ++ ⟨#[59, 32]⟩ ++ bz (Lib.itoa e.entries[k].number) ++ ⟨#[32, 102, 111, 114, 32]⟩ ++ bz (facB (e.entries[k].faces.take j)) ++ bz (Lib.itoa e.entries[k].faces[j]) = bz (accE e k) ++ ⟨#[59, 32]⟩ ++ bz (Lib.itoa e.entries[k].number) ++ ⟨#[32, 102, 111, 114, 32]⟩ ++ bz (facB (e.entries[k].faces.take (j + 1))) by rw [List.take_succ_eq_append_getElem hj]; apply ByteArray.ext; unfold facB; rw [List.map_append, List.flatten_append]; simp only [bz, ByteArray.data_append, List.map_cons, List.map_nil, List.flatten_cons, List.flatten_nil, List.append_nil]; simp]
      refine n_lp (j + 1) hj (by omega)
    · have hj : e.entries[k].faces.take j = e.entries[k].faces := List.take_of_length_le (by omega)
      rw [hj] at qj ⊢
      refine go ?_; intros
      refine cb (fun w st => numI_c e.entries[k].untl (by omega) (by omega) w) ?_
      refine go ?_; intros
      rw [show bz (accE e k) ++ ⟨#[59, 32]⟩ ++ bz (Lib.itoa e.entries[k].number) ++ ⟨#[32, 102, 111, 114, 32]⟩ ++ bz (facB e.entries[k].faces) ++ ⟨#[32, 117, 110, 116, 105, 108, 32]⟩ ++ bz (Lib.itoa e.entries[k].untl) = bz (accE e (k + 1)) by rw [← accE_I hk]; apply ByteArray.ext; simp [ByteArray.data_append]]
      refine n_lp (k + 1) hk (by show e.entries.length - (k + 1) < e.entries.length - k; omega)
  · have hk : k = e.entries.length := by omega
    rw [show bz (accE e k) = elT e by unfold accE elT elB; rw [hk, List.take_length]]
    refine go ?_; intros
    refine ret () trivial rfl
theorem specEntriesText_f (e : Element) (v : Value) (F FT : List Nat) : Fn Tryz.prog 14 [v] [.isv EElement v e F, EnvP FT] [] (fun (_ : Unit) => True) (fun _ => .tuple #[.string (resET e).1, .bool (resET e).2]) (fun _ => []) := by
  refine enter Tryz.func14 rfl Tryz.ntmps14 fun w0 => ?_
  refine openElement ?_
  rintro a1 c1 F1 rfl l1
  refine go ?_; intros
  refine cb (fun w st => l14Good_c _ e F w (st.get (p := .isv EElement (.agg #[.int .i64 e.clock, .slice a1 e.entries.length c1]) e F) (by simp))) ?_
  cases g : goodElement e
  · rw [show resET e = (⟨#[]⟩, false) by unfold resET; rw [g]; rfl]
    refine go ?_; intros
    refine ret () trivial rfl
  rw [show resET e = (elT e, true) by unfold resET; rw [g]; rfl]
  refine go ?_; intros
  refine cb (fun w st => (l14Text_f e _ F FT g).val w (hol2 (st.get (p := .isv EElement (.agg #[.int .i64 e.clock, .slice a1 e.entries.length c1]) e F) (by simp)) (st.get (p := EnvP FT) (by simp)))) ?_
  refine go ?_; intros
  refine ret () trivial rfl
end Go.Proofs.YtgogcgkocjpgoaaGreatDoor
/- Elements read out of texts: numbers, one entry. -/
namespace Go.Proofs.YtgogcgkocjpgoaaGreatDoor
open Go.RowKit
def okPIs (ts : List ByteArray) : Bool := ts.all fun t => (resPI t).2
def valPIs (ts : List ByteArray) : List Int := ts.map fun t => (resPI t).1
def resPIs (ts : List ByteArray) : List Int × Bool := if okPIs ts then (valPIs ts, true) else ([], false)
theorem okPIs_no {ts : List ByteArray} {k : Nat} (h : k < ts.length) (hp : (resPI ts[k]).2 = false) : okPIs ts = false := by
  unfold okPIs
  rw [List.all_eq_false]
  exact ⟨ts[k], List.getElem_mem h, by simp [hp]⟩
theorem okPIs_take {ts : List ByteArray} {k : Nat} (h : k < ts.length) (hp : (resPI ts[k]).2 = true) (ha : okPIs (ts.take k) = true) : okPIs (ts.take (k + 1)) = true := by
  unfold okPIs at *
  rw [List.take_succ_eq_append_getElem h, List.all_append, ha]
  simp [hp]
theorem valPIs_take {ts : List ByteArray} {k : Nat} (h : k < ts.length) : valPIs (ts.take (k + 1)) = valPIs (ts.take k) ++ [(resPI ts[k]).1] := by
  unfold valPIs
  rw [List.take_succ_eq_append_getElem h, List.map_append]; rfl
structure PeZ where
  k : Nat
  a : Option Addr
  c : Nat
  F : List Nat
set_option maxRecDepth 100000 in
theorem parseInts_f (ts : List ByteArray) (a : Option Addr) (c : Nat) (F FT : List Nat) (hs : ∀ t ∈ ts, t.size ≤ 1000000000) (hl : ts.length ≤ 1000) : Fn Tryz.prog 175 [.slice a ts.length c] [.sl EStr (.slice a ts.length c) ts F, EnvP FT] [] (fun (_ : PeZ) => True) (fun z => .tuple #[.slice z.a (resPIs ts).1.length z.c, .bool (resPIs ts).2]) (fun z => [.ow EInt 3 (.slice z.a (resPIs ts).1.length z.c) (resPIs ts).1 z.F]) := by
  refine enter Tryz.func175 rfl Tryz.ntmps175 fun w0 => ?_
  refine go ?_; intros
  refine t_nilow EInt 3 ?_
  refine c_loopS [2, 3, 9, 10] (fun z : PeZ => [(4, .slice z.a (valPIs (ts.take z.k)).length z.c), (11, .int .i64 (z.k : Nat))]) (fun z => [.ow EInt 3 (.slice z.a (valPIs (ts.take z.k)).length z.c) (valPIs (ts.take z.k)) z.F]) (fun z => z.k ≤ ts.length ∧ okPIs (ts.take z.k) = true) (fun z => ts.length - z.k) ⟨0, none, 0, []⟩ ⟨Nat.zero_le _, rfl⟩ fun z hz => ?_
  obtain ⟨z2, z3⟩ := hz
  have hvl : (valPIs (ts.take z.k)).length = z.k := by unfold valPIs; rw [List.length_map, List.length_take]; omega
  refine go ?_; intros
  refine c_if rfl (fun h1 => ?_) (fun h1 => ?_)
  · have hk : z.k < ts.length := by omega
    have hx := hs _ (List.getElem_mem hk)
    refine at_str (a := a) (xs := ts) z.k ?_
    rintro hi b o e s1
    rw [e]
    refine go ?_; intros
    refine cb (fun w st => (ParseInt_f ts[z.k] FT hx).val w (hol1 (st.get (p := EnvP FT) (by simp)))) ?_
    cases g : (resPI ts[z.k]).2
    · rw [show resPIs ts = ([], false) by unfold resPIs; rw [okPIs_no hk g]; rfl]
      refine t_nilow EInt 3 ?_
      refine go ?_; intros
      refine ret ⟨0, none, 0, []⟩ trivial rfl
    refine goN ?_; intros
    apply wO
    refine ap1 (rep_i (resPI ts[z.k]).1) one_EInt fun a9 c9 F9 => ?_
    refine go ?_; intros
    rw [← valPIs_take hk]
    refine n_lp ⟨z.k + 1, a9, c9, F9⟩ ⟨by show z.k + 1 ≤ ts.length; omega, okPIs_take hk g z3⟩ (by show ts.length - (z.k + 1) < ts.length - z.k; omega)
  · have hk : ts.take z.k = ts := List.take_of_length_le (by omega)
    rw [hk] at z3 hvl ⊢
    rw [show resPIs ts = (valPIs ts, true) by unfold resPIs; rw [z3]; rfl]
    refine go ?_; intros
    refine ret z trivial rfl
theorem five_of {ws : List Bs} (h : ws.length = 5) : ∃ x0 x1 x2 x3 x4, ws = [x0, x1, x2, x3, x4] := by
  match ws, h with
  | [x0, x1, x2, x3, x4], _ => exact ⟨x0, x1, x2, x3, x4, rfl⟩
theorem peI_no {t : Bs} (h : ¬ (splitL 32 t).length = 5) : peI t = (⟨0, [], 0⟩, false) := by
  unfold peI
  simp only [decide_eq_false h]; rfl
theorem peI_five {t : Bs} {x0 x1 x2 x3 x4 : Bs} (h : splitL 32 t = [x0, x1, x2, x3, x4]) : peI t = if (resPI (bz x0)).2 && (resPI (bz x4)).2 then (⟨(resPI (bz x0)).1, fcB x2, (resPI (bz x4)).1⟩, true) else (⟨0, [], 0⟩, false) := by
  unfold peI
  rw [h]; rfl
theorem fcB_take {x : Bs} {k : Nat} (h : k < x.length) : fcB (x.take k) ++ [((x[k].toNat : Nat) : Int) - 48] = fcB (x.take (k + 1)) := by
  unfold fcB
  rw [List.take_succ_eq_append_getElem h, List.map_append]; rfl
theorem words_len (t : Bs) : (splitL 32 t).length ≤ t.length + 1 ∧ ∀ u ∈ splitL 32 t, u.length ≤ t.length := by
  have hcb := Lib.countB_le ⟨#[32]⟩ (by decide) (bz t).size (bz t) (Nat.le_refl _)
  have hlen := Lib.splitB_all ⟨#[32]⟩ (by decide) 0 _ (bz t) rfl
  rw [splitS_L, bz_list, List.length_map] at hlen
  rw [bz_size] at hcb
  refine ⟨by omega, fun u hu => ?_⟩
  have h : bz u ∈ (splitL 32 t).map bz := List.mem_map.2 ⟨u, hu, rfl⟩
  have e := splitS_L 32 (bz t)
  rw [bz_list] at e
  rw [← e] at h
  have := splitB_small ⟨#[32]⟩ (bz t).size _ (bz t) (Nat.le_refl _) (bz u) h
  rw [bz_size, bz_size] at this; exact this
set_option maxRecDepth 100000 in
theorem parseEntry_f (t : Bs) (FT : List Nat) (ht : t.length ≤ 10000000) : Fn Tryz.prog 88 [.string (bz t)] [EnvP FT] [] (fun (_ : PeZ) => True) (fun z => .tuple #[.agg #[.int .i64 ((peI t).1).number, .slice z.a ((peI t).1).faces.length z.c, .int .i64 ((peI t).1).untl], .bool (peI t).2]) (fun z => [.own OEntry (.agg #[.int .i64 ((peI t).1).number, .slice z.a ((peI t).1).faces.length z.c, .int .i64 ((peI t).1).untl]) (peI t).1 z.F]) := by
  obtain ⟨hwl, hws⟩ := words_len t
  refine enter Tryz.func88 rfl Tryz.ntmps88 fun w0 => ?_
  refine go ?_; intros
  refine cn (fun w st => split_c (bz t) ⟨#[32]⟩ (by rw [bz_size]; omega) (by decide) FT w (st.get (p := EnvP FT) (by simp))) fun a0 c0 F0 => ?_
  rw [show Lib.splitB ⟨#[32]⟩ 0 (Lib.countB (bz t) ⟨#[32]⟩) (bz t) = (splitL 32 t).map bz by rw [splitS_L, bz_list]]
  refine t_read (E := EStr) fun F1 => ?_
  have hml : ((splitL 32 t).map bz).length = (splitL 32 t).length := List.length_map ..
  refine go ?_; intros
  refine c_if rfl (fun h5 => ?_) (fun h5 => ?_)
  · rw [peI_no (by omega)]
    refine t_nilow EInt 3 ?_
    refine go ?_; intros
    refine closeOEntry ⟨0, [], 0⟩ ?_
    refine ret (⟨0, none, 0, []⟩ : PeZ) trivial rfl
  obtain ⟨x0, x1, x2, x3, x4, hw5⟩ := five_of (ws := splitL 32 t) (by omega)
  have hp5 := peI_five hw5
  rw [hw5] at hws
  have y0 : (bz x0).size ≤ 10000000 := by have := hws x0 (by simp); rw [bz_size]; omega
  have y2 : (bz x2).size ≤ 10000000 := by have := hws x2 (by simp); rw [bz_size]; omega
  have y4 : (bz x4).size ≤ 10000000 := by have := hws x4 (by simp); rw [bz_size]; omega
  have hsz2 : ∀ t ∈ [bz x0, bz x4], t.size ≤ 1000000000 := by
    intro t ht
    simp only [List.mem_cons, List.not_mem_nil, or_false] at ht
    rcases ht with rfl | rfl <;> omega
  have hq2 : resPIs [bz x0, bz x4] = if (resPI (bz x0)).2 && (resPI (bz x4)).2 then ([(resPI (bz x0)).1, (resPI (bz x4)).1], true) else ([], false) := by
    unfold resPIs okPIs valPIs
    simp
  rw [hw5, show [x0, x1, x2, x3, x4].map bz = [bz x0, bz x1, bz x2, bz x3, bz x4] from rfl]
  refine goN ?_; intros
  refine at_str (a := a0) (xs := [bz x0, bz x1, bz x2, bz x3, bz x4]) 2 ?_ (hi := by simp)
  rintro hi2 b o e2 -
  rw [e2]
  refine at_str (a := some ⟨b, o, none⟩) (xs := [bz x0, bz x1, bz x2, bz x3, bz x4]) 0 ?_ (hi := by simp)
  rintro hi0 _ _ e0 -
  cases e0
  refine at_str (a := some ⟨b, o, none⟩) (xs := [bz x0, bz x1, bz x2, bz x3, bz x4]) 4 ?_ (hi := by simp)
  rintro hi4 _ _ e4 -
  cases e4
  simp only [List.getElem_cons_zero, List.getElem_cons_succ]
  refine d_start [0, 1] [] ?_
  refine dt 0 ?_
  refine dt 1 ?_
  refine dt 2 ?_
  refine dt 3 ?_
  refine dt 4 ?_
  refine dt 5 ?_
  refine dO 6 (by kernel_rfl) (by rw [List.getElem?_toArray]; rfl) ?_
  apply o_bs; rfl; rfl; rfl; rfl; exact rptE; exact filE; intro _
  refine t_row (E := EStr) (xs := [bz x0, bz x4]) (rep_s2 (by unfold maxLen; omega) (by unfold maxLen; omega)) ?_ (by simp)
  refine t_read (E := EStr) (xs := [bz x0, bz x4]) fun F2 => ?_
  refine dk ?_
  refine dO 7 (by kernel_rfl) (by rw [List.getElem?_toArray]; rfl) ?_
  apply o_call; rfl; kernel_rfl; exact evsE
  refine cf (parseInts_f [bz x0, bz x4] _ _ F2 FT hsz2 (by simp)) fun q _ => ?_
  refine t_app ?_
  refine dk ?_
  refine dt 8 ?_
  refine dt 9 ?_
  refine dt 10 ?_
  refine dt 11 ?_
  refine dt 12 ?_
  refine dd ?_
  cases g : (resPI (bz x0)).2 && (resPI (bz x4)).2
  · rw [show peI t = (⟨0, [], 0⟩, false) by rw [hp5, g]; rfl, show resPIs [bz x0, bz x4] = ([], false) by rw [hq2, g]; rfl]
    refine t_nilow EInt 3 ?_
    refine go ?_; intros
    refine closeOEntry ⟨0, [], 0⟩ ?_
    refine ret (⟨0, none, 0, []⟩ : PeZ) trivial rfl
  rw [show peI t = (⟨(resPI (bz x0)).1, fcB x2, (resPI (bz x4)).1⟩, true) by rw [hp5, g]; rfl, show resPIs [bz x0, bz x4] = ([(resPI (bz x0)).1, (resPI (bz x4)).1], true) by rw [hq2, g]; rfl]
  refine go ?_; intros
  refine t_read (E := EInt) (xs := [(resPI (bz x0)).1, (resPI (bz x4)).1]) fun F3 => ?_
  refine at_int (a := q.a) (xs := [(resPI (bz x0)).1, (resPI (bz x4)).1]) 0 ?_ (hi := by simp)
  rintro hj0 b7 o7 e7
  rw [e7]
  refine at_int (a := some ⟨b7, o7, none⟩) (xs := [(resPI (bz x0)).1, (resPI (bz x4)).1]) 1 ?_ (hi := by simp)
  rintro hj1 _ _ e8
  cases e8
  simp only [List.getElem_cons_zero, List.getElem_cons_succ]
  refine d_start [0, 1] [] ?_
  refine dt 0 ?_
  refine dt 1 ?_
  refine dt 2 ?_
  refine dt 3 ?_
  refine dt 4 ?_
  refine dt 5 ?_
  refine dt 6 ?_
  refine dO 7 (by kernel_rfl) (by rw [List.getElem?_toArray]; rfl) ?_
  apply o_alloc; rfl; intro _
  refine dk ?_
  refine dO 8 (by kernel_rfl) (by rw [List.getElem?_toArray]; rfl) ?_
  apply o_st; rfl; rfl; rfl; (first | exact AggC.s | exact OneC.s); rfl; exact rplE; exact putE; rfl
  refine dk ?_
  refine dd ?_
  rename_i g7
  refine go ?_; intros
  refine t_nilow EInt 3 ?_
  refine c_loopS [2, 3, 4, 7, 39] (fun z : PeZ => [(40, .int .i64 (z.k : Nat))]) (fun z => [.row g7 115 0 [] [.int .i64 (resPI (bz x0)).1, .slice z.a (fcB (x2.take z.k)).length z.c, .int .i64 (resPI (bz x4)).1] [], .ow EInt 3 (.slice z.a (fcB (x2.take z.k)).length z.c) (fcB (x2.take z.k)) z.F]) (fun z => z.k ≤ x2.length) (fun z => x2.length - z.k) ⟨0, none, 0, []⟩ (Nat.zero_le _) fun z hz => ?_
  have hfl : (fcB (x2.take z.k)).length = z.k := by unfold fcB; rw [List.length_map, List.length_take]; omega
  have hbz : (bz x2).size = x2.length := bz_size x2
  refine go ?_; intros
  refine c_if rfl (fun h1 => ?_) (fun h1 => ?_)
  · have hk : z.k < x2.length := by omega
    have hfk := fcB_take hk
    have hb8 := x2[z.k].toNat_lt
    have hix : ((bz x2)[((z.k : Nat) : Int).toNat]'(by show z.k < (bz x2).size; omega)).toNat = x2[z.k].toNat := rfl
    refine goN ?_; intros
    refine d_start [0, 8] [12] ?_
    refine dt 0 ?_
    refine dt 1 ?_
    refine dt 2 ?_
    refine dt 3 ?_
    refine dt 4 ?_
    refine dt 5 ?_
    refine dt 6 ?_
    rw [hix]
    refine dt 7 ?_
    refine dt 8 ?_
    refine dO 9 (by kernel_rfl) (by rw [List.getElem?_toArray]; rfl) ?_
    apply o_bs; rfl; rfl; rfl; rfl; exact rptE; exact filE; intro _
    skip
    refine dk ?_
    refine dO 10 (by kernel_rfl) (by rw [List.getElem?_toArray]; rfl) ?_
    refine ap1 (rep_i _) one_EInt fun a9 c9 F9 => ?_
    refine dk ?_
    refine dt 11 ?_
    refine dO 12 (by kernel_rfl) (by rw [List.getElem?_toArray]; rfl) ?_
    apply o_st; rfl; rfl; rfl; (first | exact AggC.s | exact OneC.s); rfl; exact rplE; exact putE; rfl
    refine dkx ?_
    refine dd ?_
    refine go ?_; intros
    rw [hfk]
    refine n_lp ⟨z.k + 1, a9, c9, F9⟩ hk (by show x2.length - (z.k + 1) < x2.length - z.k; omega)
  · have hk : x2.take z.k = x2 := List.take_of_length_le (by omega)
    rw [hk] at hfl ⊢
    refine go ?_; intros
    refine closeOEntry ⟨(resPI (bz x0)).1, fcB x2, (resPI (bz x4)).1⟩ ?_
    refine ret z trivial rfl
end Go.Proofs.YtgogcgkocjpgoaaGreatDoor
/- Elements read out of texts: the program. -/
namespace Go.Proofs.YtgogcgkocjpgoaaGreatDoor
open Go.RowKit
theorem ptI_bz (s : ByteArray) : Lib.splitB ⟨#[59, 32]⟩ 0 (Lib.countB s ⟨#[59, 32]⟩) s = (ptI s).map bz := by
  unfold ptI
  rw [List.map_map]
  have : ∀ t ∈ Lib.splitB ⟨#[59, 32]⟩ 0 (Lib.countB s ⟨#[59, 32]⟩) s, (bz ∘ fun t => t.data.toList) t = id t := fun t _ => bz_of t
  rw [List.map_congr_left this, List.map_id]
theorem ptI_small (s : ByteArray) : ∀ t ∈ ptI s, t.length ≤ s.size := by
  intro t ht
  unfold ptI at ht
  obtain ⟨u, h, rfl⟩ := List.mem_map.1 ht
  have := splitB_small ⟨#[59, 32]⟩ s.size _ s (Nat.le_refl _) u h
  rw [size_list]; omega
theorem ptI_len (s : ByteArray) : 1 ≤ (ptI s).length ∧ (ptI s).length ≤ s.size + 1 := by
  have hcb := Lib.countB_le ⟨#[59, 32]⟩ (by decide) s.size s (Nat.le_refl _)
  have hlen := Lib.splitB_all ⟨#[59, 32]⟩ (by decide) 0 _ s rfl
  unfold ptI
  rw [List.length_map, hlen]; omega
theorem ptI_cons (s : ByteArray) : ∃ p0 ps, ptI s = p0 :: ps := by
  have := (ptI_len s).1
  cases h : ptI s with
  | nil => rw [h] at this; exact absurd this (by decide)
  | cons p0 ps => exact ⟨p0, ps, rfl⟩
theorem elI_cons {s : ByteArray} {p0 : Bs} {ps : List Bs} (h : ptI s = p0 :: ps) : elI s = ⟨(resPI (bz p0)).1, (ps.map fun t => (peI t).1)⟩ ∧ okPEI s = ((resPI (bz p0)).2 && ps.all (fun t => (peI t).2) && goodElement (elI s) && decide (elT (elI s) = s)) := by
  constructor
  · unfold elI; rw [h]; rfl
  · unfold okPEI; rw [h]; rfl
theorem peAll_no {ps : List Bs} {k : Nat} (h : k < ps.length) (hp : (peI ps[k]).2 = false) : ps.all (fun t => (peI t).2) = false := by
  rw [List.all_eq_false]
  exact ⟨ps[k], List.getElem_mem h, by simp [hp]⟩
theorem peAll_take {ps : List Bs} {k : Nat} (h : k < ps.length) (hp : (peI ps[k]).2 = true) (ha : (ps.take k).all (fun t => (peI t).2) = true) : (ps.take (k + 1)).all (fun t => (peI t).2) = true := by
  rw [List.take_succ_eq_append_getElem h, List.all_append, ha]
  simp [hp]
theorem peVal_take {ps : List Bs} {k : Nat} (h : k < ps.length) : (ps.take (k + 1)).map (fun t => (peI t).1) = (ps.take k).map (fun t => (peI t).1) ++ [(peI ps[k]).1] := by
  rw [List.take_succ_eq_append_getElem h, List.map_append]; rfl
theorem resPE_no {s : ByteArray} (h : okPEI s = false) : resPE s = (⟨0, []⟩, false) := by unfold resPE; rw [h]; rfl
theorem resPE_yes {s : ByteArray} (h : okPEI s = true) : resPE s = (elI s, true) := by unfold resPE; rw [h]; rfl
set_option maxRecDepth 100000 in
theorem ParseEntries_f (s : ByteArray) (FT : List Nat) (hs : s.size ≤ 1000000) : Fn Tryz.prog 13 [.string s] [EnvP FT] [] (fun (_ : PeZ) => True) (fun z => .tuple #[.agg #[.int .i64 ((resPE s).1).clock, .slice z.a ((resPE s).1).entries.length z.c], .bool (resPE s).2]) (fun z => [.own OElement (.agg #[.int .i64 ((resPE s).1).clock, .slice z.a ((resPE s).1).entries.length z.c]) (resPE s).1 z.F]) := by
  have hpl := ptI_len s
  have hps := ptI_small s
  obtain ⟨p0, ps, hp⟩ := ptI_cons s
  obtain ⟨he, hok⟩ := elI_cons hp
  rw [hp] at hpl hps
  simp only [List.length_cons] at hpl
  have h0 : (bz p0).size ≤ 1000000 := by have := hps p0 (by simp); rw [bz_size]; omega
  refine enter Tryz.func13 rfl Tryz.ntmps13 fun w0 => ?_
  refine go ?_; intros
  refine cn (fun w st => split_c s ⟨#[59, 32]⟩ (by omega) (by decide) FT w (st.get (p := EnvP FT) (by simp))) fun a0 c0 F0 => ?_
  rw [ptI_bz, hp, List.map_cons]
  refine t_read (E := EStr) fun F1 => ?_
  have hml : (ps.map bz).length = ps.length := List.length_map ..
  refine go ?_; intros
  refine at_str (a := a0) (xs := bz p0 :: ps.map bz) 0 ?_ (hi := by simp)
  rintro hi0 b o e0 -
  rw [e0]
  simp only [List.getElem_cons_zero]
  refine go ?_; intros
  refine cb (fun w st => (ParseInt_f (bz p0) FT (by omega)).val w (hol1 (st.get (p := EnvP FT) (by simp)))) ?_
  cases g0 : (resPI (bz p0)).2
  · rw [resPE_no (by rw [hok, g0]; rfl)]
    refine t_nilow OEntry 115 ?_
    refine go ?_; intros
    refine clOE ⟨0, []⟩ rfl ?_
    refine ret (⟨0, none, 0, []⟩ : PeZ) trivial rfl
  refine go ?_; intros
  apply wO
  refine sld (E := EStr) (xs := bz p0 :: ps.map bz) 1 fun a1 c1 F2 => ?_
  rw [show (bz p0 :: ps.map bz).drop 1 = ps.map bz from rfl]
  refine go ?_; intros
  rename_i g7
  refine t_nilow OEntry 115 ?_
  refine c_loopS [0, 2, 3, 7, 27, 28] (fun z : PeZ => [(29, .int .i64 (z.k : Nat))]) (fun z => [.row g7 26 0 [] [.int .i64 (resPI (bz p0)).1, .slice z.a ((ps.take z.k).map fun t => (peI t).1).length z.c] [], .ow OEntry 115 (.slice z.a ((ps.take z.k).map fun t => (peI t).1).length z.c) ((ps.take z.k).map fun t => (peI t).1) z.F]) (fun z => z.k ≤ ps.length ∧ (ps.take z.k).all (fun t => (peI t).2) = true) (fun z => ps.length - z.k) ⟨0, none, 0, []⟩ ⟨Nat.zero_le _, rfl⟩ fun z hz => ?_
  obtain ⟨z2, z3⟩ := hz
  have hvl : ((ps.take z.k).map fun t => (peI t).1).length = z.k := by rw [List.length_map, List.length_take]; omega
  refine go ?_; intros
  refine c_if rfl (fun h1 => ?_) (fun h1 => ?_)
  · have hk : z.k < ps.length := by omega
    have hx : ps[z.k].length ≤ 10000000 := by have := hps ps[z.k] (by simp); omega
    refine at_str (a := a1) (xs := ps.map bz) z.k ?_
    rintro hi b2 o2 e2 -
    rw [e2, List.getElem_map]
    refine go ?_; intros
    refine cf (parseEntry_f ps[z.k] FT hx) fun q _ => ?_
    refine t_app ?_
    cases g : (peI ps[z.k]).2
    · rw [resPE_no (by rw [hok, g0, peAll_no hk g]; rfl)]
      refine go ?_; intros
      refine t_nilow OEntry 115 ?_
      refine go ?_; intros
      refine clOE ⟨0, []⟩ rfl ?_
      refine ret (⟨0, none, 0, []⟩ : PeZ) trivial rfl
    refine goN ?_; intros
    apply wO
    refine ap1o one_OEntry (peI ps[z.k]).1 rfl fun a9 c9 F9 => ?_
    refine go ?_; intros
    rw [← peVal_take hk]
    refine n_lp ⟨z.k + 1, a9, c9, F9⟩ ⟨by show z.k + 1 ≤ ps.length; omega, peAll_take hk g z3⟩ (by show ps.length - (z.k + 1) < ps.length - z.k; omega)
  · have hk : ps.take z.k = ps := List.take_of_length_le (by omega)
    rw [hk] at z3 hvl ⊢
    have hok2 : okPEI s = (goodElement (elI s) && decide (elT (elI s) = s)) := by rw [hok, g0, z3]; rfl
    rw [show ((resPI (bz p0)).1 : Int) = (elI s).clock by rw [he], show (ps.map fun t => (peI t).1) = (elI s).entries by rw [he]] at *
    refine clOE (elI s) rfl ?_
    refine go ?_; intros
    refine cb (fun w st => by
      obtain ⟨F', -, hE⟩ := isv_weak weak_Element (st.get (p := .own OElement (.agg #[.int .i64 (elI s).clock, .slice z.a (elI s).entries.length z.c]) (elI s) z.F) (by simp)).2
      exact IsValidElement_c _ (elI s) F' w hE) ?_
    cases g : goodElement (elI s)
    · rw [resPE_no (by rw [hok2, g]; rfl)]
      refine t_nilow OEntry 115 ?_
      refine go ?_; intros
      refine clOE ⟨0, []⟩ rfl ?_
      refine ret (⟨0, none, 0, []⟩ : PeZ) trivial rfl
    refine go ?_; intros
    refine cfr (fun w st => by
      obtain ⟨F', -, hE⟩ := isv_weak weak_Element (st.get (p := .own OElement (.agg #[.int .i64 (elI s).clock, .slice z.a (elI s).entries.length z.c]) (elI s) z.F) (by simp)).2
      exact ⟨[.isv EElement (.agg #[.int .i64 (elI s).clock, .slice z.a (elI s).entries.length z.c]) (elI s) F', EnvP FT], hol2 hE (st.get (p := EnvP FT) (by simp)), rfl, entriesText_f (elI s) _ F' FT g⟩) (fun _ _ => ?_)
    refine t_app ?_
    by_cases ht : elT (elI s) = s
    · rw [resPE_yes (by rw [hok2, g, decide_eq_true ht]; rfl), ht]
      refine go ?_; intros
      rw [show decide (¬ s = s) = false by simp]
      refine go ?_; intros
      refine ret z trivial rfl
    · rw [resPE_no (by rw [hok2, g, decide_eq_false ht]; rfl)]
      refine go ?_; intros
      rw [show decide (¬ elT (elI s) = s) = true by simpa using ht]
      refine t_nilow OEntry 115 ?_
      refine go ?_; intros
      refine clOE ⟨0, []⟩ rfl ?_
      refine ret (⟨0, none, 0, []⟩ : PeZ) trivial rfl
end Go.Proofs.YtgogcgkocjpgoaaGreatDoor
/- Elements read out of texts: the reference. -/
namespace Go.Proofs.YtgogcgkocjpgoaaGreatDoor
open Go.RowKit
theorem partsB_small (b : UInt8) (s : ByteArray) : (∀ t ∈ splitL b s.data.toList, t.length ≤ s.size) ∧ (splitL b s.data.toList).length ≤ s.size + 1 := by
  refine ⟨fun t ht => ?_, ?_⟩
  · have h : bz t ∈ (splitL b s.data.toList).map bz := List.mem_map.2 ⟨t, ht, rfl⟩
    rw [← splitS_L] at h
    have := splitB_small ⟨#[b]⟩ s.size _ s (Nat.le_refl _) (bz t) h
    rw [bz_size] at this; exact this
  · have hcb := Lib.countB_le ⟨#[b]⟩ (by simp [ByteArray.size]) s.size s (Nat.le_refl _)
    have hlen := Lib.splitB_all ⟨#[b]⟩ (by simp [ByteArray.size]) 0 _ s rfl
    rw [splitS_L, List.length_map] at hlen
    omega
theorem ptS_cons (s : ByteArray) : ∃ p0 ps, ptS s = p0 :: ps := by
  have := splitL_ne 59 s.data.toList
  unfold ptS
  cases h : splitL 59 s.data.toList with
  | nil => exact absurd h this
  | cons p0 ps => exact ⟨p0, ps, rfl⟩
theorem elS_cons {s : ByteArray} {p0 : Bs} {ps : List Bs} (h : ptS s = p0 :: ps) : elS s = ⟨(resPI (bz p0)).1, (restS s).map fun t => (peS t).1⟩ ∧ okPES s = ((restS s).all six && ((resPI (bz p0)).2 && (restS s).all (fun t => (peS t).2)) && goodElement (elS s) && decide (elT (elS s) = s)) := by
  constructor
  · unfold elS; rw [h]; rfl
  · unfold okPES; rw [h]; rfl
theorem six_no {rs : List Bs} {k : Nat} (h : k < rs.length) (hp : six rs[k] = false) : rs.all six = false := by
  rw [List.all_eq_false]
  exact ⟨rs[k], List.getElem_mem h, by simp [hp]⟩
theorem six_take {rs : List Bs} {k : Nat} (h : k < rs.length) (hp : six rs[k] = true) (ha : (rs.take k).all six = true) : (rs.take (k + 1)).all six = true := by
  rw [List.take_succ_eq_append_getElem h, List.all_append, ha]
  simp [hp]
theorem peSAll_take {rs : List Bs} {k : Nat} (h : k < rs.length) : (rs.take (k + 1)).all (fun t => (peS t).2) = ((rs.take k).all (fun t => (peS t).2) && (peS rs[k]).2) := by
  rw [List.take_succ_eq_append_getElem h, List.all_append]
  simp
theorem peSVal_take {rs : List Bs} {k : Nat} (h : k < rs.length) : (rs.take (k + 1)).map (fun t => (peS t).1) = (rs.take k).map (fun t => (peS t).1) ++ [(peS rs[k]).1] := by
  rw [List.take_succ_eq_append_getElem h, List.map_append]; rfl
theorem resPES_no {s : ByteArray} (h : okPES s = false) : resPE s = (⟨0, []⟩, false) := by rw [← resPE_S, h]; rfl
theorem resPES_yes {s : ByteArray} (h : okPES s = true) : resPE s = (elS s, true) := by rw [← resPE_S, h]; rfl
theorem six_of {ws : List Bs} (h : ws.length = 6) : ∃ x0 x1 x2 x3 x4 x5, ws = [x0, x1, x2, x3, x4, x5] := by
  match ws, h with
  | [x0, x1, x2, x3, x4, x5], _ => exact ⟨x0, x1, x2, x3, x4, x5, rfl⟩
theorem peS_six {t : Bs} {x0 x1 x2 x3 x4 x5 : Bs} (h : splitL 32 t = [x0, x1, x2, x3, x4, x5]) : peS t = (⟨(resPI (bz x1)).1, fcB x3, (resPI (bz x5)).1⟩, (resPI (bz x1)).2 && (resPI (bz x5)).2) := by
  unfold peS
  rw [h]; rfl
theorem restS_of {s : ByteArray} {p0 : Bs} {ps : List Bs} (h : ptS s = p0 :: ps) : restS s = if 200 < s.size then [] else ps := by
  unfold restS; rw [h]; rfl
set_option maxRecDepth 100000 in
set_option maxHeartbeats 800000 in
theorem specParseEntries_f (s : ByteArray) (FT : List Nat) (hs : s.size ≤ 1000000) : Fn Tryz.prog 18 [.string s] [EnvP FT] [] (fun (_ : PeZ) => True) (fun z => .tuple #[.agg #[.int .i64 ((resPE s).1).clock, .slice z.a ((resPE s).1).entries.length z.c], .bool (resPE s).2]) (fun z => [.own OElement (.agg #[.int .i64 ((resPE s).1).clock, .slice z.a ((resPE s).1).entries.length z.c]) (resPE s).1 z.F]) := by
  obtain ⟨hps, hpl⟩ := partsB_small 59 s
  obtain ⟨p0, ps, hp⟩ := ptS_cons s
  obtain ⟨he, hok⟩ := elS_cons hp
  have hre := restS_of hp
  unfold ptS at hp
  obtain ⟨rs, hrs⟩ : ∃ rs, rs = restS s := ⟨_, rfl⟩
  rw [← hrs] at he hok hre
  rw [hp] at hpl hps
  simp only [List.length_cons] at hpl
  have h0 : (bz p0).size ≤ 1000000 := by have := hps p0 (by simp); rw [bz_size]; omega
  refine enter Tryz.func18 rfl Tryz.ntmps18 fun w0 => ?_
  refine go ?_; intros
  refine cf (l1Split_f s 59 (by omega)) fun q _ => ?_
  refine t_app ?_
  rw [hp, List.map_cons]
  refine t_read (E := EStr) (xs := bz p0 :: ps.map bz) fun F1 => ?_
  have hml : (ps.map bz).length = ps.length := List.length_map ..
  refine go ?_; intros
  refine at_str (a := q.1) (xs := bz p0 :: ps.map bz) 0 ?_ (hi := by simp)
  rintro hi0 b o e0 -
  rw [e0]
  simp only [List.getElem_cons_zero]
  refine go ?_; intros
  refine cf (l1Read_f (bz p0) (by omega)) fun _ _ => ?_
  refine t_app ?_
  refine go ?_; intros
  rename_i g8
  refine t_emp OEntry ?_
  refine c_loopS [0, 2, 3, 4, 5, 8] (fun z : PeZ => [(7, .bool ((rs.take z.k).all (fun t => (peS t).2) && (resPI (bz p0)).2)), (9, .int .i64 ((z.k + 1 : Nat) : Int))]) (fun z => [.row g8 26 0 [] [.int .i64 (resPI (bz p0)).1, .slice z.a ((rs.take z.k).map fun t => (peS t).1).length z.c] [], .ow OEntry 115 (.slice z.a ((rs.take z.k).map fun t => (peS t).1).length z.c) ((rs.take z.k).map fun t => (peS t).1) z.F]) (fun z => z.k ≤ rs.length ∧ (rs.take z.k).all six = true) (fun z => rs.length - z.k) ⟨0, _, _, _⟩ ⟨Nat.zero_le _, rfl⟩ fun z hz => ?_
  obtain ⟨z2, z3⟩ := hz
  have hvl : ((rs.take z.k).map fun t => (peS t).1).length = z.k := by rw [List.length_map, List.length_take]; omega
  have hl1 : (bz p0 :: ps.map bz).length = ps.length + 1 := by simp
  refine go ?_; intros
  refine wg_if rfl rfl (fun h1 => ?wa) (fun h1 => ?wb)
  case' wa =>
    refine go ?_; intros
    refine c_if rfl (fun h2 => ?wc) (fun h2 => ?wd)
  case wc =>
    obtain rfl : ps = rs := by rw [hre, if_neg (by omega)]
    have hk : z.k < ps.length := by omega
    have hx : ps[z.k].length ≤ 1000000 := by have := hps ps[z.k] (by simp); omega
    obtain ⟨hwl, hws⟩ := words_len ps[z.k]
    refine at_str (a := some ⟨b, o, none⟩) (xs := bz p0 :: ps.map bz) (z.k + 1) ?_ (hi := by omega)
    rintro hi2 _ _ e2 -
    cases e2
    rw [show (bz p0 :: ps.map bz)[z.k + 1] = bz ps[z.k] by simp]
    refine go ?_; intros
    refine cf (l1Split_f (bz ps[z.k]) 32 (by rw [bz_size]; omega)) fun u _ => ?_
    refine t_app ?_
    rw [bz_list]
    have hml2 : ((splitL 32 ps[z.k]).map bz).length = (splitL 32 ps[z.k]).length := List.length_map ..
    refine t_read (E := EStr) (xs := (splitL 32 ps[z.k]).map bz) fun F2 => ?_
    refine go ?_; intros
    refine c_if rfl (fun h5 => ?_) (fun h5 => ?_)
    · rw [resPES_no (by rw [hok, six_no hk (by unfold six; exact decide_eq_false (by omega))]; rfl)]
      refine t_nilow OEntry 115 ?_
      refine go ?_; intros
      refine clOE ⟨0, []⟩ rfl ?_
      refine ret (⟨0, none, 0, []⟩ : PeZ) trivial rfl
    have h6 : (splitL 32 ps[z.k]).length = 6 := by omega
    have hsix : six ps[z.k] = true := by unfold six; exact decide_eq_true h6
    obtain ⟨x0, x1, x2, x3, x4, x5, hw6⟩ := six_of h6
    have hp6 := peS_six hw6
    rw [hw6] at hws
    have y1 : (bz x1).size ≤ 1000000 := by have := hws x1 (by simp); rw [bz_size]; omega
    have y3 : (bz x3).size ≤ 1000000 := by have := hws x3 (by simp); rw [bz_size]; omega
    have y5 : (bz x5).size ≤ 1000000 := by have := hws x5 (by simp); rw [bz_size]; omega
    rw [hw6, show [x0, x1, x2, x3, x4, x5].map bz = [bz x0, bz x1, bz x2, bz x3, bz x4, bz x5] from rfl]
    refine goN ?_; intros
    refine at_str (a := u.1) (xs := [bz x0, bz x1, bz x2, bz x3, bz x4, bz x5]) 1 ?_ (hi := by simp)
    rintro hi1 b2 o2 e1 -
    rw [e1]
    refine at_str (a := some ⟨b2, o2, none⟩) (xs := [bz x0, bz x1, bz x2, bz x3, bz x4, bz x5]) 5 ?_ (hi := by simp)
    rintro hi5 _ _ e5 -
    cases e5
    refine at_str (a := some ⟨b2, o2, none⟩) (xs := [bz x0, bz x1, bz x2, bz x3, bz x4, bz x5]) 3 ?_ (hi := by simp)
    rintro hi3 _ _ e3 -
    cases e3
    simp only [List.getElem_cons_zero, List.getElem_cons_succ]
    refine go ?_; intros
    refine cf (l1Read_f (bz x1) (by omega)) fun _ _ => ?_
    refine t_app ?_
    refine go ?_; intros
    refine cf (l1Read_f (bz x5) (by omega)) fun _ _ => ?_
    refine t_app ?_
    refine go ?_; intros
    refine t_emp EInt ?_
    refine c_loopS [0, 2, 3, 4, 5, 7, 8, 9, 10, 11, 12, 13, 14] (fun y : PeZ => [(15, .slice y.a (fcB (x3.take y.k)).length y.c), (16, .int .i64 (y.k : Nat))]) (fun y => [.ow EInt 3 (.slice y.a (fcB (x3.take y.k)).length y.c) (fcB (x3.take y.k)) y.F]) (fun y => y.k ≤ x3.length) (fun y => x3.length - y.k) ⟨0, _, _, _⟩ (Nat.zero_le _) fun y hy => ?_
    have hfl : (fcB (x3.take y.k)).length = y.k := by unfold fcB; rw [List.length_map, List.length_take]; omega
    have hbz : (bz x3).size = x3.length := bz_size x3
    refine go ?_; intros
    refine c_if rfl (fun h7 => ?_) (fun h7 => ?_)
    · have hk2 : y.k < x3.length := by omega
      have hfk := fcB_take hk2
      have hb8 := x3[y.k].toNat_lt
      have hix : ((bz x3)[((y.k : Nat) : Int).toNat]'(by show y.k < (bz x3).size; omega)).toNat = x3[y.k].toNat := rfl
      refine go ?_; intros
      rw [hix]
      apply wO
      refine ap1 (rep_i _) one_EInt fun a9 c9 F9 => ?_
      refine go ?_; intros
      rw [hfk]
      refine n_lp ⟨y.k + 1, a9, c9, F9⟩ hk2 (by show x3.length - (y.k + 1) < x3.length - y.k; omega)
    have hx3 : x3.take y.k = x3 := List.take_of_length_le (by omega)
    rw [hx3] at hfl ⊢
    obtain ⟨B', hB⟩ : ∃ B', B' = ((ps.take (z.k + 1)).all (fun t => (peS t).2) && (resPI (bz p0)).2) := ⟨_, rfl⟩
    have hB2 : B' = (((ps.take z.k).all (fun t => (peS t).2) && (resPI (bz p0)).2) && (resPI (bz x1)).2 && (resPI (bz x5)).2) := by
      rw [hB, peSAll_take hk, hp6]
      cases (ps.take z.k).all (fun t => (peS t).2) <;> cases (resPI (bz p0)).2 <;> cases (resPI (bz x1)).2 <;> cases (resPI (bz x5)).2 <;> rfl
    apply c_exit
    repeat (first | apply e_hit | apply e_cd | apply e_lp | (apply e_miss; rfl))
    apply n_cd
    apply c_seq
    refine c_joinS [0, 2, 3, 4, 5, 8, 9, 11, 13, 15] [0, 6, 7, 8, 9, 10, 11, 12] (fun _ : Unit => [(7, .bool B')]) (fun _ => []) (fun _ => True) ?_ fun _ _ => ?_
    · cases hA : ((ps.take z.k).all (fun t => (peS t).2) && (resPI (bz p0)).2)
      all_goals cases hR1 : (resPI (bz x1)).2
      all_goals cases hR5 : (resPI (bz x5)).2
      all_goals
        rw [hA, hR1, hR5] at hB2
        simp only [Bool.and_false, Bool.and_true, Bool.false_and, Bool.true_and] at hB2
        subst hB2
        refine go ?_; intros
        refine n_join () trivial
    rw [hB]
    refine go ?_; intros
    refine closeOEntry ⟨(resPI (bz x1)).1, fcB x3, (resPI (bz x5)).1⟩ ?_
    apply wO
    refine ap1o one_OEntry ⟨(resPI (bz x1)).1, fcB x3, (resPI (bz x5)).1⟩ rfl fun a9 c9 F9 => ?_
    refine go ?_; intros
    rw [show (⟨(resPI (bz x1)).1, fcB x3, (resPI (bz x5)).1⟩ : Entry) = (peS ps[z.k]).1 by rw [hp6], ← peSVal_take hk]
    refine n_lp ⟨z.k + 1, a9, c9, F9⟩ ⟨by show z.k + 1 ≤ ps.length; omega, six_take hk hsix z3⟩ (by show ps.length - (z.k + 1) < ps.length - z.k; omega)
  all_goals
    have hk : rs.take z.k = rs := by rw [hre]; split <;> first | exact List.take_of_length_le (by omega) | simp | omega
    rw [hk] at z3 hvl ⊢
    have hok2 : okPES s = ((rs.all (fun t => (peS t).2) && (resPI (bz p0)).2) && goodElement (elS s) && decide (elT (elS s) = s)) := by rw [hok, z3, Bool.true_and, Bool.and_comm (resPI (bz p0)).2]
    rw [show ((resPI (bz p0)).1 : Int) = (elS s).clock by rw [he], show (rs.map fun t => (peS t).1) = (elS s).entries by rw [he]] at *
    refine clOE (elS s) rfl ?_
    cases gB : (rs.all (fun t => (peS t).2) && (resPI (bz p0)).2)
    · rw [resPES_no (by rw [hok2, gB]; rfl)]
      refine t_nilow OEntry 115 ?_
      refine go ?_; intros
      refine clOE ⟨0, []⟩ rfl ?_
      refine ret (⟨0, none, 0, []⟩ : PeZ) trivial rfl
    refine go ?_; intros
    refine cb (fun w st => by
      obtain ⟨F', -, hE⟩ := isv_weak weak_Element (st.get (p := .own OElement (.agg #[.int .i64 (elS s).clock, .slice z.a (elS s).entries.length z.c]) (elS s) z.F) (by simp)).2
      exact l14Good_c _ (elS s) F' w hE) ?_
    cases g : goodElement (elS s)
    · rw [resPES_no (by rw [hok2, g]; simp)]
      refine t_nilow OEntry 115 ?_
      refine go ?_; intros
      refine clOE ⟨0, []⟩ rfl ?_
      refine ret (⟨0, none, 0, []⟩ : PeZ) trivial rfl
    refine go ?_; intros
    refine cfr (fun w st => by
      obtain ⟨F', -, hE⟩ := isv_weak weak_Element (st.get (p := .own OElement (.agg #[.int .i64 (elS s).clock, .slice z.a (elS s).entries.length z.c]) (elS s) z.F) (by simp)).2
      exact ⟨[.isv EElement (.agg #[.int .i64 (elS s).clock, .slice z.a (elS s).entries.length z.c]) (elS s) F', EnvP FT], hol2 hE (st.get (p := EnvP FT) (by simp)), rfl, l14Text_f (elS s) _ F' FT g⟩) (fun _ _ => ?_)
    refine t_app ?_
    by_cases ht : elT (elS s) = s
    · rw [resPES_yes (by rw [hok2, gB, g, decide_eq_true ht]; rfl), ht]
      refine go ?_; intros
      rw [show decide (¬ s = s) = false by simp]
      refine go ?_; intros
      refine ret z trivial rfl
    · rw [resPES_no (by rw [hok2, decide_eq_false ht]; simp)]
      refine go ?_; intros
      rw [show decide (¬ elT (elS s) = s) = true by simpa using ht]
      refine t_nilow OEntry 115 ?_
      refine go ?_; intros
      refine clOE ⟨0, []⟩ rfl ?_
      refine ret (⟨0, none, 0, []⟩ : PeZ) trivial rfl
end Go.Proofs.YtgogcgkocjpgoaaGreatDoor
/- '[]byte' of a string, a byte stored, and back. -/
namespace Go.Proofs.YtgogcgkocjpgoaaGreatDoor
open Go.RowKit
/-- a byte aS data -/
def EByte : Elem Int where
  sz := 1
  rep _ cs z F := cs = [.int .u8 z] ∧ 0 ≤ z ∧ z ≤ 255 ∧ F = []
  len h := by simp [h.1]
  lt h := by simp [h.2.2.2]
  frame h _ := h
/-- the bytes of l lie in block g -/
def ByteRow (w : World) (g : Nat) (l : List UInt8) : Prop :=
  g < w.heap.size ∧ ∀ j (hj : j < l.length), w.cell? ⟨g, j, none⟩ = some (.int .u8 (l[j].toNat : Int)) ∧ w.frozen? ⟨g, j, none⟩ = false
theorem ByteRow.below {w w' g l} (h : ByteRow w g l) (hb : Below w.heap.size w w') : ByteRow w' g l :=
  ⟨Nat.lt_of_lt_of_le h.1 hb.size, fun j hj => ⟨(hb.cell (p := ⟨g, j, none⟩) h.1).trans (h.2 j hj).1, (hb.frozen (p := ⟨g, j, none⟩) h.1).trans (h.2 j hj).2⟩⟩
theorem ByteRow.set {w g l} (h : ByteRow w g l) (k : Nat) (b : UInt8) (hk : k < l.length) : ByteRow (w.setCell ⟨g, k, none⟩ (.int .u8 (b.toNat : Int))) g (l.set k b) := by
  refine ⟨by simp [h.1], fun j hj => ?_⟩
  rw [List.length_set] at hj
  refine ⟨?_, ?_⟩
  · by_cases e : k = j
    · subst e
      rw [World.cell?_setCell_same _ _ _ (h.2 k hk).1]
      simp
    · rw [World.cell?_setCell_other _ _ _ _ (by intro q; cases q; exact e rfl), (h.2 j hj).1]
      simp [List.getElem_set, e]
  · rw [World.frozen?_setCell]; exact (h.2 j hj).2
end Go.Proofs.YtgogcgkocjpgoaaGreatDoor
/- Regions that draw: an operation that may stand behind a store. -/
namespace Go.Proofs.YtgogcgkocjpgoaaGreatDoor
open Go.RowKit
section
variable {P : Program} {ops : Array Oper} {Q : Exit → Act → World → Prop} {md : Region.Mode} {S : World → Prop} {X : Nat → Bool}
/-- an operation that looks at no cell may be taken first, whatever has been stored -/
theorem AnyX.firstP {i : Nat} {oi : Oper} {v : Value} (hi : ops[i]? = some oi) (hsel : ∀ (j : Nat) (o : Oper) cs b, ops[j]? = some o → o.op ≠ .select cs b)
    (hQ : ∀ c a w, Q (.panic c) (a.put oi.dst v) w → Q (.panic c) a w) (hXi : X i = true) :
    ∀ (f : Nat) (listed : Array Bool) (a : Act) (w : World),
      (∀ j oj, ops[j]? = some oj → j ≠ i → listed.getD j true = false → (∀ e ∈ oj.after, Region.binds md e = true → e.on ≠ i) → oi.apart ops oj = true) →
      i ∈ Region.ready md ops listed → YieldsIf P ops (fun _ => True) oi v a → AnyX P md ops Q S X f (listed.setIfInBounds i true) (a.put oi.dst v) w → AnyX P md ops Q S X (f + 1) listed a w := by
  intro f
  induction f with
  | zero =>
    intro listed a w _ hr hy H
    refine ⟨fun h => (by rw [h] at hr; cases hr), fun j hj => ?_⟩
    by_cases hji : j = i
    · subst hji; exact hy.wpOp hi trivial ⟨(fun h => by rw [hXi] at h; cases h), H⟩
    · have := ready_mono hj hji
      rw [H.1] at this; cases this
  | succ f ih =>
    intro listed a w hfree hr hy H
    refine ⟨fun h => (by rw [h] at hr; cases hr), fun j hj => ?_⟩
    by_cases hji : j = i
    · subst hji; exact hy.wpOp hi trivial ⟨(fun h => by rw [hXi] at h; cases h), H⟩
    · obtain ⟨hju, oj, hoj, hall⟩ := mem_ready.1 hj
      have hiu := unlisted (mem_ready.1 hr).1
      have hnot : ∀ e ∈ oj.after, Region.binds md e = true → e.on ≠ i := fun e he hb heq => by
        have h1 := hall e he hb
        rw [heq, hiu] at h1; cases h1
      have h2 := wpOp_putIf hoj (hfree j oj hoj hji hju hnot) (fun cs b => hsel i oi cs b hi) (fun cs b => hsel j oj cs b hoj) hQ hy (H.2 j (ready_mono hj hji))
      refine wpOp_mono (fun a' w' h3 => ⟨h3.2.1, ih (listed.setIfInBounds j true) a' w' (fun k ok hk hki hun hno => hfree k ok hk hki ?_ hno) (ready_mono hr (Ne.symm hji)) h3.1 ?_⟩) h2
      · by_cases hjk : j = k
        · subst hjk; exact hju
        · rw [getD_set_ne true hjk] at hun; exact hun
      · rw [Array.setIfInBounds_comm _ _ hji]; exact h3.2.2
theorem AnyX.takeP {i : Nat} {oi : Oper} {v : Value} {f : Nat} {listed : Array Bool} {a : Act} {w : World} (hi : ops[i]? = some oi)
    (hs : Region.noSelect ops = true) (hf : Region.free md ops listed i = true) (hr : (Region.ready md ops listed).contains i = true) (hXi : X i = true)
    (hQ : ∀ c a w, Q (.panic c) (a.put oi.dst v) w → Q (.panic c) a w) (hy : YieldsIf P ops (fun _ => True) oi v a)
    (h : AnyX P md ops Q S X f (listed.setIfInBounds i true) (a.put oi.dst v) w) : AnyX P md ops Q S X (f + 1) listed a w :=
  AnyX.firstP hi (Region.noSelect_spec hs) hQ hXi f listed a w (Region.free_spec hi hf) (by simpa using hr) hy h
end
end Go.Proofs.YtgogcgkocjpgoaaGreatDoor
/- Walks: the reference's draws: a cursor over bytes. -/
namespace Go.Proofs.YtgogcgkocjpgoaaGreatDoor
open Go.RowKit
theorem Sl.byte {w v} {xs : List Int} {F} (h : Sl EByte w v xs F) : xs.length ≤ maxLen ∧ ∀ k (hk : k < xs.length), (0 ≤ xs[k] ∧ xs[k] ≤ 255) ∧ ∃ b off, v = .slice (some ⟨b, off, none⟩) xs.length (match v with | .slice _ _ c => c | _ => 0) ∧ b ∈ F ∧ w.cell? ⟨b, off + k, none⟩ = some (.int .u8 xs[k]) := by
  obtain ⟨a, cap, rfl, hl, ⟨rfl, rfl, _⟩ | ⟨b, off, F', rfl, hne, rfl, hc⟩⟩ := h
  · exact ⟨by simp, fun k hk => by simp at hk⟩
  · refine ⟨by omega, fun k hk => ?_⟩
    obtain ⟨cs, F1, ⟨rfl, h0, h1, rfl⟩, hcell, _⟩ := hc.get k hk
    refine ⟨⟨h0, h1⟩, b, off, rfl, by simp, ?_⟩
    simpa [EByte] using hcell 0 (by decide)
/-- the bytes that a cursor reads -/
structure CuF where
  code : List Int
  a : Option Addr
  c : Nat
  bs : List Nat
/-- the cursor lies in block g; its bytes in F, below it; it has moved at most B steps -/
def Cur (B : Nat) (w : World) (g : Nat) (F : CuF) : Prop :=
  ∃ (k : Nat) (seed : Int), Row w g 123 [.slice F.a F.code.length F.c, .int .i64 k, .int .u64 seed] ∧ Sl EByte w (.slice F.a F.code.length F.c) F.code F.bs ∧ g ∉ F.bs ∧ k ≤ B ∧ 0 ≤ seed ∧ seed < 18446744073709551616
theorem Cur.keep {B w w' g F K} (h : Cur B w g F) (hk : Keep K w w') (h1 : g ∉ K) (h2 : ∀ b ∈ F.bs, b ∉ K) : Cur B w' g F := by
  obtain ⟨k, seed, R, S, hF, h3⟩ := h
  exact ⟨k, seed, R.keepK hk h1, S.keep hk h2 (by decide), hF, h3⟩
theorem Cur.below {B w w' g F} (h : Cur B w g F) (hb : Below w.heap.size w w') : Cur B w' g F := by
  obtain ⟨k, seed, R, S, hF, h3⟩ := h
  exact ⟨k, seed, R.below hb, S.below (by decide) hb, hF, h3⟩
theorem Cur.mono {B B' w g F} (h : Cur B w g F) (hb : B ≤ B') : Cur B' w g F := by
  obtain ⟨k, seed, R, S, hF, h3, h4⟩ := h
  exact ⟨k, seed, R, S, hF, by omega, h4⟩
theorem Cur.lt {B w g F} (h : Cur B w g F) : g < w.heap.size := by
  obtain ⟨k, seed, R, _⟩ := h; exact R.lt
def PNext (B g : Nat) (F : CuF) (w : World) (e : Ending) (w' : World) : Prop := ∃ r : Nat, e = .returned (.int .i64 r) ∧ r ≤ 255 ∧ Cur (B + 1) w' g F ∧ Keep [g] w w'
set_option maxHeartbeats 3200000 in
set_option maxRecDepth 100000 in
theorem next_c (B g : Nat) (F : CuF) (w : World) (h : Cur B w g F) (hB0 : B ≤ 1099511627776) :
    Calls Tryz.prog 215 #[.pointer (some ⟨g, 0, none⟩)] w (PNext B g F w) := by
  obtain ⟨code, a, c, F⟩ := F
  obtain ⟨k, seed, R, S, hF, h2, h3, h4⟩ := h
  dsimp only at R S hF
  have hl := S.byte.1
  unfold maxLen at hl
  have hlt := S.lt (by decide)
  by_cases hk : k < code.length
  · obtain ⟨⟨hz0, hz1⟩, b, off, hv, hbF, hcell⟩ := S.byte.2 k hk
    simp only [Value.slice.injEq] at hv
    obtain ⟨rfl, -, -⟩ := hv
    generalize code[k] = z at *
    have hbg : b ≠ g := fun e => hF (e ▸ hbF)
    have hcl := fun w' (hb : Below w.heap.size w w') => kc hb hcell
    replace hcl := Lib.hid hcl
    clear hcell
    have hB := Below.refl w.heap.size w
    go_enter Tryz.func215, Tryz.ntmps215
    go_wp2_with fail
    refine AnyX.start (S := (fun w' => w'.cell? ⟨g, 0, none⟩ = some (.slice (some ⟨b, off, none⟩) code.length c) ∧ w'.cell? ⟨g, 1, none⟩ = some (.int .i64 k) ∧ w'.cell? ⟨g, 2, none⟩ = some (.int .u64 seed) ∧ w'.cell? ⟨b, off + k, none⟩ = some (.int .u8 z))) (X := (fun _ => false)) (by kernel_rfl) ?_
    have al : Below w.heap.size w w.drew := belowDrewN (Below.refl _ _) 1
    have hs_w1 := al.size
    replace R := R.below al
    replace S := S.below (by decide) al
    replace hB := tr hB al (Nat.le_refl _)
    generalize w.drew = w1 at *
    clear al
    have hS : (fun w' => w'.cell? ⟨g, 0, none⟩ = some (.slice (some ⟨b, off, none⟩) code.length c) ∧ w'.cell? ⟨g, 1, none⟩ = some (.int .i64 k) ∧ w'.cell? ⟨g, 2, none⟩ = some (.int .u64 seed) ∧ w'.cell? ⟨b, off + k, none⟩ = some (.int .u8 z)) w1 := ⟨R.cells 0, R.cells 1, R.cells 2, hcl.out _ hB⟩
    refine AnyX.take (i := 0) (oi := _) (v := ?_) (by rw [List.getElem?_toArray]; rfl) (by kernel_rfl) (by kernel_rfl) (by kernel_rfl) (by kernel_rfl) (by kernel_rfl) (by exact fun _ _ _ h => h) (Or.inl ⟨by rfl, ?_⟩) hS ?_
    rotate_left
    · (intro wS hSw; (try dsimp only at hSw); go_simp; try with_reducible rfl)
    try simp only [Act.put, List.setIfInBounds_toArray, List.set_cons_zero, List.set_cons_succ]
    refine AnyX.take (i := 1) (oi := _) (v := ?_) (by rw [List.getElem?_toArray]; rfl) (by kernel_rfl) (by kernel_rfl) (by kernel_rfl) (by kernel_rfl) (by kernel_rfl) (by exact fun _ _ _ h => h) (Or.inl ⟨by rfl, ?_⟩) hS ?_
    rotate_left
    · (intro wS hSw; (try dsimp only at hSw); go_simp; try with_reducible rfl)
    try simp only [Act.put, List.setIfInBounds_toArray, List.set_cons_zero, List.set_cons_succ]
    refine AnyX.take (i := 2) (oi := _) (v := ?_) (by rw [List.getElem?_toArray]; rfl) (by kernel_rfl) (by kernel_rfl) (by kernel_rfl) (by kernel_rfl) (by kernel_rfl) (by exact fun _ _ _ h => h) (Or.inl ⟨by rfl, ?_⟩) hS ?_
    rotate_left
    · (intro wS hSw; (try dsimp only at hSw); go_simp; try with_reducible rfl)
    try simp only [Act.put, List.setIfInBounds_toArray, List.set_cons_zero, List.set_cons_succ]
    refine AnyX.take (i := 3) (oi := _) (v := ?_) (by rw [List.getElem?_toArray]; rfl) (by kernel_rfl) (by kernel_rfl) (by kernel_rfl) (by kernel_rfl) (by kernel_rfl) (by exact fun _ _ _ h => h) (Or.inl ⟨by rfl, ?_⟩) hS ?_
    rotate_left
    · (intro wS hSw; (try dsimp only at hSw); go_simp; try with_reducible rfl)
    try simp only [Act.put, List.setIfInBounds_toArray, List.set_cons_zero, List.set_cons_succ]
    refine AnyX.take (i := 4) (oi := _) (v := ?_) (by rw [List.getElem?_toArray]; rfl) (by kernel_rfl) (by kernel_rfl) (by kernel_rfl) (by kernel_rfl) (by kernel_rfl) (by exact fun _ _ _ h => h) (Or.inl ⟨by rfl, ?_⟩) hS ?_
    rotate_left
    · (intro wS hSw; (try dsimp only at hSw); go_simp; try with_reducible rfl)
    try simp only [Act.put, List.setIfInBounds_toArray, List.set_cons_zero, List.set_cons_succ]
    refine AnyX.take (i := 5) (oi := _) (v := ?_) (by rw [List.getElem?_toArray]; rfl) (by kernel_rfl) (by kernel_rfl) (by kernel_rfl) (by kernel_rfl) (by kernel_rfl) (by exact fun _ _ _ h => h) (Or.inl ⟨by rfl, ?_⟩) hS ?_
    rotate_left
    · (intro wS hSw; (try dsimp only at hSw); go_simp; try with_reducible rfl)
    try simp only [Act.put, List.setIfInBounds_toArray, List.set_cons_zero, List.set_cons_succ]
    refine AnyX.take (i := 6) (oi := _) (v := ?_) (by rw [List.getElem?_toArray]; rfl) (by kernel_rfl) (by kernel_rfl) (by kernel_rfl) (by kernel_rfl) (by kernel_rfl) (by exact fun _ _ _ h => h) (Or.inl ⟨by rfl, ?_⟩) hS ?_
    rotate_left
    · (intro wS hSw; (try dsimp only at hSw); go_simp; try with_reducible rfl)
    try simp only [Act.put, List.setIfInBounds_toArray, List.set_cons_zero, List.set_cons_succ]
    refine AnyX.take (i := 7) (oi := _) (v := ?_) (by rw [List.getElem?_toArray]; rfl) (by kernel_rfl) (by kernel_rfl) (by kernel_rfl) (by kernel_rfl) (by kernel_rfl) (by exact fun _ _ _ h => h) (Or.inl ⟨by rfl, ?_⟩) hS ?_
    rotate_left
    · (intro wS hSw; (try dsimp only at hSw); go_simp; try with_reducible rfl)
    try simp only [Act.put, List.setIfInBounds_toArray, List.set_cons_zero, List.set_cons_succ]
    refine AnyX.take (i := 8) (oi := _) (v := ?_) (by rw [List.getElem?_toArray]; rfl) (by kernel_rfl) (by kernel_rfl) (by kernel_rfl) (by kernel_rfl) (by kernel_rfl) (by exact fun _ _ _ h => h) (Or.inl ⟨by rfl, ?_⟩) hS ?_
    rotate_left
    · (intro wS hSw; (try dsimp only at hSw); go_simp; try with_reducible rfl)
    try simp only [Act.put, List.setIfInBounds_toArray, List.set_cons_zero, List.set_cons_succ]
    refine AnyX.take (i := 9) (oi := _) (v := ?_) (by rw [List.getElem?_toArray]; rfl) (by kernel_rfl) (by kernel_rfl) (by kernel_rfl) (by kernel_rfl) (by kernel_rfl) (by exact fun _ _ _ h => h) (Or.inl ⟨by rfl, ?_⟩) hS ?_
    rotate_left
    · (intro wS hSw; (try dsimp only at hSw); go_simp; try with_reducible rfl)
    try simp only [Act.put, List.setIfInBounds_toArray, List.set_cons_zero, List.set_cons_succ]
    refine AnyX.done (by kernel_rfl) ?_ _
    (try clear hS)
    have c_R := R.cells; have f_R := R.frozens
    go_wp2_with fail
    clear c_R f_R
    rename_i K0 hK0
    refine AnyX.start (S := (fun w' => w'.cell? ⟨g, 0, none⟩ = some (.slice (some ⟨b, off, none⟩) code.length c) ∧ w'.cell? ⟨g, 1, none⟩ = some (.int .i64 k) ∧ w'.cell? ⟨g, 2, none⟩ = some (.int .u64 seed) ∧ w'.cell? ⟨b, off + k, none⟩ = some (.int .u8 z))) (X := (fun _ => false)) (by kernel_rfl) ?_
    have al : Below w1.heap.size w1 w1.drew := belowDrewN (Below.refl _ _) 1
    have hs_w2 := al.size
    replace R := R.below al
    replace S := S.below (by decide) al
    replace hB := tr hB al (Nat.le_refl _)
    generalize w1.drew = w2 at *
    clear al
    have hS : (fun w' => w'.cell? ⟨g, 0, none⟩ = some (.slice (some ⟨b, off, none⟩) code.length c) ∧ w'.cell? ⟨g, 1, none⟩ = some (.int .i64 k) ∧ w'.cell? ⟨g, 2, none⟩ = some (.int .u64 seed) ∧ w'.cell? ⟨b, off + k, none⟩ = some (.int .u8 z)) w2 := ⟨R.cells 0, R.cells 1, R.cells 2, hcl.out _ hB⟩
    refine AnyX.take (i := 0) (oi := _) (v := ?_) (by rw [List.getElem?_toArray]; rfl) (by kernel_rfl) (by kernel_rfl) (by kernel_rfl) (by kernel_rfl) (by kernel_rfl) (by exact fun _ _ _ h => h) (Or.inl ⟨by rfl, ?_⟩) hS ?_
    rotate_left
    · (intro wS hSw; (try dsimp only at hSw); go_simp; try with_reducible rfl)
    try simp only [Act.put, List.setIfInBounds_toArray, List.set_cons_zero, List.set_cons_succ]
    refine AnyX.take (i := 1) (oi := _) (v := ?_) (by rw [List.getElem?_toArray]; rfl) (by kernel_rfl) (by kernel_rfl) (by kernel_rfl) (by kernel_rfl) (by kernel_rfl) (by exact fun _ _ _ h => h) (Or.inl ⟨by rfl, ?_⟩) hS ?_
    rotate_left
    · (intro wS hSw; (try dsimp only at hSw); go_simp; try with_reducible rfl)
    try simp only [Act.put, List.setIfInBounds_toArray, List.set_cons_zero, List.set_cons_succ]
    refine AnyX.take (i := 2) (oi := _) (v := ?_) (by rw [List.getElem?_toArray]; rfl) (by kernel_rfl) (by kernel_rfl) (by kernel_rfl) (by kernel_rfl) (by kernel_rfl) (by exact fun _ _ _ h => h) (Or.inl ⟨by rfl, ?_⟩) hS ?_
    rotate_left
    · (intro wS hSw; (try dsimp only at hSw); go_simp; try with_reducible rfl)
    try simp only [Act.put, List.setIfInBounds_toArray, List.set_cons_zero, List.set_cons_succ]
    refine AnyX.take (i := 3) (oi := _) (v := ?_) (by rw [List.getElem?_toArray]; rfl) (by kernel_rfl) (by kernel_rfl) (by kernel_rfl) (by kernel_rfl) (by kernel_rfl) (by exact fun _ _ _ h => h) (Or.inl ⟨by rfl, ?_⟩) hS ?_
    rotate_left
    · (intro wS hSw; (try dsimp only at hSw); go_simp; try with_reducible rfl)
    try simp only [Act.put, List.setIfInBounds_toArray, List.set_cons_zero, List.set_cons_succ]
    refine AnyX.take (i := 4) (oi := _) (v := ?_) (by rw [List.getElem?_toArray]; rfl) (by kernel_rfl) (by kernel_rfl) (by kernel_rfl) (by kernel_rfl) (by kernel_rfl) (by exact fun _ _ _ h => h) (Or.inl ⟨by rfl, ?_⟩) hS ?_
    rotate_left
    · (intro wS hSw; (try dsimp only at hSw); go_simp; try with_reducible rfl)
    try simp only [Act.put, List.setIfInBounds_toArray, List.set_cons_zero, List.set_cons_succ]
    refine AnyX.take (i := 5) (oi := _) (v := ?_) (by rw [List.getElem?_toArray]; rfl) (by kernel_rfl) (by kernel_rfl) (by kernel_rfl) (by kernel_rfl) (by kernel_rfl) (by exact fun _ _ _ h => h) (Or.inl ⟨by rfl, ?_⟩) hS ?_
    rotate_left
    · (intro wS hSw; (try dsimp only at hSw); go_simp; try with_reducible rfl)
    try simp only [Act.put, List.setIfInBounds_toArray, List.set_cons_zero, List.set_cons_succ]
    refine AnyX.take (i := 6) (oi := _) (v := ?_) (by rw [List.getElem?_toArray]; rfl) (by kernel_rfl) (by kernel_rfl) (by kernel_rfl) (by kernel_rfl) (by kernel_rfl) (by exact fun _ _ _ h => h) (Or.inl ⟨by rfl, ?_⟩) hS ?_
    rotate_left
    · (intro wS hSw; (try dsimp only at hSw); go_simp; try with_reducible rfl)
    try simp only [Act.put, List.setIfInBounds_toArray, List.set_cons_zero, List.set_cons_succ]
    refine AnyX.take (i := 7) (oi := _) (v := ?_) (by rw [List.getElem?_toArray]; rfl) (by kernel_rfl) (by kernel_rfl) (by kernel_rfl) (by kernel_rfl) (by kernel_rfl) (by exact fun _ _ _ h => h) (Or.inl ⟨by rfl, ?_⟩) hS ?_
    rotate_left
    · (intro wS hSw; (try dsimp only at hSw); go_simp; try with_reducible rfl)
    try simp only [Act.put, List.setIfInBounds_toArray, List.set_cons_zero, List.set_cons_succ]
    refine AnyX.take (i := 8) (oi := _) (v := ?_) (by rw [List.getElem?_toArray]; rfl) (by kernel_rfl) (by kernel_rfl) (by kernel_rfl) (by kernel_rfl) (by kernel_rfl) (by exact fun _ _ _ h => h) (Or.inl ⟨by rfl, ?_⟩) hS ?_
    rotate_left
    · (intro wS hSw; (try dsimp only at hSw); go_simp; try with_reducible rfl)
    try simp only [Act.put, List.setIfInBounds_toArray, List.set_cons_zero, List.set_cons_succ]
    refine AnyX.take (i := 9) (oi := _) (v := ?_) (by rw [List.getElem?_toArray]; rfl) (by kernel_rfl) (by kernel_rfl) (by kernel_rfl) (by kernel_rfl) (by kernel_rfl) (by exact fun _ _ _ h => h) (Or.inl ⟨by rfl, ?_⟩) hS ?_
    rotate_left
    · (intro wS hSw; (try dsimp only at hSw); go_simp; try with_reducible rfl)
    try simp only [Act.put, List.setIfInBounds_toArray, List.set_cons_zero, List.set_cons_succ]
    refine AnyX.take (i := 10) (oi := _) (v := ?_) (by rw [List.getElem?_toArray]; rfl) (by kernel_rfl) (by kernel_rfl) (by kernel_rfl) (by kernel_rfl) (by kernel_rfl) (by exact fun _ _ _ h => h) (Or.inl ⟨by rfl, ?_⟩) hS ?_
    rotate_left
    · (intro wS hSw; (try dsimp only at hSw); go_simp; try with_reducible rfl)
    try simp only [Act.put, List.setIfInBounds_toArray, List.set_cons_zero, List.set_cons_succ]
    refine AnyX.only (i := 11) (o := _) (by kernel_rfl) (by rw [List.getElem?_toArray]; rfl) (fun K hK => ?_)
    try go_simp
    clear hS
    have hS : (fun w' => w'.cell? ⟨g, 0, none⟩ = some (.slice (some ⟨b, off, none⟩) code.length c) ∧ w'.cell? ⟨g, 1, none⟩ = some (.int .i64 k) ∧ w'.cell? ⟨g, 2, none⟩ = some (.int .u64 seed) ∧ w'.cell? ⟨b, off + k, none⟩ = some (.int .u8 z)) w2 := ⟨R.cells 0, R.cells 1, R.cells 2, hcl.out _ hB⟩
    refine hK.out _ _ (fun _ => hS) ?_
    clear hK K
    try simp only [Act.put, List.setIfInBounds_toArray, List.set_cons_zero, List.set_cons_succ]
    refine AnyX.done (by kernel_rfl) ?_ _
    (try clear hS)
    refine hK0 _ _ ?_
    clear hK0 K0
    have c_R := R.cells; have f_R := R.frozens
    go_wp2_with fail
    clear c_R f_R
    have n_K : Keep [g] w ((w2.setCell ⟨g, 1, none⟩ (.int .i64 ((k : Int) + 1))).setCell ⟨g, 2, none⟩ (.int .u64 (IntKind.u64.wrap (IntKind.u64.wrap (IntKind.u64.wrap (seed * 6364136223846793005) + z) + 840840)))) := ((Keep.ofBelow hB).setCell (p := ⟨g, 1, none⟩) (by simp) _).setCell (p := ⟨g, 2, none⟩) (by simp) _
    have n_R : Row ((w2.setCell ⟨g, 1, none⟩ (.int .i64 ((k : Int) + 1))).setCell ⟨g, 2, none⟩ (.int .u64 (IntKind.u64.wrap (IntKind.u64.wrap (IntKind.u64.wrap (seed * 6364136223846793005) + z) + 840840)))) g 123 [.slice (some ⟨b, off, none⟩) code.length c, .int .i64 ((k + 1 : Nat) : Int), .int .u64 (IntKind.u64.wrap (IntKind.u64.wrap (IntKind.u64.wrap (seed * 6364136223846793005) + z) + 840840))] := by simpa using ((R.set 1 (.int .i64 ((k : Int) + 1))).set 2 (.int .u64 (IntKind.u64.wrap (IntKind.u64.wrap (IntKind.u64.wrap (seed * 6364136223846793005) + z) + 840840))))
    have n_S : Sl EByte ((w2.setCell ⟨g, 1, none⟩ (.int .i64 ((k : Int) + 1))).setCell ⟨g, 2, none⟩ (.int .u64 (IntKind.u64.wrap (IntKind.u64.wrap (IntKind.u64.wrap (seed * 6364136223846793005) + z) + 840840)))) (Value.slice (some ⟨b, off, none⟩) code.length c) code F := S.frame (fun b hb => by have : b ≠ g := fun e => hF (e ▸ hb); repeat rw [Below.heap_setCell _ _ _ _ (by simp <;> omega)])
    have hs0 : 0 ≤ (IntKind.u64.wrap (IntKind.u64.wrap (IntKind.u64.wrap (seed * 6364136223846793005) + z) + 840840)) ∧ (IntKind.u64.wrap (IntKind.u64.wrap (IntKind.u64.wrap (seed * 6364136223846793005) + z) + 840840)) < 18446744073709551616 := by rw [IntKind.wrap_u64]; omega
    clear R S hB
    generalize (IntKind.u64.wrap (IntKind.u64.wrap (IntKind.u64.wrap (seed * 6364136223846793005) + z) + 840840)) = sd at *
    obtain ⟨hs0, hs1⟩ := hs0
    generalize ((w2.setCell ⟨g, 1, none⟩ (.int .i64 ((k : Int) + 1))).setCell ⟨g, 2, none⟩ (.int .u64 sd)) = w3 at *
    have R := n_R; clear n_R
    have S := n_S; clear n_S
    rename_i K0 hK0
    refine AnyX.start (S := (fun w' => w'.cell? ⟨g, 0, none⟩ = some (.slice (some ⟨b, off, none⟩) code.length c) ∧ w'.cell? ⟨g, 1, none⟩ = some (.int .i64 ((k + 1 : Nat) : Int)) ∧ w'.cell? ⟨g, 2, none⟩ = some (.int .u64 sd))) (X := (fun _ => false)) (by kernel_rfl) ?_
    have al : Below w3.heap.size w3 w3.drew := belowDrewN (Below.refl _ _) 1
    have hs_w4 := al.size
    replace R := R.below al
    replace S := S.below (by decide) al
    have hB := al
    generalize w3.drew = w4 at *
    clear al
    have hS : (fun w' => w'.cell? ⟨g, 0, none⟩ = some (.slice (some ⟨b, off, none⟩) code.length c) ∧ w'.cell? ⟨g, 1, none⟩ = some (.int .i64 ((k + 1 : Nat) : Int)) ∧ w'.cell? ⟨g, 2, none⟩ = some (.int .u64 sd)) w4 := ⟨R.cells 0, R.cells 1, R.cells 2⟩
    refine AnyX.take (i := 0) (oi := _) (v := ?_) (by rw [List.getElem?_toArray]; rfl) (by kernel_rfl) (by kernel_rfl) (by kernel_rfl) (by kernel_rfl) (by kernel_rfl) (by exact fun _ _ _ h => h) (Or.inl ⟨by rfl, ?_⟩) hS ?_
    rotate_left
    · (intro wS hSw; (try dsimp only at hSw); go_simp; try with_reducible rfl)
    try simp only [Act.put, List.setIfInBounds_toArray, List.set_cons_zero, List.set_cons_succ]
    refine AnyX.take (i := 1) (oi := _) (v := ?_) (by rw [List.getElem?_toArray]; rfl) (by kernel_rfl) (by kernel_rfl) (by kernel_rfl) (by kernel_rfl) (by kernel_rfl) (by exact fun _ _ _ h => h) (Or.inl ⟨by rfl, ?_⟩) hS ?_
    rotate_left
    · (intro wS hSw; (try dsimp only at hSw); go_simp; try with_reducible rfl)
    try simp only [Act.put, List.setIfInBounds_toArray, List.set_cons_zero, List.set_cons_succ]
    refine AnyX.take (i := 2) (oi := _) (v := ?_) (by rw [List.getElem?_toArray]; rfl) (by kernel_rfl) (by kernel_rfl) (by kernel_rfl) (by kernel_rfl) (by kernel_rfl) (by exact fun _ _ _ h => h) (Or.inl ⟨by rfl, ?_⟩) hS ?_
    rotate_left
    · (intro wS hSw; (try dsimp only at hSw); go_simp; try with_reducible rfl)
    try simp only [Act.put, List.setIfInBounds_toArray, List.set_cons_zero, List.set_cons_succ]
    refine AnyX.take (i := 3) (oi := _) (v := ?_) (by rw [List.getElem?_toArray]; rfl) (by kernel_rfl) (by kernel_rfl) (by kernel_rfl) (by kernel_rfl) (by kernel_rfl) (by exact fun _ _ _ h => h) (Or.inl ⟨by rfl, ?_⟩) hS ?_
    rotate_left
    · (intro wS hSw; (try dsimp only at hSw); go_simp; try with_reducible rfl)
    try simp only [Act.put, List.setIfInBounds_toArray, List.set_cons_zero, List.set_cons_succ]
    refine AnyX.take (i := 4) (oi := _) (v := ?_) (by rw [List.getElem?_toArray]; rfl) (by kernel_rfl) (by kernel_rfl) (by kernel_rfl) (by kernel_rfl) (by kernel_rfl) (by exact fun _ _ _ h => h) (Or.inl ⟨by rfl, ?_⟩) hS ?_
    rotate_left
    · (intro wS hSw; (try dsimp only at hSw); go_simp; try with_reducible rfl)
    try simp only [Act.put, List.setIfInBounds_toArray, List.set_cons_zero, List.set_cons_succ]
    refine AnyX.take (i := 5) (oi := _) (v := ?_) (by rw [List.getElem?_toArray]; rfl) (by kernel_rfl) (by kernel_rfl) (by kernel_rfl) (by kernel_rfl) (by kernel_rfl) (by exact fun _ _ _ h => h) (Or.inl ⟨by rfl, ?_⟩) hS ?_
    rotate_left
    · (intro wS hSw; (try dsimp only at hSw); go_simp; try with_reducible rfl)
    try simp only [Act.put, List.setIfInBounds_toArray, List.set_cons_zero, List.set_cons_succ]
    refine AnyX.take (i := 6) (oi := _) (v := ?_) (by rw [List.getElem?_toArray]; rfl) (by kernel_rfl) (by kernel_rfl) (by kernel_rfl) (by kernel_rfl) (by kernel_rfl) (by exact fun _ _ _ h => h) (Or.inl ⟨by rfl, ?_⟩) hS ?_
    rotate_left
    · (intro wS hSw; (try dsimp only at hSw); go_simp; try with_reducible rfl)
    try simp only [Act.put, List.setIfInBounds_toArray, List.set_cons_zero, List.set_cons_succ]
    refine AnyX.take (i := 7) (oi := _) (v := ?_) (by rw [List.getElem?_toArray]; rfl) (by kernel_rfl) (by kernel_rfl) (by kernel_rfl) (by kernel_rfl) (by kernel_rfl) (by exact fun _ _ _ h => h) (Or.inl ⟨by rfl, ?_⟩) hS ?_
    rotate_left
    · (intro wS hSw; (try dsimp only at hSw); go_simp; try with_reducible rfl)
    try simp only [Act.put, List.setIfInBounds_toArray, List.set_cons_zero, List.set_cons_succ]
    refine AnyX.take (i := 8) (oi := _) (v := ?_) (by rw [List.getElem?_toArray]; rfl) (by kernel_rfl) (by kernel_rfl) (by kernel_rfl) (by kernel_rfl) (by kernel_rfl) (by exact fun _ _ _ h => h) (Or.inl ⟨by rfl, ?_⟩) hS ?_
    rotate_left
    · (intro wS hSw; (try dsimp only at hSw); go_simp; try with_reducible rfl)
    try simp only [Act.put, List.setIfInBounds_toArray, List.set_cons_zero, List.set_cons_succ]
    refine AnyX.take (i := 9) (oi := _) (v := ?_) (by rw [List.getElem?_toArray]; rfl) (by kernel_rfl) (by kernel_rfl) (by kernel_rfl) (by kernel_rfl) (by kernel_rfl) (by exact fun _ _ _ h => h) (Or.inl ⟨by rfl, ?_⟩) hS ?_
    rotate_left
    · (intro wS hSw; (try dsimp only at hSw); go_simp; try with_reducible rfl)
    try simp only [Act.put, List.setIfInBounds_toArray, List.set_cons_zero, List.set_cons_succ]
    refine AnyX.done (by kernel_rfl) ?_ _
    (try clear hS)
    refine hK0 _ _ ?_
    clear hK0 K0
    have n_K2 := n_K.trans (Keep.ofBelow hB)
    have c_R := R.cells; have f_R := R.frozens
    go_wp2_with fail
    refine bodyPost_ret (v := .int .i64 (IntKind.i64.wrap z)) ?_ rfl ?_
    · simp [results, Tryz.results215, go_sem]
    · refine ⟨z.toNat, ?_, by omega, ⟨k + 1, sd, R, S, hF, by omega, hs0, hs1⟩, n_K2⟩
      rw [show IntKind.i64.wrap z = ((z.toNat : Nat) : Int) from by rw [IntKind.wrap_i64]; omega]
  · have hB := Below.refl w.heap.size w
    go_enter Tryz.func215, Tryz.ntmps215
    go_wp2_with fail
    refine AnyX.start (S := (fun w' => w'.cell? ⟨g, 0, none⟩ = some (.slice a code.length c) ∧ w'.cell? ⟨g, 1, none⟩ = some (.int .i64 k) ∧ w'.cell? ⟨g, 2, none⟩ = some (.int .u64 seed))) (X := (fun _ => false)) (by kernel_rfl) ?_
    have al : Below w.heap.size w w.drew := belowDrewN (Below.refl _ _) 1
    have hs_w5 := al.size
    replace R := R.below al
    replace S := S.below (by decide) al
    replace hB := tr hB al (Nat.le_refl _)
    generalize w.drew = w5 at *
    clear al
    have hS : (fun w' => w'.cell? ⟨g, 0, none⟩ = some (.slice a code.length c) ∧ w'.cell? ⟨g, 1, none⟩ = some (.int .i64 k) ∧ w'.cell? ⟨g, 2, none⟩ = some (.int .u64 seed)) w5 := ⟨R.cells 0, R.cells 1, R.cells 2⟩
    refine AnyX.take (i := 0) (oi := _) (v := ?_) (by rw [List.getElem?_toArray]; rfl) (by kernel_rfl) (by kernel_rfl) (by kernel_rfl) (by kernel_rfl) (by kernel_rfl) (by exact fun _ _ _ h => h) (Or.inl ⟨by rfl, ?_⟩) hS ?_
    rotate_left
    · (intro wS hSw; (try dsimp only at hSw); go_simp; try with_reducible rfl)
    try simp only [Act.put, List.setIfInBounds_toArray, List.set_cons_zero, List.set_cons_succ]
    refine AnyX.take (i := 1) (oi := _) (v := ?_) (by rw [List.getElem?_toArray]; rfl) (by kernel_rfl) (by kernel_rfl) (by kernel_rfl) (by kernel_rfl) (by kernel_rfl) (by exact fun _ _ _ h => h) (Or.inl ⟨by rfl, ?_⟩) hS ?_
    rotate_left
    · (intro wS hSw; (try dsimp only at hSw); go_simp; try with_reducible rfl)
    try simp only [Act.put, List.setIfInBounds_toArray, List.set_cons_zero, List.set_cons_succ]
    refine AnyX.take (i := 2) (oi := _) (v := ?_) (by rw [List.getElem?_toArray]; rfl) (by kernel_rfl) (by kernel_rfl) (by kernel_rfl) (by kernel_rfl) (by kernel_rfl) (by exact fun _ _ _ h => h) (Or.inl ⟨by rfl, ?_⟩) hS ?_
    rotate_left
    · (intro wS hSw; (try dsimp only at hSw); go_simp; try with_reducible rfl)
    try simp only [Act.put, List.setIfInBounds_toArray, List.set_cons_zero, List.set_cons_succ]
    refine AnyX.take (i := 3) (oi := _) (v := ?_) (by rw [List.getElem?_toArray]; rfl) (by kernel_rfl) (by kernel_rfl) (by kernel_rfl) (by kernel_rfl) (by kernel_rfl) (by exact fun _ _ _ h => h) (Or.inl ⟨by rfl, ?_⟩) hS ?_
    rotate_left
    · (intro wS hSw; (try dsimp only at hSw); go_simp; try with_reducible rfl)
    try simp only [Act.put, List.setIfInBounds_toArray, List.set_cons_zero, List.set_cons_succ]
    refine AnyX.take (i := 4) (oi := _) (v := ?_) (by rw [List.getElem?_toArray]; rfl) (by kernel_rfl) (by kernel_rfl) (by kernel_rfl) (by kernel_rfl) (by kernel_rfl) (by exact fun _ _ _ h => h) (Or.inl ⟨by rfl, ?_⟩) hS ?_
    rotate_left
    · (intro wS hSw; (try dsimp only at hSw); go_simp; try with_reducible rfl)
    try simp only [Act.put, List.setIfInBounds_toArray, List.set_cons_zero, List.set_cons_succ]
    refine AnyX.take (i := 5) (oi := _) (v := ?_) (by rw [List.getElem?_toArray]; rfl) (by kernel_rfl) (by kernel_rfl) (by kernel_rfl) (by kernel_rfl) (by kernel_rfl) (by exact fun _ _ _ h => h) (Or.inl ⟨by rfl, ?_⟩) hS ?_
    rotate_left
    · (intro wS hSw; (try dsimp only at hSw); go_simp; try with_reducible rfl)
    try simp only [Act.put, List.setIfInBounds_toArray, List.set_cons_zero, List.set_cons_succ]
    refine AnyX.take (i := 6) (oi := _) (v := ?_) (by rw [List.getElem?_toArray]; rfl) (by kernel_rfl) (by kernel_rfl) (by kernel_rfl) (by kernel_rfl) (by kernel_rfl) (by exact fun _ _ _ h => h) (Or.inl ⟨by rfl, ?_⟩) hS ?_
    rotate_left
    · (intro wS hSw; (try dsimp only at hSw); go_simp; try with_reducible rfl)
    try simp only [Act.put, List.setIfInBounds_toArray, List.set_cons_zero, List.set_cons_succ]
    refine AnyX.take (i := 7) (oi := _) (v := ?_) (by rw [List.getElem?_toArray]; rfl) (by kernel_rfl) (by kernel_rfl) (by kernel_rfl) (by kernel_rfl) (by kernel_rfl) (by exact fun _ _ _ h => h) (Or.inl ⟨by rfl, ?_⟩) hS ?_
    rotate_left
    · (intro wS hSw; (try dsimp only at hSw); go_simp; try with_reducible rfl)
    try simp only [Act.put, List.setIfInBounds_toArray, List.set_cons_zero, List.set_cons_succ]
    refine AnyX.take (i := 8) (oi := _) (v := ?_) (by rw [List.getElem?_toArray]; rfl) (by kernel_rfl) (by kernel_rfl) (by kernel_rfl) (by kernel_rfl) (by kernel_rfl) (by exact fun _ _ _ h => h) (Or.inl ⟨by rfl, ?_⟩) hS ?_
    rotate_left
    · (intro wS hSw; (try dsimp only at hSw); go_simp; try with_reducible rfl)
    try simp only [Act.put, List.setIfInBounds_toArray, List.set_cons_zero, List.set_cons_succ]
    refine AnyX.take (i := 9) (oi := _) (v := ?_) (by rw [List.getElem?_toArray]; rfl) (by kernel_rfl) (by kernel_rfl) (by kernel_rfl) (by kernel_rfl) (by kernel_rfl) (by exact fun _ _ _ h => h) (Or.inl ⟨by rfl, ?_⟩) hS ?_
    rotate_left
    · (intro wS hSw; (try dsimp only at hSw); go_simp; try with_reducible rfl)
    try simp only [Act.put, List.setIfInBounds_toArray, List.set_cons_zero, List.set_cons_succ]
    refine AnyX.done (by kernel_rfl) ?_ _
    (try clear hS)
    have c_R := R.cells; have f_R := R.frozens
    go_wp2_with fail
    clear c_R f_R
    have n_K : Keep [g] w ((w5.setCell ⟨g, 1, none⟩ (.int .i64 ((k : Int) + 1))).setCell ⟨g, 2, none⟩ (.int .u64 (IntKind.u64.wrap (IntKind.u64.wrap (IntKind.u64.wrap (seed * 6364136223846793005)) + 840840)))) := ((Keep.ofBelow hB).setCell (p := ⟨g, 1, none⟩) (by simp) _).setCell (p := ⟨g, 2, none⟩) (by simp) _
    have n_R : Row ((w5.setCell ⟨g, 1, none⟩ (.int .i64 ((k : Int) + 1))).setCell ⟨g, 2, none⟩ (.int .u64 (IntKind.u64.wrap (IntKind.u64.wrap (IntKind.u64.wrap (seed * 6364136223846793005)) + 840840)))) g 123 [.slice a code.length c, .int .i64 ((k + 1 : Nat) : Int), .int .u64 (IntKind.u64.wrap (IntKind.u64.wrap (IntKind.u64.wrap (seed * 6364136223846793005)) + 840840))] := by simpa using ((R.set 1 (.int .i64 ((k : Int) + 1))).set 2 (.int .u64 (IntKind.u64.wrap (IntKind.u64.wrap (IntKind.u64.wrap (seed * 6364136223846793005)) + 840840))))
    have n_S : Sl EByte ((w5.setCell ⟨g, 1, none⟩ (.int .i64 ((k : Int) + 1))).setCell ⟨g, 2, none⟩ (.int .u64 (IntKind.u64.wrap (IntKind.u64.wrap (IntKind.u64.wrap (seed * 6364136223846793005)) + 840840)))) (Value.slice a code.length c) code F := S.frame (fun b hb => by have : b ≠ g := fun e => hF (e ▸ hb); repeat rw [Below.heap_setCell _ _ _ _ (by simp <;> omega)])
    have hs0 : 0 ≤ (IntKind.u64.wrap (IntKind.u64.wrap (IntKind.u64.wrap (seed * 6364136223846793005)) + 840840)) ∧ (IntKind.u64.wrap (IntKind.u64.wrap (IntKind.u64.wrap (seed * 6364136223846793005)) + 840840)) < 18446744073709551616 := by rw [IntKind.wrap_u64]; omega
    clear R S hB
    generalize (IntKind.u64.wrap (IntKind.u64.wrap (IntKind.u64.wrap (seed * 6364136223846793005)) + 840840)) = sd at *
    obtain ⟨hs0, hs1⟩ := hs0
    generalize ((w5.setCell ⟨g, 1, none⟩ (.int .i64 ((k : Int) + 1))).setCell ⟨g, 2, none⟩ (.int .u64 sd)) = w6 at *
    have R := n_R; clear n_R
    have S := n_S; clear n_S
    rename_i K0 hK0
    refine AnyX.start (S := (fun w' => w'.cell? ⟨g, 0, none⟩ = some (.slice a code.length c) ∧ w'.cell? ⟨g, 1, none⟩ = some (.int .i64 ((k + 1 : Nat) : Int)) ∧ w'.cell? ⟨g, 2, none⟩ = some (.int .u64 sd))) (X := (fun _ => false)) (by kernel_rfl) ?_
    have al : Below w6.heap.size w6 w6.drew := belowDrewN (Below.refl _ _) 1
    have hs_w7 := al.size
    replace R := R.below al
    replace S := S.below (by decide) al
    have hB := al
    generalize w6.drew = w7 at *
    clear al
    have hS : (fun w' => w'.cell? ⟨g, 0, none⟩ = some (.slice a code.length c) ∧ w'.cell? ⟨g, 1, none⟩ = some (.int .i64 ((k + 1 : Nat) : Int)) ∧ w'.cell? ⟨g, 2, none⟩ = some (.int .u64 sd)) w7 := ⟨R.cells 0, R.cells 1, R.cells 2⟩
    refine AnyX.take (i := 0) (oi := _) (v := ?_) (by rw [List.getElem?_toArray]; rfl) (by kernel_rfl) (by kernel_rfl) (by kernel_rfl) (by kernel_rfl) (by kernel_rfl) (by exact fun _ _ _ h => h) (Or.inl ⟨by rfl, ?_⟩) hS ?_
    rotate_left
    · (intro wS hSw; (try dsimp only at hSw); go_simp; try with_reducible rfl)
    try simp only [Act.put, List.setIfInBounds_toArray, List.set_cons_zero, List.set_cons_succ]
    refine AnyX.take (i := 1) (oi := _) (v := ?_) (by rw [List.getElem?_toArray]; rfl) (by kernel_rfl) (by kernel_rfl) (by kernel_rfl) (by kernel_rfl) (by kernel_rfl) (by exact fun _ _ _ h => h) (Or.inl ⟨by rfl, ?_⟩) hS ?_
    rotate_left
    · (intro wS hSw; (try dsimp only at hSw); go_simp; try with_reducible rfl)
    try simp only [Act.put, List.setIfInBounds_toArray, List.set_cons_zero, List.set_cons_succ]
    refine AnyX.take (i := 2) (oi := _) (v := ?_) (by rw [List.getElem?_toArray]; rfl) (by kernel_rfl) (by kernel_rfl) (by kernel_rfl) (by kernel_rfl) (by kernel_rfl) (by exact fun _ _ _ h => h) (Or.inl ⟨by rfl, ?_⟩) hS ?_
    rotate_left
    · (intro wS hSw; (try dsimp only at hSw); go_simp; try with_reducible rfl)
    try simp only [Act.put, List.setIfInBounds_toArray, List.set_cons_zero, List.set_cons_succ]
    refine AnyX.take (i := 3) (oi := _) (v := ?_) (by rw [List.getElem?_toArray]; rfl) (by kernel_rfl) (by kernel_rfl) (by kernel_rfl) (by kernel_rfl) (by kernel_rfl) (by exact fun _ _ _ h => h) (Or.inl ⟨by rfl, ?_⟩) hS ?_
    rotate_left
    · (intro wS hSw; (try dsimp only at hSw); go_simp; try with_reducible rfl)
    try simp only [Act.put, List.setIfInBounds_toArray, List.set_cons_zero, List.set_cons_succ]
    refine AnyX.take (i := 4) (oi := _) (v := ?_) (by rw [List.getElem?_toArray]; rfl) (by kernel_rfl) (by kernel_rfl) (by kernel_rfl) (by kernel_rfl) (by kernel_rfl) (by exact fun _ _ _ h => h) (Or.inl ⟨by rfl, ?_⟩) hS ?_
    rotate_left
    · (intro wS hSw; (try dsimp only at hSw); go_simp; try with_reducible rfl)
    try simp only [Act.put, List.setIfInBounds_toArray, List.set_cons_zero, List.set_cons_succ]
    refine AnyX.take (i := 5) (oi := _) (v := ?_) (by rw [List.getElem?_toArray]; rfl) (by kernel_rfl) (by kernel_rfl) (by kernel_rfl) (by kernel_rfl) (by kernel_rfl) (by exact fun _ _ _ h => h) (Or.inl ⟨by rfl, ?_⟩) hS ?_
    rotate_left
    · (intro wS hSw; (try dsimp only at hSw); go_simp; try with_reducible rfl)
    try simp only [Act.put, List.setIfInBounds_toArray, List.set_cons_zero, List.set_cons_succ]
    refine AnyX.take (i := 6) (oi := _) (v := ?_) (by rw [List.getElem?_toArray]; rfl) (by kernel_rfl) (by kernel_rfl) (by kernel_rfl) (by kernel_rfl) (by kernel_rfl) (by exact fun _ _ _ h => h) (Or.inl ⟨by rfl, ?_⟩) hS ?_
    rotate_left
    · (intro wS hSw; (try dsimp only at hSw); go_simp; try with_reducible rfl)
    try simp only [Act.put, List.setIfInBounds_toArray, List.set_cons_zero, List.set_cons_succ]
    refine AnyX.take (i := 7) (oi := _) (v := ?_) (by rw [List.getElem?_toArray]; rfl) (by kernel_rfl) (by kernel_rfl) (by kernel_rfl) (by kernel_rfl) (by kernel_rfl) (by exact fun _ _ _ h => h) (Or.inl ⟨by rfl, ?_⟩) hS ?_
    rotate_left
    · (intro wS hSw; (try dsimp only at hSw); go_simp; try with_reducible rfl)
    try simp only [Act.put, List.setIfInBounds_toArray, List.set_cons_zero, List.set_cons_succ]
    refine AnyX.take (i := 8) (oi := _) (v := ?_) (by rw [List.getElem?_toArray]; rfl) (by kernel_rfl) (by kernel_rfl) (by kernel_rfl) (by kernel_rfl) (by kernel_rfl) (by exact fun _ _ _ h => h) (Or.inl ⟨by rfl, ?_⟩) hS ?_
    rotate_left
    · (intro wS hSw; (try dsimp only at hSw); go_simp; try with_reducible rfl)
    try simp only [Act.put, List.setIfInBounds_toArray, List.set_cons_zero, List.set_cons_succ]
    refine AnyX.take (i := 9) (oi := _) (v := ?_) (by rw [List.getElem?_toArray]; rfl) (by kernel_rfl) (by kernel_rfl) (by kernel_rfl) (by kernel_rfl) (by kernel_rfl) (by exact fun _ _ _ h => h) (Or.inl ⟨by rfl, ?_⟩) hS ?_
    rotate_left
    · (intro wS hSw; (try dsimp only at hSw); go_simp; try with_reducible rfl)
    try simp only [Act.put, List.setIfInBounds_toArray, List.set_cons_zero, List.set_cons_succ]
    refine AnyX.done (by kernel_rfl) ?_ _
    (try clear hS)
    refine hK0 _ _ ?_
    clear hK0 K0
    have n_K2 := n_K.trans (Keep.ofBelow hB)
    obtain ⟨q, hq, hq2⟩ : ∃ q : Nat, bits BinOp.and IntKind.u64 (sd / 1099511627776) 255 = (q : Int) ∧ q ≤ 255 := by
      refine ⟨(sd / 1099511627776).toNat &&& 255, ?_, Nat.and_le_right⟩
      rw [← bits_and_u64_nat _ _ (by omega) (by omega)]
      congr 1; omega
    have c_R := R.cells; have f_R := R.frozens
    go_wp2_with fail
    refine bodyPost_ret (v := .int .i64 (q : Int)) ?_ rfl ?_
    · simp [results, Tryz.results215, go_sem, hq]
    · exact ⟨q, rfl, hq2, ⟨k + 1, sd, R, S, hF, by omega, hs0, hs1⟩, n_K2⟩
def PPick (B g : Nat) (F : CuF) (n : Int) (w : World) (e : Ending) (w' : World) : Prop := ∃ r : Nat, e = .returned (.int .i64 r) ∧ (r = 0 ∨ (r : Int) < n) ∧ Cur (B + 2) w' g F ∧ Keep [g] w w'
set_option maxHeartbeats 1600000 in
set_option maxRecDepth 100000 in
theorem pick_c (B g : Nat) (F : CuF) (n : Int) (w : World) (h : Cur B w g F) (hB0 : B ≤ 1099511627774) (hn : n ≤ 1048576) :
    Calls Tryz.prog 126 #[.pointer (some ⟨g, 0, none⟩), .int .i64 n] w (PPick B g F n w) := by
  have hN1 := next_c B g F w h (by omega)
  have hN2 := fun w h => next_c (B + 1) g F w h (by omega)
  replace hN1 := Lib.hid hN1; replace hN2 := Lib.hid hN2
  by_cases h1 : n ≤ 1
  · go_enter Tryz.func126, Tryz.ntmps126
    go_wp2_with fail
    refine bodyPost_ret (v := .int .i64 0) ?_ rfl ⟨0, rfl, .inl rfl, h.mono (by omega), Keep.refl _ _⟩
    simp [results, Tryz.results126, go_sem]
  · by_cases h2 : n ≤ 200
    · go_enter Tryz.func126, Tryz.ntmps126
      go_wp2_with fail
      refine hN1.out.mono ?_
      rintro e w1 ⟨r, rfl, hr, hc, hk⟩
      have hm0 : 0 ≤ (r : Int) % n := Int.emod_nonneg _ (by omega)
      have hm1 : (r : Int) % n < n := Int.emod_lt_of_pos _ (by omega)
      go_wp2_with fail
      refine bodyPost_ret (v := .int .i64 ((r : Int) % n)) ?_ rfl ⟨((r : Int) % n).toNat, by rw [Int.toNat_of_nonneg hm0], .inr (by omega), hc.mono (by omega), hk⟩
      simp [results, Tryz.results126, go_sem]
    · go_enter Tryz.func126, Tryz.ntmps126
      go_wp2_with fail
      refine hN1.out.mono ?_
      rintro e w1 ⟨r, rfl, hr, hc, hk⟩
      go_wp2_with fail
      refine (hN2.out _ hc).mono ?_
      rintro e w2 ⟨r2, rfl, hr2, hc2, hk2⟩
      have hm0 : 0 ≤ ((r : Int) * 256 + r2) % n := Int.emod_nonneg _ (by omega)
      have hm1 : ((r : Int) * 256 + r2) % n < n := Int.emod_lt_of_pos _ (by omega)
      go_wp2_with fail
      refine bodyPost_ret (v := .int .i64 (((r : Int) * 256 + r2) % n)) ?_ rfl ⟨(((r : Int) * 256 + r2) % n).toNat, by rw [Int.toNat_of_nonneg hm0], .inr (by omega), hc2, hk.trans hk2⟩
      simp [results, Tryz.results126, go_sem]
def POne (B g : Nat) (F : CuF) (w : World) (e : Ending) (w' : World) : Prop := ∃ b : Bool, e = .returned (.bool b) ∧ Cur (B + 2) w' g F ∧ Keep [g] w w'
theorem one_c (B g : Nat) (F : CuF) (n : Int) (w : World) (h : Cur B w g F) (hB0 : B ≤ 1099511627774) (hn : n ≤ 1048576) :
    Calls Tryz.prog 95 #[.pointer (some ⟨g, 0, none⟩), .int .i64 n] w (POne B g F w) := by
  have hN1 := Lib.hid (pick_c B g F n w h hB0 hn)
  go_enter Tryz.func95, Tryz.ntmps95
  go_wp2_with fail
  refine hN1.out.mono ?_
  rintro e w1 ⟨r, rfl, hr, hc, hk⟩
  go_wp2_with fail
  refine bodyPost_ret (v := .bool ((r : Int) == 0)) ?_ rfl ⟨_, rfl, hc, hk⟩
  simp [results, Tryz.results95, go_sem]
def PAmong (B g : Nat) (F : CuF) (xs : List Int) (w : World) (e : Ending) (w' : World) : Prop := ∃ s ∈ xs, e = .returned (.int .i64 s) ∧ Cur (B + 2) w' g F ∧ Keep [g] w w'
theorem among_c (B g : Nat) (F : CuF) (v : Value) (xs : List Int) (K : List Nat) (w : World) (h : Cur B w g F) (hB0 : B ≤ 1099511627774) (hx : Sl EInt w v xs K) (h0 : 0 < xs.length) (h1 : xs.length ≤ 1048576) (hg : g ∉ K) :
    Calls Tryz.prog 146 #[.pointer (some ⟨g, 0, none⟩), v] w (PAmong B g F xs w) := by
  obtain ⟨a, c, rfl⟩ := hx.slice
  have hN1 := Lib.hid (pick_c B g F xs.length w h hB0 (by omega))
  go_enter Tryz.func146, Tryz.ntmps146
  go_wp2_with fail
  refine hN1.out.mono ?_
  rintro e w1 ⟨r, rfl, hr, hc, hk⟩
  have hr2 : r < xs.length := by omega
  obtain ⟨b, off, rfl, hcell⟩ := (hx.keep hk (fun b hb e => hg (by simp at e; rw [← e]; exact hb)) (by decide)).int.2.2 r hr2
  clear hr
  have hm := List.getElem_mem hr2
  generalize xs[r] = s at *
  go_wp2_with fail
  refine bodyPost_ret (v := .int .i64 s) ?_ rfl ⟨s, hm, rfl, hc, hk⟩
  simp [results, Tryz.results146, go_sem]
end Go.Proofs.YtgogcgkocjpgoaaGreatDoor
/- Draws, for the engine: the cursor. -/
namespace Go.Proofs.YtgogcgkocjpgoaaGreatDoor
open Go.RowKit
structure CuS where
  k : Nat
  seed : Int
structure CuOk (B : Nat) (s : CuS) : Prop where
  k : s.k ≤ B
  s0 : 0 ≤ s.seed
  s1 : s.seed < 18446744073709551616
theorem CuOk.mono {B B' : Nat} {s : CuS} (h : CuOk B s) (hb : B ≤ B') : CuOk B' s := ⟨Nat.le_trans h.k hb, h.s0, h.s1⟩
theorem cu_fn {f : FuncId} {args : List Value} {σ : Type} {C : σ → Prop} {v : σ → Value} {B B' g : Nat} {F : CuF} {s : CuS} {X : List Pc} (hX : X.all (fun p => !p.mu) = true) (ok : CuOk B s)
    (h : ∀ w, Cur B w g F → Hol X w → (∀ p ∈ X, g ∉ p.F) → Calls Tryz.prog f args.toArray w fun e w' => ∃ r, C r ∧ e = .returned (v r) ∧ Cur B' w' g F ∧ Keep [g] w w') :
    Fn Tryz.prog f args (.sl EByte (.slice F.a F.code.length F.c) F.code F.bs :: X) [.row g 123 0 [] [.slice F.a F.code.length F.c, .int .i64 (s.k : Nat), .int .u64 s.seed] []] (fun (z : σ × CuS) => C z.1 ∧ CuOk B' z.2) (fun z => v z.1) (fun z => [.row g 123 0 [] [.slice F.a F.code.length F.c, .int .i64 (z.2.k : Nat), .int .u64 z.2.seed] []]) := fun w hH hS => by
  have h1 := hH (.row g 123 0 [] [.slice F.a F.code.length F.c, .int .i64 (s.k : Nat), .int .u64 s.seed] []) (by simp)
  have h2 := hH (.sl EByte (.slice F.a F.code.length F.c) F.code F.bs) (by simp)
  have ap := hS.1
  have hg : g ∉ F.bs := fun hm => ap (.sl EByte (.slice F.a F.code.length F.c) F.code F.bs) (by simp) (by simp [Pc.mu]) g (by simp [Pc.F]) hm
  refine (h w ⟨s.k, s.seed, by simpa using h1.2, h2.2, hg, ok.k, ok.s0, ok.s1⟩ (fun p hp => hH p (by simp [hp])) (fun p hp hm => ap p (by simp [hp]) (by simp [Pc.mu]) g (by simp [Pc.F]) hm)).mono ?_
  rintro e w' ⟨r, hC, he, ⟨k, seed, R, S, -, hk, h0, h3⟩, hK⟩
  refine ⟨(r, ⟨k, seed⟩), ⟨hC, hk, h0, h3⟩, he, hol1 ⟨rfl, by simpa using R⟩, ⟨by simp, trivial⟩, hK.mono (fun b hb _ => by simpa [fp, Pc.F] using hb), fun p hp b hb => ?_⟩
  simp at hp
  subst hp
  exact .inr (.inl ⟨_, List.mem_cons_self .., by simpa [Pc.F] using hb⟩)
theorem pick_f (B g : Nat) (F : CuF) (n : Int) (s : CuS) (ok : CuOk B s) (hB : B ≤ 1000000000000) (hn : n ≤ 1048576) :
    Fn Tryz.prog 126 [ptr g 0 0, .int .i64 n] [.sl EByte (.slice F.a F.code.length F.c) F.code F.bs] [.row g 123 0 [] [.slice F.a F.code.length F.c, .int .i64 (s.k : Nat), .int .u64 s.seed] []] (fun (z : Nat × CuS) => (z.1 = 0 ∨ (z.1 : Int) < n) ∧ CuOk (B + 2) z.2) (fun z => .int .i64 (z.1 : Nat)) (fun z => [.row g 123 0 [] [.slice F.a F.code.length F.c, .int .i64 (z.2.k : Nat), .int .u64 z.2.seed] []]) :=
  cu_fn (C := fun r : Nat => r = 0 ∨ (r : Int) < n) (v := fun r => .int .i64 (r : Nat)) (X := []) rfl ok fun w h _ _ => (pick_c B g F n w h (by omega) hn).mono fun _ _ ⟨r, he, h1, h2, h3⟩ => ⟨r, h1, he, h2, h3⟩
theorem one_f (B g : Nat) (F : CuF) (n : Int) (s : CuS) (ok : CuOk B s) (hB : B ≤ 1000000000000) (hn : n ≤ 1048576) :
    Fn Tryz.prog 95 [ptr g 0 0, .int .i64 n] [.sl EByte (.slice F.a F.code.length F.c) F.code F.bs] [.row g 123 0 [] [.slice F.a F.code.length F.c, .int .i64 (s.k : Nat), .int .u64 s.seed] []] (fun (z : Bool × CuS) => True ∧ CuOk (B + 2) z.2) (fun z => .bool z.1) (fun z => [.row g 123 0 [] [.slice F.a F.code.length F.c, .int .i64 (z.2.k : Nat), .int .u64 z.2.seed] []]) :=
  cu_fn (C := fun _ : Bool => True) (v := fun r => .bool r) (X := []) rfl ok fun w h _ _ => (one_c B g F n w h (by omega) hn).mono fun _ _ ⟨r, he, h2, h3⟩ => ⟨r, trivial, he, h2, h3⟩
theorem among_f (B g : Nat) (F : CuF) (v : Value) (xs : List Int) (G : List Nat) (s : CuS) (ok : CuOk B s) (hB : B ≤ 1000000000000) (h0 : 0 < xs.length) (h1 : xs.length ≤ 1048576) :
    Fn Tryz.prog 146 [ptr g 0 0, v] [.sl EByte (.slice F.a F.code.length F.c) F.code F.bs, .sl EInt v xs G] [.row g 123 0 [] [.slice F.a F.code.length F.c, .int .i64 (s.k : Nat), .int .u64 s.seed] []] (fun (z : Int × CuS) => z.1 ∈ xs ∧ CuOk (B + 2) z.2) (fun z => .int .i64 z.1) (fun z => [.row g 123 0 [] [.slice F.a F.code.length F.c, .int .i64 (z.2.k : Nat), .int .u64 z.2.seed] []]) :=
  cu_fn (C := fun r : Int => r ∈ xs) (v := fun r => .int .i64 r) (X := [.sl EInt v xs G]) rfl ok fun w h hX hg => (among_c B g F v xs G w h (by omega) (hX (.sl EInt v xs G) (by simp)).2 h0 h1 (hg (.sl EInt v xs G) (by simp))).mono fun _ _ ⟨r, h1, he, h2, h3⟩ => ⟨r, h1, he, h2, h3⟩
end Go.Proofs.YtgogcgkocjpgoaaGreatDoor
/- Walks: serials: what lies behind, gaps, what is before what. -/
namespace Go.Proofs.YtgogcgkocjpgoaaGreatDoor
open Go.RowKit

/-- the serial n steps behind x -/
def aft (x n : Int) : Int := (x + n) % 65536
theorem aft_bd (a b : Int) : 0 ≤ aft a b ∧ aft a b ≤ 65535 := by unfold aft; omega
theorem l2After_c (x n : Int) (w : World) (h0 : -131072 ≤ x + n) (h1 : x + n ≤ 4611686018427387904) :
    Calls Tryz.prog 185 #[.int .i64 x, .int .i64 n] w fun e w' => e = .returned (.int .i64 (aft x n)) ∧ w = w' := by
  have h2 : 0 ≤ x + n + 131072 := by omega
  go_enter Tryz.func185, Tryz.ntmps185
  go_wp2
  go_ret
  exact ⟨ret_int (by unfold aft; omega), rfl⟩
end Go.Proofs.YtgogcgkocjpgoaaGreatDoor
/- Draws, for the engine: serials. -/
namespace Go.Proofs.YtgogcgkocjpgoaaGreatDoor
open Go.RowKit
theorem Fn.weak {P : Program} {f : FuncId} {args : List Value} {A M : List Pc} {σ : Type} {C C' : σ → Prop} {v : σ → Value} {N : σ → List Pc} (h : Fn P f args A M C v N) (hC : ∀ s, C s → C' s) : Fn P f args A M C' v N := fun w h1 h2 => (h w h1 h2).mono fun _ _ ⟨s, hc, r⟩ => ⟨s, hC s hc, r⟩
theorem flat_int (w : World) : ∀ xs : List Int, Flat EInt w (xs.map (Value.int .i64)) xs []
  | [] => ⟨rfl, rfl⟩
  | x :: r => ⟨[.int .i64 x], r.map (Value.int .i64), [], [], rfl, rfl, ⟨rfl, rfl⟩, flat_int w r⟩
set_option maxRecDepth 100000 in
theorem serial_f (B g : Nat) (F : CuF) (s : CuS) (ok : CuOk B s) (hB : B ≤ 900000000000) :
    Fn Tryz.prog 183 [ptr g 0 0] [.sl EByte (.slice F.a F.code.length F.c) F.code F.bs] [.row g 123 0 [] [.slice F.a F.code.length F.c, .int .i64 (s.k : Nat), .int .u64 s.seed] []] (fun (z : Int × CuS) => (0 ≤ z.1 ∧ z.1 ≤ 65535) ∧ CuOk (B + 4) z.2) (fun z => .int .i64 z.1) (fun z => [.row g 123 0 [] [.slice F.a F.code.length F.c, .int .i64 (z.2.k : Nat), .int .u64 z.2.seed] []]) := by
  refine enter Tryz.func183 rfl Tryz.ntmps183 fun w0 => ?_
  refine goN ?_; intros
  refine t_row (xs := [0, 1, 100, 32767, 32768, 65535, 65530, 4660]) (fun w => flat_int w _) ?_ (by decide)
  refine t_read (E := EInt) fun G => ?_
  refine go ?_; intros
  refine cf (among_f B g F _ [0, 1, 100, 32767, 32768, 65535, 65530, 4660] G s ok (by omega) (by decide) (by decide)) fun z hz => ?_
  refine t_app ?_
  obtain ⟨hz1, hz2⟩ := hz
  have hz3 : 0 ≤ z.1 ∧ z.1 ≤ 65535 := by simp only [List.mem_cons, List.not_mem_nil, or_false] at hz1; omega
  refine go ?_; intros
  refine cf (pick_f (B + 2) g F 12 z.2 hz2 (by omega) (by omega)) fun y hy => ?_
  refine t_app ?_
  obtain ⟨hy1, hy2⟩ := hy
  refine go ?_; intros
  refine ce (fun w s => l2After_c _ _ _ (by omega) (by omega)) ?_
  refine go ?_; intros
  refine ret (_, y.2) ⟨aft_bd _ _, hy2⟩ rfl
set_option maxRecDepth 100000 in
theorem anySerialW_f (B g : Nat) (F : CuF) (s : CuS) (ok : CuOk B s) (hB : B ≤ 890000000000) :
    Fn Tryz.prog 186 [ptr g 0 0] [.sl EByte (.slice F.a F.code.length F.c) F.code F.bs] [.row g 123 0 [] [.slice F.a F.code.length F.c, .int .i64 (s.k : Nat), .int .u64 s.seed] []] (fun (z : Int × CuS) => (-1 ≤ z.1 ∧ z.1 ≤ 65536) ∧ CuOk (B + 6) z.2) (fun z => .int .i64 z.1) (fun z => [.row g 123 0 [] [.slice F.a F.code.length F.c, .int .i64 (z.2.k : Nat), .int .u64 z.2.seed] []]) := by
  refine enter Tryz.func186 rfl Tryz.ntmps186 fun w0 => ?_
  refine go ?_; intros
  refine cf (one_f B g F 20 s ok (by omega) (by omega)) fun q hq => ?_
  refine t_app ?_
  obtain ⟨b, s1⟩ := q
  obtain ⟨-, hq⟩ := hq
  cases b
  · refine go ?_; intros
    refine cf (serial_f (B + 2) g F s1 hq (by omega)) fun z hz => ?_
    refine t_app ?_
    refine go ?_; intros
    refine ret z ⟨by have := hz.1; omega, hz.2⟩ rfl
  · refine goN ?_; intros
    refine t_row (xs := [-1, 65536, 65535]) (fun w => flat_int w _) ?_ (by decide)
    refine t_read (E := EInt) fun G => ?_
    refine go ?_; intros
    refine cf (among_f (B + 2) g F _ [-1, 65536, 65535] G s1 hq (by omega) (by decide) (by decide)) fun z hz => ?_
    refine t_app ?_
    refine go ?_; intros
    refine ret z ⟨by have := hz.1; simp only [List.mem_cons, List.not_mem_nil, or_false] at this; omega, hz.2.mono (by omega)⟩ rfl
theorem anySerial_f (B g : Nat) (F : CuF) (s : CuS) (ok : CuOk B s) (hB : B ≤ 890000000000) :
    Fn Tryz.prog 186 [ptr g 0 0] [.sl EByte (.slice F.a F.code.length F.c) F.code F.bs] [.row g 123 0 [] [.slice F.a F.code.length F.c, .int .i64 (s.k : Nat), .int .u64 s.seed] []] (fun (z : Int × CuS) => CuOk (B + 6) z.2) (fun z => .int .i64 z.1) (fun z => [.row g 123 0 [] [.slice F.a F.code.length F.c, .int .i64 (z.2.k : Nat), .int .u64 z.2.seed] []]) := (anySerialW_f B g F s ok hB).weak fun _ h => h.2
end Go.Proofs.YtgogcgkocjpgoaaGreatDoor
/- Regions that draw: pure operations that may stand behind a store. -/
namespace Go.Proofs.YtgogcgkocjpgoaaGreatDoor
open Go.RowKit
section
variable {c : Cx} {fr : Fr} {H H0 : List Pc} {k : List It} {X : List Nat} {ops : Array Oper} {f : Nat} {listed : Array Bool} {d : Nat} {o : Op} {ty : TypeId} {pos : String} {aft : Array Edge} {v : Value}
theorem dtp (i : Nat) (h : T c ((d, v) :: fr) H (.dx k H0 X ops f (listed.setIfInBounds i true))) (ho : ops[i]? = some ⟨some d, o, ty, pos, aft, none⟩ := by rw [List.getElem?_toArray]; rfl) (hy : Yd c.P c.n fr [] o ty v := by exact ydE) (hX : X.contains i = true := by rfl)
    (h1 : Region.noSelect ops = true := by kernel_rfl) (h2 : Region.free .any ops listed i = true := by kernel_rfl) (h3 : (Region.ready .any ops listed).contains i = true := by kernel_rfl) (hR : PanOk c := by exact panOk) (hd : Nat.blt d c.n = true := by rfl) :
    T c fr H (.dx k H0 X ops (f + 1) listed) := .mk fun a w s g =>
  AnyX.takeP (v := v) ho h1 h2 h3 hX (fun ch a w hp => by rw [run_panic] at hp ⊢; exact hR _ _ _ _ _ hp) (.inl ⟨rfl, fun w' _ => hy.h a w' _ _ _ _ g (by intro p hp; simp at hp)⟩) (h.h _ _ s (g.put hd))
/-- ways that meet behind a region and the test that follows it -/
theorem c_join2 {c : Cx} {fr : Fr} {H : List Pc} {k : List It} {x y : Code} {σ : Type} {cst : Fr} {rest : List Pc} (ks rs : List Nat) (upd : σ → Fr) (chg : σ → List Pc) (C : σ → Prop) (h : T c fr H (.code (.cd y :: .lp (Jn c (fun s => upd s ++ cst) (fun s => chg s ++ rest) C) :: k) x)) (h2 : ∀ s, C s → T c (upd s ++ cst) (chg s ++ rest) (.norm k))
    (_hk : Kf fr ks cst := by repeat (first | exact Kf.nil | apply Kf.cons (by rfl))) (_hr : Sel H rs rest := by repeat constructor) : T c fr H (.code (.cd y :: k) x) := .mk fun a w s g => by
  refine wp_mono (h.h a w s g) fun e a1 w1 he => ?_
  cases e with
  | normal =>
    refine wp_mono he fun e a2 w2 he => ?_
    cases e with
    | normal => obtain ⟨s, hC, hs, hg⟩ := he; exact (h2 s hC).h a2 w2 hs hg
    | _ => exact he
  | _ => exact he
end
end Go.Proofs.YtgogcgkocjpgoaaGreatDoor
/- Draws, for the engine: elements. -/
namespace Go.Proofs.YtgogcgkocjpgoaaGreatDoor
open Go.RowKit
structure OkE (m : Nat) (y : Element) : Prop where
  k0 : 0 ≤ y.clock
  k1 : y.clock ≤ 30 + m
  l : y.entries.length ≤ m
  f : ∀ x ∈ y.entries, x.faces.length ≤ m
  mm : m ≤ 100
theorem ok_tickE {m y} (h : OkE m y) (hm : m + 1 ≤ 100 := by omega) : OkE (m + 1) (tickElement y) := by
  have := h.k0; have := h.k1
  have hl := List.length_filter_le (fun x : Entry => !decide (x.untl ≤ y.clock + 1)) y.entries
  exact ⟨by show 0 ≤ y.clock + 1; omega, by show y.clock + 1 ≤ 30 + ((m + 1 : Nat) : Int); omega, by show (y.entries.filter _).length ≤ _; have := h.l; omega, fun x hx => by have := h.f x (List.mem_filter.1 hx).1; omega, hm⟩
theorem ok_reqE {m y} (h : OkE m y) {n f : Int} (hm : m + 1 ≤ 100 := by omega) : OkE (m + 1) (reqE y n f) := by
  have := h.k0; have := h.k1; have hl := h.l
  have hf : ∀ x ∈ y.entries, x.faces.length ≤ m + 1 := fun x hx => by have := h.f x hx; omega
  unfold reqE
  split
  · rename_i x hx
    refine ⟨h.k0, by show y.clock ≤ 30 + ((m + 1 : Nat) : Int); omega, by show (y.entries.set _ _).length ≤ m + 1; rw [List.length_set]; omega, fun z hz => ?_, hm⟩
    rcases List.mem_or_eq_of_mem_set hz with h' | rfl
    · exact hf z h'
    · have := h.f x (List.mem_of_getElem? hx)
      have := putI_len x.faces f
      show (putI x.faces f).length ≤ m + 1
      omega
  · split
    · refine ⟨h.k0, by show y.clock ≤ 30 + ((m + 1 : Nat) : Int); omega, by show (y.entries ++ [_]).length ≤ m + 1; simp; omega, fun z hz => ?_, hm⟩
      rcases List.mem_append.1 hz with h' | h'
      · exact hf z h'
      · simp at h'; subst h'; simp
    · exact ⟨h.k0, by show y.clock ≤ 30 + ((m + 1 : Nat) : Int); omega, by omega, hf, hm⟩
structure ElD where
  y : Element
  a : Option Addr
  c : Nat
  F : List Nat
  i : Nat
  s : CuS
set_option maxRecDepth 100000 in
set_option maxHeartbeats 1000000 in
theorem element_f (B g : Nat) (F : CuF) (s : CuS) (ok : CuOk B s) (hB : B ≤ 700000000000) :
    Fn Tryz.prog 94 [ptr g 0 0] [.sl EByte (.slice F.a F.code.length F.c) F.code F.bs] [.row g 123 0 [] [.slice F.a F.code.length F.c, .int .i64 (s.k : Nat), .int .u64 s.seed] []] (fun (z : ElD) => z.y.entries.length ≤ 1000 ∧ CuOk (B + 2000) z.s) (fun s => .agg #[.int .i64 s.y.clock, .slice s.a s.y.entries.length s.c])
      (fun s => [.isv EElement (.agg #[.int .i64 s.y.clock, .slice s.a s.y.entries.length s.c]) s.y s.F, .row g 123 0 [] [.slice F.a F.code.length F.c, .int .i64 (s.s.k : Nat), .int .u64 s.s.seed] []]) := by
  refine enter Tryz.func94 rfl Tryz.ntmps94 fun w0 => ?_
  refine go ?_; intros
  refine cf (pick_f B g F 30 s ok (by omega) (by omega)) fun y hy => ?_
  refine t_app ?_
  obtain ⟨r1, s1⟩ := y
  obtain ⟨hy1, hy2⟩ := hy
  dsimp only at hy1 hy2 ⊢
  have hr1 : r1 ≤ 29 := by omega
  refine go ?_; intros
  rename_i gg
  refine cf (serial_f _ g F s1 hy2 (by omega)) fun n hn => ?_
  refine t_app ?_
  obtain ⟨hn1, hn2⟩ := hn
  refine go ?_; intros
  refine cf (pick_f _ g F 10 n.2 hn2 (by omega) (by omega)) fun y hy => ?_
  refine t_app ?_
  obtain ⟨r0, s2⟩ := y
  obtain ⟨hz1, hz2⟩ := hy
  dsimp only at hz1 hz2 ⊢
  have hr0 : r0 ≤ 9 := by omega
  refine t_nilsl EEntry (by decide) ?_
  refine closeElement ⟨(r1 : Int), []⟩ ?_
  refine go ?_; intros
  refine c_loopS [0, 2, 3, 4] (fun z : ElD => [(5, .int .i64 (z.i : Nat))]) (fun z => [.row gg 26 0 [] [.int .i64 z.y.clock, .slice z.a z.y.entries.length z.c] [], .isv EElement (.agg #[.int .i64 z.y.clock, .slice z.a z.y.entries.length z.c]) z.y z.F, .row g 123 0 [] [.slice F.a F.code.length F.c, .int .i64 (z.s.k : Nat), .int .u64 z.s.seed] []]) (fun z => OkE (r0 - z.i) z.y ∧ z.i ≤ r0 ∧ CuOk (B + 20 + 50 * (r0 - z.i)) z.s) (fun z => z.i) ⟨⟨(r1 : Int), []⟩, none, 0, [], r0, s2⟩ ⟨⟨by show (0 : Int) ≤ (r1 : Int); omega, by show (r1 : Int) ≤ _; omega, by simp, by simp, by omega⟩, Nat.le_refl _, hz2.mono (by show _ ≤ B + 20 + 50 * (r0 - r0); omega)⟩ fun z hz => ?_
  obtain ⟨z1, z2, z3⟩ := hz
  refine go ?_; intros
  refine c_if rfl (fun h2 => ?_) (fun h2 => ?_)
  · have hi0 : 0 < z.i := by omega
    refine go ?_; intros
    refine cf (one_f _ g F 5 z.s z3 (by omega) (by omega)) fun p hp => ?_
    refine t_app ?_
    obtain ⟨b4, s4⟩ := p
    obtain ⟨-, z4⟩ := hp
    dsimp only at z4 ⊢
    cases b4
    · refine go ?_; intros
      refine d_start [1] [10, 11, 12] ?_
      refine dt 0 ?_
      refine dt 1 ?_
      refine dt 2 ?_
      refine dt 5 ?_
      refine dO 3 (by kernel_rfl) (by rw [List.getElem?_toArray]; rfl) ?_
      apply o_call; rfl; kernel_rfl; exact evsE
      refine cf (pick_f _ g F 6 s4 z4 (by omega) (by omega)) fun p hp => ?_
      refine t_app ?_
      obtain ⟨p1, p2⟩ := hp
      refine dk ?_
      refine dO 4 (by kernel_rfl) (by rw [List.getElem?_toArray]; rfl) ?_
      apply o_call; rfl; kernel_rfl; exact evsE
      refine ce (fun w s => l2After_c _ _ _ (by omega) (by omega)) ?_
      refine dk ?_
      refine dO 6 (by kernel_rfl) (by rw [List.getElem?_toArray]; rfl) ?_
      apply o_call; rfl; kernel_rfl; exact evsE
      refine cf (pick_f _ g F 7 p.2 p2 (by omega) (by omega)) fun q hq => ?_
      refine t_app ?_
      obtain ⟨q1, q2⟩ := hq
      refine dk ?_
      refine dt 7 ?_
      refine dO 8 (by kernel_rfl) (by rw [List.getElem?_toArray]; rfl) ?_
      apply o_call; rfl; kernel_rfl; exact evsE
      refine cf (l14Request_f z.y (aft n.1 (p.1 : Nat)) (1 + (q.1 : Nat)) _ z.F (by have := z1.l; omega) (fun x hx => by have := z1.f x hx; omega) (by have := z1.k0; omega) (by have := z1.k1; omega)) fun u _ => ?_
      refine t_app ?_
      refine t_weakI weak_Element fun F7 => ?_
      refine openElement (v := u.1) ?_
      rintro a6 c6 F6 e6 l6
      rw [e6]
      refine dk ?_
      refine dt 9 ?_
      refine dtp 10 ?_
      refine dtp 11 ?_
      refine dO 12 (by kernel_rfl) (by rw [List.getElem?_toArray]; rfl) ?_
      apply o_st; rfl; rfl; rfl; (first | exact AggC.s | exact OneC.s); rfl; exact rplE; exact putE; rfl
      refine dkx ?_
      refine dd ?_
      refine go ?_; intros
      rw [show ((z.i : Nat) : Int) - 1 = ((z.i - 1 : Nat) : Int) by omega]
      refine n_lp ⟨(reqE z.y (aft n.1 (p.1 : Nat)) (1 + (q.1 : Nat))), a6, c6, F7, z.i - 1, q.2⟩ ⟨by rw [show r0 - (z.i - 1) = r0 - z.i + 1 by omega]; exact ok_reqE z1, by show z.i - 1 ≤ r0; omega, q2.mono (by show _ ≤ B + 20 + 50 * (r0 - (z.i - 1)); omega)⟩ (by show z.i - 1 < z.i; omega)
    · refine go ?_; intros
      refine cr (fun w st => l14Tick_c _ z.y z.F w (st.get (p := .isv EElement (.agg #[.int .i64 z.y.clock, .slice z.a z.y.entries.length z.c]) z.y z.F) (by simp)) (isClk_iff.2 ⟨z1.k0, by have := z1.k1; have := z1.mm; omega⟩) (by have := z1.l; omega) (fun x hx => by have := z1.f x hx; omega)) fun u F7 => ?_
      refine openElement (v := u) ?_
      rintro a6 c6 F6 rfl l6
      refine go ?_; intros
      rw [show ((z.i : Nat) : Int) - 1 = ((z.i - 1 : Nat) : Int) by omega]
      refine n_lp ⟨tickElement z.y, a6, c6, F7, z.i - 1, s4⟩ ⟨by rw [show r0 - (z.i - 1) = r0 - z.i + 1 by omega]; exact ok_tickE z1, by show z.i - 1 ≤ r0; omega, z4.mono (by show _ ≤ B + 20 + 50 * (r0 - (z.i - 1)); omega)⟩ (by show z.i - 1 < z.i; omega)
  · have hl7 := z1.l
    refine go ?_; intros
    refine cf (pick_f _ g F 24 z.s z3 (by omega) (by omega)) fun p hp => ?_
    refine t_app ?_
    obtain ⟨r, s3⟩ := p
    obtain ⟨-, hp⟩ := hp
    dsimp only at hp ⊢
    refine go ?_; intros
    refine c_if rfl (fun e0 => ?_) (fun e0 => ?_)
    · refine openElement (x := z.y) (F := z.F) ?_
      rintro b1 d1 G1 e5 m1
      simp only [Value.agg.injEq, Array.mk.injEq, List.cons.injEq, Value.slice.injEq, Value.int.injEq, true_and, and_true] at e5
      obtain ⟨rfl, rfl⟩ := e5
      refine goN ?_; intros
      refine t_row (xs := [-1, 9999, 10000]) (fun w => flat_int w _) ?_ (by decide)
      refine t_read (E := EInt) fun G => ?_
      refine go ?_; intros
      refine cf (among_f _ g F _ [-1, 9999, 10000] G s3 hp (by omega) (by decide) (by decide)) fun q hq => ?_
      refine t_app ?_
      refine go ?_; intros
      refine closeElement ⟨q.1, z.y.entries⟩ ?_
      refine ret ⟨⟨q.1, z.y.entries⟩, _, _, _, 0, q.2⟩ ⟨by show z.y.entries.length ≤ 1000; omega, hq.2.mono (by omega)⟩ rfl
    refine go ?_; intros
    refine c_if rfl (fun e1 => ?_) (fun e1 => ?_)
    · refine openElement (x := z.y) (F := z.F) ?_
      rintro b1 d1 G1 e5 m1
      simp only [Value.agg.injEq, Array.mk.injEq, List.cons.injEq, Value.slice.injEq, Value.int.injEq, true_and, and_true] at e5
      obtain ⟨rfl, rfl⟩ := e5
      refine t_shalR one_EEntry (xs := z.y.entries) (m := 3) rfl fun ys Fy Gy hyl hym => ?_
      refine goN ?_; intros
      refine d_start [4] [18] ?_
      refine dt 1 ?_
      refine dt 2 ?_
      refine dt 4 ?_
      refine dt 6 ?_
      refine dt 9 ?_
      refine dt 10 ?_
      refine dt 11 ?_
      refine dO 0 (by kernel_rfl) (by rw [List.getElem?_toArray]; rfl) ?_
      apply o_bs0; rfl; intro _
      refine t_emp (EC 3) ?_
      refine dk ?_
      refine dO 3 (by kernel_rfl) (by rw [List.getElem?_toArray]; rfl) ?_
      refine aps (ys := ys) (one_EC 3) (scal_EC 3) (fun a7 c7 F7 => ?_) (hn := hyl.symm) (h63 := by simp only [List.length_nil]; omega) (hby := by simp only [List.length_nil]; omega)
      rw [List.nil_append]
      refine dk ?_
      refine dO 5 (by kernel_rfl) (by rw [List.getElem?_toArray]; rfl) ?_
      apply o_call; rfl; kernel_rfl; exact evsE
      refine cf (anySerial_f _ g F s3 hp (by omega)) fun q hq => ?_
      refine t_app ?_
      refine dk ?_
      refine dO 7 (by kernel_rfl) (by rw [List.getElem?_toArray]; rfl) ?_
      apply o_call; rfl; kernel_rfl; exact evsE
      refine cf (pick_f _ g F 9 q.2 hq (by omega) (by omega)) fun r hr => ?_
      refine t_app ?_
      obtain ⟨hr1, hr2⟩ := hr
      refine dk ?_
      refine dO2 8 12 (by kernel_rfl) (by rw [List.getElem?_toArray]; rfl) (by rw [List.getElem?_toArray]; rfl) ?_ ?_
      · apply o_bs; rfl; rfl; rfl; rfl; exact rptE; exact filE; intro _
        rename_i gf
        refine t_row (E := EInt) (xs := [(r.1 : Int)]) (rep_i _) ?_ (by simp)
        refine t_read (E := EInt) fun F10 => ?_
        refine dk ?_
        refine dO 12 (by kernel_rfl) (by rw [List.getElem?_toArray]; rfl) ?_
        apply o_call; rfl; kernel_rfl; exact evsE
        refine cf (pick_f _ g F 9 r.2 hr2 (by omega) (by omega)) fun t ht => ?_
        refine t_app ?_
        obtain ⟨ht1, ht2⟩ := ht
        have hk0 := z1.k0
        have hk1 := z1.k1
        refine dk ?_
        refine dt 13 ?_
        refine dt 14 ?_
        refine dO 15 (by kernel_rfl) (by rw [List.getElem?_toArray]; rfl) ?_
        apply o_bs; rfl; rfl; rfl; rfl; exact rptE; exact filE; intro _
        refine closeEntry ⟨q.1, [(r.1 : Int)], z.y.clock + (t.1 : Nat)⟩ ?_
        refine dk ?_
        refine dO 16 (by kernel_rfl) (by rw [List.getElem?_toArray]; rfl) ?_
        refine ap1 (ys := [([.int .i64 q.1, .slice (some ⟨gf, 0, none⟩) 1 1, .int .i64 (z.y.clock + (t.1 : Nat))] : List Value)]) (flat_ec1 (m := 3) (cs := [.int .i64 q.1, .slice (some ⟨gf, 0, none⟩) 1 1, .int .i64 (z.y.clock + (t.1 : Nat))]) rfl (by simp [Value.oneCell'])) (one_EC 3) (fun a9 c9 F11 => ?_)
        refine dk ?_
        refine dt 17 ?_
        refine dO 18 (by kernel_rfl) (by rw [List.getElem?_toArray]; rfl) ?_
        apply o_st; rfl; rfl; rfl; (first | exact AggC.s | exact OneC.s); rfl; exact rplE; exact putE; rfl
        refine dkx ?_
        refine dd ?_
        refine go ?_; intros
        refine t_read (E := EC 3) fun F8 => ?_
        refine t_ea1 (E := EEntry) (x := ⟨q.1, [(r.1 : Int)], z.y.clock + (t.1 : Nat)⟩) ?_
        refine t_ea (E := EEntry) (c1 := ys.flatten) (c2 := [.int .i64 q.1, .slice (some ⟨gf, 0, none⟩) 1 1, .int .i64 (z.y.clock + (t.1 : Nat))]) (x1 := z.y.entries) (x2 := [⟨q.1, [(r.1 : Int)], z.y.clock + (t.1 : Nat)⟩]) rfl rfl ?_
        refine t_deepR (E := EEntry) (m := 3) (v := .agg (ys.flatten ++ ([.int .i64 q.1, .slice (some ⟨gf, 0, none⟩) 1 1, .int .i64 (z.y.clock + (t.1 : Nat))] : List Value)).toArray) (ys := ys ++ [([.int .i64 q.1, .slice (some ⟨gf, 0, none⟩) 1 1, .int .i64 (z.y.clock + (t.1 : Nat))] : List Value)]) (xs := z.y.entries ++ [(⟨q.1, [(r.1 : Int)], z.y.clock + (t.1 : Nat)⟩ : Entry)]) rfl (by simp [hyl]) (by simp) fun F9 => ?_
        rw [show (ys ++ [([.int .i64 q.1, .slice (some ⟨gf, 0, none⟩) 1 1, .int .i64 (z.y.clock + (t.1 : Nat))] : List Value)]).length = (z.y.entries ++ [(⟨q.1, [(r.1 : Int)], z.y.clock + (t.1 : Nat)⟩ : Entry)]).length by simp [hyl]]
        refine closeElement ⟨z.y.clock, z.y.entries ++ [⟨q.1, [(r.1 : Int)], z.y.clock + (t.1 : Nat)⟩]⟩ ?_
        refine ret ⟨⟨z.y.clock, z.y.entries ++ [⟨q.1, [(r.1 : Int)], z.y.clock + (t.1 : Nat)⟩]⟩, _, _, _, 0, t.2⟩ ⟨by show (z.y.entries ++ [_]).length ≤ 1000; simp; omega, ht2.mono (by omega)⟩ rfl
      · apply o_call; rfl; kernel_rfl; exact evsE
        refine cf (pick_f _ g F 9 r.2 hr2 (by omega) (by omega)) fun t ht => ?_
        refine t_app ?_
        obtain ⟨ht1, ht2⟩ := ht
        have hk0 := z1.k0
        have hk1 := z1.k1
        refine dk ?_
        refine dt 13 ?_
        refine dO 8 (by kernel_rfl) (by rw [List.getElem?_toArray]; rfl) ?_
        apply o_bs; rfl; rfl; rfl; rfl; exact rptE; exact filE; intro _
        rename_i gf
        refine t_row (E := EInt) (xs := [(r.1 : Int)]) (rep_i _) ?_ (by simp)
        refine t_read (E := EInt) fun F10 => ?_
        refine dk ?_
        refine dt 14 ?_
        refine dO 15 (by kernel_rfl) (by rw [List.getElem?_toArray]; rfl) ?_
        apply o_bs; rfl; rfl; rfl; rfl; exact rptE; exact filE; intro _
        refine closeEntry ⟨q.1, [(r.1 : Int)], z.y.clock + (t.1 : Nat)⟩ ?_
        refine dk ?_
        refine dO 16 (by kernel_rfl) (by rw [List.getElem?_toArray]; rfl) ?_
        refine ap1 (ys := [([.int .i64 q.1, .slice (some ⟨gf, 0, none⟩) 1 1, .int .i64 (z.y.clock + (t.1 : Nat))] : List Value)]) (flat_ec1 (m := 3) (cs := [.int .i64 q.1, .slice (some ⟨gf, 0, none⟩) 1 1, .int .i64 (z.y.clock + (t.1 : Nat))]) rfl (by simp [Value.oneCell'])) (one_EC 3) (fun a9 c9 F11 => ?_)
        refine dk ?_
        refine dt 17 ?_
        refine dO 18 (by kernel_rfl) (by rw [List.getElem?_toArray]; rfl) ?_
        apply o_st; rfl; rfl; rfl; (first | exact AggC.s | exact OneC.s); rfl; exact rplE; exact putE; rfl
        refine dkx ?_
        refine dd ?_
        refine go ?_; intros
        refine t_read (E := EC 3) fun F8 => ?_
        refine t_ea1 (E := EEntry) (x := ⟨q.1, [(r.1 : Int)], z.y.clock + (t.1 : Nat)⟩) ?_
        refine t_ea (E := EEntry) (c1 := ys.flatten) (c2 := [.int .i64 q.1, .slice (some ⟨gf, 0, none⟩) 1 1, .int .i64 (z.y.clock + (t.1 : Nat))]) (x1 := z.y.entries) (x2 := [⟨q.1, [(r.1 : Int)], z.y.clock + (t.1 : Nat)⟩]) rfl rfl ?_
        refine t_deepR (E := EEntry) (m := 3) (v := .agg (ys.flatten ++ ([.int .i64 q.1, .slice (some ⟨gf, 0, none⟩) 1 1, .int .i64 (z.y.clock + (t.1 : Nat))] : List Value)).toArray) (ys := ys ++ [([.int .i64 q.1, .slice (some ⟨gf, 0, none⟩) 1 1, .int .i64 (z.y.clock + (t.1 : Nat))] : List Value)]) (xs := z.y.entries ++ [(⟨q.1, [(r.1 : Int)], z.y.clock + (t.1 : Nat)⟩ : Entry)]) rfl (by simp [hyl]) (by simp) fun F9 => ?_
        rw [show (ys ++ [([.int .i64 q.1, .slice (some ⟨gf, 0, none⟩) 1 1, .int .i64 (z.y.clock + (t.1 : Nat))] : List Value)]).length = (z.y.entries ++ [(⟨q.1, [(r.1 : Int)], z.y.clock + (t.1 : Nat)⟩ : Entry)]).length by simp [hyl]]
        refine closeElement ⟨z.y.clock, z.y.entries ++ [⟨q.1, [(r.1 : Int)], z.y.clock + (t.1 : Nat)⟩]⟩ ?_
        refine ret ⟨⟨z.y.clock, z.y.entries ++ [⟨q.1, [(r.1 : Int)], z.y.clock + (t.1 : Nat)⟩]⟩, _, _, _, 0, t.2⟩ ⟨by show (z.y.entries ++ [_]).length ≤ 1000; simp; omega, ht2.mono (by omega)⟩ rfl
    refine go ?_; intros
    refine c_if rfl (fun e2 => ?_) (fun e2 => ?_)
    · refine openElement (x := z.y) (F := z.F) ?_
      rintro b1 d1 G1 e5 m1
      simp only [Value.agg.injEq, Array.mk.injEq, List.cons.injEq, Value.slice.injEq, Value.int.injEq, true_and, and_true] at e5
      obtain ⟨rfl, rfl⟩ := e5
      have hk0 := z1.k0
      have hk1 := z1.k1
      refine t_shalR one_EEntry (xs := z.y.entries) (m := 3) rfl fun ys Fy Gy hyl hym => ?_
      refine goN ?_; intros
      refine d_start [4] [11] ?_
      refine dt 1 ?_
      refine dt 2 ?_
      refine dt 4 ?_
      refine dt 5 ?_
      refine dt 6 ?_
      refine dt 7 ?_
      refine dO2 0 8 (by kernel_rfl) (by rw [List.getElem?_toArray]; rfl) (by rw [List.getElem?_toArray]; rfl) ?_ ?_
      · apply o_bs0; rfl; intro _
        refine t_emp (EC 3) ?_
        refine dk ?_
        refine dO2 3 8 (by kernel_rfl) (by rw [List.getElem?_toArray]; rfl) (by rw [List.getElem?_toArray]; rfl) ?_ ?_
        · refine aps (ys := ys) (one_EC 3) (scal_EC 3) (fun a7 c7 F7 => ?_) (hn := hyl.symm) (h63 := by simp only [List.length_nil]; omega) (hby := by simp only [List.length_nil]; omega)
          rw [List.nil_append]
          refine dk ?_
          refine dO 8 (by kernel_rfl) (by rw [List.getElem?_toArray]; rfl) ?_
          apply o_bs; rfl; rfl; rfl; rfl; exact rptE; exact filE; intro _
          refine t_nilsl EInt (by decide) ?_
          refine closeEntry ⟨77, [], z.y.clock + 2⟩ ?_
          refine dk ?_
          refine dO 9 (by kernel_rfl) (by rw [List.getElem?_toArray]; rfl) ?_
          refine ap1 (ys := [([.int .i64 77, .slice none 0 0, .int .i64 (z.y.clock + 2)] : List Value)]) (flat_ec1 (m := 3) (cs := [.int .i64 77, .slice none 0 0, .int .i64 (z.y.clock + 2)]) rfl (by simp [Value.oneCell'])) (one_EC 3) (fun a9 c9 F11 => ?_)
          refine dk ?_
          refine dt 10 ?_
          refine dO 11 (by kernel_rfl) (by rw [List.getElem?_toArray]; rfl) ?_
          apply o_st; rfl; rfl; rfl; (first | exact AggC.s | exact OneC.s); rfl; exact rplE; exact putE; rfl
          refine dkx ?_
          refine dd ?_
          refine go ?_; intros
          refine t_read (E := EC 3) fun F8 => ?_
          refine t_ea1 (E := EEntry) (x := ⟨77, [], z.y.clock + 2⟩) ?_
          refine t_ea (E := EEntry) (c1 := ys.flatten) (c2 := [.int .i64 77, .slice none 0 0, .int .i64 (z.y.clock + 2)]) (x1 := z.y.entries) (x2 := [⟨77, [], z.y.clock + 2⟩]) rfl rfl ?_
          refine t_deepR (E := EEntry) (m := 3) (v := .agg (ys.flatten ++ ([.int .i64 77, .slice none 0 0, .int .i64 (z.y.clock + 2)] : List Value)).toArray) (ys := ys ++ [([.int .i64 77, .slice none 0 0, .int .i64 (z.y.clock + 2)] : List Value)]) (xs := z.y.entries ++ [(⟨77, [], z.y.clock + 2⟩ : Entry)]) rfl (by simp [hyl]) (by simp) fun F9 => ?_
          rw [show (ys ++ [([.int .i64 77, .slice none 0 0, .int .i64 (z.y.clock + 2)] : List Value)]).length = (z.y.entries ++ [(⟨77, [], z.y.clock + 2⟩ : Entry)]).length by simp [hyl]]
          refine closeElement ⟨z.y.clock, z.y.entries ++ [⟨77, [], z.y.clock + 2⟩]⟩ ?_
          refine ret ⟨⟨z.y.clock, z.y.entries ++ [⟨77, [], z.y.clock + 2⟩]⟩, _, _, _, 0, s3⟩ ⟨by show (z.y.entries ++ [_]).length ≤ 1000; simp; omega, hp.mono (by omega)⟩ rfl
        · apply o_bs; rfl; rfl; rfl; rfl; exact rptE; exact filE; intro _
          refine t_nilsl EInt (by decide) ?_
          refine closeEntry ⟨77, [], z.y.clock + 2⟩ ?_
          refine dk ?_
          refine dO 3 (by kernel_rfl) (by rw [List.getElem?_toArray]; rfl) ?_
          refine aps (ys := ys) (one_EC 3) (scal_EC 3) (fun a7 c7 F7 => ?_) (hn := hyl.symm) (h63 := by simp only [List.length_nil]; omega) (hby := by simp only [List.length_nil]; omega)
          rw [List.nil_append]
          refine dk ?_
          refine dO 9 (by kernel_rfl) (by rw [List.getElem?_toArray]; rfl) ?_
          refine ap1 (ys := [([.int .i64 77, .slice none 0 0, .int .i64 (z.y.clock + 2)] : List Value)]) (flat_ec1 (m := 3) (cs := [.int .i64 77, .slice none 0 0, .int .i64 (z.y.clock + 2)]) rfl (by simp [Value.oneCell'])) (one_EC 3) (fun a9 c9 F11 => ?_)
          refine dk ?_
          refine dt 10 ?_
          refine dO 11 (by kernel_rfl) (by rw [List.getElem?_toArray]; rfl) ?_
          apply o_st; rfl; rfl; rfl; (first | exact AggC.s | exact OneC.s); rfl; exact rplE; exact putE; rfl
          refine dkx ?_
          refine dd ?_
          refine go ?_; intros
          refine t_read (E := EC 3) fun F8 => ?_
          refine t_ea1 (E := EEntry) (x := ⟨77, [], z.y.clock + 2⟩) ?_
          refine t_ea (E := EEntry) (c1 := ys.flatten) (c2 := [.int .i64 77, .slice none 0 0, .int .i64 (z.y.clock + 2)]) (x1 := z.y.entries) (x2 := [⟨77, [], z.y.clock + 2⟩]) rfl rfl ?_
          refine t_deepR (E := EEntry) (m := 3) (v := .agg (ys.flatten ++ ([.int .i64 77, .slice none 0 0, .int .i64 (z.y.clock + 2)] : List Value)).toArray) (ys := ys ++ [([.int .i64 77, .slice none 0 0, .int .i64 (z.y.clock + 2)] : List Value)]) (xs := z.y.entries ++ [(⟨77, [], z.y.clock + 2⟩ : Entry)]) rfl (by simp [hyl]) (by simp) fun F9 => ?_
          rw [show (ys ++ [([.int .i64 77, .slice none 0 0, .int .i64 (z.y.clock + 2)] : List Value)]).length = (z.y.entries ++ [(⟨77, [], z.y.clock + 2⟩ : Entry)]).length by simp [hyl]]
          refine closeElement ⟨z.y.clock, z.y.entries ++ [⟨77, [], z.y.clock + 2⟩]⟩ ?_
          refine ret ⟨⟨z.y.clock, z.y.entries ++ [⟨77, [], z.y.clock + 2⟩]⟩, _, _, _, 0, s3⟩ ⟨by show (z.y.entries ++ [_]).length ≤ 1000; simp; omega, hp.mono (by omega)⟩ rfl
      · apply o_bs; rfl; rfl; rfl; rfl; exact rptE; exact filE; intro _
        refine t_nilsl EInt (by decide) ?_
        refine closeEntry ⟨77, [], z.y.clock + 2⟩ ?_
        refine dk ?_
        refine dO 0 (by kernel_rfl) (by rw [List.getElem?_toArray]; rfl) ?_
        apply o_bs0; rfl; intro _
        refine t_emp (EC 3) ?_
        refine dk ?_
        refine dO 3 (by kernel_rfl) (by rw [List.getElem?_toArray]; rfl) ?_
        refine aps (ys := ys) (one_EC 3) (scal_EC 3) (fun a7 c7 F7 => ?_) (hn := hyl.symm) (h63 := by simp only [List.length_nil]; omega) (hby := by simp only [List.length_nil]; omega)
        rw [List.nil_append]
        refine dk ?_
        refine dO 9 (by kernel_rfl) (by rw [List.getElem?_toArray]; rfl) ?_
        refine ap1 (ys := [([.int .i64 77, .slice none 0 0, .int .i64 (z.y.clock + 2)] : List Value)]) (flat_ec1 (m := 3) (cs := [.int .i64 77, .slice none 0 0, .int .i64 (z.y.clock + 2)]) rfl (by simp [Value.oneCell'])) (one_EC 3) (fun a9 c9 F11 => ?_)
        refine dk ?_
        refine dt 10 ?_
        refine dO 11 (by kernel_rfl) (by rw [List.getElem?_toArray]; rfl) ?_
        apply o_st; rfl; rfl; rfl; (first | exact AggC.s | exact OneC.s); rfl; exact rplE; exact putE; rfl
        refine dkx ?_
        refine dd ?_
        refine go ?_; intros
        refine t_read (E := EC 3) fun F8 => ?_
        refine t_ea1 (E := EEntry) (x := ⟨77, [], z.y.clock + 2⟩) ?_
        refine t_ea (E := EEntry) (c1 := ys.flatten) (c2 := [.int .i64 77, .slice none 0 0, .int .i64 (z.y.clock + 2)]) (x1 := z.y.entries) (x2 := [⟨77, [], z.y.clock + 2⟩]) rfl rfl ?_
        refine t_deepR (E := EEntry) (m := 3) (v := .agg (ys.flatten ++ ([.int .i64 77, .slice none 0 0, .int .i64 (z.y.clock + 2)] : List Value)).toArray) (ys := ys ++ [([.int .i64 77, .slice none 0 0, .int .i64 (z.y.clock + 2)] : List Value)]) (xs := z.y.entries ++ [(⟨77, [], z.y.clock + 2⟩ : Entry)]) rfl (by simp [hyl]) (by simp) fun F9 => ?_
        rw [show (ys ++ [([.int .i64 77, .slice none 0 0, .int .i64 (z.y.clock + 2)] : List Value)]).length = (z.y.entries ++ [(⟨77, [], z.y.clock + 2⟩ : Entry)]).length by simp [hyl]]
        refine closeElement ⟨z.y.clock, z.y.entries ++ [⟨77, [], z.y.clock + 2⟩]⟩ ?_
        refine ret ⟨⟨z.y.clock, z.y.entries ++ [⟨77, [], z.y.clock + 2⟩]⟩, _, _, _, 0, s3⟩ ⟨by show (z.y.entries ++ [_]).length ≤ 1000; simp; omega, hp.mono (by omega)⟩ rfl
    · refine go ?_; intros
      refine ret ⟨z.y, z.a, z.c, z.F, 0, s3⟩ ⟨by show z.y.entries.length ≤ 1000; omega, hp.mono (by omega)⟩ rfl
end Go.Proofs.YtgogcgkocjpgoaaGreatDoor
/- Draws: a text spoilt. -/
namespace Go.Proofs.YtgogcgkocjpgoaaGreatDoor
open Go.RowKit
set_option maxRecDepth 100000 in
theorem spoilt_f (B g : Nat) (F : CuF) (s : CuS) (t u : ByteArray) (ok : CuOk B s) (hB : B ≤ 800000000000) (ht : t.size ≤ 100000) (h1 : 1 ≤ u.size) (h2 : u.size ≤ 1000) :
    Fn Tryz.prog 96 [ptr g 0 0, .string t, .string u] [.sl EByte (.slice F.a F.code.length F.c) F.code F.bs] [.row g 123 0 [] [.slice F.a F.code.length F.c, .int .i64 (s.k : Nat), .int .u64 s.seed] []] (fun (z : ByteArray × CuS) => z.1.size ≤ t.size + 1 ∧ CuOk (B + 6) z.2) (fun z => .string z.1) (fun z => [.row g 123 0 [] [.slice F.a F.code.length F.c, .int .i64 (z.2.k : Nat), .int .u64 z.2.seed] []]) := by
  refine enter Tryz.func96 rfl Tryz.ntmps96 fun w0 => ?_
  refine go ?_; intros
  by_cases e0 : t = ⟨#[]⟩
  · rw [decide_eq_true e0]
    refine go ?_; intros
    apply wO; apply oc; rfl; exact yd_slh rfl rfl (by omega) (by omega)
    have hx0 : (u.extract 0 (1 : Int).toNat).size ≤ 1 := by rw [ByteArray.size_extract]; omega
    refine go ?_; intros
    refine ret (u.extract 0 (1 : Int).toNat, s) ⟨by dsimp only; omega, ok.mono (by omega)⟩ rfl
  have e1 : 0 < t.size := by
    rcases Nat.eq_zero_or_pos t.size with h0 | h0
    · exact absurd (by apply ByteArray.ext; exact Array.eq_empty_of_size_eq_zero h0) e0
    · exact h0
  rw [decide_eq_false e0]
  refine go ?_; intros
  refine cf (pick_f B g F (t.size : Int) s ok (by omega) (by omega)) fun q1 hq1 => ?_
  refine t_app ?_
  obtain ⟨hi, hq1⟩ := hq1
  have hi2 : q1.1 < t.size := by omega
  refine go ?_; intros
  refine cf (pick_f (B + 2) g F (u.size : Int) q1.2 hq1 (by omega) (by omega)) fun q2 hq2 => ?_
  refine t_app ?_
  obtain ⟨hj, hq2⟩ := hq2
  have hj2 : q2.1 < u.size := by omega
  refine go ?_; intros
  apply wO; apply oc; rfl; exact yd_sll rfl rfl (by omega) (by omega)
  have hxs : 1 ≤ (u.extract (q2.1 : Int).toNat u.size).size := by simp; omega
  refine go ?_; intros
  apply wO; apply oc; rfl; exact yd_slh rfl rfl (by omega) (by omega)
  have hxl : ((u.extract (q2.1 : Int).toNat u.size).extract 0 (1 : Int).toNat).size ≤ 1 := by simp; omega
  generalize (u.extract (q2.1 : Int).toNat u.size).extract 0 (1 : Int).toNat = x at *
  have ha : (t.extract 0 (q1.1 : Int).toNat).size ≤ q1.1 := by rw [ByteArray.size_extract]; omega
  have hb : (t.extract (q1.1 : Int).toNat t.size).size ≤ t.size - q1.1 := by rw [ByteArray.size_extract]; omega
  have hc : (t.extract ((q1.1 : Int) + 1).toNat t.size).size ≤ t.size - (q1.1 + 1) := by rw [ByteArray.size_extract]; omega
  have hax := ByteArray.size_append (a := t.extract 0 (q1.1 : Int).toNat) (b := x)
  refine go ?_; intros
  refine cf (pick_f (B + 2 + 2) g F 3 q2.2 hq2 (by omega) (by omega)) fun q3 hq3 => ?_
  refine t_app ?_
  obtain ⟨hm, hq3⟩ := hq3
  refine go ?_; intros
  by_cases h3 : (q3.1 : Int) = 0
  · rw [decide_eq_true h3]
    refine go ?_; intros
    refine d_start [] [] ?_
    refine dt 0 ?_
    refine dt 1 ?_
    refine dt 2 ?_ (hy := yd_slh rfl rfl (by omega) (by omega))
    refine dt 3 ?_
    refine dt 4 ?_
    refine dt 5 ?_
    refine dt 6 ?_
    refine dt 7 ?_ (hy := yd_sll rfl rfl (by omega) (by omega))
    refine dt 8 ?_
    refine dt 9 ?_
    refine dd ?_
    refine go ?_; intros
    refine ret (t.extract 0 (q1.1 : Int).toNat ++ x ++ t.extract (q1.1 : Int).toNat t.size, q3.2) ⟨by simp only [ByteArray.size_append]; omega, hq3⟩ rfl
  rw [decide_eq_false h3]
  refine go ?_; intros
  by_cases h4 : (q3.1 : Int) = 1
  · rw [decide_eq_true h4]
    refine go ?_; intros
    refine d_start [] [] ?_
    refine dt 0 ?_
    refine dt 1 ?_
    refine dt 2 ?_ (hy := yd_slh rfl rfl (by omega) (by omega))
    refine dt 3 ?_
    refine dt 4 ?_
    refine dt 5 ?_
    refine dt 6 ?_
    refine dt 7 ?_
    refine dt 8 ?_ (hy := yd_sll rfl rfl (by omega) (by omega))
    refine dt 9 ?_
    refine dt 10 ?_
    refine dd ?_
    refine go ?_; intros
    refine ret (t.extract 0 (q1.1 : Int).toNat ++ x ++ t.extract ((q1.1 : Int) + 1).toNat t.size, q3.2) ⟨by simp only [ByteArray.size_append]; omega, hq3⟩ rfl
  · rw [decide_eq_false h4]
    refine go ?_; intros
    refine d_start [] [] ?_
    refine dt 0 ?_
    refine dt 1 ?_
    refine dt 2 ?_ (hy := yd_slh rfl rfl (by omega) (by omega))
    refine dt 3 ?_
    refine dt 4 ?_
    refine dt 5 ?_
    refine dt 6 ?_ (hy := yd_sll rfl rfl (by omega) (by omega))
    refine dt 7 ?_
    refine dt 8 ?_
    refine dd ?_
    refine go ?_; intros
    refine ret (t.extract 0 (q1.1 : Int).toNat ++ t.extract ((q1.1 : Int) + 1).toNat t.size, q3.2) ⟨by simp only [ByteArray.size_append]; omega, hq3⟩ rfl
end Go.Proofs.YtgogcgkocjpgoaaGreatDoor
/- Elements: the oldest entry, ticks, draws. -/
namespace Go.Proofs.YtgogcgkocjpgoaaGreatDoor
open Go.RowKit
theorem resOld_no {e : Element} (g : goodElement e = false) : resOld e = (0, 0, false) := by
  unfold resOld
  split
  · rfl
  · rw [g]; rfl
theorem resOld_nil {e : Element} (h : e.entries = []) : resOld e = (0, 0, false) := by unfold resOld; rw [h]
theorem resOld_at {e : Element} (g : goodElement e = true) (h : 0 < e.entries.length) : resOld e = (e.entries[0].number, e.entries[0].untl - e.clock, true) := by
  obtain ⟨c, es⟩ := e
  cases es with
  | nil => exact absurd h (by simp)
  | cons x r =>
    show (if goodElement ⟨c, x :: r⟩ then (x.number, x.untl - c, true) else (0, 0, false)) = _
    rw [g]; rfl
set_option maxRecDepth 100000 in
theorem OldestEntry_f (e : Element) (v : Value) (F : List Nat) : Fn Tryz.prog 22 [v] [.isv EElement v e F] [] (fun (_ : Unit) => True) (fun _ => .tuple #[.int .i64 (resOld e).1, .int .i64 (resOld e).2.1, .bool (resOld e).2.2]) (fun _ => []) := by
  refine enter Tryz.func22 rfl Tryz.ntmps22 fun w0 => ?_
  refine openElement ?_
  rintro a1 c1 F1 rfl l1
  refine go ?_; intros
  refine cb (fun w st => IsValidElement_c _ e F w (st.get (p := .isv EElement (.agg #[.int .i64 e.clock, .slice a1 e.entries.length c1]) e F) (by simp))) ?_
  cases g : goodElement e
  · rw [resOld_no g]
    refine go ?_; intros
    refine ret () trivial rfl
  refine go ?_; intros
  refine c_if rfl (fun h0 => ?_) (fun h0 => ?_)
  · rw [resOld_nil (List.length_eq_zero_iff.1 (by omega))]
    refine go ?_; intros
    refine ret () trivial rfl
  have hl : 0 < e.entries.length := by omega
  rw [resOld_at g hl]
  have hg := goodX g (List.getElem_mem hl)
  have hu0 := hg.u0
  have hu1 := hg.u1
  have hc := goodC g
  refine goN ?_; intros
  refine atEntry (xs := e.entries) 0 ?_
  rintro hi b o a3 c3 F3 e1 l3
  rw [e1]
  refine d_start [0, 2] [] ?_
  refine dt 0 ?_
  refine dt 1 ?_
  refine dt 2 ?_
  refine dt 3 ?_
  refine dt 4 ?_
  refine dt 5 ?_
  refine dt 6 ?_
  refine dt 7 ?_
  refine dt 8 ?_
  refine dt 9 ?_
  refine dt 10 ?_
  refine dt 11 ?_
  refine dt 12 ?_
  refine dt 13 ?_
  refine dt 14 ?_
  refine dt 15 ?_
  refine dd ?_
  refine go ?_; intros
  refine ret () trivial rfl
set_option maxRecDepth 100000 in
theorem specOldestEntry_f (e : Element) (v : Value) (F : List Nat) : Fn Tryz.prog 23 [v] [.isv EElement v e F] [] (fun (_ : Unit) => True) (fun _ => .tuple #[.int .i64 (resOld e).1, .int .i64 (resOld e).2.1, .bool (resOld e).2.2]) (fun _ => []) := by
  refine enter Tryz.func23 rfl Tryz.ntmps23 fun w0 => ?_
  refine openElement ?_
  rintro a1 c1 F1 rfl l1
  refine go ?_; intros
  refine cb (fun w st => l14Good_c _ e F w (st.get (p := .isv EElement (.agg #[.int .i64 e.clock, .slice a1 e.entries.length c1]) e F) (by simp))) ?_
  cases g : goodElement e
  · rw [resOld_no g]
    refine go ?_; intros
    refine ret () trivial rfl
  refine go ?_; intros
  refine c_if rfl (fun h0 => ?_) (fun h0 => ?_)
  · rw [resOld_nil (List.length_eq_zero_iff.1 (by omega))]
    refine go ?_; intros
    refine ret () trivial rfl
  have hl : 0 < e.entries.length := by omega
  rw [resOld_at g hl]
  have hg := goodX g (List.getElem_mem hl)
  have hu0 := hg.u0
  have hu1 := hg.u1
  have hc := goodC g
  refine goN ?_; intros
  refine atEntry (xs := e.entries) 0 ?_
  rintro hi b o a3 c3 F3 e1 l3
  rw [e1]
  refine d_start [0, 2] [] ?_
  refine dt 0 ?_
  refine dt 1 ?_
  refine dt 2 ?_
  refine dt 3 ?_
  refine dt 4 ?_
  refine dt 5 ?_
  refine dt 6 ?_
  refine dt 7 ?_
  refine dt 8 ?_
  refine dt 9 ?_
  refine dt 10 ?_
  refine dt 11 ?_
  refine dt 12 ?_
  refine dt 13 ?_
  refine dt 14 ?_
  refine dt 15 ?_
  refine dd ?_
  refine go ?_; intros
  refine ret () trivial rfl

theorem TickE_f (e : Element) (v : Value) (F : List Nat) : Fn Tryz.prog 16 [v] [.isv EElement v e F] [] (fun (_ : Value × List Nat) => True) (fun s => .tuple #[s.1, .bool (okTick e)]) (fun s => [.own OElement s.1 (resTick e) s.2]) :=
  fn_made fun w hA => (TickElement_c v e F w (hA (.isv EElement v e F) (by simp))).mono fun e w' ⟨u, G, he, h1, h2, h3, h4⟩ => ⟨(u, G), trivial, he, ⟨h2, h1⟩, h3, h4⟩
theorem okTick_no {e : Element} (h : goodElement e = false) : okTick e = false ∧ resTick e = ⟨0, []⟩ := by
  have h1 : okTick e = false := by unfold okTick; rw [h]; rfl
  exact ⟨h1, by unfold resTick; rw [h1]; rfl⟩
theorem okTick_end {e : Element} (h : e.clock = 9999) : okTick e = false ∧ resTick e = ⟨0, []⟩ := by
  have h1 : okTick e = false := by unfold okTick; rw [h]; simp
  exact ⟨h1, by unfold resTick; rw [h1]; rfl⟩
theorem okTick_yes {e : Element} (h : goodElement e = true) (h2 : e.clock ≠ 9999) : okTick e = true ∧ resTick e = tickElement e := by
  have h1 : okTick e = true := by unfold okTick; rw [h]; simp [h2]
  exact ⟨h1, by unfold resTick; rw [h1]; rfl⟩
theorem specTickE_f (e : Element) (v : Value) (F : List Nat) : Fn Tryz.prog 20 [v] [.isv EElement v e F] [] (fun (_ : Value × List Nat) => True) (fun s => .tuple #[s.1, .bool (okTick e)]) (fun s => [.isv EElement s.1 (resTick e) s.2]) := by
  refine enter Tryz.func20 rfl Tryz.ntmps20 fun w0 => ?_
  refine openElement ?_
  rintro a1 c1 F1 rfl l1
  refine go ?_; intros
  refine cb (fun w st => l14Good_c _ e F w (st.get (p := .isv EElement (.agg #[.int .i64 e.clock, .slice a1 e.entries.length c1]) e F) (by simp))) ?_
  cases g : goodElement e
  · obtain ⟨k1, k2⟩ := okTick_no g
    rw [k1, k2]
    refine go ?_; intros
    refine t_nilsl EEntry (by decide) ?_
    refine closeElement ⟨0, []⟩ ?_
    refine ret (_, _) trivial rfl
  have hr := good_room g
  refine go ?_; intros
  refine c_if rfl (fun h0 => ?_) (fun h0 => ?_)
  · obtain ⟨k1, k2⟩ := okTick_end h0
    rw [k1, k2]
    refine go ?_; intros
    refine t_nilsl EEntry (by decide) ?_
    refine closeElement ⟨0, []⟩ ?_
    refine ret (_, _) trivial rfl
  obtain ⟨k1, k2⟩ := okTick_yes g h0
  rw [k1, k2]
  refine go ?_; intros
  refine cr (fun w st => l14Tick_c _ e F w (st.get (p := .isv EElement (.agg #[.int .i64 e.clock, .slice a1 e.entries.length c1]) e F) (by simp)) hr.1 (by have := hr.2.1; omega) (fun x hx => by have := hr.2.2 x hx; omega)) fun u F7 => ?_
  refine openElement (v := u) ?_
  rintro a6 c6 F6 rfl l6
  refine go ?_; intros
  refine ret (_, F7) trivial rfl
theorem DrawIsValidElement_f (v : Value) (code : List Int) (G : List Nat) : Fn Tryz.prog 83 [v] [.sl EByte v code G] [] (fun (_ : ElD) => True) (fun s => .agg #[.int .i64 s.y.clock, .slice s.a s.y.entries.length s.c]) (fun s => [.isv EElement (.agg #[.int .i64 s.y.clock, .slice s.a s.y.entries.length s.c]) s.y s.F]) := by
  refine enter Tryz.func83 rfl Tryz.ntmps83 fun w0 => ?_
  refine t_sl (E := EByte) ?_
  rintro a c rfl l1 l2
  refine go ?_; intros
  refine cf (element_f 0 _ ⟨code, a, c, G⟩ ⟨0, 0⟩ ⟨Nat.le_refl _, by decide, by decide⟩ (by omega)) fun z hz => ?_
  refine t_app ?_
  obtain ⟨hz1, hz2⟩ := hz
  refine go ?_; intros
  refine ret (⟨z.y, z.a, z.c, z.F, 0, z.s⟩ : ElD) trivial rfl
theorem DrawTickElement_f (v : Value) (code : List Int) (G : List Nat) : Fn Tryz.prog 19 [v] [.sl EByte v code G] [] (fun (_ : ElD) => True) (fun s => .agg #[.int .i64 s.y.clock, .slice s.a s.y.entries.length s.c]) (fun s => [.isv EElement (.agg #[.int .i64 s.y.clock, .slice s.a s.y.entries.length s.c]) s.y s.F]) := by
  refine enter Tryz.func19 rfl Tryz.ntmps19 fun w0 => ?_
  refine go ?_; intros
  refine cf (DrawIsValidElement_f v code G) fun z _ => ?_
  refine t_app ?_
  refine go ?_; intros
  refine ret (⟨z.y, z.a, z.c, z.F, 0, z.s⟩ : ElD) trivial rfl
theorem DrawEntriesText_f (v : Value) (code : List Int) (G : List Nat) : Fn Tryz.prog 11 [v] [.sl EByte v code G] [] (fun (_ : ElD) => True) (fun s => .agg #[.int .i64 s.y.clock, .slice s.a s.y.entries.length s.c]) (fun s => [.isv EElement (.agg #[.int .i64 s.y.clock, .slice s.a s.y.entries.length s.c]) s.y s.F]) := by
  refine enter Tryz.func11 rfl Tryz.ntmps11 fun w0 => ?_
  refine go ?_; intros
  refine cf (DrawIsValidElement_f v code G) fun z _ => ?_
  refine t_app ?_
  refine go ?_; intros
  refine ret (⟨z.y, z.a, z.c, z.F, 0, z.s⟩ : ElD) trivial rfl
theorem DrawOldestEntry_f (v : Value) (code : List Int) (G : List Nat) : Fn Tryz.prog 21 [v] [.sl EByte v code G] [] (fun (_ : ElD) => True) (fun s => .agg #[.int .i64 s.y.clock, .slice s.a s.y.entries.length s.c]) (fun s => [.isv EElement (.agg #[.int .i64 s.y.clock, .slice s.a s.y.entries.length s.c]) s.y s.F]) := by
  refine enter Tryz.func21 rfl Tryz.ntmps21 fun w0 => ?_
  refine go ?_; intros
  refine cf (DrawIsValidElement_f v code G) fun z _ => ?_
  refine t_app ?_
  refine go ?_; intros
  refine ret (⟨z.y, z.a, z.c, z.F, 0, z.s⟩ : ElD) trivial rfl

def conE : Element := ⟨3, [⟨9, [1, 4], 8⟩]⟩
theorem conE_good : goodElement conE = true := by decide
set_option maxRecDepth 100000 in
theorem DrawParseEntries_f (v : Value) (code : List Int) (G FT : List Nat) : Fn Tryz.prog 17 [v] [.sl EByte v code G, EnvP FT] [] (fun (s : ByteArray) => s.size ≤ 200) (fun s => .string s) (fun _ => []) := by
  refine enter Tryz.func17 rfl Tryz.ntmps17 fun w0 => ?_
  refine t_sl (E := EByte) ?_
  rintro a c rfl l1 l2
  refine go ?_; intros
  refine cf (element_f 0 _ ⟨code, a, c, G⟩ ⟨0, 0⟩ ⟨Nat.le_refl _, by decide, by decide⟩ (by omega)) fun z hz => ?_
  refine t_app ?_
  obtain ⟨hz1, hz2⟩ := hz
  refine go ?_; intros
  refine cb (fun w st => l14Good_c _ z.y z.F w (st.get (p := .isv EElement (.agg #[.int .i64 z.y.clock, .slice z.a z.y.entries.length z.c]) z.y z.F) (by simp))) ?_
  refine go ?_; intros
  rename_i g4
  refine c_joinS [2, 3, 4] [2, 3, 4] (fun _ : ElD => []) (fun y => [.row g4 26 0 [] [.int .i64 y.y.clock, .slice y.a y.y.entries.length y.c] [], .isv EElement (.agg #[.int .i64 y.y.clock, .slice y.a y.y.entries.length y.c]) y.y y.F]) (fun y => goodElement y.y = true) ?_ fun y hy => ?_
  · cases g : goodElement z.y
    · refine go ?_; intros
      rename_i g1 ge
      refine t_row (E := EInt) (xs := [1, 4]) (fun w => flat_int w _) ?_ (by decide)
      refine t_read (E := EInt) fun G1 => ?_
      refine closeEntry ⟨9, [1, 4], 8⟩ ?_
      refine t_ea1 (E := EEntry) (x := ⟨9, [1, 4], 8⟩) ?_
      refine t_row (E := EC 3) (xs := [([.int .i64 9, .slice (some ⟨g1, 0, none⟩) 2 2, .int .i64 8] : List Value)]) (flat_ec1 rfl (by simp [Value.oneCell'])) ?_ (by simp)
      refine t_read (E := EC 3) fun F8 => ?_
      refine t_deepR (E := EEntry) (m := 3) (v := .agg #[.int .i64 9, .slice (some ⟨g1, 0, none⟩) 2 2, .int .i64 8]) (ys := [([.int .i64 9, .slice (some ⟨g1, 0, none⟩) 2 2, .int .i64 8] : List Value)]) (xs := [(⟨9, [1, 4], 8⟩ : Entry)]) rfl (by simp) (by simp) fun F9 => ?_
      refine closeElement conE ?_
      refine n_join (⟨conE, some ⟨ge, 0, none⟩, 1, _, 0, z.s⟩ : ElD) conE_good
    · refine go ?_; intros
      refine n_join (⟨z.y, z.a, z.c, z.F, 0, z.s⟩ : ElD) g
  refine go ?_; intros
  refine cb (fun w st => (l14Text_f y.y _ y.F FT hy).val w (hol2 (st.get (p := .isv EElement (.agg #[.int .i64 y.y.clock, .slice y.a y.y.entries.length y.c]) y.y y.F) (by simp)) (st.get (p := EnvP FT) (by simp)))) ?_
  have hzt := elT_size hy
  refine go ?_; intros
  refine cf (one_f _ _ ⟨code, a, c, G⟩ 4 z.s hz2 (by omega) (by omega)) fun q hq => ?_
  refine t_app ?_
  obtain ⟨b, s1⟩ := q
  obtain ⟨-, hq⟩ := hq
  cases b
  · refine go ?_; intros
    refine ret (elT y.y) (by show _ ≤ 200; omega) rfl
  · refine go ?_; intros
    refine cf (spoilt_f _ _ ⟨code, a, c, G⟩ s1 (elT y.y) ⟨#[49, 32, 59, 102, 117]⟩ hq (by omega) (by omega) (by decide) (by decide)) fun r hr => ?_
    refine t_app ?_
    refine go ?_; intros
    refine ret r.1 (by have := hr.1; show _ ≤ 200; omega) rfl
end Go.Proofs.YtgogcgkocjpgoaaGreatDoor
/- Texts that are alike; a code that is too long. -/
namespace Go.Proofs.YtgogcgkocjpgoaaGreatDoor
open Go.RowKit
set_option maxRecDepth 100000 in
theorem vBig_f (v : Value) (code : List Int) (F : List Nat) : Fn Tryz.prog 10 [v] [.sl EByte v code F] [] (fun (_ : Unit) => True) (fun _ => .bool (decide (65536 < (code.length : Int)))) (fun _ => []) := by
  refine enter Tryz.func10 rfl Tryz.ntmps10 fun w0 => ?_
  refine t_sl (E := EByte) ?_
  rintro a c rfl l1 l2
  refine go ?_; intros
  refine ret () trivial rfl
end Go.Proofs.YtgogcgkocjpgoaaGreatDoor
/- The law FnEntries: the walk. -/
namespace Go.Proofs.YtgogcgkocjpgoaaGreatDoor
open Go.RowKit
theorem old_in {e : Element} {n t : Int} (h : resOld e = (n, t, true)) : 1 ≤ t ∧ t ≤ 6 := by
  cases g : goodElement e
  · rw [resOld_no g] at h; cases h
  · by_cases hl : 0 < e.entries.length
    · rw [resOld_at g hl] at h
      have hg := goodX g (List.getElem_mem hl)
      have := hg.u0
      have := hg.u1
      simp only [Prod.mk.injEq, and_true] at h
      omega
    · rw [resOld_nil (List.length_eq_zero_iff.1 (by omega))] at h; cases h
theorem resET_yes {e : Element} (g : goodElement e = true) : resET e = (elT e, true) := by unfold resET; rw [g]; rfl
theorem resET_no {e : Element} (g : goodElement e = false) : resET e = (⟨#[]⟩, false) := by unfold resET; rw [g]; rfl
theorem resET_size (e : Element) : (resET e).1.size ≤ 159 := by
  cases g : goodElement e
  · rw [resET_no g]; exact Nat.zero_le _
  · rw [resET_yes g]; exact elT_size g
theorem resET_read {s : ByteArray} (h : (resPE s).2 = true) : resET (resPE s).1 = (s, true) := by
  obtain ⟨a, b⟩ := resPE_text h
  rw [resET_yes a, b]
theorem tick_less (e : Element) : (tickElement e).entries.length ≤ e.entries.length := List.length_filter_le _ _
set_option maxHeartbeats 2000000 in
set_option maxRecDepth 100000 in
theorem fnEntries_f (v : Value) (code : List Int) (G FT : List Nat) : Fn Tryz.prog 3 [v] [.sl EByte v code G, EnvP FT] [] (fun (_ : Unit) => True) (fun _ => .bool true) (fun _ => []) := by
  have hbb : ∀ b : Bool, decide (¬ b = b) = false := by simp
  have hii : ∀ a : Int, decide (a = a) = true := by simp
  have hss : ∀ s : ByteArray, decide (¬ s = s) = false := by simp
  refine enter Tryz.func3 rfl Tryz.ntmps3 fun w0 => ?_
  refine go ?_; intros
  refine cb (fun w st => (vBig_f v code G).val w (hol1 (st.get (p := .sl EByte v code G) (by simp)))) ?_
  refine go ?_; intros
  refine c_if rfl (fun h => ?_) (fun h => ?_)
  · refine go ?_; intros
    refine ret () trivial rfl
  refine go ?_; intros
  refine cf (DrawEntriesText_f v code G) fun z _ => ?_
  refine t_app ?_
  refine go ?_; intros
  refine cf (EntriesText_f z.y _ z.F FT) fun _ _ => ?_
  refine t_app ?_
  have hs := resET_size z.y
  refine go ?_; intros
  refine cf (ParseEntries_f (resET z.y).1 FT (by omega)) fun p _ => ?_
  refine t_app ?_
  refine t_weakI weak_Element fun F5 => ?_
  refine go ?_; intros
  refine cf (specEntriesText_f z.y _ z.F FT) fun _ _ => ?_
  refine t_app ?_
  repeat (apply wO; apply oc; rfl; exact ydE)
  apply w_nil
  apply n_cd
  apply c_seq
  refine c_join2 [0, 3, 5] [2, 3, 4, 5] (fun _ : Unit => []) (fun _ => []) (fun _ => True) ?_ fun _ _ => ?_
  · cases g : goodElement z.y
    · rw [resET_no g]
      refine go ?_; intros
      rw [hss]
      refine go ?_; intros
      refine n_join () trivial
    · rw [resET_yes g, resPE_back g]
      refine go ?_; intros
      rw [hss]
      refine go ?_; intros
      refine cf (vElement_f _ _ z.y _ _) fun _ _ => ?_
      refine t_app ?_
      refine go ?_; intros
      refine n_join () trivial
  apply n_cd
  apply c_seq
  apply c_seq
  refine c_join2 [0] [2, 3] (fun _ : Unit => []) (fun _ => []) (fun _ => True) ?_ fun _ _ => ?_
  · cases g : goodElement z.y
    · rw [resET_no g]
      refine go ?_; intros
      refine n_join () trivial
    rw [resET_yes g]
    have hc := goodC g
    refine go ?_; intros
    refine c_if rfl (fun h9 => ?_) (fun h9 => ?_)
    · refine go ?_; intros
      rename_i g10
      refine c_loopS [0] (fun y : ElD => [(10, ptr g10 0 0), (11, .int .i64 (y.i : Nat))]) (fun y => [.row g10 26 0 [] [.int .i64 y.y.clock, .slice y.a y.y.entries.length y.c] [], .isv EElement (.agg #[.int .i64 y.y.clock, .slice y.a y.y.entries.length y.c]) y.y y.F]) (fun y => Aged z.y y.i y.y ∧ y.i ≤ 6) (fun y => 6 - y.i) ⟨z.y, z.a, z.c, z.F, 0, z.s⟩ ⟨aged_zero g, Nat.zero_le _⟩ fun y hy => ?_
      obtain ⟨hy1, hy2⟩ := hy
      have hyc := hy1.c
      refine go ?_; intros
      refine c_if rfl (fun h10 => ?_) (fun h10 => ?_)
      · obtain ⟨k1, k2⟩ := okTick_yes hy1.g (by omega)
        refine go ?_; intros
        refine cf (TickE_f y.y _ y.F) fun u _ => ?_
        refine t_app ?_
        rw [k1, k2]
        have hle := tick_less y.y
        refine t_weakI weak_Element fun F7 => ?_
        refine openElement (v := u.1) (x := tickElement y.y) ?_
        rintro a6 c6 F6 e6 l6
        rw [e6]
        refine go ?_; intros
        refine c_if rfl (fun h11 => ?_) (fun h11 => ?_)
        · exact absurd h11 (by omega)
        refine go ?_; intros
        refine n_lp (⟨tickElement y.y, a6, c6, F7, y.i + 1, y.s⟩ : ElD) ⟨aged_succ hy1 (by omega), by show y.i + 1 ≤ 6; omega⟩ (by show 6 - (y.i + 1) < 6 - y.i; omega)
      · have hi : y.i = 6 := by omega
        have he := aged_six (hi ▸ hy1)
        refine go ?_; intros
        refine c_if rfl (fun h12 => ?_) (fun h12 => ?_)
        · exact absurd (by rw [he]; rfl) h12
        refine go ?_; intros
        refine n_join () trivial
    · refine go ?_; intros
      refine n_join () trivial
  refine go ?_; intros
  refine cf (DrawParseEntries_f v code G FT) fun t ht => ?_
  refine t_app ?_
  refine go ?_; intros
  refine cf (ParseEntries_f t FT (by omega)) fun p2 _ => ?_
  refine t_app ?_
  refine t_weakI weak_Element fun F8 => ?_
  refine go ?_; intros
  refine cf (EntriesText_f (resPE t).1 _ F8 FT) fun _ _ => ?_
  refine t_app ?_
  refine go ?_; intros
  refine cf (specParseEntries_f t FT (by omega)) fun q2 _ => ?_
  refine t_app ?_
  refine t_weakI weak_Element fun F9 => ?_
  repeat (first | (apply wO; apply oc; rfl; exact ydE) | (apply wO; apply o_alloc; rfl; intro _) | (apply wO; apply o_st; rfl; rfl; rfl; (first | exact AggC.s | exact OneC.s); rfl; exact rplE; exact putE; rfl))
  apply w_nil
  apply n_cd
  apply c_seq
  refine c_join2 [0] [4, 5] (fun _ : Unit => []) (fun _ => []) (fun _ => True) ?_ fun _ _ => ?_
  · refine go ?_; intros
    rw [hbb]
    refine go ?_; intros
    refine cf (vElement_f _ _ (resPE t).1 _ _) fun _ _ => ?_
    refine t_app ?_
    cases g : (resPE t).2
    · refine go ?_; intros
      refine n_join () trivial
    · rw [resET_read g]
      refine go ?_; intros
      rw [hss]
      refine go ?_; intros
      refine n_join () trivial
  refine go ?_; intros
  refine cf (DrawTickElement_f v code G) fun x _ => ?_
  refine t_app ?_
  refine go ?_; intros
  refine cf (TickE_f x.y _ x.F) fun u _ => ?_
  refine t_app ?_
  refine t_weakI weak_Element fun F10 => ?_
  refine openElement (v := u.1) (x := resTick x.y) ?_
  rintro a6 c6 F6 e6 l6
  rw [e6]
  refine go ?_; intros
  refine cf (specTickE_f x.y _ x.F) fun u2 _ => ?_
  refine t_app ?_
  refine openElement (v := u2.1) (x := resTick x.y) ?_
  rintro a7 c7 F7 e7 l7
  rw [e7]
  refine go ?_; intros
  rw [hbb]
  refine go ?_; intros
  refine cf (vElement_f _ _ (resTick x.y) _ _) fun _ _ => ?_
  refine t_app ?_
  refine go ?_; intros
  refine cf (DrawOldestEntry_f v code G) fun y _ => ?_
  refine t_app ?_
  refine go ?_; intros
  have hP := OldestEntry_f y.y (.agg #[.int .i64 y.y.clock, .slice y.a y.y.entries.length y.c]) y.F
  have hQ := specOldestEntry_f y.y (.agg #[.int .i64 y.y.clock, .slice y.a y.y.entries.length y.c]) y.F
  have hin := @old_in y.y
  obtain ⟨n, t2, k, e⟩ : ∃ n t2 k, resOld y.y = (n, t2, k) := ⟨_, _, _, rfl⟩
  rw [e] at hP hQ hin
  refine cf hP fun _ _ => ?_
  refine t_app ?_
  refine go ?_; intros
  refine cf hQ fun _ _ => ?_
  refine t_app ?_
  refine go ?_; intros
  rw [hii]
  refine go ?_; intros
  rw [hii]
  cases k
  · refine go ?_; intros
    refine ret () trivial rfl
  obtain ⟨i1, i2⟩ := hin rfl
  refine go ?_; intros
  refine wg_if rfl rfl (fun h3 => ?_) (fun h3 => ?_)
  · refine go ?_; intros
    refine ret () trivial ?_
    rw [decide_eq_true i2]; rfl
  · exact absurd i1 (by omega)
end Go.Proofs.YtgogcgkocjpgoaaGreatDoor
/- The library's variables as the rows give them when the call begins. -/
namespace Go.Proofs.YtgogcgkocjpgoaaGreatDoor
open Go.RowKit
theorem star_es : "*" ++ "errors.errorString" = "*errors.errorString" := by decide
theorem row_es : ∀ u, Tryz.prog.typeName? 3 u = some "*errors.errorString" → u = 302 := by
  intro u h
  exact typeName_ptr_named (nm := "errors.errorString") (by rw [star_es]; kernel_rfl) (by kernel_rfl) (by decide) u (by rw [star_es]; exact h)
theorem env_of {W : World} (hL : laidMetH Tryz.prog Rows.fnEntriesRow.laid W) (hsh : W.ShapedOpen Tryz.prog) : (EnvP [3, 0, 1, 2]).P W := by
  rw [MakeChecks.laidMetH_plain _ _ _ (by kernel_rfl)] at hL
  have h3 := hL.tail.tail
  have h5 := hL.tail.tail.tail.tail
  have h6 := hL.tail.tail.tail.tail.tail
  have e : (Rows.laid_internal_strconv_uint64pow10 : DataW Unit) = Lib.tabData .u64 Lib.pow10Tab := by kernel_rfl
  rw [e] at h3
  have ht : Lib.TabIs Tryz.prog W "internal/strconv.uint64pow10" .u64 Lib.pow10Tab := Lib.tabIs_of_head (g := 3) (t := 291) (e := 121) (n := 20) (by kernel_rfl) (by kernel_rfl) Tryz.underlying291 Tryz.underlying121 (by kernel_rfl) (by kernel_rfl) h3
  have hu : Tryz.prog.underlying 179 = some (.interface (Tryz.prog.methodsAt 179)) := by kernel_rfl
  obtain ⟨a1, s1, hv1, -, -, -⟩ := laid_sentinel (g := 2) (ti := 179) (tp := 302) (te := 304) (ts := 9) h5 (by kernel_rfl) (by kernel_rfl) hu row_es Tryz.underlying302 Tryz.underlying304 rfl rfl Tryz.underlying9 (by kernel_rfl) (by kernel_rfl)
  obtain ⟨a2, s2, hv2, -, -, -⟩ := laid_sentinel (g := 1) (ti := 179) (tp := 302) (te := 304) (ts := 9) h6 (by kernel_rfl) (by kernel_rfl) hu row_es Tryz.underlying302 Tryz.underlying304 rfl rfl Tryz.underlying9 (by kernel_rfl) (by kernel_rfl)
  obtain ⟨m, hm⟩ := cell_of_shapedOpen_int (P := Tryz.prog) (g := 0) (t := 3) (zero := #[.int .i64 0]) hsh (of_decide_eq_true (by kernel_rfl)) (by kernel_rfl) rfl (by kernel_rfl) (by kernel_rfl) Tryz.underlying3
  refine ⟨[], rfl, rfl, ⟨ht, ⟨m, hm⟩, ⟨_, _, hv2⟩, ⟨_, _, hv1⟩⟩, rfl, ?_⟩
  have hc := Lib.TabIs.cell ht (g := 3) (by kernel_rfl) 0 (by rw [Lib.pow10Tab_length]; omega)
  have b0 := World.block_lt_of_cell? W ⟨3, 0, none⟩ hc
  intro b hb
  have : b ≤ 3 := by
    simp only [List.mem_cons, List.not_mem_nil, or_false] at hb
    rcases hb with rfl | rfl | rfl | rfl <;> decide
  exact Nat.lt_of_le_of_lt this b0
end Go.Proofs.YtgogcgkocjpgoaaGreatDoor
/- What every law's proof shares: the step from 'returns true, and nothing that was there has turned' to the row's post; how arguments read. -/
namespace Go.Proofs.YtgogcgkocjpgoaaGreatDoor
open Go.ChangeShapes Go.WideShapes Go.ChangeAt Go.RowKit

theorem trodAll_below {H : Type} {enc : TypeId × Value → H} {P : Program} (hl : laidOutB P = true) {W W' : World} (hb : Below W.heap.size W W') :
    ∀ (ts : List TypeId) (vs : List Value) (ds : List (DataW H)) (ps : List MemPlace), (∀ t ∈ ts, P.readableRec t = true ∧ t < P.types.size) →
      DataW.TrodAll enc P W 0 (fun _ => true) true ts vs ds ps → (∀ x ∈ ps, x.block < W.heap.size) → DataW.TrodAll enc P W' 0 (fun b => decide (b < W.heap.size)) true ts vs ds ps
  | [], vs, ds, ps, _, h, _ => by obtain ⟨rfl, rfl, rfl⟩ := trodAll_nil h; exact rfl
  | t :: ts, vs, ds, ps, ht, h, hlt => by
    obtain ⟨v, vs', d, ds', p, q, rfl, rfl, rfl, h1, h2⟩ := trodAll_cons h
    have ⟨a, b⟩ := ht t (by simp)
    exact ⟨p, q, Below.trod hl a b h1 hb fun x hx => hlt x (by simp [hx]), trodAll_below hl hb ts vs' ds' q (fun t h => ht t (by simp [h])) h2 fun x hx => hlt x (by simp [hx]), rfl⟩

/-- A law returned true and left all that was there aS it was: the row's post. -/
theorem law_post {H : Type} {enc : TypeId × Value → H} {P : Program} {f : Func} {s : ChangeSpec} {tb : TypeId} (hl : laidOutB P = true) (hr : ∀ t ∈ f.params.toList, P.readableRec t = true ∧ t < P.types.size)
    (hb : P.underlying tb = some .bool) (hres : f.resultTypes = #[tb]) (hv : s.vars = []) {W W' : World} {args : Array Value} {ds gs : List (DataW H)} {before : List MemPlace}
    (hs : s.fn H ds = { results := [.lit (.bool true)], args := ds }) (hW : DataW.Whole enc P f.params.toList s.vars false W args.toList ds gs before) (hB : Below W.heap.size W W') :
    s.post enc P f false true false false W args (.bool true) W' := by
  have hlt := hW.lt
  have hW0 := hW
  obtain ⟨p, q, hA, hV, rfl, _, _⟩ := hW0
  rw [hv] at hV
  obtain ⟨rfl, rfl⟩ := trodVars_none hV
  refine ⟨ds, [], p ++ [], [], p, [], hW, ?_, ?_, ?_, hB.frame _, fun h => by cases h⟩
  · rw [List.append_nil, hs, hres]
    exact trodAll_mk1 (shut_bool hb true)
  · rw [List.append_nil, hs]
    exact trodAll_below hl hB _ _ _ _ hr hA fun x hx => hlt x (by simpa using hx)
  · rw [hv, List.append_nil, hs]; exact rfl

/-- what reads aS data at type t reads by E -/
def Reads (P : Program) {α : Type} (E : Elem α) (t : TypeId) : Prop :=
  ∀ {H : Type} {enc : TypeId × Value → H} {w : World} {fuel : Nat} {cs : List Value} {x : DataW H × List MemPlace}, DataW.trod enc P w 0 (fun _ => true) true fuel t cs = some x → ∃ y F, E.rep w cs y F

section
variable {P : Program}
theorem reads_cells {α : Type} {E : Elem α} {e : TypeId} (hsz : P.cellsOf e = E.sz) (he : Reads P E e) {H : Type} {enc : TypeId × Value → H} {w : World} {n b off : Nat} :
    ∀ (els : List (DataW H × List MemPlace)) (k : Nat), (∀ i, i < els.length → (w.cells? 0 ((⟨b, off, none⟩ : Addr).add ((k + i) * P.cellsOf e)) (P.cellsOf e)).bind (DataW.trod enc P w 0 (fun _ => true) true n e) = els[i]?) →
      ∃ ys F, ys.length = els.length ∧ Cells E w b (off + k * E.sz) ys F
  | [], _, _ => ⟨[], [], rfl, rfl⟩
  | x :: r, k, h => by
    have h0 := h 0 (by simp)
    simp only [Nat.add_zero, List.getElem?_cons_zero, Option.bind_eq_some_iff] at h0
    obtain ⟨cs, hc, hx⟩ := h0
    obtain ⟨y, F1, hy⟩ := he hx
    obtain ⟨ys, F2, hl, hys⟩ := reads_cells hsz he r (k + 1) fun i hi => by
      have := h (i + 1) (by simpa using hi)
      rw [show k + 1 + i = k + (i + 1) by omega]
      simpa using this
    refine ⟨y :: ys, F1 ++ F2, by simp [hl], cs, F1, F2, rfl, hy, fun j hj => ?_, by rwa [show off + k * E.sz + E.sz = off + (k + 1) * E.sz by rw [Nat.add_mul]; omega]⟩
    obtain ⟨_, hlen, hcell⟩ := World.cells?_some hc
    rw [← hcell j (by rw [hsz]; exact hj)]
    congr 1
    simp only [Addr.add, hsz]
    split <;> split <;> simp_all <;> omega
theorem reads_slice {α : Type} {E : Elem α} {t e : TypeId} (ht : P.underlying t = some (.slice e)) (hsz : P.cellsOf e = E.sz) (hz : 0 < E.sz) (he : Reads P E e) : Reads P (ESl E hz) t := fun h => by
  rcases DataW.trod_slice ht h with ⟨rfl, _⟩ | ⟨a, len, cap, elems, rest, n, rfl, rfl, _, _, hlc, hcm, hlen, hel, _, _⟩
  · exact ⟨[], [], _, rfl, none, 0, rfl, ⟨by simp, by simp⟩, .inl ⟨rfl, rfl, fun _ => rfl⟩⟩
  · by_cases h0 : len = 0
    · subst h0
      exact ⟨[], [], _, rfl, some a, cap, rfl, ⟨by simp, by omega⟩, .inl ⟨rfl, rfl, fun e => by cases e⟩⟩
    · have hs : a = ⟨a.block, a.off, none⟩ := by
        have := hel 0 (by omega)
        rw [List.getElem?_eq_getElem (by omega)] at this
        simp only [Option.bind_eq_some_iff] at this
        obtain ⟨cs, hc, _⟩ := this
        obtain ⟨_, hl2, hcell⟩ := World.cells?_some hc
        have h1 := hcell 0 (by omega)
        rw [List.getElem?_eq_getElem (by omega)] at h1
        simp [Addr.add, World.cell?] at h1
        split at h1 <;> simp_all
        cases a; simp_all
      obtain ⟨ys, F, hyl, hys⟩ := reads_cells hsz he elems 0 (n := n) (b := a.block) (off := a.off) (enc := _) (w := _) (by
        rw [← hs]; intro i hi; rw [Nat.zero_add]; exact hel i (by omega))
      refine ⟨ys, a.block :: F, _, rfl, some a, cap, by rw [hyl, hlen], ⟨by omega, by omega⟩, .inr ⟨a.block, a.off, F, by rw [← hs], ?_, rfl, by simpa using hys⟩⟩
      intro e; rw [e] at hyl; simp at hyl; omega
end

/-- the fields of a struct, one behind the other, each by its own reading -/
inductive FieldsOk (P : Program) : List Field → Nat → (α : Type) → Elem α → Prop
  | nil (off : Nat) : FieldsOk P [] off Unit EUnit
  | cons {f : Field} {r : List Field} {off : Nat} {α β : Type} {A : Elem α} {B : Elem β} (ho : f.offset = off) (hc : P.cellsOf f.type = A.sz) (hA : Reads P A f.type) (h : FieldsOk P r (off + A.sz) β B) : FieldsOk P (f :: r) off (α × β) (EProd A B)
end Go.Proofs.YtgogcgkocjpgoaaGreatDoor
/- The law FnEntries: what is counted of the program, each count by itself. -/
namespace Go.Proofs.YtgogcgkocjpgoaaGreatDoor
open Go.RowKit Go.ChangeShapes Go.WideShapes Go.ChangeAt
set_option maxRecDepth 100000 in
set_option maxHeartbeats 0 in
theorem jf_FnEntries : joinedFacts Tryz.prog 3 Tryz.f3 Rows.fnEntriesSpec Rows.fnEntriesRow = true := by
  unfold joinedFacts
  simp only [Bool.and_eq_true]
  repeat' refine And.intro ?_ ?_
  all_goals (as_aux_lemma => kernel_rfl)
end Go.Proofs.YtgogcgkocjpgoaaGreatDoor
