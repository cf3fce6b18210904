/- Walks: the reference's draws of records and logs. -/
import Derived.Test.YtnmgaponnfjciaaDoorDraws
import Derived.Test.YtnmgaponnfjciaaDoorCAppendRecord
import Derived.Test.YtnmgaponnfjciaaDoorCSyncLog
namespace Go.Proofs.YtnmgaponnfjciaaDoor
open Go.RowKit
theorem Cur.far {B w g F} (h : Cur B w g F) : ∀ b ∈ F, b < g := by
  obtain ⟨code, a, c, k, seed, R, S, hF, _⟩ := h; exact hF
theorem Cur.setFar {B w g F} (h : Cur B w g F) {p : Addr} (hp : g < p.block) (u : Value) : Cur B (w.setCell p u) g F :=
  h.keep (K := [p.block]) ((Keep.refl _ _).setCell (by simp) u) (by simp; omega) (fun b hb => by have := h.far b hb; simp; omega)
theorem make_bytes (n : Nat) (k : Int) (hk : k = n) (w : World) (hn : n ≤ 1048576) : ∃ (O : Obj) (z : ByteArray), (Instr.makeSlice 53 (.int .i64 k) (.int .i64 k)).run Tryd.prog w = .ok (.slice (some ⟨w.heap.size, 0, none⟩) n n) (w.alloc O) ∧
    (convert 53 9 (.slice (some ⟨w.heap.size, 0, none⟩) n n)).run Tryd.prog (w.alloc O) = .ok (.string z) (w.alloc O) ∧ z.size = n := by
  subst hk
  have hi : (Tryd.prog.info? 5).map (fun i => (i.zero, i.size, i.bytes)) = some (some (.int .u8 0), 1, 1) := by kernel_rfl
  cases he : Tryd.prog.info? 5 with
  | none => rw [he] at hi; cases hi
  | some i =>
    rw [he] at hi
    simp only [Option.map_some, Option.some.injEq, Prod.mk.injEq] at hi
    obtain ⟨hz, h1, h2⟩ := hi
    have hr := run_make (P := Tryd.prog) w 53 5 i (.int .u8 0) Tryd.underlying53 he hz .i64 .i64 n n (by omega) (Int.le_refl _) (by rw [h2]; omega) (by omega)
    rw [Int.toNat_natCast] at hr
    refine ⟨_, ⟨(List.replicate n (0 : UInt8)).toArray⟩, hr, ?_, by simp [ByteArray.size]⟩
    have hB : ByteRow (w.alloc (.cells (madeCells (Value.int .u8 0).cells (n * i.size)) 5)) w.heap.size (List.replicate n 0) := by
      refine ⟨by simp, fun j hj => ?_⟩
      have hrow := Row.made w 5 (madeCells (Value.int .u8 0).cells (n * i.size)).toList
      rw [Array.toArray_toList] at hrow
      refine ⟨?_, hrow.frozens j⟩
      rw [hrow.cells j, Array.getElem?_toList]
      rw [List.length_replicate] at hj
      simp [madeCells, Value.cells, h1, hj, Nat.mod_one]
    have := bytes_back n hB
    rwa [List.length_replicate] at this
def PStr (M B g : Nat) (F : List Nat) (w : World) (e : Ending) (w' : World) : Prop := ∃ x : ByteArray, e = .returned (.string x) ∧ x.size ≤ M ∧ Cur B w' g F ∧ Keep [g] w w'
/-- a row of strings reads as a list -/
theorem strs_flat (w : World) (b : Nat) : ∀ (xs : List ByteArray) (off : Nat), (∀ x ∈ xs, x.size ≤ maxLen) → (∀ j x, xs[j]? = some x → w.cell? ⟨b, off + j, none⟩ = some (.string x)) → Cells EStr w b off xs []
  | [], _, _, _ => rfl
  | x :: r, off, hs, h => by
    refine ⟨[.string x], [], [], rfl, ⟨rfl, hs x (by simp), rfl⟩, fun j hj => ?_, strs_flat w b r (off + 1) (fun y hy => hs y (by simp [hy])) (fun j y hy => ?_)⟩
    · obtain rfl : j = 0 := by simp [EStr] at hj; exact hj
      simpa using h 0 x rfl
    · have := h (j + 1) y (by simpa using hy)
      rw [show off + 1 + j = off + (j + 1) by omega]; exact this
theorem sl_strs {w : World} {b : Nat} {t : TypeId} {xs : List ByteArray} {cap : Nat} (h : Row w b t (xs.map .string)) (hs : ∀ x ∈ xs, x.size ≤ maxLen) (hne : xs ≠ []) (hc : xs.length ≤ cap) (hm : cap ≤ maxLen) : Sl EStr w (.slice (some ⟨b, 0, none⟩) xs.length cap) xs [b] := by
  refine ⟨some ⟨b, 0, none⟩, cap, rfl, ⟨hc, hm⟩, .inr ⟨b, 0, [], rfl, hne, rfl, strs_flat w b xs 0 hs (fun j x hx => ?_)⟩⟩
  rw [Nat.zero_add, h.cells j, List.getElem?_map, hx]; rfl
/-- one of some short texts, whatever list was just made -/
theorem of_small (M B g : Nat) (F : List Nat) (b : Nat) (t : TypeId) (xs : List ByteArray) (w : World) (h : Cur B w g F) (hB0 : B ≤ 1099511627774) (hx : Row w b t (xs.map .string)) (h0 : xs ≠ []) (h1 : xs.length ≤ 1048576) (hg : g ≠ b) (hM : ∀ x ∈ xs, x.size ≤ M) (hM2 : M ≤ 1000) :
    Calls Tryd.prog 73 #[.pointer (some ⟨g, 0, none⟩), .slice (some ⟨b, 0, none⟩) xs.length xs.length] w (PStr M (B + 2) g F w) := by
  refine (of_c B g F _ xs [b] w h hB0 (sl_strs hx (fun x hx => by have := hM x hx; unfold maxLen; omega) h0 (Nat.le_refl _) (by unfold maxLen; omega)) (List.length_pos_iff.2 h0) h1 (by simpa using hg)).mono ?_
  rintro e w' ⟨s, hs, rfl, hC, hk⟩
  exact ⟨s, rfl, hM s hs, hC, hk⟩
set_option maxHeartbeats 3200000 in
set_option maxRecDepth 100000 in
theorem spoilt_c (B g : Nat) (F : List Nat) (t s : ByteArray) (w : World) (h : Cur B w g F) (hB0 : B ≤ 1099511620000) (ht : t.size ≤ 100000) (hs : 1 ≤ s.size) (hs2 : s.size ≤ 1000) :
    Calls Tryd.prog 57 #[.pointer (some ⟨g, 0, none⟩), .string t, .string s] w (PStr (t.size + 1) (B + 6) g F w) := by
  by_cases ht0 : t = ⟨#[]⟩
  · subst ht0
    go_enter Tryd.func57, Tryd.ntmps57
    go_wp2_with fail
    refine bodyPost_ret (v := .string (s.extract 0 1)) ?_ rfl ?_
    · simp [results, Tryd.results57, go_sem]
    · exact ⟨_, rfl, by simp; omega, h.mono (by omega), Keep.refl _ _⟩
  · have ht1 : 0 < t.size := by
      rcases Nat.eq_zero_or_pos t.size with h0 | h0
      · exact absurd (by apply ByteArray.ext; exact Array.eq_empty_of_size_eq_zero h0) ht0
      · exact h0
    have ht3 : t.toList ≠ [] := fun e => by
      rw [ByteArray.toList_eq] at e; have := congrArg List.length e; rw [size_list, List.length_nil] at this; omega
    have ht2 : t.toList.isEmpty = false := List.isEmpty_eq_false_iff.2 ht3
    clear ht0
    have lg := h.lt
    have hFg := h.far
    have hC := h
    have hKp := Keep.refl [g] w
    clear h
    go_enter Tryd.func57, Tryd.ntmps57
    go_wp2_with fail
    refine (pick_c B g F t.size _ hC (by omega) (by omega)).mono ?_
    rintro e w1 ⟨i, rfl, hi, hC', hk⟩
    have hs_w1 := hk.size
    replace hC := hC'; clear hC'
    replace hKp := hKp.trans hk
    clear hk
    have hi2 : i < t.size := by omega
    clear hi
    go_wp2_with fail
    refine (pick_c _ g F s.size _ hC (by omega) (by omega)).mono ?_
    rintro e w2 ⟨j, rfl, hj, hC', hk⟩
    have hs_w2 := hk.size
    replace hC := hC'; clear hC'
    replace hKp := hKp.trans hk
    clear hk
    have hj2 : j < s.size := by omega
    clear hj
    go_wp2_with fail
    refine (pick_c _ g F 3 _ hC (by omega) (by omega)).mono ?_
    rintro e w3 ⟨m, rfl, hm, hC', hk⟩
    have hs_w3 := hk.size
    replace hC := hC'; clear hC'
    replace hKp := hKp.trans hk
    clear hk
    have hxl : ((s.extract j s.size).extract 0 1).size ≤ 1 := by simp; omega
    generalize (s.extract j s.size).extract 0 1 = x at *
    have hwi := Lib.hid (show IntKind.i64.wrap ((i : Int) + 1) = ((i + 1 : Nat) : Int) from by rw [IntKind.wrap_i64]; omega)
    by_cases h0 : m = 0
    · subst h0
      go_wp2_with fail
      rename_i K0 hK0
      refine AnyX.start (S := (fun w' => True)) (X := (fun _ => false)) (by kernel_rfl) ?_
      have al : Below w3.heap.size w3 w3.drew := belowDrewN (Below.refl _ _) 1
      have hs_w4 := al.size
      replace hKp := hKp.trans (Keep.ofBelow (F := [g]) al)
      replace hC := hC.below al
      generalize w3.drew = w4 at *
      clear al
      have hS : (fun w' => True) w4 := trivial
      refine AnyX.take (i := 0) (oi := _) (v := ?_) (by rw [List.getElem?_toArray]; rfl) (by kernel_rfl) (by kernel_rfl) (by kernel_rfl) (by kernel_rfl) (by kernel_rfl) (by exact fun _ _ _ h => h) (Or.inl ⟨by rfl, ?_⟩) hS ?_
      rotate_left
      · (intro wS hSw; (try dsimp only at hSw); go_simp; try with_reducible rfl)
      try simp only [Act.put, List.setIfInBounds_toArray, List.set_cons_zero, List.set_cons_succ]
      refine AnyX.take (i := 1) (oi := _) (v := ?_) (by rw [List.getElem?_toArray]; rfl) (by kernel_rfl) (by kernel_rfl) (by kernel_rfl) (by kernel_rfl) (by kernel_rfl) (by exact fun _ _ _ h => h) (Or.inl ⟨by rfl, ?_⟩) hS ?_
      rotate_left
      · (intro wS hSw; (try dsimp only at hSw); go_simp; try with_reducible rfl)
      try simp only [Act.put, List.setIfInBounds_toArray, List.set_cons_zero, List.set_cons_succ]
      refine AnyX.take (i := 2) (oi := _) (v := ?_) (by rw [List.getElem?_toArray]; rfl) (by kernel_rfl) (by kernel_rfl) (by kernel_rfl) (by kernel_rfl) (by kernel_rfl) (by exact fun _ _ _ h => h) (Or.inl ⟨by rfl, ?_⟩) hS ?_
      rotate_left
      · (intro wS hSw; (try dsimp only at hSw); go_simp; rw [if_pos (by omega)]; try with_reducible rfl)
      try simp only [Act.put, List.setIfInBounds_toArray, List.set_cons_zero, List.set_cons_succ]
      refine AnyX.take (i := 3) (oi := _) (v := ?_) (by rw [List.getElem?_toArray]; rfl) (by kernel_rfl) (by kernel_rfl) (by kernel_rfl) (by kernel_rfl) (by kernel_rfl) (by exact fun _ _ _ h => h) (Or.inl ⟨by rfl, ?_⟩) hS ?_
      rotate_left
      · (intro wS hSw; (try dsimp only at hSw); go_simp; try with_reducible rfl)
      try simp only [Act.put, List.setIfInBounds_toArray, List.set_cons_zero, List.set_cons_succ]
      refine AnyX.take (i := 4) (oi := _) (v := ?_) (by rw [List.getElem?_toArray]; rfl) (by kernel_rfl) (by kernel_rfl) (by kernel_rfl) (by kernel_rfl) (by kernel_rfl) (by exact fun _ _ _ h => h) (Or.inl ⟨by rfl, ?_⟩) hS ?_
      rotate_left
      · (intro wS hSw; (try dsimp only at hSw); go_simp; rw [if_neg (by simp; omega)]; try with_reducible rfl)
      try simp only [Act.put, List.setIfInBounds_toArray, List.set_cons_zero, List.set_cons_succ]
      refine AnyX.take (i := 5) (oi := _) (v := ?_) (by rw [List.getElem?_toArray]; rfl) (by kernel_rfl) (by kernel_rfl) (by kernel_rfl) (by kernel_rfl) (by kernel_rfl) (by exact fun _ _ _ h => h) (Or.inl ⟨by rfl, ?_⟩) hS ?_
      rotate_left
      · (intro wS hSw; (try dsimp only at hSw); go_simp; try with_reducible rfl)
      try simp only [Act.put, List.setIfInBounds_toArray, List.set_cons_zero, List.set_cons_succ]
      refine AnyX.take (i := 6) (oi := _) (v := ?_) (by rw [List.getElem?_toArray]; rfl) (by kernel_rfl) (by kernel_rfl) (by kernel_rfl) (by kernel_rfl) (by kernel_rfl) (by exact fun _ _ _ h => h) (Or.inl ⟨by rfl, ?_⟩) hS ?_
      rotate_left
      · (intro wS hSw; (try dsimp only at hSw); go_simp; try with_reducible rfl)
      try simp only [Act.put, List.setIfInBounds_toArray, List.set_cons_zero, List.set_cons_succ]
      refine AnyX.take (i := 7) (oi := _) (v := ?_) (by rw [List.getElem?_toArray]; rfl) (by kernel_rfl) (by kernel_rfl) (by kernel_rfl) (by kernel_rfl) (by kernel_rfl) (by exact fun _ _ _ h => h) (Or.inl ⟨by rfl, ?_⟩) hS ?_
      rotate_left
      · (intro wS hSw; (try dsimp only at hSw); go_simp; rw [if_pos (by omega)]; try with_reducible rfl)
      try simp only [Act.put, List.setIfInBounds_toArray, List.set_cons_zero, List.set_cons_succ]
      refine AnyX.take (i := 8) (oi := _) (v := ?_) (by rw [List.getElem?_toArray]; rfl) (by kernel_rfl) (by kernel_rfl) (by kernel_rfl) (by kernel_rfl) (by kernel_rfl) (by exact fun _ _ _ h => h) (Or.inl ⟨by rfl, ?_⟩) hS ?_
      rotate_left
      · (intro wS hSw; (try dsimp only at hSw); go_simp; rw [if_neg (by simp; omega)]; try with_reducible rfl)
      try simp only [Act.put, List.setIfInBounds_toArray, List.set_cons_zero, List.set_cons_succ]
      refine AnyX.only (i := 9) (o := _) (by kernel_rfl) (by rw [List.getElem?_toArray]; rfl) (fun K hK => ?_)
      try go_simp
      clear hS
      have hS : (fun w' => True) w4 := trivial
      refine hK.out _ _ (fun _ => hS) ?_
      clear hK K
      try simp only [Act.put, List.setIfInBounds_toArray, List.set_cons_zero, List.set_cons_succ]
      refine AnyX.done (by kernel_rfl) ?_ _
      (try clear hS)
      refine hK0 _ _ ?_
      clear hK0 K0
      go_wp2_with fail
      refine bodyPost_ret (v := .string (t.extract 0 i ++ x ++ t.extract i t.size)) ?_ rfl ?_
      · simp [results, Tryd.results57, go_sem]
      · exact ⟨_, rfl, by simp; omega, hC, hKp⟩
    · have e0 : ((m : Int) == 0) = false := by simp; omega
      by_cases h1 : m = 1
      · subst h1
        go_wp2_with fail
        rename_i K0 hK0
        refine AnyX.start (S := (fun w' => True)) (X := (fun _ => false)) (by kernel_rfl) ?_
        have al : Below w3.heap.size w3 w3.drew := belowDrewN (Below.refl _ _) 1
        have hs_w5 := al.size
        replace hKp := hKp.trans (Keep.ofBelow (F := [g]) al)
        replace hC := hC.below al
        generalize w3.drew = w5 at *
        clear al
        have hS : (fun w' => True) w5 := trivial
        refine AnyX.take (i := 0) (oi := _) (v := ?_) (by rw [List.getElem?_toArray]; rfl) (by kernel_rfl) (by kernel_rfl) (by kernel_rfl) (by kernel_rfl) (by kernel_rfl) (by exact fun _ _ _ h => h) (Or.inl ⟨by rfl, ?_⟩) hS ?_
        rotate_left
        · (intro wS hSw; (try dsimp only at hSw); go_simp; try with_reducible rfl)
        try simp only [Act.put, List.setIfInBounds_toArray, List.set_cons_zero, List.set_cons_succ]
        refine AnyX.take (i := 1) (oi := _) (v := ?_) (by rw [List.getElem?_toArray]; rfl) (by kernel_rfl) (by kernel_rfl) (by kernel_rfl) (by kernel_rfl) (by kernel_rfl) (by exact fun _ _ _ h => h) (Or.inl ⟨by rfl, ?_⟩) hS ?_
        rotate_left
        · (intro wS hSw; (try dsimp only at hSw); go_simp; try with_reducible rfl)
        try simp only [Act.put, List.setIfInBounds_toArray, List.set_cons_zero, List.set_cons_succ]
        refine AnyX.take (i := 2) (oi := _) (v := ?_) (by rw [List.getElem?_toArray]; rfl) (by kernel_rfl) (by kernel_rfl) (by kernel_rfl) (by kernel_rfl) (by kernel_rfl) (by exact fun _ _ _ h => h) (Or.inl ⟨by rfl, ?_⟩) hS ?_
        rotate_left
        · (intro wS hSw; (try dsimp only at hSw); go_simp; rw [if_pos (by omega)]; try with_reducible rfl)
        try simp only [Act.put, List.setIfInBounds_toArray, List.set_cons_zero, List.set_cons_succ]
        refine AnyX.take (i := 3) (oi := _) (v := ?_) (by rw [List.getElem?_toArray]; rfl) (by kernel_rfl) (by kernel_rfl) (by kernel_rfl) (by kernel_rfl) (by kernel_rfl) (by exact fun _ _ _ h => h) (Or.inl ⟨by rfl, ?_⟩) hS ?_
        rotate_left
        · (intro wS hSw; (try dsimp only at hSw); go_simp; try with_reducible rfl)
        try simp only [Act.put, List.setIfInBounds_toArray, List.set_cons_zero, List.set_cons_succ]
        refine AnyX.take (i := 4) (oi := _) (v := ?_) (by rw [List.getElem?_toArray]; rfl) (by kernel_rfl) (by kernel_rfl) (by kernel_rfl) (by kernel_rfl) (by kernel_rfl) (by exact fun _ _ _ h => h) (Or.inl ⟨by rfl, ?_⟩) hS ?_
        rotate_left
        · (intro wS hSw; (try dsimp only at hSw); go_simp; rw [if_neg (by simp; omega)]; try with_reducible rfl)
        try simp only [Act.put, List.setIfInBounds_toArray, List.set_cons_zero, List.set_cons_succ]
        refine AnyX.take (i := 5) (oi := _) (v := ?_) (by rw [List.getElem?_toArray]; rfl) (by kernel_rfl) (by kernel_rfl) (by kernel_rfl) (by kernel_rfl) (by kernel_rfl) (by exact fun _ _ _ h => h) (Or.inl ⟨by rfl, ?_⟩) hS ?_
        rotate_left
        · (intro wS hSw; (try dsimp only at hSw); go_simp; try with_reducible rfl)
        try simp only [Act.put, List.setIfInBounds_toArray, List.set_cons_zero, List.set_cons_succ]
        refine AnyX.take (i := 6) (oi := _) (v := ?_) (by rw [List.getElem?_toArray]; rfl) (by kernel_rfl) (by kernel_rfl) (by kernel_rfl) (by kernel_rfl) (by kernel_rfl) (by exact fun _ _ _ h => h) (Or.inl ⟨by rfl, ?_⟩) hS ?_
        rotate_left
        · (intro wS hSw; (try dsimp only at hSw); go_simp; try with_reducible rfl)
        try simp only [Act.put, List.setIfInBounds_toArray, List.set_cons_zero, List.set_cons_succ]
        refine AnyX.take (i := 7) (oi := _) (v := ?_) (by rw [List.getElem?_toArray]; rfl) (by kernel_rfl) (by kernel_rfl) (by kernel_rfl) (by kernel_rfl) (by kernel_rfl) (by exact fun _ _ _ h => h) (Or.inl ⟨by rfl, ?_⟩) hS ?_
        rotate_left
        · (intro wS hSw; (try dsimp only at hSw); go_simp; rw [hwi.out]; try with_reducible rfl)
        try simp only [Act.put, List.setIfInBounds_toArray, List.set_cons_zero, List.set_cons_succ]
        refine AnyX.take (i := 8) (oi := _) (v := ?_) (by rw [List.getElem?_toArray]; rfl) (by kernel_rfl) (by kernel_rfl) (by kernel_rfl) (by kernel_rfl) (by kernel_rfl) (by exact fun _ _ _ h => h) (Or.inl ⟨by rfl, ?_⟩) hS ?_
        rotate_left
        · (intro wS hSw; (try dsimp only at hSw); go_simp; rw [if_pos (by omega)]; try with_reducible rfl)
        try simp only [Act.put, List.setIfInBounds_toArray, List.set_cons_zero, List.set_cons_succ]
        refine AnyX.take (i := 9) (oi := _) (v := ?_) (by rw [List.getElem?_toArray]; rfl) (by kernel_rfl) (by kernel_rfl) (by kernel_rfl) (by kernel_rfl) (by kernel_rfl) (by exact fun _ _ _ h => h) (Or.inl ⟨by rfl, ?_⟩) hS ?_
        rotate_left
        · (intro wS hSw; (try dsimp only at hSw); go_simp; rw [if_neg (by simp; omega)]; try with_reducible rfl)
        try simp only [Act.put, List.setIfInBounds_toArray, List.set_cons_zero, List.set_cons_succ]
        refine AnyX.only (i := 10) (o := _) (by kernel_rfl) (by rw [List.getElem?_toArray]; rfl) (fun K hK => ?_)
        try go_simp
        clear hS
        have hS : (fun w' => True) w5 := trivial
        refine hK.out _ _ (fun _ => hS) ?_
        clear hK K
        try simp only [Act.put, List.setIfInBounds_toArray, List.set_cons_zero, List.set_cons_succ]
        refine AnyX.done (by kernel_rfl) ?_ _
        (try clear hS)
        refine hK0 _ _ ?_
        clear hK0 K0
        go_wp2_with fail
        refine bodyPost_ret (v := .string (t.extract 0 i ++ x ++ t.extract (i + 1) t.size)) ?_ rfl ?_
        · simp [results, Tryd.results57, go_sem]
        · exact ⟨_, rfl, by simp; omega, hC, hKp⟩
      · have e1 : ((m : Int) == 1) = false := by simp; omega
        go_wp2_with fail
        rename_i K0 hK0
        refine AnyX.start (S := (fun w' => True)) (X := (fun _ => false)) (by kernel_rfl) ?_
        have al : Below w3.heap.size w3 w3.drew := belowDrewN (Below.refl _ _) 1
        have hs_w6 := al.size
        replace hKp := hKp.trans (Keep.ofBelow (F := [g]) al)
        replace hC := hC.below al
        generalize w3.drew = w6 at *
        clear al
        have hS : (fun w' => True) w6 := trivial
        refine AnyX.take (i := 0) (oi := _) (v := ?_) (by rw [List.getElem?_toArray]; rfl) (by kernel_rfl) (by kernel_rfl) (by kernel_rfl) (by kernel_rfl) (by kernel_rfl) (by exact fun _ _ _ h => h) (Or.inl ⟨by rfl, ?_⟩) hS ?_
        rotate_left
        · (intro wS hSw; (try dsimp only at hSw); go_simp; try with_reducible rfl)
        try simp only [Act.put, List.setIfInBounds_toArray, List.set_cons_zero, List.set_cons_succ]
        refine AnyX.take (i := 1) (oi := _) (v := ?_) (by rw [List.getElem?_toArray]; rfl) (by kernel_rfl) (by kernel_rfl) (by kernel_rfl) (by kernel_rfl) (by kernel_rfl) (by exact fun _ _ _ h => h) (Or.inl ⟨by rfl, ?_⟩) hS ?_
        rotate_left
        · (intro wS hSw; (try dsimp only at hSw); go_simp; try with_reducible rfl)
        try simp only [Act.put, List.setIfInBounds_toArray, List.set_cons_zero, List.set_cons_succ]
        refine AnyX.take (i := 2) (oi := _) (v := ?_) (by rw [List.getElem?_toArray]; rfl) (by kernel_rfl) (by kernel_rfl) (by kernel_rfl) (by kernel_rfl) (by kernel_rfl) (by exact fun _ _ _ h => h) (Or.inl ⟨by rfl, ?_⟩) hS ?_
        rotate_left
        · (intro wS hSw; (try dsimp only at hSw); go_simp; rw [if_pos (by omega)]; try with_reducible rfl)
        try simp only [Act.put, List.setIfInBounds_toArray, List.set_cons_zero, List.set_cons_succ]
        refine AnyX.take (i := 3) (oi := _) (v := ?_) (by rw [List.getElem?_toArray]; rfl) (by kernel_rfl) (by kernel_rfl) (by kernel_rfl) (by kernel_rfl) (by kernel_rfl) (by exact fun _ _ _ h => h) (Or.inl ⟨by rfl, ?_⟩) hS ?_
        rotate_left
        · (intro wS hSw; (try dsimp only at hSw); go_simp; try with_reducible rfl)
        try simp only [Act.put, List.setIfInBounds_toArray, List.set_cons_zero, List.set_cons_succ]
        refine AnyX.take (i := 4) (oi := _) (v := ?_) (by rw [List.getElem?_toArray]; rfl) (by kernel_rfl) (by kernel_rfl) (by kernel_rfl) (by kernel_rfl) (by kernel_rfl) (by exact fun _ _ _ h => h) (Or.inl ⟨by rfl, ?_⟩) hS ?_
        rotate_left
        · (intro wS hSw; (try dsimp only at hSw); go_simp; try with_reducible rfl)
        try simp only [Act.put, List.setIfInBounds_toArray, List.set_cons_zero, List.set_cons_succ]
        refine AnyX.take (i := 5) (oi := _) (v := ?_) (by rw [List.getElem?_toArray]; rfl) (by kernel_rfl) (by kernel_rfl) (by kernel_rfl) (by kernel_rfl) (by kernel_rfl) (by exact fun _ _ _ h => h) (Or.inl ⟨by rfl, ?_⟩) hS ?_
        rotate_left
        · (intro wS hSw; (try dsimp only at hSw); go_simp; rw [hwi.out]; try with_reducible rfl)
        try simp only [Act.put, List.setIfInBounds_toArray, List.set_cons_zero, List.set_cons_succ]
        refine AnyX.take (i := 6) (oi := _) (v := ?_) (by rw [List.getElem?_toArray]; rfl) (by kernel_rfl) (by kernel_rfl) (by kernel_rfl) (by kernel_rfl) (by kernel_rfl) (by exact fun _ _ _ h => h) (Or.inl ⟨by rfl, ?_⟩) hS ?_
        rotate_left
        · (intro wS hSw; (try dsimp only at hSw); go_simp; rw [if_pos (by omega)]; try with_reducible rfl)
        try simp only [Act.put, List.setIfInBounds_toArray, List.set_cons_zero, List.set_cons_succ]
        refine AnyX.take (i := 7) (oi := _) (v := ?_) (by rw [List.getElem?_toArray]; rfl) (by kernel_rfl) (by kernel_rfl) (by kernel_rfl) (by kernel_rfl) (by kernel_rfl) (by exact fun _ _ _ h => h) (Or.inl ⟨by rfl, ?_⟩) hS ?_
        rotate_left
        · (intro wS hSw; (try dsimp only at hSw); go_simp; rw [if_neg (by simp; omega)]; try with_reducible rfl)
        try simp only [Act.put, List.setIfInBounds_toArray, List.set_cons_zero, List.set_cons_succ]
        refine AnyX.only (i := 8) (o := _) (by kernel_rfl) (by rw [List.getElem?_toArray]; rfl) (fun K hK => ?_)
        try go_simp
        clear hS
        have hS : (fun w' => True) w6 := trivial
        refine hK.out _ _ (fun _ => hS) ?_
        clear hK K
        try simp only [Act.put, List.setIfInBounds_toArray, List.set_cons_zero, List.set_cons_succ]
        refine AnyX.done (by kernel_rfl) ?_ _
        (try clear hS)
        refine hK0 _ _ ?_
        clear hK0 K0
        go_wp2_with fail
        refine bodyPost_ret (v := .string (t.extract 0 i ++ t.extract (i + 1) t.size)) ?_ rfl ?_
        · simp [results, Tryd.results57, go_sem]
        · exact ⟨_, rfl, by simp; omega, hC, hKp⟩
def PRecD (B g : Nat) (F : List Nat) (w : World) (e : Ending) (w' : World) : Prop := ∃ c r : ByteArray, e = .returned (.agg #[.string c, .string r]) ∧ c.size ≤ 20 ∧ r.size ≤ 20 ∧ Cur B w' g F ∧ Keep [g] w w'
set_option maxHeartbeats 3200000 in
set_option maxRecDepth 100000 in
theorem logRecord_c (B g : Nat) (F : List Nat) (w : World) (h : Cur B w g F) (hB0 : B ≤ 1099511620000) :
    Calls Tryd.prog 54 #[.pointer (some ⟨g, 0, none⟩)] w (PRecD (B + 8) g F w) := by
  have lg := h.lt
  have hFg := h.far
  have hC := h
  have hKp := Keep.refl [g] w
  clear h
  go_enter Tryd.func54, Tryd.ntmps54
  go_wp2_with fail
  have al : Below w.heap.size w ((w.alloc (.cells #[.string ⟨#[]⟩, .string ⟨#[]⟩] 27)).alloc (.cells #[.string ⟨#[99, 111, 117, 110, 116]⟩, .string ⟨#[115, 111, 114, 116, 32, 109, 101, 114, 103, 101]⟩, .string ⟨#[120]⟩, .string ⟨#[115, 101, 108, 101, 99, 116, 32, 50]⟩, .string ⟨#[48, 32, 49]⟩] 9)) := by
    repeat refine Below.alloc ?_ (by simp <;> omega) _
    exact Below.refl _ _
  have n_RZ : Row ((w.alloc (.cells #[.string ⟨#[]⟩, .string ⟨#[]⟩] 27)).alloc (.cells #[.string ⟨#[99, 111, 117, 110, 116]⟩, .string ⟨#[115, 111, 114, 116, 32, 109, 101, 114, 103, 101]⟩, .string ⟨#[120]⟩, .string ⟨#[115, 101, 108, 101, 99, 116, 32, 50]⟩, .string ⟨#[48, 32, 49]⟩] 9)) (w.heap.size) 27 [.string ⟨#[]⟩, .string ⟨#[]⟩] := by simp [row_alloc] <;> omega
  have n_RS1 : Row ((w.alloc (.cells #[.string ⟨#[]⟩, .string ⟨#[]⟩] 27)).alloc (.cells #[.string ⟨#[99, 111, 117, 110, 116]⟩, .string ⟨#[115, 111, 114, 116, 32, 109, 101, 114, 103, 101]⟩, .string ⟨#[120]⟩, .string ⟨#[115, 101, 108, 101, 99, 116, 32, 50]⟩, .string ⟨#[48, 32, 49]⟩] 9)) (w.heap.size + 1) 9 [.string ⟨#[99, 111, 117, 110, 116]⟩, .string ⟨#[115, 111, 114, 116, 32, 109, 101, 114, 103, 101]⟩, .string ⟨#[120]⟩, .string ⟨#[115, 101, 108, 101, 99, 116, 32, 50]⟩, .string ⟨#[48, 32, 49]⟩] := by simp [row_alloc] <;> omega
  have hs_w1 : w.heap.size + 1 < ((w.alloc (.cells #[.string ⟨#[]⟩, .string ⟨#[]⟩] 27)).alloc (.cells #[.string ⟨#[99, 111, 117, 110, 116]⟩, .string ⟨#[115, 111, 114, 116, 32, 109, 101, 114, 103, 101]⟩, .string ⟨#[120]⟩, .string ⟨#[115, 101, 108, 101, 99, 116, 32, 50]⟩, .string ⟨#[48, 32, 49]⟩] 9)).heap.size := by simp <;> omega
  replace hKp := hKp.trans (Keep.ofBelow (F := [g]) al)
  replace hC := hC.below al
  generalize ((w.alloc (.cells #[.string ⟨#[]⟩, .string ⟨#[]⟩] 27)).alloc (.cells #[.string ⟨#[99, 111, 117, 110, 116]⟩, .string ⟨#[115, 111, 114, 116, 32, 109, 101, 114, 103, 101]⟩, .string ⟨#[120]⟩, .string ⟨#[115, 101, 108, 101, 99, 116, 32, 50]⟩, .string ⟨#[48, 32, 49]⟩] 9)) = w1 at *
  have RZ := n_RZ; clear n_RZ
  have RS1 := n_RS1; clear n_RS1
  clear al
  refine (of_small 20 _ g F _ _ [⟨#[99, 111, 117, 110, 116]⟩, ⟨#[115, 111, 114, 116, 32, 109, 101, 114, 103, 101]⟩, ⟨#[120]⟩, ⟨#[115, 101, 108, 101, 99, 116, 32, 50]⟩, ⟨#[48, 32, 49]⟩] _ hC (by omega) RS1 (by simp) (by simp) (by omega) (by decide) (by omega)).mono ?_
  rintro e w2 ⟨s1, rfl, hs1, hC', hk⟩
  have hs_w2 := hk.size
  replace RZ := RZ.keepK hk (by simp <;> omega)
  replace RS1 := RS1.keepK hk (by simp <;> omega)
  replace hC := hC'; clear hC'
  replace hKp := hKp.trans hk
  clear hk
  clear RS1
  have c_RZ := RZ.cells; have f_RZ := RZ.frozens
  go_wp2_with fail
  clear c_RZ f_RZ
  have al : Below w2.heap.size w2 (w2.alloc (.cells #[.string ⟨#[]⟩, .string ⟨#[51]⟩, .string ⟨#[63]⟩, .string ⟨#[97, 64, 98]⟩, .string ⟨#[51, 32, 49, 32, 50]⟩] 9)) := by
    repeat refine Below.alloc ?_ (by simp <;> omega) _
    exact Below.refl _ _
  have n_RS2 := Row.made w2 9 [.string ⟨#[]⟩, .string ⟨#[51]⟩, .string ⟨#[63]⟩, .string ⟨#[97, 64, 98]⟩, .string ⟨#[51, 32, 49, 32, 50]⟩]
  have hs_w3 : w2.heap.size < (w2.alloc (.cells #[.string ⟨#[]⟩, .string ⟨#[51]⟩, .string ⟨#[63]⟩, .string ⟨#[97, 64, 98]⟩, .string ⟨#[51, 32, 49, 32, 50]⟩] 9)).heap.size := by simp
  replace RZ := RZ.below al
  replace hKp := hKp.trans (Keep.ofBelow (F := [g]) al)
  replace hC := hC.below al
  generalize (w2.alloc (.cells #[.string ⟨#[]⟩, .string ⟨#[51]⟩, .string ⟨#[63]⟩, .string ⟨#[97, 64, 98]⟩, .string ⟨#[51, 32, 49, 32, 50]⟩] 9)) = w3 at *
  have RS2 := n_RS2; clear n_RS2
  clear al
  refine (of_small 20 _ g F _ _ [⟨#[]⟩, ⟨#[51]⟩, ⟨#[63]⟩, ⟨#[97, 64, 98]⟩, ⟨#[51, 32, 49, 32, 50]⟩] _ hC (by omega) RS2 (by simp) (by simp) (by omega) (by decide) (by omega)).mono ?_
  rintro e w4 ⟨s2, rfl, hs2, hC', hk⟩
  have hs_w4 := hk.size
  replace RZ := RZ.keepK hk (by simp <;> omega)
  replace RS2 := RS2.keepK hk (by simp <;> omega)
  replace hC := hC'; clear hC'
  replace hKp := hKp.trans hk
  clear hk
  clear RS2
  have c_RZ := RZ.cells; have f_RZ := RZ.frozens
  go_wp2_with fail
  clear c_RZ f_RZ
  have al : Below w4.heap.size w4 (w4.alloc (.cells #[.string s1, .string s2] 27)) := by
    repeat refine Below.alloc ?_ (by simp <;> omega) _
    exact Below.refl _ _
  have n_RE := Row.made w4 27 [.string s1, .string s2]
  have hs_w5 : w4.heap.size < (w4.alloc (.cells #[.string s1, .string s2] 27)).heap.size := by simp
  replace RZ := RZ.below al
  replace hKp := hKp.trans (Keep.ofBelow (F := [g]) al)
  replace hC := hC.below al
  generalize (w4.alloc (.cells #[.string s1, .string s2] 27)) = w5 at *
  have RE := n_RE; clear n_RE
  clear al
  refine (pick_c _ g F 24 _ hC (by omega) (by omega)).mono ?_
  rintro e w6 ⟨m, rfl, hm, hC', hk⟩
  have hs_w6 := hk.size
  replace RZ := RZ.keepK hk (by simp <;> omega)
  replace RE := RE.keepK hk (by simp <;> omega)
  replace hC := hC'; clear hC'
  replace hKp := hKp.trans hk
  clear hk
  by_cases h0 : m = 0
  · subst h0
    obtain ⟨O, z, hmk, hcv, hz⟩ := make_bytes 3 3 rfl w6 (by omega)
    have al : Below w6.heap.size w6 (w6.alloc O) := (Below.refl _ _).alloc (Nat.le_refl _) _
    have hs_w7 := al.size
    replace RZ := RZ.below al
    replace RE := RE.below al
    replace hKp := hKp.trans (Keep.ofBelow (F := [g]) al)
    replace hC := hC.below al
    generalize w6.alloc O = w7 at *
    clear al
    have c_RZ := RZ.cells; have f_RZ := RZ.frozens
    have c_RE := RE.cells; have f_RE := RE.frozens
    go_wp2_with fail
    clear c_RZ f_RZ c_RE f_RE
    clear hmk hcv
    have al : Below w7.heap.size w7 (w7.alloc (.cells #[.string ⟨#[]⟩, .string ⟨#[97, 64, 98]⟩, .string ⟨#[97, 35]⟩, .string ⟨#[10]⟩, .string z] 9)) := by
      repeat refine Below.alloc ?_ (by simp <;> omega) _
      exact Below.refl _ _
    have n_RS3 := Row.made w7 9 [.string ⟨#[]⟩, .string ⟨#[97, 64, 98]⟩, .string ⟨#[97, 35]⟩, .string ⟨#[10]⟩, .string z]
    have hs_w8 : w7.heap.size < (w7.alloc (.cells #[.string ⟨#[]⟩, .string ⟨#[97, 64, 98]⟩, .string ⟨#[97, 35]⟩, .string ⟨#[10]⟩, .string z] 9)).heap.size := by simp
    replace RZ := RZ.below al
    replace RE := RE.below al
    replace hKp := hKp.trans (Keep.ofBelow (F := [g]) al)
    replace hC := hC.below al
    generalize (w7.alloc (.cells #[.string ⟨#[]⟩, .string ⟨#[97, 64, 98]⟩, .string ⟨#[97, 35]⟩, .string ⟨#[10]⟩, .string z] 9)) = w8 at *
    have RS3 := n_RS3; clear n_RS3
    clear al
    refine (of_small 20 _ g F _ _ [⟨#[]⟩, ⟨#[97, 64, 98]⟩, ⟨#[97, 35]⟩, ⟨#[10]⟩, z] _ hC (by omega) RS3 (by simp) (by simp) (by omega) (by intro x hx; simp only [List.mem_cons, List.not_mem_nil, or_false] at hx; rcases hx with rfl | rfl | rfl | rfl | rfl <;> first | decide | omega) (by omega)).mono ?_
    rintro e w9 ⟨s3, rfl, hs3, hC', hk⟩
    have hs_w9 := hk.size
    replace RZ := RZ.keepK hk (by simp <;> omega)
    replace RE := RE.keepK hk (by simp <;> omega)
    replace RS3 := RS3.keepK hk (by simp <;> omega)
    replace hC := hC'; clear hC'
    replace hKp := hKp.trans hk
    clear hk
    have c_RZ := RZ.cells; have f_RZ := RZ.frozens
    have c_RE := RE.cells; have f_RE := RE.frozens
    have c_RS3 := RS3.cells; have f_RS3 := RS3.frozens
    go_wp2_with fail
    refine bodyPost_ret (v := .agg #[.string s3, .string s2]) ?_ rfl ?_
    · simp [results, Tryd.results54, go_sem, c_RZ, f_RZ, c_RE]
    · refine ⟨_, _, rfl, by omega, by omega, ?_, ?_⟩
      · repeat refine Cur.setFar ?_ (by dsimp only; omega) _
        exact hC.mono (by omega)
      · repeat refine Keep.setNew ?_ (by dsimp only; omega) _
        exact hKp
  · have e0 : ((m : Int) == 0) = false := by simp; omega
    by_cases h1 : m = 1
    · subst h1
      have c_RZ := RZ.cells; have f_RZ := RZ.frozens
      have c_RE := RE.cells; have f_RE := RE.frozens
      go_wp2_with fail
      clear c_RZ f_RZ c_RE f_RE
      have al : Below w6.heap.size w6 (w6.alloc (.cells #[.string ⟨#[35]⟩, .string ⟨#[10]⟩, .string ⟨#[127]⟩] 9)) := by
        repeat refine Below.alloc ?_ (by simp <;> omega) _
        exact Below.refl _ _
      have n_RS3 := Row.made w6 9 [.string ⟨#[35]⟩, .string ⟨#[10]⟩, .string ⟨#[127]⟩]
      have hs_w10 : w6.heap.size < (w6.alloc (.cells #[.string ⟨#[35]⟩, .string ⟨#[10]⟩, .string ⟨#[127]⟩] 9)).heap.size := by simp
      replace RZ := RZ.below al
      replace RE := RE.below al
      replace hKp := hKp.trans (Keep.ofBelow (F := [g]) al)
      replace hC := hC.below al
      generalize (w6.alloc (.cells #[.string ⟨#[35]⟩, .string ⟨#[10]⟩, .string ⟨#[127]⟩] 9)) = w10 at *
      have RS3 := n_RS3; clear n_RS3
      clear al
      refine (of_small 20 _ g F _ _ [⟨#[35]⟩, ⟨#[10]⟩, ⟨#[127]⟩] _ hC (by omega) RS3 (by simp) (by simp) (by omega) (by decide) (by omega)).mono ?_
      rintro e w11 ⟨s3, rfl, hs3, hC', hk⟩
      have hs_w11 := hk.size
      replace RZ := RZ.keepK hk (by simp <;> omega)
      replace RE := RE.keepK hk (by simp <;> omega)
      replace RS3 := RS3.keepK hk (by simp <;> omega)
      replace hC := hC'; clear hC'
      replace hKp := hKp.trans hk
      clear hk
      have c_RZ := RZ.cells; have f_RZ := RZ.frozens
      have c_RE := RE.cells; have f_RE := RE.frozens
      have c_RS3 := RS3.cells; have f_RS3 := RS3.frozens
      go_wp2_with fail
      refine bodyPost_ret (v := .agg #[.string s1, .string s3]) ?_ rfl ?_
      · simp [results, Tryd.results54, go_sem, c_RZ, f_RZ, c_RE]
      · refine ⟨_, _, rfl, by omega, by omega, ?_, ?_⟩
        · repeat refine Cur.setFar ?_ (by dsimp only; omega) _
          exact hC.mono (by omega)
        · repeat refine Keep.setNew ?_ (by dsimp only; omega) _
          exact hKp
    · have e1 : ((m : Int) == 1) = false := by simp; omega
      have c_RZ := RZ.cells; have f_RZ := RZ.frozens
      have c_RE := RE.cells; have f_RE := RE.frozens
      go_wp2_with fail
      refine bodyPost_ret (v := .agg #[.string s1, .string s2]) ?_ rfl ?_
      · simp [results, Tryd.results54, go_sem, c_RZ, f_RZ, c_RE]
      · refine ⟨_, _, rfl, by omega, by omega, ?_, ?_⟩
        · repeat refine Cur.setFar ?_ (by dsimp only; omega) _
          exact hC.mono (by omega)
        · repeat refine Keep.setNew ?_ (by dsimp only; omega) _
          exact hKp
def okLog (x : Log) : Prop := validR x.durable.data.toList x.pending.data.toList x.count = true
theorem okLog.small {x : Log} (h : okLog x) : x.durable.size + x.pending.size ≤ 30000 := by
  unfold okLog validR at h
  simp only [Bool.and_eq_true, decide_eq_true_eq, size_list] at h
  exact h.1
theorem okLog.count {x : Log} (h : okLog x) : 0 ≤ x.count ∧ x.count ≤ 60 := valid_count h
theorem okLog.append {x : Log} (h : okLog x) (e : LogRecord) : okLog (resAppendRecord x e).1 := by
  unfold resAppendRecord
  split
  · exact h
  · rename_i h1
    simp only [Bool.or_eq_true, Bool.not_eq_true', not_or, Bool.not_eq_false] at h1
    split
    · exact h
    · rename_i h2
      have hv := valid_of h
      have hc := hv.cnt
      have hx : okL (opened (x.durable.data.toList ++ x.pending.data.toList)).length (lineL x.count.toNat e.command.data.toList e.reply.data.toList) = true := by
        have := okLog.count h
        exact okL_iff.2 ⟨_, _, by omega, by rw [← goodRec_L]; exact h1.2, by rw [hc, Int.toNat_natCast]⟩
      have := (hv.append hx).1.bool
      unfold okLog
      simpa only [app_list, bs_list] using this
theorem okLog.sync {x : Log} (h : okLog x) : resSyncLog x = (⟨x.durable ++ x.pending, ⟨#[]⟩, x.count⟩, true) ∧ okLog ⟨x.durable ++ x.pending, ⟨#[]⟩, x.count⟩ := by
  have hv := (valid_of h).sync.bool
  unfold okLog at h
  refine ⟨by unfold resSyncLog; rw [h]; rfl, ?_⟩
  unfold okLog
  simpa only [app_list] using hv
theorem okLog.zero : okLog ⟨⟨#[]⟩, ⟨#[]⟩, 0⟩ := by
  unfold okLog
  exact (Valid.recovered []).bool
def PApp (w : World) (e : Ending) (w' : World) : Prop := ∃ (d p : ByteArray) (q k : Int), okLog ⟨d, p, q⟩ ∧ e = .returned (.tuple #[.agg #[.string d, .string p, .int .i64 q], .int .i64 k]) ∧ Below w.heap.size w w'
theorem specApp_ok (d p : ByteArray) (q : Int) (c r : ByteArray) (w : World) (h : okLog ⟨d, p, q⟩) (hc : c.size ≤ 1000) (hr : r.size ≤ 1000) :
    Calls Tryd.prog 28 #[.agg #[.string d, .string p, .int .i64 q], .agg #[.string c, .string r]] w (PApp w) := by
  have hs := h.small; dsimp only at hs
  have hA := specAppendRecord_c _ ⟨d, p, q⟩ [] _ ⟨c, r⟩ [] w (isLog w d p q (by unfold maxLen; omega) (by unfold maxLen; omega)) ⟨_, rfl, rfl, by unfold maxLen; show c.size ≤ _; omega, by unfold maxLen; show r.size ≤ _; omega, rfl⟩ (by unfold wtLog; dsimp only; omega) (by unfold wtLogRecord; dsimp only; omega)
  have hy := h.append ⟨c, r⟩
  generalize resAppendRecord ⟨d, p, q⟩ ⟨c, r⟩ = R at *
  obtain ⟨⟨d', p', q'⟩, k⟩ := R
  refine hA.mono ?_
  rintro e w' ⟨u0, G0, rfl, ⟨_, rfl, rfl, -, -, -⟩, hb⟩
  exact ⟨d', p', q', k, hy, rfl, hb⟩
def PSyn (w : World) (e : Ending) (w' : World) : Prop := ∃ (d p : ByteArray) (q : Int), okLog ⟨d, p, q⟩ ∧ e = .returned (.tuple #[.agg #[.string d, .string p, .int .i64 q], .bool true]) ∧ Below w.heap.size w w'
theorem specSyn_ok (d p : ByteArray) (q : Int) (w : World) (h : okLog ⟨d, p, q⟩) :
    Calls Tryd.prog 26 #[.agg #[.string d, .string p, .int .i64 q]] w (PSyn w) := by
  have hs := h.small; dsimp only at hs
  have hA := specSyncLog_c _ ⟨d, p, q⟩ [] w (isLog w d p q (by unfold maxLen; omega) (by unfold maxLen; omega)) (by unfold wtLog; dsimp only; omega)
  obtain ⟨h1, h2⟩ := h.sync
  rw [h1] at hA
  refine hA.mono ?_
  rintro e w' ⟨u0, G0, rfl, ⟨_, rfl, rfl, -, -, -⟩, hb⟩
  exact ⟨_, _, _, h2, rfl, hb⟩
def PLogD (B g : Nat) (F : List Nat) (w : World) (e : Ending) (w' : World) : Prop := ∃ (d p : ByteArray) (q : Int), okLog ⟨d, p, q⟩ ∧ e = .returned (.agg #[.string d, .string p, .int .i64 q]) ∧ Cur B w' g F ∧ Keep [g] w w'
set_option maxHeartbeats 3200000 in
set_option maxRecDepth 100000 in
theorem log_c (B g : Nat) (F : List Nat) (w : World) (h : Cur B w g F) (hB0 : B ≤ 1099511610000) :
    Calls Tryd.prog 55 #[.pointer (some ⟨g, 0, none⟩)] w (PLogD (B + 80) g F w) := by
  have lg := h.lt
  have hFg := h.far
  have hC := h
  have hKp := Keep.refl [g] w
  clear h
  go_enter Tryd.func55, Tryd.ntmps55
  go_wp2_with fail
  have al : Below w.heap.size w ((w.alloc (.cells #[.string ⟨#[]⟩, .string ⟨#[]⟩, .int .i64 0] 31)).alloc (.cells #[.string ⟨#[]⟩, .string ⟨#[]⟩, .int .i64 0] 31)) := by
    repeat refine Below.alloc ?_ (by simp <;> omega) _
    exact Below.refl _ _
  have n_RZ : Row ((w.alloc (.cells #[.string ⟨#[]⟩, .string ⟨#[]⟩, .int .i64 0] 31)).alloc (.cells #[.string ⟨#[]⟩, .string ⟨#[]⟩, .int .i64 0] 31)) (w.heap.size) 31 [.string ⟨#[]⟩, .string ⟨#[]⟩, .int .i64 0] := by simp [row_alloc] <;> omega
  have n_RL : Row ((w.alloc (.cells #[.string ⟨#[]⟩, .string ⟨#[]⟩, .int .i64 0] 31)).alloc (.cells #[.string ⟨#[]⟩, .string ⟨#[]⟩, .int .i64 0] 31)) (w.heap.size + 1) 31 [.string ⟨#[]⟩, .string ⟨#[]⟩, .int .i64 0] := by simp [row_alloc] <;> omega
  have hs_w1 : w.heap.size + 1 < ((w.alloc (.cells #[.string ⟨#[]⟩, .string ⟨#[]⟩, .int .i64 0] 31)).alloc (.cells #[.string ⟨#[]⟩, .string ⟨#[]⟩, .int .i64 0] 31)).heap.size := by simp <;> omega
  replace hKp := hKp.trans (Keep.ofBelow (F := [g]) al)
  replace hC := hC.below al
  generalize ((w.alloc (.cells #[.string ⟨#[]⟩, .string ⟨#[]⟩, .int .i64 0] 31)).alloc (.cells #[.string ⟨#[]⟩, .string ⟨#[]⟩, .int .i64 0] 31)) = w1 at *
  have RZ := n_RZ; clear n_RZ
  have RL := n_RL; clear n_RL
  clear al
  refine (pick_c _ g F 7 _ hC (by omega) (by omega)).mono ?_
  rintro e w2 ⟨m, rfl, hm, hC', hk⟩
  have hs_w2 := hk.size
  replace RZ := RZ.keepK hk (by simp <;> omega)
  replace RL := RL.keepK hk (by simp <;> omega)
  replace hC := hC'; clear hC'
  replace hKp := hKp.trans hk
  clear hk
  have hm6 : m ≤ 6 := by omega
  have hm0 : 0 ≤ m := by omega
  clear hm
  have ok0 := okLog.zero
  have c_RZ := RZ.cells; have f_RZ := RZ.frozens
  have c_RL := RL.cells; have f_RL := RL.frozens
  go_wp2_with fail
  clear c_RZ f_RZ c_RL f_RL
  go_loopw [4] (fun n wr => ∃ (j : Nat) (d p : ByteArray) (q : Int), n = .int .i64 j ∧ j ≤ 6 ∧ Hid (okLog ⟨d, p, q⟩) ∧ Row wr w.heap.size 31 [.string ⟨#[]⟩, .string ⟨#[]⟩, .int .i64 0] ∧ Row wr (w.heap.size + 1) 31 [.string d, .string p, .int .i64 q] ∧ Cur (B + 2 + 12 * (6 - j)) wr g F ∧ Keep [g] w wr) (fun n _ => (intOf n).toNat)
  case atStart => exact ⟨m, _, _, _, rfl, hm6, Lib.hid ok0, RZ, RL, hC.mono (by omega), hKp⟩
  case round =>
    clear RZ RL hC hKp
    obtain ⟨j, d, p, q, rfl, hj, ok, RZ, RL, hC, hKp⟩ := hrel
    have hwr := RL.lt
    have hsm := ok.out.small
    dsimp only at hsm
    by_cases hj0 : 0 < j
    · have c_RZ := RZ.cells; have f_RZ := RZ.frozens
      have c_RL := RL.cells; have f_RL := RL.frozens
      go_wp2_with fail
      clear c_RZ f_RZ c_RL f_RL
      rename_i K0 hK0
      refine AnyX.start (S := (fun w' => w'.cell? ⟨w.heap.size + 1, 0, none⟩ = some (.string d) ∧ w'.cell? ⟨w.heap.size + 1, 1, none⟩ = some (.string p) ∧ w'.cell? ⟨w.heap.size + 1, 2, none⟩ = some (.int .i64 q))) (X := (fun i => i == 5 || i == 6 || i == 7)) (by kernel_rfl) ?_
      have al : Below wr.heap.size wr wr.drew := belowDrewN (Below.refl _ _) 1
      have hs_w3 := al.size
      replace RZ := RZ.below al
      replace RL := RL.below al
      replace hKp := hKp.trans (Keep.ofBelow (F := [g]) al)
      replace hC := hC.below al
      generalize wr.drew = w3 at *
      clear al
      have hS : (fun w' => w'.cell? ⟨w.heap.size + 1, 0, none⟩ = some (.string d) ∧ w'.cell? ⟨w.heap.size + 1, 1, none⟩ = some (.string p) ∧ w'.cell? ⟨w.heap.size + 1, 2, none⟩ = some (.int .i64 q)) w3 := ⟨RL.cells 0, RL.cells 1, RL.cells 2⟩
      refine AnyX.take (i := 0) (oi := _) (v := ?_) (by rw [List.getElem?_toArray]; rfl) (by kernel_rfl) (by kernel_rfl) (by kernel_rfl) (by kernel_rfl) (by kernel_rfl) (by exact fun _ _ _ h => h) (Or.inl ⟨by rfl, ?_⟩) hS ?_
      rotate_left
      · (intro wS hSw; (try dsimp only at hSw); go_simp; try with_reducible rfl)
      try simp only [Act.put, List.setIfInBounds_toArray, List.set_cons_zero, List.set_cons_succ]
      refine AnyX.take (i := 1) (oi := _) (v := ?_) (by rw [List.getElem?_toArray]; rfl) (by kernel_rfl) (by kernel_rfl) (by kernel_rfl) (by kernel_rfl) (by kernel_rfl) (by exact fun _ _ _ h => h) (Or.inl ⟨by rfl, ?_⟩) hS ?_
      rotate_left
      · (intro wS hSw; (try dsimp only at hSw); go_simp; try with_reducible rfl)
      try simp only [Act.put, List.setIfInBounds_toArray, List.set_cons_zero, List.set_cons_succ]
      refine AnyX.only (i := 2) (o := _) (by kernel_rfl) (by rw [List.getElem?_toArray]; rfl) (fun K hK => ?_)
      go_simp
      go_at_call 54
      refine (logRecord_c _ g F _ hC (by omega)).mono ?_
      rintro e w4 ⟨c, r, rfl, hc, hr, hC', hk⟩
      have hs_w4 := hk.size
      replace RZ := RZ.keepK hk (by simp <;> omega)
      replace RL := RL.keepK hk (by simp <;> omega)
      replace hC := hC'; clear hC'
      replace hKp := hKp.trans hk
      clear hk
      clear hS
      have hS : (fun w' => w'.cell? ⟨w.heap.size + 1, 0, none⟩ = some (.string d) ∧ w'.cell? ⟨w.heap.size + 1, 1, none⟩ = some (.string p) ∧ w'.cell? ⟨w.heap.size + 1, 2, none⟩ = some (.int .i64 q)) w4 := ⟨RL.cells 0, RL.cells 1, RL.cells 2⟩
      refine hK.out _ _ (fun _ => hS) ?_
      clear hK K
      try simp only [Act.put, List.setIfInBounds_toArray, List.set_cons_zero, List.set_cons_succ]
      refine AnyX.only (i := 3) (o := _) (by kernel_rfl) (by rw [List.getElem?_toArray]; rfl) (fun K hK => ?_)
      go_simp
      go_at_call 28
      refine (specApp_ok d p q c r _ ok.out (by omega) (by omega)).mono ?_
      rintro e w5 ⟨d2, p2, q2, k2, ok2, rfl, hb⟩
      have hs_w5 := hb.size
      replace RZ := RZ.below hb
      replace RL := RL.below hb
      replace hKp := hKp.trans (Keep.ofBelow (F := [g]) hb)
      replace hC := hC.below hb
      clear hb
      replace ok := Lib.hid ok2; clear ok2
      clear hS
      have hS : (fun w' => w'.cell? ⟨w.heap.size + 1, 0, none⟩ = some (.string d) ∧ w'.cell? ⟨w.heap.size + 1, 1, none⟩ = some (.string p) ∧ w'.cell? ⟨w.heap.size + 1, 2, none⟩ = some (.int .i64 q)) w5 := ⟨RL.cells 0, RL.cells 1, RL.cells 2⟩
      refine hK.out _ _ (fun _ => hS) ?_
      clear hK K
      try simp only [Act.put, List.setIfInBounds_toArray, List.set_cons_zero, List.set_cons_succ]
      refine AnyX.take (i := 4) (oi := _) (v := ?_) (by rw [List.getElem?_toArray]; rfl) (by kernel_rfl) (by kernel_rfl) (by kernel_rfl) (by kernel_rfl) (by kernel_rfl) (by exact fun _ _ _ h => h) (Or.inl ⟨by rfl, ?_⟩) hS ?_
      rotate_left
      · (intro wS hSw; (try dsimp only at hSw); go_simp; try with_reducible rfl)
      try simp only [Act.put, List.setIfInBounds_toArray, List.set_cons_zero, List.set_cons_succ]
      refine AnyX.takeP (i := 5) (oi := _) (v := ?_) (by rw [List.getElem?_toArray]; rfl) (by kernel_rfl) (by kernel_rfl) (by kernel_rfl) (by rfl) (by exact fun _ _ _ h => h) (Or.inl ⟨by rfl, ?_⟩) ?_
      rotate_left
      · (intro wS hSw; (try dsimp only at hSw); go_simp; try with_reducible rfl)
      try simp only [Act.put, List.setIfInBounds_toArray, List.set_cons_zero, List.set_cons_succ]
      refine AnyX.takeP (i := 6) (oi := _) (v := ?_) (by rw [List.getElem?_toArray]; rfl) (by kernel_rfl) (by kernel_rfl) (by kernel_rfl) (by rfl) (by exact fun _ _ _ h => h) (Or.inl ⟨by rfl, ?_⟩) ?_
      rotate_left
      · (intro wS hSw; (try dsimp only at hSw); go_simp; try with_reducible rfl)
      try simp only [Act.put, List.setIfInBounds_toArray, List.set_cons_zero, List.set_cons_succ]
      refine AnyX.only (i := 7) (o := _) (by kernel_rfl) (by rw [List.getElem?_toArray]; rfl) (fun K hK => ?_)
      have c_RZ := RZ.cells; have f_RZ := RZ.frozens
      have c_RL := RL.cells; have f_RL := RL.frozens
      go_simp
      clear c_RZ f_RZ c_RL f_RL
      have n_RZ := RZ.keepK ((((Keep.refl [w.heap.size + 1] w5).setCell (p := ⟨w.heap.size + 1, 0, none⟩) (by simp) (.string d2)).setCell (p := ⟨w.heap.size + 1, 1, none⟩) (by simp) (.string p2)).setCell (p := ⟨w.heap.size + 1, 2, none⟩) (by simp) (.int .i64 q2)) (by simp <;> omega)
      have n_RL : Row (((w5.setCell ⟨w.heap.size + 1, 0, none⟩ (.string d2)).setCell ⟨w.heap.size + 1, 1, none⟩ (.string p2)).setCell ⟨w.heap.size + 1, 2, none⟩ (.int .i64 q2)) (w.heap.size + 1) 31 [.string d2, .string p2, .int .i64 q2] := by simpa using (((RL.set 0 (.string d2)).set 1 (.string p2)).set 2 (.int .i64 q2))
      have n_hC := hC.keep ((((Keep.refl [w.heap.size + 1] w5).setCell (p := ⟨w.heap.size + 1, 0, none⟩) (by simp) (.string d2)).setCell (p := ⟨w.heap.size + 1, 1, none⟩) (by simp) (.string p2)).setCell (p := ⟨w.heap.size + 1, 2, none⟩) (by simp) (.int .i64 q2)) (by simp <;> omega) (fun b hb => by have := hFg b hb; simp; omega)
      have n_hKp := (((hKp.setNew (p := ⟨w.heap.size + 1, 0, none⟩) (by dsimp only; omega) (.string d2)).setNew (p := ⟨w.heap.size + 1, 1, none⟩) (by dsimp only; omega) (.string p2)).setNew (p := ⟨w.heap.size + 1, 2, none⟩) (by dsimp only; omega) (.int .i64 q2))
      have hs_ := ((((Keep.refl [w.heap.size + 1] w5).setCell (p := ⟨w.heap.size + 1, 0, none⟩) (by simp) (.string d2)).setCell (p := ⟨w.heap.size + 1, 1, none⟩) (by simp) (.string p2)).setCell (p := ⟨w.heap.size + 1, 2, none⟩) (by simp) (.int .i64 q2)).size
      clear hC hKp RZ RL
      have hs_w6 := hs_; clear hs_
      generalize (((w5.setCell ⟨w.heap.size + 1, 0, none⟩ (.string d2)).setCell ⟨w.heap.size + 1, 1, none⟩ (.string p2)).setCell ⟨w.heap.size + 1, 2, none⟩ (.int .i64 q2)) = w6 at *
      have hC := n_hC; clear n_hC
      have hKp := n_hKp; clear n_hKp
      have RZ := n_RZ; clear n_RZ
      have RL := n_RL; clear n_RL
      refine hK.out _ _ (fun h => by cases h) ?_
      clear hK K
      try simp only [Act.put, List.setIfInBounds_toArray, List.set_cons_zero, List.set_cons_succ]
      refine AnyX.done (by kernel_rfl) ?_ _
      (try clear hS)
      refine hK0 _ _ ?_
      clear hK0 K0
      have c_RZ := RZ.cells; have f_RZ := RZ.frozens
      have c_RL := RL.cells; have f_RL := RL.frozens
      go_wp2_with fail
      clear c_RZ f_RZ c_RL f_RL
      refine (one_c _ g F 4 _ hC (by omega) (by omega)).mono ?_
      rintro e w7 ⟨b, rfl, hC', hk⟩
      have hs_w7 := hk.size
      replace RZ := RZ.keepK hk (by simp <;> omega)
      replace RL := RL.keepK hk (by simp <;> omega)
      replace hC := hC'; clear hC'
      replace hKp := hKp.trans hk
      clear hk
      cases b
      · have c_RZ := RZ.cells; have f_RZ := RZ.frozens
        have c_RL := RL.cells; have f_RL := RL.frozens
        go_wp2_with fail
        clear c_RZ f_RZ c_RL f_RL
        exact ⟨⟨j - 1, _, _, _, by go_num, by omega, ok, RZ, RL, hC.mono (by omega), hKp⟩, by simp [intOf] <;> omega⟩
      · have c_RZ := RZ.cells; have f_RZ := RZ.frozens
        have c_RL := RL.cells; have f_RL := RL.frozens
        go_wp2_with fail
        clear c_RZ f_RZ c_RL f_RL
        refine (specSyn_ok d2 p2 q2 _ ok.out).mono ?_
        rintro e w8 ⟨d3, p3, q3, ok3, rfl, hb⟩
        have hs_w8 := hb.size
        replace RZ := RZ.below hb
        replace RL := RL.below hb
        replace hKp := hKp.trans (Keep.ofBelow (F := [g]) hb)
        replace hC := hC.below hb
        clear hb
        replace ok := Lib.hid ok3; clear ok3
        have c_RZ := RZ.cells; have f_RZ := RZ.frozens
        have c_RL := RL.cells; have f_RL := RL.frozens
        go_wp2_with fail
        clear c_RZ f_RZ c_RL f_RL
        have n_RZ := RZ.keepK ((((Keep.refl [w.heap.size + 1] w8).setCell (p := ⟨w.heap.size + 1, 0, none⟩) (by simp) (.string d3)).setCell (p := ⟨w.heap.size + 1, 1, none⟩) (by simp) (.string p3)).setCell (p := ⟨w.heap.size + 1, 2, none⟩) (by simp) (.int .i64 q3)) (by simp <;> omega)
        have n_RL : Row (((w8.setCell ⟨w.heap.size + 1, 0, none⟩ (.string d3)).setCell ⟨w.heap.size + 1, 1, none⟩ (.string p3)).setCell ⟨w.heap.size + 1, 2, none⟩ (.int .i64 q3)) (w.heap.size + 1) 31 [.string d3, .string p3, .int .i64 q3] := by simpa using (((RL.set 0 (.string d3)).set 1 (.string p3)).set 2 (.int .i64 q3))
        have n_hC := hC.keep ((((Keep.refl [w.heap.size + 1] w8).setCell (p := ⟨w.heap.size + 1, 0, none⟩) (by simp) (.string d3)).setCell (p := ⟨w.heap.size + 1, 1, none⟩) (by simp) (.string p3)).setCell (p := ⟨w.heap.size + 1, 2, none⟩) (by simp) (.int .i64 q3)) (by simp <;> omega) (fun b hb => by have := hFg b hb; simp; omega)
        have n_hKp := (((hKp.setNew (p := ⟨w.heap.size + 1, 0, none⟩) (by dsimp only; omega) (.string d3)).setNew (p := ⟨w.heap.size + 1, 1, none⟩) (by dsimp only; omega) (.string p3)).setNew (p := ⟨w.heap.size + 1, 2, none⟩) (by dsimp only; omega) (.int .i64 q3))
        have hs_ := ((((Keep.refl [w.heap.size + 1] w8).setCell (p := ⟨w.heap.size + 1, 0, none⟩) (by simp) (.string d3)).setCell (p := ⟨w.heap.size + 1, 1, none⟩) (by simp) (.string p3)).setCell (p := ⟨w.heap.size + 1, 2, none⟩) (by simp) (.int .i64 q3)).size
        clear hC hKp RZ RL
        have hs_w9 := hs_; clear hs_
        generalize (((w8.setCell ⟨w.heap.size + 1, 0, none⟩ (.string d3)).setCell ⟨w.heap.size + 1, 1, none⟩ (.string p3)).setCell ⟨w.heap.size + 1, 2, none⟩ (.int .i64 q3)) = w9 at *
        have hC := n_hC; clear n_hC
        have hKp := n_hKp; clear n_hKp
        have RZ := n_RZ; clear n_RZ
        have RL := n_RL; clear n_RL
        exact ⟨⟨j - 1, _, _, _, by go_num, by omega, ok, RZ, RL, hC.mono (by omega), hKp⟩, by simp [intOf] <;> omega⟩
    · have c_RZ := RZ.cells; have f_RZ := RZ.frozens
      have c_RL := RL.cells; have f_RL := RL.frozens
      go_wp2_with fail
      refine bodyPost_ret (v := .agg #[.string d, .string p, .int .i64 q]) ?_ rfl ?_
      · simp [results, Tryd.results55, go_sem, c_RZ, f_RZ, c_RL]
      · refine ⟨_, _, _, ok.out, rfl, ?_, ?_⟩
        · repeat refine Cur.setFar ?_ (by dsimp only; omega) _
          exact hC.mono (by omega)
        · repeat refine Keep.setNew ?_ (by dsimp only; omega) _
          exact hKp
end Go.Proofs.YtnmgaponnfjciaaDoor
