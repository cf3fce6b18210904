/- Part 5 of the proof: 14 texts, one behind the other. -/
import Derived.ProofKit
import Derived.OpenShut
import Derived.Test.YtccmhdheoeglmaaGreatDoorRows
import Derived.MakeChecks
import Derived.Stop.LaidErr
import Derived.Test.YtccmhdheoeglmaaGreatDoorCards
import Derived.Test.YtccmhdheoeglmaaGreatDoorTie
import Derived.LaidMore
import Derived.Lay
import Derived.SevenTiedAt
import Derived.Stop.Joined
import Derived.Test.YtccmhdheoeglmaaGreatDoorM4
/- Walks: a log is valid, the program's and the reference's. -/
namespace Go.Proofs.YtccmhdheoeglmaaGreatDoor.Lg
open Go.RowKit
set_option maxHeartbeats 800000 in
theorem Index_Int (v : Value) (xs : List Int) (F : List Nat) (z : Int) (w : World) (h : Sl EInt w v xs F) :
    Calls Tryz.prog 131 #[v, .int .i64 z] w fun e w' => e = .returned (.int .i64 (fidx (fun x => z == x) xs)) ∧ w = w' := by
  obtain ⟨a, cap, rfl⟩ := h.slice
  obtain ⟨-, hl, hc⟩ := h.int
  unfold maxLen at hl
  go_enter Tryz.func131, Tryz.ntmps131
  go_wp2
  go_loop [5, 8] (fun _ i => ∃ k : Nat, k ≤ xs.length ∧ i = .int .i64 k ∧ Hid (∀ j, j < k → ∀ hj : j < xs.length, (z == xs[j]) = false)) (fun _ i => xs.length - (intOf i).toNat)
  case atStart => exact ⟨0, Nat.zero_le _, rfl, fun j hj => by omega⟩
  case round =>
    obtain ⟨k, hk, rfl, hz⟩ := hrel
    by_cases hlt : k < xs.length
    · obtain ⟨b, off, rfl, c0⟩ := hc k hlt
      clear hc
      cases hp : (z == xs[k])
      · have hp2 := Lib.hid hp
        go_wp2
        exact ⟨⟨k + 1, by omega, by go_num, Lib.hid fun j hj hl => by rcases Nat.lt_or_eq_of_le (Nat.le_of_lt_succ hj) with h | h; exact hz.out j h hl; subst h; exact hp2.out⟩, by simp [intOf]; omega⟩
      · have hp2 := Lib.hid hp
        go_wp2
        go_ret
        exact ⟨ret_int (fidx_hit hlt hz.out hp2.out).symm, rfl⟩
    · go_wp2
      go_ret
      exact ⟨ret_int (fidx_none (fun j hj => hz.out j (by omega) hj)).symm, rfl⟩
theorem Contains_Int (v : Value) (xs : List Int) (F : List Nat) (z : Int) (w : World) (h : Sl EInt w v xs F) :
    Calls Tryz.prog 78 #[v, .int .i64 z] w fun e w' => e = .returned (.bool (xs.any fun x => z == x)) ∧ w = w' := by
  go_enter Tryz.func78, Tryz.ntmps78
  go_wp2_with fail
  refine (Index_Int v xs F z _ h).mono ?_
  rintro e w1 ⟨rfl, rfl⟩
  go_wp2_with fail
  go_ret
  exact ⟨ret_bool (fidx_any _ xs), rfl⟩
theorem any_ends (A : List Bs) (n : Nat) : (((endsL 0 A).map Int.ofNat).any fun x => (n : Int) == x) = (endsL 0 A).contains n := by
  generalize endsL 0 A = l
  induction l with
  | nil => rfl
  | cons a l ih =>
    rw [List.map_cons, List.any_cons, ih, List.contains_cons]
    congr 1
    rw [Bool.eq_iff_iff]; simp
    constructor <;> intro h <;> omega
theorem last_ends {w : World} {t : TypeId} {A : List Bs} {eo : Option Addr} {ec : Nat} {F : List Nat} (h : Ow EInt t w (.slice eo (A.length + 1) ec) ((endsL 0 A).map Int.ofNat) F) : ∃ gb off, eo = some ⟨gb, off, none⟩ ∧ w.cell? ⟨gb, off + A.length, none⟩ = some (.int .i64 (A.flatten.length : Nat)) := by
  obtain ⟨F', _, hs⟩ := h.read
  have hl : ((endsL 0 A).map Int.ofNat).length = A.length + 1 := by simp [endsL_len]
  obtain ⟨b, o, e, hc⟩ := hs.int.2.2 A.length (by omega)
  refine ⟨b, o, e, ?_⟩
  rw [hc]
  have h2 := endsL_last (n := 0) (xs := A)
  rw [List.getLast?_eq_getElem?, endsL_len, Nat.add_sub_cancel, List.getElem?_eq_getElem (by rw [endsL_len]; omega)] at h2
  have h3 := Option.some.inj h2
  rw [Nat.zero_add] at h3
  simp only [List.getElem_map, h3]; rfl
theorem last_cell {w : World} {t : TypeId} {A : List Bs} {gb off : Nat} {ec : Nat} {F : List Nat} {T : Nat} (hT : Hid (A.flatten.length = T)) (h : Ow EInt t w (.slice (some ⟨gb, off, none⟩) (A.length + 1) ec) ((endsL 0 A).map Int.ofNat) F) : w.cell? ⟨gb, off + A.length, none⟩ = some (.int .i64 (T : Nat)) := by
  obtain ⟨g, o, e, hc⟩ := last_ends h
  cases e
  rw [← hT.out]; exact hc
set_option maxHeartbeats 3200000 in
set_option maxRecDepth 100000 in
theorem IsValidLog_v (d p : ByteArray) (n : Int) (FT : List Nat) (w : World) (hz : d.size + p.size ≤ 1048576) (hT : IsV ETab w (.agg #[]) () FT) :
    Calls Tryz.prog 37 #[.agg #[.string d, .string p, .int .i64 n]] w fun e w' => e = .returned (.bool (validR d.data.toList p.data.toList n)) ∧ Below w.heap.size w w' := by
  have hsm := (opened_small (d.data.toList ++ p.data.toList)).2
  have hsm1 := (opened_small (d.data.toList ++ p.data.toList)).1
  have hvp : validR d.data.toList p.data.toList n = (decide ((opened (d.data.toList ++ p.data.toList)).flatten.length = d.size + p.size) && (endsL 0 (opened (d.data.toList ++ p.data.toList))).contains d.size && decide (n = ((opened (d.data.toList ++ p.data.toList)).length : Int))) := by rw [← valid_eq]; unfold validP; rw [size_list, size_list]
  replace hvp := Lib.hid hvp
  have hRd := fun w hT => readRecords_c (d ++ p) FT w (by simp; omega) hT
  unfold PRead at hRd
  rw [app_list] at hRd
  replace hRd := Lib.hid hRd
  generalize opened (d.data.toList ++ p.data.toList) = A at *
  go_enter Tryz.func37, Tryz.ntmps37
  go_wp2_with fail
  have al : Below w.heap.size w (w.alloc (.cells #[.string d, .string p, .int .i64 n] 39)) := by
    repeat refine Below.alloc ?_ (by simp <;> omega) _
    exact Below.refl _ _
  have n_R0 := Row.made w 39 [.string d, .string p, .int .i64 n]
  have hs_w1 : w.heap.size < (w.alloc (.cells #[.string d, .string p, .int .i64 n] 39)).heap.size := by simp
  replace hT := hT.below al
  have hB := al
  generalize (w.alloc (.cells #[.string d, .string p, .int .i64 n] 39)) = w1 at *
  have R0 := n_R0; clear n_R0
  clear al
  have c_R0 := R0.cells; have f_R0 := R0.frozens
  go_wp2_with fail
  clear c_R0 f_R0
  refine (hRd.out _ hT).mono ?_
  rintro e w2 ⟨u0, G0, u1, G1, rfl, oL, nL, oE, nE, fL, fE, dE, hb⟩
  have hs_w2 := hb.size
  replace R0 := R0.below hb
  replace hT := hT.below hb
  replace hB := tr hB hb (Nat.le_refl _)
  clear hb
  clear hRd nL nE fL fE dE
  obtain ⟨la, lc, rfl⟩ : ∃ a c, u0 = .slice a A.length c := by
    obtain ⟨a, c, e⟩ := oL.slice; exact ⟨a, c, by simpa using e⟩
  obtain ⟨ea, ec, rfl⟩ : ∃ a c, u1 = .slice a (A.length + 1) c := by
    obtain ⟨a, c, e⟩ := oE.slice; exact ⟨a, c, by simpa [endsL_len] using e⟩
  obtain ⟨gb, off, rfl, -⟩ := last_ends oE
  obtain ⟨FE, hFE, sE⟩ := oE.read
  clear oL hFE
  go_wp2_with fail
  generalize hTT : A.flatten.length = T at *
  replace hTT := Lib.hid hTT
  have hCn := fun w v h => Contains_Int v ((endsL 0 A).map Int.ofNat) FE (d.size : Int) w h
  rw [any_ends] at hCn
  have hw3 := Lib.hid (show IntKind.i64.wrap (A.length : Int) = (A.length : Int) from by rw [IntKind.wrap_i64]; omega)
  have hw12 := Lib.hid (show IntKind.i64.wrap ((d.size : Int) + (p.size : Int)) = (d.size : Int) + (p.size : Int) from by rw [IntKind.wrap_i64]; omega)
  cases hb1 : ((T : Int) == ((d.size : Int) + (p.size : Int)))
  · have hb2 : ¬ T = d.size + p.size := by intro e; rw [e] at hb1; simp at hb1
    replace hb2 := Lib.hid hb2
    refine AnyX.start (S := (fun w' => w'.cell? ⟨w.heap.size, 0, none⟩ = some (.string d) ∧ w'.cell? ⟨w.heap.size, 1, none⟩ = some (.string p) ∧ w'.cell? ⟨w.heap.size, 2, none⟩ = some (.int .i64 n) ∧ w'.cell? ⟨gb, off + A.length, none⟩ = some (.int .i64 (T : Nat)))) (X := (fun _ => false)) (by kernel_rfl) ?_
    have al : Below w2.heap.size w2 w2.drew := belowDrewN (Below.refl _ _) 1
    have hs_w3 := al.size
    replace R0 := R0.below al
    replace hT := hT.below al
    replace sE := sE.below (by decide) al
    replace oE := oE.below al
    replace hB := tr hB al (Nat.le_refl _)
    generalize w2.drew = w3 at *
    clear al
    have hS : (fun w' => w'.cell? ⟨w.heap.size, 0, none⟩ = some (.string d) ∧ w'.cell? ⟨w.heap.size, 1, none⟩ = some (.string p) ∧ w'.cell? ⟨w.heap.size, 2, none⟩ = some (.int .i64 n) ∧ w'.cell? ⟨gb, off + A.length, none⟩ = some (.int .i64 (T : Nat))) w3 := ⟨R0.cells 0, R0.cells 1, R0.cells 2, last_cell hTT oE⟩
    refine AnyX.take (i := 0) (oi := _) (v := ?_) (by rw [List.getElem?_toArray]; rfl) (by kernel_rfl) (by kernel_rfl) (by kernel_rfl) (by kernel_rfl) (by kernel_rfl) (by exact fun _ _ _ h => h) (Or.inl ⟨by rfl, ?_⟩) hS ?_
    rotate_left
    · (intro wS hSw; (try dsimp only at hSw); go_simp; try with_reducible rfl)
    try simp only [Act.put, List.setIfInBounds_toArray, List.set_cons_zero, List.set_cons_succ]
    refine AnyX.take (i := 1) (oi := _) (v := ?_) (by rw [List.getElem?_toArray]; rfl) (by kernel_rfl) (by kernel_rfl) (by kernel_rfl) (by kernel_rfl) (by kernel_rfl) (by exact fun _ _ _ h => h) (Or.inl ⟨by rfl, ?_⟩) hS ?_
    rotate_left
    · (intro wS hSw; (try dsimp only at hSw); go_simp; try with_reducible rfl)
    try simp only [Act.put, List.setIfInBounds_toArray, List.set_cons_zero, List.set_cons_succ]
    refine AnyX.take (i := 2) (oi := _) (v := ?_) (by rw [List.getElem?_toArray]; rfl) (by kernel_rfl) (by kernel_rfl) (by kernel_rfl) (by kernel_rfl) (by kernel_rfl) (by exact fun _ _ _ h => h) (Or.inl ⟨by rfl, ?_⟩) hS ?_
    rotate_left
    · (intro wS hSw; (try dsimp only at hSw); go_simp; try with_reducible rfl)
    try simp only [Act.put, List.setIfInBounds_toArray, List.set_cons_zero, List.set_cons_succ]
    refine AnyX.take (i := 3) (oi := _) (v := ?_) (by rw [List.getElem?_toArray]; rfl) (by kernel_rfl) (by kernel_rfl) (by kernel_rfl) (by kernel_rfl) (by kernel_rfl) (by exact fun _ _ _ h => h) (Or.inl ⟨by rfl, ?_⟩) hS ?_
    rotate_left
    · (intro wS hSw; (try dsimp only at hSw); go_simp; rw [hw3.out]; try with_reducible rfl)
    try simp only [Act.put, List.setIfInBounds_toArray, List.set_cons_zero, List.set_cons_succ]
    refine AnyX.take (i := 4) (oi := _) (v := ?_) (by rw [List.getElem?_toArray]; rfl) (by kernel_rfl) (by kernel_rfl) (by kernel_rfl) (by kernel_rfl) (by kernel_rfl) (by exact fun _ _ _ h => h) (Or.inl ⟨by rfl, ?_⟩) hS ?_
    rotate_left
    · (intro wS hSw; (try dsimp only at hSw); go_simp; rw [if_pos (by omega)]; try with_reducible rfl)
    try simp only [Act.put, List.setIfInBounds_toArray, List.set_cons_zero, List.set_cons_succ]
    refine AnyX.take (i := 5) (oi := _) (v := ?_) (by rw [List.getElem?_toArray]; rfl) (by kernel_rfl) (by kernel_rfl) (by kernel_rfl) (by kernel_rfl) (by kernel_rfl) (by exact fun _ _ _ h => h) (Or.inl ⟨by rfl, ?_⟩) hS ?_
    rotate_left
    · (intro wS hSw; (try dsimp only at hSw); go_simp; try with_reducible rfl)
    try simp only [Act.put, List.setIfInBounds_toArray, List.set_cons_zero, List.set_cons_succ]
    refine AnyX.take (i := 6) (oi := _) (v := ?_) (by rw [List.getElem?_toArray]; rfl) (by kernel_rfl) (by kernel_rfl) (by kernel_rfl) (by kernel_rfl) (by kernel_rfl) (by exact fun _ _ _ h => h) (Or.inl ⟨by rfl, ?_⟩) hS ?_
    rotate_left
    · (intro wS hSw; (try dsimp only at hSw); go_simp; try with_reducible rfl)
    try simp only [Act.put, List.setIfInBounds_toArray, List.set_cons_zero, List.set_cons_succ]
    refine AnyX.take (i := 7) (oi := _) (v := ?_) (by rw [List.getElem?_toArray]; rfl) (by kernel_rfl) (by kernel_rfl) (by kernel_rfl) (by kernel_rfl) (by kernel_rfl) (by exact fun _ _ _ h => h) (Or.inl ⟨by rfl, ?_⟩) hS ?_
    rotate_left
    · (intro wS hSw; (try dsimp only at hSw); go_simp; try with_reducible rfl)
    try simp only [Act.put, List.setIfInBounds_toArray, List.set_cons_zero, List.set_cons_succ]
    refine AnyX.take (i := 8) (oi := _) (v := ?_) (by rw [List.getElem?_toArray]; rfl) (by kernel_rfl) (by kernel_rfl) (by kernel_rfl) (by kernel_rfl) (by kernel_rfl) (by exact fun _ _ _ h => h) (Or.inl ⟨by rfl, ?_⟩) hS ?_
    rotate_left
    · (intro wS hSw; (try dsimp only at hSw); go_simp; try with_reducible rfl)
    try simp only [Act.put, List.setIfInBounds_toArray, List.set_cons_zero, List.set_cons_succ]
    refine AnyX.take (i := 9) (oi := _) (v := ?_) (by rw [List.getElem?_toArray]; rfl) (by kernel_rfl) (by kernel_rfl) (by kernel_rfl) (by kernel_rfl) (by kernel_rfl) (by exact fun _ _ _ h => h) (Or.inl ⟨by rfl, ?_⟩) hS ?_
    rotate_left
    · (intro wS hSw; (try dsimp only at hSw); go_simp; try with_reducible rfl)
    try simp only [Act.put, List.setIfInBounds_toArray, List.set_cons_zero, List.set_cons_succ]
    refine AnyX.take (i := 10) (oi := _) (v := ?_) (by rw [List.getElem?_toArray]; rfl) (by kernel_rfl) (by kernel_rfl) (by kernel_rfl) (by kernel_rfl) (by kernel_rfl) (by exact fun _ _ _ h => h) (Or.inl ⟨by rfl, ?_⟩) hS ?_
    rotate_left
    · (intro wS hSw; (try dsimp only at hSw); go_simp; try with_reducible rfl)
    try simp only [Act.put, List.setIfInBounds_toArray, List.set_cons_zero, List.set_cons_succ]
    refine AnyX.take (i := 11) (oi := _) (v := ?_) (by rw [List.getElem?_toArray]; rfl) (by kernel_rfl) (by kernel_rfl) (by kernel_rfl) (by kernel_rfl) (by kernel_rfl) (by exact fun _ _ _ h => h) (Or.inl ⟨by rfl, ?_⟩) hS ?_
    rotate_left
    · (intro wS hSw; (try dsimp only at hSw); go_simp; try with_reducible rfl)
    try simp only [Act.put, List.setIfInBounds_toArray, List.set_cons_zero, List.set_cons_succ]
    refine AnyX.take (i := 12) (oi := _) (v := ?_) (by rw [List.getElem?_toArray]; rfl) (by kernel_rfl) (by kernel_rfl) (by kernel_rfl) (by kernel_rfl) (by kernel_rfl) (by exact fun _ _ _ h => h) (Or.inl ⟨by rfl, ?_⟩) hS ?_
    rotate_left
    · (intro wS hSw; (try dsimp only at hSw); go_simp; rw [hw12.out]; try with_reducible rfl)
    try simp only [Act.put, List.setIfInBounds_toArray, List.set_cons_zero, List.set_cons_succ]
    refine AnyX.take (i := 13) (oi := _) (v := ?_) (by rw [List.getElem?_toArray]; rfl) (by kernel_rfl) (by kernel_rfl) (by kernel_rfl) (by kernel_rfl) (by kernel_rfl) (by exact fun _ _ _ h => h) (Or.inl ⟨by rfl, ?_⟩) hS ?_
    rotate_left
    · (intro wS hSw; (try dsimp only at hSw); go_simp; try with_reducible rfl)
    try simp only [Act.put, List.setIfInBounds_toArray, List.set_cons_zero, List.set_cons_succ]
    refine AnyX.take (i := 14) (oi := _) (v := ?_) (by rw [List.getElem?_toArray]; rfl) (by kernel_rfl) (by kernel_rfl) (by kernel_rfl) (by kernel_rfl) (by kernel_rfl) (by exact fun _ _ _ h => h) (Or.inl ⟨by rfl, ?_⟩) hS ?_
    rotate_left
    · (intro wS hSw; (try dsimp only at hSw); go_simp; try with_reducible rfl)
    try simp only [Act.put, List.setIfInBounds_toArray, List.set_cons_zero, List.set_cons_succ]
    refine AnyX.take (i := 15) (oi := _) (v := undef) (by rw [List.getElem?_toArray]; rfl) (by kernel_rfl) (by kernel_rfl) (by kernel_rfl) (by kernel_rfl) (by kernel_rfl) (by exact fun _ _ _ h => h) (Or.inr ⟨by rfl, rfl⟩) hS ?_
    try simp only [Act.put, List.setIfInBounds_toArray, List.set_cons_zero, List.set_cons_succ]
    refine AnyX.take (i := 16) (oi := _) (v := undef) (by rw [List.getElem?_toArray]; rfl) (by kernel_rfl) (by kernel_rfl) (by kernel_rfl) (by kernel_rfl) (by kernel_rfl) (by exact fun _ _ _ h => h) (Or.inr ⟨by rfl, rfl⟩) hS ?_
    try simp only [Act.put, List.setIfInBounds_toArray, List.set_cons_zero, List.set_cons_succ]
    refine AnyX.take (i := 17) (oi := _) (v := undef) (by rw [List.getElem?_toArray]; rfl) (by kernel_rfl) (by kernel_rfl) (by kernel_rfl) (by kernel_rfl) (by kernel_rfl) (by exact fun _ _ _ h => h) (Or.inr ⟨by rfl, rfl⟩) hS ?_
    try simp only [Act.put, List.setIfInBounds_toArray, List.set_cons_zero, List.set_cons_succ]
    refine AnyX.take (i := 18) (oi := _) (v := undef) (by rw [List.getElem?_toArray]; rfl) (by kernel_rfl) (by kernel_rfl) (by kernel_rfl) (by kernel_rfl) (by kernel_rfl) (by exact fun _ _ _ h => h) (Or.inr ⟨by rfl, rfl⟩) hS ?_
    try simp only [Act.put, List.setIfInBounds_toArray, List.set_cons_zero, List.set_cons_succ]
    refine AnyX.take (i := 19) (oi := _) (v := undef) (by rw [List.getElem?_toArray]; rfl) (by kernel_rfl) (by kernel_rfl) (by kernel_rfl) (by kernel_rfl) (by kernel_rfl) (by exact fun _ _ _ h => h) (Or.inr ⟨by rfl, rfl⟩) hS ?_
    try simp only [Act.put, List.setIfInBounds_toArray, List.set_cons_zero, List.set_cons_succ]
    refine AnyX.take (i := 20) (oi := _) (v := ?_) (by rw [List.getElem?_toArray]; rfl) (by kernel_rfl) (by kernel_rfl) (by kernel_rfl) (by kernel_rfl) (by kernel_rfl) (by exact fun _ _ _ h => h) (Or.inl ⟨by rfl, ?_⟩) hS ?_
    rotate_left
    · (intro wS hSw; (try dsimp only at hSw); go_simp; try with_reducible rfl)
    try simp only [Act.put, List.setIfInBounds_toArray, List.set_cons_zero, List.set_cons_succ]
    refine AnyX.take (i := 21) (oi := _) (v := ?_) (by rw [List.getElem?_toArray]; rfl) (by kernel_rfl) (by kernel_rfl) (by kernel_rfl) (by kernel_rfl) (by kernel_rfl) (by exact fun _ _ _ h => h) (Or.inl ⟨by rfl, ?_⟩) hS ?_
    rotate_left
    · (intro wS hSw; (try dsimp only at hSw); go_simp; try with_reducible rfl)
    try simp only [Act.put, List.setIfInBounds_toArray, List.set_cons_zero, List.set_cons_succ]
    refine AnyX.take (i := 22) (oi := _) (v := undef) (by rw [List.getElem?_toArray]; rfl) (by kernel_rfl) (by kernel_rfl) (by kernel_rfl) (by kernel_rfl) (by kernel_rfl) (by exact fun _ _ _ h => h) (Or.inr ⟨by rfl, rfl⟩) hS ?_
    try simp only [Act.put, List.setIfInBounds_toArray, List.set_cons_zero, List.set_cons_succ]
    refine AnyX.take (i := 23) (oi := _) (v := undef) (by rw [List.getElem?_toArray]; rfl) (by kernel_rfl) (by kernel_rfl) (by kernel_rfl) (by kernel_rfl) (by kernel_rfl) (by exact fun _ _ _ h => h) (Or.inr ⟨by rfl, rfl⟩) hS ?_
    try simp only [Act.put, List.setIfInBounds_toArray, List.set_cons_zero, List.set_cons_succ]
    refine AnyX.take (i := 24) (oi := _) (v := undef) (by rw [List.getElem?_toArray]; rfl) (by kernel_rfl) (by kernel_rfl) (by kernel_rfl) (by kernel_rfl) (by kernel_rfl) (by exact fun _ _ _ h => h) (Or.inr ⟨by rfl, rfl⟩) hS ?_
    try simp only [Act.put, List.setIfInBounds_toArray, List.set_cons_zero, List.set_cons_succ]
    refine AnyX.take (i := 25) (oi := _) (v := undef) (by rw [List.getElem?_toArray]; rfl) (by kernel_rfl) (by kernel_rfl) (by kernel_rfl) (by kernel_rfl) (by kernel_rfl) (by exact fun _ _ _ h => h) (Or.inr ⟨by rfl, rfl⟩) hS ?_
    try simp only [Act.put, List.setIfInBounds_toArray, List.set_cons_zero, List.set_cons_succ]
    refine AnyX.take (i := 26) (oi := _) (v := undef) (by rw [List.getElem?_toArray]; rfl) (by kernel_rfl) (by kernel_rfl) (by kernel_rfl) (by kernel_rfl) (by kernel_rfl) (by exact fun _ _ _ h => h) (Or.inr ⟨by rfl, rfl⟩) hS ?_
    try simp only [Act.put, List.setIfInBounds_toArray, List.set_cons_zero, List.set_cons_succ]
    refine AnyX.take (i := 27) (oi := _) (v := ?_) (by rw [List.getElem?_toArray]; rfl) (by kernel_rfl) (by kernel_rfl) (by kernel_rfl) (by kernel_rfl) (by kernel_rfl) (by exact fun _ _ _ h => h) (Or.inl ⟨by rfl, ?_⟩) hS ?_
    rotate_left
    · (intro wS hSw; (try dsimp only at hSw); go_simp; try with_reducible rfl)
    try simp only [Act.put, List.setIfInBounds_toArray, List.set_cons_zero, List.set_cons_succ]
    refine AnyX.only (i := 28) (o := _) (by kernel_rfl) (by rw [List.getElem?_toArray]; rfl) (fun K hK => ?_)
    try go_simp
    clear hS
    have hS : (fun w' => w'.cell? ⟨w.heap.size, 0, none⟩ = some (.string d) ∧ w'.cell? ⟨w.heap.size, 1, none⟩ = some (.string p) ∧ w'.cell? ⟨w.heap.size, 2, none⟩ = some (.int .i64 n) ∧ w'.cell? ⟨gb, off + A.length, none⟩ = some (.int .i64 (T : Nat))) w3 := ⟨R0.cells 0, R0.cells 1, R0.cells 2, last_cell hTT oE⟩
    refine hK.out _ _ (fun _ => hS) ?_
    clear hK K
    try simp only [Act.put, List.setIfInBounds_toArray, List.set_cons_zero, List.set_cons_succ]
    refine AnyX.done (by kernel_rfl) ?_ _
    (try clear hS)
    go_wp2_with fail
    go_ret
    exact ⟨ret_bool (by rw [hvp.out]; rw [decide_eq_false hb2.out]; rfl), hB⟩
  have hb2 : T = d.size + p.size := by have := eq_of_beq hb1; omega
  replace hb2 := Lib.hid hb2
  cases hb3 : (endsL 0 A).contains d.size
  · rw [hb3] at hCn
    replace hCn := Lib.hid hCn
    refine AnyX.start (S := (fun w' => w'.cell? ⟨w.heap.size, 0, none⟩ = some (.string d) ∧ w'.cell? ⟨w.heap.size, 1, none⟩ = some (.string p) ∧ w'.cell? ⟨w.heap.size, 2, none⟩ = some (.int .i64 n) ∧ w'.cell? ⟨gb, off + A.length, none⟩ = some (.int .i64 (T : Nat)))) (X := (fun _ => false)) (by kernel_rfl) ?_
    have al : Below w2.heap.size w2 w2.drew := belowDrewN (Below.refl _ _) 1
    have hs_w4 := al.size
    replace R0 := R0.below al
    replace hT := hT.below al
    replace sE := sE.below (by decide) al
    replace oE := oE.below al
    replace hB := tr hB al (Nat.le_refl _)
    generalize w2.drew = w4 at *
    clear al
    have hS : (fun w' => w'.cell? ⟨w.heap.size, 0, none⟩ = some (.string d) ∧ w'.cell? ⟨w.heap.size, 1, none⟩ = some (.string p) ∧ w'.cell? ⟨w.heap.size, 2, none⟩ = some (.int .i64 n) ∧ w'.cell? ⟨gb, off + A.length, none⟩ = some (.int .i64 (T : Nat))) w4 := ⟨R0.cells 0, R0.cells 1, R0.cells 2, last_cell hTT oE⟩
    refine AnyX.take (i := 0) (oi := _) (v := ?_) (by rw [List.getElem?_toArray]; rfl) (by kernel_rfl) (by kernel_rfl) (by kernel_rfl) (by kernel_rfl) (by kernel_rfl) (by exact fun _ _ _ h => h) (Or.inl ⟨by rfl, ?_⟩) hS ?_
    rotate_left
    · (intro wS hSw; (try dsimp only at hSw); go_simp; try with_reducible rfl)
    try simp only [Act.put, List.setIfInBounds_toArray, List.set_cons_zero, List.set_cons_succ]
    refine AnyX.take (i := 1) (oi := _) (v := ?_) (by rw [List.getElem?_toArray]; rfl) (by kernel_rfl) (by kernel_rfl) (by kernel_rfl) (by kernel_rfl) (by kernel_rfl) (by exact fun _ _ _ h => h) (Or.inl ⟨by rfl, ?_⟩) hS ?_
    rotate_left
    · (intro wS hSw; (try dsimp only at hSw); go_simp; try with_reducible rfl)
    try simp only [Act.put, List.setIfInBounds_toArray, List.set_cons_zero, List.set_cons_succ]
    refine AnyX.take (i := 2) (oi := _) (v := ?_) (by rw [List.getElem?_toArray]; rfl) (by kernel_rfl) (by kernel_rfl) (by kernel_rfl) (by kernel_rfl) (by kernel_rfl) (by exact fun _ _ _ h => h) (Or.inl ⟨by rfl, ?_⟩) hS ?_
    rotate_left
    · (intro wS hSw; (try dsimp only at hSw); go_simp; try with_reducible rfl)
    try simp only [Act.put, List.setIfInBounds_toArray, List.set_cons_zero, List.set_cons_succ]
    refine AnyX.take (i := 3) (oi := _) (v := ?_) (by rw [List.getElem?_toArray]; rfl) (by kernel_rfl) (by kernel_rfl) (by kernel_rfl) (by kernel_rfl) (by kernel_rfl) (by exact fun _ _ _ h => h) (Or.inl ⟨by rfl, ?_⟩) hS ?_
    rotate_left
    · (intro wS hSw; (try dsimp only at hSw); go_simp; rw [hw3.out]; try with_reducible rfl)
    try simp only [Act.put, List.setIfInBounds_toArray, List.set_cons_zero, List.set_cons_succ]
    refine AnyX.take (i := 4) (oi := _) (v := ?_) (by rw [List.getElem?_toArray]; rfl) (by kernel_rfl) (by kernel_rfl) (by kernel_rfl) (by kernel_rfl) (by kernel_rfl) (by exact fun _ _ _ h => h) (Or.inl ⟨by rfl, ?_⟩) hS ?_
    rotate_left
    · (intro wS hSw; (try dsimp only at hSw); go_simp; rw [if_pos (by omega)]; try with_reducible rfl)
    try simp only [Act.put, List.setIfInBounds_toArray, List.set_cons_zero, List.set_cons_succ]
    refine AnyX.take (i := 5) (oi := _) (v := ?_) (by rw [List.getElem?_toArray]; rfl) (by kernel_rfl) (by kernel_rfl) (by kernel_rfl) (by kernel_rfl) (by kernel_rfl) (by exact fun _ _ _ h => h) (Or.inl ⟨by rfl, ?_⟩) hS ?_
    rotate_left
    · (intro wS hSw; (try dsimp only at hSw); go_simp; try with_reducible rfl)
    try simp only [Act.put, List.setIfInBounds_toArray, List.set_cons_zero, List.set_cons_succ]
    refine AnyX.take (i := 6) (oi := _) (v := ?_) (by rw [List.getElem?_toArray]; rfl) (by kernel_rfl) (by kernel_rfl) (by kernel_rfl) (by kernel_rfl) (by kernel_rfl) (by exact fun _ _ _ h => h) (Or.inl ⟨by rfl, ?_⟩) hS ?_
    rotate_left
    · (intro wS hSw; (try dsimp only at hSw); go_simp; try with_reducible rfl)
    try simp only [Act.put, List.setIfInBounds_toArray, List.set_cons_zero, List.set_cons_succ]
    refine AnyX.take (i := 7) (oi := _) (v := ?_) (by rw [List.getElem?_toArray]; rfl) (by kernel_rfl) (by kernel_rfl) (by kernel_rfl) (by kernel_rfl) (by kernel_rfl) (by exact fun _ _ _ h => h) (Or.inl ⟨by rfl, ?_⟩) hS ?_
    rotate_left
    · (intro wS hSw; (try dsimp only at hSw); go_simp; try with_reducible rfl)
    try simp only [Act.put, List.setIfInBounds_toArray, List.set_cons_zero, List.set_cons_succ]
    refine AnyX.take (i := 8) (oi := _) (v := ?_) (by rw [List.getElem?_toArray]; rfl) (by kernel_rfl) (by kernel_rfl) (by kernel_rfl) (by kernel_rfl) (by kernel_rfl) (by exact fun _ _ _ h => h) (Or.inl ⟨by rfl, ?_⟩) hS ?_
    rotate_left
    · (intro wS hSw; (try dsimp only at hSw); go_simp; try with_reducible rfl)
    try simp only [Act.put, List.setIfInBounds_toArray, List.set_cons_zero, List.set_cons_succ]
    refine AnyX.take (i := 9) (oi := _) (v := ?_) (by rw [List.getElem?_toArray]; rfl) (by kernel_rfl) (by kernel_rfl) (by kernel_rfl) (by kernel_rfl) (by kernel_rfl) (by exact fun _ _ _ h => h) (Or.inl ⟨by rfl, ?_⟩) hS ?_
    rotate_left
    · (intro wS hSw; (try dsimp only at hSw); go_simp; try with_reducible rfl)
    try simp only [Act.put, List.setIfInBounds_toArray, List.set_cons_zero, List.set_cons_succ]
    refine AnyX.take (i := 10) (oi := _) (v := ?_) (by rw [List.getElem?_toArray]; rfl) (by kernel_rfl) (by kernel_rfl) (by kernel_rfl) (by kernel_rfl) (by kernel_rfl) (by exact fun _ _ _ h => h) (Or.inl ⟨by rfl, ?_⟩) hS ?_
    rotate_left
    · (intro wS hSw; (try dsimp only at hSw); go_simp; try with_reducible rfl)
    try simp only [Act.put, List.setIfInBounds_toArray, List.set_cons_zero, List.set_cons_succ]
    refine AnyX.take (i := 11) (oi := _) (v := ?_) (by rw [List.getElem?_toArray]; rfl) (by kernel_rfl) (by kernel_rfl) (by kernel_rfl) (by kernel_rfl) (by kernel_rfl) (by exact fun _ _ _ h => h) (Or.inl ⟨by rfl, ?_⟩) hS ?_
    rotate_left
    · (intro wS hSw; (try dsimp only at hSw); go_simp; try with_reducible rfl)
    try simp only [Act.put, List.setIfInBounds_toArray, List.set_cons_zero, List.set_cons_succ]
    refine AnyX.take (i := 12) (oi := _) (v := ?_) (by rw [List.getElem?_toArray]; rfl) (by kernel_rfl) (by kernel_rfl) (by kernel_rfl) (by kernel_rfl) (by kernel_rfl) (by exact fun _ _ _ h => h) (Or.inl ⟨by rfl, ?_⟩) hS ?_
    rotate_left
    · (intro wS hSw; (try dsimp only at hSw); go_simp; rw [hw12.out]; try with_reducible rfl)
    try simp only [Act.put, List.setIfInBounds_toArray, List.set_cons_zero, List.set_cons_succ]
    refine AnyX.take (i := 13) (oi := _) (v := ?_) (by rw [List.getElem?_toArray]; rfl) (by kernel_rfl) (by kernel_rfl) (by kernel_rfl) (by kernel_rfl) (by kernel_rfl) (by exact fun _ _ _ h => h) (Or.inl ⟨by rfl, ?_⟩) hS ?_
    rotate_left
    · (intro wS hSw; (try dsimp only at hSw); go_simp; try with_reducible rfl)
    try simp only [Act.put, List.setIfInBounds_toArray, List.set_cons_zero, List.set_cons_succ]
    refine AnyX.take (i := 14) (oi := _) (v := ?_) (by rw [List.getElem?_toArray]; rfl) (by kernel_rfl) (by kernel_rfl) (by kernel_rfl) (by kernel_rfl) (by kernel_rfl) (by exact fun _ _ _ h => h) (Or.inl ⟨by rfl, ?_⟩) hS ?_
    rotate_left
    · (intro wS hSw; (try dsimp only at hSw); go_simp; try with_reducible rfl)
    try simp only [Act.put, List.setIfInBounds_toArray, List.set_cons_zero, List.set_cons_succ]
    refine AnyX.take (i := 15) (oi := _) (v := ?_) (by rw [List.getElem?_toArray]; rfl) (by kernel_rfl) (by kernel_rfl) (by kernel_rfl) (by kernel_rfl) (by kernel_rfl) (by exact fun _ _ _ h => h) (Or.inl ⟨by rfl, ?_⟩) hS ?_
    rotate_left
    · (intro wS hSw; (try dsimp only at hSw); go_simp; try with_reducible rfl)
    try simp only [Act.put, List.setIfInBounds_toArray, List.set_cons_zero, List.set_cons_succ]
    refine AnyX.take (i := 16) (oi := _) (v := ?_) (by rw [List.getElem?_toArray]; rfl) (by kernel_rfl) (by kernel_rfl) (by kernel_rfl) (by kernel_rfl) (by kernel_rfl) (by exact fun _ _ _ h => h) (Or.inl ⟨by rfl, ?_⟩) hS ?_
    rotate_left
    · (intro wS hSw; (try dsimp only at hSw); go_simp; try with_reducible rfl)
    try simp only [Act.put, List.setIfInBounds_toArray, List.set_cons_zero, List.set_cons_succ]
    refine AnyX.take (i := 17) (oi := _) (v := ?_) (by rw [List.getElem?_toArray]; rfl) (by kernel_rfl) (by kernel_rfl) (by kernel_rfl) (by kernel_rfl) (by kernel_rfl) (by exact fun _ _ _ h => h) (Or.inl ⟨by rfl, ?_⟩) hS ?_
    rotate_left
    · (intro wS hSw; (try dsimp only at hSw); go_simp; try with_reducible rfl)
    try simp only [Act.put, List.setIfInBounds_toArray, List.set_cons_zero, List.set_cons_succ]
    refine AnyX.take (i := 18) (oi := _) (v := ?_) (by rw [List.getElem?_toArray]; rfl) (by kernel_rfl) (by kernel_rfl) (by kernel_rfl) (by kernel_rfl) (by kernel_rfl) (by exact fun _ _ _ h => h) (Or.inl ⟨by rfl, ?_⟩) hS ?_
    rotate_left
    · (intro wS hSw; (try dsimp only at hSw); go_simp; try with_reducible rfl)
    try simp only [Act.put, List.setIfInBounds_toArray, List.set_cons_zero, List.set_cons_succ]
    refine AnyX.only (i := 19) (o := _) (by kernel_rfl) (by rw [List.getElem?_toArray]; rfl) (fun K hK => ?_)
    go_simp
    go_at_call 78
    refine (hCn.out _ _ sE).mono ?_
    rintro e w' ⟨rfl, rfl⟩
    clear hS
    have hS : (fun w' => w'.cell? ⟨w.heap.size, 0, none⟩ = some (.string d) ∧ w'.cell? ⟨w.heap.size, 1, none⟩ = some (.string p) ∧ w'.cell? ⟨w.heap.size, 2, none⟩ = some (.int .i64 n) ∧ w'.cell? ⟨gb, off + A.length, none⟩ = some (.int .i64 (T : Nat))) w4 := ⟨R0.cells 0, R0.cells 1, R0.cells 2, last_cell hTT oE⟩
    refine hK.out _ _ (fun _ => hS) ?_
    clear hK K
    try simp only [Act.put, List.setIfInBounds_toArray, List.set_cons_zero, List.set_cons_succ]
    refine AnyX.take (i := 20) (oi := _) (v := ?_) (by rw [List.getElem?_toArray]; rfl) (by kernel_rfl) (by kernel_rfl) (by kernel_rfl) (by kernel_rfl) (by kernel_rfl) (by exact fun _ _ _ h => h) (Or.inl ⟨by rfl, ?_⟩) hS ?_
    rotate_left
    · (intro wS hSw; (try dsimp only at hSw); go_simp; try with_reducible rfl)
    try simp only [Act.put, List.setIfInBounds_toArray, List.set_cons_zero, List.set_cons_succ]
    refine AnyX.take (i := 21) (oi := _) (v := ?_) (by rw [List.getElem?_toArray]; rfl) (by kernel_rfl) (by kernel_rfl) (by kernel_rfl) (by kernel_rfl) (by kernel_rfl) (by exact fun _ _ _ h => h) (Or.inl ⟨by rfl, ?_⟩) hS ?_
    rotate_left
    · (intro wS hSw; (try dsimp only at hSw); go_simp; try with_reducible rfl)
    try simp only [Act.put, List.setIfInBounds_toArray, List.set_cons_zero, List.set_cons_succ]
    refine AnyX.take (i := 22) (oi := _) (v := undef) (by rw [List.getElem?_toArray]; rfl) (by kernel_rfl) (by kernel_rfl) (by kernel_rfl) (by kernel_rfl) (by kernel_rfl) (by exact fun _ _ _ h => h) (Or.inr ⟨by rfl, rfl⟩) hS ?_
    try simp only [Act.put, List.setIfInBounds_toArray, List.set_cons_zero, List.set_cons_succ]
    refine AnyX.take (i := 23) (oi := _) (v := undef) (by rw [List.getElem?_toArray]; rfl) (by kernel_rfl) (by kernel_rfl) (by kernel_rfl) (by kernel_rfl) (by kernel_rfl) (by exact fun _ _ _ h => h) (Or.inr ⟨by rfl, rfl⟩) hS ?_
    try simp only [Act.put, List.setIfInBounds_toArray, List.set_cons_zero, List.set_cons_succ]
    refine AnyX.take (i := 24) (oi := _) (v := undef) (by rw [List.getElem?_toArray]; rfl) (by kernel_rfl) (by kernel_rfl) (by kernel_rfl) (by kernel_rfl) (by kernel_rfl) (by exact fun _ _ _ h => h) (Or.inr ⟨by rfl, rfl⟩) hS ?_
    try simp only [Act.put, List.setIfInBounds_toArray, List.set_cons_zero, List.set_cons_succ]
    refine AnyX.take (i := 25) (oi := _) (v := undef) (by rw [List.getElem?_toArray]; rfl) (by kernel_rfl) (by kernel_rfl) (by kernel_rfl) (by kernel_rfl) (by kernel_rfl) (by exact fun _ _ _ h => h) (Or.inr ⟨by rfl, rfl⟩) hS ?_
    try simp only [Act.put, List.setIfInBounds_toArray, List.set_cons_zero, List.set_cons_succ]
    refine AnyX.take (i := 26) (oi := _) (v := undef) (by rw [List.getElem?_toArray]; rfl) (by kernel_rfl) (by kernel_rfl) (by kernel_rfl) (by kernel_rfl) (by kernel_rfl) (by exact fun _ _ _ h => h) (Or.inr ⟨by rfl, rfl⟩) hS ?_
    try simp only [Act.put, List.setIfInBounds_toArray, List.set_cons_zero, List.set_cons_succ]
    refine AnyX.take (i := 27) (oi := _) (v := ?_) (by rw [List.getElem?_toArray]; rfl) (by kernel_rfl) (by kernel_rfl) (by kernel_rfl) (by kernel_rfl) (by kernel_rfl) (by exact fun _ _ _ h => h) (Or.inl ⟨by rfl, ?_⟩) hS ?_
    rotate_left
    · (intro wS hSw; (try dsimp only at hSw); go_simp; try with_reducible rfl)
    try simp only [Act.put, List.setIfInBounds_toArray, List.set_cons_zero, List.set_cons_succ]
    refine AnyX.only (i := 28) (o := _) (by kernel_rfl) (by rw [List.getElem?_toArray]; rfl) (fun K hK => ?_)
    try go_simp
    clear hS
    have hS : (fun w' => w'.cell? ⟨w.heap.size, 0, none⟩ = some (.string d) ∧ w'.cell? ⟨w.heap.size, 1, none⟩ = some (.string p) ∧ w'.cell? ⟨w.heap.size, 2, none⟩ = some (.int .i64 n) ∧ w'.cell? ⟨gb, off + A.length, none⟩ = some (.int .i64 (T : Nat))) w4 := ⟨R0.cells 0, R0.cells 1, R0.cells 2, last_cell hTT oE⟩
    refine hK.out _ _ (fun _ => hS) ?_
    clear hK K
    try simp only [Act.put, List.setIfInBounds_toArray, List.set_cons_zero, List.set_cons_succ]
    refine AnyX.done (by kernel_rfl) ?_ _
    (try clear hS)
    go_wp2_with fail
    go_ret
    exact ⟨ret_bool (by rw [hvp.out]; rw [hb3]; simp), hB⟩
  · rw [hb3] at hCn
    replace hCn := Lib.hid hCn
    refine AnyX.start (S := (fun w' => w'.cell? ⟨w.heap.size, 0, none⟩ = some (.string d) ∧ w'.cell? ⟨w.heap.size, 1, none⟩ = some (.string p) ∧ w'.cell? ⟨w.heap.size, 2, none⟩ = some (.int .i64 n) ∧ w'.cell? ⟨gb, off + A.length, none⟩ = some (.int .i64 (T : Nat)))) (X := (fun _ => false)) (by kernel_rfl) ?_
    have al : Below w2.heap.size w2 w2.drew := belowDrewN (Below.refl _ _) 1
    have hs_w5 := al.size
    replace R0 := R0.below al
    replace hT := hT.below al
    replace sE := sE.below (by decide) al
    replace oE := oE.below al
    replace hB := tr hB al (Nat.le_refl _)
    generalize w2.drew = w5 at *
    clear al
    have hS : (fun w' => w'.cell? ⟨w.heap.size, 0, none⟩ = some (.string d) ∧ w'.cell? ⟨w.heap.size, 1, none⟩ = some (.string p) ∧ w'.cell? ⟨w.heap.size, 2, none⟩ = some (.int .i64 n) ∧ w'.cell? ⟨gb, off + A.length, none⟩ = some (.int .i64 (T : Nat))) w5 := ⟨R0.cells 0, R0.cells 1, R0.cells 2, last_cell hTT oE⟩
    refine AnyX.take (i := 0) (oi := _) (v := ?_) (by rw [List.getElem?_toArray]; rfl) (by kernel_rfl) (by kernel_rfl) (by kernel_rfl) (by kernel_rfl) (by kernel_rfl) (by exact fun _ _ _ h => h) (Or.inl ⟨by rfl, ?_⟩) hS ?_
    rotate_left
    · (intro wS hSw; (try dsimp only at hSw); go_simp; try with_reducible rfl)
    try simp only [Act.put, List.setIfInBounds_toArray, List.set_cons_zero, List.set_cons_succ]
    refine AnyX.take (i := 1) (oi := _) (v := ?_) (by rw [List.getElem?_toArray]; rfl) (by kernel_rfl) (by kernel_rfl) (by kernel_rfl) (by kernel_rfl) (by kernel_rfl) (by exact fun _ _ _ h => h) (Or.inl ⟨by rfl, ?_⟩) hS ?_
    rotate_left
    · (intro wS hSw; (try dsimp only at hSw); go_simp; try with_reducible rfl)
    try simp only [Act.put, List.setIfInBounds_toArray, List.set_cons_zero, List.set_cons_succ]
    refine AnyX.take (i := 2) (oi := _) (v := ?_) (by rw [List.getElem?_toArray]; rfl) (by kernel_rfl) (by kernel_rfl) (by kernel_rfl) (by kernel_rfl) (by kernel_rfl) (by exact fun _ _ _ h => h) (Or.inl ⟨by rfl, ?_⟩) hS ?_
    rotate_left
    · (intro wS hSw; (try dsimp only at hSw); go_simp; try with_reducible rfl)
    try simp only [Act.put, List.setIfInBounds_toArray, List.set_cons_zero, List.set_cons_succ]
    refine AnyX.take (i := 3) (oi := _) (v := ?_) (by rw [List.getElem?_toArray]; rfl) (by kernel_rfl) (by kernel_rfl) (by kernel_rfl) (by kernel_rfl) (by kernel_rfl) (by exact fun _ _ _ h => h) (Or.inl ⟨by rfl, ?_⟩) hS ?_
    rotate_left
    · (intro wS hSw; (try dsimp only at hSw); go_simp; rw [hw3.out]; try with_reducible rfl)
    try simp only [Act.put, List.setIfInBounds_toArray, List.set_cons_zero, List.set_cons_succ]
    refine AnyX.take (i := 4) (oi := _) (v := ?_) (by rw [List.getElem?_toArray]; rfl) (by kernel_rfl) (by kernel_rfl) (by kernel_rfl) (by kernel_rfl) (by kernel_rfl) (by exact fun _ _ _ h => h) (Or.inl ⟨by rfl, ?_⟩) hS ?_
    rotate_left
    · (intro wS hSw; (try dsimp only at hSw); go_simp; rw [if_pos (by omega)]; try with_reducible rfl)
    try simp only [Act.put, List.setIfInBounds_toArray, List.set_cons_zero, List.set_cons_succ]
    refine AnyX.take (i := 5) (oi := _) (v := ?_) (by rw [List.getElem?_toArray]; rfl) (by kernel_rfl) (by kernel_rfl) (by kernel_rfl) (by kernel_rfl) (by kernel_rfl) (by exact fun _ _ _ h => h) (Or.inl ⟨by rfl, ?_⟩) hS ?_
    rotate_left
    · (intro wS hSw; (try dsimp only at hSw); go_simp; try with_reducible rfl)
    try simp only [Act.put, List.setIfInBounds_toArray, List.set_cons_zero, List.set_cons_succ]
    refine AnyX.take (i := 6) (oi := _) (v := ?_) (by rw [List.getElem?_toArray]; rfl) (by kernel_rfl) (by kernel_rfl) (by kernel_rfl) (by kernel_rfl) (by kernel_rfl) (by exact fun _ _ _ h => h) (Or.inl ⟨by rfl, ?_⟩) hS ?_
    rotate_left
    · (intro wS hSw; (try dsimp only at hSw); go_simp; try with_reducible rfl)
    try simp only [Act.put, List.setIfInBounds_toArray, List.set_cons_zero, List.set_cons_succ]
    refine AnyX.take (i := 7) (oi := _) (v := ?_) (by rw [List.getElem?_toArray]; rfl) (by kernel_rfl) (by kernel_rfl) (by kernel_rfl) (by kernel_rfl) (by kernel_rfl) (by exact fun _ _ _ h => h) (Or.inl ⟨by rfl, ?_⟩) hS ?_
    rotate_left
    · (intro wS hSw; (try dsimp only at hSw); go_simp; try with_reducible rfl)
    try simp only [Act.put, List.setIfInBounds_toArray, List.set_cons_zero, List.set_cons_succ]
    refine AnyX.take (i := 8) (oi := _) (v := ?_) (by rw [List.getElem?_toArray]; rfl) (by kernel_rfl) (by kernel_rfl) (by kernel_rfl) (by kernel_rfl) (by kernel_rfl) (by exact fun _ _ _ h => h) (Or.inl ⟨by rfl, ?_⟩) hS ?_
    rotate_left
    · (intro wS hSw; (try dsimp only at hSw); go_simp; try with_reducible rfl)
    try simp only [Act.put, List.setIfInBounds_toArray, List.set_cons_zero, List.set_cons_succ]
    refine AnyX.take (i := 9) (oi := _) (v := ?_) (by rw [List.getElem?_toArray]; rfl) (by kernel_rfl) (by kernel_rfl) (by kernel_rfl) (by kernel_rfl) (by kernel_rfl) (by exact fun _ _ _ h => h) (Or.inl ⟨by rfl, ?_⟩) hS ?_
    rotate_left
    · (intro wS hSw; (try dsimp only at hSw); go_simp; try with_reducible rfl)
    try simp only [Act.put, List.setIfInBounds_toArray, List.set_cons_zero, List.set_cons_succ]
    refine AnyX.take (i := 10) (oi := _) (v := ?_) (by rw [List.getElem?_toArray]; rfl) (by kernel_rfl) (by kernel_rfl) (by kernel_rfl) (by kernel_rfl) (by kernel_rfl) (by exact fun _ _ _ h => h) (Or.inl ⟨by rfl, ?_⟩) hS ?_
    rotate_left
    · (intro wS hSw; (try dsimp only at hSw); go_simp; try with_reducible rfl)
    try simp only [Act.put, List.setIfInBounds_toArray, List.set_cons_zero, List.set_cons_succ]
    refine AnyX.take (i := 11) (oi := _) (v := ?_) (by rw [List.getElem?_toArray]; rfl) (by kernel_rfl) (by kernel_rfl) (by kernel_rfl) (by kernel_rfl) (by kernel_rfl) (by exact fun _ _ _ h => h) (Or.inl ⟨by rfl, ?_⟩) hS ?_
    rotate_left
    · (intro wS hSw; (try dsimp only at hSw); go_simp; try with_reducible rfl)
    try simp only [Act.put, List.setIfInBounds_toArray, List.set_cons_zero, List.set_cons_succ]
    refine AnyX.take (i := 12) (oi := _) (v := ?_) (by rw [List.getElem?_toArray]; rfl) (by kernel_rfl) (by kernel_rfl) (by kernel_rfl) (by kernel_rfl) (by kernel_rfl) (by exact fun _ _ _ h => h) (Or.inl ⟨by rfl, ?_⟩) hS ?_
    rotate_left
    · (intro wS hSw; (try dsimp only at hSw); go_simp; rw [hw12.out]; try with_reducible rfl)
    try simp only [Act.put, List.setIfInBounds_toArray, List.set_cons_zero, List.set_cons_succ]
    refine AnyX.take (i := 13) (oi := _) (v := ?_) (by rw [List.getElem?_toArray]; rfl) (by kernel_rfl) (by kernel_rfl) (by kernel_rfl) (by kernel_rfl) (by kernel_rfl) (by exact fun _ _ _ h => h) (Or.inl ⟨by rfl, ?_⟩) hS ?_
    rotate_left
    · (intro wS hSw; (try dsimp only at hSw); go_simp; try with_reducible rfl)
    try simp only [Act.put, List.setIfInBounds_toArray, List.set_cons_zero, List.set_cons_succ]
    refine AnyX.take (i := 14) (oi := _) (v := ?_) (by rw [List.getElem?_toArray]; rfl) (by kernel_rfl) (by kernel_rfl) (by kernel_rfl) (by kernel_rfl) (by kernel_rfl) (by exact fun _ _ _ h => h) (Or.inl ⟨by rfl, ?_⟩) hS ?_
    rotate_left
    · (intro wS hSw; (try dsimp only at hSw); go_simp; try with_reducible rfl)
    try simp only [Act.put, List.setIfInBounds_toArray, List.set_cons_zero, List.set_cons_succ]
    refine AnyX.take (i := 15) (oi := _) (v := ?_) (by rw [List.getElem?_toArray]; rfl) (by kernel_rfl) (by kernel_rfl) (by kernel_rfl) (by kernel_rfl) (by kernel_rfl) (by exact fun _ _ _ h => h) (Or.inl ⟨by rfl, ?_⟩) hS ?_
    rotate_left
    · (intro wS hSw; (try dsimp only at hSw); go_simp; try with_reducible rfl)
    try simp only [Act.put, List.setIfInBounds_toArray, List.set_cons_zero, List.set_cons_succ]
    refine AnyX.take (i := 16) (oi := _) (v := ?_) (by rw [List.getElem?_toArray]; rfl) (by kernel_rfl) (by kernel_rfl) (by kernel_rfl) (by kernel_rfl) (by kernel_rfl) (by exact fun _ _ _ h => h) (Or.inl ⟨by rfl, ?_⟩) hS ?_
    rotate_left
    · (intro wS hSw; (try dsimp only at hSw); go_simp; try with_reducible rfl)
    try simp only [Act.put, List.setIfInBounds_toArray, List.set_cons_zero, List.set_cons_succ]
    refine AnyX.take (i := 17) (oi := _) (v := ?_) (by rw [List.getElem?_toArray]; rfl) (by kernel_rfl) (by kernel_rfl) (by kernel_rfl) (by kernel_rfl) (by kernel_rfl) (by exact fun _ _ _ h => h) (Or.inl ⟨by rfl, ?_⟩) hS ?_
    rotate_left
    · (intro wS hSw; (try dsimp only at hSw); go_simp; try with_reducible rfl)
    try simp only [Act.put, List.setIfInBounds_toArray, List.set_cons_zero, List.set_cons_succ]
    refine AnyX.take (i := 18) (oi := _) (v := ?_) (by rw [List.getElem?_toArray]; rfl) (by kernel_rfl) (by kernel_rfl) (by kernel_rfl) (by kernel_rfl) (by kernel_rfl) (by exact fun _ _ _ h => h) (Or.inl ⟨by rfl, ?_⟩) hS ?_
    rotate_left
    · (intro wS hSw; (try dsimp only at hSw); go_simp; try with_reducible rfl)
    try simp only [Act.put, List.setIfInBounds_toArray, List.set_cons_zero, List.set_cons_succ]
    refine AnyX.only (i := 19) (o := _) (by kernel_rfl) (by rw [List.getElem?_toArray]; rfl) (fun K hK => ?_)
    go_simp
    go_at_call 78
    refine (hCn.out _ _ sE).mono ?_
    rintro e w' ⟨rfl, rfl⟩
    clear hS
    have hS : (fun w' => w'.cell? ⟨w.heap.size, 0, none⟩ = some (.string d) ∧ w'.cell? ⟨w.heap.size, 1, none⟩ = some (.string p) ∧ w'.cell? ⟨w.heap.size, 2, none⟩ = some (.int .i64 n) ∧ w'.cell? ⟨gb, off + A.length, none⟩ = some (.int .i64 (T : Nat))) w5 := ⟨R0.cells 0, R0.cells 1, R0.cells 2, last_cell hTT oE⟩
    refine hK.out _ _ (fun _ => hS) ?_
    clear hK K
    try simp only [Act.put, List.setIfInBounds_toArray, List.set_cons_zero, List.set_cons_succ]
    refine AnyX.take (i := 20) (oi := _) (v := ?_) (by rw [List.getElem?_toArray]; rfl) (by kernel_rfl) (by kernel_rfl) (by kernel_rfl) (by kernel_rfl) (by kernel_rfl) (by exact fun _ _ _ h => h) (Or.inl ⟨by rfl, ?_⟩) hS ?_
    rotate_left
    · (intro wS hSw; (try dsimp only at hSw); go_simp; try with_reducible rfl)
    try simp only [Act.put, List.setIfInBounds_toArray, List.set_cons_zero, List.set_cons_succ]
    refine AnyX.take (i := 21) (oi := _) (v := ?_) (by rw [List.getElem?_toArray]; rfl) (by kernel_rfl) (by kernel_rfl) (by kernel_rfl) (by kernel_rfl) (by kernel_rfl) (by exact fun _ _ _ h => h) (Or.inl ⟨by rfl, ?_⟩) hS ?_
    rotate_left
    · (intro wS hSw; (try dsimp only at hSw); go_simp; try with_reducible rfl)
    try simp only [Act.put, List.setIfInBounds_toArray, List.set_cons_zero, List.set_cons_succ]
    refine AnyX.take (i := 22) (oi := _) (v := ?_) (by rw [List.getElem?_toArray]; rfl) (by kernel_rfl) (by kernel_rfl) (by kernel_rfl) (by kernel_rfl) (by kernel_rfl) (by exact fun _ _ _ h => h) (Or.inl ⟨by rfl, ?_⟩) hS ?_
    rotate_left
    · (intro wS hSw; (try dsimp only at hSw); go_simp; try with_reducible rfl)
    try simp only [Act.put, List.setIfInBounds_toArray, List.set_cons_zero, List.set_cons_succ]
    refine AnyX.take (i := 23) (oi := _) (v := ?_) (by rw [List.getElem?_toArray]; rfl) (by kernel_rfl) (by kernel_rfl) (by kernel_rfl) (by kernel_rfl) (by kernel_rfl) (by exact fun _ _ _ h => h) (Or.inl ⟨by rfl, ?_⟩) hS ?_
    rotate_left
    · (intro wS hSw; (try dsimp only at hSw); go_simp; try with_reducible rfl)
    try simp only [Act.put, List.setIfInBounds_toArray, List.set_cons_zero, List.set_cons_succ]
    refine AnyX.take (i := 24) (oi := _) (v := ?_) (by rw [List.getElem?_toArray]; rfl) (by kernel_rfl) (by kernel_rfl) (by kernel_rfl) (by kernel_rfl) (by kernel_rfl) (by exact fun _ _ _ h => h) (Or.inl ⟨by rfl, ?_⟩) hS ?_
    rotate_left
    · (intro wS hSw; (try dsimp only at hSw); go_simp; try with_reducible rfl)
    try simp only [Act.put, List.setIfInBounds_toArray, List.set_cons_zero, List.set_cons_succ]
    refine AnyX.take (i := 25) (oi := _) (v := ?_) (by rw [List.getElem?_toArray]; rfl) (by kernel_rfl) (by kernel_rfl) (by kernel_rfl) (by kernel_rfl) (by kernel_rfl) (by exact fun _ _ _ h => h) (Or.inl ⟨by rfl, ?_⟩) hS ?_
    rotate_left
    · (intro wS hSw; (try dsimp only at hSw); go_simp; try with_reducible rfl)
    try simp only [Act.put, List.setIfInBounds_toArray, List.set_cons_zero, List.set_cons_succ]
    refine AnyX.take (i := 26) (oi := _) (v := ?_) (by rw [List.getElem?_toArray]; rfl) (by kernel_rfl) (by kernel_rfl) (by kernel_rfl) (by kernel_rfl) (by kernel_rfl) (by exact fun _ _ _ h => h) (Or.inl ⟨by rfl, ?_⟩) hS ?_
    rotate_left
    · (intro wS hSw; (try dsimp only at hSw); go_simp; try with_reducible rfl)
    try simp only [Act.put, List.setIfInBounds_toArray, List.set_cons_zero, List.set_cons_succ]
    refine AnyX.take (i := 27) (oi := _) (v := ?_) (by rw [List.getElem?_toArray]; rfl) (by kernel_rfl) (by kernel_rfl) (by kernel_rfl) (by kernel_rfl) (by kernel_rfl) (by exact fun _ _ _ h => h) (Or.inl ⟨by rfl, ?_⟩) hS ?_
    rotate_left
    · (intro wS hSw; (try dsimp only at hSw); go_simp; try with_reducible rfl)
    try simp only [Act.put, List.setIfInBounds_toArray, List.set_cons_zero, List.set_cons_succ]
    refine AnyX.only (i := 28) (o := _) (by kernel_rfl) (by rw [List.getElem?_toArray]; rfl) (fun K hK => ?_)
    try go_simp
    clear hS
    have hS : (fun w' => w'.cell? ⟨w.heap.size, 0, none⟩ = some (.string d) ∧ w'.cell? ⟨w.heap.size, 1, none⟩ = some (.string p) ∧ w'.cell? ⟨w.heap.size, 2, none⟩ = some (.int .i64 n) ∧ w'.cell? ⟨gb, off + A.length, none⟩ = some (.int .i64 (T : Nat))) w5 := ⟨R0.cells 0, R0.cells 1, R0.cells 2, last_cell hTT oE⟩
    refine hK.out _ _ (fun _ => hS) ?_
    clear hK K
    try simp only [Act.put, List.setIfInBounds_toArray, List.set_cons_zero, List.set_cons_succ]
    refine AnyX.done (by kernel_rfl) ?_ _
    (try clear hS)
    go_wp2_with fail
    go_ret
    exact ⟨ret_bool (by rw [hvp.out]; rw [hb3, decide_eq_true hb2.out, Bool.eq_iff_iff]; simp), hB⟩
end Go.Proofs.YtccmhdheoeglmaaGreatDoor.Lg
/- Walks: the reference's l27Log, and IsValidLog of both. -/
namespace Go.Proofs.YtccmhdheoeglmaaGreatDoor.Lg
open Go.RowKit
/-- what the walk needs of l27Open, under letters -/
def POpenT (A : List LogRecord) (T : Nat) (w : World) (e : Ending) (w' : World) : Prop :=
  ∃ u0 G0, e = .returned (.tuple #[u0, .int .i64 (T : Nat)]) ∧ Ow ELogRecord 179 w' u0 A G0 ∧ G0.Nodup ∧ (∀ b ∈ G0, w.heap.size ≤ b) ∧ Below w.heap.size w w'
set_option maxHeartbeats 1600000 in
set_option maxRecDepth 100000 in
theorem l27Log_c (d p : ByteArray) (n : Int) (w : World) (hz : d.size + p.size ≤ 1048576) :
    Calls Tryz.prog 70 #[.agg #[.string d, .string p, .int .i64 n]] w fun e w' => e = .returned (.bool (validR d.data.toList p.data.toList n)) ∧ Below w.heap.size w w' := by
  have hsm := (opened_small (d.data.toList ++ p.data.toList)).2
  have hsm1 := (opened_small (d.data.toList ++ p.data.toList)).1
  have hsm2 := (opened_small d.data.toList).1
  have hvp : validR d.data.toList p.data.toList n = (decide (d.size + p.size ≤ 30000) && (decide ((opened (d.data.toList ++ p.data.toList)).flatten.length = d.size + p.size) && decide ((opened d.data.toList).flatten.length = d.size) && decide (((opened (d.data.toList ++ p.data.toList)).length : Int) = n))) := by
    unfold validR; simp only [size_list]
  replace hvp := Lib.hid hvp
  by_cases h3 : d.size + p.size ≤ 30000
  · have hO1 : ∀ w, Calls Tryz.prog 110 #[.string (d ++ p)] w (POpenT ((opened (d.data.toList ++ p.data.toList)).map recL) ((opened (d.data.toList ++ p.data.toList)).flatten.length) w) := fun w => by
      have := l27Open_c (d ++ p) w (by simp; omega)
      unfold POpen at this; rw [app_list] at this; exact this
    have hO2 : ∀ w, Calls Tryz.prog 110 #[.string d] w (POpenT ((opened d.data.toList).map recL) ((opened d.data.toList).flatten.length) w) := fun w => l27Open_c d w (by omega)
    have hlen : ((opened (d.data.toList ++ p.data.toList)).map recL).length = (opened (d.data.toList ++ p.data.toList)).length := by simp
    generalize (opened (d.data.toList ++ p.data.toList)).map recL = A at *
    generalize (opened (d.data.toList ++ p.data.toList)).flatten.length = T at *
    generalize (opened (d.data.toList ++ p.data.toList)).length = K at *
    generalize (opened d.data.toList).map recL = A2 at *
    generalize (opened d.data.toList).flatten.length = T2 at *
    replace hO1 := Lib.hid hO1; replace hO2 := Lib.hid hO2; replace hlen := Lib.hid hlen
    have hfin : ∀ b : Bool, b = (decide (T = d.size + p.size) && decide (T2 = d.size) && decide ((K : Int) = n)) → Hid (b = validR d.data.toList p.data.toList n) := fun b h => Lib.hid (by rw [h, hvp.out, decide_eq_true h3]; rfl)
    replace hfin := Lib.hid hfin
    clear hvp
    have R0 := Row.made w 39 [.string d, .string p, .int .i64 n]
    have hB : Below w.heap.size w (w.alloc (.cells #[.string d, .string p, .int .i64 n] 39)) := (Below.refl _ _).alloc (Nat.le_refl _) _
    go_enter Tryz.func70, Tryz.ntmps70
    go_wp2_with fail
    refine (hO1.out _).mono ?_
    rintro e w2 ⟨u0, G0, rfl, o0, -, -, hb⟩
    obtain ⟨a, c, rfl⟩ := o0.slice
    rw [hlen.out]
    replace R0 := R0.below hb
    replace hB := hB.trans (hb.mono (by simp))
    have hs2 := hB.size
    clear hb o0
    have c_R0 := R0.cells; have f_R0 := R0.frozens
    go_wp2_with fail
    clear c_R0 f_R0
    refine (hO2.out _).mono ?_
    rintro e w3 ⟨u1, G1, rfl, o1, -, -, hb⟩
    replace R0 := R0.below hb
    replace hB := hB.trans (hb.mono (by omega))
    clear hb o1
    cases hb1 : ((T : Int) == ((d.size : Int) + (p.size : Int)))
    · have hb2 : ¬ T = d.size + p.size := by intro e; rw [e] at hb1; simp at hb1
      have hr := hfin.out false (by rw [decide_eq_false hb2]; rfl)
      clear hb2
      have c_R0 := R0.cells; have f_R0 := R0.frozens
      go_wp2_with fail
      clear c_R0 f_R0
      go_ret
      exact ⟨ret_bool hr.out, hB⟩
    · have hb2 : T = d.size + p.size := by have := eq_of_beq hb1; omega
      cases hb3 : ((T2 : Int) == (d.size : Int))
      · have hb4 : ¬ T2 = d.size := by intro e; rw [e] at hb3; simp at hb3
        have hr := hfin.out false (by rw [decide_eq_false hb4, Bool.and_false]; rfl)
        clear hb4 hb2
        have c_R0 := R0.cells; have f_R0 := R0.frozens
        go_wp2_with fail
        clear c_R0 f_R0
        go_ret
        exact ⟨ret_bool hr.out, hB⟩
      · have hb4 : T2 = d.size := by have := eq_of_beq hb3; omega
        have hr := hfin.out ((K : Int) == n) (by rw [decide_eq_true hb2, decide_eq_true hb4, Bool.eq_iff_iff]; simp)
        clear hb4 hb2
        have c_R0 := R0.cells; have f_R0 := R0.frozens
        go_wp2_with fail
        clear c_R0 f_R0
        go_ret
        exact ⟨ret_bool hr.out, hB⟩
  · have hr := Lib.hid (show false = validR d.data.toList p.data.toList n from by rw [hvp.out, decide_eq_false h3]; rfl)
    clear hvp hsm hsm1 hsm2
    have R0 := Row.made w 39 [.string d, .string p, .int .i64 n]
    have hB : Below w.heap.size w (w.alloc (.cells #[.string d, .string p, .int .i64 n] 39)) := (Below.refl _ _).alloc (Nat.le_refl _) _
    go_enter Tryz.func70, Tryz.ntmps70
    go_wp2_with fail
    go_ret
    exact ⟨ret_bool hr.out, hB⟩
end Go.Proofs.YtccmhdheoeglmaaGreatDoor.Lg
/- Structs of type Console in a walk's state: opened, closed. -/
namespace Go.Proofs.YtccmhdheoeglmaaGreatDoor
open Go.RowKit
section
variable {c : Cx} {fr : Fr} {H : List Pc} {Φ : Gl}
theorem openConsole {v : Value} {x : Console} {F : List Nat} (h : ∀ (a1 : Option Addr) (c1 : Nat) (F1 : List Nat) (a2 : Option Addr) (c2 : Nat) (F2 : List Nat) (a3 : Option Addr) (c3 : Nat) (F3 : List Nat) (a4 : Option Addr) (c4 : Nat) (F4 : List Nat) (a5 : Option Addr) (c5 : Nat) (F5 : List Nat) (a6 : Option Addr) (c6 : Nat) (F6 : List Nat) (a7 : Option Addr) (c7 : Nat) (F7 : List Nat), v = .agg #[.slice a1 x.net.tree.parent.length c1, .int .i64 x.net.source.window.trail, .int .i64 x.net.source.window.size, .slice a2 x.net.source.window.items.length c2, .int .i64 x.net.source.clock, .int .i64 x.net.source.quiet, .slice a3 x.net.source.holds.length c3, .slice a4 x.net.elements.length c4, .slice a5 x.net.receivers.length c5, .slice a6 x.net.down.length c6, .slice a7 x.net.up.length c7, .string x.log.durable, .string x.log.pending, .int .i64 x.log.count] → x.log.durable.size ≤ maxLen → x.log.pending.size ≤ maxLen → x.net.tree.parent.length ≤ maxLen → x.net.source.window.items.length ≤ maxLen → x.net.source.holds.length ≤ maxLen → x.net.elements.length ≤ maxLen → x.net.receivers.length ≤ maxLen → x.net.down.length ≤ maxLen → x.net.up.length ≤ maxLen → T c fr (.sl EInt (.slice a1 x.net.tree.parent.length c1) x.net.tree.parent F1 :: .sl EStr (.slice a2 x.net.source.window.items.length c2) x.net.source.window.items F2 :: .sl EHold (.slice a3 x.net.source.holds.length c3) x.net.source.holds F3 :: .sl EElement (.slice a4 x.net.elements.length c4) x.net.elements F4 :: .sl EReceiver (.slice a5 x.net.receivers.length c5) x.net.receivers F5 :: .sl (ESl EPacket (by decide)) (.slice a6 x.net.down.length c6) x.net.down F6 :: .sl (ESl EPacket (by decide)) (.slice a7 x.net.up.length c7) x.net.up F7 :: H) Φ) (hm : .isv EConsole v x F ∈ H := by (repeat (first | exact .head _ | apply List.Mem.tail)); first | done | fail) : T c fr H Φ := .mk fun a w s g => by
  obtain ⟨cs, rfl, v1, v2, v3, v4, v5, v6, v7, G1, G2, G3, G4, G5, G6, G7, rfl, s1, s2, h1, h2, h3, h4, h5, h6, h7, rfl⟩ := s.get hm
  obtain ⟨a1, c1, rfl⟩ := h1.slice; have l1 := h1.len
  obtain ⟨a2, c2, rfl⟩ := h2.slice; have l2 := h2.len
  obtain ⟨a3, c3, rfl⟩ := h3.slice; have l3 := h3.len
  obtain ⟨a4, c4, rfl⟩ := h4.slice; have l4 := h4.len
  obtain ⟨a5, c5, rfl⟩ := h5.slice; have l5 := h5.len
  obtain ⟨a6, c6, rfl⟩ := h6.slice; have l6 := h6.len
  obtain ⟨a7, c7, rfl⟩ := h7.slice; have l7 := h7.len
  have t7 := s.ro (p := .sl (ESl EPacket (by decide)) (.slice a7 x.net.up.length c7) x.net.up G7) hm rfl rfl ⟨by decide, h7⟩ (by intro b hb; simp only [Pc.F] at hb ⊢; simp [hb])
  have t6 := t7.ro (p := .sl (ESl EPacket (by decide)) (.slice a6 x.net.down.length c6) x.net.down G6) (List.mem_cons_of_mem _ hm) rfl rfl ⟨by decide, h6⟩ (by intro b hb; simp only [Pc.F] at hb ⊢; simp [hb])
  have t5 := t6.ro (p := .sl EReceiver (.slice a5 x.net.receivers.length c5) x.net.receivers G5) (List.mem_cons_of_mem _ (List.mem_cons_of_mem _ hm)) rfl rfl ⟨by decide, h5⟩ (by intro b hb; simp only [Pc.F] at hb ⊢; simp [hb])
  have t4 := t5.ro (p := .sl EElement (.slice a4 x.net.elements.length c4) x.net.elements G4) (List.mem_cons_of_mem _ (List.mem_cons_of_mem _ (List.mem_cons_of_mem _ hm))) rfl rfl ⟨by decide, h4⟩ (by intro b hb; simp only [Pc.F] at hb ⊢; simp [hb])
  have t3 := t4.ro (p := .sl EHold (.slice a3 x.net.source.holds.length c3) x.net.source.holds G3) (List.mem_cons_of_mem _ (List.mem_cons_of_mem _ (List.mem_cons_of_mem _ (List.mem_cons_of_mem _ hm)))) rfl rfl ⟨by decide, h3⟩ (by intro b hb; simp only [Pc.F] at hb ⊢; simp [hb])
  have t2 := t3.ro (p := .sl EStr (.slice a2 x.net.source.window.items.length c2) x.net.source.window.items G2) (List.mem_cons_of_mem _ (List.mem_cons_of_mem _ (List.mem_cons_of_mem _ (List.mem_cons_of_mem _ (List.mem_cons_of_mem _ hm))))) rfl rfl ⟨by decide, h2⟩ (by intro b hb; simp only [Pc.F] at hb ⊢; simp [hb])
  have t1 := t2.ro (p := .sl EInt (.slice a1 x.net.tree.parent.length c1) x.net.tree.parent G1) (List.mem_cons_of_mem _ (List.mem_cons_of_mem _ (List.mem_cons_of_mem _ (List.mem_cons_of_mem _ (List.mem_cons_of_mem _ (List.mem_cons_of_mem _ hm)))))) rfl rfl ⟨by decide, h1⟩ (by intro b hb; simp only [Pc.F] at hb ⊢; simp [hb])
  exact (h a1 c1 G1 a2 c2 G2 a3 c3 G3 a4 c4 G4 a5 c5 G5 a6 c6 G6 a7 c7 G7 rfl s1 s2 l1 l2 l3 l4 l5 l6 l7).h a w t1 g
end
end Go.Proofs.YtccmhdheoeglmaaGreatDoor
/- The steps of the exact laws' walks, as one word. -/
namespace Go.Proofs.YtccmhdheoeglmaaGreatDoor
open Go.RowKit
/-- the steps of an exact law -/
theorem goL {X : Prop} {c : Cx} {fr : Fr} {H : List Pc} {Φ : Gl} (h : X) (hs : Kp X → T c fr H Φ := by intro hX; (repeat (first | apply c_seq | apply c_reg | (apply wO; apply oc; rfl; exact ydE) | (apply wO; apply oc; rfl; apply yd_ldw; rfl; exact memE; assumption) | apply w_nil | apply n_cd | (apply wg_t; rfl; rfl) | (apply wg_f; rfl; rfl; rfl; rfl) | (apply wg_u; rfl; rfl; rfl) | (apply c_t; rfl) | (apply c_f; rfl) | apply c_skip | apply c_block | apply n_blk | apply c_exit | apply e_hit | apply e_cd | apply e_lp | (apply e_miss; rfl) | apply c_ret | (apply wO; apply o_boxX; rfl; rfl; rfl; exact hX; clear hX; intro _ hX) | (apply wO; apply o_allocX; rfl; exact hX; clear hX; intro _ hX) | (apply wO; apply o_st; rfl; rfl; rfl; (first | exact AggC.s | exact OneC.s); rfl; exact rplE; exact putE; rfl) | (apply wO; apply o_stw; rfl; rfl; exact AggC.s; exact rplE; assumption; rfl; assumption) | (apply wO; apply o_call; rfl; kernel_rfl; exact evsE) | (refine c_if rfl (fun h => absurd h (by first | omega | simp)) (fun h => ?_); clear h) | (refine wg_if rfl rfl (fun h => absurd h (by first | omega | simp)) (fun h => ?_); clear h))); exact hX.h) : T c fr H Φ := hs ⟨h⟩
end Go.Proofs.YtccmhdheoeglmaaGreatDoor
/- Consoles: which are valid; the program and the reference. -/
namespace Go.Proofs.YtccmhdheoeglmaaGreatDoor
open Go.RowKit
def goodCon (x : Console) : Bool := goodNet x.net && validR x.log.durable.data.toList x.log.pending.data.toList x.log.count
theorem tab_env {FT : List Nat} {w : World} (h : (EnvP FT).P w) : IsV Lg.ETab w (.agg #[]) () [0] := by
  have ht := (EnvP.env h).1
  have hc := Lib.TabIs.cell ht (g := 0) (by kernel_rfl) 0 (by rw [Lib.pow10Tab_length]; omega)
  exact ⟨[], rfl, rfl, ht, rfl, World.block_lt_of_cell? w ⟨0, 0, none⟩ hc⟩
set_option maxRecDepth 100000 in
theorem IsValidConsole_f (x : Console) (v : Value) (F FT : List Nat) (hz : x.log.durable.size + x.log.pending.size ≤ 1048576) : Fn Tryz.prog 18 [v] [.isv EConsole v x F, EnvP FT] [] (fun (_ : Unit) => True) (fun _ => .bool (goodCon x)) (fun _ => []) := by
  refine enter Tryz.func18 rfl Tryz.ntmps18 fun w0 => ?_
  refine openConsole ?_
  rintro a1 c1 F1 a2 c2 F2 a3 c3 F3 a4 c4 F4 a5 c5 F5 a6 c6 F6 a7 c7 F7 rfl s1 s2 l1 l2 l3 l4 l5 l6 l7
  refine closeNet x.net ?_
  generalize hFN : F1 ++ F2 ++ F3 ++ F4 ++ F5 ++ F6 ++ F7 = FN
  refine go ?_; intros
  refine cf (IsValidNet_f x.net _ FN) fun _ _ => ?_
  refine t_app ?_
  unfold goodCon
  cases g1 : goodNet x.net
  · refine go ?_; intros
    refine ret () trivial rfl
  refine go ?_; intros
  refine cb (fun w st => Lg.IsValidLog_v x.log.durable x.log.pending x.log.count _ w hz (tab_env (FT := FT) (st.get (p := EnvP FT) (by exact memE)))) ?_
  refine go ?_; intros
  refine ret () trivial rfl
set_option maxRecDepth 100000 in
theorem l28Good_f (x : Console) (v : Value) (F : List Nat) (hz : x.log.durable.size + x.log.pending.size ≤ 1048576) : Fn Tryz.prog 33 [v] [.isv EConsole v x F] [] (fun (_ : Unit) => True) (fun _ => .bool (goodCon x)) (fun _ => []) := by
  refine enter Tryz.func33 rfl Tryz.ntmps33 fun w0 => ?_
  refine openConsole ?_
  rintro a1 c1 F1 a2 c2 F2 a3 c3 F3 a4 c4 F4 a5 c5 F5 a6 c6 F6 a7 c7 F7 rfl s1 s2 l1 l2 l3 l4 l5 l6 l7
  refine closeNet x.net ?_
  generalize hFN : F1 ++ F2 ++ F3 ++ F4 ++ F5 ++ F6 ++ F7 = FN
  refine go ?_; intros
  refine cf (l15Good_f x.net _ FN) fun _ _ => ?_
  refine t_app ?_
  unfold goodCon
  cases g1 : goodNet x.net
  · refine go ?_; intros
    refine ret () trivial rfl
  refine go ?_; intros
  refine cb (fun w st => Lg.l27Log_c x.log.durable x.log.pending x.log.count w hz) ?_
  refine go ?_; intros
  refine ret () trivial rfl
end Go.Proofs.YtccmhdheoeglmaaGreatDoor
/- Numbers with a text between them: joinInts. -/
namespace Go.Proofs.YtccmhdheoeglmaaGreatDoor
open Go.RowKit
theorem sl_cells {w : World} {a : Option Addr} {n cp : Nat} {xs : List ByteArray} {F : List Nat} (h : (Pc.sl EStr (.slice a n cp) xs F).P w) (h0 : 0 < xs.length) : ∃ b o, a = some ⟨b, o, none⟩ ∧ n = xs.length ∧ xs.length ≤ cp ∧ b < w.heap.size ∧ ∀ (j : Nat) x, xs[j]? = some x → w.cell? ⟨b, o + j, none⟩ = some (.string x) := by
  have hlt := h.2.lt
  obtain ⟨hz, a', cap, hv, hl, h | ⟨b, o, F', rfl, hne, rfl, hc⟩⟩ := h
  · rw [h.1] at h0; simp at h0
  · simp only [Value.slice.injEq] at hv
    obtain ⟨rfl, rfl, rfl⟩ := hv
    refine ⟨b, o, rfl, rfl, hl.1, hlt (by decide) b (by simp), fun j x hj => ?_⟩
    obtain ⟨hj1, rfl⟩ := List.getElem?_eq_some_iff.1 hj
    obtain ⟨cs, F1, ⟨rfl, -, -⟩, h2, -⟩ := hc.get j hj1
    have := h2 0 (by decide)
    simpa [EStr] using this
theorem join_c (xs : List ByteArray) (sep : ByteArray) (a : Option Addr) (cp : Nat) (F : List Nat) (w : World) (h : (Pc.sl EStr (.slice a xs.length cp) xs F).P w) (h0 : 0 < xs.length) (hN : xs.length ≤ 1000000000) (hlen : (Lib.join (xs.map (·.data.toList)) sep.data.toList).length ≤ 1000000000) :
    Calls Tryz.prog 80 #[.slice a xs.length cp, .string sep] w fun e w' => e = .returned (.string (bz (Lib.join (xs.map (·.data.toList)) sep.data.toList))) ∧ Below w.heap.size w w' := by
  obtain ⟨b, o, rfl, -, hcap, hb, hc⟩ := sl_cells h h0
  exact Tryz.strings_Join b o cp xs sep w hc hb (by omega) hcap (by omega)
theorem made_s (n : Nat) : madeCells (Value.string ⟨#[]⟩).cells (n * 1) = (List.replicate n (Value.string ⟨#[]⟩)).toArray := by
  rw [Nat.mul_one]
  apply Array.ext
  · simp [madeCells]
  · intro i h1 h2
    simp [madeCells, Value.cells, Nat.mod_one]
theorem flat_rep (w : World) : ∀ n : Nat, Flat EStr w (List.replicate n (Value.string ⟨#[]⟩)) (List.replicate n ⟨#[]⟩) []
  | 0 => ⟨rfl, rfl⟩
  | n + 1 => ⟨[.string ⟨#[]⟩], List.replicate n (Value.string ⟨#[]⟩), [], [], by simp [List.replicate_succ], by simp, ⟨rfl, Nat.zero_le _, rfl⟩, flat_rep w n⟩
def itB (f : Int) : ByteArray := bz (Lib.itoa f)
def zsJ (l : List Int) (k : Nat) : List ByteArray := (l.take k).map itB ++ List.replicate (l.length - k) ⟨#[]⟩
theorem zsJ_len {l : List Int} {k : Nat} (h : k ≤ l.length) : (zsJ l k).length = l.length := by unfold zsJ; simp; omega
theorem zsJ_set {l : List Int} {k : Nat} (h : k < l.length) : (zsJ l k).set k (itB l[k]) = zsJ l (k + 1) := by
  unfold zsJ
  have e : List.replicate (l.length - k) (⟨#[]⟩ : ByteArray) = ⟨#[]⟩ :: List.replicate (l.length - (k + 1)) ⟨#[]⟩ := by rw [show l.length - k = (l.length - (k + 1)) + 1 by omega, List.replicate_succ]
  have hl : ((l.take k).map itB).length = k := by rw [List.length_map, List.length_take]; omega
  rw [e, List.set_append_right _ _ (by omega), hl, Nat.sub_self, List.set_cons_zero, List.take_succ_eq_append_getElem h, List.map_append]
  simp only [List.map_cons, List.map_nil, List.append_assoc, List.cons_append, List.nil_append]

theorem itB_list (l : List Int) : (l.map itB).map (·.data.toList) = l.map Lib.itoa := by
  rw [List.map_map]; exact List.map_congr_left fun x _ => by simp [itB, bz_list]
theorem joinG_c (l : List Int) (g : Nat) (F : List Nat) (w : World) (hf : ∀ f ∈ l, 0 ≤ f ∧ f.natAbs < 10 ^ (4 + 1)) (h0 : 0 < l.length) (h7 : l.length ≤ 1000) (h : (Pc.sl EStr (.slice (some ⟨g, 0, none⟩) l.length l.length) (l.map itB) F).P w) :
    Calls Tryz.prog 80 #[.slice (some ⟨g, 0, none⟩) l.length l.length, .string ⟨#[32]⟩] w fun e w' => e = .returned (.string (bz (jn l))) ∧ Below w.heap.size w w' := by
  have hml : (l.map itB).length = l.length := List.length_map ..
  have hd : (⟨#[32]⟩ : ByteArray).data.toList = [32] := rfl
  have hj := jn_len (k := 4) hf
  have := join_c (l.map itB) ⟨#[32]⟩ (some ⟨g, 0, none⟩) l.length F w (by rw [hml]; exact h) (by omega) (by omega) (by rw [hd, itB_list]; unfold jn at hj; omega)
  rw [hml, hd, itB_list] at this
  exact this
set_option maxRecDepth 100000 in
theorem joinI_f (l : List Int) (a : Option Addr) (c : Nat) (F FT : List Nat) (hf : ∀ f ∈ l, 0 ≤ f ∧ f.natAbs < 10 ^ (4 + 1)) (h0 : 0 < l.length) (h7 : l.length ≤ 1000) : Fn Tryz.prog 42 [.slice a l.length c, .string ⟨#[32]⟩] [.sl EInt (.slice a l.length c) l F, EnvP FT] [] (fun (_ : Unit) => True) (fun _ => .string (bz (jn l))) (fun _ => []) := by
  refine enter Tryz.func42 rfl Tryz.ntmps42 fun w0 => ?_
  refine go ?_; intros
  apply wO
  refine o_ms l.length (cs := List.replicate l.length (.string ⟨#[]⟩)) rfl rfl rfl (made_s _) (by omega) (by omega) fun g => ?_
  refine t_row (E := EStr) (xs := List.replicate l.length ⟨#[]⟩) (fun w => flat_rep w _) ?_ (by rw [List.length_replicate]; omega)
  rw [List.length_replicate, show List.replicate l.length (⟨#[]⟩ : ByteArray) = zsJ l 0 by unfold zsJ; simp]
  refine go ?_; intros
  refine c_loopS [1, 4, 5, 11, 12] (fun k : Nat => [(13, .int .i64 (k : Nat))]) (fun k => [.ow EStr 9 (.slice (some ⟨g, 0, none⟩) l.length l.length) (zsJ l k) [g]]) (fun k => k ≤ l.length) (fun k => l.length - k) 0 (Nat.zero_le _) fun k hk => ?_
  have hzl := zsJ_len hk
  refine go ?_; intros
  refine c_if rfl (fun h1 => ?_) (fun h1 => ?_)
  · have hk1 : k < l.length := by omega
    have hfk := hf _ (List.getElem_mem hk1)
    refine at_int (xs := l) k ?_
    rintro hi b o e1
    rw [e1]
    refine go ?_; intros
    refine cb (fun w st => itoa_c l[k] (by omega) (by omega) FT w (st.get (p := EnvP FT) (by simp))) ?_
    refine focF (m := 1) scal_EStr k ?_ (by repeat (first | exact .here | apply Pick.there)) rfl (by omega)
    rintro _ g2 A cs B e2 - hr hH
    cases e2
    obtain ⟨rfl, -⟩ := hr w0
    refine go ?_; intros
    refine unfF (itB l[k]) hH (fun w => ⟨rfl, by rw [itB, bz_size, itoa_nt hfk.1]; have := digit_len 4 l[k].natAbs hfk.2; unfold maxLen; omega, rfl⟩) ?_
    rw [zsJ_set hk1]
    refine go ?_; intros
    refine n_lp (k + 1) hk1 (by omega)
  · have hk1 : k = l.length := by omega
    subst hk1
    rw [show zsJ l l.length = l.map itB by unfold zsJ; simp]
    have hml : (l.map itB).length = l.length := List.length_map ..
    refine t_read (E := EStr) (xs := l.map itB) fun F8 => ?_
    refine go ?_; intros
    refine cb (fun w st => joinG_c l g F8 w hf h0 h7 (st.get (p := .sl EStr (.slice (some ⟨g, 0, none⟩) l.length l.length) (l.map itB) F8) (by simp))) ?_
    refine go ?_; intros
    refine ret () trivial rfl
end Go.Proofs.YtccmhdheoeglmaaGreatDoor
/- Trees: leaves, texts; both sides. -/
namespace Go.Proofs.YtccmhdheoeglmaaGreatDoor
open Go.RowKit
set_option maxRecDepth 100000 in
theorem leaves_f (t : Tree) (v : Value) (F : List Nat) (hl : t.parent.length ≤ 1000000) : Fn Tryz.prog 44 [v] [.isv ETree v t F] [] (fun (_ : KiS) => True) (fun z => .slice z.a (lvs t.parent).length z.c) (fun z => [.ow EInt 3 (.slice z.a (lvs t.parent).length z.c) (lvs t.parent) z.F]) := by
  refine enter Tryz.func44 rfl Tryz.ntmps44 fun w0 => ?_
  refine openTree ?_
  rintro a1 c1 F1 rfl l1
  refine t_nilow EInt 3 ?_
  refine go ?_; intros
  refine c_loopS [1, 2, 7] (fun z : KiS => [(3, .slice z.a (lvsTo t.parent z.k).length z.c), (8, .int .i64 (z.k : Nat))]) (fun z => [.ow EInt 3 (.slice z.a (lvsTo t.parent z.k).length z.c) (lvsTo t.parent z.k) z.F]) (fun z => z.k ≤ t.parent.length) (fun z => t.parent.length - z.k) ⟨0, _, _, _⟩ (Nat.zero_le _) fun z hz => ?_
  have hkl := lvsTo_len t.parent z.k
  refine go ?_; intros
  refine c_if rfl (fun h1 => ?_) (fun h1 => ?_)
  · have hh : z.k < t.parent.length := by omega
    refine go ?_; intros
    refine cf (isLeaf_f t z.k _ F) fun _ _ => ?_
    refine t_app ?_
    cases g : leafT t.parent (z.k : Nat)
    · rw [← lvsTo_no g]
      refine go ?_; intros
      refine n_lp ⟨z.k + 1, z.a, z.c, z.F⟩ (by show z.k + 1 ≤ t.parent.length; omega) (by show t.parent.length - (z.k + 1) < t.parent.length - z.k; omega)
    · refine goN ?_; intros
      apply wO
      refine ap1 (rep_i _) one_EInt fun a9 c9 F9 => ?_
      refine go ?_; intros
      rw [← lvsTo_yes g]
      refine n_lp ⟨z.k + 1, a9, c9, F9⟩ (by show z.k + 1 ≤ t.parent.length; omega) (by show t.parent.length - (z.k + 1) < t.parent.length - z.k; omega)
  · have hk : z.k = t.parent.length := by omega
    rw [show lvsTo t.parent z.k = lvs t.parent by unfold lvs; rw [hk]]
    refine go ?_; intros
    refine ret z trivial rfl
set_option maxRecDepth 100000 in
theorem l6Leaves_f (t : Tree) (v : Value) (F : List Nat) (hg : GoodT t.parent) : Fn Tryz.prog 40 [v] [.isv ETree v t F] [] (fun (_ : KiS) => True) (fun z => .slice z.a (lvs t.parent).length z.c) (fun z => [.ow EInt 3 (.slice z.a (lvs t.parent).length z.c) (lvs t.parent) z.F]) := by
  have hl0 := hg.n0
  have hl8 := hg.n1
  refine enter Tryz.func40 rfl Tryz.ntmps40 fun w0 => ?_
  refine openTree ?_
  rintro a1 c1 F1 rfl l1
  refine go ?_; intros
  refine t_emp EInt ?_
  refine c_loopS [1, 2] (fun z : KiS => [(3, .slice z.a (lvs1 t.parent z.k).length z.c), (4, .int .i64 ((z.k + 1 : Nat) : Int))]) (fun z => [.ow EInt 3 (.slice z.a (lvs1 t.parent z.k).length z.c) (lvs1 t.parent z.k) z.F]) (fun z => z.k + 1 ≤ t.parent.length) (fun z => t.parent.length - z.k) ⟨0, _, _, _⟩ (by show 0 + 1 ≤ t.parent.length; omega) fun z hz => ?_
  have hkl := lvs1_len t.parent z.k
  refine go ?_; intros
  refine c_if rfl (fun h1 => ?_) (fun h1 => ?_)
  · have hh : z.k + 1 < t.parent.length := by omega
    refine go ?_; intros
    refine cf (l6Children_f t ((z.k + 1 : Nat) : Int) _ F (kids_zero hg.z (by omega)) (by omega)) fun q _ => ?_
    refine t_app ?_
    have hlk := leaf_kids t.parent ((z.k + 1 : Nat) : Int)
    refine go ?_; intros
    refine c_if rfl (fun h2 => ?_) (fun h2 => ?_)
    · have g : leafT t.parent ((z.k + 1 : Nat) : Int) = true := by rw [hlk]; exact decide_eq_true (List.length_eq_zero_iff.1 (by omega))
      refine goN ?_; intros
      apply wO
      refine ap1 (xs := lvs1 t.parent z.k) (rep_i _) one_EInt fun a9 c9 F9 => ?_
      refine go ?_; intros
      rw [← lvs1_yes g]
      refine n_lp ⟨z.k + 1, a9, c9, F9⟩ (by show z.k + 1 + 1 ≤ t.parent.length; omega) (by show t.parent.length - (z.k + 1) < t.parent.length - z.k; omega)
    · have g : leafT t.parent ((z.k + 1 : Nat) : Int) = false := by rw [hlk]; exact decide_eq_false fun e => h2 (by rw [e]; rfl)
      rw [← lvs1_no g]
      refine go ?_; intros
      refine n_lp ⟨z.k + 1, z.a, z.c, z.F⟩ (by show z.k + 1 + 1 ≤ t.parent.length; omega) (by show t.parent.length - (z.k + 1) < t.parent.length - z.k; omega)
  · have hk : z.k + 1 = t.parent.length := by omega
    rw [lvs1_all hg hk]
    refine go ?_; intros
    refine ret z trivial rfl
theorem numI_c (n : Int) (h0 : 0 ≤ n) (h1 : n ≤ 999999) (w : World) : Calls Tryz.prog 39 #[.int .i64 n] w fun e w2 => e = .returned (.string (bz (Lib.itoa n))) ∧ Below w.heap.size w w2 := by
  have := num_c n.toNat (by omega) w
  rw [show ((n.toNat : Nat) : Int) = n by omega, show n.toNat = n.natAbs by omega, ← itoa_nt h0] at this
  exact this
set_option maxRecDepth 100000 in
theorem l6Text_f (t : Tree) (v : Value) (F : List Nat) (hg : GoodT t.parent) : Fn Tryz.prog 38 [v] [.isv ETree v t F] [] (fun (_ : Unit) => True) (fun _ => .string (bz (jn (t.parent.drop 1)))) (fun _ => []) := by
  have hl0 := hg.n0
  have hl8 := hg.n1
  have hd : (t.parent.drop 1).length = t.parent.length - 1 := List.length_drop ..
  refine enter Tryz.func38 rfl Tryz.ntmps38 fun w0 => ?_
  refine openTree ?_
  rintro a1 c1 F1 rfl l1
  have hb : ∀ k (h : k + 1 < t.parent.length), 0 ≤ t.parent[k + 1] ∧ t.parent[k + 1] ≤ 8 := fun k h => by have := hg.p (k + 1) h (by omega); omega
  refine at_int (xs := t.parent) 1 ?_
  rintro hi b o rfl
  have hb0 : 0 ≤ t.parent[1] ∧ t.parent[1] ≤ 8 := hb 0 hi
  refine go ?_; intros
  refine cb (fun w st => numI_c t.parent[1] (by omega) (by omega) w) ?_
  have e1 : bz (Lib.itoa t.parent[1]) = bz (jn ((t.parent.drop 1).take (0 + 1))) := by
    rw [show (t.parent.drop 1).take (0 + 1) = [t.parent[1]] by rw [List.take_succ_eq_append_getElem (show 0 < (t.parent.drop 1).length by omega)]; simp, jn_one]
  rw [e1]
  refine go ?_; intros
  refine c_loopR [1, 2] (fun k : Nat => [(3, .string (bz (jn ((t.parent.drop 1).take (k + 1))))), (4, .int .i64 ((k + 2 : Nat) : Int))]) (fun k => k + 2 ≤ t.parent.length) (fun k => t.parent.length - k) 0 (by omega) fun k hk => ?_
  have hs := jn_par hg (k + 1)
  refine go ?_; intros
  refine c_if rfl (fun h1 => ?_) (fun h1 => ?_)
  · have hh : k + 2 < t.parent.length := by omega
    have z1 : (⟨#[32]⟩ : ByteArray).size = 1 := rfl
    have zs : (bz (jn ((t.parent.drop 1).take (k + 1))) ++ ⟨#[32]⟩).size = _ := ByteArray.size_append
    have hbk : 0 ≤ t.parent[k + 2] ∧ t.parent[k + 2] ≤ 8 := hb (k + 1) hh
    have zn : (bz (Lib.itoa t.parent[k + 2])).size ≤ 1 := by rw [bz_size, itoa_nt hbk.1]; exact digit_len 0 _ (by show t.parent[k + 2].natAbs < 10 ^ (0 + 1); have : (10 : Nat) ^ (0 + 1) = 10 := rfl; omega)
    refine at_int (a := some ⟨b, o, none⟩) (xs := t.parent) (k + 2) ?_
    rintro hi2 _ _ e2
    cases e2
    refine go ?_; intros
    refine cb (fun w st => numI_c t.parent[k + 2] hbk.1 (by have := hbk.2; omega) w) ?_
    refine go ?_; intros
    have e3 : bz (jn ((t.parent.drop 1).take (k + 1))) ++ ⟨#[32]⟩ ++ bz (Lib.itoa t.parent[k + 2]) = bz (jn ((t.parent.drop 1).take (k + 1 + 1))) := by
      rw [jn_succ (l := t.parent.drop 1) (k := k + 1) (by omega) (by omega)]
      have e5 : (t.parent.drop 1)[k + 1] = t.parent[k + 2] := by rw [List.getElem_drop]; congr 1; omega
      rw [e5]
      apply ByteArray.ext; simp [bz, ByteArray.data_append]
    rw [e3]
    refine n_lp (k + 1) (by omega) (by omega)
  · have e4 : (t.parent.drop 1).take (k + 1) = t.parent.drop 1 := List.take_of_length_le (by omega)
    rw [e4]
    refine go ?_; intros
    refine ret () trivial rfl
end Go.Proofs.YtccmhdheoeglmaaGreatDoor
/- Consoles: their texts; both sides. -/
namespace Go.Proofs.YtccmhdheoeglmaaGreatDoor
open Go.RowKit
def resFormatConsole (x0 : Console) : ByteArray × Bool := if goodCon x0 then (conTxt x0, true) else (⟨#[]⟩, false)
theorem goodCon_of {x : Console} (h : goodCon x = true) : goodNet x.net = true ∧ 0 ≤ x.log.count ∧ x.log.count ≤ 60 := by
  unfold goodCon at h
  rw [Bool.and_eq_true] at h
  have h1 := (Lg.valid_of h.2).cnt
  have h2 := (opened_small (x.log.durable.data.toList ++ x.log.pending.data.toList)).2
  exact ⟨h.1, by omega, by omega⟩
set_option maxRecDepth 100000 in
set_option maxHeartbeats 2000000 in
theorem FormatConsole_f (x : Console) (v : Value) (F FT : List Nat) (hz : x.log.durable.size + x.log.pending.size ≤ 1048576) : Fn Tryz.prog 20 [v] [.isv EConsole v x F, EnvP FT] [] (fun (_ : Unit) => True) (fun _ => .tuple #[.string (resFormatConsole x).1, .bool (resFormatConsole x).2]) (fun _ => []) := by
  refine enter Tryz.func20 rfl Tryz.ntmps20 fun w0 => ?_
  refine openConsole ?_
  rintro a1 c1 F1 a2 c2 F2 a3 c3 F3 a4 c4 F4 a5 c5 F5 a6 c6 F6 a7 c7 F7 rfl s1 s2 l1 l2 l3 l4 l5 l6 l7
  refine closeNet x.net ?_
  refine closeTree x.net.tree ?_
  refine go ?_; intros
  refine cf (IsValidConsole_f x _ F FT hz) fun _ _ => ?_
  refine t_app ?_
  cases g : goodCon x
  · rw [show resFormatConsole x = (⟨#[]⟩, false) by unfold resFormatConsole; rw [g]; rfl]
    refine go ?_; intros
    refine ret () trivial rfl
  rw [show resFormatConsole x = (conTxt x, true) by unfold resFormatConsole; rw [g]; rfl]
  obtain ⟨gn, hc0, hc1⟩ := goodCon_of g
  obtain ⟨gt, gs, gl, -⟩ := goodNet_iff.1 gn
  have hg := goodT gt
  have hg8 := hg.n1
  have hg2 := hg.n0
  obtain ⟨k0, k1⟩ := src_clk gs
  obtain ⟨q1, q2, q3, q4⟩ := lensN_iff.1 gl
  have z1 := jn_parW hg
  have z2 : (bz (Lib.itoa x.net.source.clock)).size ≤ 4 := itoa_sz k0 (by show _ < 10000; omega)
  have z3 : (bz (Lib.itoa x.log.count)).size ≤ 2 := itoa_sz hc0 (by show _ < 100; omega)
  have ql1 : (⟨#[59, 32, 99, 108, 111, 99, 107, 32]⟩ : ByteArray).size = 8 := rfl
  have ql3 : (⟨#[59, 32, 114, 101, 99, 111, 114, 100, 115, 32]⟩ : ByteArray).size = 10 := rfl
  have ql5 : (⟨#[10]⟩ : ByteArray).size = 1 := rfl
  have q0 : (bz (jn (x.net.tree.parent.drop 1)) ++ ⟨#[59, 32, 99, 108, 111, 99, 107, 32]⟩).size = _ := ByteArray.size_append
  have q1 : (bz (jn (x.net.tree.parent.drop 1)) ++ ⟨#[59, 32, 99, 108, 111, 99, 107, 32]⟩ ++ bz (Lib.itoa x.net.source.clock)).size = _ := ByteArray.size_append
  have q2 : (bz (jn (x.net.tree.parent.drop 1)) ++ ⟨#[59, 32, 99, 108, 111, 99, 107, 32]⟩ ++ bz (Lib.itoa x.net.source.clock) ++ ⟨#[59, 32, 114, 101, 99, 111, 114, 100, 115, 32]⟩).size = _ := ByteArray.size_append
  have q3 : (bz (jn (x.net.tree.parent.drop 1)) ++ ⟨#[59, 32, 99, 108, 111, 99, 107, 32]⟩ ++ bz (Lib.itoa x.net.source.clock) ++ ⟨#[59, 32, 114, 101, 99, 111, 114, 100, 115, 32]⟩ ++ bz (Lib.itoa x.log.count)).size = _ := ByteArray.size_append
  have q4 : (bz (jn (x.net.tree.parent.drop 1)) ++ ⟨#[59, 32, 99, 108, 111, 99, 107, 32]⟩ ++ bz (Lib.itoa x.net.source.clock) ++ ⟨#[59, 32, 114, 101, 99, 111, 114, 100, 115, 32]⟩ ++ bz (Lib.itoa x.log.count) ++ ⟨#[10]⟩).size = _ := ByteArray.size_append
  have hd : (x.net.tree.parent.drop 1).length = x.net.tree.parent.length - 1 := List.length_drop ..
  refine go ?_; intros
  refine d_start [0, 1, 4] [] ?_
  refine dt 0 ?_
  refine dt 1 ?_
  refine dt 2 ?_
  refine dsld 3 1 fun a8 c8 F8 => ?_
  refine dt 6 ?_
  refine dt 7 ?_
  refine dt 8 ?_
  refine dt 12 ?_
  refine dt 13 ?_
  refine dt 14 ?_
  refine dO 4 (by kernel_rfl) (by rw [List.getElem?_toArray]; rfl) ?_
  apply o_call; rfl; kernel_rfl; exact evsE
  refine cb (fun w st => (joinI_f (x.net.tree.parent.drop 1) a8 c8 F8 FT (par_bd hg) (by omega) (by omega)).val w (hol2 (st.get (p := .sl EInt (.slice a8 (x.net.tree.parent.drop 1).length c8) (x.net.tree.parent.drop 1) F8) (by exact memE)) (st.get (p := EnvP FT) (by exact memE)))) ?_
  refine dk ?_
  refine dt 5 ?_
  refine dO 9 (by kernel_rfl) (by rw [List.getElem?_toArray]; rfl) ?_
  apply o_call; rfl; kernel_rfl; exact evsE
  refine cb (fun w st => itoa_c x.net.source.clock (by omega) (by omega) FT w (st.get (p := EnvP FT) (by exact memE))) ?_
  refine dk ?_
  refine dt 10 ?_
  refine dt 11 ?_
  refine dO 15 (by kernel_rfl) (by rw [List.getElem?_toArray]; rfl) ?_
  apply o_call; rfl; kernel_rfl; exact evsE
  refine cb (fun w st => itoa_c x.log.count (by omega) (by omega) FT w (st.get (p := EnvP FT) (by exact memE))) ?_
  refine dk ?_
  refine dt 16 ?_
  refine dt 17 ?_
  refine dt 18 ?_
  refine dd ?_
  rw [show bz (jn (x.net.tree.parent.drop 1)) ++ ⟨#[59, 32, 99, 108, 111, 99, 107, 32]⟩ ++ bz (Lib.itoa x.net.source.clock) ++ ⟨#[59, 32, 114, 101, 99, 111, 114, 100, 115, 32]⟩ ++ bz (Lib.itoa x.log.count) ++ ⟨#[10]⟩ = conT x 0 by rfl]
  refine go ?_; intros
  refine cf (leaves_f x.net.tree _ _ (by omega)) fun z _ => ?_
  refine t_app ?_
  refine t_read (E := EInt) (xs := lvs x.net.tree.parent) fun F11 => ?_
  have hlv := lvsTo_len x.net.tree.parent x.net.tree.parent.length
  have hlv2 : (lvs x.net.tree.parent).length ≤ 8 := by unfold lvs; omega
  refine go ?_; intros
  refine c_loopR [2, 3, 4, 35, 36] (fun k : Nat => [(5, .string (conT x k)), (37, .int .i64 (k : Nat))]) (fun k => k ≤ (lvs x.net.tree.parent).length) (fun k => (lvs x.net.tree.parent).length - k) 0 (Nat.zero_le _) fun k hk0 => ?_
  refine go ?_; intros
  refine c_if rfl (fun h1 => ?_) (fun h1 => ?_)
  · have hk : k < (lvs x.net.tree.parent).length := by omega
    obtain ⟨i, hi, he, -⟩ := lvs_lt hk
    have hir : i < x.net.receivers.length := by omega
    have hcs := conT_succ hk
    rw [he, recAt_at hir] at hcs
    have hsz := conT_size gn hc0 hc1 k (by omega)
    have hsl := slB_size (net_rec gn hir)
    have zi : (bz (Lib.itoa ((i : Nat) : Int))).size ≤ 1 := itoa_sz (k := 0) (by omega) (by show _ < 10; omega)
    refine at_int (xs := lvs x.net.tree.parent) k ?_
    rintro hi2 b o e1
    rw [e1]
    rw [he]
    refine atReceiver (xs := x.net.receivers) i ?_
    rintro hi5 b5 o5 a9 c9 F9 a10 c10 F10 e5 l9 l10
    rw [e5]
    refine closeReceiveWindow x.net.receivers[i].window ?_
    cases hst : x.net.receivers[i].started
    · refine go ?_; intros
      rw [show (⟨#[45]⟩ : ByteArray) = slB x.net.receivers[i] from (by unfold slB; rw [hst]; rfl : (⟨#[45]⟩ : ByteArray) = slB x.net.receivers[i])]
      refine cb (fun w st => itoa_c ((i : Nat) : Int) (by omega) (by omega) FT w (st.get (p := EnvP FT) (by exact memE))) ?_
      have rl1 : (⟨#[32]⟩ : ByteArray).size = 1 := rfl
      have rl3 : (⟨#[10]⟩ : ByteArray).size = 1 := rfl
      have r0 : (bz (Lib.itoa ((i : Nat) : Int)) ++ ⟨#[32]⟩).size = _ := ByteArray.size_append
      have r1 : (bz (Lib.itoa ((i : Nat) : Int)) ++ ⟨#[32]⟩ ++ slB x.net.receivers[i]).size = _ := ByteArray.size_append
      have r2 : (bz (Lib.itoa ((i : Nat) : Int)) ++ ⟨#[32]⟩ ++ slB x.net.receivers[i] ++ ⟨#[10]⟩).size = _ := ByteArray.size_append
      have rz : (conT x k ++ (bz (Lib.itoa ((i : Nat) : Int)) ++ ⟨#[32]⟩ ++ slB x.net.receivers[i] ++ ⟨#[10]⟩)).size = _ := ByteArray.size_append
      refine go ?_; intros
      rw [show conT x k ++ (bz (Lib.itoa ((i : Nat) : Int)) ++ ⟨#[32]⟩ ++ slB x.net.receivers[i] ++ ⟨#[10]⟩) = conT x (k + 1) from hcs.symm]
      refine n_lp (k + 1) (by omega) (by omega)
    · refine go ?_; intros
      refine cb (fun w st => (slotsText_f x.net.receivers[i].window _ _ FT (rec_rw (net_rec gn hir) hst)).val w (hol2 (st.get (p := .isv EReceiveWindow (.agg #[.int .i64 x.net.receivers[i].window.next, .slice a9 x.net.receivers[i].window.slots.length c9]) x.net.receivers[i].window F9) (by exact memE)) (st.get (p := EnvP FT) (by exact memE)))) ?_
      refine go ?_; intros
      rw [show slTxt x.net.receivers[i].window = slB x.net.receivers[i] from (by unfold slB; rw [hst]; rfl : slTxt x.net.receivers[i].window = slB x.net.receivers[i])]
      refine cb (fun w st => itoa_c ((i : Nat) : Int) (by omega) (by omega) FT w (st.get (p := EnvP FT) (by exact memE))) ?_
      have rl1 : (⟨#[32]⟩ : ByteArray).size = 1 := rfl
      have rl3 : (⟨#[10]⟩ : ByteArray).size = 1 := rfl
      have r0 : (bz (Lib.itoa ((i : Nat) : Int)) ++ ⟨#[32]⟩).size = _ := ByteArray.size_append
      have r1 : (bz (Lib.itoa ((i : Nat) : Int)) ++ ⟨#[32]⟩ ++ slB x.net.receivers[i]).size = _ := ByteArray.size_append
      have r2 : (bz (Lib.itoa ((i : Nat) : Int)) ++ ⟨#[32]⟩ ++ slB x.net.receivers[i] ++ ⟨#[10]⟩).size = _ := ByteArray.size_append
      have rz : (conT x k ++ (bz (Lib.itoa ((i : Nat) : Int)) ++ ⟨#[32]⟩ ++ slB x.net.receivers[i] ++ ⟨#[10]⟩)).size = _ := ByteArray.size_append
      refine go ?_; intros
      rw [show conT x k ++ (bz (Lib.itoa ((i : Nat) : Int)) ++ ⟨#[32]⟩ ++ slB x.net.receivers[i] ++ ⟨#[10]⟩) = conT x (k + 1) from hcs.symm]
      refine n_lp (k + 1) (by omega) (by omega)
  · have hk : k = (lvs x.net.tree.parent).length := by omega
    rw [show conT x k = conTxt x by unfold conTxt; rw [hk]]
    refine go ?_; intros
    refine ret () trivial rfl
set_option maxRecDepth 100000 in
set_option maxHeartbeats 2000000 in
theorem specFormatConsole_f (x : Console) (v : Value) (F FT : List Nat) (hz : x.log.durable.size + x.log.pending.size ≤ 1048576) : Fn Tryz.prog 19 [v] [.isv EConsole v x F, EnvP FT] [] (fun (_ : Unit) => True) (fun _ => .tuple #[.string (resFormatConsole x).1, .bool (resFormatConsole x).2]) (fun _ => []) := by
  refine enter Tryz.func19 rfl Tryz.ntmps19 fun w0 => ?_
  refine openConsole ?_
  rintro a1 c1 F1 a2 c2 F2 a3 c3 F3 a4 c4 F4 a5 c5 F5 a6 c6 F6 a7 c7 F7 rfl s1 s2 l1 l2 l3 l4 l5 l6 l7
  refine closeNet x.net ?_
  refine closeTree x.net.tree ?_
  refine go ?_; intros
  refine cf (l28Good_f x _ F hz) fun _ _ => ?_
  refine t_app ?_
  cases g : goodCon x
  · rw [show resFormatConsole x = (⟨#[]⟩, false) by unfold resFormatConsole; rw [g]; rfl]
    refine go ?_; intros
    refine ret () trivial rfl
  rw [show resFormatConsole x = (conTxt x, true) by unfold resFormatConsole; rw [g]; rfl]
  obtain ⟨gn, hc0, hc1⟩ := goodCon_of g
  obtain ⟨gt, gs, gl, -⟩ := goodNet_iff.1 gn
  have hg := goodT gt
  have hg8 := hg.n1
  have hg2 := hg.n0
  obtain ⟨k0, k1⟩ := src_clk gs
  obtain ⟨q1, q2, q3, q4⟩ := lensN_iff.1 gl
  have z1 := jn_parW hg
  have z2 : (bz (Lib.itoa x.net.source.clock)).size ≤ 4 := itoa_sz k0 (by show _ < 10000; omega)
  have z3 : (bz (Lib.itoa x.log.count)).size ≤ 2 := itoa_sz hc0 (by show _ < 100; omega)
  have ql1 : (⟨#[59, 32, 99, 108, 111, 99, 107, 32]⟩ : ByteArray).size = 8 := rfl
  have ql3 : (⟨#[59, 32, 114, 101, 99, 111, 114, 100, 115, 32]⟩ : ByteArray).size = 10 := rfl
  have ql5 : (⟨#[10]⟩ : ByteArray).size = 1 := rfl
  have q0 : (bz (jn (x.net.tree.parent.drop 1)) ++ ⟨#[59, 32, 99, 108, 111, 99, 107, 32]⟩).size = _ := ByteArray.size_append
  have q1 : (bz (jn (x.net.tree.parent.drop 1)) ++ ⟨#[59, 32, 99, 108, 111, 99, 107, 32]⟩ ++ bz (Lib.itoa x.net.source.clock)).size = _ := ByteArray.size_append
  have q2 : (bz (jn (x.net.tree.parent.drop 1)) ++ ⟨#[59, 32, 99, 108, 111, 99, 107, 32]⟩ ++ bz (Lib.itoa x.net.source.clock) ++ ⟨#[59, 32, 114, 101, 99, 111, 114, 100, 115, 32]⟩).size = _ := ByteArray.size_append
  have q3 : (bz (jn (x.net.tree.parent.drop 1)) ++ ⟨#[59, 32, 99, 108, 111, 99, 107, 32]⟩ ++ bz (Lib.itoa x.net.source.clock) ++ ⟨#[59, 32, 114, 101, 99, 111, 114, 100, 115, 32]⟩ ++ bz (Lib.itoa x.log.count)).size = _ := ByteArray.size_append
  have q4 : (bz (jn (x.net.tree.parent.drop 1)) ++ ⟨#[59, 32, 99, 108, 111, 99, 107, 32]⟩ ++ bz (Lib.itoa x.net.source.clock) ++ ⟨#[59, 32, 114, 101, 99, 111, 114, 100, 115, 32]⟩ ++ bz (Lib.itoa x.log.count) ++ ⟨#[10]⟩).size = _ := ByteArray.size_append
  have hd : (x.net.tree.parent.drop 1).length = x.net.tree.parent.length - 1 := List.length_drop ..
  refine go ?_; intros
  refine d_start [0] [] ?_
  refine dt 0 ?_
  refine dt 1 ?_
  refine dt 2 ?_
  refine dt 5 ?_
  refine dt 6 ?_
  refine dt 7 ?_
  refine dt 8 ?_
  refine dt 12 ?_
  refine dt 13 ?_
  refine dt 14 ?_
  refine dO 3 (by kernel_rfl) (by rw [List.getElem?_toArray]; rfl) ?_
  apply o_call; rfl; kernel_rfl; exact evsE
  refine cb (fun w st => (l6Text_f x.net.tree _ _ hg).val w (hol1 (st.get (p := .isv ETree (.agg #[.slice a1 x.net.tree.parent.length c1]) x.net.tree F1) (by exact memE)))) ?_
  refine dk ?_
  refine dt 4 ?_
  refine dO 9 (by kernel_rfl) (by rw [List.getElem?_toArray]; rfl) ?_
  apply o_call; rfl; kernel_rfl; exact evsE
  refine cb (fun w st => numI_c x.net.source.clock (by omega) (by omega) w) ?_
  refine dk ?_
  refine dt 10 ?_
  refine dt 11 ?_
  refine dO 15 (by kernel_rfl) (by rw [List.getElem?_toArray]; rfl) ?_
  apply o_call; rfl; kernel_rfl; exact evsE
  refine cb (fun w st => numI_c x.log.count (by omega) (by omega) w) ?_
  refine dk ?_
  refine dt 16 ?_
  refine dt 17 ?_
  refine dt 18 ?_
  refine dd ?_
  rw [show bz (jn (x.net.tree.parent.drop 1)) ++ ⟨#[59, 32, 99, 108, 111, 99, 107, 32]⟩ ++ bz (Lib.itoa x.net.source.clock) ++ ⟨#[59, 32, 114, 101, 99, 111, 114, 100, 115, 32]⟩ ++ bz (Lib.itoa x.log.count) ++ ⟨#[10]⟩ = conT x 0 by rfl]
  refine go ?_; intros
  refine cf (l6Leaves_f x.net.tree _ _ hg) fun z _ => ?_
  refine t_app ?_
  refine t_read (E := EInt) (xs := lvs x.net.tree.parent) fun F11 => ?_
  have hlv := lvsTo_len x.net.tree.parent x.net.tree.parent.length
  have hlv2 : (lvs x.net.tree.parent).length ≤ 8 := by unfold lvs; omega
  refine go ?_; intros
  refine c_loopR [1, 2, 3, 5] (fun k : Nat => [(4, .string (conT x k)), (6, .int .i64 (k : Nat))]) (fun k => k ≤ (lvs x.net.tree.parent).length) (fun k => (lvs x.net.tree.parent).length - k) 0 (Nat.zero_le _) fun k hk0 => ?_
  refine go ?_; intros
  refine c_if rfl (fun h1 => ?_) (fun h1 => ?_)
  · have hk : k < (lvs x.net.tree.parent).length := by omega
    obtain ⟨i, hi, he, -⟩ := lvs_lt hk
    have hir : i < x.net.receivers.length := by omega
    have hcs := conT_succ hk
    rw [he, recAt_at hir] at hcs
    have hsz := conT_size gn hc0 hc1 k (by omega)
    have hsl := slB_size (net_rec gn hir)
    have zi : (bz (Lib.itoa ((i : Nat) : Int))).size ≤ 1 := itoa_sz (k := 0) (by omega) (by show _ < 10; omega)
    refine at_int (xs := lvs x.net.tree.parent) k ?_
    rintro hi2 b o e1
    rw [e1]
    rw [he]
    refine atReceiver (xs := x.net.receivers) i ?_
    rintro hi5 b5 o5 a9 c9 F9 a10 c10 F10 e5 l9 l10
    rw [e5]
    refine closeReceiveWindow x.net.receivers[i].window ?_
    refine go ?_; intros
    refine d_start [1, 4, 6] [] ?_
    refine dt 0 ?_
    refine dt 1 ?_
    refine dt 2 ?_
    refine dt 3 ?_
    refine dt 4 ?_
    refine dt 5 ?_
    refine dt 6 ?_
    refine dt 7 ?_
    refine dt 8 ?_
    refine dO 9 (by kernel_rfl) (by rw [List.getElem?_toArray]; rfl) ?_
    apply o_alloc; rfl; intro _
    refine dk ?_
    refine dO 10 (by kernel_rfl) (by rw [List.getElem?_toArray]; rfl) ?_
    apply o_st; rfl; rfl; rfl; (first | exact AggC.s | exact OneC.s); rfl; exact rplE; exact putE; rfl
    refine dk ?_
    refine dd ?_
    cases hst : x.net.receivers[i].started
    · refine go ?_; intros
      rw [show (⟨#[45]⟩ : ByteArray) = slB x.net.receivers[i] from (by unfold slB; rw [hst]; rfl : (⟨#[45]⟩ : ByteArray) = slB x.net.receivers[i])]
      refine cb (fun w st => numI_c ((i : Nat) : Int) (by omega) (by omega) w) ?_
      have rl2 : (⟨#[32]⟩ : ByteArray).size = 1 := rfl
      have rl4 : (⟨#[10]⟩ : ByteArray).size = 1 := rfl
      have r0 : (conT x k ++ bz (Lib.itoa ((i : Nat) : Int))).size = _ := ByteArray.size_append
      have r1 : (conT x k ++ bz (Lib.itoa ((i : Nat) : Int)) ++ ⟨#[32]⟩).size = _ := ByteArray.size_append
      have r2 : (conT x k ++ bz (Lib.itoa ((i : Nat) : Int)) ++ ⟨#[32]⟩ ++ slB x.net.receivers[i]).size = _ := ByteArray.size_append
      have r3 : (conT x k ++ bz (Lib.itoa ((i : Nat) : Int)) ++ ⟨#[32]⟩ ++ slB x.net.receivers[i] ++ ⟨#[10]⟩).size = _ := ByteArray.size_append
      refine go ?_; intros
      rw [show conT x k ++ bz (Lib.itoa ((i : Nat) : Int)) ++ ⟨#[32]⟩ ++ slB x.net.receivers[i] ++ ⟨#[10]⟩ = conT x (k + 1) by rw [hcs]; unfold lineB; apply ByteArray.ext; simp [ByteArray.data_append]]
      refine n_lp (k + 1) (by omega) (by omega)
    · refine go ?_; intros
      refine cb (fun w st => (l10Text_f x.net.receivers[i].window _ _ FT (rec_rw (net_rec gn hir) hst)).val w (hol2 (st.get (p := .isv EReceiveWindow (.agg #[.int .i64 x.net.receivers[i].window.next, .slice a9 x.net.receivers[i].window.slots.length c9]) x.net.receivers[i].window F9) (by exact memE)) (st.get (p := EnvP FT) (by exact memE)))) ?_
      refine go ?_; intros
      rw [show slTxt x.net.receivers[i].window = slB x.net.receivers[i] from (by unfold slB; rw [hst]; rfl : slTxt x.net.receivers[i].window = slB x.net.receivers[i])]
      refine cb (fun w st => numI_c ((i : Nat) : Int) (by omega) (by omega) w) ?_
      have rl2 : (⟨#[32]⟩ : ByteArray).size = 1 := rfl
      have rl4 : (⟨#[10]⟩ : ByteArray).size = 1 := rfl
      have r0 : (conT x k ++ bz (Lib.itoa ((i : Nat) : Int))).size = _ := ByteArray.size_append
      have r1 : (conT x k ++ bz (Lib.itoa ((i : Nat) : Int)) ++ ⟨#[32]⟩).size = _ := ByteArray.size_append
      have r2 : (conT x k ++ bz (Lib.itoa ((i : Nat) : Int)) ++ ⟨#[32]⟩ ++ slB x.net.receivers[i]).size = _ := ByteArray.size_append
      have r3 : (conT x k ++ bz (Lib.itoa ((i : Nat) : Int)) ++ ⟨#[32]⟩ ++ slB x.net.receivers[i] ++ ⟨#[10]⟩).size = _ := ByteArray.size_append
      refine go ?_; intros
      rw [show conT x k ++ bz (Lib.itoa ((i : Nat) : Int)) ++ ⟨#[32]⟩ ++ slB x.net.receivers[i] ++ ⟨#[10]⟩ = conT x (k + 1) by rw [hcs]; unfold lineB; apply ByteArray.ext; simp [ByteArray.data_append]]
      refine n_lp (k + 1) (by omega) (by omega)
  · have hk : k = (lvs x.net.tree.parent).length := by omega
    rw [show conT x k = conTxt x by unfold conTxt; rw [hk]]
    refine go ?_; intros
    refine ret () trivial rfl
end Go.Proofs.YtccmhdheoeglmaaGreatDoor
/- The contracts of FormatConsole in the form that the law's proof takes. -/
namespace Go.Proofs.YtccmhdheoeglmaaGreatDoor
open Go.RowKit
end Go.Proofs.YtccmhdheoeglmaaGreatDoor
/- What every law's proof shares: the step from 'returns true, and nothing that was there has turned' to the row's post; how arguments read. -/
namespace Go.Proofs.YtccmhdheoeglmaaGreatDoor
open Go.ChangeShapes Go.WideShapes Go.ChangeAt Go.RowKit

theorem trodAll_below {H : Type} {enc : TypeId × Value → H} {P : Program} (hl : laidOutB P = true) {W W' : World} (hb : Below W.heap.size W W') :
    ∀ (ts : List TypeId) (vs : List Value) (ds : List (DataW H)) (ps : List MemPlace), (∀ t ∈ ts, P.readableRec t = true ∧ t < P.types.size) →
      DataW.TrodAll enc P W 0 (fun _ => true) true ts vs ds ps → (∀ x ∈ ps, x.block < W.heap.size) → DataW.TrodAll enc P W' 0 (fun b => decide (b < W.heap.size)) true ts vs ds ps
  | [], vs, ds, ps, _, h, _ => by obtain ⟨rfl, rfl, rfl⟩ := trodAll_nil h; exact rfl
  | t :: ts, vs, ds, ps, ht, h, hlt => by
    obtain ⟨v, vs', d, ds', p, q, rfl, rfl, rfl, h1, h2⟩ := trodAll_cons h
    have ⟨a, b⟩ := ht t (by simp)
    exact ⟨p, q, Below.trod hl a b h1 hb fun x hx => hlt x (by simp [hx]), trodAll_below hl hb ts vs' ds' q (fun t h => ht t (by simp [h])) h2 fun x hx => hlt x (by simp [hx]), rfl⟩

/-- A law returned true and left all that was there aS it was: the row's post. -/
theorem law_post {H : Type} {enc : TypeId × Value → H} {P : Program} {f : Func} {s : ChangeSpec} {tb : TypeId} (hl : laidOutB P = true) (hr : ∀ t ∈ f.params.toList, P.readableRec t = true ∧ t < P.types.size)
    (hb : P.underlying tb = some .bool) (hres : f.resultTypes = #[tb]) (hv : s.vars = []) {W W' : World} {args : Array Value} {ds gs : List (DataW H)} {before : List MemPlace}
    (hs : s.fn H ds = { results := [.lit (.bool true)], args := ds }) (hW : DataW.Whole enc P f.params.toList s.vars false W args.toList ds gs before) (hB : Below W.heap.size W W') :
    s.post enc P f false true false false W args (.bool true) W' := by
  have hlt := hW.lt
  have hW0 := hW
  obtain ⟨p, q, hA, hV, rfl, _, _⟩ := hW0
  rw [hv] at hV
  obtain ⟨rfl, rfl⟩ := trodVars_none hV
  refine ⟨ds, [], p ++ [], [], p, [], hW, ?_, ?_, ?_, hB.frame _, fun h => by cases h⟩
  · rw [List.append_nil, hs, hres]
    exact trodAll_mk1 (shut_bool hb true)
  · rw [List.append_nil, hs]
    exact trodAll_below hl hB _ _ _ _ hr hA fun x hx => hlt x (by simpa using hx)
  · rw [hv, List.append_nil, hs]; exact rfl

/-- what reads aS data at type t reads by E -/
def Reads (P : Program) {α : Type} (E : Elem α) (t : TypeId) : Prop :=
  ∀ {H : Type} {enc : TypeId × Value → H} {w : World} {fuel : Nat} {cs : List Value} {x : DataW H × List MemPlace}, DataW.trod enc P w 0 (fun _ => true) true fuel t cs = some x → ∃ y F, E.rep w cs y F

section
variable {P : Program}
theorem reads_int {t : TypeId} (ht : P.underlying t = some (.int .i64)) : Reads P EInt t := fun h => by
  obtain ⟨n, rfl, _, _⟩ := DataW.trod_int ht h; exact ⟨n, [], rfl, rfl⟩
theorem reads_str {t : TypeId} (ht : P.underlying t = some .string) : Reads P EStr t := fun h => by
  obtain ⟨s, rfl, _, hs⟩ := DataW.trod_string ht h; exact ⟨s, [], rfl, hs, rfl⟩
theorem reads_bool {t : TypeId} (ht : P.underlying t = some .bool) : Reads P EBool t := fun {_ _ _ fuel _ _} h => by
  cases fuel with
  | zero => simp [DataW.trod] at h
  | succ n =>
    unfold DataW.trod at h
    rw [ht] at h
    split at h <;> simp_all
    all_goals simp [EBool]
theorem reads_cells {α : Type} {E : Elem α} {e : TypeId} (hsz : P.cellsOf e = E.sz) (he : Reads P E e) {H : Type} {enc : TypeId × Value → H} {w : World} {n b off : Nat} :
    ∀ (els : List (DataW H × List MemPlace)) (k : Nat), (∀ i, i < els.length → (w.cells? 0 ((⟨b, off, none⟩ : Addr).add ((k + i) * P.cellsOf e)) (P.cellsOf e)).bind (DataW.trod enc P w 0 (fun _ => true) true n e) = els[i]?) →
      ∃ ys F, ys.length = els.length ∧ Cells E w b (off + k * E.sz) ys F
  | [], _, _ => ⟨[], [], rfl, rfl⟩
  | x :: r, k, h => by
    have h0 := h 0 (by simp)
    simp only [Nat.add_zero, List.getElem?_cons_zero, Option.bind_eq_some_iff] at h0
    obtain ⟨cs, hc, hx⟩ := h0
    obtain ⟨y, F1, hy⟩ := he hx
    obtain ⟨ys, F2, hl, hys⟩ := reads_cells hsz he r (k + 1) fun i hi => by
      have := h (i + 1) (by simpa using hi)
      rw [show k + 1 + i = k + (i + 1) by omega]
      simpa using this
    refine ⟨y :: ys, F1 ++ F2, by simp [hl], cs, F1, F2, rfl, hy, fun j hj => ?_, by rwa [show off + k * E.sz + E.sz = off + (k + 1) * E.sz by rw [Nat.add_mul]; omega]⟩
    obtain ⟨_, hlen, hcell⟩ := World.cells?_some hc
    rw [← hcell j (by rw [hsz]; exact hj)]
    congr 1
    simp only [Addr.add, hsz]
    split <;> split <;> simp_all <;> omega
theorem reads_slice {α : Type} {E : Elem α} {t e : TypeId} (ht : P.underlying t = some (.slice e)) (hsz : P.cellsOf e = E.sz) (hz : 0 < E.sz) (he : Reads P E e) : Reads P (ESl E hz) t := fun h => by
  rcases DataW.trod_slice ht h with ⟨rfl, _⟩ | ⟨a, len, cap, elems, rest, n, rfl, rfl, _, _, hlc, hcm, hlen, hel, _, _⟩
  · exact ⟨[], [], _, rfl, none, 0, rfl, ⟨by simp, by simp⟩, .inl ⟨rfl, rfl, fun _ => rfl⟩⟩
  · by_cases h0 : len = 0
    · subst h0
      exact ⟨[], [], _, rfl, some a, cap, rfl, ⟨by simp, by omega⟩, .inl ⟨rfl, rfl, fun e => by cases e⟩⟩
    · have hs : a = ⟨a.block, a.off, none⟩ := by
        have := hel 0 (by omega)
        rw [List.getElem?_eq_getElem (by omega)] at this
        simp only [Option.bind_eq_some_iff] at this
        obtain ⟨cs, hc, _⟩ := this
        obtain ⟨_, hl2, hcell⟩ := World.cells?_some hc
        have h1 := hcell 0 (by omega)
        rw [List.getElem?_eq_getElem (by omega)] at h1
        simp [Addr.add, World.cell?] at h1
        split at h1 <;> simp_all
        cases a; simp_all
      obtain ⟨ys, F, hyl, hys⟩ := reads_cells hsz he elems 0 (n := n) (b := a.block) (off := a.off) (enc := _) (w := _) (by
        rw [← hs]; intro i hi; rw [Nat.zero_add]; exact hel i (by omega))
      refine ⟨ys, a.block :: F, _, rfl, some a, cap, by rw [hyl, hlen], ⟨by omega, by omega⟩, .inr ⟨a.block, a.off, F, by rw [← hs], ?_, rfl, by simpa using hys⟩⟩
      intro e; rw [e] at hyl; simp at hyl; omega
end

/-- the fields of a struct, one behind the other, each by its own reading -/
inductive FieldsOk (P : Program) : List Field → Nat → (α : Type) → Elem α → Prop
  | nil (off : Nat) : FieldsOk P [] off Unit EUnit
  | cons {f : Field} {r : List Field} {off : Nat} {α β : Type} {A : Elem α} {B : Elem β} (ho : f.offset = off) (hc : P.cellsOf f.type = A.sz) (hA : Reads P A f.type) (h : FieldsOk P r (off + A.sz) β B) : FieldsOk P (f :: r) off (α × β) (EProd A B)
theorem fields_read {P : Program} {H : Type} {enc : TypeId × Value → H} {w : World} {n : Nat} {cs : List Value} {fs : List Field} {off : Nat} {α : Type} {E : Elem α} (h : FieldsOk P fs off α E) :
    (∀ f ∈ fs, ∃ x, DataW.trod enc P w 0 (fun _ => true) true n f.type ((cs.drop f.offset).take (P.cellsOf f.type)) = some x) → off + E.sz = cs.length → ∃ y F, E.rep w (cs.drop off) y F := by
  induction h with
  | nil off => intro _ hl; exact ⟨(), [], List.drop_of_length_le (by simp [EUnit] at hl; omega), rfl⟩
  | @cons f r off α β A B ho hc hA _ ih =>
    intro hf hl
    obtain ⟨x, hx⟩ := hf f (by simp)
    obtain ⟨y, F1, hy⟩ := hA hx
    obtain ⟨y2, F2, hy2⟩ := ih (fun f h => hf f (by simp [h])) (by simp only [EProd] at hl; omega)
    subst ho
    exact ⟨(y, y2), F1 ++ F2, _, _, F1, F2, by rw [hc, ← List.drop_drop, List.take_append_drop], rfl, hy, hy2⟩
theorem reads_struct {P : Program} {t : TypeId} {fs : Array Field} {α : Type} {E : Elem α} (ht : P.underlying t = some (.struct fs)) (hC : P.cellsOf t = E.sz) (h : FieldsOk P fs.toList 0 α E) : Reads P E t := fun hh => by
  obtain ⟨xs, n, rfl, _, hcl, hxl, hx⟩ := DataW.trod_struct ht hh
  have := fields_read (enc := _) (w := _) (n := n) h (fun f hf => by
    obtain ⟨i, hi, rfl⟩ := List.getElem_of_mem hf
    have := hx i fs.toList[i] (by simp)
    rw [List.getElem?_eq_getElem (by simpa [hxl] using hi)] at this
    exact ⟨_, this⟩) (by rw [hcl, hC]; simp)
  simpa using this
end Go.Proofs.YtccmhdheoeglmaaGreatDoor
/- The library's table of powers: what the row says of it when the call begins. -/
namespace Go.Proofs.YtccmhdheoeglmaaGreatDoor
open Go.RowKit
theorem env_FormatConsole {W : World} (h : laidMetH Tryz.prog Rows.fnExactFormatConsoleRow.laid W) : (EnvP [0]).P W := by
  rw [MakeChecks.laidMetH_plain _ _ _ (by kernel_rfl)] at h
  have h3 := h.tail.tail
  have e : (Rows.laid_internal_strconv_uint64pow10 : DataW Unit) = Lib.tabData .u64 Lib.pow10Tab := by kernel_rfl
  rw [e] at h3
  have ht : Lib.TabIs Tryz.prog W "internal/strconv.uint64pow10" .u64 Lib.pow10Tab := Lib.tabIs_of_head (g := 0) (t := 267) (e := 236) (n := 20) (by kernel_rfl) (by kernel_rfl) Tryz.underlying267 Tryz.underlying236 (by kernel_rfl) (by kernel_rfl) h3
  have hc := Lib.TabIs.cell ht (g := 0) (by kernel_rfl) 0 (by rw [Lib.pow10Tab_length]; omega)
  refine ⟨[], rfl, rfl, ht, rfl, fun b hb => ?_⟩
  simp only [List.mem_cons, List.not_mem_nil, or_false] at hb
  subst hb
  exact World.block_lt_of_cell? W ⟨0, 0, none⟩ hc
end Go.Proofs.YtccmhdheoeglmaaGreatDoor
/- The walk of the law FnExactFormatConsole. Written by wip/genlaw2.py. -/
namespace Go.Proofs.YtccmhdheoeglmaaGreatDoor
open Go.RowKit
structure JFormatConsole where
set_option maxHeartbeats 4000000 in
set_option maxRecDepth 100000 in
theorem law_FormatConsole_f (v0 : Value) (x0 : Console) (F0 FT : List Nat) : Fn Tryz.prog 5 [v0] [.isv EConsole v0 x0 F0, EnvP FT] [] (fun (_ : Unit) => True) (fun _ => .bool true) (fun _ => []) := by
  refine enter Tryz.func5 rfl Tryz.ntmps5 fun w0 => ?_
  refine t_aggI (E := EConsole) (v := v0) (x := x0) (F := F0) one_EConsole ?_
  rintro ca0 rfl hla0 hoa0
  have hI := fun (hz : x0.log.durable.size + x0.log.pending.size ≤ 1048576) V0 F0 => FormatConsole_f x0 V0 F0 FT hz
  have hS := fun (hz : x0.log.durable.size + x0.log.pending.size ≤ 1048576) V0 F0 => specFormatConsole_f x0 V0 F0 FT hz
  obtain ⟨r0, r1, er⟩ : ∃ r0 r1, resFormatConsole x0 = (r0, r1) := ⟨_, _, rfl⟩
  rw [er] at hI hS
  try dsimp only at hI hS
  refine goL ?_; intros
  refine cb (fun w st => ex1 (fun F h => szConsole_c _ x0 F (1048576) w h (by omega) (by omega)) st.rI) ?_
  rcases szr_or (1048576) (wtConsole x0) with ⟨e1, l1⟩ | ⟨e1, l1⟩
  · rw [e1]
    refine goL ?_; intros
    refine ret () trivial rfl
  rw [e1]
  clear e1
  have hw0 : wtConsole x0 ≤ 1048576 := by omega
  have hz : x0.log.durable.size + x0.log.pending.size ≤ 1048576 := by
    have := hw0
    unfold wtConsole wtLog at this
    omega
  replace hI := hI hz
  replace hS := hS hz
  have hc0 := cvConsole_wt x0 hw0
  refine goL ?_; intros
  refine cv (fun w st => ex1 (fun F h => toConsole_c _ x0 F w h hw0) st.rI) fun y0 K0 => ?_
  refine t_weakV weak_Console fun K0 => ?_
  refine goL ?_; intros
  refine cf (hS _ _) fun z hz => ?_
  refine t_app ?_
  refine goL ?_; intros
  refine cv (fun w st => ex1 (fun F h => toConsole_c _ x0 F w h hw0) st.rI) fun yv0 KX0 => ?_
  refine t_aggO (E := OConsole) (x := x0) (F := KX0) one_OConsole ?_
  rintro cx0 rfl hlx0 hox0
  refine goL ?_; intros
  refine cm (fun w st => ex1 (fun F h => (hI _ F).made w (hol2 h (st.get (p := EnvP FT) (by exact memE))) (fun _ => rfl)) (st.rO weak_Console)) fun z hz => ?_
  refine t_app ?_
  refine goL ?_; intros
  refine d_startA [] ?_
  refine dt 0 ?_ (hy := (by first | exact ydE | exact yd_ldw rfl (by exact memE) (by assumption)))
  refine dt 1 ?_ (hy := (by first | exact ydE | exact yd_ldw rfl (by exact memE) (by assumption)))
  refine dO 2 (by kernel_rfl) (by rw [List.getElem?_toArray]; rfl) ?_
  apply o_call; rfl; kernel_rfl; exact evsE
  refine cv (fun w st => ex1 (fun F h => toConsole_c _ x0 F w h hw0) st.rI) fun y0 K0 => ?_
  refine t_weakV weak_Console fun K0 => ?_
  refine dk ?_
  refine dO 3 (by kernel_rfl) (by rw [List.getElem?_toArray]; rfl) ?_
  apply o_call; rfl; kernel_rfl; exact evsE
  refine cb (fun w st => ex2 (fun Fa Fb ha hb => eqConsole_c _ _ x0 Fa Fb w ha hb) (st.rO weak_Console) st.rI) ?_
  refine dk ?_
  refine dt 4 ?_
  refine dd ?_
  refine goL ?_; intros
  refine ret () trivial rfl
theorem law_FormatConsole (v0 : Value) (x0 : Console) (F0 : List Nat) (FT : List Nat) (w : World) (h0 : IsV EConsole w v0 x0 F0) (hT : (EnvP FT).P w) :
    Calls Tryz.prog 5 #[v0] w fun e' w' => e' = .returned (.bool true) ∧ Below w.heap.size w w' := (law_FormatConsole_f v0 x0 F0 FT).val w (hol2 h0 hT)
end Go.Proofs.YtccmhdheoeglmaaGreatDoor
/- The law FnExactFormatConsole, lifted. Written by wip/genlaw.py. -/
namespace Go.Proofs.YtccmhdheoeglmaaGreatDoor
open Go.RowKit Go.ChangeShapes Go.WideShapes Go.ChangeAt
theorem reads_Tree : Reads Tryz.prog ETree 24 := fun hh => by
  obtain ⟨y, F, hy⟩ := reads_struct (E := (EProd (ESl EInt (by decide)) EUnit)) Tryz.underlying24 (by kernel_rfl) (.cons rfl (by kernel_rfl) (reads_slice Tryz.underlying22 (by kernel_rfl) (by decide) (reads_int Tryz.underlying3)) (.nil _)) hh
  obtain ⟨_, _, _, _, rfl, rfl, ⟨u0, rfl, hs0⟩, ⟨rfl, rfl⟩⟩ := hy
  exact ⟨⟨y.1⟩, _, u0, rfl, by simpa using hs0⟩
theorem reads_SendWindow : Reads Tryz.prog ESendWindow 50 := fun hh => by
  obtain ⟨y, F, hy⟩ := reads_struct (E := (EProd EInt (EProd EInt (EProd (ESl EStr (by decide)) EUnit)))) Tryz.underlying50 (by kernel_rfl) (.cons rfl (by kernel_rfl) (reads_int Tryz.underlying3) (.cons rfl (by kernel_rfl) (reads_int Tryz.underlying3) (.cons rfl (by kernel_rfl) (reads_slice Tryz.underlying27 (by kernel_rfl) (by decide) (reads_str Tryz.underlying9)) (.nil _)))) hh
  obtain ⟨_, _, _, _, rfl, rfl, ⟨rfl, rfl⟩, ⟨_, _, _, _, rfl, rfl, ⟨rfl, rfl⟩, ⟨_, _, _, _, rfl, rfl, ⟨u2, rfl, hs2⟩, ⟨rfl, rfl⟩⟩⟩⟩ := hy
  exact ⟨⟨y.1, y.2.1, y.2.2.1⟩, _, u2, rfl, by simpa using hs2⟩
theorem reads_Hold : Reads Tryz.prog EHold 216 := fun hh => by
  obtain ⟨y, F, hy⟩ := reads_struct (E := (EProd EInt (EProd EInt EUnit))) Tryz.underlying216 (by kernel_rfl) (.cons rfl (by kernel_rfl) (reads_int Tryz.underlying3) (.cons rfl (by kernel_rfl) (reads_int Tryz.underlying3) (.nil _))) hh
  obtain ⟨_, _, _, _, rfl, rfl, ⟨rfl, rfl⟩, ⟨_, _, _, _, rfl, rfl, ⟨rfl, rfl⟩, ⟨rfl, rfl⟩⟩⟩ := hy
  exact ⟨⟨y.1, y.2.1⟩, [], rfl, rfl⟩
theorem reads_Source : Reads Tryz.prog ESource 53 := fun hh => by
  obtain ⟨y, F, hy⟩ := reads_struct (E := (EProd ESendWindow (EProd EInt (EProd EInt (EProd (ESl EHold (by decide)) EUnit))))) Tryz.underlying53 (by kernel_rfl) (.cons rfl (by kernel_rfl) reads_SendWindow (.cons rfl (by kernel_rfl) (reads_int Tryz.underlying3) (.cons rfl (by kernel_rfl) (reads_int Tryz.underlying3) (.cons rfl (by kernel_rfl) (reads_slice Tryz.underlying51 (by kernel_rfl) (by decide) reads_Hold) (.nil _))))) hh
  obtain ⟨_, _, _, _, rfl, rfl, ⟨u0_0, rfl, hs0_0⟩, ⟨_, _, _, _, rfl, rfl, ⟨rfl, rfl⟩, ⟨_, _, _, _, rfl, rfl, ⟨rfl, rfl⟩, ⟨_, _, _, _, rfl, rfl, ⟨u3, rfl, hs3⟩, ⟨rfl, rfl⟩⟩⟩⟩⟩ := hy
  exact ⟨⟨y.1, y.2.1, y.2.2.1, y.2.2.2.1⟩, _, u0_0, u3, _, _, rfl, hs0_0, hs3, rfl⟩
theorem reads_Entry : Reads Tryz.prog EEntry 246 := fun hh => by
  obtain ⟨y, F, hy⟩ := reads_struct (E := (EProd EInt (EProd (ESl EInt (by decide)) (EProd EInt EUnit)))) Tryz.underlying246 (by kernel_rfl) (.cons rfl (by kernel_rfl) (reads_int Tryz.underlying3) (.cons rfl (by kernel_rfl) (reads_slice Tryz.underlying22 (by kernel_rfl) (by decide) (reads_int Tryz.underlying3)) (.cons rfl (by kernel_rfl) (reads_int Tryz.underlying3) (.nil _)))) hh
  obtain ⟨_, _, _, _, rfl, rfl, ⟨rfl, rfl⟩, ⟨_, _, _, _, rfl, rfl, ⟨u1, rfl, hs1⟩, ⟨_, _, _, _, rfl, rfl, ⟨rfl, rfl⟩, ⟨rfl, rfl⟩⟩⟩⟩ := hy
  exact ⟨⟨y.1, y.2.1, y.2.2.1⟩, _, u1, rfl, by simpa using hs1⟩
theorem reads_Element : Reads Tryz.prog EElement 144 := fun hh => by
  obtain ⟨y, F, hy⟩ := reads_struct (E := (EProd EInt (EProd (ESl EEntry (by decide)) EUnit))) Tryz.underlying144 (by kernel_rfl) (.cons rfl (by kernel_rfl) (reads_int Tryz.underlying3) (.cons rfl (by kernel_rfl) (reads_slice Tryz.underlying142 (by kernel_rfl) (by decide) reads_Entry) (.nil _))) hh
  obtain ⟨_, _, _, _, rfl, rfl, ⟨rfl, rfl⟩, ⟨_, _, _, _, rfl, rfl, ⟨u1, rfl, hs1⟩, ⟨rfl, rfl⟩⟩⟩ := hy
  exact ⟨⟨y.1, y.2.1⟩, _, u1, rfl, by simpa using hs1⟩
theorem reads_Slot : Reads Tryz.prog ESlot 274 := fun hh => by
  obtain ⟨y, F, hy⟩ := reads_struct (E := (EProd EBool (EProd EStr EUnit))) Tryz.underlying274 (by kernel_rfl) (.cons rfl (by kernel_rfl) (reads_bool Tryz.underlying4) (.cons rfl (by kernel_rfl) (reads_str Tryz.underlying9) (.nil _))) hh
  obtain ⟨_, _, _, _, rfl, rfl, ⟨rfl, rfl⟩, ⟨_, _, _, _, rfl, rfl, ⟨rfl, s1, rfl⟩, ⟨rfl, rfl⟩⟩⟩ := hy
  exact ⟨⟨y.1, y.2.1⟩, [], rfl, s1, rfl⟩
theorem reads_ReceiveWindow : Reads Tryz.prog EReceiveWindow 148 := fun hh => by
  obtain ⟨y, F, hy⟩ := reads_struct (E := (EProd EInt (EProd (ESl ESlot (by decide)) EUnit))) Tryz.underlying148 (by kernel_rfl) (.cons rfl (by kernel_rfl) (reads_int Tryz.underlying3) (.cons rfl (by kernel_rfl) (reads_slice Tryz.underlying146 (by kernel_rfl) (by decide) reads_Slot) (.nil _))) hh
  obtain ⟨_, _, _, _, rfl, rfl, ⟨rfl, rfl⟩, ⟨_, _, _, _, rfl, rfl, ⟨u1, rfl, hs1⟩, ⟨rfl, rfl⟩⟩⟩ := hy
  exact ⟨⟨y.1, y.2.1⟩, _, u1, rfl, by simpa using hs1⟩
theorem reads_Request : Reads Tryz.prog ERequest 252 := fun hh => by
  obtain ⟨y, F, hy⟩ := reads_struct (E := (EProd EInt (EProd EInt (EProd EInt (EProd EInt EUnit))))) Tryz.underlying252 (by kernel_rfl) (.cons rfl (by kernel_rfl) (reads_int Tryz.underlying3) (.cons rfl (by kernel_rfl) (reads_int Tryz.underlying3) (.cons rfl (by kernel_rfl) (reads_int Tryz.underlying3) (.cons rfl (by kernel_rfl) (reads_int Tryz.underlying3) (.nil _))))) hh
  obtain ⟨_, _, _, _, rfl, rfl, ⟨rfl, rfl⟩, ⟨_, _, _, _, rfl, rfl, ⟨rfl, rfl⟩, ⟨_, _, _, _, rfl, rfl, ⟨rfl, rfl⟩, ⟨_, _, _, _, rfl, rfl, ⟨rfl, rfl⟩, ⟨rfl, rfl⟩⟩⟩⟩⟩ := hy
  exact ⟨⟨y.1, y.2.1, y.2.2.1, y.2.2.2.1⟩, [], rfl, rfl⟩
theorem reads_Receiver : Reads Tryz.prog EReceiver 151 := fun hh => by
  obtain ⟨y, F, hy⟩ := reads_struct (E := (EProd EBool (EProd EInt (EProd EReceiveWindow (EProd (ESl ERequest (by decide)) EUnit))))) Tryz.underlying151 (by kernel_rfl) (.cons rfl (by kernel_rfl) (reads_bool Tryz.underlying4) (.cons rfl (by kernel_rfl) (reads_int Tryz.underlying3) (.cons rfl (by kernel_rfl) reads_ReceiveWindow (.cons rfl (by kernel_rfl) (reads_slice Tryz.underlying149 (by kernel_rfl) (by decide) reads_Request) (.nil _))))) hh
  obtain ⟨_, _, _, _, rfl, rfl, ⟨rfl, rfl⟩, ⟨_, _, _, _, rfl, rfl, ⟨rfl, rfl⟩, ⟨_, _, _, _, rfl, rfl, ⟨u2_0, rfl, hs2_0⟩, ⟨_, _, _, _, rfl, rfl, ⟨u3, rfl, hs3⟩, ⟨rfl, rfl⟩⟩⟩⟩⟩ := hy
  exact ⟨⟨y.1, y.2.1, y.2.2.1, y.2.2.2.1⟩, _, u2_0, u3, _, _, rfl, hs2_0, hs3, rfl⟩
theorem reads_Packet : Reads Tryz.prog EPacket 208 := fun hh => by
  obtain ⟨y, F, hy⟩ := reads_struct (E := (EProd EInt (EProd EInt (EProd EInt (EProd EInt (EProd EStr EUnit)))))) Tryz.underlying208 (by kernel_rfl) (.cons rfl (by kernel_rfl) (reads_int Tryz.underlying3) (.cons rfl (by kernel_rfl) (reads_int Tryz.underlying3) (.cons rfl (by kernel_rfl) (reads_int Tryz.underlying3) (.cons rfl (by kernel_rfl) (reads_int Tryz.underlying3) (.cons rfl (by kernel_rfl) (reads_str Tryz.underlying9) (.nil _)))))) hh
  obtain ⟨_, _, _, _, rfl, rfl, ⟨rfl, rfl⟩, ⟨_, _, _, _, rfl, rfl, ⟨rfl, rfl⟩, ⟨_, _, _, _, rfl, rfl, ⟨rfl, rfl⟩, ⟨_, _, _, _, rfl, rfl, ⟨rfl, rfl⟩, ⟨_, _, _, _, rfl, rfl, ⟨rfl, s4, rfl⟩, ⟨rfl, rfl⟩⟩⟩⟩⟩⟩ := hy
  exact ⟨⟨y.1, y.2.1, y.2.2.1, y.2.2.2.1, y.2.2.2.2.1⟩, [], rfl, s4, rfl⟩
theorem reads_Net : Reads Tryz.prog ENet 58 := fun hh => by
  obtain ⟨y, F, hy⟩ := reads_struct (E := (EProd ETree (EProd ESource (EProd (ESl EElement (by decide)) (EProd (ESl EReceiver (by decide)) (EProd (ESl (ESl EPacket (by decide)) (by decide)) (EProd (ESl (ESl EPacket (by decide)) (by decide)) EUnit))))))) Tryz.underlying58 (by kernel_rfl) (.cons rfl (by kernel_rfl) reads_Tree (.cons rfl (by kernel_rfl) reads_Source (.cons rfl (by kernel_rfl) (reads_slice Tryz.underlying54 (by kernel_rfl) (by decide) reads_Element) (.cons rfl (by kernel_rfl) (reads_slice Tryz.underlying55 (by kernel_rfl) (by decide) reads_Receiver) (.cons rfl (by kernel_rfl) (reads_slice Tryz.underlying56 (by kernel_rfl) (by decide) (reads_slice Tryz.underlying153 (by kernel_rfl) (by decide) reads_Packet)) (.cons rfl (by kernel_rfl) (reads_slice Tryz.underlying56 (by kernel_rfl) (by decide) (reads_slice Tryz.underlying153 (by kernel_rfl) (by decide) reads_Packet)) (.nil _))))))) hh
  obtain ⟨_, _, _, _, rfl, rfl, ⟨u0_0, rfl, hs0_0⟩, ⟨_, _, _, _, rfl, rfl, ⟨u1_0, u1_1, G1_0, G1_1, rfl, hs1_0, hs1_1, rfl⟩, ⟨_, _, _, _, rfl, rfl, ⟨u2, rfl, hs2⟩, ⟨_, _, _, _, rfl, rfl, ⟨u3, rfl, hs3⟩, ⟨_, _, _, _, rfl, rfl, ⟨u4, rfl, hs4⟩, ⟨_, _, _, _, rfl, rfl, ⟨u5, rfl, hs5⟩, ⟨rfl, rfl⟩⟩⟩⟩⟩⟩⟩ := hy
  exact ⟨⟨y.1, y.2.1, y.2.2.1, y.2.2.2.1, y.2.2.2.2.1, y.2.2.2.2.2.1⟩, _, u0_0, u1_0, u1_1, u2, u3, u4, u5, _, _, _, _, _, _, _, rfl, hs0_0, hs1_0, hs1_1, hs2, hs3, hs4, hs5, rfl⟩
theorem reads_Log : Reads Tryz.prog ELog 59 := fun hh => by
  obtain ⟨y, F, hy⟩ := reads_struct (E := (EProd EStr (EProd EStr (EProd EInt EUnit)))) Tryz.underlying59 (by kernel_rfl) (.cons rfl (by kernel_rfl) (reads_str Tryz.underlying9) (.cons rfl (by kernel_rfl) (reads_str Tryz.underlying9) (.cons rfl (by kernel_rfl) (reads_int Tryz.underlying3) (.nil _)))) hh
  obtain ⟨_, _, _, _, rfl, rfl, ⟨rfl, s0, rfl⟩, ⟨_, _, _, _, rfl, rfl, ⟨rfl, s1, rfl⟩, ⟨_, _, _, _, rfl, rfl, ⟨rfl, rfl⟩, ⟨rfl, rfl⟩⟩⟩⟩ := hy
  exact ⟨⟨y.1, y.2.1, y.2.2.1⟩, [], rfl, s0, s1, rfl⟩
theorem reads_Console : Reads Tryz.prog EConsole 61 := fun hh => by
  obtain ⟨y, F, hy⟩ := reads_struct (E := (EProd ENet (EProd ELog EUnit))) Tryz.underlying61 (by kernel_rfl) (.cons rfl (by kernel_rfl) reads_Net (.cons rfl (by kernel_rfl) reads_Log (.nil _))) hh
  obtain ⟨_, _, _, _, rfl, rfl, ⟨u0_0, u0_1, u0_2, u0_3, u0_4, u0_5, u0_6, G0_0, G0_1, G0_2, G0_3, G0_4, G0_5, G0_6, rfl, hs0_0, hs0_1, hs0_2, hs0_3, hs0_4, hs0_5, hs0_6, rfl⟩, ⟨_, _, _, _, rfl, rfl, ⟨rfl, s1_0, s1_1, rfl⟩, ⟨rfl, rfl⟩⟩⟩ := hy
  exact ⟨⟨y.1, y.2.1⟩, _, u0_0, u0_1, u0_2, u0_3, u0_4, u0_5, u0_6, _, _, _, _, _, _, _, rfl, s1_0, s1_1, hs0_0, hs0_1, hs0_2, hs0_3, hs0_4, hs0_5, hs0_6, rfl⟩
set_option maxRecDepth 100000 in
theorem lifted_FormatConsole (os : Os) (started : os.Started) (H : Type) (enc : TypeId × Value → H) :
    ReturnsInHanded {} Tryz.checked os 5 .any (fun w args => (Rows.fnExactFormatConsoleSpec.pre enc Tryz.prog Tryz.f5 Rows.fnExactFormatConsoleRow.domain false w args ∧ laidMetH Tryz.prog Rows.fnExactFormatConsoleRow.laid w) ∧ sizedMet enc Tryz.prog Tryz.f5 (OpenSpec.ofChange Rows.fnExactFormatConsoleSpec) false w args)
      (Rows.fnExactFormatConsoleSpec.post enc Tryz.prog Tryz.f5 false true false false) := by
  refine returnsInHanded_of_change_and (C := Tryz.checked) (X := fun w _ => laidMetH Tryz.prog Rows.fnExactFormatConsoleRow.laid w) (fun _ _ _ hh h => h.of_heap hh) (by kernel_rfl) started (by kernel_rfl) Tryz.func5
    (ChangeSpec.witness_shaped (enc := enc) (C := Tryz.checked) (os := os) (X := fun w _ => laidMetH Tryz.prog Rows.fnExactFormatConsoleRow.laid w) false (World.laidAll Tryz.prog os Rows.fnExactFormatConsoleRow.laid) #[.agg #[.slice none 0 0, .int .i64 0, .int .i64 0, .slice none 0 0, .int .i64 0, .int .i64 0, .slice none 0 0, .slice none 0 0, .slice none 0 0, .slice none 0 0, .slice none 0 0, .string ⟨#[]⟩, .string ⟨#[]⟩, .int .i64 0]] 8 (World.laidAll_os _ _ _)
      (World.shaped_of_ZipB (by kernel_rfl) (by kernel_rfl)) (by kernel_rfl) (by kernel_rfl) (by kernel_rfl)
      (by rw [MakeChecks.laidMetH_plain _ _ _ (by kernel_rfl)]; exact laidMet_laidAll _ (by kernel_rfl) (by kernel_rfl))) ?_
  intro W base args ds gs before hval0 hW hc_ _ hL _
  have hval : ∀ (j : Nat) t v, Tryz.f5.params[j]? = some t → args[j]? = some v → Value.okWide Tryz.prog W .any base t v := hval0
  have hW' := hW
  obtain ⟨p, q, hA0, hV, rfl, hfz, hnd⟩ := hW
  have hA : DataW.TrodAll enc Tryz.prog W 0 (fun _ => true) true Tryz.f5.params.toList args.toList ds p := hA0
  rw [Tryz.params5] at hA hval
  obtain ⟨v0, d0, rfl, rfl, h0⟩ := trodAll_one hA
  obtain ⟨cs0, rfl, hsz0⟩ := okWide_struct Tryz.underlying61 (hval 0 61 v0 rfl rfl)
  obtain ⟨fuel0, hf0⟩ := h0
  obtain ⟨x0, F0, hx0⟩ := reads_Console hf0
  have hT := env_FormatConsole hL
  refine (law_FormatConsole _ x0 F0 _ W ⟨cs0.toList, by simp, by simpa [Value.cells] using hx0⟩ hT).mono fun e W' ⟨he, hB⟩ => ⟨_, he, law_post (tb := 4) (by kernel_rfl) ?_ Tryz.underlying4 (by kernel_rfl) rfl rfl hW' hB⟩
  rw [Tryz.params5]
  simp only [List.mem_cons, List.not_mem_nil, or_false, forall_eq]
  exact ⟨by kernel_rfl, of_decide_eq_true (by kernel_rfl)⟩
end Go.Proofs.YtccmhdheoeglmaaGreatDoor
/- The law FnExactFormatConsole: what is counted of the program, each count by itself. Written by wip/genlaw.py. -/
namespace Go.Proofs.YtccmhdheoeglmaaGreatDoor
open Go.RowKit Go.ChangeShapes Go.WideShapes Go.ChangeAt
set_option maxRecDepth 100000 in
set_option maxHeartbeats 0 in
theorem jf_FormatConsole : joinedFacts Tryz.prog 5 Tryz.f5 Rows.fnExactFormatConsoleSpec Rows.fnExactFormatConsoleRow = true := by
  unfold joinedFacts
  simp only [Bool.and_eq_true]
  repeat' refine And.intro ?_ ?_
  all_goals (as_aux_lemma => kernel_rfl)
end Go.Proofs.YtccmhdheoeglmaaGreatDoor
