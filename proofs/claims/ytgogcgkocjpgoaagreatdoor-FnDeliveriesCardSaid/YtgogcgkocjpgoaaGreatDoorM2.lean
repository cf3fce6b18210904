/- Part 2 of the proof: 30 texts, one behind the other. -/
import Derived.Laws.Bits64b
import Derived.Lib.ItoaNum
import Derived.Lib.Bytealg
import Derived.Lib.Overlaps
import Derived.Lib.AppendZerosOnto
import Derived.Laws.IdiomCopy
import Derived.Test.YtgogcgkocjpgoaaGreatDoorShelf
import Derived.Lib.Strings
import Derived.Lib.LaidTab
import Derived.Lib.ItoaMem
import Derived.WideLaws
import Derived.Test.YtgogcgkocjpgoaaGreatDoorM1
/- Walks: the reference's draws: a cursor over bytes. -/
namespace Go.Proofs.YtgogcgkocjpgoaaGreatDoor
open Go.RowKit
theorem Sl.byte {w v} {xs : List Int} {F} (h : Sl EByte w v xs F) : xs.length ≤ maxLen ∧ ∀ k (hk : k < xs.length), (0 ≤ xs[k] ∧ xs[k] ≤ 255) ∧ ∃ b off, v = .slice (some ⟨b, off, none⟩) xs.length (match v with | .slice _ _ c => c | _ => 0) ∧ b ∈ F ∧ w.cell? ⟨b, off + k, none⟩ = some (.int .u8 xs[k]) := by
  obtain ⟨a, cap, rfl, hl, ⟨rfl, rfl, _⟩ | ⟨b, off, F', rfl, hne, rfl, hc⟩⟩ := h
  · exact ⟨by simp, fun k hk => by simp at hk⟩
  · refine ⟨by omega, fun k hk => ?_⟩
    obtain ⟨cs, F1, ⟨rfl, h0, h1, rfl⟩, hcell, _⟩ := hc.get k hk
    refine ⟨⟨h0, h1⟩, b, off, rfl, by simp, ?_⟩
    simpa [EByte] using hcell 0 (by decide)
/-- the bytes that a cursor reads -/
structure CuF where
  code : List Int
  a : Option Addr
  c : Nat
  bs : List Nat
/-- the cursor lies in block g; its bytes in F, below it; it has moved at most B steps -/
def Cur (B : Nat) (w : World) (g : Nat) (F : CuF) : Prop :=
  ∃ (k : Nat) (seed : Int), Row w g 123 [.slice F.a F.code.length F.c, .int .i64 k, .int .u64 seed] ∧ Sl EByte w (.slice F.a F.code.length F.c) F.code F.bs ∧ g ∉ F.bs ∧ k ≤ B ∧ 0 ≤ seed ∧ seed < 18446744073709551616
theorem Cur.keep {B w w' g F K} (h : Cur B w g F) (hk : Keep K w w') (h1 : g ∉ K) (h2 : ∀ b ∈ F.bs, b ∉ K) : Cur B w' g F := by
  obtain ⟨k, seed, R, S, hF, h3⟩ := h
  exact ⟨k, seed, R.keepK hk h1, S.keep hk h2 (by decide), hF, h3⟩
theorem Cur.below {B w w' g F} (h : Cur B w g F) (hb : Below w.heap.size w w') : Cur B w' g F := by
  obtain ⟨k, seed, R, S, hF, h3⟩ := h
  exact ⟨k, seed, R.below hb, S.below (by decide) hb, hF, h3⟩
theorem Cur.mono {B B' w g F} (h : Cur B w g F) (hb : B ≤ B') : Cur B' w g F := by
  obtain ⟨k, seed, R, S, hF, h3, h4⟩ := h
  exact ⟨k, seed, R, S, hF, by omega, h4⟩
theorem Cur.lt {B w g F} (h : Cur B w g F) : g < w.heap.size := by
  obtain ⟨k, seed, R, _⟩ := h; exact R.lt
def PNext (B g : Nat) (F : CuF) (w : World) (e : Ending) (w' : World) : Prop := ∃ r : Nat, e = .returned (.int .i64 r) ∧ r ≤ 255 ∧ Cur (B + 1) w' g F ∧ Keep [g] w w'
set_option maxHeartbeats 3200000 in
set_option maxRecDepth 100000 in
theorem next_c (B g : Nat) (F : CuF) (w : World) (h : Cur B w g F) (hB0 : B ≤ 1099511627776) :
    Calls Tryz.prog 215 #[.pointer (some ⟨g, 0, none⟩)] w (PNext B g F w) := by
  obtain ⟨code, a, c, F⟩ := F
  obtain ⟨k, seed, R, S, hF, h2, h3, h4⟩ := h
  dsimp only at R S hF
  have hl := S.byte.1
  unfold maxLen at hl
  have hlt := S.lt (by decide)
  by_cases hk : k < code.length
  · obtain ⟨⟨hz0, hz1⟩, b, off, hv, hbF, hcell⟩ := S.byte.2 k hk
    simp only [Value.slice.injEq] at hv
    obtain ⟨rfl, -, -⟩ := hv
    generalize code[k] = z at *
    have hbg : b ≠ g := fun e => hF (e ▸ hbF)
    have hcl := fun w' (hb : Below w.heap.size w w') => kc hb hcell
    replace hcl := Lib.hid hcl
    clear hcell
    have hB := Below.refl w.heap.size w
    go_enter Tryz.func215, Tryz.ntmps215
    go_wp2_with fail
    refine AnyX.start (S := (fun w' => w'.cell? ⟨g, 0, none⟩ = some (.slice (some ⟨b, off, none⟩) code.length c) ∧ w'.cell? ⟨g, 1, none⟩ = some (.int .i64 k) ∧ w'.cell? ⟨g, 2, none⟩ = some (.int .u64 seed) ∧ w'.cell? ⟨b, off + k, none⟩ = some (.int .u8 z))) (X := (fun _ => false)) (by kernel_rfl) ?_
    have al : Below w.heap.size w w.drew := belowDrewN (Below.refl _ _) 1
    have hs_w1 := al.size
    replace R := R.below al
    replace S := S.below (by decide) al
    replace hB := tr hB al (Nat.le_refl _)
    generalize w.drew = w1 at *
    clear al
    have hS : (fun w' => w'.cell? ⟨g, 0, none⟩ = some (.slice (some ⟨b, off, none⟩) code.length c) ∧ w'.cell? ⟨g, 1, none⟩ = some (.int .i64 k) ∧ w'.cell? ⟨g, 2, none⟩ = some (.int .u64 seed) ∧ w'.cell? ⟨b, off + k, none⟩ = some (.int .u8 z)) w1 := ⟨R.cells 0, R.cells 1, R.cells 2, hcl.out _ hB⟩
    refine AnyX.take (i := 0) (oi := _) (v := ?_) (by rw [List.getElem?_toArray]; rfl) (by kernel_rfl) (by kernel_rfl) (by kernel_rfl) (by kernel_rfl) (by kernel_rfl) (by exact fun _ _ _ h => h) (Or.inl ⟨by rfl, ?_⟩) hS ?_
    rotate_left
    · (intro wS hSw; (try dsimp only at hSw); go_simp; try with_reducible rfl)
    try simp only [Act.put, List.setIfInBounds_toArray, List.set_cons_zero, List.set_cons_succ]
    refine AnyX.take (i := 1) (oi := _) (v := ?_) (by rw [List.getElem?_toArray]; rfl) (by kernel_rfl) (by kernel_rfl) (by kernel_rfl) (by kernel_rfl) (by kernel_rfl) (by exact fun _ _ _ h => h) (Or.inl ⟨by rfl, ?_⟩) hS ?_
    rotate_left
    · (intro wS hSw; (try dsimp only at hSw); go_simp; try with_reducible rfl)
    try simp only [Act.put, List.setIfInBounds_toArray, List.set_cons_zero, List.set_cons_succ]
    refine AnyX.take (i := 2) (oi := _) (v := ?_) (by rw [List.getElem?_toArray]; rfl) (by kernel_rfl) (by kernel_rfl) (by kernel_rfl) (by kernel_rfl) (by kernel_rfl) (by exact fun _ _ _ h => h) (Or.inl ⟨by rfl, ?_⟩) hS ?_
    rotate_left
    · (intro wS hSw; (try dsimp only at hSw); go_simp; try with_reducible rfl)
    try simp only [Act.put, List.setIfInBounds_toArray, List.set_cons_zero, List.set_cons_succ]
    refine AnyX.take (i := 3) (oi := _) (v := ?_) (by rw [List.getElem?_toArray]; rfl) (by kernel_rfl) (by kernel_rfl) (by kernel_rfl) (by kernel_rfl) (by kernel_rfl) (by exact fun _ _ _ h => h) (Or.inl ⟨by rfl, ?_⟩) hS ?_
    rotate_left
    · (intro wS hSw; (try dsimp only at hSw); go_simp; try with_reducible rfl)
    try simp only [Act.put, List.setIfInBounds_toArray, List.set_cons_zero, List.set_cons_succ]
    refine AnyX.take (i := 4) (oi := _) (v := ?_) (by rw [List.getElem?_toArray]; rfl) (by kernel_rfl) (by kernel_rfl) (by kernel_rfl) (by kernel_rfl) (by kernel_rfl) (by exact fun _ _ _ h => h) (Or.inl ⟨by rfl, ?_⟩) hS ?_
    rotate_left
    · (intro wS hSw; (try dsimp only at hSw); go_simp; try with_reducible rfl)
    try simp only [Act.put, List.setIfInBounds_toArray, List.set_cons_zero, List.set_cons_succ]
    refine AnyX.take (i := 5) (oi := _) (v := ?_) (by rw [List.getElem?_toArray]; rfl) (by kernel_rfl) (by kernel_rfl) (by kernel_rfl) (by kernel_rfl) (by kernel_rfl) (by exact fun _ _ _ h => h) (Or.inl ⟨by rfl, ?_⟩) hS ?_
    rotate_left
    · (intro wS hSw; (try dsimp only at hSw); go_simp; try with_reducible rfl)
    try simp only [Act.put, List.setIfInBounds_toArray, List.set_cons_zero, List.set_cons_succ]
    refine AnyX.take (i := 6) (oi := _) (v := ?_) (by rw [List.getElem?_toArray]; rfl) (by kernel_rfl) (by kernel_rfl) (by kernel_rfl) (by kernel_rfl) (by kernel_rfl) (by exact fun _ _ _ h => h) (Or.inl ⟨by rfl, ?_⟩) hS ?_
    rotate_left
    · (intro wS hSw; (try dsimp only at hSw); go_simp; try with_reducible rfl)
    try simp only [Act.put, List.setIfInBounds_toArray, List.set_cons_zero, List.set_cons_succ]
    refine AnyX.take (i := 7) (oi := _) (v := ?_) (by rw [List.getElem?_toArray]; rfl) (by kernel_rfl) (by kernel_rfl) (by kernel_rfl) (by kernel_rfl) (by kernel_rfl) (by exact fun _ _ _ h => h) (Or.inl ⟨by rfl, ?_⟩) hS ?_
    rotate_left
    · (intro wS hSw; (try dsimp only at hSw); go_simp; try with_reducible rfl)
    try simp only [Act.put, List.setIfInBounds_toArray, List.set_cons_zero, List.set_cons_succ]
    refine AnyX.take (i := 8) (oi := _) (v := ?_) (by rw [List.getElem?_toArray]; rfl) (by kernel_rfl) (by kernel_rfl) (by kernel_rfl) (by kernel_rfl) (by kernel_rfl) (by exact fun _ _ _ h => h) (Or.inl ⟨by rfl, ?_⟩) hS ?_
    rotate_left
    · (intro wS hSw; (try dsimp only at hSw); go_simp; try with_reducible rfl)
    try simp only [Act.put, List.setIfInBounds_toArray, List.set_cons_zero, List.set_cons_succ]
    refine AnyX.take (i := 9) (oi := _) (v := ?_) (by rw [List.getElem?_toArray]; rfl) (by kernel_rfl) (by kernel_rfl) (by kernel_rfl) (by kernel_rfl) (by kernel_rfl) (by exact fun _ _ _ h => h) (Or.inl ⟨by rfl, ?_⟩) hS ?_
    rotate_left
    · (intro wS hSw; (try dsimp only at hSw); go_simp; try with_reducible rfl)
    try simp only [Act.put, List.setIfInBounds_toArray, List.set_cons_zero, List.set_cons_succ]
    refine AnyX.done (by kernel_rfl) ?_ _
    (try clear hS)
    have c_R := R.cells; have f_R := R.frozens
    go_wp2_with fail
    clear c_R f_R
    rename_i K0 hK0
    refine AnyX.start (S := (fun w' => w'.cell? ⟨g, 0, none⟩ = some (.slice (some ⟨b, off, none⟩) code.length c) ∧ w'.cell? ⟨g, 1, none⟩ = some (.int .i64 k) ∧ w'.cell? ⟨g, 2, none⟩ = some (.int .u64 seed) ∧ w'.cell? ⟨b, off + k, none⟩ = some (.int .u8 z))) (X := (fun _ => false)) (by kernel_rfl) ?_
    have al : Below w1.heap.size w1 w1.drew := belowDrewN (Below.refl _ _) 1
    have hs_w2 := al.size
    replace R := R.below al
    replace S := S.below (by decide) al
    replace hB := tr hB al (Nat.le_refl _)
    generalize w1.drew = w2 at *
    clear al
    have hS : (fun w' => w'.cell? ⟨g, 0, none⟩ = some (.slice (some ⟨b, off, none⟩) code.length c) ∧ w'.cell? ⟨g, 1, none⟩ = some (.int .i64 k) ∧ w'.cell? ⟨g, 2, none⟩ = some (.int .u64 seed) ∧ w'.cell? ⟨b, off + k, none⟩ = some (.int .u8 z)) w2 := ⟨R.cells 0, R.cells 1, R.cells 2, hcl.out _ hB⟩
    refine AnyX.take (i := 0) (oi := _) (v := ?_) (by rw [List.getElem?_toArray]; rfl) (by kernel_rfl) (by kernel_rfl) (by kernel_rfl) (by kernel_rfl) (by kernel_rfl) (by exact fun _ _ _ h => h) (Or.inl ⟨by rfl, ?_⟩) hS ?_
    rotate_left
    · (intro wS hSw; (try dsimp only at hSw); go_simp; try with_reducible rfl)
    try simp only [Act.put, List.setIfInBounds_toArray, List.set_cons_zero, List.set_cons_succ]
    refine AnyX.take (i := 1) (oi := _) (v := ?_) (by rw [List.getElem?_toArray]; rfl) (by kernel_rfl) (by kernel_rfl) (by kernel_rfl) (by kernel_rfl) (by kernel_rfl) (by exact fun _ _ _ h => h) (Or.inl ⟨by rfl, ?_⟩) hS ?_
    rotate_left
    · (intro wS hSw; (try dsimp only at hSw); go_simp; try with_reducible rfl)
    try simp only [Act.put, List.setIfInBounds_toArray, List.set_cons_zero, List.set_cons_succ]
    refine AnyX.take (i := 2) (oi := _) (v := ?_) (by rw [List.getElem?_toArray]; rfl) (by kernel_rfl) (by kernel_rfl) (by kernel_rfl) (by kernel_rfl) (by kernel_rfl) (by exact fun _ _ _ h => h) (Or.inl ⟨by rfl, ?_⟩) hS ?_
    rotate_left
    · (intro wS hSw; (try dsimp only at hSw); go_simp; try with_reducible rfl)
    try simp only [Act.put, List.setIfInBounds_toArray, List.set_cons_zero, List.set_cons_succ]
    refine AnyX.take (i := 3) (oi := _) (v := ?_) (by rw [List.getElem?_toArray]; rfl) (by kernel_rfl) (by kernel_rfl) (by kernel_rfl) (by kernel_rfl) (by kernel_rfl) (by exact fun _ _ _ h => h) (Or.inl ⟨by rfl, ?_⟩) hS ?_
    rotate_left
    · (intro wS hSw; (try dsimp only at hSw); go_simp; try with_reducible rfl)
    try simp only [Act.put, List.setIfInBounds_toArray, List.set_cons_zero, List.set_cons_succ]
    refine AnyX.take (i := 4) (oi := _) (v := ?_) (by rw [List.getElem?_toArray]; rfl) (by kernel_rfl) (by kernel_rfl) (by kernel_rfl) (by kernel_rfl) (by kernel_rfl) (by exact fun _ _ _ h => h) (Or.inl ⟨by rfl, ?_⟩) hS ?_
    rotate_left
    · (intro wS hSw; (try dsimp only at hSw); go_simp; try with_reducible rfl)
    try simp only [Act.put, List.setIfInBounds_toArray, List.set_cons_zero, List.set_cons_succ]
    refine AnyX.take (i := 5) (oi := _) (v := ?_) (by rw [List.getElem?_toArray]; rfl) (by kernel_rfl) (by kernel_rfl) (by kernel_rfl) (by kernel_rfl) (by kernel_rfl) (by exact fun _ _ _ h => h) (Or.inl ⟨by rfl, ?_⟩) hS ?_
    rotate_left
    · (intro wS hSw; (try dsimp only at hSw); go_simp; try with_reducible rfl)
    try simp only [Act.put, List.setIfInBounds_toArray, List.set_cons_zero, List.set_cons_succ]
    refine AnyX.take (i := 6) (oi := _) (v := ?_) (by rw [List.getElem?_toArray]; rfl) (by kernel_rfl) (by kernel_rfl) (by kernel_rfl) (by kernel_rfl) (by kernel_rfl) (by exact fun _ _ _ h => h) (Or.inl ⟨by rfl, ?_⟩) hS ?_
    rotate_left
    · (intro wS hSw; (try dsimp only at hSw); go_simp; try with_reducible rfl)
    try simp only [Act.put, List.setIfInBounds_toArray, List.set_cons_zero, List.set_cons_succ]
    refine AnyX.take (i := 7) (oi := _) (v := ?_) (by rw [List.getElem?_toArray]; rfl) (by kernel_rfl) (by kernel_rfl) (by kernel_rfl) (by kernel_rfl) (by kernel_rfl) (by exact fun _ _ _ h => h) (Or.inl ⟨by rfl, ?_⟩) hS ?_
    rotate_left
    · (intro wS hSw; (try dsimp only at hSw); go_simp; try with_reducible rfl)
    try simp only [Act.put, List.setIfInBounds_toArray, List.set_cons_zero, List.set_cons_succ]
    refine AnyX.take (i := 8) (oi := _) (v := ?_) (by rw [List.getElem?_toArray]; rfl) (by kernel_rfl) (by kernel_rfl) (by kernel_rfl) (by kernel_rfl) (by kernel_rfl) (by exact fun _ _ _ h => h) (Or.inl ⟨by rfl, ?_⟩) hS ?_
    rotate_left
    · (intro wS hSw; (try dsimp only at hSw); go_simp; try with_reducible rfl)
    try simp only [Act.put, List.setIfInBounds_toArray, List.set_cons_zero, List.set_cons_succ]
    refine AnyX.take (i := 9) (oi := _) (v := ?_) (by rw [List.getElem?_toArray]; rfl) (by kernel_rfl) (by kernel_rfl) (by kernel_rfl) (by kernel_rfl) (by kernel_rfl) (by exact fun _ _ _ h => h) (Or.inl ⟨by rfl, ?_⟩) hS ?_
    rotate_left
    · (intro wS hSw; (try dsimp only at hSw); go_simp; try with_reducible rfl)
    try simp only [Act.put, List.setIfInBounds_toArray, List.set_cons_zero, List.set_cons_succ]
    refine AnyX.take (i := 10) (oi := _) (v := ?_) (by rw [List.getElem?_toArray]; rfl) (by kernel_rfl) (by kernel_rfl) (by kernel_rfl) (by kernel_rfl) (by kernel_rfl) (by exact fun _ _ _ h => h) (Or.inl ⟨by rfl, ?_⟩) hS ?_
    rotate_left
    · (intro wS hSw; (try dsimp only at hSw); go_simp; try with_reducible rfl)
    try simp only [Act.put, List.setIfInBounds_toArray, List.set_cons_zero, List.set_cons_succ]
    refine AnyX.only (i := 11) (o := _) (by kernel_rfl) (by rw [List.getElem?_toArray]; rfl) (fun K hK => ?_)
    try go_simp
    clear hS
    have hS : (fun w' => w'.cell? ⟨g, 0, none⟩ = some (.slice (some ⟨b, off, none⟩) code.length c) ∧ w'.cell? ⟨g, 1, none⟩ = some (.int .i64 k) ∧ w'.cell? ⟨g, 2, none⟩ = some (.int .u64 seed) ∧ w'.cell? ⟨b, off + k, none⟩ = some (.int .u8 z)) w2 := ⟨R.cells 0, R.cells 1, R.cells 2, hcl.out _ hB⟩
    refine hK.out _ _ (fun _ => hS) ?_
    clear hK K
    try simp only [Act.put, List.setIfInBounds_toArray, List.set_cons_zero, List.set_cons_succ]
    refine AnyX.done (by kernel_rfl) ?_ _
    (try clear hS)
    refine hK0 _ _ ?_
    clear hK0 K0
    have c_R := R.cells; have f_R := R.frozens
    go_wp2_with fail
    clear c_R f_R
    have n_K : Keep [g] w ((w2.setCell ⟨g, 1, none⟩ (.int .i64 ((k : Int) + 1))).setCell ⟨g, 2, none⟩ (.int .u64 (IntKind.u64.wrap (IntKind.u64.wrap (IntKind.u64.wrap (seed * 6364136223846793005) + z) + 840840)))) := ((Keep.ofBelow hB).setCell (p := ⟨g, 1, none⟩) (by simp) _).setCell (p := ⟨g, 2, none⟩) (by simp) _
    have n_R : Row ((w2.setCell ⟨g, 1, none⟩ (.int .i64 ((k : Int) + 1))).setCell ⟨g, 2, none⟩ (.int .u64 (IntKind.u64.wrap (IntKind.u64.wrap (IntKind.u64.wrap (seed * 6364136223846793005) + z) + 840840)))) g 123 [.slice (some ⟨b, off, none⟩) code.length c, .int .i64 ((k + 1 : Nat) : Int), .int .u64 (IntKind.u64.wrap (IntKind.u64.wrap (IntKind.u64.wrap (seed * 6364136223846793005) + z) + 840840))] := by simpa using ((R.set 1 (.int .i64 ((k : Int) + 1))).set 2 (.int .u64 (IntKind.u64.wrap (IntKind.u64.wrap (IntKind.u64.wrap (seed * 6364136223846793005) + z) + 840840))))
    have n_S : Sl EByte ((w2.setCell ⟨g, 1, none⟩ (.int .i64 ((k : Int) + 1))).setCell ⟨g, 2, none⟩ (.int .u64 (IntKind.u64.wrap (IntKind.u64.wrap (IntKind.u64.wrap (seed * 6364136223846793005) + z) + 840840)))) (Value.slice (some ⟨b, off, none⟩) code.length c) code F := S.frame (fun b hb => by have : b ≠ g := fun e => hF (e ▸ hb); repeat rw [Below.heap_setCell _ _ _ _ (by simp <;> omega)])
    have hs0 : 0 ≤ (IntKind.u64.wrap (IntKind.u64.wrap (IntKind.u64.wrap (seed * 6364136223846793005) + z) + 840840)) ∧ (IntKind.u64.wrap (IntKind.u64.wrap (IntKind.u64.wrap (seed * 6364136223846793005) + z) + 840840)) < 18446744073709551616 := by rw [IntKind.wrap_u64]; omega
    clear R S hB
    generalize (IntKind.u64.wrap (IntKind.u64.wrap (IntKind.u64.wrap (seed * 6364136223846793005) + z) + 840840)) = sd at *
    obtain ⟨hs0, hs1⟩ := hs0
    generalize ((w2.setCell ⟨g, 1, none⟩ (.int .i64 ((k : Int) + 1))).setCell ⟨g, 2, none⟩ (.int .u64 sd)) = w3 at *
    have R := n_R; clear n_R
    have S := n_S; clear n_S
    rename_i K0 hK0
    refine AnyX.start (S := (fun w' => w'.cell? ⟨g, 0, none⟩ = some (.slice (some ⟨b, off, none⟩) code.length c) ∧ w'.cell? ⟨g, 1, none⟩ = some (.int .i64 ((k + 1 : Nat) : Int)) ∧ w'.cell? ⟨g, 2, none⟩ = some (.int .u64 sd))) (X := (fun _ => false)) (by kernel_rfl) ?_
    have al : Below w3.heap.size w3 w3.drew := belowDrewN (Below.refl _ _) 1
    have hs_w4 := al.size
    replace R := R.below al
    replace S := S.below (by decide) al
    have hB := al
    generalize w3.drew = w4 at *
    clear al
    have hS : (fun w' => w'.cell? ⟨g, 0, none⟩ = some (.slice (some ⟨b, off, none⟩) code.length c) ∧ w'.cell? ⟨g, 1, none⟩ = some (.int .i64 ((k + 1 : Nat) : Int)) ∧ w'.cell? ⟨g, 2, none⟩ = some (.int .u64 sd)) w4 := ⟨R.cells 0, R.cells 1, R.cells 2⟩
    refine AnyX.take (i := 0) (oi := _) (v := ?_) (by rw [List.getElem?_toArray]; rfl) (by kernel_rfl) (by kernel_rfl) (by kernel_rfl) (by kernel_rfl) (by kernel_rfl) (by exact fun _ _ _ h => h) (Or.inl ⟨by rfl, ?_⟩) hS ?_
    rotate_left
    · (intro wS hSw; (try dsimp only at hSw); go_simp; try with_reducible rfl)
    try simp only [Act.put, List.setIfInBounds_toArray, List.set_cons_zero, List.set_cons_succ]
    refine AnyX.take (i := 1) (oi := _) (v := ?_) (by rw [List.getElem?_toArray]; rfl) (by kernel_rfl) (by kernel_rfl) (by kernel_rfl) (by kernel_rfl) (by kernel_rfl) (by exact fun _ _ _ h => h) (Or.inl ⟨by rfl, ?_⟩) hS ?_
    rotate_left
    · (intro wS hSw; (try dsimp only at hSw); go_simp; try with_reducible rfl)
    try simp only [Act.put, List.setIfInBounds_toArray, List.set_cons_zero, List.set_cons_succ]
    refine AnyX.take (i := 2) (oi := _) (v := ?_) (by rw [List.getElem?_toArray]; rfl) (by kernel_rfl) (by kernel_rfl) (by kernel_rfl) (by kernel_rfl) (by kernel_rfl) (by exact fun _ _ _ h => h) (Or.inl ⟨by rfl, ?_⟩) hS ?_
    rotate_left
    · (intro wS hSw; (try dsimp only at hSw); go_simp; try with_reducible rfl)
    try simp only [Act.put, List.setIfInBounds_toArray, List.set_cons_zero, List.set_cons_succ]
    refine AnyX.take (i := 3) (oi := _) (v := ?_) (by rw [List.getElem?_toArray]; rfl) (by kernel_rfl) (by kernel_rfl) (by kernel_rfl) (by kernel_rfl) (by kernel_rfl) (by exact fun _ _ _ h => h) (Or.inl ⟨by rfl, ?_⟩) hS ?_
    rotate_left
    · (intro wS hSw; (try dsimp only at hSw); go_simp; try with_reducible rfl)
    try simp only [Act.put, List.setIfInBounds_toArray, List.set_cons_zero, List.set_cons_succ]
    refine AnyX.take (i := 4) (oi := _) (v := ?_) (by rw [List.getElem?_toArray]; rfl) (by kernel_rfl) (by kernel_rfl) (by kernel_rfl) (by kernel_rfl) (by kernel_rfl) (by exact fun _ _ _ h => h) (Or.inl ⟨by rfl, ?_⟩) hS ?_
    rotate_left
    · (intro wS hSw; (try dsimp only at hSw); go_simp; try with_reducible rfl)
    try simp only [Act.put, List.setIfInBounds_toArray, List.set_cons_zero, List.set_cons_succ]
    refine AnyX.take (i := 5) (oi := _) (v := ?_) (by rw [List.getElem?_toArray]; rfl) (by kernel_rfl) (by kernel_rfl) (by kernel_rfl) (by kernel_rfl) (by kernel_rfl) (by exact fun _ _ _ h => h) (Or.inl ⟨by rfl, ?_⟩) hS ?_
    rotate_left
    · (intro wS hSw; (try dsimp only at hSw); go_simp; try with_reducible rfl)
    try simp only [Act.put, List.setIfInBounds_toArray, List.set_cons_zero, List.set_cons_succ]
    refine AnyX.take (i := 6) (oi := _) (v := ?_) (by rw [List.getElem?_toArray]; rfl) (by kernel_rfl) (by kernel_rfl) (by kernel_rfl) (by kernel_rfl) (by kernel_rfl) (by exact fun _ _ _ h => h) (Or.inl ⟨by rfl, ?_⟩) hS ?_
    rotate_left
    · (intro wS hSw; (try dsimp only at hSw); go_simp; try with_reducible rfl)
    try simp only [Act.put, List.setIfInBounds_toArray, List.set_cons_zero, List.set_cons_succ]
    refine AnyX.take (i := 7) (oi := _) (v := ?_) (by rw [List.getElem?_toArray]; rfl) (by kernel_rfl) (by kernel_rfl) (by kernel_rfl) (by kernel_rfl) (by kernel_rfl) (by exact fun _ _ _ h => h) (Or.inl ⟨by rfl, ?_⟩) hS ?_
    rotate_left
    · (intro wS hSw; (try dsimp only at hSw); go_simp; try with_reducible rfl)
    try simp only [Act.put, List.setIfInBounds_toArray, List.set_cons_zero, List.set_cons_succ]
    refine AnyX.take (i := 8) (oi := _) (v := ?_) (by rw [List.getElem?_toArray]; rfl) (by kernel_rfl) (by kernel_rfl) (by kernel_rfl) (by kernel_rfl) (by kernel_rfl) (by exact fun _ _ _ h => h) (Or.inl ⟨by rfl, ?_⟩) hS ?_
    rotate_left
    · (intro wS hSw; (try dsimp only at hSw); go_simp; try with_reducible rfl)
    try simp only [Act.put, List.setIfInBounds_toArray, List.set_cons_zero, List.set_cons_succ]
    refine AnyX.take (i := 9) (oi := _) (v := ?_) (by rw [List.getElem?_toArray]; rfl) (by kernel_rfl) (by kernel_rfl) (by kernel_rfl) (by kernel_rfl) (by kernel_rfl) (by exact fun _ _ _ h => h) (Or.inl ⟨by rfl, ?_⟩) hS ?_
    rotate_left
    · (intro wS hSw; (try dsimp only at hSw); go_simp; try with_reducible rfl)
    try simp only [Act.put, List.setIfInBounds_toArray, List.set_cons_zero, List.set_cons_succ]
    refine AnyX.done (by kernel_rfl) ?_ _
    (try clear hS)
    refine hK0 _ _ ?_
    clear hK0 K0
    have n_K2 := n_K.trans (Keep.ofBelow hB)
    have c_R := R.cells; have f_R := R.frozens
    go_wp2_with fail
    refine bodyPost_ret (v := .int .i64 (IntKind.i64.wrap z)) ?_ rfl ?_
    · simp [results, Tryz.results215, go_sem]
    · refine ⟨z.toNat, ?_, by omega, ⟨k + 1, sd, R, S, hF, by omega, hs0, hs1⟩, n_K2⟩
      rw [show IntKind.i64.wrap z = ((z.toNat : Nat) : Int) from by rw [IntKind.wrap_i64]; omega]
  · have hB := Below.refl w.heap.size w
    go_enter Tryz.func215, Tryz.ntmps215
    go_wp2_with fail
    refine AnyX.start (S := (fun w' => w'.cell? ⟨g, 0, none⟩ = some (.slice a code.length c) ∧ w'.cell? ⟨g, 1, none⟩ = some (.int .i64 k) ∧ w'.cell? ⟨g, 2, none⟩ = some (.int .u64 seed))) (X := (fun _ => false)) (by kernel_rfl) ?_
    have al : Below w.heap.size w w.drew := belowDrewN (Below.refl _ _) 1
    have hs_w5 := al.size
    replace R := R.below al
    replace S := S.below (by decide) al
    replace hB := tr hB al (Nat.le_refl _)
    generalize w.drew = w5 at *
    clear al
    have hS : (fun w' => w'.cell? ⟨g, 0, none⟩ = some (.slice a code.length c) ∧ w'.cell? ⟨g, 1, none⟩ = some (.int .i64 k) ∧ w'.cell? ⟨g, 2, none⟩ = some (.int .u64 seed)) w5 := ⟨R.cells 0, R.cells 1, R.cells 2⟩
    refine AnyX.take (i := 0) (oi := _) (v := ?_) (by rw [List.getElem?_toArray]; rfl) (by kernel_rfl) (by kernel_rfl) (by kernel_rfl) (by kernel_rfl) (by kernel_rfl) (by exact fun _ _ _ h => h) (Or.inl ⟨by rfl, ?_⟩) hS ?_
    rotate_left
    · (intro wS hSw; (try dsimp only at hSw); go_simp; try with_reducible rfl)
    try simp only [Act.put, List.setIfInBounds_toArray, List.set_cons_zero, List.set_cons_succ]
    refine AnyX.take (i := 1) (oi := _) (v := ?_) (by rw [List.getElem?_toArray]; rfl) (by kernel_rfl) (by kernel_rfl) (by kernel_rfl) (by kernel_rfl) (by kernel_rfl) (by exact fun _ _ _ h => h) (Or.inl ⟨by rfl, ?_⟩) hS ?_
    rotate_left
    · (intro wS hSw; (try dsimp only at hSw); go_simp; try with_reducible rfl)
    try simp only [Act.put, List.setIfInBounds_toArray, List.set_cons_zero, List.set_cons_succ]
    refine AnyX.take (i := 2) (oi := _) (v := ?_) (by rw [List.getElem?_toArray]; rfl) (by kernel_rfl) (by kernel_rfl) (by kernel_rfl) (by kernel_rfl) (by kernel_rfl) (by exact fun _ _ _ h => h) (Or.inl ⟨by rfl, ?_⟩) hS ?_
    rotate_left
    · (intro wS hSw; (try dsimp only at hSw); go_simp; try with_reducible rfl)
    try simp only [Act.put, List.setIfInBounds_toArray, List.set_cons_zero, List.set_cons_succ]
    refine AnyX.take (i := 3) (oi := _) (v := ?_) (by rw [List.getElem?_toArray]; rfl) (by kernel_rfl) (by kernel_rfl) (by kernel_rfl) (by kernel_rfl) (by kernel_rfl) (by exact fun _ _ _ h => h) (Or.inl ⟨by rfl, ?_⟩) hS ?_
    rotate_left
    · (intro wS hSw; (try dsimp only at hSw); go_simp; try with_reducible rfl)
    try simp only [Act.put, List.setIfInBounds_toArray, List.set_cons_zero, List.set_cons_succ]
    refine AnyX.take (i := 4) (oi := _) (v := ?_) (by rw [List.getElem?_toArray]; rfl) (by kernel_rfl) (by kernel_rfl) (by kernel_rfl) (by kernel_rfl) (by kernel_rfl) (by exact fun _ _ _ h => h) (Or.inl ⟨by rfl, ?_⟩) hS ?_
    rotate_left
    · (intro wS hSw; (try dsimp only at hSw); go_simp; try with_reducible rfl)
    try simp only [Act.put, List.setIfInBounds_toArray, List.set_cons_zero, List.set_cons_succ]
    refine AnyX.take (i := 5) (oi := _) (v := ?_) (by rw [List.getElem?_toArray]; rfl) (by kernel_rfl) (by kernel_rfl) (by kernel_rfl) (by kernel_rfl) (by kernel_rfl) (by exact fun _ _ _ h => h) (Or.inl ⟨by rfl, ?_⟩) hS ?_
    rotate_left
    · (intro wS hSw; (try dsimp only at hSw); go_simp; try with_reducible rfl)
    try simp only [Act.put, List.setIfInBounds_toArray, List.set_cons_zero, List.set_cons_succ]
    refine AnyX.take (i := 6) (oi := _) (v := ?_) (by rw [List.getElem?_toArray]; rfl) (by kernel_rfl) (by kernel_rfl) (by kernel_rfl) (by kernel_rfl) (by kernel_rfl) (by exact fun _ _ _ h => h) (Or.inl ⟨by rfl, ?_⟩) hS ?_
    rotate_left
    · (intro wS hSw; (try dsimp only at hSw); go_simp; try with_reducible rfl)
    try simp only [Act.put, List.setIfInBounds_toArray, List.set_cons_zero, List.set_cons_succ]
    refine AnyX.take (i := 7) (oi := _) (v := ?_) (by rw [List.getElem?_toArray]; rfl) (by kernel_rfl) (by kernel_rfl) (by kernel_rfl) (by kernel_rfl) (by kernel_rfl) (by exact fun _ _ _ h => h) (Or.inl ⟨by rfl, ?_⟩) hS ?_
    rotate_left
    · (intro wS hSw; (try dsimp only at hSw); go_simp; try with_reducible rfl)
    try simp only [Act.put, List.setIfInBounds_toArray, List.set_cons_zero, List.set_cons_succ]
    refine AnyX.take (i := 8) (oi := _) (v := ?_) (by rw [List.getElem?_toArray]; rfl) (by kernel_rfl) (by kernel_rfl) (by kernel_rfl) (by kernel_rfl) (by kernel_rfl) (by exact fun _ _ _ h => h) (Or.inl ⟨by rfl, ?_⟩) hS ?_
    rotate_left
    · (intro wS hSw; (try dsimp only at hSw); go_simp; try with_reducible rfl)
    try simp only [Act.put, List.setIfInBounds_toArray, List.set_cons_zero, List.set_cons_succ]
    refine AnyX.take (i := 9) (oi := _) (v := ?_) (by rw [List.getElem?_toArray]; rfl) (by kernel_rfl) (by kernel_rfl) (by kernel_rfl) (by kernel_rfl) (by kernel_rfl) (by exact fun _ _ _ h => h) (Or.inl ⟨by rfl, ?_⟩) hS ?_
    rotate_left
    · (intro wS hSw; (try dsimp only at hSw); go_simp; try with_reducible rfl)
    try simp only [Act.put, List.setIfInBounds_toArray, List.set_cons_zero, List.set_cons_succ]
    refine AnyX.done (by kernel_rfl) ?_ _
    (try clear hS)
    have c_R := R.cells; have f_R := R.frozens
    go_wp2_with fail
    clear c_R f_R
    have n_K : Keep [g] w ((w5.setCell ⟨g, 1, none⟩ (.int .i64 ((k : Int) + 1))).setCell ⟨g, 2, none⟩ (.int .u64 (IntKind.u64.wrap (IntKind.u64.wrap (IntKind.u64.wrap (seed * 6364136223846793005)) + 840840)))) := ((Keep.ofBelow hB).setCell (p := ⟨g, 1, none⟩) (by simp) _).setCell (p := ⟨g, 2, none⟩) (by simp) _
    have n_R : Row ((w5.setCell ⟨g, 1, none⟩ (.int .i64 ((k : Int) + 1))).setCell ⟨g, 2, none⟩ (.int .u64 (IntKind.u64.wrap (IntKind.u64.wrap (IntKind.u64.wrap (seed * 6364136223846793005)) + 840840)))) g 123 [.slice a code.length c, .int .i64 ((k + 1 : Nat) : Int), .int .u64 (IntKind.u64.wrap (IntKind.u64.wrap (IntKind.u64.wrap (seed * 6364136223846793005)) + 840840))] := by simpa using ((R.set 1 (.int .i64 ((k : Int) + 1))).set 2 (.int .u64 (IntKind.u64.wrap (IntKind.u64.wrap (IntKind.u64.wrap (seed * 6364136223846793005)) + 840840))))
    have n_S : Sl EByte ((w5.setCell ⟨g, 1, none⟩ (.int .i64 ((k : Int) + 1))).setCell ⟨g, 2, none⟩ (.int .u64 (IntKind.u64.wrap (IntKind.u64.wrap (IntKind.u64.wrap (seed * 6364136223846793005)) + 840840)))) (Value.slice a code.length c) code F := S.frame (fun b hb => by have : b ≠ g := fun e => hF (e ▸ hb); repeat rw [Below.heap_setCell _ _ _ _ (by simp <;> omega)])
    have hs0 : 0 ≤ (IntKind.u64.wrap (IntKind.u64.wrap (IntKind.u64.wrap (seed * 6364136223846793005)) + 840840)) ∧ (IntKind.u64.wrap (IntKind.u64.wrap (IntKind.u64.wrap (seed * 6364136223846793005)) + 840840)) < 18446744073709551616 := by rw [IntKind.wrap_u64]; omega
    clear R S hB
    generalize (IntKind.u64.wrap (IntKind.u64.wrap (IntKind.u64.wrap (seed * 6364136223846793005)) + 840840)) = sd at *
    obtain ⟨hs0, hs1⟩ := hs0
    generalize ((w5.setCell ⟨g, 1, none⟩ (.int .i64 ((k : Int) + 1))).setCell ⟨g, 2, none⟩ (.int .u64 sd)) = w6 at *
    have R := n_R; clear n_R
    have S := n_S; clear n_S
    rename_i K0 hK0
    refine AnyX.start (S := (fun w' => w'.cell? ⟨g, 0, none⟩ = some (.slice a code.length c) ∧ w'.cell? ⟨g, 1, none⟩ = some (.int .i64 ((k + 1 : Nat) : Int)) ∧ w'.cell? ⟨g, 2, none⟩ = some (.int .u64 sd))) (X := (fun _ => false)) (by kernel_rfl) ?_
    have al : Below w6.heap.size w6 w6.drew := belowDrewN (Below.refl _ _) 1
    have hs_w7 := al.size
    replace R := R.below al
    replace S := S.below (by decide) al
    have hB := al
    generalize w6.drew = w7 at *
    clear al
    have hS : (fun w' => w'.cell? ⟨g, 0, none⟩ = some (.slice a code.length c) ∧ w'.cell? ⟨g, 1, none⟩ = some (.int .i64 ((k + 1 : Nat) : Int)) ∧ w'.cell? ⟨g, 2, none⟩ = some (.int .u64 sd)) w7 := ⟨R.cells 0, R.cells 1, R.cells 2⟩
    refine AnyX.take (i := 0) (oi := _) (v := ?_) (by rw [List.getElem?_toArray]; rfl) (by kernel_rfl) (by kernel_rfl) (by kernel_rfl) (by kernel_rfl) (by kernel_rfl) (by exact fun _ _ _ h => h) (Or.inl ⟨by rfl, ?_⟩) hS ?_
    rotate_left
    · (intro wS hSw; (try dsimp only at hSw); go_simp; try with_reducible rfl)
    try simp only [Act.put, List.setIfInBounds_toArray, List.set_cons_zero, List.set_cons_succ]
    refine AnyX.take (i := 1) (oi := _) (v := ?_) (by rw [List.getElem?_toArray]; rfl) (by kernel_rfl) (by kernel_rfl) (by kernel_rfl) (by kernel_rfl) (by kernel_rfl) (by exact fun _ _ _ h => h) (Or.inl ⟨by rfl, ?_⟩) hS ?_
    rotate_left
    · (intro wS hSw; (try dsimp only at hSw); go_simp; try with_reducible rfl)
    try simp only [Act.put, List.setIfInBounds_toArray, List.set_cons_zero, List.set_cons_succ]
    refine AnyX.take (i := 2) (oi := _) (v := ?_) (by rw [List.getElem?_toArray]; rfl) (by kernel_rfl) (by kernel_rfl) (by kernel_rfl) (by kernel_rfl) (by kernel_rfl) (by exact fun _ _ _ h => h) (Or.inl ⟨by rfl, ?_⟩) hS ?_
    rotate_left
    · (intro wS hSw; (try dsimp only at hSw); go_simp; try with_reducible rfl)
    try simp only [Act.put, List.setIfInBounds_toArray, List.set_cons_zero, List.set_cons_succ]
    refine AnyX.take (i := 3) (oi := _) (v := ?_) (by rw [List.getElem?_toArray]; rfl) (by kernel_rfl) (by kernel_rfl) (by kernel_rfl) (by kernel_rfl) (by kernel_rfl) (by exact fun _ _ _ h => h) (Or.inl ⟨by rfl, ?_⟩) hS ?_
    rotate_left
    · (intro wS hSw; (try dsimp only at hSw); go_simp; try with_reducible rfl)
    try simp only [Act.put, List.setIfInBounds_toArray, List.set_cons_zero, List.set_cons_succ]
    refine AnyX.take (i := 4) (oi := _) (v := ?_) (by rw [List.getElem?_toArray]; rfl) (by kernel_rfl) (by kernel_rfl) (by kernel_rfl) (by kernel_rfl) (by kernel_rfl) (by exact fun _ _ _ h => h) (Or.inl ⟨by rfl, ?_⟩) hS ?_
    rotate_left
    · (intro wS hSw; (try dsimp only at hSw); go_simp; try with_reducible rfl)
    try simp only [Act.put, List.setIfInBounds_toArray, List.set_cons_zero, List.set_cons_succ]
    refine AnyX.take (i := 5) (oi := _) (v := ?_) (by rw [List.getElem?_toArray]; rfl) (by kernel_rfl) (by kernel_rfl) (by kernel_rfl) (by kernel_rfl) (by kernel_rfl) (by exact fun _ _ _ h => h) (Or.inl ⟨by rfl, ?_⟩) hS ?_
    rotate_left
    · (intro wS hSw; (try dsimp only at hSw); go_simp; try with_reducible rfl)
    try simp only [Act.put, List.setIfInBounds_toArray, List.set_cons_zero, List.set_cons_succ]
    refine AnyX.take (i := 6) (oi := _) (v := ?_) (by rw [List.getElem?_toArray]; rfl) (by kernel_rfl) (by kernel_rfl) (by kernel_rfl) (by kernel_rfl) (by kernel_rfl) (by exact fun _ _ _ h => h) (Or.inl ⟨by rfl, ?_⟩) hS ?_
    rotate_left
    · (intro wS hSw; (try dsimp only at hSw); go_simp; try with_reducible rfl)
    try simp only [Act.put, List.setIfInBounds_toArray, List.set_cons_zero, List.set_cons_succ]
    refine AnyX.take (i := 7) (oi := _) (v := ?_) (by rw [List.getElem?_toArray]; rfl) (by kernel_rfl) (by kernel_rfl) (by kernel_rfl) (by kernel_rfl) (by kernel_rfl) (by exact fun _ _ _ h => h) (Or.inl ⟨by rfl, ?_⟩) hS ?_
    rotate_left
    · (intro wS hSw; (try dsimp only at hSw); go_simp; try with_reducible rfl)
    try simp only [Act.put, List.setIfInBounds_toArray, List.set_cons_zero, List.set_cons_succ]
    refine AnyX.take (i := 8) (oi := _) (v := ?_) (by rw [List.getElem?_toArray]; rfl) (by kernel_rfl) (by kernel_rfl) (by kernel_rfl) (by kernel_rfl) (by kernel_rfl) (by exact fun _ _ _ h => h) (Or.inl ⟨by rfl, ?_⟩) hS ?_
    rotate_left
    · (intro wS hSw; (try dsimp only at hSw); go_simp; try with_reducible rfl)
    try simp only [Act.put, List.setIfInBounds_toArray, List.set_cons_zero, List.set_cons_succ]
    refine AnyX.take (i := 9) (oi := _) (v := ?_) (by rw [List.getElem?_toArray]; rfl) (by kernel_rfl) (by kernel_rfl) (by kernel_rfl) (by kernel_rfl) (by kernel_rfl) (by exact fun _ _ _ h => h) (Or.inl ⟨by rfl, ?_⟩) hS ?_
    rotate_left
    · (intro wS hSw; (try dsimp only at hSw); go_simp; try with_reducible rfl)
    try simp only [Act.put, List.setIfInBounds_toArray, List.set_cons_zero, List.set_cons_succ]
    refine AnyX.done (by kernel_rfl) ?_ _
    (try clear hS)
    refine hK0 _ _ ?_
    clear hK0 K0
    have n_K2 := n_K.trans (Keep.ofBelow hB)
    obtain ⟨q, hq, hq2⟩ : ∃ q : Nat, bits BinOp.and IntKind.u64 (sd / 1099511627776) 255 = (q : Int) ∧ q ≤ 255 := by
      refine ⟨(sd / 1099511627776).toNat &&& 255, ?_, Nat.and_le_right⟩
      rw [← bits_and_u64_nat _ _ (by omega) (by omega)]
      congr 1; omega
    have c_R := R.cells; have f_R := R.frozens
    go_wp2_with fail
    refine bodyPost_ret (v := .int .i64 (q : Int)) ?_ rfl ?_
    · simp [results, Tryz.results215, go_sem, hq]
    · exact ⟨q, rfl, hq2, ⟨k + 1, sd, R, S, hF, by omega, hs0, hs1⟩, n_K2⟩
def PPick (B g : Nat) (F : CuF) (n : Int) (w : World) (e : Ending) (w' : World) : Prop := ∃ r : Nat, e = .returned (.int .i64 r) ∧ (r = 0 ∨ (r : Int) < n) ∧ Cur (B + 2) w' g F ∧ Keep [g] w w'
set_option maxHeartbeats 1600000 in
set_option maxRecDepth 100000 in
theorem pick_c (B g : Nat) (F : CuF) (n : Int) (w : World) (h : Cur B w g F) (hB0 : B ≤ 1099511627774) (hn : n ≤ 1048576) :
    Calls Tryz.prog 126 #[.pointer (some ⟨g, 0, none⟩), .int .i64 n] w (PPick B g F n w) := by
  have hN1 := next_c B g F w h (by omega)
  have hN2 := fun w h => next_c (B + 1) g F w h (by omega)
  replace hN1 := Lib.hid hN1; replace hN2 := Lib.hid hN2
  by_cases h1 : n ≤ 1
  · go_enter Tryz.func126, Tryz.ntmps126
    go_wp2_with fail
    refine bodyPost_ret (v := .int .i64 0) ?_ rfl ⟨0, rfl, .inl rfl, h.mono (by omega), Keep.refl _ _⟩
    simp [results, Tryz.results126, go_sem]
  · by_cases h2 : n ≤ 200
    · go_enter Tryz.func126, Tryz.ntmps126
      go_wp2_with fail
      refine hN1.out.mono ?_
      rintro e w1 ⟨r, rfl, hr, hc, hk⟩
      have hm0 : 0 ≤ (r : Int) % n := Int.emod_nonneg _ (by omega)
      have hm1 : (r : Int) % n < n := Int.emod_lt_of_pos _ (by omega)
      go_wp2_with fail
      refine bodyPost_ret (v := .int .i64 ((r : Int) % n)) ?_ rfl ⟨((r : Int) % n).toNat, by rw [Int.toNat_of_nonneg hm0], .inr (by omega), hc.mono (by omega), hk⟩
      simp [results, Tryz.results126, go_sem]
    · go_enter Tryz.func126, Tryz.ntmps126
      go_wp2_with fail
      refine hN1.out.mono ?_
      rintro e w1 ⟨r, rfl, hr, hc, hk⟩
      go_wp2_with fail
      refine (hN2.out _ hc).mono ?_
      rintro e w2 ⟨r2, rfl, hr2, hc2, hk2⟩
      have hm0 : 0 ≤ ((r : Int) * 256 + r2) % n := Int.emod_nonneg _ (by omega)
      have hm1 : ((r : Int) * 256 + r2) % n < n := Int.emod_lt_of_pos _ (by omega)
      go_wp2_with fail
      refine bodyPost_ret (v := .int .i64 (((r : Int) * 256 + r2) % n)) ?_ rfl ⟨(((r : Int) * 256 + r2) % n).toNat, by rw [Int.toNat_of_nonneg hm0], .inr (by omega), hc2, hk.trans hk2⟩
      simp [results, Tryz.results126, go_sem]
def POne (B g : Nat) (F : CuF) (w : World) (e : Ending) (w' : World) : Prop := ∃ b : Bool, e = .returned (.bool b) ∧ Cur (B + 2) w' g F ∧ Keep [g] w w'
theorem one_c (B g : Nat) (F : CuF) (n : Int) (w : World) (h : Cur B w g F) (hB0 : B ≤ 1099511627774) (hn : n ≤ 1048576) :
    Calls Tryz.prog 95 #[.pointer (some ⟨g, 0, none⟩), .int .i64 n] w (POne B g F w) := by
  have hN1 := Lib.hid (pick_c B g F n w h hB0 hn)
  go_enter Tryz.func95, Tryz.ntmps95
  go_wp2_with fail
  refine hN1.out.mono ?_
  rintro e w1 ⟨r, rfl, hr, hc, hk⟩
  go_wp2_with fail
  refine bodyPost_ret (v := .bool ((r : Int) == 0)) ?_ rfl ⟨_, rfl, hc, hk⟩
  simp [results, Tryz.results95, go_sem]
def PAmong (B g : Nat) (F : CuF) (xs : List Int) (w : World) (e : Ending) (w' : World) : Prop := ∃ s ∈ xs, e = .returned (.int .i64 s) ∧ Cur (B + 2) w' g F ∧ Keep [g] w w'
theorem among_c (B g : Nat) (F : CuF) (v : Value) (xs : List Int) (K : List Nat) (w : World) (h : Cur B w g F) (hB0 : B ≤ 1099511627774) (hx : Sl EInt w v xs K) (h0 : 0 < xs.length) (h1 : xs.length ≤ 1048576) (hg : g ∉ K) :
    Calls Tryz.prog 146 #[.pointer (some ⟨g, 0, none⟩), v] w (PAmong B g F xs w) := by
  obtain ⟨a, c, rfl⟩ := hx.slice
  have hN1 := Lib.hid (pick_c B g F xs.length w h hB0 (by omega))
  go_enter Tryz.func146, Tryz.ntmps146
  go_wp2_with fail
  refine hN1.out.mono ?_
  rintro e w1 ⟨r, rfl, hr, hc, hk⟩
  have hr2 : r < xs.length := by omega
  obtain ⟨b, off, rfl, hcell⟩ := (hx.keep hk (fun b hb e => hg (by simp at e; rw [← e]; exact hb)) (by decide)).int.2.2 r hr2
  clear hr
  have hm := List.getElem_mem hr2
  generalize xs[r] = s at *
  go_wp2_with fail
  refine bodyPost_ret (v := .int .i64 s) ?_ rfl ⟨s, hm, rfl, hc, hk⟩
  simp [results, Tryz.results146, go_sem]
end Go.Proofs.YtgogcgkocjpgoaaGreatDoor
/- Draws, for the engine: the cursor. -/
namespace Go.Proofs.YtgogcgkocjpgoaaGreatDoor
open Go.RowKit
structure CuS where
  k : Nat
  seed : Int
structure CuOk (B : Nat) (s : CuS) : Prop where
  k : s.k ≤ B
  s0 : 0 ≤ s.seed
  s1 : s.seed < 18446744073709551616
theorem CuOk.mono {B B' : Nat} {s : CuS} (h : CuOk B s) (hb : B ≤ B') : CuOk B' s := ⟨Nat.le_trans h.k hb, h.s0, h.s1⟩
theorem cu_fn {f : FuncId} {args : List Value} {σ : Type} {C : σ → Prop} {v : σ → Value} {B B' g : Nat} {F : CuF} {s : CuS} {X : List Pc} (hX : X.all (fun p => !p.mu) = true) (ok : CuOk B s)
    (h : ∀ w, Cur B w g F → Hol X w → (∀ p ∈ X, g ∉ p.F) → Calls Tryz.prog f args.toArray w fun e w' => ∃ r, C r ∧ e = .returned (v r) ∧ Cur B' w' g F ∧ Keep [g] w w') :
    Fn Tryz.prog f args (.sl EByte (.slice F.a F.code.length F.c) F.code F.bs :: X) [.row g 123 0 [] [.slice F.a F.code.length F.c, .int .i64 (s.k : Nat), .int .u64 s.seed] []] (fun (z : σ × CuS) => C z.1 ∧ CuOk B' z.2) (fun z => v z.1) (fun z => [.row g 123 0 [] [.slice F.a F.code.length F.c, .int .i64 (z.2.k : Nat), .int .u64 z.2.seed] []]) := fun w hH hS => by
  have h1 := hH (.row g 123 0 [] [.slice F.a F.code.length F.c, .int .i64 (s.k : Nat), .int .u64 s.seed] []) (by simp)
  have h2 := hH (.sl EByte (.slice F.a F.code.length F.c) F.code F.bs) (by simp)
  have ap := hS.1
  have hg : g ∉ F.bs := fun hm => ap (.sl EByte (.slice F.a F.code.length F.c) F.code F.bs) (by simp) (by simp [Pc.mu]) g (by simp [Pc.F]) hm
  refine (h w ⟨s.k, s.seed, by simpa using h1.2, h2.2, hg, ok.k, ok.s0, ok.s1⟩ (fun p hp => hH p (by simp [hp])) (fun p hp hm => ap p (by simp [hp]) (by simp [Pc.mu]) g (by simp [Pc.F]) hm)).mono ?_
  rintro e w' ⟨r, hC, he, ⟨k, seed, R, S, -, hk, h0, h3⟩, hK⟩
  refine ⟨(r, ⟨k, seed⟩), ⟨hC, hk, h0, h3⟩, he, hol1 ⟨rfl, by simpa using R⟩, ⟨by simp, trivial⟩, hK.mono (fun b hb _ => by simpa [fp, Pc.F] using hb), fun p hp b hb => ?_⟩
  simp at hp
  subst hp
  exact .inr (.inl ⟨_, List.mem_cons_self .., by simpa [Pc.F] using hb⟩)
theorem pick_f (B g : Nat) (F : CuF) (n : Int) (s : CuS) (ok : CuOk B s) (hB : B ≤ 1000000000000) (hn : n ≤ 1048576) :
    Fn Tryz.prog 126 [ptr g 0 0, .int .i64 n] [.sl EByte (.slice F.a F.code.length F.c) F.code F.bs] [.row g 123 0 [] [.slice F.a F.code.length F.c, .int .i64 (s.k : Nat), .int .u64 s.seed] []] (fun (z : Nat × CuS) => (z.1 = 0 ∨ (z.1 : Int) < n) ∧ CuOk (B + 2) z.2) (fun z => .int .i64 (z.1 : Nat)) (fun z => [.row g 123 0 [] [.slice F.a F.code.length F.c, .int .i64 (z.2.k : Nat), .int .u64 z.2.seed] []]) :=
  cu_fn (C := fun r : Nat => r = 0 ∨ (r : Int) < n) (v := fun r => .int .i64 (r : Nat)) (X := []) rfl ok fun w h _ _ => (pick_c B g F n w h (by omega) hn).mono fun _ _ ⟨r, he, h1, h2, h3⟩ => ⟨r, h1, he, h2, h3⟩
theorem one_f (B g : Nat) (F : CuF) (n : Int) (s : CuS) (ok : CuOk B s) (hB : B ≤ 1000000000000) (hn : n ≤ 1048576) :
    Fn Tryz.prog 95 [ptr g 0 0, .int .i64 n] [.sl EByte (.slice F.a F.code.length F.c) F.code F.bs] [.row g 123 0 [] [.slice F.a F.code.length F.c, .int .i64 (s.k : Nat), .int .u64 s.seed] []] (fun (z : Bool × CuS) => True ∧ CuOk (B + 2) z.2) (fun z => .bool z.1) (fun z => [.row g 123 0 [] [.slice F.a F.code.length F.c, .int .i64 (z.2.k : Nat), .int .u64 z.2.seed] []]) :=
  cu_fn (C := fun _ : Bool => True) (v := fun r => .bool r) (X := []) rfl ok fun w h _ _ => (one_c B g F n w h (by omega) hn).mono fun _ _ ⟨r, he, h2, h3⟩ => ⟨r, trivial, he, h2, h3⟩
theorem among_f (B g : Nat) (F : CuF) (v : Value) (xs : List Int) (G : List Nat) (s : CuS) (ok : CuOk B s) (hB : B ≤ 1000000000000) (h0 : 0 < xs.length) (h1 : xs.length ≤ 1048576) :
    Fn Tryz.prog 146 [ptr g 0 0, v] [.sl EByte (.slice F.a F.code.length F.c) F.code F.bs, .sl EInt v xs G] [.row g 123 0 [] [.slice F.a F.code.length F.c, .int .i64 (s.k : Nat), .int .u64 s.seed] []] (fun (z : Int × CuS) => z.1 ∈ xs ∧ CuOk (B + 2) z.2) (fun z => .int .i64 z.1) (fun z => [.row g 123 0 [] [.slice F.a F.code.length F.c, .int .i64 (z.2.k : Nat), .int .u64 z.2.seed] []]) :=
  cu_fn (C := fun r : Int => r ∈ xs) (v := fun r => .int .i64 r) (X := [.sl EInt v xs G]) rfl ok fun w h hX hg => (among_c B g F v xs G w h (by omega) (hX (.sl EInt v xs G) (by simp)).2 h0 h1 (hg (.sl EInt v xs G) (by simp))).mono fun _ _ ⟨r, h1, he, h2, h3⟩ => ⟨r, h1, he, h2, h3⟩
end Go.Proofs.YtgogcgkocjpgoaaGreatDoor
/- Walks of the small functions on elements: serials, clocks, faces. -/
namespace Go.Proofs.YtgogcgkocjpgoaaGreatDoor
open Go.RowKit

end Go.Proofs.YtgogcgkocjpgoaaGreatDoor
/- Walks: serials: what lies behind, gaps, what is before what. -/
namespace Go.Proofs.YtgogcgkocjpgoaaGreatDoor
open Go.RowKit

/-- the serial n steps behind x -/
def aft (x n : Int) : Int := (x + n) % 65536
end Go.Proofs.YtgogcgkocjpgoaaGreatDoor
/- Draws, for the engine: serials. -/
namespace Go.Proofs.YtgogcgkocjpgoaaGreatDoor
open Go.RowKit
theorem flat_int (w : World) : ∀ xs : List Int, Flat EInt w (xs.map (Value.int .i64)) xs []
  | [] => ⟨rfl, rfl⟩
  | x :: r => ⟨[.int .i64 x], r.map (Value.int .i64), [], [], rfl, rfl, ⟨rfl, rfl⟩, flat_int w r⟩
end Go.Proofs.YtgogcgkocjpgoaaGreatDoor
/- The type Delivery of the exact laws: how it reads, how it is owned; the walks of its size, copy, equality, mark and held. Written by wip/gentypes.py. -/
namespace Go.Proofs.YtgogcgkocjpgoaaGreatDoor
open Go.RowKit
structure Delivery where
  receiver : Int
  got : Int
  repaired : Int
  lost : Int
/-- read -/
def EDelivery : Elem Delivery where
  sz := 4
  rep _ cs x F := cs = [.int .i64 x.receiver, .int .i64 x.got, .int .i64 x.repaired, .int .i64 x.lost] ∧ F = []
  len h := by obtain ⟨rfl, rfl⟩ := h; rfl
  lt h := by obtain ⟨rfl, rfl⟩ := h; simp
  frame h _ := h
theorem one_EDelivery : One EDelivery := fun h u hu => by
  obtain ⟨rfl, rfl⟩ := h
  simp only [List.mem_cons, List.not_mem_nil, or_false] at hu
  rcases hu with rfl | rfl | rfl | rfl
  · rfl
  · rfl
  · rfl
  · rfl
theorem scal_EDelivery : Scal EDelivery := fun h => by obtain ⟨rfl, rfl⟩ := h; rfl
end Go.Proofs.YtgogcgkocjpgoaaGreatDoor
/- The log's plain law: lines, records, what is accepted; what the reference reads is what the program reads. No program in sight. -/
namespace Go.Proofs.YtgogcgkocjpgoaaGreatDoor
open Go.RowKit
abbrev Bs := List UInt8
def upTo (b : UInt8) (l : Bs) : Bs := l.takeWhile (· != b)
def behind (b : UInt8) (l : Bs) : Bs := (l.dropWhile (· != b)).drop 1
theorem upTo_no {b : UInt8} {x : Bs} (h : ∀ c ∈ x, c ≠ b) : upTo b x = x := by
  have := List.takeWhile_append_of_pos (p := (· != b)) (l₁ := x) (l₂ := []) (by simpa using h)
  simpa [upTo] using this
theorem behind_no {b : UInt8} {x : Bs} (h : ∀ c ∈ x, c ≠ b) : behind b x = [] := by
  have := List.dropWhile_append_of_pos (p := (· != b)) (l₁ := x) (l₂ := []) (by simpa using h)
  simp only [List.append_nil, List.dropWhile_nil] at this
  simp [behind, this]
theorem upTo_mem {b : UInt8} {l : Bs} : ∀ c ∈ upTo b l, c ≠ b := by
  unfold upTo
  induction l with
  | nil => simp
  | cons d l ih =>
    intro c hc
    rw [List.takeWhile_cons] at hc
    split at hc
    · rename_i h
      rcases List.mem_cons.1 hc with rfl | hc
      · simpa using h
      · exact ih c hc
    · simp at hc
theorem split_at (b : UInt8) (l : Bs) : (b ∈ l ∧ l = upTo b l ++ b :: behind b l) ∨ (b ∉ l ∧ upTo b l = l ∧ behind b l = []) := by
  by_cases h : b ∈ l
  · left
    refine ⟨h, ?_⟩
    unfold upTo behind
    induction l with
    | nil => cases h
    | cons c l ih =>
      by_cases hc : c = b
      · subst hc; simp
      · have hm : b ∈ l := by
          rcases List.mem_cons.1 h with e | e
          · exact absurd e.symm hc
          · exact e
        simp only [List.takeWhile_cons, List.dropWhile_cons, bne_iff_ne, ne_eq, hc, not_false_eq_true, if_true, List.cons_append]
        rw [← ih hm]
  · right
    exact ⟨h, upTo_no fun c hc e => h (e ▸ hc), behind_no fun c hc e => h (e ▸ hc)⟩

/-- a line that is whole -/
def Whole (x : Bs) : Prop := ∃ y, x = y ++ [10] ∧ ∀ c ∈ y, c ≠ 10
/-- numbers, sums, lines of records -/
theorem digit_mem : ∀ (u : Nat) (c : UInt8), c ∈ Lib.decDigits u → 48 ≤ c.toNat ∧ c.toNat ≤ 57 := by
  intro u
  induction u using Nat.strongRecOn with
  | ind u ih =>
    intro c hc
    rw [Lib.decDigits] at hc
    have hd : ∀ d : Nat, d < 10 → 48 ≤ (UInt8.ofNat (48 + d)).toNat ∧ (UInt8.ofNat (48 + d)).toNat ≤ 57 := fun d hd => by
      rw [UInt8.toNat_ofNat']; omega
    split at hc
    · simp only [List.mem_singleton] at hc; subst hc; exact hd _ (by omega)
    · rcases List.mem_append.1 hc with h | h
      · exact ih _ (by omega) c h
      · simp only [List.mem_singleton] at h; subst h; exact hd _ (by omega)
theorem digit_len : ∀ (n u : Nat), u < 10 ^ (n + 1) → (Lib.decDigits u).length ≤ n + 1
  | 0, u, h => by rw [Lib.decDigits, dif_pos (by simpa using h)]; simp
  | n + 1, u, h => by
    rw [Lib.decDigits]
    split
    · simp
    · have := digit_len n (u / 10) (by rw [Nat.pow_succ] at h; omega)
      simp; omega
theorem digit_pos (u : Nat) : 1 ≤ (Lib.decDigits u).length := by
  rw [Lib.decDigits]; split <;> simp
def sumStep (h : Nat) (c : UInt8) : Nat := (41 * h + c.toNat + 1) % 999979
def sumL (l : Bs) : Nat := l.foldl sumStep 7
def sealL (l : Bs) : Bs := l ++ 35 :: Lib.decDigits (sumL l)
def bodyL (k : Nat) (c r : Bs) : Bs := Lib.decDigits k ++ 32 :: (c ++ 64 :: r)
def lineL (k : Nat) (c r : Bs) : Bs := sealL (bodyL k c r) ++ [10]
def goodL (c r : Bs) : Bool := btw 1 c.length 160 && decide ((r.length : Int) ≤ 200) && logText c && logText r && !stands 64 c
structure Good (c r : Bs) : Prop where
  c0 : 1 ≤ c.length
  c1 : c.length ≤ 160
  r1 : r.length ≤ 200
  ct : ∀ b ∈ c, (32 ≤ b.toNat ∧ b.toNat ≤ 126) ∧ b ≠ 35
  rt : ∀ b ∈ r, (32 ≤ b.toNat ∧ b.toNat ≤ 126) ∧ b ≠ 35
  ca : ∀ b ∈ c, b ≠ 64
/-- the encoding of a record, where there is one -/
def encL (k : Int) (c r : Bs) : Option Bs := if btw 0 k 59 && goodL c r then some (lineL k.toNat c r) else none
/-- what the program takes of a line -/
def tailL (x : Bs) : Bs := behind 32 (upTo 35 x)
def cmdL (x : Bs) : Bs := upTo 64 (tailL x)
def repL (x : Bs) : Bs := behind 64 (tailL x)
def okL (k : Nat) (x : Bs) : Bool := encL k (cmdL x) (repL x) == some x
/-- the lines that are accepted, from number k on -/
def acc : Nat → List Bs → List Bs
  | _, [] => []
  | k, x :: r => if okL k x then x :: acc (k + 1) r else []
end Go.Proofs.YtgogcgkocjpgoaaGreatDoor
/- More operations: parts of texts, slices made, functions called by their value; a part of a slice that reads. -/
namespace Go.Proofs.YtgogcgkocjpgoaaGreatDoor
open Go.RowKit
section
variable {P : Program} {n : Nat} {fr : Fr} {H : List Pc} {ty : TypeId} {x y z : Operand}
theorem yd_sll {t : TypeId} {s : ByteArray} {kd : IntKind} {i : Int} [hS : StrC P t] (hx : ev fr x = some (.string s)) (hy : ev fr y = some (.int kd i)) (h0 : 0 ≤ i) (h1 : i ≤ s.size) : Yd P n fr H (.slice t x (some y) none none) ty (.string (s.extract i.toNat s.size)) := .mk fun a w d pos aft g hA _ => by
  have h3 : (Instr.sliceAt t (.string s) (some (.int kd i)) none none).run P w = .ok (.string (s.extract i.toNat s.size)) w := by
    rw [run_sliceAt_string (h := hS.u), run_slice_string_l (ht := hS.u) (h0 := h0) (h1 := h1)]
  simp only [execOp, Option.map_none, Option.map_some, hA.ev hx, hA.ev hy, Sem.run_bind, h3, Result.andThen_ok, Sem.run_pure]
theorem yd_slh {t : TypeId} {s : ByteArray} {kd : IntKind} {i : Int} [hS : StrC P t] (hx : ev fr x = some (.string s)) (hy : ev fr y = some (.int kd i)) (h0 : 0 ≤ i) (h1 : i ≤ s.size) : Yd P n fr H (.slice t x none (some y) none) ty (.string (s.extract 0 i.toNat)) := .mk fun a w d pos aft g hA _ => by
  have h3 : (Instr.sliceAt t (.string s) none (some (.int kd i)) none).run P w = .ok (.string (s.extract 0 i.toNat)) w := by
    rw [run_sliceAt_string (h := hS.u), run_slice_string_h (ht := hS.u) (h0 := h0) (h2 := h1)]
  simp only [execOp, Option.map_none, Option.map_some, hA.ev hx, hA.ev hy, Sem.run_bind, h3, Result.andThen_ok, Sem.run_pure]
theorem yd_slb {t : TypeId} {s : ByteArray} {kd kd2 : IntKind} {i j : Int} [hS : StrC P t] (hx : ev fr x = some (.string s)) (hy : ev fr y = some (.int kd i)) (hz : ev fr z = some (.int kd2 j)) (h0 : 0 ≤ i) (h1 : i ≤ j) (h2 : j ≤ s.size) : Yd P n fr H (.slice t x (some y) (some z) none) ty (.string (s.extract i.toNat j.toNat)) := .mk fun a w d pos aft g hA _ => by
  have h3 : (Instr.sliceAt t (.string s) (some (.int kd i)) (some (.int kd2 j)) none).run P w = .ok (.string (s.extract i.toNat j.toNat)) w := by
    rw [run_sliceAt_string (h := hS.u), run_slice_string (h := hS.u) (h0 := h0) (h1 := h1) (h2 := h2)]
  simp only [execOp, Option.map_none, Option.map_some, hA.ev hx, hA.ev hy, hA.ev hz, Sem.run_bind, h3, Result.andThen_ok, Sem.run_pure]
end
section
variable {c : Cx} {fr : Fr} {H : List Pc} {k : List It} {Φ : Gl} {ops : Array Oper} {rest : List Oper} {d : Nat} {o : Op} {ty : TypeId} {v u : Value} {x y : Operand}
end
end Go.Proofs.YtgogcgkocjpgoaaGreatDoor
/- Rows written as wholes: an owned slice as its row and back, copying, appending that grows, functions that are entries of the model, parts of a slice as values. -/
namespace Go.Proofs.YtgogcgkocjpgoaaGreatDoor
open Go.RowKit
theorem Flat.all {α : Type} {E : Elem α} {w : World} {cs : List Value} {xs : List α} (h : Flat E w cs xs []) (w' : World) : Flat E w' cs xs [] := h.frame (by simp)
section
variable {P : Program} {n : Nat} {fr : Fr} {H : List Pc} {ty : TypeId} {x y z : Operand}
end
section
variable {c : Cx} {fr : Fr} {H k' : List Pc} {k : List It} {Φ : Gl} {d : Nat} {o : Op} {ty : TypeId} {v u : Value} {x y : Operand}
end
end Go.Proofs.YtgogcgkocjpgoaaGreatDoor
/- Functions bound to a receiver, clearing, loops beside pieces that are not told. -/
namespace Go.Proofs.YtgogcgkocjpgoaaGreatDoor
open Go.RowKit
section
variable {P : Program} {n : Nat} {fr : Fr} {H : List Pc} {ty : TypeId}
end
section
variable {c : Cx} {fr : Fr} {H : List Pc} {k : List It} {Φ : Gl} {d : Nat} {ty : TypeId} {x : Operand}
end
end Go.Proofs.YtgogcgkocjpgoaaGreatDoor
/- Numbers as texts; what the library's variables read as: the environment as one piece. -/
namespace Go.Proofs.YtgogcgkocjpgoaaGreatDoor
open Go.RowKit
def bz (l : Bs) : ByteArray := ⟨l.toArray⟩
theorem bz_list (l : Bs) : (bz l).data.toList = l := by simp [bz]
theorem bz_of (s : ByteArray) : bz s.data.toList = s := by simp [bz]
theorem bz_size (l : Bs) : (bz l).size = l.length := by simp [bz, ByteArray.size]
theorem size_list (s : ByteArray) : s.data.toList.length = s.size := by simp
theorem bz_app (a b : Bs) : bz a ++ bz b = bz (a ++ b) := by apply ByteArray.ext; simp [bz, ByteArray.data_append]
theorem ret_str {a b : ByteArray} (h : a = b) : Ending.returned (.string a) = .returned (.string b) := by rw [h]
theorem below_grow (w : World) (k : Nat) (os : Array Obj) : Below w.heap.size w (Go.Sort.grow (w.drewN k) os) := by
  refine ⟨rfl, rfl, rfl, ?_, fun i hi => ?_⟩
  · simp [Go.Sort.grow, World.drewN]
  · simp [Go.Sort.grow, World.drewN, Array.getElem?_append_left hi]
/-- the library's variables lie where they lay -/
def EEnv : Elem Unit where
  sz := 0
  rep w cs _ F := cs = [] ∧ (Lib.TabIs Tryz.prog w "internal/strconv.uint64pow10" .u64 Lib.pow10Tab ∧ (∃ m, w.cell? ⟨0, 0, none⟩ = some (.int .i64 m)) ∧ (∃ tp p, w.var? Tryz.prog "strconv.ErrSyntax" = some #[.iface tp p]) ∧ (∃ tp p, w.var? Tryz.prog "strconv.ErrRange" = some #[.iface tp p])) ∧ F = [3, 0, 1, 2] ∧ ∀ b ∈ F, b < w.heap.size
  len h := by simp [h.1]
  lt h := h.2.2.2
  frame h hF := by
    obtain ⟨h1, ⟨h2, h3, h4, h5⟩, rfl, h6⟩ := h
    have e0 := hF 3 (by simp)
    have e1 := hF 0 (by simp)
    have e2 := hF 1 (by simp)
    have e3 := hF 2 (by simp)
    refine ⟨h1, ⟨?_, ?_, ?_, ?_⟩, rfl, fun b hb => ?_⟩
    · unfold Lib.TabIs World.var? at h2 ⊢
      rw [show Tryz.prog.globalNamed "internal/strconv.uint64pow10" = some 3 by kernel_rfl] at h2 ⊢
      simp only [Option.bind_some] at h2 ⊢
      rw [e0]; exact h2
    · obtain ⟨m, hm⟩ := h3
      refine ⟨m, ?_⟩
      unfold World.cell? at hm ⊢
      rw [e1]; exact hm
    · obtain ⟨tp, p, hm⟩ := h4
      refine ⟨tp, p, ?_⟩
      unfold World.var? at hm ⊢
      rw [show Tryz.prog.globalNamed "strconv.ErrSyntax" = some 1 by kernel_rfl] at hm ⊢
      simp only [Option.bind_some] at hm ⊢
      rw [e2]; exact hm
    · obtain ⟨tp, p, hm⟩ := h5
      refine ⟨tp, p, ?_⟩
      unfold World.var? at hm ⊢
      rw [show Tryz.prog.globalNamed "strconv.ErrRange" = some 2 by kernel_rfl] at hm ⊢
      simp only [Option.bind_some] at hm ⊢
      rw [e3]; exact hm
    · have e := hF b hb
      have := h6 b hb
      rw [Array.getElem?_eq_getElem this] at e
      exact (Array.getElem?_eq_some_iff.1 e).1
theorem dig_small : ∀ n : Nat, n < 10 → (⟨#[48, 49, 50, 51, 52, 53, 54, 55, 56, 57]⟩ : ByteArray).extract n (n + 1) = ⟨#[UInt8.ofNat (48 + n)]⟩ := by decide
set_option maxHeartbeats 400000 in
set_option maxRecDepth 100000 in
theorem l1Num_c : ∀ (k n : Nat) (w : World), n < 10 ^ (k + 1) → n ≤ 999999999999999999 →
    Calls Tryz.prog 178 #[.int .i64 (n : Int)] w fun e w' => e = .returned (.string (bz (Lib.decDigits n))) ∧ ∃ j, w' = w.drewN j := by
  intro k
  induction k with
  | zero =>
    intro n w h1 h2
    have h3 : n < 10 := by simpa using h1
    have hd := Lib.hid (dig_small n h3)
    have hn : ¬ ((n : Int) < 0) := by omega
    go_enter Tryz.func178, Tryz.ntmps178
    go_wp2_with fail
    go_ret
    refine ⟨ret_str ?_, 0, rfl⟩
    rw [hd.out, Lib.decDigits, dif_pos h3]; rfl
  | succ k ih =>
    intro n w h1 h2
    by_cases h3 : n < 10
    · have hd := Lib.hid (dig_small n h3)
      have hn : ¬ ((n : Int) < 0) := by omega
      go_enter Tryz.func178, Tryz.ntmps178
      go_wp2_with fail
      go_ret
      refine ⟨ret_str ?_, 0, rfl⟩
      rw [hd.out, Lib.decDigits, dif_pos h3]; rfl
    · have h4 : n / 10 < 10 ^ (k + 1) := by rw [Nat.pow_succ] at h1; omega
      have hc := fun w => ih (n / 10) w h4 (by omega)
      rw [show ((n / 10 : Nat) : Int) = (n : Int) / 10 from by omega] at hc
      have hn : ¬ ((n : Int) < 0) := by omega
      have h5 : ¬ ((n : Int) < 10) := by omega
      have hd := Lib.hid (dig_small (n % 10) (by omega))
      have b0 : (0 : Int) ≤ (n : Int) % 10 := by omega
      have b1 : (n : Int) % 10 ≤ 9 := by omega
      have e0 : IntKind.i64.wrap ((n : Int) / 10) = (n : Int) / 10 := by rw [IntKind.wrap_i64]; omega
      have e1 : IntKind.i64.wrap ((n : Int) % 10) = (n : Int) % 10 := by rw [IntKind.wrap_i64]; omega
      have e2 : IntKind.i64.wrap ((n : Int) % 10 + 1) = (n : Int) % 10 + 1 := by rw [IntKind.wrap_i64]; omega
      have e3 : ((n : Int) % 10).toNat = n % 10 := by omega
      have e4 : ((n : Int) % 10 + 1).toNat = n % 10 + 1 := by omega
      have e5 : (n : Int).tmod 10 = (n : Int) % 10 := Int.tmod_eq_emod_of_nonneg (by omega)
      have e6 : (n : Int).tdiv 10 = (n : Int) / 10 := Int.tdiv_eq_ediv_of_nonneg (by omega)
      have hsl : ∀ wx, (Instr.slice 9 (.string ⟨#[48, 49, 50, 51, 52, 53, 54, 55, 56, 57]⟩) (some (.int .i64 ((n : Int) % 10))) (some (.int .i64 ((n : Int) % 10 + 1))) none).run Tryz.prog wx = .ok (.string ⟨#[UInt8.ofNat (48 + n % 10)]⟩) wx := fun wx => by
        have h6 := run_slice_string (P := Tryz.prog) wx 9 ⟨#[48, 49, 50, 51, 52, 53, 54, 55, 56, 57]⟩ .i64 .i64 ((n : Int) % 10) ((n : Int) % 10 + 1) Tryz.underlying9 (by omega) (by omega) (by show _ ≤ ((10 : Nat) : Int); omega)
        rw [h6, e3, e4, hd.out]
      have hD : (bz (Lib.decDigits (n / 10))).size ≤ 18 := by rw [bz_size]; exact digit_len 17 _ (by omega)
      have hd1 : (⟨#[UInt8.ofNat (48 + n % 10)]⟩ : ByteArray).size ≤ 1 := by simp [ByteArray.size]
      have hR : Hid (bz (Lib.decDigits (n / 10)) ++ ⟨#[UInt8.ofNat (48 + n % 10)]⟩ = bz (Lib.decDigits n)) := by
        refine Lib.hid ?_
        conv => rhs; rw [Lib.decDigits, dif_neg (by omega), ← bz_app]
        rfl
      generalize bz (Lib.decDigits (n / 10)) = D at *
      generalize (⟨#[UInt8.ofNat (48 + n % 10)]⟩ : ByteArray) = d at *
      clear ih h1 e3 e4
      go_enter Tryz.func178, Tryz.ntmps178
      go_wp2_with fail
      go_quiet ((go_at_call 178; exact Calls.quiet_of (v := .string D) (hc (World.drewN _ _))))
      go_wp2_with fail
      go_ret
      refine ⟨ret_str ?_, _, rfl⟩
      exact hR.out
def EnvP (FT : List Nat) : Pc := .isv EEnv (.agg #[]) () FT
theorem EnvP.env {w : World} {FT : List Nat} (h : (EnvP FT).P w) : Lib.TabIs Tryz.prog w "internal/strconv.uint64pow10" .u64 Lib.pow10Tab ∧ (∃ m, w.cell? ⟨0, 0, none⟩ = some (.int .i64 m)) ∧ (∃ tp p, w.var? Tryz.prog "strconv.ErrSyntax" = some #[.iface tp p]) ∧ (∃ tp p, w.var? Tryz.prog "strconv.ErrRange" = some #[.iface tp p]) := by
  obtain ⟨cs, _, h⟩ := h; exact h.2.1
theorem itoa_c (n : Int) (h0 : -9223372036854775808 ≤ n) (h1 : n ≤ 9223372036854775807) (FT : List Nat) (w : World) (hT : (EnvP FT).P w) :
    Calls Tryz.prog 171 #[.int .i64 n] w fun e w' => e = .returned (.string (bz (Lib.itoa n))) ∧ Below w.heap.size w w' := by
  refine (Tryz.strconv_Itoa n h0 h1 w (EnvP.env hT).1).mono ?_
  rintro e w' ⟨rfl, k, os, rfl⟩
  exact ⟨rfl, below_grow w k os⟩
theorem flat_strs {w : World} : ∀ {l : List ByteArray}, (∀ s ∈ l, s.size ≤ maxLen) → Flat EStr w (l.map Value.string) l []
  | [], _ => ⟨rfl, rfl⟩
  | s :: l, h => ⟨[.string s], l.map Value.string, [], [], by simp, by simp, ⟨rfl, h s (by simp), rfl⟩, flat_strs fun t ht => h t (by simp [ht])⟩
theorem splitB_small (sep : ByteArray) (n : Nat) : ∀ (k : Nat) (s : ByteArray), s.size ≤ n → ∀ t ∈ Lib.splitB sep 0 k s, t.size ≤ n
  | 0, s, h, t, ht => by rw [Lib.splitB_zero, List.mem_singleton] at ht; subst ht; exact h
  | k + 1, s, h, t, ht => by
    unfold Lib.splitB at ht
    split at ht
    · rw [List.mem_singleton] at ht; subst ht; exact h
    · rcases List.mem_cons.1 ht with rfl | ht
      · simp [ByteArray.size_extract]; omega
      · exact splitB_small sep n k _ (by simp [ByteArray.size_extract]; omega) t ht
theorem split_c (s sep : ByteArray) (hs : s.size ≤ 1000000000) (h1 : 1 ≤ sep.size) (FT : List Nat) (w : World) (hT : (EnvP FT).P w) :
    Calls Tryz.prog 86 #[.string s, .string sep] w (RetNew EStr 9 (Lib.splitB sep 0 (Lib.countB s sep) s) w) := by
  obtain ⟨m, hm⟩ := (EnvP.env hT).2.1
  refine (Tryz.strings_Split s sep m w (by omega) hm h1).mono ?_
  rintro e w2 ⟨rfl, rfl⟩
  have hl := Lib.splitB_all sep h1 0 (Lib.countB s sep) s rfl
  have hc := Lib.countB_le sep h1 s.size s (Nat.le_refl _)
  have hb : Below w.heap.size w (w.alloc (.cells ((Lib.splitB sep 0 (Lib.countB s sep) s).map Value.string).toArray 9)) := below_alloc _ _
  refine ⟨_, [w.heap.size], rfl, .inr ⟨w.heap.size, Lib.countB s sep + 1, (Lib.splitB sep 0 (Lib.countB s sep) s).map Value.string, [], [], by rw [hl], by rw [List.append_nil]; exact Row.made _ _ _, by omega, by unfold maxLen; omega, by simp [hl, EStr], flat_strs fun t ht => ?_, rfl⟩, by simp, by simp, hb⟩
  have := splitB_small sep s.size _ s (Nat.le_refl _) t ht
  unfold maxLen; omega
end Go.Proofs.YtgogcgkocjpgoaaGreatDoor
/- Texts split and joined, numbers read back; plain lists. -/
namespace Go.Proofs.YtgogcgkocjpgoaaGreatDoor
open Go.RowKit
theorem idx_at (b : UInt8) (r : Bs) : ∀ x : Bs, (∀ c ∈ x, c ≠ b) → Lib.index (x ++ b :: r) [b] = x.length
  | [], _ => by simp [Lib.index]
  | c :: x, h => by
    have ih := idx_at b r x (fun d hd => h d (by simp [hd]))
    have hc : ¬ b = c := fun e => h c (by simp) e.symm
    rw [List.cons_append, Lib.index, if_neg (by simp [hc]), ih, if_neg (by simp <;> omega)]
    simp
theorem decFrom_app (l : Bs) (b : UInt8) (d : Nat) (hb : Lib.digitVal b = some d) : ∀ acc n, Lib.decFrom acc l = some n → Lib.decFrom acc (l ++ [b]) = some (n * 10 + d) := by
  induction l with
  | nil => intro acc n h; simp [Lib.decFrom] at h ⊢; subst h; rw [hb]
  | cons a l ih =>
    intro acc n h
    simp only [List.cons_append, Lib.decFrom] at h ⊢
    cases ha : Lib.digitVal a with
    | none => rw [ha] at h; cases h
    | some x =>
      have h2 : Lib.decFrom (acc * 10 + x) l = some n := by simpa [ha] using h
      exact ih _ _ h2
theorem dig_val : ∀ d : Nat, d < 10 → Lib.digitVal (UInt8.ofNat (48 + d)) = some d := by decide
theorem dec_back : ∀ (k u : Nat), u < 10 ^ (k + 1) → Lib.decFrom 0 (Lib.decDigits u) = some u
  | 0, u, h => by
    have h3 : u < 10 := by simpa using h
    rw [Lib.decDigits, dif_pos h3, Lib.decFrom, dig_val u h3]; simp [Lib.decFrom]
  | k + 1, u, h => by
    by_cases h3 : u < 10
    · rw [Lib.decDigits, dif_pos h3, Lib.decFrom, dig_val u h3]; simp [Lib.decFrom]
    · have ih := dec_back k (u / 10) (by rw [Nat.pow_succ] at h; omega)
      rw [Lib.decDigits, dif_neg h3, decFrom_app _ _ _ (dig_val (u % 10) (by omega)) _ _ ih]
      congr 1; omega
theorem atoi_back (u : Nat) (h : u < 10000000) : Lib.atoiAll (Lib.decDigits u) = .ok (u : Int) := by
  have hl := digit_len 6 u (by omega)
  have hp := digit_pos u
  rw [Lib.atoiAll_short _ (by omega)]
  have : Lib.atoi (Lib.decDigits u) = some (u : Int) := by
    have hb := dec_back 6 u (by omega)
    cases hd : Lib.decDigits u with
    | nil => rw [hd] at hp; simp at hp
    | cons b r =>
      have hm := digit_mem u b (by rw [hd]; simp)
      have h45 : (45 : UInt8).toNat = 45 := rfl
      have h43 : (43 : UInt8).toNat = 43 := rfl
      rw [Lib.atoi, if_neg (by simp; intro e; subst e; omega), if_neg (by simp; intro e; subst e; omega)]
      unfold Lib.decNat
      rw [if_neg (by simp), ← hd, hb]; rfl
  rw [this]; rfl
end Go.Proofs.YtgogcgkocjpgoaaGreatDoor
/- Texts split at a byte; plain. -/
namespace Go.Proofs.YtgogcgkocjpgoaaGreatDoor
open Go.RowKit
def splitL (b : UInt8) : Bs → List Bs
  | [] => [[]]
  | c :: r => if c == b then [] :: splitL b r else match splitL b r with
    | [] => [[c]]
    | x :: xs => (c :: x) :: xs
theorem splitL_at {b : UInt8} : ∀ {x : Bs} (r : Bs), (∀ c ∈ x, c ≠ b) → splitL b (x ++ b :: r) = x :: splitL b r
  | [], r, _ => by simp [splitL]
  | c :: x, r, h => by
    have ih := splitL_at (b := b) (x := x) r fun d hd => h d (by simp [hd])
    have hb : (c == b) = false := by simpa using h c (by simp)
    simp only [List.cons_append, splitL, hb, ih]
    simp
theorem splitL_no {b : UInt8} : ∀ {x : Bs}, (∀ c ∈ x, c ≠ b) → splitL b x = [x]
  | [], _ => rfl
  | c :: x, h => by
    have ih := splitL_no (b := b) (x := x) fun d hd => h d (by simp [hd])
    have hb : (c == b) = false := by simpa using h c (by simp)
    simp only [splitL, hb, ih]
    simp
theorem splitL_head (b : UInt8) (l : Bs) : ∃ r, splitL b l = upTo b l :: r ∧ (r = [] ↔ b ∉ l) := by
  rcases split_at b l with ⟨h, h2⟩ | ⟨h, h2, _⟩
  · refine ⟨splitL b (behind b l), ?_, ?_⟩
    · conv => lhs; rw [h2]
      exact splitL_at _ upTo_mem
    · refine ⟨fun e => ?_, fun e => absurd h e⟩
      have : ∀ l : Bs, splitL b l ≠ [] := by
        intro l
        cases l with
        | nil => simp [splitL]
        | cons c r =>
          unfold splitL
          split
          · simp
          · split <;> simp
      exact absurd e (this _)
  · exact ⟨[], by rw [splitL_no fun c hc e => h (by rw [← e]; exact hc), h2], by simp [h]⟩
theorem drop_split {l : Bs} {f k : Nat} (hf : f ≤ k) (hk : k < l.length) : l.drop f = (l.drop f).take (k - f) ++ l[k] :: l.drop (k + 1) := by
  have h1 : (l.drop f).drop (k - f) = l.drop k := by rw [List.drop_drop]; congr 1; omega
  conv => lhs; rw [← List.take_append_drop (k - f) (l.drop f), h1, List.drop_eq_getElem_cons hk]
theorem take_more {l : Bs} {f k : Nat} (hf : f ≤ k) (hk : k < l.length) : (l.drop f).take (k + 1 - f) = (l.drop f).take (k - f) ++ [l[k]] := by
  rw [show k + 1 - f = (k - f) + 1 by omega, List.take_succ_eq_append_getElem (by rw [List.length_drop]; omega)]
  congr 2
  rw [List.getElem_drop]; congr 1; omega
theorem ba_get (s : ByteArray) (k : Nat) (h : k < s.size) : s.data.toList[k]'(by simpa using h) = s[k] := rfl
theorem ext_z (s : ByteArray) (f k : Nat) : s.extract f k = bz ((s.data.toList.drop f).take (k - f)) := Lib.extract_eq s f k
theorem ext_end (s : ByteArray) (f : Nat) : s.extract f s.size = bz (s.data.toList.drop f) := by
  rw [Lib.extract_eq]; unfold bz; rw [List.take_of_length_le (by simp)]
theorem splitL_ne (b : UInt8) (l : Bs) : splitL b l ≠ [] := by
  obtain ⟨r, h, -⟩ := splitL_head b l
  rw [h]; simp
/-- Go's Split at one byte is the same -/
theorem splitB_L (b : UInt8) : ∀ (l : Bs), Lib.splitB ⟨#[b]⟩ 0 (l.count b) (bz l) = (splitL b l).map bz := by
  intro l
  induction hn : l.length using Nat.strongRecOn generalizing l with
  | ind n ih =>
    subst hn
    rcases split_at b l with ⟨h, h2⟩ | ⟨h, -, -⟩
    · obtain ⟨u, r, hm, e⟩ : ∃ u r : Bs, (∀ c ∈ u, c ≠ b) ∧ l = u ++ b :: r := ⟨_, _, upTo_mem, h2⟩
      subst e
      clear h h2
      have hc0 : u.count b = 0 := List.count_eq_zero.2 fun hc => hm b hc rfl
      have hcnt : (u ++ b :: r).count b = r.count b + 1 := by rw [List.count_append, List.count_cons_self, hc0]; omega
      have hi : Lib.indexB (bz (u ++ b :: r)) ⟨#[b]⟩ = (u.length : Int) := by
        unfold Lib.indexB
        rw [bz_list]
        exact idx_at b r u hm
      have e1 : (bz (u ++ b :: r)).extract 0 (u.length + 0) = bz u := by
        rw [← bz_of (ByteArray.extract _ _ _), Lib.extract_from_zero, bz_list, Nat.add_zero, List.take_left]
      have e2 : (bz (u ++ b :: r)).extract (u.length + (⟨#[b]⟩ : ByteArray).size) (bz (u ++ b :: r)).size = bz r := by
        rw [← bz_of (ByteArray.extract _ _ _)]
        congr 1
        rw [Lib.extract_data, bz_list, bz_size, show (⟨#[b]⟩ : ByteArray).size = 1 from rfl, show u ++ b :: r = (u ++ [b]) ++ r by simp, List.drop_left' (by simp)]
        exact List.take_of_length_le (by simp; omega)
      rw [hcnt, Lib.splitB_hit _ _ _ _ _ hi, e1, e2, ih _ (by simp; omega) _ rfl, splitL_at _ hm]
      rfl
    · have hc0 : l.count b = 0 := List.count_eq_zero.2 h
      rw [hc0, Lib.splitB_zero, splitL_no fun c hc e => h (by subst e; exact hc)]; rfl
theorem splitS_L (b : UInt8) (s : ByteArray) : Lib.splitB ⟨#[b]⟩ 0 (Lib.countB s ⟨#[b]⟩) s = (splitL b s.data.toList).map bz := by
  have h := splitB_L b s.data.toList
  rw [bz_of] at h
  rw [← h]
  congr 1
  have := Lib.count_one b s.data.toList
  unfold Lib.countB
  exact this
theorem splitL_join (b : UInt8) : ∀ (W : List Bs) (u : Bs), (∀ c ∈ u, c ≠ b) → (∀ w ∈ W, ∀ c ∈ w, c ≠ b) → splitL b (u ++ (W.map fun w => b :: w).flatten) = u :: W
  | [], u, hu, _ => by simpa using splitL_no hu
  | w :: W, u, hu, hW => by
    have ih := splitL_join b W w (hW w (by simp)) fun v hv => hW v (by simp [hv])
    rw [List.map_cons, List.flatten_cons, List.cons_append, splitL_at _ hu, ih]
end Go.Proofs.YtgogcgkocjpgoaaGreatDoor
/- Numbers read out of texts. -/
namespace Go.Proofs.YtgogcgkocjpgoaaGreatDoor
open Go.RowKit
section
variable {P : Program} {n : Nat} {fr : Fr} {H : List Pc} {ty : TypeId} {x : Operand} {t t2 : TypeId}
end
section
variable {c : Cx} {fr : Fr} {H : List Pc} {d : Nat} {Φ : Gl}
/-- a call that returns one of these values; nothing that was there has turned -/
theorem cx {f : Nat} {vs : List Value} (V : Value → Prop) (hc : ∀ w, St c.G c.D c.w0 H w → Calls c.P f vs.toArray w fun e w' => ∃ v, V v ∧ e = .returned v ∧ Below w.heap.size w w') (h : ∀ v, V v → T c ((d, v) :: fr) H Φ) : Cl c fr H d f vs Φ :=
  cl_of hc fun w e w' s ⟨v, hv, he, hB⟩ => ⟨v, he, fun a g => (h v hv).h a w' (s.below hB) g⟩
end
def resPI (s : ByteArray) : Int × Bool := match Lib.atoiAll s.data.toList with
  | .ok v => if btw (-999999) v 999999 && decide (bz (Lib.itoa v) = s) then (v, true) else (0, false)
  | _ => (0, false)
end Go.Proofs.YtgogcgkocjpgoaaGreatDoor
/- A number comes back out of its text. -/
namespace Go.Proofs.YtgogcgkocjpgoaaGreatDoor
open Go.RowKit
theorem resPI_back (u : Nat) (h : u ≤ 999999) : resPI (bz (Lib.decDigits u)) = ((u : Int), true) := by
  unfold resPI
  rw [bz_list, atoi_back u (by omega)]
  have e : Lib.itoa (u : Int) = Lib.decDigits u := by unfold Lib.itoa; rw [if_neg (by omega)]; simp
  simp only [e]
  rw [show btw (-999999) (u : Int) 999999 = true by unfold btw; rw [decide_eq_true (by omega), decide_eq_true (by omega)]; rfl]
  simp
end Go.Proofs.YtgogcgkocjpgoaaGreatDoor
/- Deliveries: their sentences, and that they come back out of them. Plain. -/
namespace Go.Proofs.YtgogcgkocjpgoaaGreatDoor
open Go.RowKit
def zDel : Delivery := ⟨0, 0, 0, 0⟩
def goodDel (d : Delivery) : Bool := btw 1 d.receiver 7 && btw 0 d.got 1000000 && btw 0 d.repaired d.got && btw 0 d.lost 1000000
def decI (n : Int) : Bs := Lib.decDigits n.toNat
def cmD (d : Delivery) : Bs := if d.repaired = 0 then [] else [44]
def itemW (d : Delivery) : List Bs := if d.got = 0 then [[110, 111], [105, 116, 101, 109, 115] ++ cmD d] else if d.got = 1 then [[49], [105, 116, 101, 109] ++ cmD d] else [decI d.got, [105, 116, 101, 109, 115] ++ cmD d]
def repW (d : Delivery) : List Bs := if d.repaired = 0 then [] else if d.got = 1 then [[114, 101, 112, 97, 105, 114, 101, 100, 44]] else if d.repaired = d.got then [[97, 108, 108], [111, 102], [116, 104, 101, 109], [114, 101, 112, 97, 105, 114, 101, 100, 44]] else [decI d.repaired, [111, 102], [116, 104, 101, 109], [114, 101, 112, 97, 105, 114, 101, 100, 44]]
def lostW (d : Delivery) : Bs := if d.lost = 0 then [110, 111, 110, 101] else decI d.lost
def headW (d : Delivery) : List Bs := [decI d.receiver, [103, 111, 116]] ++ itemW d ++ repW d ++ [[97, 110, 100], [108, 111, 115, 116]]
def jnB (W : List Bs) : Bs := (W.map fun w => 32 :: w).flatten
def delB (d : Delivery) : Bs := [82, 101, 99, 101, 105, 118, 101, 114] ++ jnB (headW d ++ [lostW d])
/-- the sentence -/
def delT (d : Delivery) : ByteArray := bz (delB d ++ [46])
def dig (l : Bs) : Prop := ∀ c ∈ l, 48 ≤ c.toNat ∧ c.toNat ≤ 57
theorem dec_dig (n : Int) : dig (decI n) := digit_mem n.toNat
theorem ne_of (b : UInt8) {l : Bs} (hb : b.toNat < 48 ∨ 57 < b.toNat) (h : dig l) : ∀ c ∈ l, c ≠ b := fun c hc e => by have := h c hc; subst e; omega
theorem word_ne {d : Delivery} {b : UInt8} (hb : b = 32 ∨ b = 46) : ∀ w ∈ headW d ++ [lostW d], ∀ c ∈ w, c ≠ b := by
  have h1 := fun n => ne_of b (l := decI n) (by rcases hb with rfl | rfl <;> decide) (dec_dig n)
  have hl : ∀ l : Bs, (32 ∉ l ∧ 46 ∉ l) → ∀ c ∈ l, c ≠ b := fun l h c hc e => by
    subst e
    rcases hb with rfl | rfl
    · exact h.1 hc
    · exact h.2 hc
  intro w hw
  unfold headW at hw
  simp only [List.mem_append, List.mem_cons, List.not_mem_nil, or_false] at hw
  rcases hw with ((((hw | hw) | hw) | hw) | hw | hw) | hw
  · subst hw; exact h1 _
  · subst hw; exact hl _ (by decide)
  · unfold itemW cmD at hw
    split at hw <;> (try split at hw) <;> (try split at hw) <;> (simp only [List.mem_cons, List.not_mem_nil, or_false] at hw; rcases hw with rfl | rfl) <;> first | exact h1 _ | exact hl _ (by decide)
  · unfold repW at hw
    by_cases k0 : d.repaired = 0
    · rw [if_pos k0] at hw; cases hw
    rw [if_neg k0] at hw
    by_cases k1 : d.got = 1
    · rw [if_pos k1] at hw
      simp only [List.mem_cons, List.not_mem_nil, or_false] at hw; subst hw; exact hl _ (by decide)
    rw [if_neg k1] at hw
    split at hw <;> (simp only [List.mem_cons, List.not_mem_nil, or_false] at hw; rcases hw with rfl | rfl | rfl | rfl) <;> first | exact h1 _ | exact hl _ (by decide)
  · subst hw; exact hl _ (by decide)
  · subst hw; exact hl _ (by decide)
  · subst hw; unfold lostW; split
    · exact hl _ (by decide)
    · exact h1 _
theorem delB_ne {d : Delivery} : ∀ c ∈ delB d, c ≠ 46 := by
  intro c hc
  unfold delB jnB at hc
  rcases List.mem_append.1 hc with h | h
  · exact fun e => by subst e; revert h; decide
  · obtain ⟨w, hw, hc⟩ := List.mem_flatten.1 h
    obtain ⟨u, hu, rfl⟩ := List.mem_map.1 hw
    rcases List.mem_cons.1 hc with rfl | hc
    · decide
    · exact word_ne (.inr rfl) u hu c hc
theorem split_del (d : Delivery) : splitL 32 (delB d) = [82, 101, 99, 101, 105, 118, 101, 114] :: (headW d ++ [lostW d]) := splitL_join 32 _ _ (by decide) (word_ne (.inl rfl))
theorem split_dot (d : Delivery) : splitL 32 (delB d ++ [46]) = [82, 101, 99, 101, 105, 118, 101, 114] :: (headW d ++ [lostW d ++ [46]]) := by
  have h : delB d ++ [46] = [82, 101, 99, 101, 105, 118, 101, 114] ++ ((headW d ++ [lostW d ++ [46]]).map fun w => 32 :: w).flatten := by unfold delB jnB; simp
  rw [h]
  refine splitL_join 32 _ _ (by decide) fun w hw => ?_
  rcases List.mem_append.1 hw with hw | hw
  · exact word_ne (d := d) (.inl rfl) w (by simp [hw])
  · rw [List.mem_singleton] at hw; subst hw
    intro c hc
    rcases List.mem_append.1 hc with hc | hc
    · exact word_ne (d := d) (.inl rfl) (lostW d) (by simp) c hc
    · rw [List.mem_singleton] at hc; subst hc; decide
/-- how the program reads a word aS a number -/
def nwI (l : Bs) : Int := match Lib.atoiAll l with
  | Lib.NumEnd.ok v => v
  | Lib.NumEnd.range => Lib.atoiSat l
  | _ => 0
/-- how the reference reads it -/
def nwS (l : Bs) : Int := if l = [49, 48, 48, 48, 48, 48, 48] then 1000000 else (resPI (bz l)).1
theorem nwI_dec {n : Int} (h0 : 0 ≤ n) (h1 : n ≤ 1000000) : nwI (decI n) = n := by
  unfold nwI decI
  rw [atoi_back n.toNat (by omega)]
  show ((n.toNat : Nat) : Int) = n; omega
theorem dec_mil : Lib.decDigits 1000000 = [49, 48, 48, 48, 48, 48, 48] := by decide +kernel
theorem nwS_dec {n : Int} (h0 : 0 ≤ n) (h1 : n ≤ 1000000) : nwS (decI n) = n := by
  unfold nwS decI
  by_cases h : n = 1000000
  · subst h; rw [show (1000000 : Int).toNat = 1000000 from rfl, dec_mil, if_pos rfl]
  · rw [if_neg, resPI_back n.toNat (by omega)]
    · show ((n.toNat : Nat) : Int) = n; omega
    · intro e
      have h2 := atoi_back n.toNat (by omega)
      have h3 := atoi_back 1000000 (by omega)
      rw [dec_mil, ← e, h2] at h3
      have : ((n.toNat : Nat) : Int) = ((1000000 : Nat) : Int) := by injection h3
      omega
def atW (ws : List Bs) (i : Nat) : Bs := ws.getD i []
def lastW (ws : List Bs) : Bs := ws.getD (ws.length - 1) []
/-- what the program makes of the words -/
def pdI (ws : List Bs) : Delivery := ⟨nwI (atW ws 1), nwI (atW ws 3), if atW ws 5 = [114, 101, 112, 97, 105, 114, 101, 100, 44] then 1 else if atW ws 5 = [97, 108, 108] then nwI (atW ws 3) else if atW ws 5 = [97, 110, 100] then 0 else nwI (atW ws 5), nwI (lastW ws)⟩
/-- what the reference makes of them -/
def pdS (ws : List Bs) : Delivery := ⟨nwS (atW ws 1), nwS (atW ws 3), if atW ws 5 = [97, 108, 108] ∨ atW ws 5 = [114, 101, 112, 97, 105, 114, 101, 100, 44] then nwS (atW ws 3) else nwS (atW ws 5), if lastW ws = [] then 0 else nwS (lastW ws).dropLast⟩
theorem dig_not {l : Bs} (h : dig l) (hl : 1 ≤ l.length) : l ≠ [114, 101, 112, 97, 105, 114, 101, 100, 44] ∧ l ≠ [97, 108, 108] ∧ l ≠ [97, 110, 100] := by
  refine ⟨?_, ?_, ?_⟩ <;> rintro rfl
  · have := h 114 (by simp); revert this; decide
  · have := h 97 (by simp); revert this; decide
  · have := h 97 (by simp); revert this; decide
theorem good_del {d : Delivery} (h : goodDel d = true) : (1 ≤ d.receiver ∧ d.receiver ≤ 7) ∧ (0 ≤ d.got ∧ d.got ≤ 1000000) ∧ (0 ≤ d.repaired ∧ d.repaired ≤ d.got) ∧ (0 ≤ d.lost ∧ d.lost ≤ 1000000) := by
  unfold goodDel btw at h
  simp only [Bool.and_eq_true, decide_eq_true_eq] at h
  exact ⟨h.1.1.1, h.1.1.2, h.1.2, h.2⟩
theorem lastW_app (u : Bs) (W : List Bs) (l : Bs) : lastW (u :: (W ++ [l])) = l := by
  unfold lastW
  rw [List.getD_eq_getElem?_getD]; simp
theorem five (d : Delivery) (l : Bs) : atW ([82, 101, 99, 101, 105, 118, 101, 114] :: (headW d ++ [l])) 1 = decI d.receiver ∧ atW ([82, 101, 99, 101, 105, 118, 101, 114] :: (headW d ++ [l])) 3 = (if d.got = 0 then [110, 111] else if d.got = 1 then [49] else decI d.got)
    ∧ atW ([82, 101, 99, 101, 105, 118, 101, 114] :: (headW d ++ [l])) 5 = (if d.repaired = 0 then [97, 110, 100] else if d.got = 1 then [114, 101, 112, 97, 105, 114, 101, 100, 44] else if d.repaired = d.got then [97, 108, 108] else decI d.repaired) ∧ 8 ≤ ([82, 101, 99, 101, 105, 118, 101, 114] :: (headW d ++ [l])).length := by
  unfold headW itemW repW atW
  refine ⟨rfl, ?_, ?_, ?_⟩
  all_goals
    by_cases a : d.repaired = 0 <;> by_cases b : d.got = 0 <;> by_cases c : d.got = 1 <;> by_cases e : d.repaired = d.got <;> (first | simp only [if_pos a] | simp only [if_neg a] | skip) <;> (first | simp only [if_pos b] | simp only [if_neg b] | skip) <;> (first | simp only [if_pos c] | simp only [if_neg c] | skip) <;> (first | simp only [if_pos e] | simp only [if_neg e] | skip) <;> first | rfl | (simp; done) | omega
theorem nwI_no : nwI [110, 111] = 0 := by decide +kernel
theorem nwI_none : nwI [110, 111, 110, 101] = 0 := by decide +kernel
theorem nwI_one : nwI [49] = 1 := by decide +kernel
theorem nwS_no : nwS [110, 111] = 0 := by decide +kernel
theorem nwS_none : nwS [110, 111, 110, 101] = 0 := by decide +kernel
theorem nwS_and : nwS [97, 110, 100] = 0 := by decide +kernel
theorem nwS_one : nwS [49] = 1 := by decide +kernel
theorem pdI_back {d : Delivery} (hg : goodDel d = true) : pdI ([82, 101, 99, 101, 105, 118, 101, 114] :: (headW d ++ [lostW d])) = d := by
  obtain ⟨⟨r0, r1⟩, ⟨g0, g1⟩, ⟨p0, p1⟩, l0, l1⟩ := good_del hg
  obtain ⟨e1, e3, e5, -⟩ := five d (lostW d)
  unfold pdI
  rw [e1, e3, e5, lastW_app]
  obtain ⟨rc, gt, rp, ls⟩ := d
  dsimp only at r0 r1 g0 g1 p0 p1 l0 l1 ⊢
  have hr := nwI_dec (n := rc) (by omega) (by omega)
  have hl : nwI (lostW ⟨rc, gt, rp, ls⟩) = ls := by
    unfold lostW; dsimp only
    split
    · rw [nwI_none]; omega
    · exact nwI_dec l0 l1
  have hgt : nwI (if gt = 0 then [110, 111] else if gt = 1 then [49] else decI gt) = gt := by
    split
    · rw [nwI_no]; omega
    · split
      · rw [nwI_one]; omega
      · exact nwI_dec g0 g1
  rw [hr, hl, hgt]
  congr 1
  by_cases a : rp = 0
  · rw [if_pos a, if_neg (by decide), if_neg (by decide), if_pos rfl]; omega
  rw [if_neg a]
  by_cases b : gt = 1
  · rw [if_pos b, if_pos rfl]; omega
  rw [if_neg b]
  by_cases c : rp = gt
  · rw [if_pos c, if_neg (by decide), if_pos rfl]; omega
  rw [if_neg c]
  obtain ⟨n1, n2, n3⟩ := dig_not (dec_dig rp) (digit_pos _)
  rw [if_neg n1, if_neg n2, if_neg n3]
  exact nwI_dec p0 (by omega)
theorem pdS_back {d : Delivery} (hg : goodDel d = true) : pdS ([82, 101, 99, 101, 105, 118, 101, 114] :: (headW d ++ [lostW d ++ [46]])) = d := by
  obtain ⟨⟨r0, r1⟩, ⟨g0, g1⟩, ⟨p0, p1⟩, l0, l1⟩ := good_del hg
  obtain ⟨e1, e3, e5, -⟩ := five d (lostW d ++ [46])
  unfold pdS
  rw [e1, e3, e5, lastW_app, if_neg (show ¬ (lostW d ++ [46] = []) by simp), List.dropLast_concat]
  obtain ⟨rc, gt, rp, ls⟩ := d
  dsimp only at r0 r1 g0 g1 p0 p1 l0 l1 ⊢
  have hr := nwS_dec (n := rc) (by omega) (by omega)
  have hl : nwS (lostW ⟨rc, gt, rp, ls⟩) = ls := by
    unfold lostW; dsimp only
    split
    · rw [nwS_none]; omega
    · exact nwS_dec l0 l1
  have hgt : nwS (if gt = 0 then [110, 111] else if gt = 1 then [49] else decI gt) = gt := by
    split
    · rw [nwS_no]; omega
    · split
      · rw [nwS_one]; omega
      · exact nwS_dec g0 g1
  rw [hr, hl, hgt]
  congr 1
  by_cases a : rp = 0
  · rw [if_pos a, if_neg (by decide), nwS_and]; omega
  rw [if_neg a]
  by_cases b : gt = 1
  · rw [if_pos b, if_pos (.inr rfl)]; omega
  rw [if_neg b]
  by_cases c : rp = gt
  · rw [if_pos c, if_pos (.inl rfl)]; omega
  rw [if_neg c]
  obtain ⟨n1, n2, n3⟩ := dig_not (dec_dig rp) (digit_pos _)
  rw [if_neg fun h => h.elim n2 n1]
  exact nwS_dec p0 (by omega)
/-- without the stop at the end -/
def unDot (l : Bs) : Bs := Lib.trimSuffix l [46]
theorem unDot_at (l : Bs) : unDot (l ++ [46]) = l := by
  unfold unDot Lib.trimSuffix Lib.hasSuffix
  rw [if_pos (by rw [List.isSuffixOf_iff_suffix]; exact List.suffix_append _ _)]
  simp
def wsI (s : ByteArray) : List Bs := splitL 32 (unDot s.data.toList)
def wsS (s : ByteArray) : List Bs := splitL 32 s.data.toList
def okPDI (s : ByteArray) : Bool := !decide ((wsI s).length < 8) && goodDel (pdI (wsI s)) && decide (delT (pdI (wsI s)) = s)
def okPDS (s : ByteArray) : Bool := !(decide (90 < s.size) || decide ((wsS s).length < 8)) && goodDel (pdS (wsS s)) && decide (delT (pdS (wsS s)) = s)
def resPD (s : ByteArray) : Delivery × Bool := if okPDI s then (pdI (wsI s), true) else (zDel, false)
theorem delT_list (d : Delivery) : (delT d).data.toList = delB d ++ [46] := bz_list _
theorem wsI_del (d : Delivery) : wsI (delT d) = [82, 101, 99, 101, 105, 118, 101, 114] :: (headW d ++ [lostW d]) := by unfold wsI; rw [delT_list, unDot_at, split_del]
theorem wsS_del (d : Delivery) : wsS (delT d) = [82, 101, 99, 101, 105, 118, 101, 114] :: (headW d ++ [lostW d ++ [46]]) := by unfold wsS; rw [delT_list, split_dot]
theorem dec_len {n : Int} (h : n ≤ 1000000) : (decI n).length ≤ 7 := digit_len 6 _ (by omega)
theorem delT_size {d : Delivery} (hg : goodDel d = true) : (delT d).size ≤ 80 := by
  obtain ⟨⟨r0, r1⟩, ⟨g0, g1⟩, ⟨p0, p1⟩, l0, l1⟩ := good_del hg
  have hr : (decI d.receiver).length ≤ 1 := digit_len 0 _ (by omega)
  have hg := dec_len g1
  have hp := dec_len (n := d.repaired) (by omega)
  have hl := dec_len l1
  unfold delT
  rw [bz_size]
  unfold delB jnB headW
  have hi : ((itemW d).map fun w => 32 :: w).flatten.length ≤ 15 := by
    unfold itemW cmD
    by_cases a : d.repaired = 0 <;> by_cases b : d.got = 0 <;> by_cases c : d.got = 1 <;> (first | simp only [if_pos a] | simp only [if_neg a] | skip) <;> (first | simp only [if_pos b] | simp only [if_neg b] | skip) <;> (first | simp only [if_pos c] | simp only [if_neg c] | skip) <;> simp <;> omega
  have hw : ((repW d).map fun w => 32 :: w).flatten.length ≤ 26 := by
    unfold repW
    by_cases a : d.repaired = 0 <;> by_cases c : d.got = 1 <;> by_cases e : d.repaired = d.got <;> (first | simp only [if_pos a] | simp only [if_neg a] | skip) <;> (first | simp only [if_pos c] | simp only [if_neg c] | skip) <;> (first | simp only [if_pos e] | simp only [if_neg e] | skip) <;> simp <;> omega
  have hs : (lostW d).length ≤ 7 := by unfold lostW; split <;> first | exact hl | decide
  simp only [List.map_append, List.flatten_append, List.length_append, List.map_cons, List.map_nil, List.flatten_cons, List.flatten_nil, List.length_cons, List.length_nil]
  omega
theorem okPDI_del {d : Delivery} (hg : goodDel d = true) : okPDI (delT d) = true ∧ pdI (wsI (delT d)) = d := by
  unfold okPDI
  rw [wsI_del, pdI_back hg, hg, decide_eq_true rfl]
  have := (five d (lostW d)).2.2.2
  rw [decide_eq_false (by omega)]
  exact ⟨rfl, rfl⟩
theorem okPDS_del {d : Delivery} (hg : goodDel d = true) : okPDS (delT d) = true ∧ pdS (wsS (delT d)) = d := by
  unfold okPDS
  rw [wsS_del, pdS_back hg, hg, decide_eq_true rfl]
  have := (five d (lostW d ++ [46])).2.2.2
  have := delT_size hg
  rw [decide_eq_false (by omega), decide_eq_false (by omega)]
  exact ⟨rfl, rfl⟩
/-- the reference's answer is the program's -/
theorem resPD_S (s : ByteArray) : (if okPDS s then (pdS (wsS s), true) else (zDel, false)) = resPD s := by
  unfold resPD
  cases h : okPDS s
  · cases h2 : okPDI s
    · rfl
    · unfold okPDI at h2
      simp only [Bool.and_eq_true, decide_eq_true_eq] at h2
      obtain ⟨⟨-, hg⟩, e⟩ := h2
      rw [← e, (okPDS_del hg).1] at h
      cases h
  · have h0 := h
    unfold okPDS at h
    simp only [Bool.and_eq_true, decide_eq_true_eq] at h
    obtain ⟨⟨-, hg⟩, e⟩ := h
    have h2 := okPDI_del hg
    rw [e] at h2
    rw [h2.1, h2.2]
theorem resPD_back {d : Delivery} (hg : goodDel d = true) : resPD (delT d) = (d, true) := by
  unfold resPD
  rw [(okPDI_del hg).1, (okPDI_del hg).2]; rfl
end Go.Proofs.YtgogcgkocjpgoaaGreatDoor
/- Structs of type Delivery in a walk's state: opened, closed. -/
namespace Go.Proofs.YtgogcgkocjpgoaaGreatDoor
open Go.RowKit
section
variable {c : Cx} {fr : Fr} {H : List Pc} {Φ : Gl}
theorem atDelivery {a : Option Addr} {n cp : Nat} {xs : List Delivery} {F : List Nat} (i : Nat) (h : ∀ (hi : i < xs.length) (b o : Nat), a = some ⟨b, o, none⟩ → T c fr (.cel b (o + i * 4) [.int .i64 xs[i].receiver, .int .i64 xs[i].got, .int .i64 xs[i].repaired, .int .i64 xs[i].lost] :: H) Φ) (hm : .sl EDelivery (.slice a n cp) xs F ∈ H := by (repeat (first | exact .head _ | apply List.Mem.tail)); first | done | fail) (hi : i < xs.length := by omega) : T c fr H Φ := .mk fun ac w s g => by
  obtain ⟨b, o, cs, G, ha, hrep, hG, hb, hne, hr⟩ := sl_at (s.get hm) i hi
  obtain ⟨rfl, rfl⟩ := hrep
  exact (h hi b o  ha  ).h ac w (s.ro hm rfl rfl ⟨hne, hr⟩ (by intro x hx; simp [Pc.F] at hx; subst hx; exact hb)) g
theorem flatDelivery (x : Delivery)  (w : World) : Flat EDelivery w [.int .i64 x.receiver, .int .i64 x.got, .int .i64 x.repaired, .int .i64 x.lost] [x] [] := ⟨_, [], [], [], by simp, by simp, ⟨rfl, rfl⟩, rfl, rfl⟩
end
end Go.Proofs.YtgogcgkocjpgoaaGreatDoor
/- A call that reads what is owned, and gives new pieces. -/
namespace Go.Proofs.YtgogcgkocjpgoaaGreatDoor
open Go.RowKit
theorem sep_roA : ∀ (A : List Pc), A.all (fun p => !p.mu) = true → Sep A
  | [], _ => trivial
  | p :: A, h => by
    simp only [List.all_cons, Bool.and_eq_true, Bool.not_eq_true'] at h
    exact ⟨fun q hq hm => by
      have hq' := List.all_eq_true.1 h.2 q hq
      simp only [Bool.not_eq_true'] at hq'
      rw [h.1, hq'] at hm; simp at hm, sep_roA A h.2⟩
section
variable {c : Cx} {fr : Fr} {H : List Pc} {d : Nat} {Φ : Gl}
theorem cfr {f : Nat} {vs : List Value} {σ : Type} {C : σ → Prop} {vv : σ → Value} {N : σ → List Pc} (hf : ∀ w, St c.G c.D c.w0 H w → ∃ A, Hol A w ∧ A.all (fun p => !p.mu) = true ∧ Fn c.P f vs A [] C vv N)
    (h : ∀ s, C s → T c ((d, vv s) :: fr) (N s ++ H) Φ) (hN : ∀ s, (N s).all (·.mu) = true := by intro s; rfl) : Cl c fr H d f vs Φ :=
  cl_of (R := fun w e w' => ∃ s, C s ∧ e = .returned (vv s) ∧ Hol (N s) w' ∧ Sep (N s) ∧ Keep [] w w' ∧ ∀ p ∈ N s, ∀ b ∈ p.F, w.heap.size ≤ b)
    (fun w s => by
      obtain ⟨A, hA, hm, hF⟩ := hf w s
      refine (hF w (by simpa using hA) (by simpa using sep_roA A hm)).mono fun e w' ⟨z, hz, he, h1, h2, h3, h4⟩ => ⟨z, hz, he, h1, h2, h3, fun p hp b hb => ?_⟩
      rcases h4 p hp b hb with h | ⟨q, hq, -⟩ | ⟨hp', -⟩
      · exact h
      · cases hq
      · have := List.all_eq_true.1 (hN z) p hp
        rw [hp'] at this; cases this)
    (fun w e w' s ⟨z, hz, he, h1, h2, h3, h4⟩ => ⟨_, he, fun a g => (h z hz).h a w' (St.turn (M := []) (R := H) (N := N z) s h3 h1 h2 fun p hp b hb => .inl (h4 p hp b hb)) g⟩)
end
end Go.Proofs.YtgogcgkocjpgoaaGreatDoor
/- Deliveries: checked, written as sentences; the program and the reference. -/
namespace Go.Proofs.YtgogcgkocjpgoaaGreatDoor
open Go.RowKit
theorem isFaceD_c (x : Int) (w : World) : Calls Tryz.prog 157 #[.int .i64 x] w fun e w' => e = .returned (.bool (btw 1 x 7)) ∧ w = w' := by
  go_enter Tryz.func157, Tryz.ntmps157
  go_wp2_with (go_at_call 151; refine (within_c _ _ _ _).mono ?_; rintro e w' ⟨rfl, rfl⟩)
  go_ret
  exact ⟨rfl, rfl⟩
theorem isCountD_c (x : Int) (w : World) : Calls Tryz.prog 158 #[.int .i64 x] w fun e w' => e = .returned (.bool (btw 0 x 1000000)) ∧ w = w' := by
  go_enter Tryz.func158, Tryz.ntmps158
  go_wp2_with (go_at_call 151; refine (within_c _ _ _ _).mono ?_; rintro e w' ⟨rfl, rfl⟩)
  go_ret
  exact ⟨rfl, rfl⟩
theorem l21Node_c (x : Int) (w : World) : Calls Tryz.prog 228 #[.int .i64 x] w fun e w' => e = .returned (.bool (btw 1 x 7)) ∧ w = w' := by
  go_enter Tryz.func228, Tryz.ntmps228
  go_wp2_with (go_at_call 177; refine (l1In_c _ _ _ _).mono ?_; rintro e w' ⟨rfl, rfl⟩)
  go_ret
  exact ⟨rfl, rfl⟩
theorem l26Count_c (x : Int) (w : World) : Calls Tryz.prog 229 #[.int .i64 x] w fun e w' => e = .returned (.bool (btw 0 x 1000000)) ∧ w = w' := by
  go_enter Tryz.func229, Tryz.ntmps229
  go_wp2_with (go_at_call 177; refine (l1In_c _ _ _ _).mono ?_; rintro e w' ⟨rfl, rfl⟩)
  go_ret
  exact ⟨rfl, rfl⟩
theorem itoa_dec {n : Int} (h : 0 ≤ n) : Lib.itoa n = decI n := by unfold Lib.itoa decI; rw [if_neg (by omega)]
theorem itoa7_c (n : Int) (h0 : 0 ≤ n) (h1 : n ≤ 1000000) (FT : List Nat) (w : World) (hT : (EnvP FT).P w) :
    Calls Tryz.prog 171 #[.int .i64 n] w fun e w' => e = .returned (.string (bz (decI n))) ∧ Below w.heap.size w w' := by
  have := itoa_c n (by omega) (by omega) FT w hT
  rw [itoa_dec h0] at this
  exact this
theorem num7_c (n : Int) (h0 : 0 ≤ n) (h1 : n ≤ 1000000) (w : World) : Calls Tryz.prog 178 #[.int .i64 n] w fun e w2 => e = .returned (.string (bz (decI n))) ∧ Below w.heap.size w w2 := by
  obtain ⟨k, rfl⟩ : ∃ k : Nat, n = k := ⟨n.toNat, by omega⟩
  refine (l1Num_c 6 k w (by omega) (by omega)).mono ?_
  rintro e w2 ⟨rfl, j, rfl⟩
  exact ⟨rfl, belowDrewN (Below.refl _ _) j⟩
theorem lit_app (a : Bs) (b : List UInt8) : bz (a ++ b) = bz a ++ ⟨b.toArray⟩ := (bz_app a b).symm
def itemsB (n : Int) : Bs := if n = 0 then [110, 111, 32, 105, 116, 101, 109, 115] else if n = 1 then [49, 32, 105, 116, 101, 109] else decI n ++ [32, 105, 116, 101, 109, 115]
def repsB (d : Delivery) : Bs := if d.repaired = 0 then [] else if d.got = 1 then [44, 32, 114, 101, 112, 97, 105, 114, 101, 100, 44] else if d.repaired = d.got then [44, 32, 97, 108, 108, 32, 111, 102, 32, 116, 104, 101, 109, 32, 114, 101, 112, 97, 105, 114, 101, 100, 44] else [44, 32] ++ decI d.repaired ++ [32, 111, 102, 32, 116, 104, 101, 109, 32, 114, 101, 112, 97, 105, 114, 101, 100, 44]
theorem itemsB_len {n : Int} (h : n ≤ 1000000) : (itemsB n).length ≤ 13 := by
  have := dec_len h
  unfold itemsB
  split <;> (try split) <;> simp <;> omega
theorem repsB_len {d : Delivery} (h : d.repaired ≤ 1000000) : (repsB d).length ≤ 30 := by
  have := dec_len h
  unfold repsB
  split <;> (try split) <;> (try split) <;> simp <;> omega
def resDT (d : Delivery) : ByteArray × Bool := if goodDel d then (delT d, true) else (⟨#[]⟩, false)
theorem delB_text (d : Delivery) : delB d ++ [46] = [82, 101, 99, 101, 105, 118, 101, 114, 32] ++ decI d.receiver ++ [32, 103, 111, 116, 32] ++ itemsB d.got ++ repsB d ++ [32, 97, 110, 100, 32, 108, 111, 115, 116, 32] ++ lostW d ++ [46] := by
  unfold delB jnB headW itemW repW itemsB repsB cmD
  by_cases a : d.repaired = 0 <;> by_cases b : d.got = 0 <;> by_cases c : d.got = 1 <;> by_cases e : d.repaired = d.got <;> (first | simp only [if_pos a] | simp only [if_neg a] | skip) <;> (first | simp only [if_pos b] | simp only [if_neg b] | skip) <;> (first | simp only [if_pos c] | simp only [if_neg c] | skip) <;> (first | simp only [if_pos e] | simp only [if_neg e] | skip) <;> first | omega | (simp; done)
theorem text_at (d : Delivery) : ⟨#[82, 101, 99, 101, 105, 118, 101, 114, 32]⟩ ++ bz (decI d.receiver) ++ ⟨#[32, 103, 111, 116, 32]⟩ ++ bz (itemsB d.got) ++ bz (repsB d) ++ ⟨#[32, 97, 110, 100, 32, 108, 111, 115, 116, 32]⟩ ++ bz (lostW d) ++ ⟨#[46]⟩ = delT d := by
  apply ByteArray.ext
  unfold delT
  rw [delB_text]
  simp [bz, ByteArray.data_append]
set_option maxRecDepth 100000 in
theorem itemsText_f (n : Int) (FT : List Nat) (h0 : 0 ≤ n) (h1 : n ≤ 1000000) : Fn Tryz.prog 226 [.int .i64 n] [EnvP FT] [] (fun (_ : Unit) => True) (fun _ => .string (bz (itemsB n))) (fun _ => []) := by
  have hz : (bz (decI n)).size ≤ 7 := by rw [bz_size]; exact dec_len h1
  have ql1 : (⟨#[32, 105, 116, 101, 109, 115]⟩ : ByteArray).size = 6 := rfl
  have q0 : (bz (decI n) ++ ⟨#[32, 105, 116, 101, 109, 115]⟩).size = _ := ByteArray.size_append
  refine enter Tryz.func226 rfl Tryz.ntmps226 fun w0 => ?_
  refine go ?_; intros
  refine c_if rfl (fun e0 => ?_) (fun e0 => ?_)
  · refine go ?_; intros
    rw [show bz (itemsB n) = ⟨#[110, 111, 32, 105, 116, 101, 109, 115]⟩ by unfold itemsB; rw [if_pos e0]; rfl]
    refine ret () trivial rfl
  refine go ?_; intros
  refine c_if rfl (fun e1 => ?_) (fun e1 => ?_)
  · refine go ?_; intros
    rw [show bz (itemsB n) = ⟨#[49, 32, 105, 116, 101, 109]⟩ by unfold itemsB; rw [if_neg e0, if_pos e1]; rfl]
    refine ret () trivial rfl
  refine go ?_; intros
  refine cb (fun w st => itoa7_c n (by omega) (by omega) FT w (st.get (p := EnvP FT) (by simp))) ?_
  refine go ?_; intros
  rw [show bz (itemsB n) = bz (decI n) ++ ⟨#[32, 105, 116, 101, 109, 115]⟩ by unfold itemsB; rw [if_neg e0, if_neg e1, lit_app]]
  refine ret () trivial rfl
set_option maxRecDepth 100000 in
theorem l26Items_f (n : Int) (FT : List Nat) (h0 : 0 ≤ n) (h1 : n ≤ 1000000) : Fn Tryz.prog 230 [.int .i64 n] [EnvP FT] [] (fun (_ : Unit) => True) (fun _ => .string (bz (itemsB n))) (fun _ => []) := by
  have hz : (bz (decI n)).size ≤ 7 := by rw [bz_size]; exact dec_len h1
  have ql1 : (⟨#[32, 105, 116, 101, 109, 115]⟩ : ByteArray).size = 6 := rfl
  have q0 : (bz (decI n) ++ ⟨#[32, 105, 116, 101, 109, 115]⟩).size = _ := ByteArray.size_append
  refine enter Tryz.func230 rfl Tryz.ntmps230 fun w0 => ?_
  refine go ?_; intros
  refine c_if rfl (fun e0 => ?_) (fun e0 => ?_)
  · refine go ?_; intros
    rw [show bz (itemsB n) = ⟨#[110, 111, 32, 105, 116, 101, 109, 115]⟩ by unfold itemsB; rw [if_pos e0]; rfl]
    refine ret () trivial rfl
  refine go ?_; intros
  refine c_if rfl (fun e1 => ?_) (fun e1 => ?_)
  · refine go ?_; intros
    rw [show bz (itemsB n) = ⟨#[49, 32, 105, 116, 101, 109]⟩ by unfold itemsB; rw [if_neg e0, if_pos e1]; rfl]
    refine ret () trivial rfl
  refine go ?_; intros
  refine cb (fun w st => num7_c n (by omega) (by omega) w) ?_
  refine go ?_; intros
  rw [show bz (itemsB n) = bz (decI n) ++ ⟨#[32, 105, 116, 101, 109, 115]⟩ by unfold itemsB; rw [if_neg e0, if_neg e1, lit_app]]
  refine ret () trivial rfl
set_option maxRecDepth 100000 in
theorem repairsText_f (d : Delivery) (FT : List Nat) (h0 : 0 ≤ d.repaired) (h1 : d.repaired ≤ 1000000) : Fn Tryz.prog 227 [.agg #[.int .i64 d.receiver, .int .i64 d.got, .int .i64 d.repaired, .int .i64 d.lost]] [EnvP FT] [] (fun (_ : Unit) => True) (fun _ => .string (bz (repsB d))) (fun _ => []) := by
  have hz : (bz (decI d.repaired)).size ≤ 7 := by rw [bz_size]; exact dec_len h1
  have ql0 : (⟨#[44, 32]⟩ : ByteArray).size = 2 := rfl
  have ql2 : (⟨#[32, 111, 102, 32, 116, 104, 101, 109, 32, 114, 101, 112, 97, 105, 114, 101, 100, 44]⟩ : ByteArray).size = 18 := rfl
  have q0 : (⟨#[44, 32]⟩ ++ bz (decI d.repaired)).size = _ := ByteArray.size_append
  have q1 : (⟨#[44, 32]⟩ ++ bz (decI d.repaired) ++ ⟨#[32, 111, 102, 32, 116, 104, 101, 109, 32, 114, 101, 112, 97, 105, 114, 101, 100, 44]⟩).size = _ := ByteArray.size_append
  refine enter Tryz.func227 rfl Tryz.ntmps227 fun w0 => ?_
  refine go ?_; intros
  refine c_if rfl (fun e0 => ?_) (fun e0 => ?_)
  · refine go ?_; intros
    rw [show bz (repsB d) = ⟨#[]⟩ by unfold repsB; rw [if_pos e0]; rfl]
    refine ret () trivial rfl
  refine go ?_; intros
  refine c_if rfl (fun e1 => ?_) (fun e1 => ?_)
  · refine go ?_; intros
    rw [show bz (repsB d) = ⟨#[44, 32, 114, 101, 112, 97, 105, 114, 101, 100, 44]⟩ by unfold repsB; rw [if_neg e0, if_pos e1]; rfl]
    refine ret () trivial rfl
  refine go ?_; intros
  refine c_if rfl (fun e2 => ?_) (fun e2 => ?_)
  · refine go ?_; intros
    rw [show bz (repsB d) = ⟨#[44, 32, 97, 108, 108, 32, 111, 102, 32, 116, 104, 101, 109, 32, 114, 101, 112, 97, 105, 114, 101, 100, 44]⟩ by unfold repsB; rw [if_neg e0, if_neg e1, if_pos e2]; rfl]
    refine ret () trivial rfl
  refine go ?_; intros
  refine cb (fun w st => itoa7_c d.repaired (by omega) (by omega) FT w (st.get (p := EnvP FT) (by simp))) ?_
  refine go ?_; intros
  rw [show bz (repsB d) = ⟨#[44, 32]⟩ ++ bz (decI d.repaired) ++ ⟨#[32, 111, 102, 32, 116, 104, 101, 109, 32, 114, 101, 112, 97, 105, 114, 101, 100, 44]⟩ by unfold repsB; rw [if_neg e0, if_neg e1, if_neg e2]; apply ByteArray.ext; simp [bz, ByteArray.data_append]]
  refine ret () trivial rfl
set_option maxRecDepth 100000 in
theorem l26Repairs_f (d : Delivery) (FT : List Nat) (h0 : 0 ≤ d.repaired) (h1 : d.repaired ≤ 1000000) : Fn Tryz.prog 231 [.agg #[.int .i64 d.receiver, .int .i64 d.got, .int .i64 d.repaired, .int .i64 d.lost]] [EnvP FT] [] (fun (_ : Unit) => True) (fun _ => .string (bz (repsB d))) (fun _ => []) := by
  have hz : (bz (decI d.repaired)).size ≤ 7 := by rw [bz_size]; exact dec_len h1
  have ql0 : (⟨#[44, 32]⟩ : ByteArray).size = 2 := rfl
  have ql2 : (⟨#[32, 111, 102, 32, 116, 104, 101, 109, 32, 114, 101, 112, 97, 105, 114, 101, 100, 44]⟩ : ByteArray).size = 18 := rfl
  have q0 : (⟨#[44, 32]⟩ ++ bz (decI d.repaired)).size = _ := ByteArray.size_append
  have q1 : (⟨#[44, 32]⟩ ++ bz (decI d.repaired) ++ ⟨#[32, 111, 102, 32, 116, 104, 101, 109, 32, 114, 101, 112, 97, 105, 114, 101, 100, 44]⟩).size = _ := ByteArray.size_append
  refine enter Tryz.func231 rfl Tryz.ntmps231 fun w0 => ?_
  refine go ?_; intros
  refine c_if rfl (fun e0 => ?_) (fun e0 => ?_)
  · refine go ?_; intros
    rw [show bz (repsB d) = ⟨#[]⟩ by unfold repsB; rw [if_pos e0]; rfl]
    refine ret () trivial rfl
  refine go ?_; intros
  refine c_if rfl (fun e1 => ?_) (fun e1 => ?_)
  · refine go ?_; intros
    rw [show bz (repsB d) = ⟨#[44, 32, 114, 101, 112, 97, 105, 114, 101, 100, 44]⟩ by unfold repsB; rw [if_neg e0, if_pos e1]; rfl]
    refine ret () trivial rfl
  refine go ?_; intros
  refine c_if rfl (fun e2 => ?_) (fun e2 => ?_)
  · refine go ?_; intros
    rw [show bz (repsB d) = ⟨#[44, 32, 97, 108, 108, 32, 111, 102, 32, 116, 104, 101, 109, 32, 114, 101, 112, 97, 105, 114, 101, 100, 44]⟩ by unfold repsB; rw [if_neg e0, if_neg e1, if_pos e2]; rfl]
    refine ret () trivial rfl
  refine go ?_; intros
  refine cb (fun w st => num7_c d.repaired (by omega) (by omega) w) ?_
  refine go ?_; intros
  rw [show bz (repsB d) = ⟨#[44, 32]⟩ ++ bz (decI d.repaired) ++ ⟨#[32, 111, 102, 32, 116, 104, 101, 109, 32, 114, 101, 112, 97, 105, 114, 101, 100, 44]⟩ by unfold repsB; rw [if_neg e0, if_neg e1, if_neg e2]; apply ByteArray.ext; simp [bz, ByteArray.data_append]]
  refine ret () trivial rfl
set_option maxRecDepth 100000 in
theorem IsValidDelivery_f (d : Delivery) : Fn Tryz.prog 72 [.agg #[.int .i64 d.receiver, .int .i64 d.got, .int .i64 d.repaired, .int .i64 d.lost]] [] [] (fun (_ : Unit) => True) (fun _ => .bool (goodDel d)) (fun _ => []) := by
  refine enter Tryz.func72 rfl Tryz.ntmps72 fun w0 => ?_
  unfold goodDel
  refine go ?_; intros
  refine ce (fun w s => isFaceD_c _ _) ?_
  cases g1 : btw 1 d.receiver 7
  · refine go ?_; intros
    refine ret () trivial rfl
  refine go ?_; intros
  refine ce (fun w s => isCountD_c d.got _) ?_
  cases g2 : btw 0 d.got 1000000
  · refine go ?_; intros
    refine ret () trivial rfl
  refine go ?_; intros
  refine ce (fun w s => within_c _ _ _ _) ?_
  cases g3 : btw 0 d.repaired d.got
  · refine go ?_; intros
    refine ret () trivial rfl
  refine go ?_; intros
  refine ce (fun w s => isCountD_c d.lost _) ?_
  cases g4 : btw 0 d.lost 1000000
  all_goals
    refine go ?_; intros
    refine ret () trivial rfl
set_option maxRecDepth 100000 in
theorem l26One_f (d : Delivery) : Fn Tryz.prog 155 [.agg #[.int .i64 d.receiver, .int .i64 d.got, .int .i64 d.repaired, .int .i64 d.lost]] [] [] (fun (_ : Unit) => True) (fun _ => .bool (goodDel d)) (fun _ => []) := by
  refine enter Tryz.func155 rfl Tryz.ntmps155 fun w0 => ?_
  unfold goodDel
  refine go ?_; intros
  refine ce (fun w s => l21Node_c _ _) ?_
  cases g1 : btw 1 d.receiver 7
  · refine go ?_; intros
    refine ret () trivial rfl
  refine go ?_; intros
  refine ce (fun w s => l26Count_c d.got _) ?_
  cases g2 : btw 0 d.got 1000000
  · refine go ?_; intros
    refine ret () trivial rfl
  refine go ?_; intros
  refine ce (fun w s => l1In_c _ _ _ _) ?_
  cases g3 : btw 0 d.repaired d.got
  · refine go ?_; intros
    refine ret () trivial rfl
  refine go ?_; intros
  refine ce (fun w s => l26Count_c d.lost _) ?_
  cases g4 : btw 0 d.lost 1000000
  all_goals
    refine go ?_; intros
    refine ret () trivial rfl
set_option maxRecDepth 100000 in
theorem deliveryText_f (d : Delivery) (FT : List Nat) (hg : goodDel d = true) : Fn Tryz.prog 154 [.agg #[.int .i64 d.receiver, .int .i64 d.got, .int .i64 d.repaired, .int .i64 d.lost]] [EnvP FT] [] (fun (_ : Unit) => True) (fun _ => .string (delT d)) (fun _ => []) := by
  obtain ⟨⟨r0, r1⟩, ⟨g0, g1⟩, ⟨p0, p1⟩, l0, l1⟩ := good_del hg
  have hT := text_at d
  have z1 : (bz (decI d.receiver)).size ≤ 7 := by rw [bz_size]; exact dec_len (by omega)
  have z2 : (bz (itemsB d.got)).size ≤ 13 := by rw [bz_size]; exact itemsB_len g1
  have z3 : (bz (repsB d)).size ≤ 30 := by rw [bz_size]; exact repsB_len (by omega)
  have z4 : (bz (decI d.lost)).size ≤ 7 := by rw [bz_size]; exact dec_len l1
  have z5 : (bz (lostW d)).size ≤ 7 := by rw [bz_size]; unfold lostW; split <;> first | exact dec_len l1 | decide
  have ql0 : (⟨#[82, 101, 99, 101, 105, 118, 101, 114, 32]⟩ : ByteArray).size = 9 := rfl
  have ql2 : (⟨#[32, 103, 111, 116, 32]⟩ : ByteArray).size = 5 := rfl
  have ql5 : (⟨#[32, 97, 110, 100, 32, 108, 111, 115, 116, 32]⟩ : ByteArray).size = 10 := rfl
  have ql7 : (⟨#[46]⟩ : ByteArray).size = 1 := rfl
  have q0 : (⟨#[82, 101, 99, 101, 105, 118, 101, 114, 32]⟩ ++ bz (decI d.receiver)).size = _ := ByteArray.size_append
  have q1 : (⟨#[82, 101, 99, 101, 105, 118, 101, 114, 32]⟩ ++ bz (decI d.receiver) ++ ⟨#[32, 103, 111, 116, 32]⟩).size = _ := ByteArray.size_append
  have q2 : (⟨#[82, 101, 99, 101, 105, 118, 101, 114, 32]⟩ ++ bz (decI d.receiver) ++ ⟨#[32, 103, 111, 116, 32]⟩ ++ bz (itemsB d.got)).size = _ := ByteArray.size_append
  have q3 : (⟨#[82, 101, 99, 101, 105, 118, 101, 114, 32]⟩ ++ bz (decI d.receiver) ++ ⟨#[32, 103, 111, 116, 32]⟩ ++ bz (itemsB d.got) ++ bz (repsB d)).size = _ := ByteArray.size_append
  have q4 : (⟨#[82, 101, 99, 101, 105, 118, 101, 114, 32]⟩ ++ bz (decI d.receiver) ++ ⟨#[32, 103, 111, 116, 32]⟩ ++ bz (itemsB d.got) ++ bz (repsB d) ++ ⟨#[32, 97, 110, 100, 32, 108, 111, 115, 116, 32]⟩).size = _ := ByteArray.size_append
  have q5 : (⟨#[82, 101, 99, 101, 105, 118, 101, 114, 32]⟩ ++ bz (decI d.receiver) ++ ⟨#[32, 103, 111, 116, 32]⟩ ++ bz (itemsB d.got) ++ bz (repsB d) ++ ⟨#[32, 97, 110, 100, 32, 108, 111, 115, 116, 32]⟩ ++ bz (lostW d)).size = _ := ByteArray.size_append
  have q6 : (⟨#[82, 101, 99, 101, 105, 118, 101, 114, 32]⟩ ++ bz (decI d.receiver) ++ ⟨#[32, 103, 111, 116, 32]⟩ ++ bz (itemsB d.got) ++ bz (repsB d) ++ ⟨#[32, 97, 110, 100, 32, 108, 111, 115, 116, 32]⟩ ++ bz (lostW d) ++ ⟨#[46]⟩).size = _ := ByteArray.size_append
  refine enter Tryz.func154 rfl Tryz.ntmps154 fun w0 => ?_
  refine go ?_; intros
  refine c_if rfl (fun e0 => ?_) (fun e0 => ?_)
  · refine go ?_; intros
    refine cb (fun w st => itoa7_c d.lost (by omega) (by omega) FT w (st.get (p := EnvP FT) (by simp))) ?_
    have eL : bz (lostW d) = bz (decI d.lost) := by unfold lostW; rw [if_neg (by omega)]
    rw [eL] at hT q5 q6 z5
    refine goN ?_; intros
    refine d_start [0] [] ?_
    refine dt 0 ?_
    refine dt 1 ?_
    refine dt 5 ?_
    refine dt 6 ?_
    refine dt 9 ?_
    refine dt 13 ?_
    refine dO 2 (by kernel_rfl) (by rw [List.getElem?_toArray]; rfl) ?_
    apply o_call; rfl; kernel_rfl; exact evsE
    refine cb (fun w st => itoa7_c d.receiver (by omega) (by omega) FT w (st.get (p := EnvP FT) (by simp))) ?_
    refine dk ?_
    refine dt 3 ?_
    refine dt 4 ?_
    refine dO 7 (by kernel_rfl) (by rw [List.getElem?_toArray]; rfl) ?_
    apply o_call; rfl; kernel_rfl; exact evsE
    refine cb (fun w st => (itemsText_f d.got FT (by omega) (by omega)).val w (hol1 (st.get (p := EnvP FT) (by simp)))) ?_
    refine dk ?_
    refine dt 8 ?_
    refine dO 10 (by kernel_rfl) (by rw [List.getElem?_toArray]; rfl) ?_
    apply o_call; rfl; kernel_rfl; exact evsE
    refine cb (fun w st => (repairsText_f d FT (by omega) (by omega)).val w (hol1 (st.get (p := EnvP FT) (by simp)))) ?_
    refine dk ?_
    refine dt 11 ?_
    refine dt 12 ?_
    refine dt 14 ?_
    refine dt 15 ?_
    refine dt 16 ?_
    refine dd ?_
    refine go ?_; intros
    rw [hT]
    refine ret () trivial rfl
  · have eL : bz (lostW d) = ⟨#[110, 111, 110, 101]⟩ := by unfold lostW; rw [if_pos (by omega)]; rfl
    rw [eL] at hT q5 q6 z5
    refine goN ?_; intros
    refine d_start [0] [] ?_
    refine dt 0 ?_
    refine dt 1 ?_
    refine dt 5 ?_
    refine dt 6 ?_
    refine dt 9 ?_
    refine dt 13 ?_
    refine dO 2 (by kernel_rfl) (by rw [List.getElem?_toArray]; rfl) ?_
    apply o_call; rfl; kernel_rfl; exact evsE
    refine cb (fun w st => itoa7_c d.receiver (by omega) (by omega) FT w (st.get (p := EnvP FT) (by simp))) ?_
    refine dk ?_
    refine dt 3 ?_
    refine dt 4 ?_
    refine dO 7 (by kernel_rfl) (by rw [List.getElem?_toArray]; rfl) ?_
    apply o_call; rfl; kernel_rfl; exact evsE
    refine cb (fun w st => (itemsText_f d.got FT (by omega) (by omega)).val w (hol1 (st.get (p := EnvP FT) (by simp)))) ?_
    refine dk ?_
    refine dt 8 ?_
    refine dO 10 (by kernel_rfl) (by rw [List.getElem?_toArray]; rfl) ?_
    apply o_call; rfl; kernel_rfl; exact evsE
    refine cb (fun w st => (repairsText_f d FT (by omega) (by omega)).val w (hol1 (st.get (p := EnvP FT) (by simp)))) ?_
    refine dk ?_
    refine dt 11 ?_
    refine dt 12 ?_
    refine dt 14 ?_
    refine dt 15 ?_
    refine dt 16 ?_
    refine dd ?_
    refine go ?_; intros
    rw [hT]
    refine ret () trivial rfl
set_option maxRecDepth 100000 in
theorem l26Text_f (d : Delivery) (FT : List Nat) (hg : goodDel d = true) : Fn Tryz.prog 156 [.agg #[.int .i64 d.receiver, .int .i64 d.got, .int .i64 d.repaired, .int .i64 d.lost]] [EnvP FT] [] (fun (_ : Unit) => True) (fun _ => .string (delT d)) (fun _ => []) := by
  obtain ⟨⟨r0, r1⟩, ⟨g0, g1⟩, ⟨p0, p1⟩, l0, l1⟩ := good_del hg
  have hT := text_at d
  have z1 : (bz (decI d.receiver)).size ≤ 7 := by rw [bz_size]; exact dec_len (by omega)
  have z2 : (bz (itemsB d.got)).size ≤ 13 := by rw [bz_size]; exact itemsB_len g1
  have z3 : (bz (repsB d)).size ≤ 30 := by rw [bz_size]; exact repsB_len (by omega)
  have z4 : (bz (decI d.lost)).size ≤ 7 := by rw [bz_size]; exact dec_len l1
  have z5 : (bz (lostW d)).size ≤ 7 := by rw [bz_size]; unfold lostW; split <;> first | exact dec_len l1 | decide
  have z6 : (⟨#[110, 111, 110, 101, 46]⟩ : ByteArray).size = 5 := rfl
  have ql0 : (⟨#[82, 101, 99, 101, 105, 118, 101, 114, 32]⟩ : ByteArray).size = 9 := rfl
  have ql2 : (⟨#[32, 103, 111, 116, 32]⟩ : ByteArray).size = 5 := rfl
  have ql5 : (⟨#[32, 97, 110, 100, 32, 108, 111, 115, 116, 32]⟩ : ByteArray).size = 10 := rfl
  have ql7 : (⟨#[46]⟩ : ByteArray).size = 1 := rfl
  have q0 : (⟨#[82, 101, 99, 101, 105, 118, 101, 114, 32]⟩ ++ bz (decI d.receiver)).size = _ := ByteArray.size_append
  have q1 : (⟨#[82, 101, 99, 101, 105, 118, 101, 114, 32]⟩ ++ bz (decI d.receiver) ++ ⟨#[32, 103, 111, 116, 32]⟩).size = _ := ByteArray.size_append
  have q2 : (⟨#[82, 101, 99, 101, 105, 118, 101, 114, 32]⟩ ++ bz (decI d.receiver) ++ ⟨#[32, 103, 111, 116, 32]⟩ ++ bz (itemsB d.got)).size = _ := ByteArray.size_append
  have q3 : (⟨#[82, 101, 99, 101, 105, 118, 101, 114, 32]⟩ ++ bz (decI d.receiver) ++ ⟨#[32, 103, 111, 116, 32]⟩ ++ bz (itemsB d.got) ++ bz (repsB d)).size = _ := ByteArray.size_append
  have q4 : (⟨#[82, 101, 99, 101, 105, 118, 101, 114, 32]⟩ ++ bz (decI d.receiver) ++ ⟨#[32, 103, 111, 116, 32]⟩ ++ bz (itemsB d.got) ++ bz (repsB d) ++ ⟨#[32, 97, 110, 100, 32, 108, 111, 115, 116, 32]⟩).size = _ := ByteArray.size_append
  have q5 : (⟨#[82, 101, 99, 101, 105, 118, 101, 114, 32]⟩ ++ bz (decI d.receiver) ++ ⟨#[32, 103, 111, 116, 32]⟩ ++ bz (itemsB d.got) ++ bz (repsB d) ++ ⟨#[32, 97, 110, 100, 32, 108, 111, 115, 116, 32]⟩ ++ bz (lostW d)).size = _ := ByteArray.size_append
  have q6 : (⟨#[82, 101, 99, 101, 105, 118, 101, 114, 32]⟩ ++ bz (decI d.receiver) ++ ⟨#[32, 103, 111, 116, 32]⟩ ++ bz (itemsB d.got) ++ bz (repsB d) ++ ⟨#[32, 97, 110, 100, 32, 108, 111, 115, 116, 32]⟩ ++ bz (lostW d) ++ ⟨#[46]⟩).size = _ := ByteArray.size_append
  refine enter Tryz.func156 rfl Tryz.ntmps156 fun w0 => ?_
  refine goN ?_; intros
  refine d_start [0] [] ?_
  refine dt 0 ?_
  refine dt 1 ?_
  refine dt 5 ?_
  refine dt 6 ?_
  refine dt 9 ?_
  refine dO 2 (by kernel_rfl) (by rw [List.getElem?_toArray]; rfl) ?_
  apply o_call; rfl; kernel_rfl; exact evsE
  refine cb (fun w st => num7_c d.receiver (by omega) (by omega) w) ?_
  refine dk ?_
  refine dt 3 ?_
  refine dt 4 ?_
  refine dO 7 (by kernel_rfl) (by rw [List.getElem?_toArray]; rfl) ?_
  apply o_call; rfl; kernel_rfl; exact evsE
  refine cb (fun w st => (l26Items_f d.got FT (by omega) (by omega)).val w (hol1 (st.get (p := EnvP FT) (by simp)))) ?_
  refine dk ?_
  refine dt 8 ?_
  refine dO 10 (by kernel_rfl) (by rw [List.getElem?_toArray]; rfl) ?_
  apply o_call; rfl; kernel_rfl; exact evsE
  refine cb (fun w st => (l26Repairs_f d FT (by omega) (by omega)).val w (hol1 (st.get (p := EnvP FT) (by simp)))) ?_
  refine dk ?_
  refine dt 11 ?_
  refine dt 12 ?_
  refine dt 13 ?_
  refine dd ?_
  refine go ?_; intros
  refine c_if rfl (fun e0 => ?_) (fun e0 => ?_)
  · have eL : bz (lostW d) = ⟨#[110, 111, 110, 101]⟩ := by unfold lostW; rw [if_pos (by omega)]; rfl
    rw [eL] at hT
    refine go ?_; intros
    rw [show ∀ x : ByteArray, x ++ ⟨#[110, 111, 110, 101, 46]⟩ = x ++ ⟨#[110, 111, 110, 101]⟩ ++ ⟨#[46]⟩ from fun x => by rw [ByteArray.append_assoc]; rfl, hT]
    refine ret () trivial rfl
  · have eL : bz (lostW d) = bz (decI d.lost) := by unfold lostW; rw [if_neg (by omega)]
    rw [eL] at hT q5 q6
    refine go ?_; intros
    refine cb (fun w st => num7_c d.lost (by omega) (by omega) w) ?_
    refine go ?_; intros
    rw [hT]
    refine ret () trivial rfl
set_option maxRecDepth 100000 in
theorem DeliveryText_f (d : Delivery) (FT : List Nat) : Fn Tryz.prog 70 [.agg #[.int .i64 d.receiver, .int .i64 d.got, .int .i64 d.repaired, .int .i64 d.lost]] [EnvP FT] [] (fun (_ : Unit) => True) (fun _ => .tuple #[.string (resDT d).1, .bool (resDT d).2]) (fun _ => []) := by
  refine enter Tryz.func70 rfl Tryz.ntmps70 fun w0 => ?_
  refine go ?_; intros
  refine cf (IsValidDelivery_f d) fun _ _ => ?_
  refine t_app ?_
  cases g1 : goodDel d
  · refine go ?_; intros
    rw [show resDT d = (⟨#[]⟩, false) by unfold resDT; rw [g1]; rfl]
    refine ret () trivial rfl
  rw [show resDT d = (delT d, true) by unfold resDT; rw [g1]; rfl]
  refine go ?_; intros
  refine cb (fun w st => (deliveryText_f d FT g1).val w (hol1 (st.get (p := EnvP FT) (by simp)))) ?_
  refine go ?_; intros
  refine ret () trivial rfl
end Go.Proofs.YtgogcgkocjpgoaaGreatDoor
/- Words read as numbers, texts split: the program and the reference. -/
namespace Go.Proofs.YtgogcgkocjpgoaaGreatDoor
open Go.RowKit
set_option maxRecDepth 100000 in
theorem numberWord_f (s : ByteArray) (FT : List Nat) (hs : s.size ≤ 1000000000) : Fn Tryz.prog 160 [.string s] [EnvP FT] [] (fun (_ : Unit) => True) (fun _ => .int .i64 (nwI s.data.toList)) (fun _ => []) := by
  refine enter Tryz.func160 rfl Tryz.ntmps160 fun w0 => ?_
  refine go ?_; intros
  match h : Lib.atoiAll s.data.toList with
  | Lib.NumEnd.ok v =>
    rw [show nwI s.data.toList = v by unfold nwI; rw [h]]
    refine cb (fun w st => (Tryz.strconv_Atoi_ok s (by omega) v h w).mono fun e w' hh => ⟨hh.1, ?_⟩) ?_
    · rcases hh.2 with rfl | ⟨t, rfl⟩
      · exact Below.refl _ _
      · exact Lib.bytesWorld_below _ _ _
    refine go ?_; intros
    refine ret () trivial rfl
  | Lib.NumEnd.syntax =>
    rw [show nwI s.data.toList = 0 by unfold nwI; rw [h]]
    refine cx (fun v => ∃ u p, v = .tuple #[.int .i64 0, .iface u p]) (fun w st => ?_) ?_
    · obtain ⟨tp, p, hv⟩ := (EnvP.env (st.get (p := EnvP FT) (by simp))).2.2.1
      refine (Tryz.strconv_Atoi_syntax_var s (by omega) h tp p w hv).mono ?_
      rintro e w' ⟨N, rfl, -, -, hB⟩
      exact ⟨_, ⟨_, _, rfl⟩, rfl, hB⟩
    rintro _ ⟨u, p, rfl⟩
    refine go ?_; intros
    refine ret () trivial rfl
  | Lib.NumEnd.range =>
    rw [show nwI s.data.toList = Lib.atoiSat s.data.toList by unfold nwI; rw [h]]
    refine cx (fun v => ∃ u p, v = .tuple #[.int .i64 (Lib.atoiSat s.data.toList), .iface u p]) (fun w st => ?_) ?_
    · obtain ⟨tp, p, hv⟩ := (EnvP.env (st.get (p := EnvP FT) (by simp))).2.2.2
      refine (Tryz.strconv_Atoi_range_var s (by omega) h tp p w hv).mono ?_
      rintro e w' ⟨N, rfl, -, -, hB⟩
      exact ⟨_, ⟨_, _, rfl⟩, rfl, hB⟩
    rintro _ ⟨u, p, rfl⟩
    refine go ?_; intros
    refine ret () trivial rfl
structure SplS where
  o : List Bs
  f : Nat
  k : Nat
  a : Option Addr
  c : Nat
  F : List Nat
structure SplOk (b : UInt8) (s : ByteArray) (z : SplS) : Prop where
  k : z.k ≤ s.size
  f : z.f ≤ z.k
  l : z.o.length ≤ z.f
  e : splitL b s.data.toList = z.o ++ splitL b (s.data.toList.drop z.f)
  n : ∀ x ∈ (s.data.toList.drop z.f).take (z.k - z.f), x ≠ b
set_option maxRecDepth 100000 in
theorem l1Split_f (s : ByteArray) (b : UInt8) (hs : s.size ≤ 16777216) : Fn Tryz.prog 97 [.string s, .int .u8 (b.toNat : Int)] [] [] (fun (_ : Option Addr × Nat × List Nat) => True) (fun z => .slice z.1 ((splitL b s.data.toList).map bz).length z.2.1) (fun z => [.ow EStr 9 (.slice z.1 ((splitL b s.data.toList).map bz).length z.2.1) ((splitL b s.data.toList).map bz) z.2.2]) := by
  refine enter Tryz.func97 rfl Tryz.ntmps97 fun w0 => ?_
  refine go ?_; intros
  refine t_emp EStr ?_
  refine go ?_; intros
  refine c_loopS [0, 1, 4] (fun z : SplS => [(5, .slice z.a (z.o.map bz).length z.c), (6, .int .i64 (z.f : Nat)), (7, .int .i64 (z.k : Nat))]) (fun z => [.ow EStr 9 (.slice z.a (z.o.map bz).length z.c) (z.o.map bz) z.F]) (SplOk b s) (fun z => s.size - z.k) ⟨[], 0, 0, _, _, _⟩ ⟨Nat.zero_le _, Nat.le_refl _, Nat.le_refl _, rfl, by simp⟩ fun z hz => ?_
  obtain ⟨z1, z2, z3, z4, z5⟩ := hz
  have hml : (z.o.map bz).length = z.o.length := List.length_map ..
  refine go ?_; intros
  refine c_if rfl (fun h1 => ?_) (fun h1 => ?_)
  · have hk : z.k < s.size := by omega
    have hkl : z.k < s.data.toList.length := by rw [size_list]; exact hk
    refine go ?_; intros
    refine c_if rfl (fun h2 => ?_) (fun h2 => ?_)
    · have hb : s[z.k] = b := UInt8.toNat_inj.1 (by have : ((s[z.k]).toNat : Int) = (b.toNat : Int) := h2; omega)
      have h3 := drop_split (l := s.data.toList) z2 hkl
      rw [ba_get s z.k hk, hb] at h3
      have h4 : splitL b (s.data.toList.drop z.f) = (s.data.toList.drop z.f).take (z.k - z.f) :: splitL b (s.data.toList.drop (z.k + 1)) := by rw [h3, splitL_at _ z5, ← h3]
      have hx : (s.extract z.f z.k).size ≤ maxLen := by unfold maxLen; simp; omega
      refine goN ?_; intros
      apply wO; apply oc; rfl; exact yd_slb rfl rfl rfl (by omega) (by omega) (by omega)
      refine goN ?_; intros
      rw [show s.extract ((z.f : Nat) : Int).toNat ((z.k : Nat) : Int).toNat = s.extract z.f z.k from rfl]
      apply wO
      refine ap1 (rep_s hx) one_EStr fun a9 c9 F9 => ?_
      refine go ?_; intros
      have e9 : z.o.map bz ++ [s.extract z.f z.k] = (z.o ++ [(s.data.toList.drop z.f).take (z.k - z.f)]).map bz := by rw [List.map_append, ext_z s z.f z.k]; rfl
      rw [e9]
      refine n_lp ⟨z.o ++ [(s.data.toList.drop z.f).take (z.k - z.f)], z.k + 1, z.k + 1, a9, c9, F9⟩ ⟨by show z.k + 1 ≤ s.size; omega, Nat.le_refl _, by show (z.o ++ [_]).length ≤ z.k + 1; simp; omega, by show _ = (z.o ++ [_]) ++ splitL b (s.data.toList.drop (z.k + 1)); rw [z4, h4]; simp, by show ∀ x ∈ (s.data.toList.drop (z.k + 1)).take (z.k + 1 - (z.k + 1)), x ≠ b; simp⟩ (by show s.size - (z.k + 1) < s.size - z.k; omega)
    · refine go ?_; intros
      refine n_lp ⟨z.o, z.f, z.k + 1, z.a, z.c, z.F⟩ ⟨by show z.k + 1 ≤ s.size; omega, by show z.f ≤ z.k + 1; omega, z3, z4, by
        show ∀ x ∈ (s.data.toList.drop z.f).take (z.k + 1 - z.f), x ≠ b
        rw [take_more z2 hkl, ba_get s z.k hk]
        intro x hx
        rcases List.mem_append.1 hx with hx | hx
        · exact z5 x hx
        · rw [List.mem_singleton] at hx
          subst hx
          intro e
          exact h2 (by show ((s[z.k]).toNat : Int) = (b.toNat : Int); rw [e])⟩ (by show s.size - (z.k + 1) < s.size - z.k; omega)
  · have hke : z.k = s.size := by omega
    have h4 : splitL b s.data.toList = z.o ++ [s.data.toList.drop z.f] := by
      rw [z4, splitL_no]
      rw [List.take_of_length_le (by simp; omega)] at z5
      exact z5
    have hx : (s.extract z.f s.size).size ≤ maxLen := by unfold maxLen; simp; omega
    refine goN ?_; intros
    apply wO; apply oc; rfl; exact yd_sll rfl rfl (by omega) (by omega)
    refine goN ?_; intros
    rw [show s.extract ((z.f : Nat) : Int).toNat s.size = s.extract z.f s.size from rfl]
    apply wO
    refine ap1 (rep_s hx) one_EStr fun a9 c9 F9 => ?_
    refine go ?_; intros
    have e9 : z.o.map bz ++ [s.extract z.f s.size] = (splitL b s.data.toList).map bz := by rw [h4, List.map_append, ext_end s z.f]; rfl
    rw [e9]
    refine ret (a9, c9, F9) trivial rfl
end Go.Proofs.YtgogcgkocjpgoaaGreatDoor
/- Numbers with their sign: read back out of their texts; plain. -/
namespace Go.Proofs.YtgogcgkocjpgoaaGreatDoor
open Go.RowKit
theorem decNat_dec {u : Nat} (h : u < 10000000) : Lib.decNat (Lib.decDigits u) = some u := by
  have hb := dec_back 6 u (by omega)
  have hp := digit_pos u
  unfold Lib.decNat
  rw [if_neg (by intro e; rw [List.isEmpty_iff] at e; rw [e] at hp; simp at hp), hb]
theorem itoa_neg {v : Int} (h : v < 0) : Lib.itoa v = 45 :: Lib.decDigits v.natAbs := by unfold Lib.itoa; rw [if_pos h]
theorem itoa_nat {v : Int} (h : 0 ≤ v) : Lib.itoa v = Lib.decDigits v.natAbs := by unfold Lib.itoa; rw [if_neg (by omega), show v.toNat = v.natAbs by omega]
theorem resPI_itoa {v : Int} (h0 : -999999 ≤ v) (h1 : v ≤ 999999) : resPI (bz (Lib.itoa v)) = (v, true) := by
  by_cases hn : v < 0
  · have hl := digit_len 5 v.natAbs (by omega)
    have ha : Lib.atoiAll (Lib.itoa v) = .ok v := by
      rw [itoa_neg hn, Lib.atoiAll_short _ (by simp; omega)]
      have : Lib.atoi (45 :: Lib.decDigits v.natAbs) = some v := by
        rw [Lib.atoi, if_pos (by rfl), decNat_dec (by omega)]
        show some (-((v.natAbs : Nat) : Int)) = some v
        congr 1; omega
      rw [this]; rfl
    unfold resPI
    rw [bz_list, ha]
    show (if btw (-999999) v 999999 && decide (bz (Lib.itoa v) = bz (Lib.itoa v)) then (v, true) else (0, false)) = (v, true)
    rw [decide_eq_true rfl, show btw (-999999) v 999999 = true by unfold btw; rw [decide_eq_true h0, decide_eq_true h1]; rfl]; rfl
  · rw [itoa_nat (by omega), resPI_back v.natAbs (by omega)]
    congr 1; omega
theorem resPI_cases (s : ByteArray) : resPI s = (0, false) ∨ ∃ v : Int, -999999 ≤ v ∧ v ≤ 999999 ∧ s = bz (Lib.itoa v) := by
  unfold resPI
  split
  · rename_i v _
    cases h : (btw (-999999) v 999999 && decide (bz (Lib.itoa v) = s))
    · exact .inl rfl
    · unfold btw at h
      simp only [Bool.and_eq_true, decide_eq_true_eq] at h
      exact .inr ⟨v, h.1.1, h.1.2, h.2.symm⟩
  · exact .inl rfl
/-- the text without its sign -/
def unS (l : Bs) : Bs := if 1 < l.length ∧ l.head? = some 45 then l.drop 1 else l
def dval (l : Bs) : Nat := l.foldl (fun a c => 10 * a + (c.toNat - 48)) 0
theorem dval_app (l : Bs) (c : UInt8) : dval (l ++ [c]) = 10 * dval l + (c.toNat - 48) := by unfold dval; rw [List.foldl_append]; rfl
theorem dval_lt : ∀ (n : Nat) (l : Bs), l.length = n → (∀ c ∈ l, 48 ≤ c.toNat ∧ c.toNat ≤ 57) → dval l < 10 ^ n
  | 0, l, h, _ => by rw [List.length_eq_zero_iff.1 h]; decide
  | n + 1, l, h, hd => by
    have hne : l ≠ [] := by intro e; rw [e] at h; simp at h
    have e := List.dropLast_concat_getLast hne
    have ih := dval_lt n l.dropLast (by simp; omega) fun c hc => hd c (List.dropLast_subset _ hc)
    have hc := hd _ (List.getLast_mem hne)
    rw [← e, dval_app, Nat.pow_succ]
    omega
theorem digU : ∀ d : Nat, d < 10 → (UInt8.ofNat (48 + d)).toNat = 48 + d := by decide
theorem dval_dec : ∀ (k u : Nat), u < 10 ^ (k + 1) → dval (Lib.decDigits u) = u
  | 0, u, h => by
    have h3 : u < 10 := by simpa using h
    rw [Lib.decDigits, dif_pos h3]
    unfold dval
    simp only [List.foldl_cons, List.foldl_nil]
    rw [digU u h3]; omega
  | k + 1, u, h => by
    by_cases h3 : u < 10
    · rw [Lib.decDigits, dif_pos h3]
      unfold dval
      simp only [List.foldl_cons, List.foldl_nil]
      rw [digU u h3]; omega
    · rw [Lib.decDigits, dif_neg h3, dval_app, dval_dec k (u / 10) (by rw [Nat.pow_succ] at h; omega), digU _ (by omega)]
      omega
theorem unS_itoa {v : Int} (h0 : -999999 ≤ v) (h1 : v ≤ 999999) : unS (Lib.itoa v) = Lib.decDigits v.natAbs ∧ ((unS (Lib.itoa v)).length < (Lib.itoa v).length ↔ v < 0) := by
  have hp := digit_pos v.natAbs
  by_cases hn : v < 0
  · rw [itoa_neg hn]
    unfold unS
    rw [if_pos ⟨by simp; omega, rfl⟩]
    exact ⟨rfl, by simp [hn]⟩
  · rw [itoa_nat (by omega)]
    have : ¬ (1 < (Lib.decDigits v.natAbs).length ∧ (Lib.decDigits v.natAbs).head? = some 45) := by
      rintro ⟨-, h⟩
      have := digit_mem _ 45 (List.mem_of_mem_head? h)
      revert this; decide
    unfold unS
    rw [if_neg this]
    exact ⟨rfl, by simp; omega⟩
/-- what a good text is like -/
theorem read_good {s : ByteArray} (h : resPI s ≠ (0, false)) : ∃ v : Int, -999999 ≤ v ∧ v ≤ 999999 ∧ s = bz (Lib.itoa v) ∧ 1 ≤ (unS s.data.toList).length ∧ (unS s.data.toList).length ≤ 6 ∧ (∀ c ∈ unS s.data.toList, 48 ≤ c.toNat ∧ c.toNat ≤ 57) ∧ dval (unS s.data.toList) = v.natAbs ∧ ((unS s.data.toList).length < s.size ↔ v < 0) := by
  rcases resPI_cases s with h2 | ⟨v, h0, h1, rfl⟩
  · exact absurd h2 h
  · obtain ⟨e, e2⟩ := unS_itoa h0 h1
    have hl := digit_len 5 v.natAbs (by omega)
    rw [bz_list, bz_size]
    refine ⟨v, h0, h1, rfl, ?_, ?_, ?_, ?_, e2⟩
    · rw [e]; exact digit_pos _
    · rw [e]; exact hl
    · rw [e]; exact digit_mem _
    · rw [e]; exact dval_dec 5 _ (by omega)
end Go.Proofs.YtgogcgkocjpgoaaGreatDoor
/- Numbers with their sign: the reference writes and reads them. -/
namespace Go.Proofs.YtgogcgkocjpgoaaGreatDoor
open Go.RowKit
set_option maxRecDepth 100000 in
theorem numNeg_f (n : Int) (h0 : -999999 ≤ n) (hn : n < 0) : Fn Tryz.prog 178 [.int .i64 n] [] [] (fun (_ : Unit) => True) (fun _ => .string (bz (Lib.itoa n))) (fun _ => []) := by
  have hz : (bz (decI (-n))).size ≤ 7 := by rw [bz_size]; exact dec_len (by omega)
  have zl : (⟨#[45]⟩ : ByteArray).size = 1 := rfl
  refine enter Tryz.func178 rfl Tryz.ntmps178 fun w0 => ?_
  refine go ?_; intros
  refine c_if rfl (fun e0 => ?_) (fun e0 => ?_)
  rotate_left
  · exact absurd hn e0
  refine go ?_; intros
  refine cb (fun w st => num7_c (-n) (by omega) (by omega) w) ?_
  refine go ?_; intros
  rw [show (⟨#[45]⟩ : ByteArray) ++ bz (decI (-n)) = bz (Lib.itoa n) by
    rw [itoa_neg hn]
    unfold decI
    rw [show (-n).toNat = n.natAbs by omega]
    apply ByteArray.ext; simp [bz, ByteArray.data_append]]
  refine ret () trivial rfl
theorem numI_c (n : Int) (h0 : -999999 ≤ n) (h1 : n ≤ 999999) (w : World) : Calls Tryz.prog 178 #[.int .i64 n] w fun e w2 => e = .returned (.string (bz (Lib.itoa n))) ∧ Below w.heap.size w w2 := by
  by_cases hn : n < 0
  · exact (numNeg_f n h0 hn).val w (fun p hp => by cases hp)
  · rw [itoa_dec (by omega)]
    exact num7_c n (by omega) (by omega) w
theorem unS_at {s : ByteArray} (h : 1 < s.size) : unS s.data.toList = if s[0] = 45 then (s.extract 1 s.size).data.toList else s.data.toList := by
  have e : s.data.toList.head? = some s[0] := by
    rw [List.head?_eq_getElem?, List.getElem?_eq_getElem (by rw [size_list]; omega)]; rfl
  unfold unS
  rw [size_list, e, ext_end, bz_list]
  by_cases h2 : s[0] = 45
  · rw [if_pos ⟨h, by rw [h2]⟩, if_pos h2]
  · rw [if_neg (fun hh => h2 (Option.some.inj hh.2)), if_neg h2]
theorem unS_short {s : ByteArray} (h : ¬ 1 < s.size) : unS s.data.toList = s.data.toList := by
  unfold unS; rw [size_list, if_neg (fun hh => h hh.1)]
theorem yd_subu8 {P : Program} {n : Nat} {fr : Fr} {H : List Pc} {ty : TypeId} {x y : Operand} {a b : Int} {t t' : TypeId} (hx : ev fr x = some (.int .u8 a)) (hy : ev fr y = some (.int .u8 b)) (h0 : 0 ≤ a - b) (h1 : a - b ≤ 255) : Yd P n fr H (.binOp .sub t x y t') ty (.int .u8 (a - b)) := .mk fun c w d pos aft gd hA _ => by
  simp [execOp, hA.ev hx, hA.ev hy, eqGuard_sub, binOp_sub, Op.intArith, IntWalk.u8_in _ ⟨h0, h1⟩]
structure RdOk (t : ByteArray) (z : Nat × Nat) : Prop where
  k : z.2 ≤ t.size
  v : z.1 = dval (t.data.toList.take z.2)
  d : ∀ c ∈ t.data.toList.take z.2, 48 ≤ c.toNat ∧ c.toNat ≤ 57
set_option maxRecDepth 100000 in
theorem l1Read_f (s : ByteArray) (hs : s.size ≤ 1000000000) : Fn Tryz.prog 98 [.string s] [] [] (fun (_ : Unit) => True) (fun _ => .tuple #[.int .i64 (resPI s).1, .bool (resPI s).2]) (fun _ => []) := by
  refine enter Tryz.func98 rfl Tryz.ntmps98 fun w0 => ?_
  refine go ?_; intros
  refine wg_if rfl rfl (fun h1 => ?_) (fun h1 => ?_)
  · have h1 : 1 < s.size := by omega
    refine go ?_; intros
    refine c_if rfl (fun h2 => ?_) (fun h2 => ?_)
    · have ht : (s.extract 1 s.size).data.toList = unS s.data.toList := by rw [unS_at h1, if_pos (UInt8.toNat_inj.1 (by have : ((s[0]).toNat : Int) = 45 := h2; show (s[0]).toNat = 45; omega))]
      have hts : (s.extract 1 s.size).size = s.size - 1 := by simp
      refine goN ?_; intros
      apply wO; apply oc; rfl; exact yd_sll rfl rfl (by omega) (by omega)
      rw [show s.extract (1 : Int).toNat s.size = s.extract 1 s.size from rfl]
      generalize s.extract 1 s.size = t at ht hts ⊢
      refine go ?_; intros
      refine ce (fun w s => l1In_c _ _ _ _) ?_
      cases g1 : btw 1 ((t.size : Nat) : Int) 6
      · have hr : resPI s = (0, false) := by
          rcases Classical.em (resPI s = (0, false)) with h | h
          · exact h
          · exfalso
            obtain ⟨v, h0, h1', hsv, q1, q2, q3, q4, q5⟩ := read_good h
            rw [← ht, size_list] at q1 q2
            have : btw 1 ((t.size : Nat) : Int) 6 = true := by unfold btw; rw [decide_eq_true (by omega), decide_eq_true (by omega)]; rfl
            rw [this] at g1; cases g1
        rw [hr]
        refine go ?_; intros
        refine ret () trivial rfl
      obtain ⟨t1, t6⟩ : 1 ≤ t.size ∧ t.size ≤ 6 := by unfold btw at g1; simp only [Bool.and_eq_true, decide_eq_true_eq] at g1; omega
      refine go ?_; intros
      refine c_loopR [0, 2, 3, 4] (fun z : Nat × Nat => [(5, .int .i64 (z.1 : Nat)), (6, .int .i64 (z.2 : Nat))]) (RdOk t) (fun z => t.size - z.2) (0, 0) ⟨Nat.zero_le _, rfl, by simp⟩ fun z hz => ?_
      obtain ⟨vv, k⟩ := z
      obtain ⟨z1, z2, z3⟩ := hz
      dsimp only at z1 z2 z3 ⊢
      have hv6 : vv ≤ 999999 := by
        have := dval_lt (t.data.toList.take k).length _ rfl z3
        have hl : (t.data.toList.take k).length ≤ 6 := by rw [List.length_take, size_list]; omega
        have := Nat.pow_le_pow_right (show 0 < 10 by omega) hl
        omega
      refine go ?_; intros
      refine c_if rfl (fun h1 => ?_) (fun h1 => ?_)
      · have hk : k < t.size := by omega
        have hkl : k < t.data.toList.length := by rw [size_list]; exact hk
        have hm : t[k] ∈ unS s.data.toList := by rw [← ht]; exact List.getElem_mem hkl
        refine go ?_; intros
        refine wg_if rfl rfl (fun h3 => ?_) (fun h3 => ?_)
        · have h3 : ((t[k]).toNat : Int) < 48 := h3
          have hr : resPI s = (0, false) := by
            rcases Classical.em (resPI s = (0, false)) with h | h
            · exact h
            · exfalso
              obtain ⟨v, h0, h1', hsv, q1, q2, q3, q4, q5⟩ := read_good h
              have := q3 _ hm; omega
          rw [hr]
          refine go ?_; intros
          refine ret () trivial rfl
        have h3k : ¬ ((t[k]).toNat : Int) < 48 := h3
        refine go ?_; intros
        refine c_if rfl (fun h4 => ?_) (fun h4 => ?_)
        · have h4 : 57 < ((t[k]).toNat : Int) := h4
          have hr : resPI s = (0, false) := by
            rcases Classical.em (resPI s = (0, false)) with h | h
            · exact h
            · exfalso
              obtain ⟨v, h0, h1', hsv, q1, q2, q3, q4, q5⟩ := read_good h
              have := q3 _ hm; omega
          rw [hr]
          refine go ?_; intros
          refine ret () trivial rfl
        have h4k : ¬ 57 < ((t[k]).toNat : Int) := h4
        refine go ?_; intros
        apply wO; apply oc; rfl; exact yd_subu8 rfl rfl (by omega) (by omega)
        apply wO; apply oc; rfl; exact yd_cv rfl (by omega) (by omega)
        refine goN ?_; intros
        have e48 : ∀ x : Nat, 48 ≤ x → 10 * ((vv : Nat) : Int) + (((x : Nat) : Int) - 48) = ((10 * vv + (x - 48) : Nat) : Int) := fun x hx => by omega
        rw [e48]
        rotate_left
        · show 48 ≤ (t[k]).toNat; omega
        refine go ?_; intros
        have etk : t.data.toList.take (k + 1) = t.data.toList.take k ++ [t[k]] := by rw [List.take_succ_eq_append_getElem hkl]; rfl
        refine n_lp (10 * vv + ((t[k]).toNat - 48), k + 1) ⟨by show k + 1 ≤ t.size; omega, by show _ = dval (t.data.toList.take (k + 1)); rw [etk, dval_app, ← z2], by
          show ∀ c ∈ t.data.toList.take (k + 1), 48 ≤ c.toNat ∧ c.toNat ≤ 57
          rw [etk]
          intro c hc
          rcases List.mem_append.1 hc with hc | hc
          · exact z3 c hc
          · rw [List.mem_singleton] at hc; subst hc; omega⟩ (by show t.size - (k + 1) < t.size - k; omega)
      · have hks : k = t.size := by omega
        have z2 : vv = dval (unS s.data.toList) := by rw [← ht, z2, List.take_of_length_le (by rw [size_list]; omega)]
        have htz : (unS s.data.toList).length = t.size := by rw [← ht, size_list]
        refine go ?_; intros
        refine c_if rfl (fun h5 => ?_) (fun h5 => ?_)
        · refine go ?_; intros
          refine cb (fun w st => numI_c (-((vv : Nat) : Int)) (by omega) (by omega) w) ?_
          refine go ?_; intros
          by_cases h6 : bz (Lib.itoa (-((vv : Nat) : Int))) = s
          · have hr : resPI s = (-((vv : Nat) : Int), true) := by rw [← h6]; exact resPI_itoa (by omega) (by omega)
            rw [decide_eq_false (by simpa using h6), hr]
            refine go ?_; intros
            refine ret () trivial rfl
          · rw [decide_eq_true h6]
            have hr : resPI s = (0, false) := by
              rcases Classical.em (resPI s = (0, false)) with h | h
              · exact h
              · exfalso
                obtain ⟨v, h0, h1', hsv, q1, q2, q3, q4, q5⟩ := read_good h
                rw [htz] at q5
                have hv : v = -((vv : Nat) : Int) := by omega
                exact h6 (by rw [← hv]; exact hsv.symm)
            rw [hr]
            refine go ?_; intros
            refine ret () trivial rfl
        · refine go ?_; intros
          refine cb (fun w st => numI_c (((vv : Nat) : Int)) (by omega) (by omega) w) ?_
          refine go ?_; intros
          by_cases h6 : bz (Lib.itoa (((vv : Nat) : Int))) = s
          · have hr : resPI s = (((vv : Nat) : Int), true) := by rw [← h6]; exact resPI_itoa (by omega) (by omega)
            rw [decide_eq_false (by simpa using h6), hr]
            refine go ?_; intros
            refine ret () trivial rfl
          · rw [decide_eq_true h6]
            have hr : resPI s = (0, false) := by
              rcases Classical.em (resPI s = (0, false)) with h | h
              · exact h
              · exfalso
                obtain ⟨v, h0, h1', hsv, q1, q2, q3, q4, q5⟩ := read_good h
                rw [htz] at q5
                have hv : v = ((vv : Nat) : Int) := by omega
                exact h6 (by rw [← hv]; exact hsv.symm)
            rw [hr]
            refine go ?_; intros
            refine ret () trivial rfl
    · have ht : s.data.toList = unS s.data.toList := by rw [unS_at h1, if_neg (fun e => h2 (by show ((s[0]).toNat : Int) = 45; rw [e]; rfl))]
      refine go ?_; intros
      refine ce (fun w s => l1In_c _ _ _ _) ?_
      cases g1 : btw 1 ((s.size : Nat) : Int) 6
      · have hr : resPI s = (0, false) := by
          rcases Classical.em (resPI s = (0, false)) with h | h
          · exact h
          · exfalso
            obtain ⟨v, h0, h1', hsv, q1, q2, q3, q4, q5⟩ := read_good h
            rw [← ht, size_list] at q1 q2
            have : btw 1 ((s.size : Nat) : Int) 6 = true := by unfold btw; rw [decide_eq_true (by omega), decide_eq_true (by omega)]; rfl
            rw [this] at g1; cases g1
        rw [hr]
        refine go ?_; intros
        refine ret () trivial rfl
      obtain ⟨t1, t6⟩ : 1 ≤ s.size ∧ s.size ≤ 6 := by unfold btw at g1; simp only [Bool.and_eq_true, decide_eq_true_eq] at g1; omega
      refine go ?_; intros
      refine c_loopR [0, 2, 3, 4] (fun z : Nat × Nat => [(5, .int .i64 (z.1 : Nat)), (6, .int .i64 (z.2 : Nat))]) (RdOk s) (fun z => s.size - z.2) (0, 0) ⟨Nat.zero_le _, rfl, by simp⟩ fun z hz => ?_
      obtain ⟨vv, k⟩ := z
      obtain ⟨z1, z2, z3⟩ := hz
      dsimp only at z1 z2 z3 ⊢
      have hv6 : vv ≤ 999999 := by
        have := dval_lt (s.data.toList.take k).length _ rfl z3
        have hl : (s.data.toList.take k).length ≤ 6 := by rw [List.length_take, size_list]; omega
        have := Nat.pow_le_pow_right (show 0 < 10 by omega) hl
        omega
      refine go ?_; intros
      refine c_if rfl (fun h1 => ?_) (fun h1 => ?_)
      · have hk : k < s.size := by omega
        have hkl : k < s.data.toList.length := by rw [size_list]; exact hk
        have hm : s[k] ∈ unS s.data.toList := by rw [← ht]; exact List.getElem_mem hkl
        refine go ?_; intros
        refine wg_if rfl rfl (fun h3 => ?_) (fun h3 => ?_)
        · have h3 : ((s[k]).toNat : Int) < 48 := h3
          have hr : resPI s = (0, false) := by
            rcases Classical.em (resPI s = (0, false)) with h | h
            · exact h
            · exfalso
              obtain ⟨v, h0, h1', hsv, q1, q2, q3, q4, q5⟩ := read_good h
              have := q3 _ hm; omega
          rw [hr]
          refine go ?_; intros
          refine ret () trivial rfl
        have h3k : ¬ ((s[k]).toNat : Int) < 48 := h3
        refine go ?_; intros
        refine c_if rfl (fun h4 => ?_) (fun h4 => ?_)
        · have h4 : 57 < ((s[k]).toNat : Int) := h4
          have hr : resPI s = (0, false) := by
            rcases Classical.em (resPI s = (0, false)) with h | h
            · exact h
            · exfalso
              obtain ⟨v, h0, h1', hsv, q1, q2, q3, q4, q5⟩ := read_good h
              have := q3 _ hm; omega
          rw [hr]
          refine go ?_; intros
          refine ret () trivial rfl
        have h4k : ¬ 57 < ((s[k]).toNat : Int) := h4
        refine go ?_; intros
        apply wO; apply oc; rfl; exact yd_subu8 rfl rfl (by omega) (by omega)
        apply wO; apply oc; rfl; exact yd_cv rfl (by omega) (by omega)
        refine goN ?_; intros
        have e48 : ∀ x : Nat, 48 ≤ x → 10 * ((vv : Nat) : Int) + (((x : Nat) : Int) - 48) = ((10 * vv + (x - 48) : Nat) : Int) := fun x hx => by omega
        rw [e48]
        rotate_left
        · show 48 ≤ (s[k]).toNat; omega
        refine go ?_; intros
        have etk : s.data.toList.take (k + 1) = s.data.toList.take k ++ [s[k]] := by rw [List.take_succ_eq_append_getElem hkl]; rfl
        refine n_lp (10 * vv + ((s[k]).toNat - 48), k + 1) ⟨by show k + 1 ≤ s.size; omega, by show _ = dval (s.data.toList.take (k + 1)); rw [etk, dval_app, ← z2], by
          show ∀ c ∈ s.data.toList.take (k + 1), 48 ≤ c.toNat ∧ c.toNat ≤ 57
          rw [etk]
          intro c hc
          rcases List.mem_append.1 hc with hc | hc
          · exact z3 c hc
          · rw [List.mem_singleton] at hc; subst hc; omega⟩ (by show s.size - (k + 1) < s.size - k; omega)
      · have hks : k = s.size := by omega
        have z2 : vv = dval (unS s.data.toList) := by rw [← ht, z2, List.take_of_length_le (by rw [size_list]; omega)]
        have htz : (unS s.data.toList).length = s.size := by rw [← ht, size_list]
        refine go ?_; intros
        refine c_if rfl (fun h5 => ?_) (fun h5 => ?_)
        · refine go ?_; intros
          refine cb (fun w st => numI_c (-((vv : Nat) : Int)) (by omega) (by omega) w) ?_
          refine go ?_; intros
          by_cases h6 : bz (Lib.itoa (-((vv : Nat) : Int))) = s
          · have hr : resPI s = (-((vv : Nat) : Int), true) := by rw [← h6]; exact resPI_itoa (by omega) (by omega)
            rw [decide_eq_false (by simpa using h6), hr]
            refine go ?_; intros
            refine ret () trivial rfl
          · rw [decide_eq_true h6]
            have hr : resPI s = (0, false) := by
              rcases Classical.em (resPI s = (0, false)) with h | h
              · exact h
              · exfalso
                obtain ⟨v, h0, h1', hsv, q1, q2, q3, q4, q5⟩ := read_good h
                rw [htz] at q5
                have hv : v = -((vv : Nat) : Int) := by omega
                exact h6 (by rw [← hv]; exact hsv.symm)
            rw [hr]
            refine go ?_; intros
            refine ret () trivial rfl
        · refine go ?_; intros
          refine cb (fun w st => numI_c (((vv : Nat) : Int)) (by omega) (by omega) w) ?_
          refine go ?_; intros
          by_cases h6 : bz (Lib.itoa (((vv : Nat) : Int))) = s
          · have hr : resPI s = (((vv : Nat) : Int), true) := by rw [← h6]; exact resPI_itoa (by omega) (by omega)
            rw [decide_eq_false (by simpa using h6), hr]
            refine go ?_; intros
            refine ret () trivial rfl
          · rw [decide_eq_true h6]
            have hr : resPI s = (0, false) := by
              rcases Classical.em (resPI s = (0, false)) with h | h
              · exact h
              · exfalso
                obtain ⟨v, h0, h1', hsv, q1, q2, q3, q4, q5⟩ := read_good h
                rw [htz] at q5
                have hv : v = ((vv : Nat) : Int) := by omega
                exact h6 (by rw [← hv]; exact hsv.symm)
            rw [hr]
            refine go ?_; intros
            refine ret () trivial rfl
  · have ht : s.data.toList = unS s.data.toList := (unS_short (by omega)).symm
    refine go ?_; intros
    refine ce (fun w s => l1In_c _ _ _ _) ?_
    cases g1 : btw 1 ((s.size : Nat) : Int) 6
    · have hr : resPI s = (0, false) := by
        rcases Classical.em (resPI s = (0, false)) with h | h
        · exact h
        · exfalso
          obtain ⟨v, h0, h1', hsv, q1, q2, q3, q4, q5⟩ := read_good h
          rw [← ht, size_list] at q1 q2
          have : btw 1 ((s.size : Nat) : Int) 6 = true := by unfold btw; rw [decide_eq_true (by omega), decide_eq_true (by omega)]; rfl
          rw [this] at g1; cases g1
      rw [hr]
      refine go ?_; intros
      refine ret () trivial rfl
    obtain ⟨t1, t6⟩ : 1 ≤ s.size ∧ s.size ≤ 6 := by unfold btw at g1; simp only [Bool.and_eq_true, decide_eq_true_eq] at g1; omega
    refine go ?_; intros
    refine c_loopR [0, 2, 3, 4] (fun z : Nat × Nat => [(5, .int .i64 (z.1 : Nat)), (6, .int .i64 (z.2 : Nat))]) (RdOk s) (fun z => s.size - z.2) (0, 0) ⟨Nat.zero_le _, rfl, by simp⟩ fun z hz => ?_
    obtain ⟨vv, k⟩ := z
    obtain ⟨z1, z2, z3⟩ := hz
    dsimp only at z1 z2 z3 ⊢
    have hv6 : vv ≤ 999999 := by
      have := dval_lt (s.data.toList.take k).length _ rfl z3
      have hl : (s.data.toList.take k).length ≤ 6 := by rw [List.length_take, size_list]; omega
      have := Nat.pow_le_pow_right (show 0 < 10 by omega) hl
      omega
    refine go ?_; intros
    refine c_if rfl (fun h1 => ?_) (fun h1 => ?_)
    · have hk : k < s.size := by omega
      have hkl : k < s.data.toList.length := by rw [size_list]; exact hk
      have hm : s[k] ∈ unS s.data.toList := by rw [← ht]; exact List.getElem_mem hkl
      refine go ?_; intros
      refine wg_if rfl rfl (fun h3 => ?_) (fun h3 => ?_)
      · have h3 : ((s[k]).toNat : Int) < 48 := h3
        have hr : resPI s = (0, false) := by
          rcases Classical.em (resPI s = (0, false)) with h | h
          · exact h
          · exfalso
            obtain ⟨v, h0, h1', hsv, q1, q2, q3, q4, q5⟩ := read_good h
            have := q3 _ hm; omega
        rw [hr]
        refine go ?_; intros
        refine ret () trivial rfl
      have h3k : ¬ ((s[k]).toNat : Int) < 48 := h3
      refine go ?_; intros
      refine c_if rfl (fun h4 => ?_) (fun h4 => ?_)
      · have h4 : 57 < ((s[k]).toNat : Int) := h4
        have hr : resPI s = (0, false) := by
          rcases Classical.em (resPI s = (0, false)) with h | h
          · exact h
          · exfalso
            obtain ⟨v, h0, h1', hsv, q1, q2, q3, q4, q5⟩ := read_good h
            have := q3 _ hm; omega
        rw [hr]
        refine go ?_; intros
        refine ret () trivial rfl
      have h4k : ¬ 57 < ((s[k]).toNat : Int) := h4
      refine go ?_; intros
      apply wO; apply oc; rfl; exact yd_subu8 rfl rfl (by omega) (by omega)
      apply wO; apply oc; rfl; exact yd_cv rfl (by omega) (by omega)
      refine goN ?_; intros
      have e48 : ∀ x : Nat, 48 ≤ x → 10 * ((vv : Nat) : Int) + (((x : Nat) : Int) - 48) = ((10 * vv + (x - 48) : Nat) : Int) := fun x hx => by omega
      rw [e48]
      rotate_left
      · show 48 ≤ (s[k]).toNat; omega
      refine go ?_; intros
      have etk : s.data.toList.take (k + 1) = s.data.toList.take k ++ [s[k]] := by rw [List.take_succ_eq_append_getElem hkl]; rfl
      refine n_lp (10 * vv + ((s[k]).toNat - 48), k + 1) ⟨by show k + 1 ≤ s.size; omega, by show _ = dval (s.data.toList.take (k + 1)); rw [etk, dval_app, ← z2], by
        show ∀ c ∈ s.data.toList.take (k + 1), 48 ≤ c.toNat ∧ c.toNat ≤ 57
        rw [etk]
        intro c hc
        rcases List.mem_append.1 hc with hc | hc
        · exact z3 c hc
        · rw [List.mem_singleton] at hc; subst hc; omega⟩ (by show s.size - (k + 1) < s.size - k; omega)
    · have hks : k = s.size := by omega
      have z2 : vv = dval (unS s.data.toList) := by rw [← ht, z2, List.take_of_length_le (by rw [size_list]; omega)]
      have htz : (unS s.data.toList).length = s.size := by rw [← ht, size_list]
      refine go ?_; intros
      refine c_if rfl (fun h5 => ?_) (fun h5 => ?_)
      · refine go ?_; intros
        refine cb (fun w st => numI_c (-((vv : Nat) : Int)) (by omega) (by omega) w) ?_
        refine go ?_; intros
        by_cases h6 : bz (Lib.itoa (-((vv : Nat) : Int))) = s
        · have hr : resPI s = (-((vv : Nat) : Int), true) := by rw [← h6]; exact resPI_itoa (by omega) (by omega)
          rw [decide_eq_false (by simpa using h6), hr]
          refine go ?_; intros
          refine ret () trivial rfl
        · rw [decide_eq_true h6]
          have hr : resPI s = (0, false) := by
            rcases Classical.em (resPI s = (0, false)) with h | h
            · exact h
            · exfalso
              obtain ⟨v, h0, h1', hsv, q1, q2, q3, q4, q5⟩ := read_good h
              rw [htz] at q5
              have hv : v = -((vv : Nat) : Int) := by omega
              exact h6 (by rw [← hv]; exact hsv.symm)
          rw [hr]
          refine go ?_; intros
          refine ret () trivial rfl
      · refine go ?_; intros
        refine cb (fun w st => numI_c (((vv : Nat) : Int)) (by omega) (by omega) w) ?_
        refine go ?_; intros
        by_cases h6 : bz (Lib.itoa (((vv : Nat) : Int))) = s
        · have hr : resPI s = (((vv : Nat) : Int), true) := by rw [← h6]; exact resPI_itoa (by omega) (by omega)
          rw [decide_eq_false (by simpa using h6), hr]
          refine go ?_; intros
          refine ret () trivial rfl
        · rw [decide_eq_true h6]
          have hr : resPI s = (0, false) := by
            rcases Classical.em (resPI s = (0, false)) with h | h
            · exact h
            · exfalso
              obtain ⟨v, h0, h1', hsv, q1, q2, q3, q4, q5⟩ := read_good h
              rw [htz] at q5
              have hv : v = ((vv : Nat) : Int) := by omega
              exact h6 (by rw [← hv]; exact hsv.symm)
          rw [hr]
          refine go ?_; intros
          refine ret () trivial rfl
end Go.Proofs.YtgogcgkocjpgoaaGreatDoor
/- Deliveries read out of sentences: the program and the reference. -/
namespace Go.Proofs.YtgogcgkocjpgoaaGreatDoor
open Go.RowKit
theorem getD_atW (ws : List Bs) (i : Nat) (h : i < ws.length) : atW ws i = ws[i] := by unfold atW; rw [List.getD_eq_getElem?_getD, List.getElem?_eq_getElem h]; rfl
theorem mapbz_at {ws : List Bs} {i : Nat} (h : i < (ws.map bz).length) : ((ws.map bz)[i]).data.toList = atW ws i := by
  rw [List.getElem_map, bz_list, getD_atW]
theorem mapbz_eq {ws : List Bs} {i : Nat} (h : i < (ws.map bz).length) : (ws.map bz)[i] = bz (atW ws i) := by
  rw [List.getElem_map, getD_atW]
theorem lastW_at (ws : List Bs) : atW ws ((ws.map bz).length - 1) = lastW ws := by unfold lastW atW; rw [List.length_map]
theorem bz_lit {a : Bs} {b : List UInt8} : (bz a = ⟨b.toArray⟩) ↔ a = b := ⟨fun h => by have := congrArg (fun x : ByteArray => x.data.toList) h; simpa [bz] using this, fun h => by rw [h]; rfl⟩
theorem words_size (l : Bs) : ∀ t ∈ (splitL 32 l).map bz, t.size ≤ l.length := by
  intro t ht
  rw [← splitB_L] at ht
  have := splitB_small ⟨#[32]⟩ l.length _ (bz l) (by rw [bz_size]; exact Nat.le_refl _) t ht
  exact this
theorem unDot_len (l : Bs) : (unDot l).length ≤ l.length := by
  unfold unDot Lib.trimSuffix
  split
  · simp only [List.length_take]; omega
  · exact Nat.le_refl _
theorem resPD_at {s : ByteArray} (h8 : ¬ (wsI s).length < 8) : resPD s = if goodDel (pdI (wsI s)) && decide (delT (pdI (wsI s)) = s) then (pdI (wsI s), true) else (zDel, false) := by
  unfold resPD okPDI
  rw [decide_eq_false h8]
  simp only [Bool.not_false, Bool.true_and]
theorem resPD_few {s : ByteArray} (h8 : (wsI s).length < 8) : resPD s = (zDel, false) := by
  unfold resPD okPDI
  rw [decide_eq_true h8]
  simp
set_option maxRecDepth 100000 in
theorem ParseDelivery_f (s : ByteArray) (FT : List Nat) (hs : s.size ≤ 10000000) : Fn Tryz.prog 73 [.string s] [EnvP FT] [] (fun (_ : Unit) => True) (fun _ => .tuple #[.agg #[.int .i64 (resPD s).1.receiver, .int .i64 (resPD s).1.got, .int .i64 (resPD s).1.repaired, .int .i64 (resPD s).1.lost], .bool (resPD s).2]) (fun _ => []) := by
  have hu := unDot_len s.data.toList
  rw [size_list] at hu
  have hw : ∀ t ∈ (wsI s).map bz, t.size ≤ 1000000000 := fun t ht => by have := words_size _ t ht; omega
  have hml : ((wsI s).map bz).length = (wsI s).length := List.length_map ..
  have hcb := Lib.countB_le ⟨#[32]⟩ (by decide) (bz (unDot s.data.toList)).size (bz (unDot s.data.toList)) (Nat.le_refl _)
  have hlen := Lib.splitB_all ⟨#[32]⟩ (by decide) 0 _ (bz (unDot s.data.toList)) rfl
  rw [splitS_L, bz_list, List.length_map] at hlen
  rw [bz_size] at hcb
  have hwl : (wsI s).length ≤ s.size + 1 := by unfold wsI; omega
  refine enter Tryz.func73 rfl Tryz.ntmps73 fun w0 => ?_
  refine go ?_; intros
  refine ce (fun w _ => (Tryz.strings_TrimSuffix s ⟨#[46]⟩ w (by omega)).mono fun _ _ ⟨h1, h2⟩ => ⟨h1, h2.symm⟩) ?_
  rw [show (⟨(Lib.trimSuffix s.data.toList (⟨#[46]⟩ : ByteArray).data.toList).toArray⟩ : ByteArray) = bz (unDot s.data.toList) from rfl]
  refine go ?_; intros
  refine cn (fun w st => split_c (bz (unDot s.data.toList)) ⟨#[32]⟩ (by rw [bz_size]; omega) (by decide) FT w (st.get (p := EnvP FT) (by simp))) fun a0 c0 F0 => ?_
  rw [show Lib.splitB ⟨#[32]⟩ 0 (Lib.countB (bz (unDot s.data.toList)) ⟨#[32]⟩) (bz (unDot s.data.toList)) = (wsI s).map bz by rw [splitS_L, bz_list]; rfl]
  refine t_read (E := EStr) fun F1 => ?_
  refine go ?_; intros
  refine c_if rfl (fun h8 => ?_) (fun h8 => ?_)
  · rw [resPD_few (by omega)]
    refine go ?_; intros
    refine ret () trivial rfl
  have h8 : ¬ (wsI s).length < 8 := by omega
  apply c_skip
  apply n_cd
  apply c_seq
  refine c_joinS [0, 2, 3, 4] [0, 1, 2] (fun gq : Nat => [(5, ptr gq 0 0)]) (fun gq => [.row gq 98 0 [] [.int .i64 (nwI (atW (wsI s) 1)), .int .i64 (nwI (atW (wsI s) 3)), .int .i64 0, .int .i64 (nwI (lastW (wsI s)))] []]) (fun _ => True) ?_ fun gq _ => ?_
  · refine at_str (a := a0) (xs := (wsI s).map bz) 1 ?_
    rintro hi1 b o e s1
    rw [e]
    refine at_str (a := some ⟨b, o, none⟩) (xs := (wsI s).map bz) 3 ?_
    rintro hi3 _ _ e3 s3
    cases e3
    refine at_str (a := some ⟨b, o, none⟩) (xs := (wsI s).map bz) (((wsI s).map bz).length - 1) ?_
    rintro hil _ _ el sl
    cases el
    refine goN ?_; intros
    refine d_start [0, 1, 2] [] ?_
    refine dt 0 ?_
    refine dt 1 ?_
    refine dt 2 ?_
    refine dt 4 ?_
    refine dt 5 ?_
    refine dt 6 ?_
    refine dt 8 ?_
    refine dt 9 ?_
    refine dt 10 ?_
    refine dt 11 ?_
    rw [show ((((wsI s).map bz).length : Nat) : Int) - 1 = ((((wsI s).map bz).length - 1 : Nat) : Int) by omega]
    refine dt 12 ?_
    refine dt 13 ?_
    refine dO2 3 16 (by kernel_rfl) (by rw [List.getElem?_toArray]; rfl) (by rw [List.getElem?_toArray]; rfl) ?_ ?_
    · apply o_call; rfl; kernel_rfl; exact evsE
      refine cb (fun w st => (numberWord_f _ FT (hw _ (List.getElem_mem _))).val w (hol1 (st.get (p := EnvP FT) (by simp)))) ?_
      rw [mapbz_at]
      refine dk ?_
      refine dO2 7 16 (by kernel_rfl) (by rw [List.getElem?_toArray]; rfl) (by rw [List.getElem?_toArray]; rfl) ?_ ?_
      · apply o_call; rfl; kernel_rfl; exact evsE
        refine cb (fun w st => (numberWord_f _ FT (hw _ (List.getElem_mem _))).val w (hol1 (st.get (p := EnvP FT) (by simp)))) ?_
        rw [mapbz_at]
        refine dk ?_
        refine dO2 14 16 (by kernel_rfl) (by rw [List.getElem?_toArray]; rfl) (by rw [List.getElem?_toArray]; rfl) ?_ ?_
        · apply o_call; rfl; kernel_rfl; exact evsE
          refine cb (fun w st => (numberWord_f _ FT (hw _ (List.getElem_mem _))).val w (hol1 (st.get (p := EnvP FT) (by simp)))) ?_
          rw [mapbz_at]
          refine dk ?_
          refine dt 15 ?_
          refine dO 16 (by kernel_rfl) (by rw [List.getElem?_toArray]; rfl) ?_
          apply o_alloc; rfl; intro _
          refine dk ?_
          refine dO 17 (by kernel_rfl) (by rw [List.getElem?_toArray]; rfl) ?_
          apply o_st; rfl; rfl; rfl; (first | exact AggC.s | exact OneC.s); rfl; exact rplE; exact putE; rfl
          refine dk ?_
          refine dd ?_
          rw [lastW_at]
          refine go ?_; intros
          refine n_join _ trivial
        · apply o_alloc; rfl; intro _
          refine dk ?_
          refine dO 14 (by kernel_rfl) (by rw [List.getElem?_toArray]; rfl) ?_
          apply o_call; rfl; kernel_rfl; exact evsE
          refine cb (fun w st => (numberWord_f _ FT (hw _ (List.getElem_mem _))).val w (hol1 (st.get (p := EnvP FT) (by simp)))) ?_
          rw [mapbz_at]
          refine dk ?_
          refine dt 15 ?_
          refine dO 17 (by kernel_rfl) (by rw [List.getElem?_toArray]; rfl) ?_
          apply o_st; rfl; rfl; rfl; (first | exact AggC.s | exact OneC.s); rfl; exact rplE; exact putE; rfl
          refine dk ?_
          refine dd ?_
          rw [lastW_at]
          refine go ?_; intros
          refine n_join _ trivial
      · apply o_alloc; rfl; intro _
        refine dk ?_
        refine dO 7 (by kernel_rfl) (by rw [List.getElem?_toArray]; rfl) ?_
        apply o_call; rfl; kernel_rfl; exact evsE
        refine cb (fun w st => (numberWord_f _ FT (hw _ (List.getElem_mem _))).val w (hol1 (st.get (p := EnvP FT) (by simp)))) ?_
        rw [mapbz_at]
        refine dk ?_
        refine dO 14 (by kernel_rfl) (by rw [List.getElem?_toArray]; rfl) ?_
        apply o_call; rfl; kernel_rfl; exact evsE
        refine cb (fun w st => (numberWord_f _ FT (hw _ (List.getElem_mem _))).val w (hol1 (st.get (p := EnvP FT) (by simp)))) ?_
        rw [mapbz_at]
        refine dk ?_
        refine dt 15 ?_
        refine dO 17 (by kernel_rfl) (by rw [List.getElem?_toArray]; rfl) ?_
        apply o_st; rfl; rfl; rfl; (first | exact AggC.s | exact OneC.s); rfl; exact rplE; exact putE; rfl
        refine dk ?_
        refine dd ?_
        rw [lastW_at]
        refine go ?_; intros
        refine n_join _ trivial
    · apply o_alloc; rfl; intro _
      refine dk ?_
      refine dO 3 (by kernel_rfl) (by rw [List.getElem?_toArray]; rfl) ?_
      apply o_call; rfl; kernel_rfl; exact evsE
      refine cb (fun w st => (numberWord_f _ FT (hw _ (List.getElem_mem _))).val w (hol1 (st.get (p := EnvP FT) (by simp)))) ?_
      rw [mapbz_at]
      refine dk ?_
      refine dO 7 (by kernel_rfl) (by rw [List.getElem?_toArray]; rfl) ?_
      apply o_call; rfl; kernel_rfl; exact evsE
      refine cb (fun w st => (numberWord_f _ FT (hw _ (List.getElem_mem _))).val w (hol1 (st.get (p := EnvP FT) (by simp)))) ?_
      rw [mapbz_at]
      refine dk ?_
      refine dO 14 (by kernel_rfl) (by rw [List.getElem?_toArray]; rfl) ?_
      apply o_call; rfl; kernel_rfl; exact evsE
      refine cb (fun w st => (numberWord_f _ FT (hw _ (List.getElem_mem _))).val w (hol1 (st.get (p := EnvP FT) (by simp)))) ?_
      rw [mapbz_at]
      refine dk ?_
      refine dt 15 ?_
      refine dO 17 (by kernel_rfl) (by rw [List.getElem?_toArray]; rfl) ?_
      apply o_st; rfl; rfl; rfl; (first | exact AggC.s | exact OneC.s); rfl; exact rplE; exact putE; rfl
      refine dk ?_
      refine dd ?_
      rw [lastW_at]
      refine go ?_; intros
      refine n_join _ trivial
  have hi5 : 5 < ((wsI s).map bz).length := by omega
  refine at_str (a := a0) (xs := (wsI s).map bz) 5 ?_
  rintro hi1 b o e s1
  rw [e]
  refine go ?_; intros
  rw [mapbz_eq hi5]
  by_cases k1 : atW (wsI s) 5 = [114, 101, 112, 97, 105, 114, 101, 100, 44]
  · have hd : pdI (wsI s) = ⟨nwI (atW (wsI s) 1), nwI (atW (wsI s) 3), 1, nwI (lastW (wsI s))⟩ := by unfold pdI; rw [if_pos k1]
    rw [decide_eq_true (bz_lit.2 k1)]
    refine go ?_; intros
    refine cb (fun w st => (DeliveryText_f ⟨nwI (atW (wsI s) 1), nwI (atW (wsI s) 3), 1, nwI (lastW (wsI s))⟩ FT).val w (hol1 (st.get (p := EnvP FT) (by simp)))) ?_
    have hq := resPD_at h8
    rw [hd] at hq
    cases g : goodDel ⟨nwI (atW (wsI s) 1), nwI (atW (wsI s) 3), 1, nwI (lastW (wsI s))⟩
    · rw [show resDT ⟨nwI (atW (wsI s) 1), nwI (atW (wsI s) 3), 1, nwI (lastW (wsI s))⟩ = (⟨#[]⟩, false) by unfold resDT; rw [g]; rfl]
      rw [hq, g]
      refine go ?_; intros
      refine ret () trivial rfl
    rw [show resDT ⟨nwI (atW (wsI s) 1), nwI (atW (wsI s) 3), 1, nwI (lastW (wsI s))⟩ = (delT ⟨nwI (atW (wsI s) 1), nwI (atW (wsI s) 3), 1, nwI (lastW (wsI s))⟩, true) by unfold resDT; rw [g]; rfl]
    by_cases ht : delT ⟨nwI (atW (wsI s) 1), nwI (atW (wsI s) 3), 1, nwI (lastW (wsI s))⟩ = s
    · rw [hq, g, decide_eq_true ht, ht]
      refine go ?_; intros
      rw [show decide (¬ s = s) = false by simp]
      refine go ?_; intros
      refine ret () trivial rfl
    · rw [hq, g, decide_eq_false ht]
      refine go ?_; intros
      rw [show decide (¬ delT ⟨nwI (atW (wsI s) 1), nwI (atW (wsI s) 3), 1, nwI (lastW (wsI s))⟩ = s) = true by simpa using ht]
      refine go ?_; intros
      refine ret () trivial rfl
  rw [decide_eq_false (fun h => k1 (bz_lit.1 h))]
  refine go ?_; intros
  by_cases k2 : atW (wsI s) 5 = [97, 108, 108]
  · have hd : pdI (wsI s) = ⟨nwI (atW (wsI s) 1), nwI (atW (wsI s) 3), nwI (atW (wsI s) 3), nwI (lastW (wsI s))⟩ := by unfold pdI; rw [if_neg k1, if_pos k2]
    rw [decide_eq_true (bz_lit.2 k2)]
    refine go ?_; intros
    refine cb (fun w st => (DeliveryText_f ⟨nwI (atW (wsI s) 1), nwI (atW (wsI s) 3), nwI (atW (wsI s) 3), nwI (lastW (wsI s))⟩ FT).val w (hol1 (st.get (p := EnvP FT) (by simp)))) ?_
    have hq := resPD_at h8
    rw [hd] at hq
    cases g : goodDel ⟨nwI (atW (wsI s) 1), nwI (atW (wsI s) 3), nwI (atW (wsI s) 3), nwI (lastW (wsI s))⟩
    · rw [show resDT ⟨nwI (atW (wsI s) 1), nwI (atW (wsI s) 3), nwI (atW (wsI s) 3), nwI (lastW (wsI s))⟩ = (⟨#[]⟩, false) by unfold resDT; rw [g]; rfl]
      rw [hq, g]
      refine go ?_; intros
      refine ret () trivial rfl
    rw [show resDT ⟨nwI (atW (wsI s) 1), nwI (atW (wsI s) 3), nwI (atW (wsI s) 3), nwI (lastW (wsI s))⟩ = (delT ⟨nwI (atW (wsI s) 1), nwI (atW (wsI s) 3), nwI (atW (wsI s) 3), nwI (lastW (wsI s))⟩, true) by unfold resDT; rw [g]; rfl]
    by_cases ht : delT ⟨nwI (atW (wsI s) 1), nwI (atW (wsI s) 3), nwI (atW (wsI s) 3), nwI (lastW (wsI s))⟩ = s
    · rw [hq, g, decide_eq_true ht, ht]
      refine go ?_; intros
      rw [show decide (¬ s = s) = false by simp]
      refine go ?_; intros
      refine ret () trivial rfl
    · rw [hq, g, decide_eq_false ht]
      refine go ?_; intros
      rw [show decide (¬ delT ⟨nwI (atW (wsI s) 1), nwI (atW (wsI s) 3), nwI (atW (wsI s) 3), nwI (lastW (wsI s))⟩ = s) = true by simpa using ht]
      refine go ?_; intros
      refine ret () trivial rfl
  rw [decide_eq_false (fun h => k2 (bz_lit.1 h))]
  refine go ?_; intros
  by_cases k3 : atW (wsI s) 5 = [97, 110, 100]
  · have hd : pdI (wsI s) = ⟨nwI (atW (wsI s) 1), nwI (atW (wsI s) 3), 0, nwI (lastW (wsI s))⟩ := by unfold pdI; rw [if_neg k1, if_neg k2, if_pos k3]
    rw [decide_eq_false (show ¬ ¬ bz (atW (wsI s) 5) = ⟨#[97, 110, 100]⟩ from fun h => h (bz_lit.2 k3))]
    refine go ?_; intros
    refine cb (fun w st => (DeliveryText_f ⟨nwI (atW (wsI s) 1), nwI (atW (wsI s) 3), 0, nwI (lastW (wsI s))⟩ FT).val w (hol1 (st.get (p := EnvP FT) (by simp)))) ?_
    have hq := resPD_at h8
    rw [hd] at hq
    cases g : goodDel ⟨nwI (atW (wsI s) 1), nwI (atW (wsI s) 3), 0, nwI (lastW (wsI s))⟩
    · rw [show resDT ⟨nwI (atW (wsI s) 1), nwI (atW (wsI s) 3), 0, nwI (lastW (wsI s))⟩ = (⟨#[]⟩, false) by unfold resDT; rw [g]; rfl]
      rw [hq, g]
      refine go ?_; intros
      refine ret () trivial rfl
    rw [show resDT ⟨nwI (atW (wsI s) 1), nwI (atW (wsI s) 3), 0, nwI (lastW (wsI s))⟩ = (delT ⟨nwI (atW (wsI s) 1), nwI (atW (wsI s) 3), 0, nwI (lastW (wsI s))⟩, true) by unfold resDT; rw [g]; rfl]
    by_cases ht : delT ⟨nwI (atW (wsI s) 1), nwI (atW (wsI s) 3), 0, nwI (lastW (wsI s))⟩ = s
    · rw [hq, g, decide_eq_true ht, ht]
      refine go ?_; intros
      rw [show decide (¬ s = s) = false by simp]
      refine go ?_; intros
      refine ret () trivial rfl
    · rw [hq, g, decide_eq_false ht]
      refine go ?_; intros
      rw [show decide (¬ delT ⟨nwI (atW (wsI s) 1), nwI (atW (wsI s) 3), 0, nwI (lastW (wsI s))⟩ = s) = true by simpa using ht]
      refine go ?_; intros
      refine ret () trivial rfl
  · have hd : pdI (wsI s) = ⟨nwI (atW (wsI s) 1), nwI (atW (wsI s) 3), nwI (atW (wsI s) 5), nwI (lastW (wsI s))⟩ := by unfold pdI; rw [if_neg k1, if_neg k2, if_neg k3]
    rw [decide_eq_true (show ¬ bz (atW (wsI s) 5) = ⟨#[97, 110, 100]⟩ from fun h => k3 (bz_lit.1 h))]
    refine go ?_; intros
    refine cb (fun w st => (numberWord_f _ FT (hw (bz (atW (wsI s) 5)) (by rw [← mapbz_eq hi5]; exact List.getElem_mem _))).val w (hol1 (st.get (p := EnvP FT) (by simp)))) ?_
    rw [bz_list]
    refine go ?_; intros
    refine cb (fun w st => (DeliveryText_f ⟨nwI (atW (wsI s) 1), nwI (atW (wsI s) 3), nwI (atW (wsI s) 5), nwI (lastW (wsI s))⟩ FT).val w (hol1 (st.get (p := EnvP FT) (by simp)))) ?_
    have hq := resPD_at h8
    rw [hd] at hq
    cases g : goodDel ⟨nwI (atW (wsI s) 1), nwI (atW (wsI s) 3), nwI (atW (wsI s) 5), nwI (lastW (wsI s))⟩
    · rw [show resDT ⟨nwI (atW (wsI s) 1), nwI (atW (wsI s) 3), nwI (atW (wsI s) 5), nwI (lastW (wsI s))⟩ = (⟨#[]⟩, false) by unfold resDT; rw [g]; rfl]
      rw [hq, g]
      refine go ?_; intros
      refine ret () trivial rfl
    rw [show resDT ⟨nwI (atW (wsI s) 1), nwI (atW (wsI s) 3), nwI (atW (wsI s) 5), nwI (lastW (wsI s))⟩ = (delT ⟨nwI (atW (wsI s) 1), nwI (atW (wsI s) 3), nwI (atW (wsI s) 5), nwI (lastW (wsI s))⟩, true) by unfold resDT; rw [g]; rfl]
    by_cases ht : delT ⟨nwI (atW (wsI s) 1), nwI (atW (wsI s) 3), nwI (atW (wsI s) 5), nwI (lastW (wsI s))⟩ = s
    · rw [hq, g, decide_eq_true ht, ht]
      refine go ?_; intros
      rw [show decide (¬ s = s) = false by simp]
      refine go ?_; intros
      refine ret () trivial rfl
    · rw [hq, g, decide_eq_false ht]
      refine go ?_; intros
      rw [show decide (¬ delT ⟨nwI (atW (wsI s) 1), nwI (atW (wsI s) 3), nwI (atW (wsI s) 5), nwI (lastW (wsI s))⟩ = s) = true by simpa using ht]
      refine go ?_; intros
      refine ret () trivial rfl
set_option maxRecDepth 100000 in
theorem l26Read_f (s : ByteArray) (hs : s.size ≤ 1000000000) : Fn Tryz.prog 234 [.string s] [] [] (fun (_ : Unit) => True) (fun _ => .int .i64 (nwS s.data.toList)) (fun _ => []) := by
  refine enter Tryz.func234 rfl Tryz.ntmps234 fun w0 => ?_
  refine go ?_; intros
  refine c_if rfl (fun h => ?_) (fun h => ?_)
  · rw [show nwS s.data.toList = 1000000 by rw [h]; rfl]
    refine go ?_; intros
    refine ret () trivial rfl
  · rw [show nwS s.data.toList = (resPI s).1 by
      unfold nwS
      rw [if_neg (fun e => h (by rw [← bz_of s, e]; rfl)), bz_of]]
    refine go ?_; intros
    refine cf (l1Read_f s hs) fun _ _ => ?_
    refine t_app ?_
    refine go ?_; intros
    refine ret () trivial rfl
theorem resPD_Sat {s : ByteArray} (h : ¬ 90 < s.size) (h8 : ¬ (wsS s).length < 8) : resPD s = if goodDel (pdS (wsS s)) && decide (delT (pdS (wsS s)) = s) then (pdS (wsS s), true) else (zDel, false) := by
  rw [← resPD_S]
  unfold okPDS
  rw [decide_eq_false h, decide_eq_false h8]
  simp only [Bool.or_false, Bool.not_false, Bool.true_and]
theorem resPD_Sno {s : ByteArray} (h : 90 < s.size ∨ (wsS s).length < 8) : resPD s = (zDel, false) := by
  rw [← resPD_S]
  unfold okPDS
  rcases h with h | h <;> rw [decide_eq_true h] <;> simp
set_option maxRecDepth 100000 in
theorem l26Parse_f (s : ByteArray) (FT : List Nat) (hs : s.size ≤ 10000000) : Fn Tryz.prog 162 [.string s] [EnvP FT] [] (fun (_ : Unit) => True) (fun _ => .tuple #[.agg #[.int .i64 (resPD s).1.receiver, .int .i64 (resPD s).1.got, .int .i64 (resPD s).1.repaired, .int .i64 (resPD s).1.lost], .bool (resPD s).2]) (fun _ => []) := by
  have hw : ∀ t ∈ (wsS s).map bz, t.size ≤ 1000000000 := fun t ht => by have := words_size _ t ht; rw [size_list] at this; omega
  have hml : ((wsS s).map bz).length = (wsS s).length := List.length_map ..
  have hcb := Lib.countB_le ⟨#[32]⟩ (by decide) s.size s (Nat.le_refl _)
  have hlen := Lib.splitB_all ⟨#[32]⟩ (by decide) 0 _ s rfl
  rw [splitS_L, List.length_map] at hlen
  have hwl : (wsS s).length ≤ s.size + 1 := by unfold wsS; omega
  refine enter Tryz.func162 rfl Tryz.ntmps162 fun w0 => ?_
  refine go ?_; intros
  refine cf (l1Split_f s 32 (by omega)) fun q _ => ?_
  refine t_app ?_
  rw [show (splitL 32 s.data.toList).map bz = (wsS s).map bz from rfl]
  refine t_read (E := EStr) (xs := (wsS s).map bz) fun F1 => ?_
  refine go ?_; intros
  refine wg_if rfl rfl (fun h9 => ?_) (fun h9 => ?_)
  · rw [resPD_Sno (.inl (by omega))]
    refine go ?_; intros
    refine ret () trivial rfl
  refine go ?_; intros
  refine c_if rfl (fun h8 => ?_) (fun h8 => ?_)
  · rw [resPD_Sno (.inr (by omega))]
    refine go ?_; intros
    refine ret () trivial rfl
  have h8 : ¬ (wsS s).length < 8 := by omega
  have h9 : ¬ 90 < s.size := by omega
  have hil : ((wsS s).map bz).length - 1 < ((wsS s).map bz).length := by omega
  have hls : (bz (lastW (wsS s))).size ≤ 1000000000 := by rw [← lastW_at, ← mapbz_eq hil]; exact hw _ (List.getElem_mem _)
  refine at_str (a := q.1) (xs := (wsS s).map bz) (((wsS s).map bz).length - 1) ?_
  rintro _ b o el sl
  rw [el]
  refine go ?_; intros
  rw [show ((((wsS s).map bz).length : Nat) : Int) - 1 = ((((wsS s).map bz).length - 1 : Nat) : Int) by omega]
  refine go ?_; intros
  rw [mapbz_eq hil, lastW_at]
  refine c_joinS [0, 2, 3, 4, 5, 7] [0, 1, 2, 3, 4] (fun gq : Nat => [(8, ptr gq 0 0)]) (fun gq => [.row gq 98 0 [] [.int .i64 (nwS (atW (wsS s) 1)), .int .i64 (nwS (atW (wsS s) 3)), .int .i64 0, .int .i64 0] []]) (fun _ => True) ?_ fun gq _ => ?_
  · refine at_str (a := some ⟨b, o, none⟩) (xs := (wsS s).map bz) 1 ?_
    rintro hi1 _ _ e1 s1
    cases e1
    refine at_str (a := some ⟨b, o, none⟩) (xs := (wsS s).map bz) 3 ?_
    rintro hi3 _ _ e3 s3
    cases e3
    refine goN ?_; intros
    refine d_start [0, 1] [] ?_
    refine dt 0 ?_
    refine dt 1 ?_
    refine dt 2 ?_
    refine dt 4 ?_
    refine dt 5 ?_
    refine dt 6 ?_
    refine dO2 3 9 (by kernel_rfl) (by rw [List.getElem?_toArray]; rfl) (by rw [List.getElem?_toArray]; rfl) ?_ ?_
    · apply o_call; rfl; kernel_rfl; exact evsE
      refine cf (l26Read_f _ (hw _ (List.getElem_mem _))) fun _ _ => ?_
      refine t_app ?_
      rw [mapbz_at]
      refine dk ?_
      refine dO2 7 9 (by kernel_rfl) (by rw [List.getElem?_toArray]; rfl) (by rw [List.getElem?_toArray]; rfl) ?_ ?_
      · apply o_call; rfl; kernel_rfl; exact evsE
        refine cf (l26Read_f _ (hw _ (List.getElem_mem _))) fun _ _ => ?_
        refine t_app ?_
        rw [mapbz_at]
        refine dk ?_
        refine dt 8 ?_
        refine dO 9 (by kernel_rfl) (by rw [List.getElem?_toArray]; rfl) ?_
        apply o_alloc; rfl; intro _
        refine dk ?_
        refine dO 10 (by kernel_rfl) (by rw [List.getElem?_toArray]; rfl) ?_
        apply o_st; rfl; rfl; rfl; (first | exact AggC.s | exact OneC.s); rfl; exact rplE; exact putE; rfl
        refine dk ?_
        refine dd ?_
        refine go ?_; intros
        refine n_join _ trivial
      · apply o_alloc; rfl; intro _
        refine dk ?_
        refine dO 7 (by kernel_rfl) (by rw [List.getElem?_toArray]; rfl) ?_
        apply o_call; rfl; kernel_rfl; exact evsE
        refine cf (l26Read_f _ (hw _ (List.getElem_mem _))) fun _ _ => ?_
        refine t_app ?_
        rw [mapbz_at]
        refine dk ?_
        refine dt 8 ?_
        refine dO 10 (by kernel_rfl) (by rw [List.getElem?_toArray]; rfl) ?_
        apply o_st; rfl; rfl; rfl; (first | exact AggC.s | exact OneC.s); rfl; exact rplE; exact putE; rfl
        refine dk ?_
        refine dd ?_
        refine go ?_; intros
        refine n_join _ trivial
    · apply o_alloc; rfl; intro _
      refine dk ?_
      refine dO 3 (by kernel_rfl) (by rw [List.getElem?_toArray]; rfl) ?_
      apply o_call; rfl; kernel_rfl; exact evsE
      refine cf (l26Read_f _ (hw _ (List.getElem_mem _))) fun _ _ => ?_
      refine t_app ?_
      rw [mapbz_at]
      refine dk ?_
      refine dO 7 (by kernel_rfl) (by rw [List.getElem?_toArray]; rfl) ?_
      apply o_call; rfl; kernel_rfl; exact evsE
      refine cf (l26Read_f _ (hw _ (List.getElem_mem _))) fun _ _ => ?_
      refine t_app ?_
      rw [mapbz_at]
      refine dk ?_
      refine dt 8 ?_
      refine dO 10 (by kernel_rfl) (by rw [List.getElem?_toArray]; rfl) ?_
      apply o_st; rfl; rfl; rfl; (first | exact AggC.s | exact OneC.s); rfl; exact rplE; exact putE; rfl
      refine dk ?_
      refine dd ?_
      refine go ?_; intros
      refine n_join _ trivial
  refine go ?_; intros
  refine c_joinS [0, 2, 3, 4, 5, 7, 8] [1, 2, 3, 4, 5] (fun _ : Int => []) (fun z => [.row gq 98 0 [] [.int .i64 (nwS (atW (wsS s) 1)), .int .i64 (nwS (atW (wsS s) 3)), .int .i64 0, .int .i64 z] []]) (fun z => z = if lastW (wsS s) = [] then 0 else nwS (lastW (wsS s)).dropLast) ?_ fun z hz => ?_
  · refine c_if rfl (fun h => ?_) (fun h => ?_)
    · have hn : lastW (wsS s) ≠ [] := by intro e; rw [e, bz_size] at h; exact absurd h (by simp)
      have hx : ((bz (lastW (wsS s))).extract 0 (((bz (lastW (wsS s))).size : Int) - 1).toNat).data.toList = (lastW (wsS s)).dropLast := by
        rw [Lib.extract_from_zero, bz_list, bz_size, List.dropLast_eq_take]; congr 1; omega
      have hx2 : ((bz (lastW (wsS s))).extract 0 (((bz (lastW (wsS s))).size : Int) - 1).toNat).size ≤ 1000000000 := by rw [ByteArray.size_extract]; omega
      refine goN ?_; intros
      apply wO; apply oc; rfl; exact yd_slh rfl rfl (by omega) (by omega)
      refine go ?_; intros
      refine cf (l26Read_f _ hx2) fun _ _ => ?_
      refine t_app ?_
      rw [hx]
      refine go ?_; intros
      refine n_join (nwS (lastW (wsS s)).dropLast) (by rw [if_neg hn])
    · have hn : lastW (wsS s) = [] := by
        have : (bz (lastW (wsS s))).size = 0 := by omega
        rw [bz_size] at this; exact List.length_eq_zero_iff.1 this
      refine go ?_; intros
      refine n_join 0 (by rw [if_pos hn])
  have hi5 : 5 < ((wsS s).map bz).length := by omega
  refine at_str (a := some ⟨b, o, none⟩) (xs := (wsS s).map bz) 5 ?_
  rintro _ _ _ e5 s5
  cases e5
  rw [mapbz_eq hi5]
  refine go ?_; intros
  by_cases k1 : atW (wsS s) 5 = [97, 108, 108]
  · have hd : pdS (wsS s) = ⟨nwS (atW (wsS s) 1), nwS (atW (wsS s) 3), nwS (atW (wsS s) 3), z⟩ := by unfold pdS; rw [if_pos (.inl k1), ← hz]
    rw [decide_eq_true (bz_lit.2 k1)]
    refine go ?_; intros
    refine cf (l26One_f ⟨nwS (atW (wsS s) 1), nwS (atW (wsS s) 3), nwS (atW (wsS s) 3), z⟩) fun _ _ => ?_
    refine t_app ?_
    have hq := resPD_Sat h9 h8
    rw [hd] at hq
    cases g : goodDel ⟨nwS (atW (wsS s) 1), nwS (atW (wsS s) 3), nwS (atW (wsS s) 3), z⟩
    · rw [hq, g]
      refine go ?_; intros
      refine ret () trivial rfl
    refine go ?_; intros
    refine cb (fun w st => (l26Text_f ⟨nwS (atW (wsS s) 1), nwS (atW (wsS s) 3), nwS (atW (wsS s) 3), z⟩ FT g).val w (hol1 (st.get (p := EnvP FT) (by simp)))) ?_
    by_cases ht : delT ⟨nwS (atW (wsS s) 1), nwS (atW (wsS s) 3), nwS (atW (wsS s) 3), z⟩ = s
    · rw [hq, g, decide_eq_true ht, ht]
      refine go ?_; intros
      rw [show decide (¬ s = s) = false by simp]
      refine go ?_; intros
      refine ret () trivial rfl
    · rw [hq, g, decide_eq_false ht]
      refine go ?_; intros
      rw [show decide (¬ delT ⟨nwS (atW (wsS s) 1), nwS (atW (wsS s) 3), nwS (atW (wsS s) 3), z⟩ = s) = true by simpa using ht]
      refine go ?_; intros
      refine ret () trivial rfl
  rw [decide_eq_false (fun h => k1 (bz_lit.1 h))]
  refine go ?_; intros
  by_cases k2 : atW (wsS s) 5 = [114, 101, 112, 97, 105, 114, 101, 100, 44]
  · have hd : pdS (wsS s) = ⟨nwS (atW (wsS s) 1), nwS (atW (wsS s) 3), nwS (atW (wsS s) 3), z⟩ := by unfold pdS; rw [if_pos (.inr k2), ← hz]
    rw [decide_eq_true (bz_lit.2 k2)]
    refine go ?_; intros
    refine cf (l26One_f ⟨nwS (atW (wsS s) 1), nwS (atW (wsS s) 3), nwS (atW (wsS s) 3), z⟩) fun _ _ => ?_
    refine t_app ?_
    have hq := resPD_Sat h9 h8
    rw [hd] at hq
    cases g : goodDel ⟨nwS (atW (wsS s) 1), nwS (atW (wsS s) 3), nwS (atW (wsS s) 3), z⟩
    · rw [hq, g]
      refine go ?_; intros
      refine ret () trivial rfl
    refine go ?_; intros
    refine cb (fun w st => (l26Text_f ⟨nwS (atW (wsS s) 1), nwS (atW (wsS s) 3), nwS (atW (wsS s) 3), z⟩ FT g).val w (hol1 (st.get (p := EnvP FT) (by simp)))) ?_
    by_cases ht : delT ⟨nwS (atW (wsS s) 1), nwS (atW (wsS s) 3), nwS (atW (wsS s) 3), z⟩ = s
    · rw [hq, g, decide_eq_true ht, ht]
      refine go ?_; intros
      rw [show decide (¬ s = s) = false by simp]
      refine go ?_; intros
      refine ret () trivial rfl
    · rw [hq, g, decide_eq_false ht]
      refine go ?_; intros
      rw [show decide (¬ delT ⟨nwS (atW (wsS s) 1), nwS (atW (wsS s) 3), nwS (atW (wsS s) 3), z⟩ = s) = true by simpa using ht]
      refine go ?_; intros
      refine ret () trivial rfl
  · have hd : pdS (wsS s) = ⟨nwS (atW (wsS s) 1), nwS (atW (wsS s) 3), nwS (atW (wsS s) 5), z⟩ := by unfold pdS; rw [if_neg (fun h => h.elim k1 k2), ← hz]
    rw [decide_eq_false (fun h => k2 (bz_lit.1 h))]
    refine go ?_; intros
    refine cf (l26Read_f _ (hw (bz (atW (wsS s) 5)) (by rw [← mapbz_eq hi5]; exact List.getElem_mem _))) fun _ _ => ?_
    refine t_app ?_
    rw [bz_list]
    refine go ?_; intros
    refine cf (l26One_f ⟨nwS (atW (wsS s) 1), nwS (atW (wsS s) 3), nwS (atW (wsS s) 5), z⟩) fun _ _ => ?_
    refine t_app ?_
    have hq := resPD_Sat h9 h8
    rw [hd] at hq
    cases g : goodDel ⟨nwS (atW (wsS s) 1), nwS (atW (wsS s) 3), nwS (atW (wsS s) 5), z⟩
    · rw [hq, g]
      refine go ?_; intros
      refine ret () trivial rfl
    refine go ?_; intros
    refine cb (fun w st => (l26Text_f ⟨nwS (atW (wsS s) 1), nwS (atW (wsS s) 3), nwS (atW (wsS s) 5), z⟩ FT g).val w (hol1 (st.get (p := EnvP FT) (by simp)))) ?_
    by_cases ht : delT ⟨nwS (atW (wsS s) 1), nwS (atW (wsS s) 3), nwS (atW (wsS s) 5), z⟩ = s
    · rw [hq, g, decide_eq_true ht, ht]
      refine go ?_; intros
      rw [show decide (¬ s = s) = false by simp]
      refine go ?_; intros
      refine ret () trivial rfl
    · rw [hq, g, decide_eq_false ht]
      refine go ?_; intros
      rw [show decide (¬ delT ⟨nwS (atW (wsS s) 1), nwS (atW (wsS s) 3), nwS (atW (wsS s) 5), z⟩ = s) = true by simpa using ht]
      refine go ?_; intros
      refine ret () trivial rfl
theorem specParseDelivery_f (s : ByteArray) (FT : List Nat) (hs : s.size ≤ 10000000) : Fn Tryz.prog 75 [.string s] [EnvP FT] [] (fun (_ : Unit) => True) (fun _ => .tuple #[.agg #[.int .i64 (resPD s).1.receiver, .int .i64 (resPD s).1.got, .int .i64 (resPD s).1.repaired, .int .i64 (resPD s).1.lost], .bool (resPD s).2]) (fun _ => []) := by
  refine enter Tryz.func75 rfl Tryz.ntmps75 fun w0 => ?_
  refine go ?_; intros
  refine cb (fun w st => (l26Parse_f s FT hs).val w (hol1 (st.get (p := EnvP FT) (by simp)))) ?_
  refine go ?_; intros
  refine ret () trivial rfl
end Go.Proofs.YtgogcgkocjpgoaaGreatDoor
/- Reports: their texts, and that they come back out of them. Plain. -/
namespace Go.Proofs.YtgogcgkocjpgoaaGreatDoor
open Go.RowKit
theorem idx2_at (r : Bs) : ∀ x : Bs, (∀ c ∈ x, c ≠ 46) → Lib.index (x ++ 46 :: 32 :: r) [46, 32] = x.length
  | [], _ => by simp [Lib.index]
  | c :: x, h => by
    have ih := idx2_at r x (fun d hd => h d (by simp [hd]))
    have hc : ¬ (46 : UInt8) = c := fun e => h c (by simp) e.symm
    rw [List.cons_append, Lib.index, if_neg (by simp [hc]), ih, if_neg (by simp <;> omega)]
    simp
theorem idx2_no : ∀ x : Bs, (∀ c ∈ x, c ≠ 46) → Lib.index x [46, 32] = -1
  | [], _ => by simp [Lib.index]
  | c :: x, h => by
    have ih := idx2_no x (fun d hd => h d (by simp [hd]))
    have hc : ¬ (46 : UInt8) = c := fun e => h c (by simp) e.symm
    rw [Lib.index, if_neg (by simp [hc]), ih]; rfl
def jn2 (W : List Bs) : Bs := (W.map fun w => 46 :: 32 :: w).flatten
theorem split2 : ∀ (W : List Bs) (u : Bs), (∀ c ∈ u, c ≠ 46) → (∀ w ∈ W, ∀ c ∈ w, c ≠ 46) → Lib.splitB ⟨#[46, 32]⟩ 0 (Lib.countB (bz (u ++ jn2 W)) ⟨#[46, 32]⟩) (bz (u ++ jn2 W)) = (u :: W).map bz
  | [], u, hu, _ => by
    have hi : Lib.indexB (bz (u ++ jn2 [])) ⟨#[46, 32]⟩ = -1 := by
      unfold Lib.indexB
      rw [bz_list, show jn2 [] = [] from rfl, List.append_nil]
      exact idx2_no u hu
    rw [Lib.countB_miss _ _ hi, Lib.splitB_zero, show jn2 [] = [] from rfl, List.append_nil]; rfl
  | w :: W, u, hu, hW => by
    have e : u ++ jn2 (w :: W) = u ++ 46 :: 32 :: (w ++ jn2 W) := by simp [jn2]
    have hi : Lib.indexB (bz (u ++ jn2 (w :: W))) ⟨#[46, 32]⟩ = (u.length : Int) := by
      unfold Lib.indexB
      rw [bz_list, e]
      exact idx2_at (w ++ jn2 W) u hu
    have e1 : (bz (u ++ jn2 (w :: W))).extract 0 (u.length + 0) = bz u := by
      rw [← bz_of (ByteArray.extract _ _ _), Lib.extract_from_zero, bz_list, Nat.add_zero, List.take_left]
    have e2 : (bz (u ++ jn2 (w :: W))).extract (u.length + (⟨#[46, 32]⟩ : ByteArray).size) (bz (u ++ jn2 (w :: W))).size = bz (w ++ jn2 W) := by
      rw [← bz_of (ByteArray.extract _ _ _)]
      congr 1
      rw [Lib.extract_data, bz_list, e, bz_size, show (⟨#[46, 32]⟩ : ByteArray).size = 2 from rfl, show u ++ 46 :: 32 :: (w ++ jn2 W) = (u ++ [46, 32]) ++ (w ++ jn2 W) by simp, List.drop_left' (by simp)]
      exact List.take_of_length_le (by simp; omega)
    rw [Lib.countB_hit _ _ _ (by decide) hi, e2, Nat.add_comm, Lib.splitB_hit _ _ _ _ _ hi, e1, e2, split2 W w (hW w (by simp)) (fun v hv => hW v (by simp [hv]))]
    rfl
def noRcv : ByteArray := ⟨#[84, 104, 101, 114, 101, 32, 97, 114, 101, 32, 110, 111, 32, 114, 101, 99, 101, 105, 118, 101, 114, 115, 46]⟩
def dOk (l : List Delivery) (i : Nat) : Bool := match l[i]? with
  | some d => goodDel d && (decide (i = 0) || !decide (d.receiver ≤ (l.getD (i - 1) zDel).receiver))
  | none => true
theorem dOk_at {l : List Delivery} {i : Nat} (h : i < l.length) : dOk l i = (goodDel l[i] && (decide (i = 0) || !decide (l[i].receiver ≤ (l[i - 1]'(by omega)).receiver))) := by
  unfold dOk
  rw [List.getElem?_eq_getElem h, List.getD_eq_getElem?_getD, List.getElem?_eq_getElem (by omega)]; rfl
def goodDels (l : List Delivery) : Bool := (List.range l.length).all (dOk l)
theorem goodDels_no {l : List Delivery} {i : Nat} (h : i < l.length) (hc : dOk l i = false) : goodDels l = false := by
  unfold goodDels
  rw [List.all_eq_false]
  exact ⟨i, List.mem_range.2 h, by simp [hc]⟩
theorem goodDels_yes {l : List Delivery} (h : ∀ j, j < l.length → dOk l j = true) : goodDels l = true := by
  unfold goodDels
  exact List.all_eq_true.2 fun j hj => h j (List.mem_range.1 hj)
theorem goodDels_at {l : List Delivery} (hg : goodDels l = true) {i : Nat} (h : i < l.length) : goodDel l[i] = true ∧ (0 < i → (l[i - 1]'(by omega)).receiver < l[i].receiver) := by
  unfold goodDels at hg
  have := List.all_eq_true.1 hg i (List.mem_range.2 h)
  rw [dOk_at h] at this
  simp only [Bool.and_eq_true, Bool.or_eq_true, Bool.not_eq_true', decide_eq_true_eq, decide_eq_false_iff_not] at this
  refine ⟨this.1, fun h0 => ?_⟩
  rcases this.2 with h1 | h1 <;> omega
theorem goodDels_mem {l : List Delivery} (hg : goodDels l = true) : ∀ d ∈ l, goodDel d = true := fun d hd => by
  obtain ⟨i, hi, rfl⟩ := List.mem_iff_getElem.1 hd
  exact (goodDels_at hg hi).1
theorem goodDels_rec {l : List Delivery} (hg : goodDels l = true) : ∀ i (h : i < l.length), (i : Int) + 1 ≤ l[i].receiver
  | 0, h => by have := (good_del (goodDels_at hg h).1).1; omega
  | i + 1, h => by
    have ih := goodDels_rec hg i (by omega)
    have := (goodDels_at hg h).2 (by omega)
    simp only [Nat.add_sub_cancel] at this
    omega
theorem goodDels_len {l : List Delivery} (hg : goodDels l = true) : l.length ≤ 7 := by
  by_cases h : l.length = 0
  · omega
  · have h1 := goodDels_rec hg (l.length - 1) (by omega)
    have h2 := (good_del (goodDels_at hg (i := l.length - 1) (by omega)).1).1
    omega
def tailR (r : List Delivery) : Bs := (r.map fun e => 32 :: (delB e ++ [46])).flatten
def repB (d : Delivery) (r : List Delivery) : Bs := delB d ++ [46] ++ tailR r
def repT : List Delivery → ByteArray
  | [] => noRcv
  | d :: r => bz (repB d r)
theorem repB_dot : ∀ (r : List Delivery) (d : Delivery), repB d r = delB d ++ jn2 (r.map delB) ++ [46]
  | [], d => by simp [repB, tailR, jn2]
  | e :: r, d => by
    have ih := repB_dot r e
    unfold repB tailR jn2 at *
    simp only [List.map_cons, List.flatten_cons, List.append_assoc, List.cons_append, List.nil_append] at ih ⊢
    rw [ih]
theorem repT_size {l : List Delivery} (hg : goodDels l = true) : (repT l).size ≤ 600 := by
  have h7 := goodDels_len hg
  have hm := goodDels_mem hg
  have hb : ∀ d ∈ l, (delB d).length ≤ 79 := fun d hd => by
    have := delT_size (hm d hd)
    unfold delT at this; rw [bz_size, List.length_append] at this
    simp only [List.length_cons, List.length_nil] at this; omega
  cases l with
  | nil => decide
  | cons d r =>
    show (bz (repB d r)).size ≤ 600
    rw [bz_size]
    have ht : ∀ r : List Delivery, (∀ e ∈ r, (delB e).length ≤ 79) → (tailR r).length ≤ 81 * r.length := by
      intro r
      induction r with
      | nil => intro _; simp [tailR]
      | cons e r ih =>
        intro h
        have h1 := ih fun f hf => h f (by simp [hf])
        have h2 := h e (by simp)
        unfold tailR at h1 ⊢
        simp only [List.map_cons, List.flatten_cons, List.length_append, List.length_cons, List.length_nil]
        omega
    have h1 := ht r fun e he => hb e (by simp [he])
    have h2 := hb d (by simp)
    unfold repB
    simp only [List.length_append, List.length_cons, List.length_nil] at h7 ⊢
    omega
/-- sentences read one by one -/
def prD (t : Bs) : Delivery × Bool := resPD (bz (t ++ [46]))
def okAll (ts : List Bs) : Bool := ts.all fun t => (prD t).2
def valAll (ts : List Bs) : List Delivery := ts.map fun t => (prD t).1
theorem prD_del {d : Delivery} (hg : goodDel d = true) : prD (delB d) = (d, true) := resPD_back hg
theorem all_del {l : List Delivery} (hm : ∀ d ∈ l, goodDel d = true) : okAll (l.map delB) = true ∧ valAll (l.map delB) = l := by
  constructor
  · unfold okAll
    rw [List.all_map, List.all_eq_true]
    intro d hd
    show (prD (delB d)).2 = true
    rw [prD_del (hm d hd)]
  · unfold valAll
    rw [List.map_map]
    have : ∀ d ∈ l, ((fun t => (prD t).1) ∘ delB) d = id d := fun d hd => by
      show (prD (delB d)).1 = d
      rw [prD_del (hm d hd)]
    rw [List.map_congr_left this, List.map_id]
def tsI (s : ByteArray) : List Bs := (Lib.splitB ⟨#[46, 32]⟩ 0 (Lib.countB (bz (unDot s.data.toList)) ⟨#[46, 32]⟩) (bz (unDot s.data.toList))).map fun t => t.data.toList
def tsS (s : ByteArray) : List Bs := (splitL 46 s.data.toList).dropLast.take 1 ++ ((splitL 46 s.data.toList).dropLast.drop 1).map (List.drop 1)
def okPRI (s : ByteArray) : Bool := okAll (tsI s) && goodDels (valAll (tsI s)) && decide (repT (valAll (tsI s)) = s)
def okPRS (s : ByteArray) : Bool := !decide (640 < s.size) && okAll (tsS s) && !decide (tsS s = []) && goodDels (valAll (tsS s)) && decide (repT (valAll (tsS s)) = s)
def resPR (s : ByteArray) : List Delivery × Bool := if decide (s = noRcv) then ([], true) else if okPRI s then (valAll (tsI s), true) else ([], false)
theorem tsI_rep {d : Delivery} {r : List Delivery} : tsI (bz (repB d r)) = (d :: r).map delB := by
  unfold tsI
  rw [bz_list, repB_dot, unDot_at, split2 _ _ delB_ne (by
    intro w hw
    obtain ⟨e, -, rfl⟩ := List.mem_map.1 hw
    exact delB_ne)]
  simp [bz_list]
theorem splitL_rep : ∀ (r : List Delivery) (d : Delivery), splitL 46 (repB d r) = delB d :: (r.map fun e => 32 :: delB e) ++ [[]]
  | [], d => by
    unfold repB tailR
    rw [List.map_nil, List.flatten_nil, List.append_nil, splitL_at [] delB_ne]; rfl
  | e :: r, d => by
    have ih := splitL_rep r e
    have h1 : repB d (e :: r) = delB d ++ 46 :: ((32 :: delB e) ++ 46 :: tailR r) := by unfold repB tailR; simp
    have h2 : repB e r = delB e ++ 46 :: tailR r := by unfold repB; simp
    rw [h2, splitL_at _ delB_ne] at ih
    rw [h1, splitL_at _ delB_ne, splitL_at _ (by
      intro c hc
      rcases List.mem_cons.1 hc with rfl | hc
      · decide
      · exact delB_ne c hc)]
    simp only [List.map_cons, List.cons_append] at ih ⊢
    injection ih with _ ih
    rw [ih]
theorem tsS_rep {d : Delivery} {r : List Delivery} : tsS (bz (repB d r)) = (d :: r).map delB := by
  unfold tsS
  rw [bz_list, splitL_rep, List.dropLast_concat]
  simp
theorem okPRI_rep {l : List Delivery} (h0 : l ≠ []) (hg : goodDels l = true) : okPRI (repT l) = true ∧ valAll (tsI (repT l)) = l := by
  cases l with
  | nil => exact absurd rfl h0
  | cons d r =>
    obtain ⟨a, b⟩ := all_del (goodDels_mem hg)
    have e : tsI (repT (d :: r)) = (d :: r).map delB := tsI_rep
    unfold okPRI
    rw [e, a, b, hg, decide_eq_true rfl]
    exact ⟨rfl, rfl⟩
theorem okPRS_rep {l : List Delivery} (h0 : l ≠ []) (hg : goodDels l = true) : okPRS (repT l) = true ∧ valAll (tsS (repT l)) = l := by
  cases l with
  | nil => exact absurd rfl h0
  | cons d r =>
    obtain ⟨a, b⟩ := all_del (goodDels_mem hg)
    have e : tsS (repT (d :: r)) = (d :: r).map delB := tsS_rep
    have hs := repT_size hg
    unfold okPRS
    rw [e, a, b, hg, decide_eq_true rfl, decide_eq_false (by omega), decide_eq_false (by simp)]
    exact ⟨rfl, rfl⟩
theorem repT_nil {l : List Delivery} (h : repT l = noRcv) : l = [] := by
  cases l with
  | nil => rfl
  | cons d r =>
    exfalso
    have h2 := congrArg (fun b : ByteArray => b.data.toList.head?) h
    have h3 : (bz (repB d r)).data.toList.head? = some 82 := by rw [bz_list]; rfl
    have h4 : (bz (repB d r)).data.toList.head? = some 84 := h2
    rw [h3] at h4
    exact absurd h4 (by decide)
theorem resPR_S (s : ByteArray) (hn : s ≠ noRcv) : (if okPRS s then (valAll (tsS s), true) else (([] : List Delivery), false)) = resPR s := by
  unfold resPR
  rw [decide_eq_false hn]
  cases h : okPRS s
  · cases h2 : okPRI s
    · rfl
    · unfold okPRI at h2
      simp only [Bool.and_eq_true, decide_eq_true_eq] at h2
      obtain ⟨⟨-, hg⟩, e⟩ := h2
      have h0 : valAll (tsI s) ≠ [] := fun h => by rw [h] at e; exact hn e.symm
      rw [← e, (okPRS_rep h0 hg).1] at h
      cases h
  · have h1 := h
    unfold okPRS at h1
    simp only [Bool.and_eq_true, decide_eq_true_eq] at h1
    obtain ⟨⟨-, hg⟩, e⟩ := h1
    have h0 : valAll (tsS s) ≠ [] := fun h => by rw [h] at e; exact hn e.symm
    have h2 := okPRI_rep h0 hg
    rw [e] at h2
    rw [h2.1, h2.2]; rfl
theorem resPR_no : resPR noRcv = ([], true) := by unfold resPR; rw [decide_eq_true rfl]; rfl
theorem resPR_back {l : List Delivery} (hg : goodDels l = true) : resPR (repT l) = (l, true) := by
  by_cases h0 : l = []
  · subst h0; exact resPR_no
  · unfold resPR
    rw [decide_eq_false fun e => h0 (repT_nil e), (okPRI_rep h0 hg).1, (okPRI_rep h0 hg).2]; rfl
end Go.Proofs.YtgogcgkocjpgoaaGreatDoor
/- Reports: checked, written; the program and the reference. -/
namespace Go.Proofs.YtgogcgkocjpgoaaGreatDoor
open Go.RowKit
set_option maxRecDepth 100000 in
theorem areDeliveries_f (l : List Delivery) (a : Option Addr) (c : Nat) (F : List Nat) (hl : l.length ≤ 1000000000) : Fn Tryz.prog 164 [.slice a l.length c] [.sl EDelivery (.slice a l.length c) l F] [] (fun (_ : Unit) => True) (fun _ => .bool (goodDels l)) (fun _ => []) := by
  refine enter Tryz.func164 rfl Tryz.ntmps164 fun w0 => ?_
  refine go ?_; intros
  refine c_loopR [0, 2, 5, 6] (fun k : Nat => [(7, .int .i64 k)]) (fun k => k ≤ l.length ∧ ∀ j, j < k → dOk l j = true) (fun k => l.length - k) 0 ⟨Nat.zero_le _, fun j hj => by omega⟩ fun k hk => ?_
  obtain ⟨hk, hp⟩ := hk
  refine go ?_; intros
  refine c_if rfl (fun h3 => ?_) (fun h3 => ?_)
  · have hk3 : k < l.length := by omega
    refine atDelivery (a := a) (xs := l) k ?_
    rintro hi b o e
    rw [e]
    refine goN ?_; intros
    cases g1 : goodDel l[k]
    · refine d_start [0, 1] [] ?_
      refine dt 0 ?_
      refine dO 1 (by kernel_rfl) (by rw [List.getElem?_toArray]; rfl) ?_
      apply o_call; rfl; kernel_rfl; exact evsE
      refine cf (IsValidDelivery_f l[k]) fun _ _ => ?_
      refine t_app ?_
      rw [g1]
      refine dk ?_
      refine dt 2 ?_
      refine dt 3 ?_
      refine ds 4 ?_
      refine ds 5 ?_
      refine ds 6 ?_
      refine dsu 7 ?_
      refine dsu 8 ?_
      refine dsu 9 ?_
      refine dsu 10 ?_
      refine dsu 11 ?_
      refine dsu 12 ?_
      refine dsu 13 ?_
      refine dsu 14 ?_
      refine dsu 15 ?_
      refine ds 16 ?_
      refine dt 17 ?_
      refine dd ?_
      refine go ?_; intros
      rw [goodDels_no hk3 (by rw [dOk_at hk3, g1]; rfl)]
      refine ret () trivial rfl
    by_cases k0 : k = 0
    · refine d_start [0, 1] [] ?_
      refine dt 0 ?_
      refine dO 1 (by kernel_rfl) (by rw [List.getElem?_toArray]; rfl) ?_
      apply o_call; rfl; kernel_rfl; exact evsE
      refine cf (IsValidDelivery_f l[k]) fun _ _ => ?_
      refine t_app ?_
      rw [g1]
      refine dk ?_
      refine dt 2 ?_
      refine dt 3 ?_
      refine dtg 4 ?_
      refine dtg 5 ?_
      rw [show decide ((0 : Int) < ((k : Nat) : Int)) = false by simp [k0]]
      refine dtg 6 ?_
      refine ds 7 ?_
      refine ds 8 ?_
      refine ds 9 ?_
      refine ds 10 ?_
      refine ds 11 ?_
      refine ds 12 ?_
      refine ds 13 ?_
      refine ds 14 ?_
      refine ds 15 ?_
      refine dtg 16 ?_
      refine dt 17 ?_
      refine dd ?_
      refine go ?_; intros
      refine n_lp (k + 1) ⟨hk3, fun j hj => ?_⟩ (by omega)
      by_cases hjk : j < k
      · exact hp j hjk
      · obtain rfl : j = k := by omega
        rw [dOk_at hk3, g1]
        rw [decide_eq_true k0]; rfl
    · refine atDelivery (a := some ⟨b, o, none⟩) (xs := l) (k - 1) ?_
      rintro hi2 _ _ e2
      cases e2
      refine d_start [0, 1, 2] [] ?_
      refine dt 0 ?_
      refine dO 1 (by kernel_rfl) (by rw [List.getElem?_toArray]; rfl) ?_
      apply o_call; rfl; kernel_rfl; exact evsE
      refine cf (IsValidDelivery_f l[k]) fun _ _ => ?_
      refine t_app ?_
      rw [g1]
      refine dk ?_
      refine dt 2 ?_
      refine dt 3 ?_
      refine dtg 4 ?_
      refine dtg 5 ?_
      rw [show decide ((0 : Int) < ((k : Nat) : Int)) = true by simp; omega]
      refine dtg 6 ?_
      refine dtg 7 ?_
      refine dtg 8 ?_
      refine dtg 9 ?_
      rw [show ((k : Nat) : Int) - 1 = ((k - 1 : Nat) : Int) by omega]
      refine dtg 10 ?_
      refine dtg 11 ?_
      refine dtg 12 ?_
      refine dtg 13 ?_
      refine dtg 14 ?_
      refine dtg 15 ?_
      refine dtg 16 ?_
      refine dt 17 ?_
      refine dd ?_
      refine go ?_; intros
      refine c_if rfl (fun h5 => ?_) (fun h5 => ?_)
      · rw [goodDels_no hk3 (by rw [dOk_at hk3, g1, decide_eq_false k0, decide_eq_true h5]; rfl)]
        refine go ?_; intros
        refine ret () trivial rfl
      · refine go ?_; intros
        refine n_lp (k + 1) ⟨hk3, fun j hj => ?_⟩ (by omega)
        by_cases hjk : j < k
        · exact hp j hjk
        · obtain rfl : j = k := by omega
          rw [dOk_at hk3, g1, decide_eq_false k0, decide_eq_false h5]; rfl
  · rw [goodDels_yes fun j hj => hp j (by omega)]
    refine go ?_; intros
    refine ret () trivial rfl
set_option maxRecDepth 100000 in
theorem l26Good_f (l : List Delivery) (a : Option Addr) (c : Nat) (F : List Nat) (hl : l.length ≤ 1000000000) : Fn Tryz.prog 166 [.slice a l.length c] [.sl EDelivery (.slice a l.length c) l F] [] (fun (_ : Unit) => True) (fun _ => .bool (goodDels l)) (fun _ => []) := by
  refine enter Tryz.func166 rfl Tryz.ntmps166 fun w0 => ?_
  refine go ?_; intros
  refine c_loopR [0, 2] (fun k : Nat => [(3, .int .i64 k)]) (fun k => k ≤ l.length ∧ ∀ j, j < k → dOk l j = true) (fun k => l.length - k) 0 ⟨Nat.zero_le _, fun j hj => by omega⟩ fun k hk => ?_
  obtain ⟨hk, hp⟩ := hk
  refine go ?_; intros
  refine c_if rfl (fun h3 => ?_) (fun h3 => ?_)
  · have hk3 : k < l.length := by omega
    refine atDelivery (a := a) (xs := l) k ?_
    rintro hi b o e
    rw [e]
    refine goN ?_; intros
    cases g1 : goodDel l[k]
    · refine d_start [0] [] ?_
      refine dt 0 ?_
      refine dt 1 ?_
      refine dt 2 ?_
      refine dt 3 ?_
      refine dO 4 (by kernel_rfl) (by rw [List.getElem?_toArray]; rfl) ?_
      apply o_call; rfl; kernel_rfl; exact evsE
      refine cf (l26One_f l[k]) fun _ _ => ?_
      refine t_app ?_
      rw [g1]
      refine dk ?_
      refine dt 5 ?_
      refine dt 6 ?_
      refine ds 7 ?_
      refine ds 8 ?_
      refine ds 9 ?_
      refine dsu 10 ?_
      refine dsu 11 ?_
      refine dsu 12 ?_
      refine dsu 13 ?_
      refine dsu 14 ?_
      refine dsu 15 ?_
      refine dsu 16 ?_
      refine dsu 17 ?_
      refine dsu 18 ?_
      refine dsu 19 ?_
      refine dsu 20 ?_
      refine dsu 21 ?_
      refine ds 22 ?_
      refine dt 23 ?_
      refine dd ?_
      refine go ?_; intros
      rw [goodDels_no hk3 (by rw [dOk_at hk3, g1]; rfl)]
      refine ret () trivial rfl
    by_cases k0 : k = 0
    · refine d_start [0] [] ?_
      refine dt 0 ?_
      refine dt 1 ?_
      refine dt 2 ?_
      refine dt 3 ?_
      refine dO 4 (by kernel_rfl) (by rw [List.getElem?_toArray]; rfl) ?_
      apply o_call; rfl; kernel_rfl; exact evsE
      refine cf (l26One_f l[k]) fun _ _ => ?_
      refine t_app ?_
      rw [g1]
      refine dk ?_
      refine dt 5 ?_
      refine dt 6 ?_
      refine dtg 7 ?_
      refine dtg 8 ?_
      rw [show decide ((0 : Int) < ((k : Nat) : Int)) = false by simp [k0]]
      refine dtg 9 ?_
      refine ds 10 ?_
      refine ds 11 ?_
      refine ds 12 ?_
      refine ds 13 ?_
      refine ds 14 ?_
      refine ds 15 ?_
      refine ds 16 ?_
      refine ds 17 ?_
      refine ds 18 ?_
      refine ds 19 ?_
      refine ds 20 ?_
      refine ds 21 ?_
      refine dtg 22 ?_
      refine dt 23 ?_
      refine dd ?_
      refine go ?_; intros
      refine n_lp (k + 1) ⟨hk3, fun j hj => ?_⟩ (by omega)
      by_cases hjk : j < k
      · exact hp j hjk
      · obtain rfl : j = k := by omega
        rw [dOk_at hk3, g1]
        rw [decide_eq_true k0]; rfl
    · refine atDelivery (a := some ⟨b, o, none⟩) (xs := l) (k - 1) ?_
      rintro hi2 _ _ e2
      cases e2
      refine d_start [0, 1] [] ?_
      refine dt 0 ?_
      refine dt 1 ?_
      refine dt 2 ?_
      refine dt 3 ?_
      refine dO 4 (by kernel_rfl) (by rw [List.getElem?_toArray]; rfl) ?_
      apply o_call; rfl; kernel_rfl; exact evsE
      refine cf (l26One_f l[k]) fun _ _ => ?_
      refine t_app ?_
      rw [g1]
      refine dk ?_
      refine dt 5 ?_
      refine dt 6 ?_
      refine dtg 7 ?_
      refine dtg 8 ?_
      rw [show decide ((0 : Int) < ((k : Nat) : Int)) = true by simp; omega]
      refine dtg 9 ?_
      refine dtg 10 ?_
      refine dtg 11 ?_
      refine dtg 12 ?_
      rw [show ((k : Nat) : Int) - 1 = ((k - 1 : Nat) : Int) by omega]
      refine dtg 13 ?_
      refine dtg 14 ?_
      refine dtg 15 ?_
      refine dtg 16 ?_
      refine dtg 17 ?_
      refine dtg 18 ?_
      refine dtg 19 ?_
      refine dtg 20 ?_
      refine dtg 21 ?_
      refine dtg 22 ?_
      refine dt 23 ?_
      refine dd ?_
      refine go ?_; intros
      refine c_if rfl (fun h5 => ?_) (fun h5 => ?_)
      · rw [goodDels_no hk3 (by rw [dOk_at hk3, g1, decide_eq_false k0, decide_eq_true h5]; rfl)]
        refine go ?_; intros
        refine ret () trivial rfl
      · refine go ?_; intros
        refine n_lp (k + 1) ⟨hk3, fun j hj => ?_⟩ (by omega)
        by_cases hjk : j < k
        · exact hp j hjk
        · obtain rfl : j = k := by omega
          rw [dOk_at hk3, g1, decide_eq_false k0, decide_eq_false h5]; rfl
  · rw [goodDels_yes fun j hj => hp j (by omega)]
    refine go ?_; intros
    refine ret () trivial rfl
theorem sl_cells {w : World} {a : Option Addr} {n cp : Nat} {xs : List ByteArray} {F : List Nat} (h : (Pc.sl EStr (.slice a n cp) xs F).P w) (h0 : 0 < xs.length) : ∃ b o, a = some ⟨b, o, none⟩ ∧ n = xs.length ∧ xs.length ≤ cp ∧ b < w.heap.size ∧ ∀ (j : Nat) x, xs[j]? = some x → w.cell? ⟨b, o + j, none⟩ = some (.string x) := by
  have hlt := h.2.lt
  obtain ⟨hz, a', cap, hv, hl, h | ⟨b, o, F', rfl, hne, rfl, hc⟩⟩ := h
  · rw [h.1] at h0; simp at h0
  · simp only [Value.slice.injEq] at hv
    obtain ⟨rfl, rfl, rfl⟩ := hv
    refine ⟨b, o, rfl, rfl, hl.1, hlt (by decide) b (by simp), fun j x hj => ?_⟩
    obtain ⟨hj1, rfl⟩ := List.getElem?_eq_some_iff.1 hj
    obtain ⟨cs, F1, ⟨rfl, -, -⟩, h2, -⟩ := hc.get j hj1
    have := h2 0 (by decide)
    simpa [EStr] using this
theorem join_c (xs : List ByteArray) (sep : ByteArray) (a : Option Addr) (cp : Nat) (F : List Nat) (w : World) (h : (Pc.sl EStr (.slice a xs.length cp) xs F).P w) (h0 : 0 < xs.length) (hN : xs.length ≤ 1000000000) (hlen : (Lib.join (xs.map (·.data.toList)) sep.data.toList).length ≤ 1000000000) :
    Calls Tryz.prog 165 #[.slice a xs.length cp, .string sep] w fun e w' => e = .returned (.string (bz (Lib.join (xs.map (·.data.toList)) sep.data.toList))) ∧ Below w.heap.size w w' := by
  obtain ⟨b, o, rfl, -, hcap, hb, hc⟩ := sl_cells h h0
  exact Tryz.strings_Join b o cp xs sep w hc hb (by omega) hcap (by omega)
theorem join_rep (d : Delivery) (r : List Delivery) : Lib.join (((d :: r).map delT).map (·.data.toList)) [32] = repB d r := by
  rw [List.map_map, List.map_cons, Lib.join_cons]
  unfold Lib.joinTail repB tailR
  rw [List.map_map]
  simp only [Function.comp_def, delT_list, List.cons_append, List.nil_append]
theorem repB_size {d : Delivery} {r : List Delivery} (hg : goodDels (d :: r) = true) : (repB d r).length ≤ 600 := by
  have := repT_size hg
  rw [show repT (d :: r) = bz (repB d r) from rfl, bz_size] at this
  exact this
def resRT (l : List Delivery) : ByteArray × Bool := if goodDels l then (repT l, true) else (⟨#[]⟩, false)
structure RtS where
  k : Nat
  a : Option Addr
  c : Nat
  F : List Nat
set_option maxRecDepth 100000 in
theorem ReportText_f (l : List Delivery) (a : Option Addr) (c : Nat) (F FT : List Nat) (hl : l.length ≤ 1000000000) : Fn Tryz.prog 77 [.slice a l.length c] [.sl EDelivery (.slice a l.length c) l F, EnvP FT] [] (fun (_ : Unit) => True) (fun _ => .tuple #[.string (resRT l).1, .bool (resRT l).2]) (fun _ => []) := by
  refine enter Tryz.func77 rfl Tryz.ntmps77 fun w0 => ?_
  refine go ?_; intros
  refine cf (areDeliveries_f l a c F hl) fun _ _ => ?_
  refine t_app ?_
  cases g : goodDels l
  · rw [show resRT l = (⟨#[]⟩, false) by unfold resRT; rw [g]; rfl]
    refine go ?_; intros
    refine ret () trivial rfl
  rw [show resRT l = (repT l, true) by unfold resRT; rw [g]; rfl]
  have h7 := goodDels_len g
  have hm := goodDels_mem g
  refine go ?_; intros
  refine c_if rfl (fun h0 => ?_) (fun h0 => ?_)
  · have e : l = [] := List.length_eq_zero_iff.1 (by omega)
    rw [show repT l = noRcv by rw [e]; rfl]
    refine go ?_; intros
    refine ret () trivial rfl
  refine go ?_; intros
  refine t_nilow EStr 9 ?_
  refine c_loopS [2, 3, 13, 14] (fun z : RtS => [(4, .slice z.a ((l.take z.k).map delT).length z.c), (15, .int .i64 (z.k : Nat))]) (fun z => [.ow EStr 9 (.slice z.a ((l.take z.k).map delT).length z.c) ((l.take z.k).map delT) z.F]) (fun z => z.k ≤ l.length) (fun z => l.length - z.k) ⟨0, none, 0, []⟩ (Nat.zero_le _) fun z hz => ?_
  have hml : ((l.take z.k).map delT).length = z.k := by rw [List.length_map, List.length_take]; omega
  refine go ?_; intros
  refine c_if rfl (fun h1 => ?_) (fun h1 => ?_)
  · have hk : z.k < l.length := by omega
    have hg := hm _ (List.getElem_mem hk)
    have hx : (delT l[z.k]).size ≤ maxLen := by have := delT_size hg; unfold maxLen; omega
    refine atDelivery (a := a) (xs := l) z.k ?_
    rintro hi b o e
    rw [e]
    refine go ?_; intros
    refine cb (fun w st => (deliveryText_f l[z.k] FT hg).val w (hol1 (st.get (p := EnvP FT) (by simp)))) ?_
    refine goN ?_; intros
    apply wO
    refine ap1 (rep_s hx) one_EStr fun a9 c9 F9 => ?_
    refine go ?_; intros
    have e9 : (l.take z.k).map delT ++ [delT l[z.k]] = (l.take (z.k + 1)).map delT := by rw [List.take_succ_eq_append_getElem hk, List.map_append]; rfl
    rw [e9]
    refine n_lp ⟨z.k + 1, a9, c9, F9⟩ (by show z.k + 1 ≤ l.length; omega) (by show l.length - (z.k + 1) < l.length - z.k; omega)
  · have hk : z.k = l.length := by omega
    have e9 : (l.take z.k).map delT = l.map delT := by rw [hk, List.take_length]
    rw [e9]
    refine t_read (E := EStr) (xs := l.map delT) fun F8 => ?_
    obtain ⟨d, r, rfl⟩ : ∃ d r, l = d :: r := by
      cases l with
      | nil => exact absurd rfl h0
      | cons d r => exact ⟨d, r, rfl⟩
    have hj := join_rep d r
    have hjl := repB_size g
    refine go ?_; intros
    refine cb (fun w st => join_c ((d :: r).map delT) ⟨#[32]⟩ z.a z.c F8 w (st.get (p := .sl EStr (.slice z.a ((d :: r).map delT).length z.c) ((d :: r).map delT) F8) (by simp)) (by simp) (by rw [List.length_map]; omega) (by rw [show (⟨#[32]⟩ : ByteArray).data.toList = [32] from rfl, hj]; omega)) ?_
    rw [show (⟨#[32]⟩ : ByteArray).data.toList = [32] from rfl, hj]
    refine go ?_; intros
    refine ret () trivial rfl
end Go.Proofs.YtgogcgkocjpgoaaGreatDoor
/- Reports read out of texts: the program and the reference. -/
namespace Go.Proofs.YtgogcgkocjpgoaaGreatDoor
open Go.RowKit
theorem tailR_take (r : List Delivery) : ∀ k, (tailR (r.take k)).length ≤ (tailR r).length := by
  induction r with
  | nil => intro k; simp
  | cons d r ih =>
    intro k
    cases k with
    | zero => exact Nat.zero_le _
    | succ k =>
      have := ih k
      unfold tailR at this ⊢
      simp only [List.take_succ_cons, List.map_cons, List.flatten_cons, List.length_append]
      omega
theorem repB_succ {d : Delivery} {r : List Delivery} {k : Nat} (h : k < r.length) : bz (repB d (r.take k)) ++ ⟨#[32]⟩ ++ delT r[k] = bz (repB d (r.take (k + 1))) := by
  have e : repB d (r.take (k + 1)) = repB d (r.take k) ++ (32 :: (delB r[k] ++ [46])) := by
    unfold repB tailR
    rw [List.take_succ_eq_append_getElem h]
    simp only [List.map_append, List.flatten_append, List.map_cons, List.map_nil, List.flatten_cons, List.flatten_nil, List.append_nil, List.append_assoc]
  rw [e]
  unfold delT
  apply ByteArray.ext; simp [bz, ByteArray.data_append]
theorem l26Rep0_f (a : Option Addr) (c : Nat) : Fn Tryz.prog 167 [.slice a 0 c] [] [] (fun (_ : Unit) => True) (fun _ => .string noRcv) (fun _ => []) := by
  refine enter Tryz.func167 rfl Tryz.ntmps167 fun w0 => ?_
  refine go ?_; intros
  refine ret () trivial rfl
set_option maxRecDepth 100000 in
theorem l26Report_f (d : Delivery) (r : List Delivery) (a : Option Addr) (c : Nat) (F FT : List Nat) (hg : goodDels (d :: r) = true) : Fn Tryz.prog 167 [.slice a (d :: r).length c] [.sl EDelivery (.slice a (d :: r).length c) (d :: r) F, EnvP FT] [] (fun (_ : Unit) => True) (fun _ => .string (repT (d :: r))) (fun _ => []) := by
  have h7 := goodDels_len hg
  have hm := goodDels_mem hg
  have hz := repB_size hg
  have z1 : (⟨#[32]⟩ : ByteArray).size = 1 := rfl
  refine enter Tryz.func167 rfl Tryz.ntmps167 fun w0 => ?_
  refine atDelivery (a := a) (xs := d :: r) 0 (hi := by simp) ?_
  rintro hi b o e
  rw [e]
  refine go ?_; intros
  refine cb (fun w st => (l26Text_f d FT (hm d (by simp))).val w (hol1 (st.get (p := EnvP FT) (by simp)))) ?_
  rw [show delT d = bz (repB d (r.take 0)) by unfold delT repB; simp [tailR]]
  refine go ?_; intros
  refine c_loopR [0, 2] (fun k : Nat => [(3, .string (bz (repB d (r.take k)))), (4, .int .i64 ((k + 1 : Nat) : Int))]) (fun k => k ≤ r.length) (fun k => r.length - k) 0 (Nat.zero_le _) fun k hk => ?_
  have hs : (bz (repB d (r.take k))).size ≤ 600 := by
    have := tailR_take r k
    rw [bz_size]; unfold repB at hz ⊢; simp only [List.length_append] at hz ⊢; omega
  refine go ?_; intros
  refine c_if rfl (fun h1 => ?_) (fun h1 => ?_)
  · have hk1 : k < r.length := by simp only [List.length_cons] at h1; omega
    have hx := delT_size (hm r[k] (by simp))
    have z2 := ByteArray.size_append (a := bz (repB d (r.take k))) (b := ⟨#[32]⟩)
    refine atDelivery (a := some ⟨b, o, none⟩) (xs := d :: r) (k + 1) (hi := by simp; omega) ?_
    rintro hi2 _ _ e2
    cases e2
    refine go ?_; intros
    refine cb (fun w st => (l26Text_f r[k] FT (hm r[k] (by simp))).val w (hol1 (st.get (p := EnvP FT) (by simp)))) ?_
    refine go ?_; intros
    rw [repB_succ hk1]
    refine n_lp (k + 1) hk1 (by omega)
  · have hk1 : k = r.length := by simp only [List.length_cons] at h1; omega
    rw [show r.take k = r by rw [hk1, List.take_length]]
    refine go ?_; intros
    refine ret () trivial rfl
theorem okAll_no {ts : List Bs} {k : Nat} (h : k < ts.length) (hp : (prD ts[k]).2 = false) : okAll ts = false := by
  unfold okAll
  rw [List.all_eq_false]
  exact ⟨ts[k], List.getElem_mem h, by simp [hp]⟩
theorem okAll_take {ts : List Bs} {k : Nat} (h : k < ts.length) (hp : (prD ts[k]).2 = true) (ha : okAll (ts.take k) = true) : okAll (ts.take (k + 1)) = true := by
  unfold okAll at *
  rw [List.take_succ_eq_append_getElem h, List.all_append, ha]
  simp [hp]
theorem valAll_take {ts : List Bs} {k : Nat} (h : k < ts.length) : valAll (ts.take (k + 1)) = valAll (ts.take k) ++ [(prD ts[k]).1] := by
  unfold valAll
  rw [List.take_succ_eq_append_getElem h, List.map_append]; rfl
theorem resPR_at {s : ByteArray} (hn : s ≠ noRcv) : resPR s = if okPRI s then (valAll (tsI s), true) else ([], false) := by
  unfold resPR; rw [decide_eq_false hn]; rfl
theorem tsI_len (s : ByteArray) : (tsI s).length ≤ s.size + 1 := by
  have hu := unDot_len s.data.toList
  rw [size_list] at hu
  have hcb := Lib.countB_le ⟨#[46, 32]⟩ (by decide) (bz (unDot s.data.toList)).size (bz (unDot s.data.toList)) (Nat.le_refl _)
  have hlen := Lib.splitB_all ⟨#[46, 32]⟩ (by decide) 0 _ (bz (unDot s.data.toList)) rfl
  rw [bz_size] at hcb
  unfold tsI
  rw [List.length_map, hlen]; omega
theorem tsI_bz (s : ByteArray) : Lib.splitB ⟨#[46, 32]⟩ 0 (Lib.countB (bz (unDot s.data.toList)) ⟨#[46, 32]⟩) (bz (unDot s.data.toList)) = (tsI s).map bz := by
  unfold tsI
  rw [List.map_map]
  have : ∀ t ∈ Lib.splitB ⟨#[46, 32]⟩ 0 (Lib.countB (bz (unDot s.data.toList)) ⟨#[46, 32]⟩) (bz (unDot s.data.toList)), (bz ∘ fun t => t.data.toList) t = id t := fun t _ => bz_of t
  rw [List.map_congr_left this, List.map_id]
theorem tsI_small (s : ByteArray) : ∀ t ∈ tsI s, t.length ≤ s.size := by
  intro t ht
  have hu := unDot_len s.data.toList
  rw [size_list] at hu
  unfold tsI at ht
  obtain ⟨u, h, rfl⟩ := List.mem_map.1 ht
  have := splitB_small ⟨#[46, 32]⟩ (unDot s.data.toList).length _ (bz (unDot s.data.toList)) (by rw [bz_size]; exact Nat.le_refl _) u h
  rw [size_list]; omega
structure PrS where
  k : Nat
  a : Option Addr
  c : Nat
  F : List Nat
theorem dot_app (t : Bs) : bz t ++ (⟨#[46]⟩ : ByteArray) = bz (t ++ [46]) := by apply ByteArray.ext; simp [bz, ByteArray.data_append]
set_option maxRecDepth 100000 in
theorem ParseReport_f (s : ByteArray) (FT : List Nat) (hs : s.size ≤ 1048576) : Fn Tryz.prog 79 [.string s] [EnvP FT] [] (fun (_ : PrS) => True) (fun z => .tuple #[.slice z.a (resPR s).1.length z.c, .bool (resPR s).2]) (fun z => [.ow EDelivery 98 (.slice z.a (resPR s).1.length z.c) (resPR s).1 z.F]) := by
  have z1 : (⟨#[46]⟩ : ByteArray).size = 1 := rfl
  have hu := unDot_len s.data.toList
  rw [size_list] at hu
  have htl := tsI_len s
  refine enter Tryz.func79 rfl Tryz.ntmps79 fun w0 => ?_
  refine go ?_; intros
  refine c_if rfl (fun h => ?_) (fun h => ?_)
  · rw [show resPR s = ([], true) by rw [show s = noRcv from h]; exact resPR_no]
    refine t_nilow EDelivery 98 ?_
    refine go ?_; intros
    refine ret ⟨0, none, 0, []⟩ trivial rfl
  have hq := resPR_at (show s ≠ noRcv from h)
  refine go ?_; intros
  refine ce (fun w _ => (Tryz.strings_TrimSuffix s ⟨#[46]⟩ w (by omega)).mono fun _ _ ⟨h1, h2⟩ => ⟨h1, h2.symm⟩) ?_
  rw [show (⟨(Lib.trimSuffix s.data.toList (⟨#[46]⟩ : ByteArray).data.toList).toArray⟩ : ByteArray) = bz (unDot s.data.toList) from rfl]
  refine go ?_; intros
  refine cn (fun w st => split_c (bz (unDot s.data.toList)) ⟨#[46, 32]⟩ (by rw [bz_size]; omega) (by decide) FT w (st.get (p := EnvP FT) (by simp))) fun a0 c0 F0 => ?_
  rw [tsI_bz]
  refine t_read (E := EStr) fun F1 => ?_
  have hml : ((tsI s).map bz).length = (tsI s).length := List.length_map ..
  refine go ?_; intros
  refine t_nilow EDelivery 98 ?_
  refine c_loopS [0, 2, 3, 15, 16] (fun z : PrS => [(4, .slice z.a (valAll ((tsI s).take z.k)).length z.c), (17, .int .i64 (z.k : Nat))]) (fun z => [.ow EDelivery 98 (.slice z.a (valAll ((tsI s).take z.k)).length z.c) (valAll ((tsI s).take z.k)) z.F]) (fun z => z.k ≤ (tsI s).length ∧ okAll ((tsI s).take z.k) = true) (fun z => (tsI s).length - z.k) ⟨0, none, 0, []⟩ ⟨Nat.zero_le _, rfl⟩ fun z hz => ?_
  obtain ⟨z2, z3⟩ := hz
  have hvl : (valAll ((tsI s).take z.k)).length = z.k := by unfold valAll; rw [List.length_map, List.length_take]; omega
  refine go ?_; intros
  refine c_if rfl (fun h1 => ?_) (fun h1 => ?_)
  · have hk : z.k < (tsI s).length := by omega
    have hts := tsI_small s _ (List.getElem_mem hk)
    have hbz : (bz (tsI s)[z.k]).size ≤ 1048576 := by rw [bz_size]; omega
    refine at_str (a := a0) (xs := (tsI s).map bz) z.k ?_
    rintro hi b o e s1
    rw [e]
    rw [List.getElem_map]
    refine go ?_; intros
    rw [dot_app]
    refine cb (fun w st => (ParseDelivery_f (bz ((tsI s)[z.k] ++ [46])) FT (by rw [bz_size, List.length_append]; simp only [List.length_cons, List.length_nil]; omega)).val w (hol1 (st.get (p := EnvP FT) (by simp)))) ?_
    rw [show resPD (bz ((tsI s)[z.k] ++ [46])) = prD (tsI s)[z.k] from rfl]
    cases g : (prD (tsI s)[z.k]).2
    · rw [show resPR s = ([], false) by rw [hq]; unfold okPRI; rw [okAll_no hk g]; rfl]
      refine t_nilow EDelivery 98 ?_
      refine go ?_; intros
      refine ret ⟨0, none, 0, []⟩ trivial rfl
    refine goN ?_; intros
    apply wO
    refine ap1 (flatDelivery (prD (tsI s)[z.k]).1) one_EDelivery fun a9 c9 F9 => ?_
    refine go ?_; intros
    rw [← valAll_take hk]
    refine n_lp ⟨z.k + 1, a9, c9, F9⟩ ⟨by show z.k + 1 ≤ (tsI s).length; omega, okAll_take hk g z3⟩ (by show (tsI s).length - (z.k + 1) < (tsI s).length - z.k; omega)
  · have hk : (tsI s).take z.k = tsI s := List.take_of_length_le (by omega)
    rw [hk] at z3 hvl ⊢
    refine go ?_; intros
    refine cfr (fun w st => by obtain ⟨Fq, -, hq9⟩ := (st.get (p := .ow EDelivery 98 (.slice z.a (valAll (tsI s)).length z.c) (valAll (tsI s)) z.F) (by simp)).2.read; exact ⟨[.sl EDelivery (.slice z.a (valAll (tsI s)).length z.c) (valAll (tsI s)) Fq, EnvP FT], hol2 ⟨by decide, hq9⟩ (st.get (p := EnvP FT) (by simp)), rfl, ReportText_f (valAll (tsI s)) z.a z.c Fq FT (by omega)⟩) (fun _ _ => ?_)
    refine t_app ?_
    cases g : goodDels (valAll (tsI s))
    · rw [show resPR s = ([], false) by rw [hq]; unfold okPRI; rw [g, z3]; rfl]
      rw [show resRT (valAll (tsI s)) = (⟨#[]⟩, false) by unfold resRT; rw [g]; rfl]
      refine t_nilow EDelivery 98 ?_
      refine go ?_; intros
      refine ret ⟨0, none, 0, []⟩ trivial rfl
    rw [show resRT (valAll (tsI s)) = (repT (valAll (tsI s)), true) by unfold resRT; rw [g]; rfl]
    by_cases ht : repT (valAll (tsI s)) = s
    · rw [show resPR s = (valAll (tsI s), true) by rw [hq]; unfold okPRI; rw [g, z3, decide_eq_true ht]; rfl, ht]
      refine go ?_; intros
      rw [show decide (¬ s = s) = false by simp]
      refine go ?_; intros
      refine ret z trivial rfl
    · rw [show resPR s = ([], false) by rw [hq]; unfold okPRI; rw [g, z3, decide_eq_false ht]; rfl]
      refine go ?_; intros
      rw [show decide (¬ repT (valAll (tsI s)) = s) = true by simpa using ht]
      refine t_nilow EDelivery 98 ?_
      refine go ?_; intros
      refine ret ⟨0, none, 0, []⟩ trivial rfl
end Go.Proofs.YtgogcgkocjpgoaaGreatDoor
/- Reports read out of texts: the reference. -/
namespace Go.Proofs.YtgogcgkocjpgoaaGreatDoor
open Go.RowKit
theorem tsS_len (s : ByteArray) : (tsS s).length = (splitL 46 s.data.toList).length - 1 := by
  unfold tsS
  simp only [List.length_append, List.length_take, List.length_map, List.length_drop, List.length_dropLast]; omega
theorem tsS_zero {s : ByteArray} (h : 0 < (tsS s).length) (h2 : 0 < (splitL 46 s.data.toList).length) : (tsS s)[0] = (splitL 46 s.data.toList)[0] := by
  have hl := tsS_len s
  have e : (tsS s)[0]? = (splitL 46 s.data.toList)[0]? := by
    unfold tsS
    rw [List.getElem?_append_left (by simp only [List.length_take, List.length_dropLast]; omega), List.getElem?_take_of_lt (by omega), List.getElem?_dropLast, if_pos (by omega)]
  rw [List.getElem?_eq_getElem h, List.getElem?_eq_getElem h2] at e
  exact Option.some.inj e
theorem tsS_succ {s : ByteArray} {k : Nat} (h : k + 1 < (tsS s).length) (h2 : k + 1 < (splitL 46 s.data.toList).length) : (tsS s)[k + 1] = ((splitL 46 s.data.toList)[k + 1]).drop 1 := by
  have hl := tsS_len s
  have e : (tsS s)[k + 1]? = ((splitL 46 s.data.toList)[k + 1]?).map (List.drop 1) := by
    unfold tsS
    rw [List.getElem?_append_right (by simp only [List.length_take, List.length_dropLast]; omega), List.getElem?_map, List.getElem?_drop, List.getElem?_dropLast]
    have h1 : (List.take 1 (splitL 46 s.data.toList).dropLast).length = 1 := by simp only [List.length_take, List.length_dropLast]; omega
    rw [h1, show 1 + (k + 1 - 1) = k + 1 by omega, if_pos (by omega)]
  rw [List.getElem?_eq_getElem h, List.getElem?_eq_getElem h2] at e
  exact Option.some.inj e
theorem parts_small (s : ByteArray) : ∀ t ∈ splitL 46 s.data.toList, t.length ≤ s.size := by
  intro t ht
  have h : bz t ∈ (splitL 46 s.data.toList).map bz := List.mem_map.2 ⟨t, ht, rfl⟩
  rw [← splitS_L] at h
  have := splitB_small ⟨#[46]⟩ s.size _ s (Nat.le_refl _) (bz t) h
  rw [bz_size] at this; exact this
theorem parts_len (s : ByteArray) : (splitL 46 s.data.toList).length ≤ s.size + 1 := by
  have hcb := Lib.countB_le ⟨#[46]⟩ (by decide) s.size s (Nat.le_refl _)
  have hlen := Lib.splitB_all ⟨#[46]⟩ (by decide) 0 _ s rfl
  rw [splitS_L, List.length_map] at hlen
  omega
theorem tsS_small (s : ByteArray) : ∀ t ∈ tsS s, t.length ≤ s.size := by
  intro t ht
  unfold tsS at ht
  rcases List.mem_append.1 ht with h | h
  · exact parts_small s t (List.dropLast_subset _ (List.mem_of_mem_take h))
  · obtain ⟨u, hu, rfl⟩ := List.mem_map.1 h
    have := parts_small s u (List.dropLast_subset _ (List.mem_of_mem_drop hu))
    simp only [List.length_drop]; omega
set_option maxRecDepth 100000 in
theorem specParseReport_f (s : ByteArray) (FT : List Nat) (hs : s.size ≤ 1048576) : Fn Tryz.prog 82 [.string s] [EnvP FT] [] (fun (_ : PrS) => True) (fun z => .tuple #[.slice z.a (resPR s).1.length z.c, .bool (resPR s).2]) (fun z => [.sl EDelivery (.slice z.a (resPR s).1.length z.c) (resPR s).1 z.F]) := by
  have z1 : (⟨#[46]⟩ : ByteArray).size = 1 := rfl
  have hpl := parts_len s
  have htl := tsS_len s
  have hml : ((splitL 46 s.data.toList).map bz).length = (splitL 46 s.data.toList).length := List.length_map ..
  have hp1 : 1 ≤ (splitL 46 s.data.toList).length := by
    have := splitL_ne 46 s.data.toList
    exact List.length_pos_iff.2 this
  refine enter Tryz.func82 rfl Tryz.ntmps82 fun w0 => ?_
  refine goN ?_; intros
  refine t_emp EDelivery ?_
  refine go ?_; intros
  refine cf (l26Rep0_f _ _) fun _ _ => ?_
  refine t_app ?_
  refine go ?_; intros
  refine c_if rfl (fun h => ?_) (fun h => ?_)
  · rw [show resPR s = ([], true) by rw [show s = noRcv from h]; exact resPR_no]
    refine go ?_; intros
    refine t_read (E := EDelivery) (xs := []) fun F9 => ?_
    refine ret ⟨0, _, _, _⟩ trivial rfl
  have h : s ≠ noRcv := h
  refine go ?_; intros
  refine c_if rfl (fun h6 => ?_) (fun h6 => ?_)
  · rw [show resPR s = ([], false) by rw [← resPR_S s h]; unfold okPRS; rw [decide_eq_true (by omega)]; simp]
    refine go ?_; intros
    refine t_read (E := EDelivery) (xs := []) fun F9 => ?_
    refine ret ⟨0, _, _, _⟩ trivial rfl
  refine go ?_; intros
  refine cf (l1Split_f s 46 (by omega)) fun q _ => ?_
  refine t_app ?_
  refine t_read (E := EStr) (xs := (splitL 46 s.data.toList).map bz) fun F1 => ?_
  refine go ?_; intros
  refine c_loopS [0, 2, 3, 5] (fun z : PrS => [(4, .slice z.a (valAll ((tsS s).take z.k)).length z.c), (6, .int .i64 (z.k : Nat))]) (fun z => [.ow EDelivery 98 (.slice z.a (valAll ((tsS s).take z.k)).length z.c) (valAll ((tsS s).take z.k)) z.F]) (fun z => z.k ≤ (tsS s).length ∧ okAll ((tsS s).take z.k) = true) (fun z => (tsS s).length - z.k) ⟨0, _, _, _⟩ ⟨Nat.zero_le _, rfl⟩ fun z hz => ?_
  obtain ⟨z2, z3⟩ := hz
  have hvl : (valAll ((tsS s).take z.k)).length = z.k := by unfold valAll; rw [List.length_map, List.length_take]; omega
  refine go ?_; intros
  refine c_if rfl (fun h1 => ?_) (fun h1 => ?_)
  · have hk : z.k < (tsS s).length := by omega
    have hkp : z.k < (splitL 46 s.data.toList).length := by omega
    have hts := tsS_small s _ (List.getElem_mem hk)
    have hbz : (bz (tsS s)[z.k]).size ≤ 1048576 := by rw [bz_size]; omega
    refine at_str (a := q.1) (xs := (splitL 46 s.data.toList).map bz) z.k ?_
    rintro hi b o e s1
    rw [e]
    rw [List.getElem_map]
    refine go ?_; intros
    refine wg_if rfl rfl (fun h7 => ?_) (fun h7 => ?_)
    · obtain ⟨k', hk'⟩ : ∃ k', z.k = k' + 1 := ⟨z.k - 1, by omega⟩
      have et : (tsS s)[z.k] = ((splitL 46 s.data.toList)[z.k]).drop 1 := by simp only [hk']; exact tsS_succ (by omega) (by omega)
      refine go ?_; intros
      refine c_if rfl (fun h8 => ?_) (fun h8 => ?_)
      · refine goN ?_; intros
        apply wO; apply oc; rfl; exact yd_sll rfl rfl (by omega) (by omega)
        rw [show (bz (splitL 46 s.data.toList)[z.k]).extract (1 : Int).toNat (bz (splitL 46 s.data.toList)[z.k]).size = bz (tsS s)[z.k] by rw [et]; have := ext_end (bz (splitL 46 s.data.toList)[z.k]) 1; rw [bz_list] at this; exact this]
        refine go ?_; intros
        rw [dot_app]
        refine cb (fun w st => (l26Parse_f (bz ((tsS s)[z.k] ++ [46])) FT (by rw [bz_size, List.length_append]; simp only [List.length_cons, List.length_nil]; omega)).val w (hol1 (st.get (p := EnvP FT) (by simp)))) ?_
        rw [show resPD (bz ((tsS s)[z.k] ++ [46])) = prD (tsS s)[z.k] from rfl]
        cases g : (prD (tsS s)[z.k]).2
        · rw [show resPR s = ([], false) by rw [← resPR_S s h]; unfold okPRS; rw [okAll_no hk g]; simp]
          refine goN ?_; intros
          refine t_emp EDelivery ?_
          refine t_read (E := EDelivery) (xs := []) fun F9 => ?_
          refine ret ⟨0, _, _, _⟩ trivial rfl
        refine goN ?_; intros
        apply wO
        refine ap1 (flatDelivery (prD (tsS s)[z.k]).1) one_EDelivery fun a9 c9 F9 => ?_
        refine go ?_; intros
        rw [← valAll_take hk]
        refine n_lp ⟨z.k + 1, a9, c9, F9⟩ ⟨by show z.k + 1 ≤ (tsS s).length; omega, okAll_take hk g z3⟩ (by show (tsS s).length - (z.k + 1) < (tsS s).length - z.k; omega)
      · have en : (splitL 46 s.data.toList)[z.k] = [] := by
          have : (bz (splitL 46 s.data.toList)[z.k]).size = 0 := by omega
          rw [bz_size] at this; exact List.length_eq_zero_iff.1 this
        rw [show bz (splitL 46 s.data.toList)[z.k] = bz (tsS s)[z.k] by rw [et, en]; rfl]
        refine go ?_; intros
        rw [dot_app]
        refine cb (fun w st => (l26Parse_f (bz ((tsS s)[z.k] ++ [46])) FT (by rw [bz_size, List.length_append]; simp only [List.length_cons, List.length_nil]; omega)).val w (hol1 (st.get (p := EnvP FT) (by simp)))) ?_
        rw [show resPD (bz ((tsS s)[z.k] ++ [46])) = prD (tsS s)[z.k] from rfl]
        cases g : (prD (tsS s)[z.k]).2
        · rw [show resPR s = ([], false) by rw [← resPR_S s h]; unfold okPRS; rw [okAll_no hk g]; simp]
          refine goN ?_; intros
          refine t_emp EDelivery ?_
          refine t_read (E := EDelivery) (xs := []) fun F9 => ?_
          refine ret ⟨0, _, _, _⟩ trivial rfl
        refine goN ?_; intros
        apply wO
        refine ap1 (flatDelivery (prD (tsS s)[z.k]).1) one_EDelivery fun a9 c9 F9 => ?_
        refine go ?_; intros
        rw [← valAll_take hk]
        refine n_lp ⟨z.k + 1, a9, c9, F9⟩ ⟨by show z.k + 1 ≤ (tsS s).length; omega, okAll_take hk g z3⟩ (by show (tsS s).length - (z.k + 1) < (tsS s).length - z.k; omega)
    · have hz0 : z.k = 0 := by omega
      have et : (tsS s)[z.k] = (splitL 46 s.data.toList)[z.k] := by simp only [hz0]; exact tsS_zero (by omega) (by omega)
      rw [← et]
      refine go ?_; intros
      rw [dot_app]
      refine cb (fun w st => (l26Parse_f (bz ((tsS s)[z.k] ++ [46])) FT (by rw [bz_size, List.length_append]; simp only [List.length_cons, List.length_nil]; omega)).val w (hol1 (st.get (p := EnvP FT) (by simp)))) ?_
      rw [show resPD (bz ((tsS s)[z.k] ++ [46])) = prD (tsS s)[z.k] from rfl]
      cases g : (prD (tsS s)[z.k]).2
      · rw [show resPR s = ([], false) by rw [← resPR_S s h]; unfold okPRS; rw [okAll_no hk g]; simp]
        refine goN ?_; intros
        refine t_emp EDelivery ?_
        refine t_read (E := EDelivery) (xs := []) fun F9 => ?_
        refine ret ⟨0, _, _, _⟩ trivial rfl
      refine goN ?_; intros
      apply wO
      refine ap1 (flatDelivery (prD (tsS s)[z.k]).1) one_EDelivery fun a9 c9 F9 => ?_
      refine go ?_; intros
      rw [← valAll_take hk]
      refine n_lp ⟨z.k + 1, a9, c9, F9⟩ ⟨by show z.k + 1 ≤ (tsS s).length; omega, okAll_take hk g z3⟩ (by show (tsS s).length - (z.k + 1) < (tsS s).length - z.k; omega)
  · have hk : (tsS s).take z.k = tsS s := List.take_of_length_le (by omega)
    rw [hk] at z3 hvl ⊢
    refine t_read (E := EDelivery) (xs := valAll (tsS s)) fun F8 => ?_
    refine go ?_; intros
    refine wg_if rfl rfl (fun h9 => ?_) (fun h9 => ?_)
    · rw [show resPR s = ([], false) by
        rw [← resPR_S s h]; unfold okPRS
        have : tsS s = [] := List.length_eq_zero_iff.1 (by omega)
        rw [decide_eq_true this]; simp]
      refine goN ?_; intros
      refine t_emp EDelivery ?_
      refine t_read (E := EDelivery) (xs := []) fun F9 => ?_
      refine ret ⟨0, _, _, _⟩ trivial rfl
    refine go ?_; intros
    refine cf (l26Good_f (valAll (tsS s)) z.a z.c F8 (by omega)) fun _ _ => ?_
    refine t_app ?_
    have hne : tsS s ≠ [] := fun e => by
      rw [show valAll (tsS s) = [] by rw [e]; rfl] at h9
      exact h9 rfl
    cases g : goodDels (valAll (tsS s))
    · rw [show resPR s = ([], false) by rw [← resPR_S s h]; unfold okPRS; rw [g]; simp]
      refine goN ?_; intros
      refine t_emp EDelivery ?_
      refine t_read (E := EDelivery) (xs := []) fun F9 => ?_
      refine ret ⟨0, _, _, _⟩ trivial rfl
    obtain ⟨d, r, hdr⟩ : ∃ d r, valAll (tsS s) = d :: r := by
      cases hv : valAll (tsS s) with
      | nil => rw [hv] at hvl h9; exact absurd rfl h9
      | cons d r => exact ⟨d, r, rfl⟩
    have hq := resPR_S s h
    unfold okPRS at hq
    rw [decide_eq_false (show ¬ 640 < s.size by omega), z3, g, decide_eq_false hne] at hq
    rw [hdr] at g hq ⊢
    refine go ?_; intros
    refine cf (l26Report_f d r z.a z.c F8 FT g) fun _ _ => ?_
    refine t_app ?_
    by_cases ht : repT (d :: r) = s
    · rw [← hq, decide_eq_true ht, ht]
      refine go ?_; intros
      rw [show decide (¬ s = s) = false by simp]
      refine go ?_; intros
      refine ret ⟨0, z.a, z.c, F8⟩ trivial rfl
    · rw [← hq, decide_eq_false ht]
      refine go ?_; intros
      rw [show decide (¬ repT (d :: r) = s) = true by simpa using ht]
      refine goN ?_; intros
      refine t_emp EDelivery ?_
      refine t_read (E := EDelivery) (xs := []) fun F9 => ?_
      refine ret ⟨0, _, _, _⟩ trivial rfl
end Go.Proofs.YtgogcgkocjpgoaaGreatDoor
/- Regions that draw: pure operations that may stand behind a store. -/
namespace Go.Proofs.YtgogcgkocjpgoaaGreatDoor
open Go.RowKit
section
variable {c : Cx} {fr : Fr} {H H0 : List Pc} {k : List It} {X : List Nat} {ops : Array Oper} {f : Nat} {listed : Array Bool} {d : Nat} {o : Op} {ty : TypeId} {pos : String} {aft : Array Edge} {v : Value}
end
end Go.Proofs.YtgogcgkocjpgoaaGreatDoor
/- The lesser of two numbers. -/
namespace Go.Proofs.YtgogcgkocjpgoaaGreatDoor
open Go.RowKit
theorem leastH_f (a b : Int) : Fn Tryz.prog 233 [.int .i64 a, .int .i64 b] [] [] (fun (_ : Unit) => True) (fun _ => .int .i64 (min a b)) (fun _ => []) := by
  refine enter Tryz.func233 rfl Tryz.ntmps233 fun w0 => ?_
  refine go ?_; intros
  refine c_if rfl (fun h => ?_) (fun h => ?_)
  · refine go ?_; intros
    rw [show min a b = a by omega]
    refine ret () trivial rfl
  · refine go ?_; intros
    rw [show min a b = b by omega]
    refine ret () trivial rfl
end Go.Proofs.YtgogcgkocjpgoaaGreatDoor
/- Draws: a text spoilt. -/
namespace Go.Proofs.YtgogcgkocjpgoaaGreatDoor
open Go.RowKit
set_option maxRecDepth 100000 in
theorem spoilt_f (B g : Nat) (F : CuF) (s : CuS) (t u : ByteArray) (ok : CuOk B s) (hB : B ≤ 800000000000) (ht : t.size ≤ 100000) (h1 : 1 ≤ u.size) (h2 : u.size ≤ 1000) :
    Fn Tryz.prog 96 [ptr g 0 0, .string t, .string u] [.sl EByte (.slice F.a F.code.length F.c) F.code F.bs] [.row g 123 0 [] [.slice F.a F.code.length F.c, .int .i64 (s.k : Nat), .int .u64 s.seed] []] (fun (z : ByteArray × CuS) => z.1.size ≤ t.size + 1 ∧ CuOk (B + 6) z.2) (fun z => .string z.1) (fun z => [.row g 123 0 [] [.slice F.a F.code.length F.c, .int .i64 (z.2.k : Nat), .int .u64 z.2.seed] []]) := by
  refine enter Tryz.func96 rfl Tryz.ntmps96 fun w0 => ?_
  refine go ?_; intros
  by_cases e0 : t = ⟨#[]⟩
  · rw [decide_eq_true e0]
    refine go ?_; intros
    apply wO; apply oc; rfl; exact yd_slh rfl rfl (by omega) (by omega)
    have hx0 : (u.extract 0 (1 : Int).toNat).size ≤ 1 := by rw [ByteArray.size_extract]; omega
    refine go ?_; intros
    refine ret (u.extract 0 (1 : Int).toNat, s) ⟨by dsimp only; omega, ok.mono (by omega)⟩ rfl
  have e1 : 0 < t.size := by
    rcases Nat.eq_zero_or_pos t.size with h0 | h0
    · exact absurd (by apply ByteArray.ext; exact Array.eq_empty_of_size_eq_zero h0) e0
    · exact h0
  rw [decide_eq_false e0]
  refine go ?_; intros
  refine cf (pick_f B g F (t.size : Int) s ok (by omega) (by omega)) fun q1 hq1 => ?_
  refine t_app ?_
  obtain ⟨hi, hq1⟩ := hq1
  have hi2 : q1.1 < t.size := by omega
  refine go ?_; intros
  refine cf (pick_f (B + 2) g F (u.size : Int) q1.2 hq1 (by omega) (by omega)) fun q2 hq2 => ?_
  refine t_app ?_
  obtain ⟨hj, hq2⟩ := hq2
  have hj2 : q2.1 < u.size := by omega
  refine go ?_; intros
  apply wO; apply oc; rfl; exact yd_sll rfl rfl (by omega) (by omega)
  have hxs : 1 ≤ (u.extract (q2.1 : Int).toNat u.size).size := by simp; omega
  refine go ?_; intros
  apply wO; apply oc; rfl; exact yd_slh rfl rfl (by omega) (by omega)
  have hxl : ((u.extract (q2.1 : Int).toNat u.size).extract 0 (1 : Int).toNat).size ≤ 1 := by simp; omega
  generalize (u.extract (q2.1 : Int).toNat u.size).extract 0 (1 : Int).toNat = x at *
  have ha : (t.extract 0 (q1.1 : Int).toNat).size ≤ q1.1 := by rw [ByteArray.size_extract]; omega
  have hb : (t.extract (q1.1 : Int).toNat t.size).size ≤ t.size - q1.1 := by rw [ByteArray.size_extract]; omega
  have hc : (t.extract ((q1.1 : Int) + 1).toNat t.size).size ≤ t.size - (q1.1 + 1) := by rw [ByteArray.size_extract]; omega
  have hax := ByteArray.size_append (a := t.extract 0 (q1.1 : Int).toNat) (b := x)
  refine go ?_; intros
  refine cf (pick_f (B + 2 + 2) g F 3 q2.2 hq2 (by omega) (by omega)) fun q3 hq3 => ?_
  refine t_app ?_
  obtain ⟨hm, hq3⟩ := hq3
  refine go ?_; intros
  by_cases h3 : (q3.1 : Int) = 0
  · rw [decide_eq_true h3]
    refine go ?_; intros
    refine d_start [] [] ?_
    refine dt 0 ?_
    refine dt 1 ?_
    refine dt 2 ?_ (hy := yd_slh rfl rfl (by omega) (by omega))
    refine dt 3 ?_
    refine dt 4 ?_
    refine dt 5 ?_
    refine dt 6 ?_
    refine dt 7 ?_ (hy := yd_sll rfl rfl (by omega) (by omega))
    refine dt 8 ?_
    refine dt 9 ?_
    refine dd ?_
    refine go ?_; intros
    refine ret (t.extract 0 (q1.1 : Int).toNat ++ x ++ t.extract (q1.1 : Int).toNat t.size, q3.2) ⟨by simp only [ByteArray.size_append]; omega, hq3⟩ rfl
  rw [decide_eq_false h3]
  refine go ?_; intros
  by_cases h4 : (q3.1 : Int) = 1
  · rw [decide_eq_true h4]
    refine go ?_; intros
    refine d_start [] [] ?_
    refine dt 0 ?_
    refine dt 1 ?_
    refine dt 2 ?_ (hy := yd_slh rfl rfl (by omega) (by omega))
    refine dt 3 ?_
    refine dt 4 ?_
    refine dt 5 ?_
    refine dt 6 ?_
    refine dt 7 ?_
    refine dt 8 ?_ (hy := yd_sll rfl rfl (by omega) (by omega))
    refine dt 9 ?_
    refine dt 10 ?_
    refine dd ?_
    refine go ?_; intros
    refine ret (t.extract 0 (q1.1 : Int).toNat ++ x ++ t.extract ((q1.1 : Int) + 1).toNat t.size, q3.2) ⟨by simp only [ByteArray.size_append]; omega, hq3⟩ rfl
  · rw [decide_eq_false h4]
    refine go ?_; intros
    refine d_start [] [] ?_
    refine dt 0 ?_
    refine dt 1 ?_
    refine dt 2 ?_ (hy := yd_slh rfl rfl (by omega) (by omega))
    refine dt 3 ?_
    refine dt 4 ?_
    refine dt 5 ?_
    refine dt 6 ?_ (hy := yd_sll rfl rfl (by omega) (by omega))
    refine dt 7 ?_
    refine dt 8 ?_
    refine dd ?_
    refine go ?_; intros
    refine ret (t.extract 0 (q1.1 : Int).toNat ++ t.extract ((q1.1 : Int) + 1).toNat t.size, q3.2) ⟨by simp only [ByteArray.size_append]; omega, hq3⟩ rfl
end Go.Proofs.YtgogcgkocjpgoaaGreatDoor
