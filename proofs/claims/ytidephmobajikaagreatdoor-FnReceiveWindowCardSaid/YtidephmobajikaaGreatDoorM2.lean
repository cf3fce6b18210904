/- Part 2 of the proof: 22 texts, one behind the other. -/
import Derived.Laws.Bits64b
import Derived.Test.YtidephmobajikaaGreatDoorShelf
import Derived.Test.YtidephmobajikaaGreatDoorM1
/- Walks: the reference's draws: a cursor over bytes. -/
namespace Go.Proofs.YtidephmobajikaaGreatDoor
open Go.RowKit
section
variable {P : Program} {ops : Array Oper} {Q : Exit → Act → World → Prop} {md : Region.Mode} {S : World → Prop} {X : Nat → Bool}
end
theorem Sl.byte {w v} {xs : List Int} {F} (h : Sl EByte w v xs F) : xs.length ≤ maxLen ∧ ∀ k (hk : k < xs.length), (0 ≤ xs[k] ∧ xs[k] ≤ 255) ∧ ∃ b off, v = .slice (some ⟨b, off, none⟩) xs.length (match v with | .slice _ _ c => c | _ => 0) ∧ b ∈ F ∧ w.cell? ⟨b, off + k, none⟩ = some (.int .u8 xs[k]) := by
  obtain ⟨a, cap, rfl, hl, ⟨rfl, rfl, _⟩ | ⟨b, off, F', rfl, hne, rfl, hc⟩⟩ := h
  · exact ⟨by simp, fun k hk => by simp at hk⟩
  · refine ⟨by omega, fun k hk => ?_⟩
    obtain ⟨cs, F1, ⟨rfl, h0, h1, rfl⟩, hcell, _⟩ := hc.get k hk
    refine ⟨⟨h0, h1⟩, b, off, rfl, by simp, ?_⟩
    simpa [EByte] using hcell 0 (by decide)
/-- the bytes that a cursor reads -/
structure CuF where
  code : List Int
  a : Option Addr
  c : Nat
  bs : List Nat
/-- the cursor lies in block g; its bytes in F, below it; it has moved at most B steps -/
def Cur (B : Nat) (w : World) (g : Nat) (F : CuF) : Prop :=
  ∃ (k : Nat) (seed : Int), Row w g 100 [.slice F.a F.code.length F.c, .int .i64 k, .int .u64 seed] ∧ Sl EByte w (.slice F.a F.code.length F.c) F.code F.bs ∧ g ∉ F.bs ∧ k ≤ B ∧ 0 ≤ seed ∧ seed < 18446744073709551616
theorem Cur.keep {B w w' g F K} (h : Cur B w g F) (hk : Keep K w w') (h1 : g ∉ K) (h2 : ∀ b ∈ F.bs, b ∉ K) : Cur B w' g F := by
  obtain ⟨k, seed, R, S, hF, h3⟩ := h
  exact ⟨k, seed, R.keepK hk h1, S.keep hk h2 (by decide), hF, h3⟩
theorem Cur.below {B w w' g F} (h : Cur B w g F) (hb : Below w.heap.size w w') : Cur B w' g F := by
  obtain ⟨k, seed, R, S, hF, h3⟩ := h
  exact ⟨k, seed, R.below hb, S.below (by decide) hb, hF, h3⟩
theorem Cur.mono {B B' w g F} (h : Cur B w g F) (hb : B ≤ B') : Cur B' w g F := by
  obtain ⟨k, seed, R, S, hF, h3, h4⟩ := h
  exact ⟨k, seed, R, S, hF, by omega, h4⟩
theorem Cur.lt {B w g F} (h : Cur B w g F) : g < w.heap.size := by
  obtain ⟨k, seed, R, _⟩ := h; exact R.lt
def PNext (B g : Nat) (F : CuF) (w : World) (e : Ending) (w' : World) : Prop := ∃ r : Nat, e = .returned (.int .i64 r) ∧ r ≤ 255 ∧ Cur (B + 1) w' g F ∧ Keep [g] w w'
set_option maxHeartbeats 3200000 in
set_option maxRecDepth 100000 in
theorem next_c (B g : Nat) (F : CuF) (w : World) (h : Cur B w g F) (hB0 : B ≤ 1099511627776) :
    Calls Tryz.prog 183 #[.pointer (some ⟨g, 0, none⟩)] w (PNext B g F w) := by
  obtain ⟨code, a, c, F⟩ := F
  obtain ⟨k, seed, R, S, hF, h2, h3, h4⟩ := h
  dsimp only at R S hF
  have hl := S.byte.1
  unfold maxLen at hl
  have hlt := S.lt (by decide)
  by_cases hk : k < code.length
  · obtain ⟨⟨hz0, hz1⟩, b, off, hv, hbF, hcell⟩ := S.byte.2 k hk
    simp only [Value.slice.injEq] at hv
    obtain ⟨rfl, -, -⟩ := hv
    generalize code[k] = z at *
    have hbg : b ≠ g := fun e => hF (e ▸ hbF)
    have hcl := fun w' (hb : Below w.heap.size w w') => kc hb hcell
    replace hcl := Lib.hid hcl
    clear hcell
    have hB := Below.refl w.heap.size w
    go_enter Tryz.func183, Tryz.ntmps183
    go_wp2_with fail
    refine AnyX.start (S := (fun w' => w'.cell? ⟨g, 0, none⟩ = some (.slice (some ⟨b, off, none⟩) code.length c) ∧ w'.cell? ⟨g, 1, none⟩ = some (.int .i64 k) ∧ w'.cell? ⟨g, 2, none⟩ = some (.int .u64 seed) ∧ w'.cell? ⟨b, off + k, none⟩ = some (.int .u8 z))) (X := (fun _ => false)) (by kernel_rfl) ?_
    have al : Below w.heap.size w w.drew := belowDrewN (Below.refl _ _) 1
    have hs_w1 := al.size
    replace R := R.below al
    replace S := S.below (by decide) al
    replace hB := tr hB al (Nat.le_refl _)
    generalize w.drew = w1 at *
    clear al
    have hS : (fun w' => w'.cell? ⟨g, 0, none⟩ = some (.slice (some ⟨b, off, none⟩) code.length c) ∧ w'.cell? ⟨g, 1, none⟩ = some (.int .i64 k) ∧ w'.cell? ⟨g, 2, none⟩ = some (.int .u64 seed) ∧ w'.cell? ⟨b, off + k, none⟩ = some (.int .u8 z)) w1 := ⟨R.cells 0, R.cells 1, R.cells 2, hcl.out _ hB⟩
    refine AnyX.take (i := 0) (oi := _) (v := ?_) (by rw [List.getElem?_toArray]; rfl) (by kernel_rfl) (by kernel_rfl) (by kernel_rfl) (by kernel_rfl) (by kernel_rfl) (by exact fun _ _ _ h => h) (Or.inl ⟨by rfl, ?_⟩) hS ?_
    rotate_left
    · (intro wS hSw; (try dsimp only at hSw); go_simp; try with_reducible rfl)
    try simp only [Act.put, List.setIfInBounds_toArray, List.set_cons_zero, List.set_cons_succ]
    refine AnyX.take (i := 1) (oi := _) (v := ?_) (by rw [List.getElem?_toArray]; rfl) (by kernel_rfl) (by kernel_rfl) (by kernel_rfl) (by kernel_rfl) (by kernel_rfl) (by exact fun _ _ _ h => h) (Or.inl ⟨by rfl, ?_⟩) hS ?_
    rotate_left
    · (intro wS hSw; (try dsimp only at hSw); go_simp; try with_reducible rfl)
    try simp only [Act.put, List.setIfInBounds_toArray, List.set_cons_zero, List.set_cons_succ]
    refine AnyX.take (i := 2) (oi := _) (v := ?_) (by rw [List.getElem?_toArray]; rfl) (by kernel_rfl) (by kernel_rfl) (by kernel_rfl) (by kernel_rfl) (by kernel_rfl) (by exact fun _ _ _ h => h) (Or.inl ⟨by rfl, ?_⟩) hS ?_
    rotate_left
    · (intro wS hSw; (try dsimp only at hSw); go_simp; try with_reducible rfl)
    try simp only [Act.put, List.setIfInBounds_toArray, List.set_cons_zero, List.set_cons_succ]
    refine AnyX.take (i := 3) (oi := _) (v := ?_) (by rw [List.getElem?_toArray]; rfl) (by kernel_rfl) (by kernel_rfl) (by kernel_rfl) (by kernel_rfl) (by kernel_rfl) (by exact fun _ _ _ h => h) (Or.inl ⟨by rfl, ?_⟩) hS ?_
    rotate_left
    · (intro wS hSw; (try dsimp only at hSw); go_simp; try with_reducible rfl)
    try simp only [Act.put, List.setIfInBounds_toArray, List.set_cons_zero, List.set_cons_succ]
    refine AnyX.take (i := 4) (oi := _) (v := ?_) (by rw [List.getElem?_toArray]; rfl) (by kernel_rfl) (by kernel_rfl) (by kernel_rfl) (by kernel_rfl) (by kernel_rfl) (by exact fun _ _ _ h => h) (Or.inl ⟨by rfl, ?_⟩) hS ?_
    rotate_left
    · (intro wS hSw; (try dsimp only at hSw); go_simp; try with_reducible rfl)
    try simp only [Act.put, List.setIfInBounds_toArray, List.set_cons_zero, List.set_cons_succ]
    refine AnyX.take (i := 5) (oi := _) (v := ?_) (by rw [List.getElem?_toArray]; rfl) (by kernel_rfl) (by kernel_rfl) (by kernel_rfl) (by kernel_rfl) (by kernel_rfl) (by exact fun _ _ _ h => h) (Or.inl ⟨by rfl, ?_⟩) hS ?_
    rotate_left
    · (intro wS hSw; (try dsimp only at hSw); go_simp; try with_reducible rfl)
    try simp only [Act.put, List.setIfInBounds_toArray, List.set_cons_zero, List.set_cons_succ]
    refine AnyX.take (i := 6) (oi := _) (v := ?_) (by rw [List.getElem?_toArray]; rfl) (by kernel_rfl) (by kernel_rfl) (by kernel_rfl) (by kernel_rfl) (by kernel_rfl) (by exact fun _ _ _ h => h) (Or.inl ⟨by rfl, ?_⟩) hS ?_
    rotate_left
    · (intro wS hSw; (try dsimp only at hSw); go_simp; try with_reducible rfl)
    try simp only [Act.put, List.setIfInBounds_toArray, List.set_cons_zero, List.set_cons_succ]
    refine AnyX.take (i := 7) (oi := _) (v := ?_) (by rw [List.getElem?_toArray]; rfl) (by kernel_rfl) (by kernel_rfl) (by kernel_rfl) (by kernel_rfl) (by kernel_rfl) (by exact fun _ _ _ h => h) (Or.inl ⟨by rfl, ?_⟩) hS ?_
    rotate_left
    · (intro wS hSw; (try dsimp only at hSw); go_simp; try with_reducible rfl)
    try simp only [Act.put, List.setIfInBounds_toArray, List.set_cons_zero, List.set_cons_succ]
    refine AnyX.take (i := 8) (oi := _) (v := ?_) (by rw [List.getElem?_toArray]; rfl) (by kernel_rfl) (by kernel_rfl) (by kernel_rfl) (by kernel_rfl) (by kernel_rfl) (by exact fun _ _ _ h => h) (Or.inl ⟨by rfl, ?_⟩) hS ?_
    rotate_left
    · (intro wS hSw; (try dsimp only at hSw); go_simp; try with_reducible rfl)
    try simp only [Act.put, List.setIfInBounds_toArray, List.set_cons_zero, List.set_cons_succ]
    refine AnyX.take (i := 9) (oi := _) (v := ?_) (by rw [List.getElem?_toArray]; rfl) (by kernel_rfl) (by kernel_rfl) (by kernel_rfl) (by kernel_rfl) (by kernel_rfl) (by exact fun _ _ _ h => h) (Or.inl ⟨by rfl, ?_⟩) hS ?_
    rotate_left
    · (intro wS hSw; (try dsimp only at hSw); go_simp; try with_reducible rfl)
    try simp only [Act.put, List.setIfInBounds_toArray, List.set_cons_zero, List.set_cons_succ]
    refine AnyX.done (by kernel_rfl) ?_ _
    (try clear hS)
    have c_R := R.cells; have f_R := R.frozens
    go_wp2_with fail
    clear c_R f_R
    rename_i K0 hK0
    refine AnyX.start (S := (fun w' => w'.cell? ⟨g, 0, none⟩ = some (.slice (some ⟨b, off, none⟩) code.length c) ∧ w'.cell? ⟨g, 1, none⟩ = some (.int .i64 k) ∧ w'.cell? ⟨g, 2, none⟩ = some (.int .u64 seed) ∧ w'.cell? ⟨b, off + k, none⟩ = some (.int .u8 z))) (X := (fun _ => false)) (by kernel_rfl) ?_
    have al : Below w1.heap.size w1 w1.drew := belowDrewN (Below.refl _ _) 1
    have hs_w2 := al.size
    replace R := R.below al
    replace S := S.below (by decide) al
    replace hB := tr hB al (Nat.le_refl _)
    generalize w1.drew = w2 at *
    clear al
    have hS : (fun w' => w'.cell? ⟨g, 0, none⟩ = some (.slice (some ⟨b, off, none⟩) code.length c) ∧ w'.cell? ⟨g, 1, none⟩ = some (.int .i64 k) ∧ w'.cell? ⟨g, 2, none⟩ = some (.int .u64 seed) ∧ w'.cell? ⟨b, off + k, none⟩ = some (.int .u8 z)) w2 := ⟨R.cells 0, R.cells 1, R.cells 2, hcl.out _ hB⟩
    refine AnyX.take (i := 0) (oi := _) (v := ?_) (by rw [List.getElem?_toArray]; rfl) (by kernel_rfl) (by kernel_rfl) (by kernel_rfl) (by kernel_rfl) (by kernel_rfl) (by exact fun _ _ _ h => h) (Or.inl ⟨by rfl, ?_⟩) hS ?_
    rotate_left
    · (intro wS hSw; (try dsimp only at hSw); go_simp; try with_reducible rfl)
    try simp only [Act.put, List.setIfInBounds_toArray, List.set_cons_zero, List.set_cons_succ]
    refine AnyX.take (i := 1) (oi := _) (v := ?_) (by rw [List.getElem?_toArray]; rfl) (by kernel_rfl) (by kernel_rfl) (by kernel_rfl) (by kernel_rfl) (by kernel_rfl) (by exact fun _ _ _ h => h) (Or.inl ⟨by rfl, ?_⟩) hS ?_
    rotate_left
    · (intro wS hSw; (try dsimp only at hSw); go_simp; try with_reducible rfl)
    try simp only [Act.put, List.setIfInBounds_toArray, List.set_cons_zero, List.set_cons_succ]
    refine AnyX.take (i := 2) (oi := _) (v := ?_) (by rw [List.getElem?_toArray]; rfl) (by kernel_rfl) (by kernel_rfl) (by kernel_rfl) (by kernel_rfl) (by kernel_rfl) (by exact fun _ _ _ h => h) (Or.inl ⟨by rfl, ?_⟩) hS ?_
    rotate_left
    · (intro wS hSw; (try dsimp only at hSw); go_simp; try with_reducible rfl)
    try simp only [Act.put, List.setIfInBounds_toArray, List.set_cons_zero, List.set_cons_succ]
    refine AnyX.take (i := 3) (oi := _) (v := ?_) (by rw [List.getElem?_toArray]; rfl) (by kernel_rfl) (by kernel_rfl) (by kernel_rfl) (by kernel_rfl) (by kernel_rfl) (by exact fun _ _ _ h => h) (Or.inl ⟨by rfl, ?_⟩) hS ?_
    rotate_left
    · (intro wS hSw; (try dsimp only at hSw); go_simp; try with_reducible rfl)
    try simp only [Act.put, List.setIfInBounds_toArray, List.set_cons_zero, List.set_cons_succ]
    refine AnyX.take (i := 4) (oi := _) (v := ?_) (by rw [List.getElem?_toArray]; rfl) (by kernel_rfl) (by kernel_rfl) (by kernel_rfl) (by kernel_rfl) (by kernel_rfl) (by exact fun _ _ _ h => h) (Or.inl ⟨by rfl, ?_⟩) hS ?_
    rotate_left
    · (intro wS hSw; (try dsimp only at hSw); go_simp; try with_reducible rfl)
    try simp only [Act.put, List.setIfInBounds_toArray, List.set_cons_zero, List.set_cons_succ]
    refine AnyX.take (i := 5) (oi := _) (v := ?_) (by rw [List.getElem?_toArray]; rfl) (by kernel_rfl) (by kernel_rfl) (by kernel_rfl) (by kernel_rfl) (by kernel_rfl) (by exact fun _ _ _ h => h) (Or.inl ⟨by rfl, ?_⟩) hS ?_
    rotate_left
    · (intro wS hSw; (try dsimp only at hSw); go_simp; try with_reducible rfl)
    try simp only [Act.put, List.setIfInBounds_toArray, List.set_cons_zero, List.set_cons_succ]
    refine AnyX.take (i := 6) (oi := _) (v := ?_) (by rw [List.getElem?_toArray]; rfl) (by kernel_rfl) (by kernel_rfl) (by kernel_rfl) (by kernel_rfl) (by kernel_rfl) (by exact fun _ _ _ h => h) (Or.inl ⟨by rfl, ?_⟩) hS ?_
    rotate_left
    · (intro wS hSw; (try dsimp only at hSw); go_simp; try with_reducible rfl)
    try simp only [Act.put, List.setIfInBounds_toArray, List.set_cons_zero, List.set_cons_succ]
    refine AnyX.take (i := 7) (oi := _) (v := ?_) (by rw [List.getElem?_toArray]; rfl) (by kernel_rfl) (by kernel_rfl) (by kernel_rfl) (by kernel_rfl) (by kernel_rfl) (by exact fun _ _ _ h => h) (Or.inl ⟨by rfl, ?_⟩) hS ?_
    rotate_left
    · (intro wS hSw; (try dsimp only at hSw); go_simp; try with_reducible rfl)
    try simp only [Act.put, List.setIfInBounds_toArray, List.set_cons_zero, List.set_cons_succ]
    refine AnyX.take (i := 8) (oi := _) (v := ?_) (by rw [List.getElem?_toArray]; rfl) (by kernel_rfl) (by kernel_rfl) (by kernel_rfl) (by kernel_rfl) (by kernel_rfl) (by exact fun _ _ _ h => h) (Or.inl ⟨by rfl, ?_⟩) hS ?_
    rotate_left
    · (intro wS hSw; (try dsimp only at hSw); go_simp; try with_reducible rfl)
    try simp only [Act.put, List.setIfInBounds_toArray, List.set_cons_zero, List.set_cons_succ]
    refine AnyX.take (i := 9) (oi := _) (v := ?_) (by rw [List.getElem?_toArray]; rfl) (by kernel_rfl) (by kernel_rfl) (by kernel_rfl) (by kernel_rfl) (by kernel_rfl) (by exact fun _ _ _ h => h) (Or.inl ⟨by rfl, ?_⟩) hS ?_
    rotate_left
    · (intro wS hSw; (try dsimp only at hSw); go_simp; try with_reducible rfl)
    try simp only [Act.put, List.setIfInBounds_toArray, List.set_cons_zero, List.set_cons_succ]
    refine AnyX.take (i := 10) (oi := _) (v := ?_) (by rw [List.getElem?_toArray]; rfl) (by kernel_rfl) (by kernel_rfl) (by kernel_rfl) (by kernel_rfl) (by kernel_rfl) (by exact fun _ _ _ h => h) (Or.inl ⟨by rfl, ?_⟩) hS ?_
    rotate_left
    · (intro wS hSw; (try dsimp only at hSw); go_simp; try with_reducible rfl)
    try simp only [Act.put, List.setIfInBounds_toArray, List.set_cons_zero, List.set_cons_succ]
    refine AnyX.only (i := 11) (o := _) (by kernel_rfl) (by rw [List.getElem?_toArray]; rfl) (fun K hK => ?_)
    try go_simp
    clear hS
    have hS : (fun w' => w'.cell? ⟨g, 0, none⟩ = some (.slice (some ⟨b, off, none⟩) code.length c) ∧ w'.cell? ⟨g, 1, none⟩ = some (.int .i64 k) ∧ w'.cell? ⟨g, 2, none⟩ = some (.int .u64 seed) ∧ w'.cell? ⟨b, off + k, none⟩ = some (.int .u8 z)) w2 := ⟨R.cells 0, R.cells 1, R.cells 2, hcl.out _ hB⟩
    refine hK.out _ _ (fun _ => hS) ?_
    clear hK K
    try simp only [Act.put, List.setIfInBounds_toArray, List.set_cons_zero, List.set_cons_succ]
    refine AnyX.done (by kernel_rfl) ?_ _
    (try clear hS)
    refine hK0 _ _ ?_
    clear hK0 K0
    have c_R := R.cells; have f_R := R.frozens
    go_wp2_with fail
    clear c_R f_R
    have n_K : Keep [g] w ((w2.setCell ⟨g, 1, none⟩ (.int .i64 ((k : Int) + 1))).setCell ⟨g, 2, none⟩ (.int .u64 (IntKind.u64.wrap (IntKind.u64.wrap (IntKind.u64.wrap (seed * 6364136223846793005) + z) + 840840)))) := ((Keep.ofBelow hB).setCell (p := ⟨g, 1, none⟩) (by simp) _).setCell (p := ⟨g, 2, none⟩) (by simp) _
    have n_R : Row ((w2.setCell ⟨g, 1, none⟩ (.int .i64 ((k : Int) + 1))).setCell ⟨g, 2, none⟩ (.int .u64 (IntKind.u64.wrap (IntKind.u64.wrap (IntKind.u64.wrap (seed * 6364136223846793005) + z) + 840840)))) g 100 [.slice (some ⟨b, off, none⟩) code.length c, .int .i64 ((k + 1 : Nat) : Int), .int .u64 (IntKind.u64.wrap (IntKind.u64.wrap (IntKind.u64.wrap (seed * 6364136223846793005) + z) + 840840))] := by simpa using ((R.set 1 (.int .i64 ((k : Int) + 1))).set 2 (.int .u64 (IntKind.u64.wrap (IntKind.u64.wrap (IntKind.u64.wrap (seed * 6364136223846793005) + z) + 840840))))
    have n_S : Sl EByte ((w2.setCell ⟨g, 1, none⟩ (.int .i64 ((k : Int) + 1))).setCell ⟨g, 2, none⟩ (.int .u64 (IntKind.u64.wrap (IntKind.u64.wrap (IntKind.u64.wrap (seed * 6364136223846793005) + z) + 840840)))) (Value.slice (some ⟨b, off, none⟩) code.length c) code F := S.frame (fun b hb => by have : b ≠ g := fun e => hF (e ▸ hb); repeat rw [Below.heap_setCell _ _ _ _ (by simp <;> omega)])
    have hs0 : 0 ≤ (IntKind.u64.wrap (IntKind.u64.wrap (IntKind.u64.wrap (seed * 6364136223846793005) + z) + 840840)) ∧ (IntKind.u64.wrap (IntKind.u64.wrap (IntKind.u64.wrap (seed * 6364136223846793005) + z) + 840840)) < 18446744073709551616 := by rw [IntKind.wrap_u64]; omega
    clear R S hB
    generalize (IntKind.u64.wrap (IntKind.u64.wrap (IntKind.u64.wrap (seed * 6364136223846793005) + z) + 840840)) = sd at *
    obtain ⟨hs0, hs1⟩ := hs0
    generalize ((w2.setCell ⟨g, 1, none⟩ (.int .i64 ((k : Int) + 1))).setCell ⟨g, 2, none⟩ (.int .u64 sd)) = w3 at *
    have R := n_R; clear n_R
    have S := n_S; clear n_S
    rename_i K0 hK0
    refine AnyX.start (S := (fun w' => w'.cell? ⟨g, 0, none⟩ = some (.slice (some ⟨b, off, none⟩) code.length c) ∧ w'.cell? ⟨g, 1, none⟩ = some (.int .i64 ((k + 1 : Nat) : Int)) ∧ w'.cell? ⟨g, 2, none⟩ = some (.int .u64 sd))) (X := (fun _ => false)) (by kernel_rfl) ?_
    have al : Below w3.heap.size w3 w3.drew := belowDrewN (Below.refl _ _) 1
    have hs_w4 := al.size
    replace R := R.below al
    replace S := S.below (by decide) al
    have hB := al
    generalize w3.drew = w4 at *
    clear al
    have hS : (fun w' => w'.cell? ⟨g, 0, none⟩ = some (.slice (some ⟨b, off, none⟩) code.length c) ∧ w'.cell? ⟨g, 1, none⟩ = some (.int .i64 ((k + 1 : Nat) : Int)) ∧ w'.cell? ⟨g, 2, none⟩ = some (.int .u64 sd)) w4 := ⟨R.cells 0, R.cells 1, R.cells 2⟩
    refine AnyX.take (i := 0) (oi := _) (v := ?_) (by rw [List.getElem?_toArray]; rfl) (by kernel_rfl) (by kernel_rfl) (by kernel_rfl) (by kernel_rfl) (by kernel_rfl) (by exact fun _ _ _ h => h) (Or.inl ⟨by rfl, ?_⟩) hS ?_
    rotate_left
    · (intro wS hSw; (try dsimp only at hSw); go_simp; try with_reducible rfl)
    try simp only [Act.put, List.setIfInBounds_toArray, List.set_cons_zero, List.set_cons_succ]
    refine AnyX.take (i := 1) (oi := _) (v := ?_) (by rw [List.getElem?_toArray]; rfl) (by kernel_rfl) (by kernel_rfl) (by kernel_rfl) (by kernel_rfl) (by kernel_rfl) (by exact fun _ _ _ h => h) (Or.inl ⟨by rfl, ?_⟩) hS ?_
    rotate_left
    · (intro wS hSw; (try dsimp only at hSw); go_simp; try with_reducible rfl)
    try simp only [Act.put, List.setIfInBounds_toArray, List.set_cons_zero, List.set_cons_succ]
    refine AnyX.take (i := 2) (oi := _) (v := ?_) (by rw [List.getElem?_toArray]; rfl) (by kernel_rfl) (by kernel_rfl) (by kernel_rfl) (by kernel_rfl) (by kernel_rfl) (by exact fun _ _ _ h => h) (Or.inl ⟨by rfl, ?_⟩) hS ?_
    rotate_left
    · (intro wS hSw; (try dsimp only at hSw); go_simp; try with_reducible rfl)
    try simp only [Act.put, List.setIfInBounds_toArray, List.set_cons_zero, List.set_cons_succ]
    refine AnyX.take (i := 3) (oi := _) (v := ?_) (by rw [List.getElem?_toArray]; rfl) (by kernel_rfl) (by kernel_rfl) (by kernel_rfl) (by kernel_rfl) (by kernel_rfl) (by exact fun _ _ _ h => h) (Or.inl ⟨by rfl, ?_⟩) hS ?_
    rotate_left
    · (intro wS hSw; (try dsimp only at hSw); go_simp; try with_reducible rfl)
    try simp only [Act.put, List.setIfInBounds_toArray, List.set_cons_zero, List.set_cons_succ]
    refine AnyX.take (i := 4) (oi := _) (v := ?_) (by rw [List.getElem?_toArray]; rfl) (by kernel_rfl) (by kernel_rfl) (by kernel_rfl) (by kernel_rfl) (by kernel_rfl) (by exact fun _ _ _ h => h) (Or.inl ⟨by rfl, ?_⟩) hS ?_
    rotate_left
    · (intro wS hSw; (try dsimp only at hSw); go_simp; try with_reducible rfl)
    try simp only [Act.put, List.setIfInBounds_toArray, List.set_cons_zero, List.set_cons_succ]
    refine AnyX.take (i := 5) (oi := _) (v := ?_) (by rw [List.getElem?_toArray]; rfl) (by kernel_rfl) (by kernel_rfl) (by kernel_rfl) (by kernel_rfl) (by kernel_rfl) (by exact fun _ _ _ h => h) (Or.inl ⟨by rfl, ?_⟩) hS ?_
    rotate_left
    · (intro wS hSw; (try dsimp only at hSw); go_simp; try with_reducible rfl)
    try simp only [Act.put, List.setIfInBounds_toArray, List.set_cons_zero, List.set_cons_succ]
    refine AnyX.take (i := 6) (oi := _) (v := ?_) (by rw [List.getElem?_toArray]; rfl) (by kernel_rfl) (by kernel_rfl) (by kernel_rfl) (by kernel_rfl) (by kernel_rfl) (by exact fun _ _ _ h => h) (Or.inl ⟨by rfl, ?_⟩) hS ?_
    rotate_left
    · (intro wS hSw; (try dsimp only at hSw); go_simp; try with_reducible rfl)
    try simp only [Act.put, List.setIfInBounds_toArray, List.set_cons_zero, List.set_cons_succ]
    refine AnyX.take (i := 7) (oi := _) (v := ?_) (by rw [List.getElem?_toArray]; rfl) (by kernel_rfl) (by kernel_rfl) (by kernel_rfl) (by kernel_rfl) (by kernel_rfl) (by exact fun _ _ _ h => h) (Or.inl ⟨by rfl, ?_⟩) hS ?_
    rotate_left
    · (intro wS hSw; (try dsimp only at hSw); go_simp; try with_reducible rfl)
    try simp only [Act.put, List.setIfInBounds_toArray, List.set_cons_zero, List.set_cons_succ]
    refine AnyX.take (i := 8) (oi := _) (v := ?_) (by rw [List.getElem?_toArray]; rfl) (by kernel_rfl) (by kernel_rfl) (by kernel_rfl) (by kernel_rfl) (by kernel_rfl) (by exact fun _ _ _ h => h) (Or.inl ⟨by rfl, ?_⟩) hS ?_
    rotate_left
    · (intro wS hSw; (try dsimp only at hSw); go_simp; try with_reducible rfl)
    try simp only [Act.put, List.setIfInBounds_toArray, List.set_cons_zero, List.set_cons_succ]
    refine AnyX.take (i := 9) (oi := _) (v := ?_) (by rw [List.getElem?_toArray]; rfl) (by kernel_rfl) (by kernel_rfl) (by kernel_rfl) (by kernel_rfl) (by kernel_rfl) (by exact fun _ _ _ h => h) (Or.inl ⟨by rfl, ?_⟩) hS ?_
    rotate_left
    · (intro wS hSw; (try dsimp only at hSw); go_simp; try with_reducible rfl)
    try simp only [Act.put, List.setIfInBounds_toArray, List.set_cons_zero, List.set_cons_succ]
    refine AnyX.done (by kernel_rfl) ?_ _
    (try clear hS)
    refine hK0 _ _ ?_
    clear hK0 K0
    have n_K2 := n_K.trans (Keep.ofBelow hB)
    have c_R := R.cells; have f_R := R.frozens
    go_wp2_with fail
    refine bodyPost_ret (v := .int .i64 (IntKind.i64.wrap z)) ?_ rfl ?_
    · simp [results, Tryz.results183, go_sem]
    · refine ⟨z.toNat, ?_, by omega, ⟨k + 1, sd, R, S, hF, by omega, hs0, hs1⟩, n_K2⟩
      rw [show IntKind.i64.wrap z = ((z.toNat : Nat) : Int) from by rw [IntKind.wrap_i64]; omega]
  · have hB := Below.refl w.heap.size w
    go_enter Tryz.func183, Tryz.ntmps183
    go_wp2_with fail
    refine AnyX.start (S := (fun w' => w'.cell? ⟨g, 0, none⟩ = some (.slice a code.length c) ∧ w'.cell? ⟨g, 1, none⟩ = some (.int .i64 k) ∧ w'.cell? ⟨g, 2, none⟩ = some (.int .u64 seed))) (X := (fun _ => false)) (by kernel_rfl) ?_
    have al : Below w.heap.size w w.drew := belowDrewN (Below.refl _ _) 1
    have hs_w5 := al.size
    replace R := R.below al
    replace S := S.below (by decide) al
    replace hB := tr hB al (Nat.le_refl _)
    generalize w.drew = w5 at *
    clear al
    have hS : (fun w' => w'.cell? ⟨g, 0, none⟩ = some (.slice a code.length c) ∧ w'.cell? ⟨g, 1, none⟩ = some (.int .i64 k) ∧ w'.cell? ⟨g, 2, none⟩ = some (.int .u64 seed)) w5 := ⟨R.cells 0, R.cells 1, R.cells 2⟩
    refine AnyX.take (i := 0) (oi := _) (v := ?_) (by rw [List.getElem?_toArray]; rfl) (by kernel_rfl) (by kernel_rfl) (by kernel_rfl) (by kernel_rfl) (by kernel_rfl) (by exact fun _ _ _ h => h) (Or.inl ⟨by rfl, ?_⟩) hS ?_
    rotate_left
    · (intro wS hSw; (try dsimp only at hSw); go_simp; try with_reducible rfl)
    try simp only [Act.put, List.setIfInBounds_toArray, List.set_cons_zero, List.set_cons_succ]
    refine AnyX.take (i := 1) (oi := _) (v := ?_) (by rw [List.getElem?_toArray]; rfl) (by kernel_rfl) (by kernel_rfl) (by kernel_rfl) (by kernel_rfl) (by kernel_rfl) (by exact fun _ _ _ h => h) (Or.inl ⟨by rfl, ?_⟩) hS ?_
    rotate_left
    · (intro wS hSw; (try dsimp only at hSw); go_simp; try with_reducible rfl)
    try simp only [Act.put, List.setIfInBounds_toArray, List.set_cons_zero, List.set_cons_succ]
    refine AnyX.take (i := 2) (oi := _) (v := ?_) (by rw [List.getElem?_toArray]; rfl) (by kernel_rfl) (by kernel_rfl) (by kernel_rfl) (by kernel_rfl) (by kernel_rfl) (by exact fun _ _ _ h => h) (Or.inl ⟨by rfl, ?_⟩) hS ?_
    rotate_left
    · (intro wS hSw; (try dsimp only at hSw); go_simp; try with_reducible rfl)
    try simp only [Act.put, List.setIfInBounds_toArray, List.set_cons_zero, List.set_cons_succ]
    refine AnyX.take (i := 3) (oi := _) (v := ?_) (by rw [List.getElem?_toArray]; rfl) (by kernel_rfl) (by kernel_rfl) (by kernel_rfl) (by kernel_rfl) (by kernel_rfl) (by exact fun _ _ _ h => h) (Or.inl ⟨by rfl, ?_⟩) hS ?_
    rotate_left
    · (intro wS hSw; (try dsimp only at hSw); go_simp; try with_reducible rfl)
    try simp only [Act.put, List.setIfInBounds_toArray, List.set_cons_zero, List.set_cons_succ]
    refine AnyX.take (i := 4) (oi := _) (v := ?_) (by rw [List.getElem?_toArray]; rfl) (by kernel_rfl) (by kernel_rfl) (by kernel_rfl) (by kernel_rfl) (by kernel_rfl) (by exact fun _ _ _ h => h) (Or.inl ⟨by rfl, ?_⟩) hS ?_
    rotate_left
    · (intro wS hSw; (try dsimp only at hSw); go_simp; try with_reducible rfl)
    try simp only [Act.put, List.setIfInBounds_toArray, List.set_cons_zero, List.set_cons_succ]
    refine AnyX.take (i := 5) (oi := _) (v := ?_) (by rw [List.getElem?_toArray]; rfl) (by kernel_rfl) (by kernel_rfl) (by kernel_rfl) (by kernel_rfl) (by kernel_rfl) (by exact fun _ _ _ h => h) (Or.inl ⟨by rfl, ?_⟩) hS ?_
    rotate_left
    · (intro wS hSw; (try dsimp only at hSw); go_simp; try with_reducible rfl)
    try simp only [Act.put, List.setIfInBounds_toArray, List.set_cons_zero, List.set_cons_succ]
    refine AnyX.take (i := 6) (oi := _) (v := ?_) (by rw [List.getElem?_toArray]; rfl) (by kernel_rfl) (by kernel_rfl) (by kernel_rfl) (by kernel_rfl) (by kernel_rfl) (by exact fun _ _ _ h => h) (Or.inl ⟨by rfl, ?_⟩) hS ?_
    rotate_left
    · (intro wS hSw; (try dsimp only at hSw); go_simp; try with_reducible rfl)
    try simp only [Act.put, List.setIfInBounds_toArray, List.set_cons_zero, List.set_cons_succ]
    refine AnyX.take (i := 7) (oi := _) (v := ?_) (by rw [List.getElem?_toArray]; rfl) (by kernel_rfl) (by kernel_rfl) (by kernel_rfl) (by kernel_rfl) (by kernel_rfl) (by exact fun _ _ _ h => h) (Or.inl ⟨by rfl, ?_⟩) hS ?_
    rotate_left
    · (intro wS hSw; (try dsimp only at hSw); go_simp; try with_reducible rfl)
    try simp only [Act.put, List.setIfInBounds_toArray, List.set_cons_zero, List.set_cons_succ]
    refine AnyX.take (i := 8) (oi := _) (v := ?_) (by rw [List.getElem?_toArray]; rfl) (by kernel_rfl) (by kernel_rfl) (by kernel_rfl) (by kernel_rfl) (by kernel_rfl) (by exact fun _ _ _ h => h) (Or.inl ⟨by rfl, ?_⟩) hS ?_
    rotate_left
    · (intro wS hSw; (try dsimp only at hSw); go_simp; try with_reducible rfl)
    try simp only [Act.put, List.setIfInBounds_toArray, List.set_cons_zero, List.set_cons_succ]
    refine AnyX.take (i := 9) (oi := _) (v := ?_) (by rw [List.getElem?_toArray]; rfl) (by kernel_rfl) (by kernel_rfl) (by kernel_rfl) (by kernel_rfl) (by kernel_rfl) (by exact fun _ _ _ h => h) (Or.inl ⟨by rfl, ?_⟩) hS ?_
    rotate_left
    · (intro wS hSw; (try dsimp only at hSw); go_simp; try with_reducible rfl)
    try simp only [Act.put, List.setIfInBounds_toArray, List.set_cons_zero, List.set_cons_succ]
    refine AnyX.done (by kernel_rfl) ?_ _
    (try clear hS)
    have c_R := R.cells; have f_R := R.frozens
    go_wp2_with fail
    clear c_R f_R
    have n_K : Keep [g] w ((w5.setCell ⟨g, 1, none⟩ (.int .i64 ((k : Int) + 1))).setCell ⟨g, 2, none⟩ (.int .u64 (IntKind.u64.wrap (IntKind.u64.wrap (IntKind.u64.wrap (seed * 6364136223846793005)) + 840840)))) := ((Keep.ofBelow hB).setCell (p := ⟨g, 1, none⟩) (by simp) _).setCell (p := ⟨g, 2, none⟩) (by simp) _
    have n_R : Row ((w5.setCell ⟨g, 1, none⟩ (.int .i64 ((k : Int) + 1))).setCell ⟨g, 2, none⟩ (.int .u64 (IntKind.u64.wrap (IntKind.u64.wrap (IntKind.u64.wrap (seed * 6364136223846793005)) + 840840)))) g 100 [.slice a code.length c, .int .i64 ((k + 1 : Nat) : Int), .int .u64 (IntKind.u64.wrap (IntKind.u64.wrap (IntKind.u64.wrap (seed * 6364136223846793005)) + 840840))] := by simpa using ((R.set 1 (.int .i64 ((k : Int) + 1))).set 2 (.int .u64 (IntKind.u64.wrap (IntKind.u64.wrap (IntKind.u64.wrap (seed * 6364136223846793005)) + 840840))))
    have n_S : Sl EByte ((w5.setCell ⟨g, 1, none⟩ (.int .i64 ((k : Int) + 1))).setCell ⟨g, 2, none⟩ (.int .u64 (IntKind.u64.wrap (IntKind.u64.wrap (IntKind.u64.wrap (seed * 6364136223846793005)) + 840840)))) (Value.slice a code.length c) code F := S.frame (fun b hb => by have : b ≠ g := fun e => hF (e ▸ hb); repeat rw [Below.heap_setCell _ _ _ _ (by simp <;> omega)])
    have hs0 : 0 ≤ (IntKind.u64.wrap (IntKind.u64.wrap (IntKind.u64.wrap (seed * 6364136223846793005)) + 840840)) ∧ (IntKind.u64.wrap (IntKind.u64.wrap (IntKind.u64.wrap (seed * 6364136223846793005)) + 840840)) < 18446744073709551616 := by rw [IntKind.wrap_u64]; omega
    clear R S hB
    generalize (IntKind.u64.wrap (IntKind.u64.wrap (IntKind.u64.wrap (seed * 6364136223846793005)) + 840840)) = sd at *
    obtain ⟨hs0, hs1⟩ := hs0
    generalize ((w5.setCell ⟨g, 1, none⟩ (.int .i64 ((k : Int) + 1))).setCell ⟨g, 2, none⟩ (.int .u64 sd)) = w6 at *
    have R := n_R; clear n_R
    have S := n_S; clear n_S
    rename_i K0 hK0
    refine AnyX.start (S := (fun w' => w'.cell? ⟨g, 0, none⟩ = some (.slice a code.length c) ∧ w'.cell? ⟨g, 1, none⟩ = some (.int .i64 ((k + 1 : Nat) : Int)) ∧ w'.cell? ⟨g, 2, none⟩ = some (.int .u64 sd))) (X := (fun _ => false)) (by kernel_rfl) ?_
    have al : Below w6.heap.size w6 w6.drew := belowDrewN (Below.refl _ _) 1
    have hs_w7 := al.size
    replace R := R.below al
    replace S := S.below (by decide) al
    have hB := al
    generalize w6.drew = w7 at *
    clear al
    have hS : (fun w' => w'.cell? ⟨g, 0, none⟩ = some (.slice a code.length c) ∧ w'.cell? ⟨g, 1, none⟩ = some (.int .i64 ((k + 1 : Nat) : Int)) ∧ w'.cell? ⟨g, 2, none⟩ = some (.int .u64 sd)) w7 := ⟨R.cells 0, R.cells 1, R.cells 2⟩
    refine AnyX.take (i := 0) (oi := _) (v := ?_) (by rw [List.getElem?_toArray]; rfl) (by kernel_rfl) (by kernel_rfl) (by kernel_rfl) (by kernel_rfl) (by kernel_rfl) (by exact fun _ _ _ h => h) (Or.inl ⟨by rfl, ?_⟩) hS ?_
    rotate_left
    · (intro wS hSw; (try dsimp only at hSw); go_simp; try with_reducible rfl)
    try simp only [Act.put, List.setIfInBounds_toArray, List.set_cons_zero, List.set_cons_succ]
    refine AnyX.take (i := 1) (oi := _) (v := ?_) (by rw [List.getElem?_toArray]; rfl) (by kernel_rfl) (by kernel_rfl) (by kernel_rfl) (by kernel_rfl) (by kernel_rfl) (by exact fun _ _ _ h => h) (Or.inl ⟨by rfl, ?_⟩) hS ?_
    rotate_left
    · (intro wS hSw; (try dsimp only at hSw); go_simp; try with_reducible rfl)
    try simp only [Act.put, List.setIfInBounds_toArray, List.set_cons_zero, List.set_cons_succ]
    refine AnyX.take (i := 2) (oi := _) (v := ?_) (by rw [List.getElem?_toArray]; rfl) (by kernel_rfl) (by kernel_rfl) (by kernel_rfl) (by kernel_rfl) (by kernel_rfl) (by exact fun _ _ _ h => h) (Or.inl ⟨by rfl, ?_⟩) hS ?_
    rotate_left
    · (intro wS hSw; (try dsimp only at hSw); go_simp; try with_reducible rfl)
    try simp only [Act.put, List.setIfInBounds_toArray, List.set_cons_zero, List.set_cons_succ]
    refine AnyX.take (i := 3) (oi := _) (v := ?_) (by rw [List.getElem?_toArray]; rfl) (by kernel_rfl) (by kernel_rfl) (by kernel_rfl) (by kernel_rfl) (by kernel_rfl) (by exact fun _ _ _ h => h) (Or.inl ⟨by rfl, ?_⟩) hS ?_
    rotate_left
    · (intro wS hSw; (try dsimp only at hSw); go_simp; try with_reducible rfl)
    try simp only [Act.put, List.setIfInBounds_toArray, List.set_cons_zero, List.set_cons_succ]
    refine AnyX.take (i := 4) (oi := _) (v := ?_) (by rw [List.getElem?_toArray]; rfl) (by kernel_rfl) (by kernel_rfl) (by kernel_rfl) (by kernel_rfl) (by kernel_rfl) (by exact fun _ _ _ h => h) (Or.inl ⟨by rfl, ?_⟩) hS ?_
    rotate_left
    · (intro wS hSw; (try dsimp only at hSw); go_simp; try with_reducible rfl)
    try simp only [Act.put, List.setIfInBounds_toArray, List.set_cons_zero, List.set_cons_succ]
    refine AnyX.take (i := 5) (oi := _) (v := ?_) (by rw [List.getElem?_toArray]; rfl) (by kernel_rfl) (by kernel_rfl) (by kernel_rfl) (by kernel_rfl) (by kernel_rfl) (by exact fun _ _ _ h => h) (Or.inl ⟨by rfl, ?_⟩) hS ?_
    rotate_left
    · (intro wS hSw; (try dsimp only at hSw); go_simp; try with_reducible rfl)
    try simp only [Act.put, List.setIfInBounds_toArray, List.set_cons_zero, List.set_cons_succ]
    refine AnyX.take (i := 6) (oi := _) (v := ?_) (by rw [List.getElem?_toArray]; rfl) (by kernel_rfl) (by kernel_rfl) (by kernel_rfl) (by kernel_rfl) (by kernel_rfl) (by exact fun _ _ _ h => h) (Or.inl ⟨by rfl, ?_⟩) hS ?_
    rotate_left
    · (intro wS hSw; (try dsimp only at hSw); go_simp; try with_reducible rfl)
    try simp only [Act.put, List.setIfInBounds_toArray, List.set_cons_zero, List.set_cons_succ]
    refine AnyX.take (i := 7) (oi := _) (v := ?_) (by rw [List.getElem?_toArray]; rfl) (by kernel_rfl) (by kernel_rfl) (by kernel_rfl) (by kernel_rfl) (by kernel_rfl) (by exact fun _ _ _ h => h) (Or.inl ⟨by rfl, ?_⟩) hS ?_
    rotate_left
    · (intro wS hSw; (try dsimp only at hSw); go_simp; try with_reducible rfl)
    try simp only [Act.put, List.setIfInBounds_toArray, List.set_cons_zero, List.set_cons_succ]
    refine AnyX.take (i := 8) (oi := _) (v := ?_) (by rw [List.getElem?_toArray]; rfl) (by kernel_rfl) (by kernel_rfl) (by kernel_rfl) (by kernel_rfl) (by kernel_rfl) (by exact fun _ _ _ h => h) (Or.inl ⟨by rfl, ?_⟩) hS ?_
    rotate_left
    · (intro wS hSw; (try dsimp only at hSw); go_simp; try with_reducible rfl)
    try simp only [Act.put, List.setIfInBounds_toArray, List.set_cons_zero, List.set_cons_succ]
    refine AnyX.take (i := 9) (oi := _) (v := ?_) (by rw [List.getElem?_toArray]; rfl) (by kernel_rfl) (by kernel_rfl) (by kernel_rfl) (by kernel_rfl) (by kernel_rfl) (by exact fun _ _ _ h => h) (Or.inl ⟨by rfl, ?_⟩) hS ?_
    rotate_left
    · (intro wS hSw; (try dsimp only at hSw); go_simp; try with_reducible rfl)
    try simp only [Act.put, List.setIfInBounds_toArray, List.set_cons_zero, List.set_cons_succ]
    refine AnyX.done (by kernel_rfl) ?_ _
    (try clear hS)
    refine hK0 _ _ ?_
    clear hK0 K0
    have n_K2 := n_K.trans (Keep.ofBelow hB)
    obtain ⟨q, hq, hq2⟩ : ∃ q : Nat, bits BinOp.and IntKind.u64 (sd / 1099511627776) 255 = (q : Int) ∧ q ≤ 255 := by
      refine ⟨(sd / 1099511627776).toNat &&& 255, ?_, Nat.and_le_right⟩
      rw [← bits_and_u64_nat _ _ (by omega) (by omega)]
      congr 1; omega
    have c_R := R.cells; have f_R := R.frozens
    go_wp2_with fail
    refine bodyPost_ret (v := .int .i64 (q : Int)) ?_ rfl ?_
    · simp [results, Tryz.results183, go_sem, hq]
    · exact ⟨q, rfl, hq2, ⟨k + 1, sd, R, S, hF, by omega, hs0, hs1⟩, n_K2⟩
def PPick (B g : Nat) (F : CuF) (n : Int) (w : World) (e : Ending) (w' : World) : Prop := ∃ r : Nat, e = .returned (.int .i64 r) ∧ (r = 0 ∨ (r : Int) < n) ∧ Cur (B + 2) w' g F ∧ Keep [g] w w'
set_option maxHeartbeats 1600000 in
set_option maxRecDepth 100000 in
theorem pick_c (B g : Nat) (F : CuF) (n : Int) (w : World) (h : Cur B w g F) (hB0 : B ≤ 1099511627774) (hn : n ≤ 1048576) :
    Calls Tryz.prog 132 #[.pointer (some ⟨g, 0, none⟩), .int .i64 n] w (PPick B g F n w) := by
  have hN1 := next_c B g F w h (by omega)
  have hN2 := fun w h => next_c (B + 1) g F w h (by omega)
  replace hN1 := Lib.hid hN1; replace hN2 := Lib.hid hN2
  by_cases h1 : n ≤ 1
  · go_enter Tryz.func132, Tryz.ntmps132
    go_wp2_with fail
    refine bodyPost_ret (v := .int .i64 0) ?_ rfl ⟨0, rfl, .inl rfl, h.mono (by omega), Keep.refl _ _⟩
    simp [results, Tryz.results132, go_sem]
  · by_cases h2 : n ≤ 200
    · go_enter Tryz.func132, Tryz.ntmps132
      go_wp2_with fail
      refine hN1.out.mono ?_
      rintro e w1 ⟨r, rfl, hr, hc, hk⟩
      have hm0 : 0 ≤ (r : Int) % n := Int.emod_nonneg _ (by omega)
      have hm1 : (r : Int) % n < n := Int.emod_lt_of_pos _ (by omega)
      go_wp2_with fail
      refine bodyPost_ret (v := .int .i64 ((r : Int) % n)) ?_ rfl ⟨((r : Int) % n).toNat, by rw [Int.toNat_of_nonneg hm0], .inr (by omega), hc.mono (by omega), hk⟩
      simp [results, Tryz.results132, go_sem]
    · go_enter Tryz.func132, Tryz.ntmps132
      go_wp2_with fail
      refine hN1.out.mono ?_
      rintro e w1 ⟨r, rfl, hr, hc, hk⟩
      go_wp2_with fail
      refine (hN2.out _ hc).mono ?_
      rintro e w2 ⟨r2, rfl, hr2, hc2, hk2⟩
      have hm0 : 0 ≤ ((r : Int) * 256 + r2) % n := Int.emod_nonneg _ (by omega)
      have hm1 : ((r : Int) * 256 + r2) % n < n := Int.emod_lt_of_pos _ (by omega)
      go_wp2_with fail
      refine bodyPost_ret (v := .int .i64 (((r : Int) * 256 + r2) % n)) ?_ rfl ⟨(((r : Int) * 256 + r2) % n).toNat, by rw [Int.toNat_of_nonneg hm0], .inr (by omega), hc2, hk.trans hk2⟩
      simp [results, Tryz.results132, go_sem]
def POne (B g : Nat) (F : CuF) (w : World) (e : Ending) (w' : World) : Prop := ∃ b : Bool, e = .returned (.bool b) ∧ Cur (B + 2) w' g F ∧ Keep [g] w w'
theorem one_c (B g : Nat) (F : CuF) (n : Int) (w : World) (h : Cur B w g F) (hB0 : B ≤ 1099511627774) (hn : n ≤ 1048576) :
    Calls Tryz.prog 67 #[.pointer (some ⟨g, 0, none⟩), .int .i64 n] w (POne B g F w) := by
  have hN1 := Lib.hid (pick_c B g F n w h hB0 hn)
  go_enter Tryz.func67, Tryz.ntmps67
  go_wp2_with fail
  refine hN1.out.mono ?_
  rintro e w1 ⟨r, rfl, hr, hc, hk⟩
  go_wp2_with fail
  refine bodyPost_ret (v := .bool ((r : Int) == 0)) ?_ rfl ⟨_, rfl, hc, hk⟩
  simp [results, Tryz.results67, go_sem]
def POf (B g : Nat) (F : CuF) (xs : List ByteArray) (w : World) (e : Ending) (w' : World) : Prop := ∃ s ∈ xs, e = .returned (.string s) ∧ Cur (B + 2) w' g F ∧ Keep [g] w w'
theorem of_c (B g : Nat) (F : CuF) (v : Value) (xs : List ByteArray) (K : List Nat) (w : World) (h : Cur B w g F) (hB0 : B ≤ 1099511627774) (hx : Sl EStr w v xs K) (h0 : 0 < xs.length) (h1 : xs.length ≤ 1048576) (hg : g ∉ K) :
    Calls Tryz.prog 68 #[.pointer (some ⟨g, 0, none⟩), v] w (POf B g F xs w) := by
  obtain ⟨a, c, rfl⟩ := hx.slice
  have hN1 := Lib.hid (pick_c B g F xs.length w h hB0 (by omega))
  go_enter Tryz.func68, Tryz.ntmps68
  go_wp2_with fail
  refine hN1.out.mono ?_
  rintro e w1 ⟨r, rfl, hr, hc, hk⟩
  have hr2 : r < xs.length := by omega
  obtain ⟨hsz, b, off, rfl, hcell⟩ := (hx.keep hk (fun b hb e => hg (by simp at e; rw [← e]; exact hb)) (by decide)).str.2.2 r hr2
  clear hr
  have hm := List.getElem_mem hr2
  generalize xs[r] = s at *
  go_wp2_with fail
  refine bodyPost_ret (v := .string s) ?_ rfl ⟨s, hm, rfl, hc, hk⟩
  simp [results, Tryz.results68, go_sem]
def PAmong (B g : Nat) (F : CuF) (xs : List Int) (w : World) (e : Ending) (w' : World) : Prop := ∃ s ∈ xs, e = .returned (.int .i64 s) ∧ Cur (B + 2) w' g F ∧ Keep [g] w w'
theorem among_c (B g : Nat) (F : CuF) (v : Value) (xs : List Int) (K : List Nat) (w : World) (h : Cur B w g F) (hB0 : B ≤ 1099511627774) (hx : Sl EInt w v xs K) (h0 : 0 < xs.length) (h1 : xs.length ≤ 1048576) (hg : g ∉ K) :
    Calls Tryz.prog 109 #[.pointer (some ⟨g, 0, none⟩), v] w (PAmong B g F xs w) := by
  obtain ⟨a, c, rfl⟩ := hx.slice
  have hN1 := Lib.hid (pick_c B g F xs.length w h hB0 (by omega))
  go_enter Tryz.func109, Tryz.ntmps109
  go_wp2_with fail
  refine hN1.out.mono ?_
  rintro e w1 ⟨r, rfl, hr, hc, hk⟩
  have hr2 : r < xs.length := by omega
  obtain ⟨b, off, rfl, hcell⟩ := (hx.keep hk (fun b hb e => hg (by simp at e; rw [← e]; exact hb)) (by decide)).int.2.2 r hr2
  clear hr
  have hm := List.getElem_mem hr2
  generalize xs[r] = s at *
  go_wp2_with fail
  refine bodyPost_ret (v := .int .i64 s) ?_ rfl ⟨s, hm, rfl, hc, hk⟩
  simp [results, Tryz.results109, go_sem]
end Go.Proofs.YtidephmobajikaaGreatDoor
/- Draws, for the engine: the cursor. -/
namespace Go.Proofs.YtidephmobajikaaGreatDoor
open Go.RowKit
structure CuS where
  k : Nat
  seed : Int
structure CuOk (B : Nat) (s : CuS) : Prop where
  k : s.k ≤ B
  s0 : 0 ≤ s.seed
  s1 : s.seed < 18446744073709551616
theorem CuOk.mono {B B' : Nat} {s : CuS} (h : CuOk B s) (hb : B ≤ B') : CuOk B' s := ⟨Nat.le_trans h.k hb, h.s0, h.s1⟩
theorem cu_fn {f : FuncId} {args : List Value} {σ : Type} {C : σ → Prop} {v : σ → Value} {B B' g : Nat} {F : CuF} {s : CuS} {X : List Pc} (hX : X.all (fun p => !p.mu) = true) (ok : CuOk B s)
    (h : ∀ w, Cur B w g F → Hol X w → (∀ p ∈ X, g ∉ p.F) → Calls Tryz.prog f args.toArray w fun e w' => ∃ r, C r ∧ e = .returned (v r) ∧ Cur B' w' g F ∧ Keep [g] w w') :
    Fn Tryz.prog f args (.sl EByte (.slice F.a F.code.length F.c) F.code F.bs :: X) [.row g 100 0 [] [.slice F.a F.code.length F.c, .int .i64 (s.k : Nat), .int .u64 s.seed] []] (fun (z : σ × CuS) => C z.1 ∧ CuOk B' z.2) (fun z => v z.1) (fun z => [.row g 100 0 [] [.slice F.a F.code.length F.c, .int .i64 (z.2.k : Nat), .int .u64 z.2.seed] []]) := fun w hH hS => by
  have h1 := hH (.row g 100 0 [] [.slice F.a F.code.length F.c, .int .i64 (s.k : Nat), .int .u64 s.seed] []) (by simp)
  have h2 := hH (.sl EByte (.slice F.a F.code.length F.c) F.code F.bs) (by simp)
  have ap := hS.1
  have hg : g ∉ F.bs := fun hm => ap (.sl EByte (.slice F.a F.code.length F.c) F.code F.bs) (by simp) (by simp [Pc.mu]) g (by simp [Pc.F]) hm
  refine (h w ⟨s.k, s.seed, by simpa using h1.2, h2.2, hg, ok.k, ok.s0, ok.s1⟩ (fun p hp => hH p (by simp [hp])) (fun p hp hm => ap p (by simp [hp]) (by simp [Pc.mu]) g (by simp [Pc.F]) hm)).mono ?_
  rintro e w' ⟨r, hC, he, ⟨k, seed, R, S, -, hk, h0, h3⟩, hK⟩
  refine ⟨(r, ⟨k, seed⟩), ⟨hC, hk, h0, h3⟩, he, hol1 ⟨rfl, by simpa using R⟩, ⟨by simp, trivial⟩, hK.mono (fun b hb _ => by simpa [fp, Pc.F] using hb), fun p hp b hb => ?_⟩
  simp at hp
  subst hp
  exact .inr (.inl ⟨_, List.mem_cons_self .., by simpa [Pc.F] using hb⟩)
theorem pick_f (B g : Nat) (F : CuF) (n : Int) (s : CuS) (ok : CuOk B s) (hB : B ≤ 1000000000000) (hn : n ≤ 1048576) :
    Fn Tryz.prog 132 [ptr g 0 0, .int .i64 n] [.sl EByte (.slice F.a F.code.length F.c) F.code F.bs] [.row g 100 0 [] [.slice F.a F.code.length F.c, .int .i64 (s.k : Nat), .int .u64 s.seed] []] (fun (z : Nat × CuS) => (z.1 = 0 ∨ (z.1 : Int) < n) ∧ CuOk (B + 2) z.2) (fun z => .int .i64 (z.1 : Nat)) (fun z => [.row g 100 0 [] [.slice F.a F.code.length F.c, .int .i64 (z.2.k : Nat), .int .u64 z.2.seed] []]) :=
  cu_fn (C := fun r : Nat => r = 0 ∨ (r : Int) < n) (v := fun r => .int .i64 (r : Nat)) (X := []) rfl ok fun w h _ _ => (pick_c B g F n w h (by omega) hn).mono fun _ _ ⟨r, he, h1, h2, h3⟩ => ⟨r, h1, he, h2, h3⟩
theorem one_f (B g : Nat) (F : CuF) (n : Int) (s : CuS) (ok : CuOk B s) (hB : B ≤ 1000000000000) (hn : n ≤ 1048576) :
    Fn Tryz.prog 67 [ptr g 0 0, .int .i64 n] [.sl EByte (.slice F.a F.code.length F.c) F.code F.bs] [.row g 100 0 [] [.slice F.a F.code.length F.c, .int .i64 (s.k : Nat), .int .u64 s.seed] []] (fun (z : Bool × CuS) => True ∧ CuOk (B + 2) z.2) (fun z => .bool z.1) (fun z => [.row g 100 0 [] [.slice F.a F.code.length F.c, .int .i64 (z.2.k : Nat), .int .u64 z.2.seed] []]) :=
  cu_fn (C := fun _ : Bool => True) (v := fun r => .bool r) (X := []) rfl ok fun w h _ _ => (one_c B g F n w h (by omega) hn).mono fun _ _ ⟨r, he, h2, h3⟩ => ⟨r, trivial, he, h2, h3⟩
theorem of_f (B g : Nat) (F : CuF) (v : Value) (xs : List ByteArray) (G : List Nat) (s : CuS) (ok : CuOk B s) (hB : B ≤ 1000000000000) (h0 : 0 < xs.length) (h1 : xs.length ≤ 1048576) :
    Fn Tryz.prog 68 [ptr g 0 0, v] [.sl EByte (.slice F.a F.code.length F.c) F.code F.bs, .sl EStr v xs G] [.row g 100 0 [] [.slice F.a F.code.length F.c, .int .i64 (s.k : Nat), .int .u64 s.seed] []] (fun (z : ByteArray × CuS) => z.1 ∈ xs ∧ CuOk (B + 2) z.2) (fun z => .string z.1) (fun z => [.row g 100 0 [] [.slice F.a F.code.length F.c, .int .i64 (z.2.k : Nat), .int .u64 z.2.seed] []]) :=
  cu_fn (C := fun r : ByteArray => r ∈ xs) (v := fun r => .string r) (X := [.sl EStr v xs G]) rfl ok fun w h hX hg => (of_c B g F v xs G w h (by omega) (hX (.sl EStr v xs G) (by simp)).2 h0 h1 (hg (.sl EStr v xs G) (by simp))).mono fun _ _ ⟨r, h1, he, h2, h3⟩ => ⟨r, h1, he, h2, h3⟩
theorem among_f (B g : Nat) (F : CuF) (v : Value) (xs : List Int) (G : List Nat) (s : CuS) (ok : CuOk B s) (hB : B ≤ 1000000000000) (h0 : 0 < xs.length) (h1 : xs.length ≤ 1048576) :
    Fn Tryz.prog 109 [ptr g 0 0, v] [.sl EByte (.slice F.a F.code.length F.c) F.code F.bs, .sl EInt v xs G] [.row g 100 0 [] [.slice F.a F.code.length F.c, .int .i64 (s.k : Nat), .int .u64 s.seed] []] (fun (z : Int × CuS) => z.1 ∈ xs ∧ CuOk (B + 2) z.2) (fun z => .int .i64 z.1) (fun z => [.row g 100 0 [] [.slice F.a F.code.length F.c, .int .i64 (z.2.k : Nat), .int .u64 z.2.seed] []]) :=
  cu_fn (C := fun r : Int => r ∈ xs) (v := fun r => .int .i64 r) (X := [.sl EInt v xs G]) rfl ok fun w h hX hg => (among_c B g F v xs G w h (by omega) (hX (.sl EInt v xs G) (by simp)).2 h0 h1 (hg (.sl EInt v xs G) (by simp))).mono fun _ _ ⟨r, h1, he, h2, h3⟩ => ⟨r, h1, he, h2, h3⟩
end Go.Proofs.YtidephmobajikaaGreatDoor
/- The type Slot of the exact laws: how it reads, how it is owned; the walks of its size, copy, equality, mark and held. Written by wip/gentypes.py. -/
namespace Go.Proofs.YtidephmobajikaaGreatDoor
open Go.RowKit
structure Slot where
  hav : Bool
  item : ByteArray
/-- read -/
def ESlot : Elem Slot where
  sz := 2
  rep _ cs x F := cs = [.bool x.hav, .string x.item] ∧ x.item.size ≤ maxLen ∧ F = []
  len h := by obtain ⟨rfl, s1, rfl⟩ := h; rfl
  lt h := by obtain ⟨rfl, s1, rfl⟩ := h; simp
  frame h _ := h
theorem one_ESlot : One ESlot := fun h u hu => by
  obtain ⟨rfl, s1, rfl⟩ := h
  simp only [List.mem_cons, List.not_mem_nil, or_false] at hu
  rcases hu with rfl | rfl
  · rfl
  · rfl
theorem scal_ESlot : Scal ESlot := fun h => by obtain ⟨rfl, s1, rfl⟩ := h; rfl
theorem info_Slot : (Tryz.prog.info? 113).map (fun i => (i.zero, i.size, i.bytes)) = some (some (.agg #[.bool false, .string ⟨#[]⟩]), 2, 24) := by kernel_rfl
end Go.Proofs.YtidephmobajikaaGreatDoor
/- The type ReceiveWindow of the exact laws: how it reads, how it is owned; the walks of its size, copy, equality, mark and held. Written by wip/gentypes.py. -/
namespace Go.Proofs.YtidephmobajikaaGreatDoor
open Go.RowKit
structure ReceiveWindow where
  next : Int
  slots : List Slot
/-- read -/
def EReceiveWindow : Elem ReceiveWindow where
  sz := 2
  rep w cs x F := ∃ v1, cs = [.int .i64 x.next, v1] ∧ Sl ESlot w v1 x.slots F
  len h := by obtain ⟨v1, rfl, h1⟩ := h; rfl
  lt h := by obtain ⟨v1, rfl, h1⟩ := h; exact h1.lt (by decide)
  frame h hF := by obtain ⟨v1, rfl, h1⟩ := h; exact ⟨v1, rfl, h1.frame hF⟩
/-- owned -/
def OReceiveWindow : Elem ReceiveWindow where
  sz := 2
  rep w cs x F := ∃ v1, cs = [.int .i64 x.next, v1] ∧ Ow ESlot 113 w v1 x.slots F
  len h := by obtain ⟨v1, rfl, h1⟩ := h; rfl
  lt h := by obtain ⟨v1, rfl, h1⟩ := h; exact h1.lt
  frame h hF := by obtain ⟨v1, rfl, h1⟩ := h; exact ⟨v1, rfl, h1.frame hF⟩
end Go.Proofs.YtidephmobajikaaGreatDoor
/- Structs of type ReceiveWindow in a walk's state: opened, closed. -/
namespace Go.Proofs.YtidephmobajikaaGreatDoor
open Go.RowKit
section
variable {c : Cx} {fr : Fr} {H : List Pc} {Φ : Gl}
theorem openReceiveWindow {v : Value} {x : ReceiveWindow} {F : List Nat} (h : ∀ (a1 : Option Addr) (c1 : Nat) (F1 : List Nat), v = .agg #[.int .i64 x.next, .slice a1 x.slots.length c1] → x.slots.length ≤ maxLen → T c fr (.sl ESlot (.slice a1 x.slots.length c1) x.slots F1 :: H) Φ) (hm : .isv EReceiveWindow v x F ∈ H := by (repeat (first | exact .head _ | apply List.Mem.tail)); first | done | fail) : T c fr H Φ := .mk fun a w s g => by
  obtain ⟨cs, rfl, v1, rfl, h1⟩ := s.get hm
  obtain ⟨a1, c1, rfl⟩ := h1.slice; have l1 := h1.len
  have t1 := s.ro (p := .sl ESlot (.slice a1 x.slots.length c1) x.slots F) hm rfl rfl ⟨by decide, h1⟩ fun b hb => hb
  exact (h a1 c1 F rfl  l1).h a w t1 g
theorem closeReceiveWindow (x : ReceiveWindow) {a1 : Option Addr} {c1 : Nat} {F1 : List Nat}  (h : T c fr (.isv EReceiveWindow (.agg #[.int .i64 x.next, .slice a1 x.slots.length c1]) x (F1) :: H) Φ) (m1 : .sl ESlot (.slice a1 x.slots.length c1) x.slots F1 ∈ H := by (repeat (first | exact .head _ | apply List.Mem.tail)); first | done | fail) : T c fr H Φ := .mk fun a w s g => by
  have hP : IsV EReceiveWindow w (.agg #[.int .i64 x.next, .slice a1 x.slots.length c1]) x (F1) := ⟨_, rfl, _, rfl, (s.get m1).2⟩
  refine h.h a w (s.add (N := [.isv EReceiveWindow (.agg #[.int .i64 x.next, .slice a1 x.slots.length c1]) x (F1)]) (Below.refl _ _) (by intro q hq; simp at hq; subst hq; exact hP) ⟨by simp, trivial⟩ fun q hq b hb => ?_) g
  simp at hq; subst hq
  simp only [Pc.F, List.mem_append] at hb
  exact .inr ⟨rfl, _, m1, rfl, hb⟩
theorem openOReceiveWindow {v : Value} {x : ReceiveWindow} {F : List Nat} {S : List Pc} (h : ∀ (a1 : Option Addr) (c1 : Nat) (F1 : List Nat), v = .agg #[.int .i64 x.next, .slice a1 x.slots.length c1] → x.slots.length ≤ maxLen → T c fr (.ow ESlot 113 (.slice a1 x.slots.length c1) x.slots F1 :: S) Φ) (hp : Pick H (.own OReceiveWindow v x F) S := by (repeat (first | exact .here | apply Pick.there)); first | done | fail) : T c fr H Φ := .mk fun a w s g => by
  have z1 := s.pick hp
  obtain ⟨hn, cs, rfl, v1, rfl, h1⟩ := z1.on (.own OReceiveWindow v x F) (by simp)
  obtain ⟨a1, c1, rfl⟩ := h1.slice; have l1 := h1.len
  refine (h a1 c1 F rfl  l1).h a w (St.turn (M := [.own OReceiveWindow (.agg #[.int .i64 x.next, .slice a1 x.slots.length c1]) x _]) (N := [.ow ESlot 113 (.slice a1 x.slots.length c1) x.slots F]) z1 (Keep.refl _ w) ?_ ?_ ?_) g
  · intro q hq; simp at hq; subst hq; exact ⟨hn, h1⟩
  · exact ⟨by simp, trivial⟩
  · intro q hq b hb; simp at hq; subst hq; exact .inr (.inl ⟨_, List.mem_singleton.2 rfl, rfl, hb⟩)
theorem closeOReceiveWindow (x : ReceiveWindow) {a1 : Option Addr} {c1 : Nat} {F1 : List Nat} {S1 : List Pc}  (h : T c fr (.own OReceiveWindow (.agg #[.int .i64 x.next, .slice a1 x.slots.length c1]) x (F1) :: S1) Φ) (m1 : Pick H (.ow ESlot 113 (.slice a1 x.slots.length c1) x.slots F1) S1 := by (repeat (first | exact .here | apply Pick.there)); first | done | fail)  : T c fr H Φ := .mk fun a w s g => by
  have z1 : St c.G c.D c.w0 ([.ow ESlot 113 (.slice a1 x.slots.length c1) x.slots F1] ++ S1) w := by simpa using (show Picks H [.ow ESlot 113 (.slice a1 x.slots.length c1) x.slots F1] S1 from Picks.cons m1 (Picks.nil)).st (X := []) (by simpa using s)
  obtain ⟨n1, k1⟩ := z1.on (.ow ESlot 113 (.slice a1 x.slots.length c1) x.slots F1) (by simp)
  have hN := n1
  refine h.h a w (St.turn (M := [.ow ESlot 113 (.slice a1 x.slots.length c1) x.slots F1]) (N := [.own OReceiveWindow (.agg #[.int .i64 x.next, .slice a1 x.slots.length c1]) x (F1)]) z1 (Keep.refl _ w) (by intro q hq; simp at hq; subst hq; exact ⟨hN, _, rfl, _, rfl, k1⟩) ⟨by simp, trivial⟩ fun q hq b hb => ?_) g
  simp at hq; subst hq
  simp only [Pc.F, List.mem_append] at hb
  exact .inr (.inl ⟨_, List.mem_singleton.2 rfl, rfl, hb⟩)
end
end Go.Proofs.YtidephmobajikaaGreatDoor
/- Structs of type Slot in a walk's state: opened, closed. -/
namespace Go.Proofs.YtidephmobajikaaGreatDoor
open Go.RowKit
section
variable {c : Cx} {fr : Fr} {H : List Pc} {Φ : Gl}
theorem openSlot {v : Value} {x : Slot} {F : List Nat} (h : ∀ (_ : Unit), v = .agg #[.bool x.hav, .string x.item] → x.item.size ≤ maxLen → T c fr (H) Φ) (hm : .isv ESlot v x F ∈ H := by (repeat (first | exact .head _ | apply List.Mem.tail)); first | done | fail) : T c fr H Φ := .mk fun a w s g => by
  obtain ⟨cs, rfl, rfl, s1, rfl⟩ := s.get hm
  exact (h () rfl s1 ).h a w s g
theorem atSlot {a : Option Addr} {n cp : Nat} {xs : List Slot} {F : List Nat} (i : Nat) (h : ∀ (hi : i < xs.length) (b o : Nat), a = some ⟨b, o, none⟩ → xs[i].item.size ≤ maxLen → T c fr (.cel b (o + i * 2) [.bool xs[i].hav, .string xs[i].item] :: H) Φ) (hm : .sl ESlot (.slice a n cp) xs F ∈ H := by (repeat (first | exact .head _ | apply List.Mem.tail)); first | done | fail) (hi : i < xs.length := by omega) : T c fr H Φ := .mk fun ac w s g => by
  obtain ⟨b, o, cs, G, ha, hrep, hG, hb, hne, hr⟩ := sl_at (s.get hm) i hi
  obtain ⟨rfl, s1, rfl⟩ := hrep
  exact (h hi b o  ha s1 ).h ac w (s.ro hm rfl rfl ⟨hne, hr⟩ (by intro x hx; simp [Pc.F] at hx; subst hx; exact hb)) g
theorem focSlot {t : TypeId} {a : Option Addr} {n cp : Nat} {xs : List Slot} {F : List Nat} {S : List Pc} (i : Nat) (h : ∀ (_ : i < xs.length) g A B, a = some ⟨g, 0, none⟩ → F = [g] → xs[i].item.size ≤ maxLen → Hole ESlot t g (.slice (some ⟨g, 0, none⟩) n cp) xs i A B → T c fr (.row g t (0 + i * 2) A [.bool xs[i].hav, .string xs[i].item] B :: S) Φ) (hp : Pick H (.ow ESlot t (.slice a n cp) xs F) S := by (repeat (first | exact .here | apply Pick.there)); first | done | fail) (hi : i < xs.length := by omega) : T c fr H Φ :=
  focF scal_ESlot i (fun hi g A cs B ha hF hr hh => by obtain ⟨rfl, s1, -⟩ := hr default; exact h hi g A B ha hF s1 hh) hp rfl hi
end
end Go.Proofs.YtidephmobajikaaGreatDoor
/- Walks of the small functions on elements: serials, clocks, faces. -/
namespace Go.Proofs.YtidephmobajikaaGreatDoor
open Go.RowKit

def isSer (x : Int) : Bool := btw 0 x 65535
theorem IsSerial_c (x : Int) (w : World) : Calls Tryz.prog 69 #[.int .i64 x] w fun e w' => e = .returned (.bool (isSer x)) ∧ w = w' := by
  go_enter Tryz.func69, Tryz.ntmps69
  go_wp2_with (go_at_call 102; refine (within_c _ _ _ _).mono ?_; rintro e w' ⟨rfl, rfl⟩)
  go_ret
  exact ⟨rfl, rfl⟩
theorem l2Good_c (x : Int) (w : World) : Calls Tryz.prog 66 #[.int .i64 x] w fun e w' => e = .returned (.bool (isSer x)) ∧ w = w' := by
  go_enter Tryz.func66, Tryz.ntmps66
  go_wp2_with (go_at_call 135; refine (l1In_c _ _ _ _).mono ?_; rintro e w' ⟨rfl, rfl⟩)
  go_ret
  exact ⟨rfl, rfl⟩
end Go.Proofs.YtidephmobajikaaGreatDoor
/- Walks: serials: what lies behind, gaps, what is before what. -/
namespace Go.Proofs.YtidephmobajikaaGreatDoor
open Go.RowKit

theorem isSer_iff {x : Int} : isSer x = true ↔ 0 ≤ x ∧ x ≤ 65535 := by unfold isSer btw; simp
/-- the serial n steps behind x -/
def aft (x n : Int) : Int := (x + n) % 65536
/-- the gap from a to b -/
def gp (a b : Int) : Int := (b - a) % 65536
def bef (a b : Int) : Bool := btw 1 (gp a b) 32767
theorem gp_bd (a b : Int) : 0 ≤ gp a b ∧ gp a b ≤ 65535 := by unfold gp; omega
theorem aft_bd (a b : Int) : 0 ≤ aft a b ∧ aft a b ≤ 65535 := by unfold aft; omega
theorem aft_ser (a b : Int) : isSer (aft a b) = true := isSer_iff.2 (aft_bd a b)
theorem tmod_twice (z : Int) : ((z.tmod 65536) + 65536).tmod 65536 = z % 65536 := by
  rw [Int.tmod_eq_emod (a := z.tmod 65536 + 65536), Int.tmod_eq_emod]
  split <;> split <;> omega
theorem tmod_bd (z : Int) : -65535 ≤ z.tmod 65536 ∧ z.tmod 65536 ≤ 65535 := by
  rw [Int.tmod_eq_emod]
  split <;> omega
theorem after_c (x n : Int) (w : World) (h0 : -4611686018427387904 ≤ x + n) (h1 : x + n ≤ 4611686018427387904) :
    Calls Tryz.prog 144 #[.int .i64 x, .int .i64 n] w fun e w' => e = .returned (.int .i64 (aft x n)) ∧ w = w' := by
  have hb := tmod_bd (x + n)
  have hb1 := hb.1
  have hb2 := hb.2
  clear hb
  by_cases hz : 0 ≤ x + n
  · go_enter Tryz.func144, Tryz.ntmps144
    go_wp2
    go_ret
    exact ⟨ret_int (by unfold aft; omega), rfl⟩
  · have ht := tmod_twice (x + n)
    have ht := Lib.hid ht
    go_enter Tryz.func144, Tryz.ntmps144
    go_wp2
    go_ret
    refine ⟨ret_int ?_, rfl⟩
    have := ht.out
    rw [Int.tmod_eq_emod (a := (x + n).tmod 65536 + 65536)] at this
    unfold aft
    split at this <;> omega
theorem gap_c (a b : Int) (w : World) (h0 : -4611686018427387904 ≤ b - a) (h1 : b - a ≤ 4611686018427387904) (ha : -4611686018427387904 ≤ a) (ha' : a ≤ 4611686018427387904) :
    Calls Tryz.prog 80 #[.int .i64 a, .int .i64 b] w fun e w' => e = .returned (.int .i64 (gp a b)) ∧ w = w' := by
  go_enter Tryz.func80, Tryz.ntmps80
  go_wp2_with fail
  refine (after_c b (-a) _ (by omega) (by omega)).mono ?_
  rintro e w' ⟨rfl, rfl⟩
  go_wp2_with fail
  go_ret
  exact ⟨ret_int (by unfold aft gp; omega), rfl⟩
theorem isBefore_c (a b : Int) (w : World) (h0 : -4611686018427387904 ≤ b - a) (h1 : b - a ≤ 4611686018427387904) (ha : -4611686018427387904 ≤ a) (ha' : a ≤ 4611686018427387904) :
    Calls Tryz.prog 138 #[.int .i64 a, .int .i64 b] w fun e w' => e = .returned (.bool (bef a b)) ∧ w = w' := by
  go_enter Tryz.func138, Tryz.ntmps138
  go_wp2_with fail
  refine (gap_c a b _ h0 h1 ha ha').mono ?_
  rintro e w' ⟨rfl, rfl⟩
  go_wp2_with fail
  refine (within_c _ _ _ _).mono ?_
  rintro e w' ⟨rfl, rfl⟩
  go_wp2_with fail
  go_ret
  exact ⟨rfl, rfl⟩
theorem l2After_c (x n : Int) (w : World) (h0 : -131072 ≤ x + n) (h1 : x + n ≤ 4611686018427387904) :
    Calls Tryz.prog 134 #[.int .i64 x, .int .i64 n] w fun e w' => e = .returned (.int .i64 (aft x n)) ∧ w = w' := by
  have h2 : 0 ≤ x + n + 131072 := by omega
  go_enter Tryz.func134, Tryz.ntmps134
  go_wp2
  go_ret
  exact ⟨ret_int (by unfold aft; omega), rfl⟩
theorem l2Gap_c (a b : Int) (w : World) (h0 : -65536 ≤ b - a) (h1 : b - a ≤ 4611686018427387904) :
    Calls Tryz.prog 82 #[.int .i64 a, .int .i64 b] w fun e w' => e = .returned (.int .i64 (gp a b)) ∧ w = w' := by
  have h2 : 0 ≤ b - a + 65536 := by omega
  go_enter Tryz.func82, Tryz.ntmps82
  go_wp2
  go_ret
  exact ⟨ret_int (by unfold gp; omega), rfl⟩
theorem l2Before_c (a b : Int) (w : World) (h0 : -65536 ≤ b - a) (h1 : b - a ≤ 4611686018427387904) :
    Calls Tryz.prog 141 #[.int .i64 a, .int .i64 b] w fun e w' => e = .returned (.bool (bef a b)) ∧ w = w' := by
  go_enter Tryz.func141, Tryz.ntmps141
  go_wp2_with fail
  refine (l2Gap_c a b _ h0 h1).mono ?_
  rintro e w' ⟨rfl, rfl⟩
  go_wp2_with fail
  refine (l1In_c _ _ _ _).mono ?_
  rintro e w' ⟨rfl, rfl⟩
  go_wp2_with fail
  go_ret
  exact ⟨rfl, rfl⟩
end Go.Proofs.YtidephmobajikaaGreatDoor
/- Walks: items: texts of at most eight small letters. -/
namespace Go.Proofs.YtidephmobajikaaGreatDoor
open Go.RowKit Go.Shelf

def low (b : UInt8) : Bool := btw 97 b.toNat 122
def lows (l : List UInt8) : Bool := l.all low
def itm (s : ByteArray) : Bool := decide ((s.size : Int) ≤ 8) && lows s.data.toList
def abc : List UInt8 := [97, 98, 99, 100, 101, 102, 103, 104, 105, 106, 107, 108, 109, 110, 111, 112, 113, 114, 115, 116, 117, 118, 119, 120, 121, 122]
theorem abc_low (b : UInt8) : abc.contains b = low b := by
  have h : ∀ n : Fin 256, abc.contains (UInt8.ofNat n.val) = low (UInt8.ofNat n.val) := by decide +kernel
  have := h ⟨b.toNat, b.toNat_lt⟩
  simpa using this
theorem dropWhile_nil {α : Type} (p : α → Bool) (l : List α) : l.dropWhile p = [] ↔ l.all p = true := by
  induction l with
  | nil => simp
  | cons x r ih => rw [List.dropWhile_cons]; cases h : p x <;> simp [h, ih]
theorem all_dropWhile {α : Type} (p : α → Bool) (l : List α) : (l.dropWhile p).all p = l.all p := by
  induction l with
  | nil => simp
  | cons x r ih => rw [List.dropWhile_cons]; cases h : p x <;> simp [h, ih]
theorem trimS_nil (l cs : List UInt8) : (Lib.trimS l cs = []) ↔ l.all (cs.contains ·) = true := by
  unfold Lib.trimS Lib.trimLeftS Lib.trimRightS
  rw [dropWhile_nil, List.all_reverse, all_dropWhile, List.all_reverse]
theorem trim_abc (l : List UInt8) : (Lib.trimS l abc == []) = lows l := by
  rw [Bool.eq_iff_iff, beq_iff_eq, trimS_nil]
  unfold lows
  rw [show (fun b => abc.contains b) = low from funext abc_low]
set_option maxHeartbeats 400000 in
theorem isItem_c (s : ByteArray) (w : World) (hs : s.size ≤ maxLen) :
    Calls Tryz.prog 70 #[.string s] w fun e w' => e = .returned (.bool (itm s)) ∧ Below w.heap.size w w' := by
  unfold maxLen at hs
  have hc := fun w => Any.strings_Trim_laid Tryz.lays160 (by kernel_rfl) s ⟨abc.toArray⟩ w hs (by decide) (ascii_of_all (by decide))
  change ∀ w, Calls Tryz.prog 136 #[.string s, .string ⟨abc.toArray⟩] w (fun e w' => e = .returned (.string ⟨(Lib.trimS s.data.toList abc).toArray⟩) ∧ Below w.heap.size w w') at hc
  have ht := trim_abc s.data.toList
  replace hc := Lib.hid hc
  by_cases h8 : s.size ≤ 8
  · generalize Lib.trimS s.data.toList abc = t at *
    have hi : itm s = (t == []) := by unfold itm; rw [ht, decide_eq_true (by omega)]; rfl
    replace hi := Lib.hid hi
    clear ht
    cases t with
    | nil =>
      go_enter Tryz.func70, Tryz.ntmps70
      go_wp2_with fail
      refine (hc.out _).mono ?_
      rintro e w1 ⟨rfl, hb⟩
      go_wp2_with fail
      go_ret
      exact ⟨ret_bool hi.out.symm, hb⟩
    | cons a r =>
      go_enter Tryz.func70, Tryz.ntmps70
      go_wp2_with fail
      refine (hc.out _).mono ?_
      rintro e w1 ⟨rfl, hb⟩
      go_wp2_with fail
      go_ret
      exact ⟨ret_bool hi.out.symm, hb⟩
  · have hi : itm s = false := by unfold itm; rw [decide_eq_false (by omega)]; rfl
    replace hi := Lib.hid hi
    go_enter Tryz.func70, Tryz.ntmps70
    go_wp2_with fail
    go_ret
    exact ⟨ret_bool hi.out.symm, Below.refl _ _⟩
theorem lows_drop (s : ByteArray) (k : Nat) (h : k < s.size) : lows (s.data.toList.drop k) = (low s[k] && lows (s.data.toList.drop (k + 1))) := by rw [drop_at s k h]; rfl
set_option maxHeartbeats 400000 in
theorem l4Letters_c (s : ByteArray) (n : Int) (w : World) (hs : s.size ≤ maxLen) :
    Calls Tryz.prog 74 #[.string s, .int .i64 n] w fun e w' => e = .returned (.bool (decide ((s.size : Int) ≤ n) && lows s.data.toList)) ∧ w = w' := by
  unfold maxLen at hs
  go_enter Tryz.func74, Tryz.ntmps74
  go_wp2
  go_loop [5] (fun i => ∃ k : Nat, k ≤ s.size ∧ i = .int .i64 k ∧ Hid (lows s.data.toList = lows (s.data.toList.drop k))) (fun i => s.size - (intOf i).toNat)
  case atStart => exact ⟨0, Nat.zero_le _, rfl, rfl⟩
  case round =>
    obtain ⟨k, hk, rfl, hz⟩ := hrel
    by_cases hlt : k < s.size
    · have hz := Lib.hid (hz.out.trans (lows_drop s k hlt))
      have hb : (s[k].toNat : Int) ≤ 255 := by have := s[k].toNat_lt; omega
      cases hl : low s[k]
      · have hl1 : low s[k] = false := hl
        unfold low btw at hl
        by_cases h1 : (s[k].toNat : Int) < 97
        · clear hl
          go_wp2
          go_ret
          exact ⟨ret_bool (by rw [hz.out, hl1]; simp), rfl⟩
        · have h2 : (122 : Int) < s[k].toNat := by simp at hl; omega
          clear hl
          go_wp2
          go_ret
          exact ⟨ret_bool (by rw [hz.out, hl1]; simp), rfl⟩
      · have hl1 : low s[k] = true := hl
        unfold low btw at hl
        simp only [Bool.and_eq_true, decide_eq_true_eq] at hl
        have h1 : ¬ (s[k].toNat : Int) < 97 := by omega
        have h2 : ¬ (122 : Int) < s[k].toNat := by omega
        clear hl
        replace hl1 := Lib.hid hl1
        go_wp2
        go_round
        case rel => exact ⟨k + 1, by omega, by go_num, by refine Lib.hid ?_; rw [hz.out, hl1.out]; rfl⟩
        case measure => simp [intOf]; omega
    · go_wp2
      go_ret
      exact ⟨ret_bool (by rw [hz.out, drop_end s k hlt]; simp [lows]), rfl⟩
end Go.Proofs.YtidephmobajikaaGreatDoor
/- Walks of Go's generic library functions on slices of impl.Slot. Written by wip/genlib.py. -/
namespace Go.Proofs.YtidephmobajikaaGreatDoor
open Go.RowKit
set_option maxHeartbeats 800000 in
set_option maxRecDepth 100000 in
theorem IndexFunc_Slot (fid : FuncId) (hbd : Body Tryz.prog fid) (caps : Array Value) (v : Value) (xs : List Slot) (F : List Nat) (p : Slot → Bool) (w : World) (h : Sl ESlot w v xs F)
    (hp : ∀ (k : Nat) (hk : k < xs.length) (wr : World) (u : Value) (G : List Nat), Below w.heap.size w wr → IsV ESlot wr u xs[k] G → Calls Tryz.prog fid (#[u] ++ caps) wr fun e w' => e = .returned (.bool (p xs[k])) ∧ Below wr.heap.size wr w') :
    Calls Tryz.prog 143 #[v, .func (.func fid) #[] caps] w fun e w' => e = .returned (.int .i64 (fidx p xs)) ∧ Below w.heap.size w w' := by
  obtain ⟨a, cap, rfl⟩ := h.slice
  have hl := h.len
  unfold maxLen at hl
  go_enter Tryz.func143, Tryz.ntmps143
  go_wp2
  go_loopw [5, 8] (fun _ i wr => ∃ k : Nat, k ≤ xs.length ∧ i = .int .i64 k ∧ Hid (∀ j, j < k → ∀ hj : j < xs.length, p xs[j] = false) ∧ Below w.heap.size w wr) (fun _ i _ => xs.length - (intOf i).toNat)
  case atStart => exact ⟨0, Nat.zero_le _, rfl, fun j hj => by omega, Below.refl _ _⟩
  case round =>
    obtain ⟨k, hk, rfl, hz, hB⟩ := hrel
    by_cases hlt : k < xs.length
    · have hz0 := hz; clear hz
      obtain ⟨b, off, _, F1, rfl, hx, -, ja⟩ := (h.below (by decide) hB).at k hlt
      obtain ⟨rfl, s1, rfl⟩ := id hx
      have a0 := ja 0 (by decide)
      have a1 := ja 1 (by decide)
      simp only [show ESlot.sz = 2 from rfl, Nat.mul_one, Nat.add_zero, List.getElem?_cons_zero, List.getElem?_cons_succ] at a0 a1
      clear ja
      have hr := hp k hlt wr _ _ hB ⟨_, rfl, hx⟩
      have hp := Lib.hid hp
      cases hpk : p xs[k]
      all_goals
        rw [hpk] at hr
        have hpk := Lib.hid hpk
        have hr := Lib.hid hr
        go_wp2_with fail
        refine hbd.upon hr.out ?_
        rintro e w1 ⟨rfl, hb1⟩
        refine ⟨_, rfl, ?_⟩
        have hB := tr hB hb1 (Nat.le_refl _)
        clear hb1
        go_wp2_with fail
      · exact ⟨⟨k + 1, by omega, by go_num, fun j hj hl => by rcases Nat.lt_or_eq_of_le (Nat.le_of_lt_succ hj) with h | h; exact hz0.out j h hl; subst h; exact hpk.out, hB⟩, by simp [intOf]; omega⟩
      · go_ret
        exact ⟨ret_int (fidx_hit hlt hz0.out hpk.out).symm, hB⟩
    · go_wp2
      go_ret
      exact ⟨ret_int (fidx_none (fun j hj => hz.out j (by omega) hj)).symm, hB⟩
theorem ContainsFunc_Slot (fid : FuncId) (hbd : Body Tryz.prog fid) (caps : Array Value) (v : Value) (xs : List Slot) (F : List Nat) (p : Slot → Bool) (w : World) (h : Sl ESlot w v xs F)
    (hp : ∀ (k : Nat) (hk : k < xs.length) (wr : World) (u : Value) (G : List Nat), Below w.heap.size w wr → IsV ESlot wr u xs[k] G → Calls Tryz.prog fid (#[u] ++ caps) wr fun e w' => e = .returned (.bool (p xs[k])) ∧ Below wr.heap.size wr w') :
    Calls Tryz.prog 77 #[v, .func (.func fid) #[] caps] w fun e w' => e = .returned (.bool (xs.any p)) ∧ Below w.heap.size w w' := by
  have hp := Lib.hid hp
  go_enter Tryz.func77, Tryz.ntmps77
  go_wp2_with fail
  refine (IndexFunc_Slot fid hbd caps v xs F p _ h hp.out).mono ?_
  rintro e w1 ⟨rfl, hb1⟩
  go_wp2_with fail
  go_ret
  exact ⟨ret_bool (fidx_any p xs), hb1⟩
theorem Clone_Slot (v : Value) (xs : List Slot) (F : List Nat) (w : World) (h : Sl ESlot w v xs F) (hm : xs.length ≤ 4294967296) :
    Calls Tryz.prog 137 #[v] w (RetNew ESlot 113 xs w) := by
  obtain ⟨ao, c, news, Fy, rfl, hl, hfy, hFy, hsrc⟩ := h.src
  have hFl := hfy.lt
  have he := fun w (a : Option Addr) (n c : Nat) => Lib.run_eql_slice_nil (P := Tryz.prog) w 24 _ a n c 0 0 Tryz.underlying24
  go_enter Tryz.func137, Tryz.ntmps137
  rcases hsrc with ⟨rfl, rfl, rfl⟩ | ⟨ad, rfl, hn⟩
  · go_wp2
    go_ret
    exact ⟨.slice none 0 0, [], rfl, .inl ⟨rfl, rfl, rfl⟩, by simp, by simp, Below.refl _ _⟩
  · go_wp2_with (at_builtin; refine wpList_apd one_ESlot (by decide) (by rfl) _ _ _ (by rfl) 113 (.agg #[.bool false, .string ⟨#[]⟩]) 24 Tryz.underlying24 info_Slot rfl (.slice (some ⟨w.heap.size, 0, none⟩) 0 0) [] [w.heap.size] (by rfl) (Ow.empty (Row.made _ _ _)) (Hd.one _) (some ad) xs c (by rfl) news Fy (hfy.frame fun b hb => Below.heap_alloc _ _ _ (hFl b hb)) (.inr ⟨ad, rfl, fun j u hu => kc ((Below.refl _ _).alloc (Nat.le_refl _) _) (hn j u hu)⟩) (fun b hb e => by have := hFl b hb; simp [Value.ownBlock] at e; omega) (by simpa using hl) (by unfold maxLen at hl; simp; omega) ?_)
    intro v2 w2 F2 hA
    go_wp2_with fail
    go_ret
    have hB : Below w.heap.size w w2 := ((Below.refl _ _).alloc (Nat.le_refl _) _).trans (hA.keep.below (by simp) (by simp))
    have hs : ∀ b, v2.ownBlock = some b → w.heap.size ≤ b := fun b hb => by rcases hA.same with e | e <;> rw [e] at hb <;> simp [Value.ownBlock] at hb <;> omega
    refine ⟨v2, F2, rfl, by simpa using hA.ow, hA.ow.scal scal_ESlot ▸ ?_, fun b hb => ?_, hB⟩
    · cases v2.ownBlock <;> simp
    · rw [hA.ow.scal scal_ESlot] at hb; exact hs b (by simpa using hb)
end Go.Proofs.YtidephmobajikaaGreatDoor
/- Receive windows: the check, what is there. -/
namespace Go.Proofs.YtidephmobajikaaGreatDoor
open Go.RowKit
def okSlot (s : Slot) : Bool := itm s.item && (s.hav || decide (s.item = ⟨#[]⟩))
def havAt (l : List Slot) (k : Nat) : Bool := match l[k]? with | some s => s.hav | none => false
def ends (l : List Slot) : Bool := decide (l.length = 0) || (!havAt l 0 && havAt l (l.length - 1))
def goodRW (x : ReceiveWindow) : Bool := isSer x.next && decide ((x.slots.length : Int) ≤ 8) && x.slots.all okSlot && ends x.slots
theorem havAt_lt {l : List Slot} {k : Nat} (h : k < l.length) : havAt l k = l[k].hav := by unfold havAt; rw [List.getElem?_eq_getElem h]
theorem havAt_ge {l : List Slot} {k : Nat} (h : l.length ≤ k) : havAt l k = false := by unfold havAt; rw [List.getElem?_eq_none h]
def hasB (x : ReceiveWindow) (k : Int) : Bool := havAt x.slots (gp x.next k).toNat
set_option maxRecDepth 100000 in
theorem RWhas_f (x : ReceiveWindow) (k : Int) (v : Value) (F : List Nat) (h0 : 0 ≤ x.next) (h1 : x.next ≤ 65535) (h2 : 0 ≤ k) (h3 : k ≤ 65535) :
    Fn Tryz.prog 139 [v, .int .i64 k] [.isv EReceiveWindow v x F] [] (fun (_ : Unit) => True) (fun _ => .bool (hasB x k)) (fun _ => []) := by
  refine enter Tryz.func139 rfl Tryz.ntmps139 fun w0 => ?_
  refine openReceiveWindow ?_
  rintro a1 c1 F1 rfl l1
  unfold maxLen at l1
  have hg := gp_bd x.next k
  repeat (first | apply c_seq | apply c_reg | (apply wO; apply oc; rfl; exact ydE) | apply w_nil | apply n_cd | (apply wg_t; rfl; rfl) | (apply wg_f; rfl; rfl; rfl; rfl) | (apply wg_u; rfl; rfl; rfl) | (apply c_t; rfl) | (apply c_f; rfl) | apply c_skip | apply c_block | apply n_blk | apply c_exit | apply e_hit | apply e_cd | apply e_lp | (apply e_miss; rfl) | apply c_ret | (apply wO; apply o_box; rfl; rfl; rfl; intro _) | (apply wO; apply o_alloc; rfl; intro _) | (apply wO; apply o_st; rfl; rfl; rfl; (first | exact AggC.s | exact OneC.s); rfl; exact rplE; exact putE; rfl) | (apply wO; apply o_bs0; rfl; intro _) | (apply wO; apply o_bs; rfl; rfl; rfl; rfl; exact rptE; exact filE; intro _) | (apply wO; apply o_call; rfl; kernel_rfl; exact evsE))
  refine ce (fun w s => gap_c _ _ _ (by omega) (by omega) (by omega) (by omega)) ?_
  repeat (first | apply c_seq | apply c_reg | (apply wO; apply oc; rfl; exact ydE) | apply w_nil | apply n_cd | (apply wg_t; rfl; rfl) | (apply wg_f; rfl; rfl; rfl; rfl) | (apply wg_u; rfl; rfl; rfl) | (apply c_t; rfl) | (apply c_f; rfl) | apply c_skip | apply c_block | apply n_blk | apply c_exit | apply e_hit | apply e_cd | apply e_lp | (apply e_miss; rfl) | apply c_ret | (apply wO; apply o_box; rfl; rfl; rfl; intro _) | (apply wO; apply o_alloc; rfl; intro _) | (apply wO; apply o_st; rfl; rfl; rfl; (first | exact AggC.s | exact OneC.s); rfl; exact rplE; exact putE; rfl) | (apply wO; apply o_bs0; rfl; intro _) | (apply wO; apply o_bs; rfl; rfl; rfl; rfl; exact rptE; exact filE; intro _) | (apply wO; apply o_call; rfl; kernel_rfl; exact evsE))
  refine wg_if rfl rfl (fun h => ?_) (fun h => ?_)
  · refine atSlot (gp x.next k).toNat ?_
    rintro hi b o rfl s1
    repeat (first | apply c_seq | apply c_reg | (apply wO; apply oc; rfl; exact ydE) | apply w_nil | apply n_cd | (apply wg_t; rfl; rfl) | (apply wg_f; rfl; rfl; rfl; rfl) | (apply wg_u; rfl; rfl; rfl) | (apply c_t; rfl) | (apply c_f; rfl) | apply c_skip | apply c_block | apply n_blk | apply c_exit | apply e_hit | apply e_cd | apply e_lp | (apply e_miss; rfl) | apply c_ret | (apply wO; apply o_box; rfl; rfl; rfl; intro _) | (apply wO; apply o_alloc; rfl; intro _) | (apply wO; apply o_st; rfl; rfl; rfl; (first | exact AggC.s | exact OneC.s); rfl; exact rplE; exact putE; rfl) | (apply wO; apply o_bs0; rfl; intro _) | (apply wO; apply o_bs; rfl; rfl; rfl; rfl; exact rptE; exact filE; intro _) | (apply wO; apply o_call; rfl; kernel_rfl; exact evsE))
    refine ret () trivial ?_
    unfold hasB; rw [havAt_lt hi]; rfl
  · repeat (first | apply c_seq | apply c_reg | (apply wO; apply oc; rfl; exact ydE) | apply w_nil | apply n_cd | (apply wg_t; rfl; rfl) | (apply wg_f; rfl; rfl; rfl; rfl) | (apply wg_u; rfl; rfl; rfl) | (apply c_t; rfl) | (apply c_f; rfl) | apply c_skip | apply c_block | apply n_blk | apply c_exit | apply e_hit | apply e_cd | apply e_lp | (apply e_miss; rfl) | apply c_ret | (apply wO; apply o_box; rfl; rfl; rfl; intro _) | (apply wO; apply o_alloc; rfl; intro _) | (apply wO; apply o_st; rfl; rfl; rfl; (first | exact AggC.s | exact OneC.s); rfl; exact rplE; exact putE; rfl) | (apply wO; apply o_bs0; rfl; intro _) | (apply wO; apply o_bs; rfl; rfl; rfl; rfl; exact rptE; exact filE; intro _) | (apply wO; apply o_call; rfl; kernel_rfl; exact evsE))
    refine ret () trivial ?_
    unfold hasB; rw [havAt_ge (by omega)]; rfl
set_option maxRecDepth 100000 in
theorem RWok_f (x : Slot) (v : Value) (F : List Nat) : Fn Tryz.prog 78 [v] [.isv ESlot v x F] [] (fun (_ : Unit) => True) (fun _ => .bool (!okSlot x)) (fun _ => []) := by
  refine enter Tryz.func78 rfl Tryz.ntmps78 fun w0 => ?_
  refine openSlot ?_
  rintro _ rfl s1
  repeat (first | apply c_seq | apply c_reg | (apply wO; apply oc; rfl; exact ydE) | apply w_nil | apply n_cd | (apply wg_t; rfl; rfl) | (apply wg_f; rfl; rfl; rfl; rfl) | (apply wg_u; rfl; rfl; rfl) | (apply c_t; rfl) | (apply c_f; rfl) | apply c_skip | apply c_block | apply n_blk | apply c_exit | apply e_hit | apply e_cd | apply e_lp | (apply e_miss; rfl) | apply c_ret | (apply wO; apply o_box; rfl; rfl; rfl; intro _) | (apply wO; apply o_alloc; rfl; intro _) | (apply wO; apply o_st; rfl; rfl; rfl; (first | exact AggC.s | exact OneC.s); rfl; exact rplE; exact putE; rfl) | (apply wO; apply o_bs0; rfl; intro _) | (apply wO; apply o_bs; rfl; rfl; rfl; rfl; exact rptE; exact filE; intro _) | (apply wO; apply o_call; rfl; kernel_rfl; exact evsE))
  refine cb (fun w s => isItem_c _ _ s1) ?_
  cases g : itm x.item
  · repeat (first | apply c_seq | apply c_reg | (apply wO; apply oc; rfl; exact ydE) | apply w_nil | apply n_cd | (apply wg_t; rfl; rfl) | (apply wg_f; rfl; rfl; rfl; rfl) | (apply wg_u; rfl; rfl; rfl) | (apply c_t; rfl) | (apply c_f; rfl) | apply c_skip | apply c_block | apply n_blk | apply c_exit | apply e_hit | apply e_cd | apply e_lp | (apply e_miss; rfl) | apply c_ret | (apply wO; apply o_box; rfl; rfl; rfl; intro _) | (apply wO; apply o_alloc; rfl; intro _) | (apply wO; apply o_st; rfl; rfl; rfl; (first | exact AggC.s | exact OneC.s); rfl; exact rplE; exact putE; rfl) | (apply wO; apply o_bs0; rfl; intro _) | (apply wO; apply o_bs; rfl; rfl; rfl; rfl; exact rptE; exact filE; intro _) | (apply wO; apply o_call; rfl; kernel_rfl; exact evsE))
    refine ret () trivial ?_
    simp [okSlot, g, tup]
  repeat (first | apply c_seq | apply c_reg | (apply wO; apply oc; rfl; exact ydE) | apply w_nil | apply n_cd | (apply wg_t; rfl; rfl) | (apply wg_f; rfl; rfl; rfl; rfl) | (apply wg_u; rfl; rfl; rfl) | (apply c_t; rfl) | (apply c_f; rfl) | apply c_skip | apply c_block | apply n_blk | apply c_exit | apply e_hit | apply e_cd | apply e_lp | (apply e_miss; rfl) | apply c_ret | (apply wO; apply o_box; rfl; rfl; rfl; intro _) | (apply wO; apply o_alloc; rfl; intro _) | (apply wO; apply o_st; rfl; rfl; rfl; (first | exact AggC.s | exact OneC.s); rfl; exact rplE; exact putE; rfl) | (apply wO; apply o_bs0; rfl; intro _) | (apply wO; apply o_bs; rfl; rfl; rfl; rfl; exact rptE; exact filE; intro _) | (apply wO; apply o_call; rfl; kernel_rfl; exact evsE))
  cases g2 : x.hav
  · repeat (first | apply c_seq | apply c_reg | (apply wO; apply oc; rfl; exact ydE) | apply w_nil | apply n_cd | (apply wg_t; rfl; rfl) | (apply wg_f; rfl; rfl; rfl; rfl) | (apply wg_u; rfl; rfl; rfl) | (apply c_t; rfl) | (apply c_f; rfl) | apply c_skip | apply c_block | apply n_blk | apply c_exit | apply e_hit | apply e_cd | apply e_lp | (apply e_miss; rfl) | apply c_ret | (apply wO; apply o_box; rfl; rfl; rfl; intro _) | (apply wO; apply o_alloc; rfl; intro _) | (apply wO; apply o_st; rfl; rfl; rfl; (first | exact AggC.s | exact OneC.s); rfl; exact rplE; exact putE; rfl) | (apply wO; apply o_bs0; rfl; intro _) | (apply wO; apply o_bs; rfl; rfl; rfl; rfl; exact rptE; exact filE; intro _) | (apply wO; apply o_call; rfl; kernel_rfl; exact evsE))
    refine ret () trivial ?_
    simp [okSlot, g, g2, tup]
  · repeat (first | apply c_seq | apply c_reg | (apply wO; apply oc; rfl; exact ydE) | apply w_nil | apply n_cd | (apply wg_t; rfl; rfl) | (apply wg_f; rfl; rfl; rfl; rfl) | (apply wg_u; rfl; rfl; rfl) | (apply c_t; rfl) | (apply c_f; rfl) | apply c_skip | apply c_block | apply n_blk | apply c_exit | apply e_hit | apply e_cd | apply e_lp | (apply e_miss; rfl) | apply c_ret | (apply wO; apply o_box; rfl; rfl; rfl; intro _) | (apply wO; apply o_alloc; rfl; intro _) | (apply wO; apply o_st; rfl; rfl; rfl; (first | exact AggC.s | exact OneC.s); rfl; exact rplE; exact putE; rfl) | (apply wO; apply o_bs0; rfl; intro _) | (apply wO; apply o_bs; rfl; rfl; rfl; rfl; exact rptE; exact filE; intro _) | (apply wO; apply o_call; rfl; kernel_rfl; exact evsE))
    refine ret () trivial ?_
    simp [okSlot, g, g2, tup]
set_option maxRecDepth 100000 in
theorem RWgood_f (x : ReceiveWindow) (v : Value) (F : List Nat) : Fn Tryz.prog 13 [v] [.isv EReceiveWindow v x F] [] (fun (_ : Unit) => True) (fun _ => .bool (goodRW x)) (fun _ => []) := by
  refine enter Tryz.func13 rfl Tryz.ntmps13 fun w0 => ?_
  refine openReceiveWindow ?_
  rintro a1 c1 F1 rfl l1
  unfold maxLen at l1
  repeat (first | apply c_seq | apply c_reg | (apply wO; apply oc; rfl; exact ydE) | apply w_nil | apply n_cd | (apply wg_t; rfl; rfl) | (apply wg_f; rfl; rfl; rfl; rfl) | (apply wg_u; rfl; rfl; rfl) | (apply c_t; rfl) | (apply c_f; rfl) | apply c_skip | apply c_block | apply n_blk | apply c_exit | apply e_hit | apply e_cd | apply e_lp | (apply e_miss; rfl) | apply c_ret | (apply wO; apply o_box; rfl; rfl; rfl; intro _) | (apply wO; apply o_alloc; rfl; intro _) | (apply wO; apply o_st; rfl; rfl; rfl; (first | exact AggC.s | exact OneC.s); rfl; exact rplE; exact putE; rfl) | (apply wO; apply o_bs0; rfl; intro _) | (apply wO; apply o_bs; rfl; rfl; rfl; rfl; exact rptE; exact filE; intro _) | (apply wO; apply o_call; rfl; kernel_rfl; exact evsE))
  refine ce (fun w s => IsSerial_c _ _) ?_
  cases g1 : isSer x.next
  · repeat (first | apply c_seq | apply c_reg | (apply wO; apply oc; rfl; exact ydE) | apply w_nil | apply n_cd | (apply wg_t; rfl; rfl) | (apply wg_f; rfl; rfl; rfl; rfl) | (apply wg_u; rfl; rfl; rfl) | (apply c_t; rfl) | (apply c_f; rfl) | apply c_skip | apply c_block | apply n_blk | apply c_exit | apply e_hit | apply e_cd | apply e_lp | (apply e_miss; rfl) | apply c_ret | (apply wO; apply o_box; rfl; rfl; rfl; intro _) | (apply wO; apply o_alloc; rfl; intro _) | (apply wO; apply o_st; rfl; rfl; rfl; (first | exact AggC.s | exact OneC.s); rfl; exact rplE; exact putE; rfl) | (apply wO; apply o_bs0; rfl; intro _) | (apply wO; apply o_bs; rfl; rfl; rfl; rfl; exact rptE; exact filE; intro _) | (apply wO; apply o_call; rfl; kernel_rfl; exact evsE))
    refine ret () trivial ?_
    simp [goodRW, g1, tup]
  repeat (first | apply c_seq | apply c_reg | (apply wO; apply oc; rfl; exact ydE) | apply w_nil | apply n_cd | (apply wg_t; rfl; rfl) | (apply wg_f; rfl; rfl; rfl; rfl) | (apply wg_u; rfl; rfl; rfl) | (apply c_t; rfl) | (apply c_f; rfl) | apply c_skip | apply c_block | apply n_blk | apply c_exit | apply e_hit | apply e_cd | apply e_lp | (apply e_miss; rfl) | apply c_ret | (apply wO; apply o_box; rfl; rfl; rfl; intro _) | (apply wO; apply o_alloc; rfl; intro _) | (apply wO; apply o_st; rfl; rfl; rfl; (first | exact AggC.s | exact OneC.s); rfl; exact rplE; exact putE; rfl) | (apply wO; apply o_bs0; rfl; intro _) | (apply wO; apply o_bs; rfl; rfl; rfl; rfl; exact rptE; exact filE; intro _) | (apply wO; apply o_call; rfl; kernel_rfl; exact evsE))
  refine c_if rfl (fun h => ?_) (fun h => ?_)
  · repeat (first | apply c_seq | apply c_reg | (apply wO; apply oc; rfl; exact ydE) | apply w_nil | apply n_cd | (apply wg_t; rfl; rfl) | (apply wg_f; rfl; rfl; rfl; rfl) | (apply wg_u; rfl; rfl; rfl) | (apply c_t; rfl) | (apply c_f; rfl) | apply c_skip | apply c_block | apply n_blk | apply c_exit | apply e_hit | apply e_cd | apply e_lp | (apply e_miss; rfl) | apply c_ret | (apply wO; apply o_box; rfl; rfl; rfl; intro _) | (apply wO; apply o_alloc; rfl; intro _) | (apply wO; apply o_st; rfl; rfl; rfl; (first | exact AggC.s | exact OneC.s); rfl; exact rplE; exact putE; rfl) | (apply wO; apply o_bs0; rfl; intro _) | (apply wO; apply o_bs; rfl; rfl; rfl; rfl; exact rptE; exact filE; intro _) | (apply wO; apply o_call; rfl; kernel_rfl; exact evsE))
    refine ret () trivial ?_
    simp [goodRW, g1, tup]; omega
  repeat (first | apply c_seq | apply c_reg | (apply wO; apply oc; rfl; exact ydE) | apply w_nil | apply n_cd | (apply wg_t; rfl; rfl) | (apply wg_f; rfl; rfl; rfl; rfl) | (apply wg_u; rfl; rfl; rfl) | (apply c_t; rfl) | (apply c_f; rfl) | apply c_skip | apply c_block | apply n_blk | apply c_exit | apply e_hit | apply e_cd | apply e_lp | (apply e_miss; rfl) | apply c_ret | (apply wO; apply o_box; rfl; rfl; rfl; intro _) | (apply wO; apply o_alloc; rfl; intro _) | (apply wO; apply o_st; rfl; rfl; rfl; (first | exact AggC.s | exact OneC.s); rfl; exact rplE; exact putE; rfl) | (apply wO; apply o_bs0; rfl; intro _) | (apply wO; apply o_bs; rfl; rfl; rfl; rfl; exact rptE; exact filE; intro _) | (apply wO; apply o_call; rfl; kernel_rfl; exact evsE))
  refine cb (fun w s => ContainsFunc_Slot _ (.mk' Tryz.func78 rfl rfl) #[] _ x.slots F1 (fun s => !okSlot s) _ (s.get (p := .sl ESlot (.slice a1 x.slots.length c1) x.slots F1) (by simp)).2 ?_) ?_
  · intro k hk wr u G _ hu
    exact (RWok_f x.slots[k] u G).val wr (hol1 hu)
  cases g2 : x.slots.all okSlot
  · have : (x.slots.any fun s => !okSlot s) = true := by rw [← List.not_all_eq_any_not, g2]; rfl
    rw [this]
    repeat (first | apply c_seq | apply c_reg | (apply wO; apply oc; rfl; exact ydE) | apply w_nil | apply n_cd | (apply wg_t; rfl; rfl) | (apply wg_f; rfl; rfl; rfl; rfl) | (apply wg_u; rfl; rfl; rfl) | (apply c_t; rfl) | (apply c_f; rfl) | apply c_skip | apply c_block | apply n_blk | apply c_exit | apply e_hit | apply e_cd | apply e_lp | (apply e_miss; rfl) | apply c_ret | (apply wO; apply o_box; rfl; rfl; rfl; intro _) | (apply wO; apply o_alloc; rfl; intro _) | (apply wO; apply o_st; rfl; rfl; rfl; (first | exact AggC.s | exact OneC.s); rfl; exact rplE; exact putE; rfl) | (apply wO; apply o_bs0; rfl; intro _) | (apply wO; apply o_bs; rfl; rfl; rfl; rfl; exact rptE; exact filE; intro _) | (apply wO; apply o_call; rfl; kernel_rfl; exact evsE))
    refine ret () trivial ?_
    simp [goodRW, g2, tup]
  have hx : (x.slots.any fun s => !okSlot s) = false := by rw [← List.not_all_eq_any_not, g2]; rfl
  rw [hx]
  repeat (first | apply c_seq | apply c_reg | (apply wO; apply oc; rfl; exact ydE) | apply w_nil | apply n_cd | (apply wg_t; rfl; rfl) | (apply wg_f; rfl; rfl; rfl; rfl) | (apply wg_u; rfl; rfl; rfl) | (apply c_t; rfl) | (apply c_f; rfl) | apply c_skip | apply c_block | apply n_blk | apply c_exit | apply e_hit | apply e_cd | apply e_lp | (apply e_miss; rfl) | apply c_ret | (apply wO; apply o_box; rfl; rfl; rfl; intro _) | (apply wO; apply o_alloc; rfl; intro _) | (apply wO; apply o_st; rfl; rfl; rfl; (first | exact AggC.s | exact OneC.s); rfl; exact rplE; exact putE; rfl) | (apply wO; apply o_bs0; rfl; intro _) | (apply wO; apply o_bs; rfl; rfl; rfl; rfl; exact rptE; exact filE; intro _) | (apply wO; apply o_call; rfl; kernel_rfl; exact evsE))
  have g3 : goodRW x = ends x.slots := by simp [goodRW, g1, g2]; omega
  refine wg_if rfl rfl (fun h => ?_) (fun h => ?_)
  · repeat (first | apply c_seq | apply c_reg | (apply wO; apply oc; rfl; exact ydE) | apply w_nil | apply n_cd | (apply wg_t; rfl; rfl) | (apply wg_f; rfl; rfl; rfl; rfl) | (apply wg_u; rfl; rfl; rfl) | (apply c_t; rfl) | (apply c_f; rfl) | apply c_skip | apply c_block | apply n_blk | apply c_exit | apply e_hit | apply e_cd | apply e_lp | (apply e_miss; rfl) | apply c_ret | (apply wO; apply o_box; rfl; rfl; rfl; intro _) | (apply wO; apply o_alloc; rfl; intro _) | (apply wO; apply o_st; rfl; rfl; rfl; (first | exact AggC.s | exact OneC.s); rfl; exact rplE; exact putE; rfl) | (apply wO; apply o_bs0; rfl; intro _) | (apply wO; apply o_bs; rfl; rfl; rfl; rfl; exact rptE; exact filE; intro _) | (apply wO; apply o_call; rfl; kernel_rfl; exact evsE))
    refine ret () trivial ?_
    rw [g3]; have : x.slots.length = 0 := by omega
    simp [ends, this, tup]
  refine atSlot 0 ?_
  rintro hi b o rfl s1
  repeat (first | apply c_seq | apply c_reg | (apply wO; apply oc; rfl; exact ydE) | apply w_nil | apply n_cd | (apply wg_t; rfl; rfl) | (apply wg_f; rfl; rfl; rfl; rfl) | (apply wg_u; rfl; rfl; rfl) | (apply c_t; rfl) | (apply c_f; rfl) | apply c_skip | apply c_block | apply n_blk | apply c_exit | apply e_hit | apply e_cd | apply e_lp | (apply e_miss; rfl) | apply c_ret | (apply wO; apply o_box; rfl; rfl; rfl; intro _) | (apply wO; apply o_alloc; rfl; intro _) | (apply wO; apply o_st; rfl; rfl; rfl; (first | exact AggC.s | exact OneC.s); rfl; exact rplE; exact putE; rfl) | (apply wO; apply o_bs0; rfl; intro _) | (apply wO; apply o_bs; rfl; rfl; rfl; rfl; exact rptE; exact filE; intro _) | (apply wO; apply o_call; rfl; kernel_rfl; exact evsE))
  cases g4 : x.slots[0].hav
  rotate_left
  · repeat (first | apply c_seq | apply c_reg | (apply wO; apply oc; rfl; exact ydE) | apply w_nil | apply n_cd | (apply wg_t; rfl; rfl) | (apply wg_f; rfl; rfl; rfl; rfl) | (apply wg_u; rfl; rfl; rfl) | (apply c_t; rfl) | (apply c_f; rfl) | apply c_skip | apply c_block | apply n_blk | apply c_exit | apply e_hit | apply e_cd | apply e_lp | (apply e_miss; rfl) | apply c_ret | (apply wO; apply o_box; rfl; rfl; rfl; intro _) | (apply wO; apply o_alloc; rfl; intro _) | (apply wO; apply o_st; rfl; rfl; rfl; (first | exact AggC.s | exact OneC.s); rfl; exact rplE; exact putE; rfl) | (apply wO; apply o_bs0; rfl; intro _) | (apply wO; apply o_bs; rfl; rfl; rfl; rfl; exact rptE; exact filE; intro _) | (apply wO; apply o_call; rfl; kernel_rfl; exact evsE))
    refine ret () trivial ?_
    rw [g3]; unfold ends; rw [havAt_lt hi, g4, decide_eq_false (by omega)]; rfl
  refine atSlot (x.slots.length - 1) ?_
  rintro hi2 b2 o2 e s2
  cases e
  repeat (first | apply c_seq | apply c_reg | (apply wO; apply oc; rfl; exact ydE) | apply w_nil | apply n_cd | (apply wg_t; rfl; rfl) | (apply wg_f; rfl; rfl; rfl; rfl) | (apply wg_u; rfl; rfl; rfl) | (apply c_t; rfl) | (apply c_f; rfl) | apply c_skip | apply c_block | apply n_blk | apply c_exit | apply e_hit | apply e_cd | apply e_lp | (apply e_miss; rfl) | apply c_ret | (apply wO; apply o_box; rfl; rfl; rfl; intro _) | (apply wO; apply o_alloc; rfl; intro _) | (apply wO; apply o_st; rfl; rfl; rfl; (first | exact AggC.s | exact OneC.s); rfl; exact rplE; exact putE; rfl) | (apply wO; apply o_bs0; rfl; intro _) | (apply wO; apply o_bs; rfl; rfl; rfl; rfl; exact rptE; exact filE; intro _) | (apply wO; apply o_call; rfl; kernel_rfl; exact evsE))
  have hl : ((x.slots.length : Int) - 1).toNat = x.slots.length - 1 := by omega
  rw [hl]
  repeat (first | apply c_seq | apply c_reg | (apply wO; apply oc; rfl; exact ydE) | apply w_nil | apply n_cd | (apply wg_t; rfl; rfl) | (apply wg_f; rfl; rfl; rfl; rfl) | (apply wg_u; rfl; rfl; rfl) | (apply c_t; rfl) | (apply c_f; rfl) | apply c_skip | apply c_block | apply n_blk | apply c_exit | apply e_hit | apply e_cd | apply e_lp | (apply e_miss; rfl) | apply c_ret | (apply wO; apply o_box; rfl; rfl; rfl; intro _) | (apply wO; apply o_alloc; rfl; intro _) | (apply wO; apply o_st; rfl; rfl; rfl; (first | exact AggC.s | exact OneC.s); rfl; exact rplE; exact putE; rfl) | (apply wO; apply o_bs0; rfl; intro _) | (apply wO; apply o_bs; rfl; rfl; rfl; rfl; exact rptE; exact filE; intro _) | (apply wO; apply o_call; rfl; kernel_rfl; exact evsE))
  refine ret () trivial ?_
  rw [g3]; unfold ends; rw [havAt_lt hi, havAt_lt hi2, g4, decide_eq_false (by omega)]; rfl
end Go.Proofs.YtidephmobajikaaGreatDoor
/- Receive windows: the reference's check. -/
namespace Go.Proofs.YtidephmobajikaaGreatDoor
open Go.RowKit
theorem itm_8 (s : ByteArray) : (decide ((s.size : Int) ≤ 8) && lows s.data.toList) = itm s := rfl
theorem all_take_succ {α : Type} {p : α → Bool} {l : List α} {k : Nat} (h : k < l.length) : (l.take (k + 1)).all p = ((l.take k).all p && p l[k]) := by
  rw [List.take_succ_eq_append_getElem h, List.all_append]; simp
theorem all_of_not {α : Type} {p : α → Bool} {l : List α} {k : Nat} (h : k < l.length) (hp : p l[k] = false) : l.all p = false := by
  rw [List.all_eq_false]; exact ⟨l[k], List.getElem_mem h, by simp [hp]⟩
set_option maxRecDepth 100000 in
theorem l10Good_f (x : ReceiveWindow) (v : Value) (F : List Nat) : Fn Tryz.prog 73 [v] [.isv EReceiveWindow v x F] [] (fun (_ : Unit) => True) (fun _ => .bool (goodRW x)) (fun _ => []) := by
  refine enter Tryz.func73 rfl Tryz.ntmps73 fun w0 => ?_
  refine openReceiveWindow ?_
  rintro a1 c1 F1 rfl l1
  unfold maxLen at l1
  repeat (first | apply c_seq | apply c_reg | (apply wO; apply oc; rfl; exact ydE) | apply w_nil | apply n_cd | (apply wg_t; rfl; rfl) | (apply wg_f; rfl; rfl; rfl; rfl) | (apply wg_u; rfl; rfl; rfl) | (apply c_t; rfl) | (apply c_f; rfl) | apply c_skip | apply c_block | apply n_blk | apply c_exit | apply e_hit | apply e_cd | apply e_lp | (apply e_miss; rfl) | apply c_ret | (apply wO; apply o_box; rfl; rfl; rfl; intro _) | (apply wO; apply o_alloc; rfl; intro _) | (apply wO; apply o_st; rfl; rfl; rfl; (first | exact AggC.s | exact OneC.s); rfl; exact rplE; exact putE; rfl) | (apply wO; apply o_bs0; rfl; intro _) | (apply wO; apply o_bs; rfl; rfl; rfl; rfl; exact rptE; exact filE; intro _) | (apply wO; apply o_call; rfl; kernel_rfl; exact evsE))
  refine ce (fun w s => l2Good_c _ _) ?_
  cases g1 : isSer x.next
  · repeat (first | apply c_seq | apply c_reg | (apply wO; apply oc; rfl; exact ydE) | apply w_nil | apply n_cd | (apply wg_t; rfl; rfl) | (apply wg_f; rfl; rfl; rfl; rfl) | (apply wg_u; rfl; rfl; rfl) | (apply c_t; rfl) | (apply c_f; rfl) | apply c_skip | apply c_block | apply n_blk | apply c_exit | apply e_hit | apply e_cd | apply e_lp | (apply e_miss; rfl) | apply c_ret | (apply wO; apply o_box; rfl; rfl; rfl; intro _) | (apply wO; apply o_alloc; rfl; intro _) | (apply wO; apply o_st; rfl; rfl; rfl; (first | exact AggC.s | exact OneC.s); rfl; exact rplE; exact putE; rfl) | (apply wO; apply o_bs0; rfl; intro _) | (apply wO; apply o_bs; rfl; rfl; rfl; rfl; exact rptE; exact filE; intro _) | (apply wO; apply o_call; rfl; kernel_rfl; exact evsE))
    refine ret () trivial ?_
    simp [goodRW, g1, tup]
  repeat (first | apply c_seq | apply c_reg | (apply wO; apply oc; rfl; exact ydE) | apply w_nil | apply n_cd | (apply wg_t; rfl; rfl) | (apply wg_f; rfl; rfl; rfl; rfl) | (apply wg_u; rfl; rfl; rfl) | (apply c_t; rfl) | (apply c_f; rfl) | apply c_skip | apply c_block | apply n_blk | apply c_exit | apply e_hit | apply e_cd | apply e_lp | (apply e_miss; rfl) | apply c_ret | (apply wO; apply o_box; rfl; rfl; rfl; intro _) | (apply wO; apply o_alloc; rfl; intro _) | (apply wO; apply o_st; rfl; rfl; rfl; (first | exact AggC.s | exact OneC.s); rfl; exact rplE; exact putE; rfl) | (apply wO; apply o_bs0; rfl; intro _) | (apply wO; apply o_bs; rfl; rfl; rfl; rfl; exact rptE; exact filE; intro _) | (apply wO; apply o_call; rfl; kernel_rfl; exact evsE))
  refine c_if rfl (fun h => ?_) (fun h => ?_)
  · repeat (first | apply c_seq | apply c_reg | (apply wO; apply oc; rfl; exact ydE) | apply w_nil | apply n_cd | (apply wg_t; rfl; rfl) | (apply wg_f; rfl; rfl; rfl; rfl) | (apply wg_u; rfl; rfl; rfl) | (apply c_t; rfl) | (apply c_f; rfl) | apply c_skip | apply c_block | apply n_blk | apply c_exit | apply e_hit | apply e_cd | apply e_lp | (apply e_miss; rfl) | apply c_ret | (apply wO; apply o_box; rfl; rfl; rfl; intro _) | (apply wO; apply o_alloc; rfl; intro _) | (apply wO; apply o_st; rfl; rfl; rfl; (first | exact AggC.s | exact OneC.s); rfl; exact rplE; exact putE; rfl) | (apply wO; apply o_bs0; rfl; intro _) | (apply wO; apply o_bs; rfl; rfl; rfl; rfl; exact rptE; exact filE; intro _) | (apply wO; apply o_call; rfl; kernel_rfl; exact evsE))
    refine ret () trivial ?_
    simp [goodRW, g1, tup]; omega
  repeat (first | apply c_seq | apply c_reg | (apply wO; apply oc; rfl; exact ydE) | apply w_nil | apply n_cd | (apply wg_t; rfl; rfl) | (apply wg_f; rfl; rfl; rfl; rfl) | (apply wg_u; rfl; rfl; rfl) | (apply c_t; rfl) | (apply c_f; rfl) | apply c_skip | apply c_block | apply n_blk | apply c_exit | apply e_hit | apply e_cd | apply e_lp | (apply e_miss; rfl) | apply c_ret | (apply wO; apply o_box; rfl; rfl; rfl; intro _) | (apply wO; apply o_alloc; rfl; intro _) | (apply wO; apply o_st; rfl; rfl; rfl; (first | exact AggC.s | exact OneC.s); rfl; exact rplE; exact putE; rfl) | (apply wO; apply o_bs0; rfl; intro _) | (apply wO; apply o_bs; rfl; rfl; rfl; rfl; exact rptE; exact filE; intro _) | (apply wO; apply o_call; rfl; kernel_rfl; exact evsE))
  refine c_loopR [1, 2, 3] (fun k : Nat => [(4, .int .i64 k)]) (fun k => k ≤ x.slots.length ∧ (x.slots.take k).all okSlot = true) (fun k => x.slots.length - k) 0 ⟨Nat.zero_le _, rfl⟩ fun k hk => ?_
  obtain ⟨hk1, hk2⟩ := hk
  repeat (first | apply c_seq | apply c_reg | (apply wO; apply oc; rfl; exact ydE) | apply w_nil | apply n_cd | (apply wg_t; rfl; rfl) | (apply wg_f; rfl; rfl; rfl; rfl) | (apply wg_u; rfl; rfl; rfl) | (apply c_t; rfl) | (apply c_f; rfl) | apply c_skip | apply c_block | apply n_blk | apply c_exit | apply e_hit | apply e_cd | apply e_lp | (apply e_miss; rfl) | apply c_ret | (apply wO; apply o_box; rfl; rfl; rfl; intro _) | (apply wO; apply o_alloc; rfl; intro _) | (apply wO; apply o_st; rfl; rfl; rfl; (first | exact AggC.s | exact OneC.s); rfl; exact rplE; exact putE; rfl) | (apply wO; apply o_bs0; rfl; intro _) | (apply wO; apply o_bs; rfl; rfl; rfl; rfl; exact rptE; exact filE; intro _) | (apply wO; apply o_call; rfl; kernel_rfl; exact evsE))
  refine c_if rfl (fun h3 => ?_) (fun h3 => ?_)
  · have hk3 : k < x.slots.length := by omega
    refine atSlot k ?_
    rintro hi b o e s1
    cases e
    repeat (first | apply c_seq | apply c_reg | (apply wO; apply oc; rfl; exact ydE) | apply w_nil | apply n_cd | (apply wg_t; rfl; rfl) | (apply wg_f; rfl; rfl; rfl; rfl) | (apply wg_u; rfl; rfl; rfl) | (apply c_t; rfl) | (apply c_f; rfl) | apply c_skip | apply c_block | apply n_blk | apply c_exit | apply e_hit | apply e_cd | apply e_lp | (apply e_miss; rfl) | apply c_ret | (apply wO; apply o_box; rfl; rfl; rfl; intro _) | (apply wO; apply o_alloc; rfl; intro _) | (apply wO; apply o_st; rfl; rfl; rfl; (first | exact AggC.s | exact OneC.s); rfl; exact rplE; exact putE; rfl) | (apply wO; apply o_bs0; rfl; intro _) | (apply wO; apply o_bs; rfl; rfl; rfl; rfl; exact rptE; exact filE; intro _) | (apply wO; apply o_call; rfl; kernel_rfl; exact evsE))
    refine ce (fun w s => l4Letters_c _ _ _ s1) ?_
    rw [itm_8]
    cases g2 : itm x.slots[k].item
    · repeat (first | apply c_seq | apply c_reg | (apply wO; apply oc; rfl; exact ydE) | apply w_nil | apply n_cd | (apply wg_t; rfl; rfl) | (apply wg_f; rfl; rfl; rfl; rfl) | (apply wg_u; rfl; rfl; rfl) | (apply c_t; rfl) | (apply c_f; rfl) | apply c_skip | apply c_block | apply n_blk | apply c_exit | apply e_hit | apply e_cd | apply e_lp | (apply e_miss; rfl) | apply c_ret | (apply wO; apply o_box; rfl; rfl; rfl; intro _) | (apply wO; apply o_alloc; rfl; intro _) | (apply wO; apply o_st; rfl; rfl; rfl; (first | exact AggC.s | exact OneC.s); rfl; exact rplE; exact putE; rfl) | (apply wO; apply o_bs0; rfl; intro _) | (apply wO; apply o_bs; rfl; rfl; rfl; rfl; exact rptE; exact filE; intro _) | (apply wO; apply o_call; rfl; kernel_rfl; exact evsE))
      refine ret () trivial ?_
      have : x.slots.all okSlot = false := all_of_not hk3 (by simp [okSlot, g2])
      simp [goodRW, this, tup]
    repeat (first | apply c_seq | apply c_reg | (apply wO; apply oc; rfl; exact ydE) | apply w_nil | apply n_cd | (apply wg_t; rfl; rfl) | (apply wg_f; rfl; rfl; rfl; rfl) | (apply wg_u; rfl; rfl; rfl) | (apply c_t; rfl) | (apply c_f; rfl) | apply c_skip | apply c_block | apply n_blk | apply c_exit | apply e_hit | apply e_cd | apply e_lp | (apply e_miss; rfl) | apply c_ret | (apply wO; apply o_box; rfl; rfl; rfl; intro _) | (apply wO; apply o_alloc; rfl; intro _) | (apply wO; apply o_st; rfl; rfl; rfl; (first | exact AggC.s | exact OneC.s); rfl; exact rplE; exact putE; rfl) | (apply wO; apply o_bs0; rfl; intro _) | (apply wO; apply o_bs; rfl; rfl; rfl; rfl; exact rptE; exact filE; intro _) | (apply wO; apply o_call; rfl; kernel_rfl; exact evsE))
    cases g3 : x.slots[k].hav
    rotate_left
    · repeat (first | apply c_seq | apply c_reg | (apply wO; apply oc; rfl; exact ydE) | apply w_nil | apply n_cd | (apply wg_t; rfl; rfl) | (apply wg_f; rfl; rfl; rfl; rfl) | (apply wg_u; rfl; rfl; rfl) | (apply c_t; rfl) | (apply c_f; rfl) | apply c_skip | apply c_block | apply n_blk | apply c_exit | apply e_hit | apply e_cd | apply e_lp | (apply e_miss; rfl) | apply c_ret | (apply wO; apply o_box; rfl; rfl; rfl; intro _) | (apply wO; apply o_alloc; rfl; intro _) | (apply wO; apply o_st; rfl; rfl; rfl; (first | exact AggC.s | exact OneC.s); rfl; exact rplE; exact putE; rfl) | (apply wO; apply o_bs0; rfl; intro _) | (apply wO; apply o_bs; rfl; rfl; rfl; rfl; exact rptE; exact filE; intro _) | (apply wO; apply o_call; rfl; kernel_rfl; exact evsE))
      refine n_lp (k + 1) ⟨by omega, by rw [all_take_succ hk3, hk2]; simp [okSlot, g2, g3]⟩ (by omega)
    repeat (first | apply c_seq | apply c_reg | (apply wO; apply oc; rfl; exact ydE) | apply w_nil | apply n_cd | (apply wg_t; rfl; rfl) | (apply wg_f; rfl; rfl; rfl; rfl) | (apply wg_u; rfl; rfl; rfl) | (apply c_t; rfl) | (apply c_f; rfl) | apply c_skip | apply c_block | apply n_blk | apply c_exit | apply e_hit | apply e_cd | apply e_lp | (apply e_miss; rfl) | apply c_ret | (apply wO; apply o_box; rfl; rfl; rfl; intro _) | (apply wO; apply o_alloc; rfl; intro _) | (apply wO; apply o_st; rfl; rfl; rfl; (first | exact AggC.s | exact OneC.s); rfl; exact rplE; exact putE; rfl) | (apply wO; apply o_bs0; rfl; intro _) | (apply wO; apply o_bs; rfl; rfl; rfl; rfl; exact rptE; exact filE; intro _) | (apply wO; apply o_call; rfl; kernel_rfl; exact evsE))
    refine c_if rfl (fun g4 => ?_) (fun g4 => ?_)
    · repeat (first | apply c_seq | apply c_reg | (apply wO; apply oc; rfl; exact ydE) | apply w_nil | apply n_cd | (apply wg_t; rfl; rfl) | (apply wg_f; rfl; rfl; rfl; rfl) | (apply wg_u; rfl; rfl; rfl) | (apply c_t; rfl) | (apply c_f; rfl) | apply c_skip | apply c_block | apply n_blk | apply c_exit | apply e_hit | apply e_cd | apply e_lp | (apply e_miss; rfl) | apply c_ret | (apply wO; apply o_box; rfl; rfl; rfl; intro _) | (apply wO; apply o_alloc; rfl; intro _) | (apply wO; apply o_st; rfl; rfl; rfl; (first | exact AggC.s | exact OneC.s); rfl; exact rplE; exact putE; rfl) | (apply wO; apply o_bs0; rfl; intro _) | (apply wO; apply o_bs; rfl; rfl; rfl; rfl; exact rptE; exact filE; intro _) | (apply wO; apply o_call; rfl; kernel_rfl; exact evsE))
      refine ret () trivial ?_
      have : x.slots.all okSlot = false := all_of_not hk3 (by simp [okSlot, g2, g3, g4])
      simp [goodRW, this, tup]
    · repeat (first | apply c_seq | apply c_reg | (apply wO; apply oc; rfl; exact ydE) | apply w_nil | apply n_cd | (apply wg_t; rfl; rfl) | (apply wg_f; rfl; rfl; rfl; rfl) | (apply wg_u; rfl; rfl; rfl) | (apply c_t; rfl) | (apply c_f; rfl) | apply c_skip | apply c_block | apply n_blk | apply c_exit | apply e_hit | apply e_cd | apply e_lp | (apply e_miss; rfl) | apply c_ret | (apply wO; apply o_box; rfl; rfl; rfl; intro _) | (apply wO; apply o_alloc; rfl; intro _) | (apply wO; apply o_st; rfl; rfl; rfl; (first | exact AggC.s | exact OneC.s); rfl; exact rplE; exact putE; rfl) | (apply wO; apply o_bs0; rfl; intro _) | (apply wO; apply o_bs; rfl; rfl; rfl; rfl; exact rptE; exact filE; intro _) | (apply wO; apply o_call; rfl; kernel_rfl; exact evsE))
      simp only [Decidable.not_not] at g4
      have ho : okSlot x.slots[k] = true := by unfold okSlot; rw [g2, g3, decide_eq_true g4]; rfl
      refine n_lp (k + 1) ⟨by omega, by rw [all_take_succ hk3, hk2, ho]; rfl⟩ (by omega)
  have hkl : k = x.slots.length := by omega
  subst hkl
  rw [List.take_length] at hk2
  have g3 : goodRW x = ends x.slots := by simp [goodRW, g1, hk2]; omega
  repeat (first | apply c_seq | apply c_reg | (apply wO; apply oc; rfl; exact ydE) | apply w_nil | apply n_cd | (apply wg_t; rfl; rfl) | (apply wg_f; rfl; rfl; rfl; rfl) | (apply wg_u; rfl; rfl; rfl) | (apply c_t; rfl) | (apply c_f; rfl) | apply c_skip | apply c_block | apply n_blk | apply c_exit | apply e_hit | apply e_cd | apply e_lp | (apply e_miss; rfl) | apply c_ret | (apply wO; apply o_box; rfl; rfl; rfl; intro _) | (apply wO; apply o_alloc; rfl; intro _) | (apply wO; apply o_st; rfl; rfl; rfl; (first | exact AggC.s | exact OneC.s); rfl; exact rplE; exact putE; rfl) | (apply wO; apply o_bs0; rfl; intro _) | (apply wO; apply o_bs; rfl; rfl; rfl; rfl; exact rptE; exact filE; intro _) | (apply wO; apply o_call; rfl; kernel_rfl; exact evsE))
  refine wg_if rfl rfl (fun h4 => ?_) (fun h4 => ?_)
  · repeat (first | apply c_seq | apply c_reg | (apply wO; apply oc; rfl; exact ydE) | apply w_nil | apply n_cd | (apply wg_t; rfl; rfl) | (apply wg_f; rfl; rfl; rfl; rfl) | (apply wg_u; rfl; rfl; rfl) | (apply c_t; rfl) | (apply c_f; rfl) | apply c_skip | apply c_block | apply n_blk | apply c_exit | apply e_hit | apply e_cd | apply e_lp | (apply e_miss; rfl) | apply c_ret | (apply wO; apply o_box; rfl; rfl; rfl; intro _) | (apply wO; apply o_alloc; rfl; intro _) | (apply wO; apply o_st; rfl; rfl; rfl; (first | exact AggC.s | exact OneC.s); rfl; exact rplE; exact putE; rfl) | (apply wO; apply o_bs0; rfl; intro _) | (apply wO; apply o_bs; rfl; rfl; rfl; rfl; exact rptE; exact filE; intro _) | (apply wO; apply o_call; rfl; kernel_rfl; exact evsE))
    refine ret () trivial ?_
    rw [g3]; have : x.slots.length = 0 := by omega
    simp [ends, this, tup]
  refine atSlot 0 ?_
  rintro hi b o e s1
  cases e
  repeat (first | apply c_seq | apply c_reg | (apply wO; apply oc; rfl; exact ydE) | apply w_nil | apply n_cd | (apply wg_t; rfl; rfl) | (apply wg_f; rfl; rfl; rfl; rfl) | (apply wg_u; rfl; rfl; rfl) | (apply c_t; rfl) | (apply c_f; rfl) | apply c_skip | apply c_block | apply n_blk | apply c_exit | apply e_hit | apply e_cd | apply e_lp | (apply e_miss; rfl) | apply c_ret | (apply wO; apply o_box; rfl; rfl; rfl; intro _) | (apply wO; apply o_alloc; rfl; intro _) | (apply wO; apply o_st; rfl; rfl; rfl; (first | exact AggC.s | exact OneC.s); rfl; exact rplE; exact putE; rfl) | (apply wO; apply o_bs0; rfl; intro _) | (apply wO; apply o_bs; rfl; rfl; rfl; rfl; exact rptE; exact filE; intro _) | (apply wO; apply o_call; rfl; kernel_rfl; exact evsE))
  cases g4 : x.slots[0].hav
  rotate_left
  · repeat (first | apply c_seq | apply c_reg | (apply wO; apply oc; rfl; exact ydE) | apply w_nil | apply n_cd | (apply wg_t; rfl; rfl) | (apply wg_f; rfl; rfl; rfl; rfl) | (apply wg_u; rfl; rfl; rfl) | (apply c_t; rfl) | (apply c_f; rfl) | apply c_skip | apply c_block | apply n_blk | apply c_exit | apply e_hit | apply e_cd | apply e_lp | (apply e_miss; rfl) | apply c_ret | (apply wO; apply o_box; rfl; rfl; rfl; intro _) | (apply wO; apply o_alloc; rfl; intro _) | (apply wO; apply o_st; rfl; rfl; rfl; (first | exact AggC.s | exact OneC.s); rfl; exact rplE; exact putE; rfl) | (apply wO; apply o_bs0; rfl; intro _) | (apply wO; apply o_bs; rfl; rfl; rfl; rfl; exact rptE; exact filE; intro _) | (apply wO; apply o_call; rfl; kernel_rfl; exact evsE))
    refine ret () trivial ?_
    rw [g3]; unfold ends; rw [havAt_lt hi, g4, decide_eq_false (by omega)]; rfl
  refine atSlot (x.slots.length - 1) ?_
  rintro hi2 b2 o2 e s2
  cases e
  repeat (first | apply c_seq | apply c_reg | (apply wO; apply oc; rfl; exact ydE) | apply w_nil | apply n_cd | (apply wg_t; rfl; rfl) | (apply wg_f; rfl; rfl; rfl; rfl) | (apply wg_u; rfl; rfl; rfl) | (apply c_t; rfl) | (apply c_f; rfl) | apply c_skip | apply c_block | apply n_blk | apply c_exit | apply e_hit | apply e_cd | apply e_lp | (apply e_miss; rfl) | apply c_ret | (apply wO; apply o_box; rfl; rfl; rfl; intro _) | (apply wO; apply o_alloc; rfl; intro _) | (apply wO; apply o_st; rfl; rfl; rfl; (first | exact AggC.s | exact OneC.s); rfl; exact rplE; exact putE; rfl) | (apply wO; apply o_bs0; rfl; intro _) | (apply wO; apply o_bs; rfl; rfl; rfl; rfl; exact rptE; exact filE; intro _) | (apply wO; apply o_call; rfl; kernel_rfl; exact evsE))
  have hl : ((x.slots.length : Int) - 1).toNat = x.slots.length - 1 := by omega
  rw [hl]
  repeat (first | apply c_seq | apply c_reg | (apply wO; apply oc; rfl; exact ydE) | apply w_nil | apply n_cd | (apply wg_t; rfl; rfl) | (apply wg_f; rfl; rfl; rfl; rfl) | (apply wg_u; rfl; rfl; rfl) | (apply c_t; rfl) | (apply c_f; rfl) | apply c_skip | apply c_block | apply n_blk | apply c_exit | apply e_hit | apply e_cd | apply e_lp | (apply e_miss; rfl) | apply c_ret | (apply wO; apply o_box; rfl; rfl; rfl; intro _) | (apply wO; apply o_alloc; rfl; intro _) | (apply wO; apply o_st; rfl; rfl; rfl; (first | exact AggC.s | exact OneC.s); rfl; exact rplE; exact putE; rfl) | (apply wO; apply o_bs0; rfl; intro _) | (apply wO; apply o_bs; rfl; rfl; rfl; rfl; exact rptE; exact filE; intro _) | (apply wO; apply o_call; rfl; kernel_rfl; exact evsE))
  refine ret () trivial ?_
  rw [g3]; unfold ends; rw [havAt_lt hi, havAt_lt hi2, g4, decide_eq_false (by omega)]; rfl
end Go.Proofs.YtidephmobajikaaGreatDoor
/- Receive windows: what is released, what is taken. Plain lists. -/
namespace Go.Proofs.YtidephmobajikaaGreatDoor
open Go.RowKit
def plus (s : ByteArray) : ByteArray := ⟨#[43]⟩ ++ s
def minus : ByteArray := ⟨#[45]⟩
def shiftEv (l : List Slot) : ByteArray := match l with | [] => minus | s :: _ => if s.hav then plus s.item else minus
theorem shiftEv_t {l : List Slot} (hi : 0 < l.length) (h : l[0].hav = true) : shiftEv l = plus l[0].item := by
  cases l with
  | nil => simp at hi
  | cons s r => simp at h; simp [shiftEv, h]
theorem shiftEv_f {l : List Slot} (hi : 0 < l.length) (h : l[0].hav = false) : shiftEv l = minus := by
  cases l with
  | nil => simp at hi
  | cons s r => simp at h; simp [shiftEv, h]
def rel : Int → List Slot → Int × List Slot × List ByteArray
  | n, [] => (n, [], [])
  | n, s :: r => if s.hav then ((rel (aft n 1) r).1, (rel (aft n 1) r).2.1, plus s.item :: (rel (aft n 1) r).2.2) else (n, s :: r, [])
theorem rel_no {n : Int} {l : List Slot} (h : havAt l 0 = false) : rel n l = (n, l, []) := by
  cases l with
  | nil => rfl
  | cons s r => have : s.hav = false := h; simp [rel, this]
theorem rel_yes {n : Int} {l : List Slot} (h : havAt l 0 = true) : rel n l = ((rel (aft n 1) (l.drop 1)).1, (rel (aft n 1) (l.drop 1)).2.1, shiftEv l :: (rel (aft n 1) (l.drop 1)).2.2) := by
  cases l with
  | nil => cases h
  | cons s r => have : s.hav = true := h; simp [rel, shiftEv, this]
end Go.Proofs.YtidephmobajikaaGreatDoor
/- Receive windows: the copy, a step, what is released. -/
namespace Go.Proofs.YtidephmobajikaaGreatDoor
open Go.RowKit
theorem rdRW {w : World} {a : Option Addr} {c : Nat} {x : ReceiveWindow} {F : List Nat} (h : (Pc.ow ESlot 113 (.slice a x.slots.length c) x.slots F).P w) : ∃ F', (Pc.isv EReceiveWindow (.agg #[.int .i64 x.next, .slice a x.slots.length c]) x F').P w := by
  obtain ⟨F', -, hs⟩ := h.2.read
  exact ⟨F', _, rfl, _, rfl, hs⟩
set_option maxRecDepth 100000 in
theorem RWclone_f (x : ReceiveWindow) (v : Value) (F : List Nat) (hl : x.slots.length ≤ 4294967296) : Fn Tryz.prog 71 [v] [.isv EReceiveWindow v x F] [] (fun (_ : Option Addr × Nat × List Nat) => True)
    (fun s => .agg #[.int .i64 x.next, .slice s.1 x.slots.length s.2.1]) (fun s => [.ow ESlot 113 (.slice s.1 x.slots.length s.2.1) x.slots s.2.2]) := by
  refine enter Tryz.func71 rfl Tryz.ntmps71 fun w0 => ?_
  refine openReceiveWindow ?_
  rintro a1 c1 F1 rfl l1
  repeat (first | apply c_seq | apply c_reg | (apply wO; apply oc; rfl; exact ydE) | apply w_nil | apply n_cd | (apply wg_t; rfl; rfl) | (apply wg_f; rfl; rfl; rfl; rfl) | (apply wg_u; rfl; rfl; rfl) | (apply c_t; rfl) | (apply c_f; rfl) | apply c_skip | apply c_block | apply n_blk | apply c_exit | apply e_hit | apply e_cd | apply e_lp | (apply e_miss; rfl) | apply c_ret | (apply wO; apply o_box; rfl; rfl; rfl; intro _) | (apply wO; apply o_alloc; rfl; intro _) | (apply wO; apply o_st; rfl; rfl; rfl; (first | exact AggC.s | exact OneC.s); rfl; exact rplE; exact putE; rfl) | (apply wO; apply o_bs0; rfl; intro _) | (apply wO; apply o_bs; rfl; rfl; rfl; rfl; exact rptE; exact filE; intro _) | (apply wO; apply o_call; rfl; kernel_rfl; exact evsE))
  refine cn (fun w s => Clone_Slot _ _ _ _ (s.get (p := .sl ESlot (.slice a1 x.slots.length c1) x.slots F1) (by simp)).2 hl) fun a cp F' => ?_
  repeat (first | apply c_seq | apply c_reg | (apply wO; apply oc; rfl; exact ydE) | apply w_nil | apply n_cd | (apply wg_t; rfl; rfl) | (apply wg_f; rfl; rfl; rfl; rfl) | (apply wg_u; rfl; rfl; rfl) | (apply c_t; rfl) | (apply c_f; rfl) | apply c_skip | apply c_block | apply n_blk | apply c_exit | apply e_hit | apply e_cd | apply e_lp | (apply e_miss; rfl) | apply c_ret | (apply wO; apply o_box; rfl; rfl; rfl; intro _) | (apply wO; apply o_alloc; rfl; intro _) | (apply wO; apply o_st; rfl; rfl; rfl; (first | exact AggC.s | exact OneC.s); rfl; exact rplE; exact putE; rfl) | (apply wO; apply o_bs0; rfl; intro _) | (apply wO; apply o_bs; rfl; rfl; rfl; rfl; exact rptE; exact filE; intro _) | (apply wO; apply o_call; rfl; kernel_rfl; exact evsE))
  refine ret (a, cp, F') trivial rfl
set_option maxRecDepth 100000 in
theorem RWshift_f (x : ReceiveWindow) (g t o : Nat) (A B : List Value) (a : Option Addr) (cc : Nat) (F : List Nat) (h0 : 0 ≤ x.next) (h1 : x.next ≤ 65535) (hl : x.slots.length ≤ 4294967296) (hs : ∀ s ∈ x.slots, s.item.size ≤ 8) :
    Fn Tryz.prog 191 [ptr g o 0] [] [.row g t o A [.int .i64 x.next, .slice a x.slots.length cc] B, .ow ESlot 113 (.slice a x.slots.length cc) x.slots F] (fun (_ : Option Addr × Nat × List Nat) => True)
      (fun _ => .string (shiftEv x.slots)) (fun s => [.row g t o A [.int .i64 (aft x.next 1), .slice s.1 (x.slots.drop 1).length s.2.1] B, .ow ESlot 113 (.slice s.1 (x.slots.drop 1).length s.2.1) (x.slots.drop 1) s.2.2]) := by
  refine enter Tryz.func191 rfl Tryz.ntmps191 fun w0 => ?_
  repeat (first | apply c_seq | apply c_reg | (apply wO; apply oc; rfl; exact ydE) | apply w_nil | apply n_cd | (apply wg_t; rfl; rfl) | (apply wg_f; rfl; rfl; rfl; rfl) | (apply wg_u; rfl; rfl; rfl) | (apply c_t; rfl) | (apply c_f; rfl) | apply c_skip | apply c_block | apply n_blk | apply c_exit | apply e_hit | apply e_cd | apply e_lp | (apply e_miss; rfl) | apply c_ret | (apply wO; apply o_box; rfl; rfl; rfl; intro _) | (apply wO; apply o_alloc; rfl; intro _) | (apply wO; apply o_st; rfl; rfl; rfl; (first | exact AggC.s | exact OneC.s); rfl; exact rplE; exact putE; rfl) | (apply wO; apply o_bs0; rfl; intro _) | (apply wO; apply o_bs; rfl; rfl; rfl; rfl; exact rptE; exact filE; intro _) | (apply wO; apply o_call; rfl; kernel_rfl; exact evsE))
  refine c_if rfl (fun h => ?_) (fun h => ?_)
  · refine t_read fun F' => ?_
    refine atSlot 0 ?_
    rintro hi b o2 e s1
    cases e
    repeat (first | apply c_seq | apply c_reg | (apply wO; apply oc; rfl; exact ydE) | apply w_nil | apply n_cd | (apply wg_t; rfl; rfl) | (apply wg_f; rfl; rfl; rfl; rfl) | (apply wg_u; rfl; rfl; rfl) | (apply c_t; rfl) | (apply c_f; rfl) | apply c_skip | apply c_block | apply n_blk | apply c_exit | apply e_hit | apply e_cd | apply e_lp | (apply e_miss; rfl) | apply c_ret | (apply wO; apply o_box; rfl; rfl; rfl; intro _) | (apply wO; apply o_alloc; rfl; intro _) | (apply wO; apply o_st; rfl; rfl; rfl; (first | exact AggC.s | exact OneC.s); rfl; exact rplE; exact putE; rfl) | (apply wO; apply o_bs0; rfl; intro _) | (apply wO; apply o_bs; rfl; rfl; rfl; rfl; exact rptE; exact filE; intro _) | (apply wO; apply o_call; rfl; kernel_rfl; exact evsE))
    have s8 := hs _ (List.getElem_mem hi)
    have s9 : (⟨#[43]⟩ : ByteArray).size = 1 := rfl
    cases g1 : x.slots[0].hav
    · repeat (first | apply c_seq | apply c_reg | (apply wO; apply oc; rfl; exact ydE) | apply w_nil | apply n_cd | (apply wg_t; rfl; rfl) | (apply wg_f; rfl; rfl; rfl; rfl) | (apply wg_u; rfl; rfl; rfl) | (apply c_t; rfl) | (apply c_f; rfl) | apply c_skip | apply c_block | apply n_blk | apply c_exit | apply e_hit | apply e_cd | apply e_lp | (apply e_miss; rfl) | apply c_ret | (apply wO; apply o_box; rfl; rfl; rfl; intro _) | (apply wO; apply o_alloc; rfl; intro _) | (apply wO; apply o_st; rfl; rfl; rfl; (first | exact AggC.s | exact OneC.s); rfl; exact rplE; exact putE; rfl) | (apply wO; apply o_bs0; rfl; intro _) | (apply wO; apply o_bs; rfl; rfl; rfl; rfl; exact rptE; exact filE; intro _) | (apply wO; apply o_call; rfl; kernel_rfl; exact evsE))
      apply wO
      refine sld 1 fun a2 c2 F2 => ?_
      repeat (first | apply c_seq | apply c_reg | (apply wO; apply oc; rfl; exact ydE) | apply w_nil | apply n_cd | (apply wg_t; rfl; rfl) | (apply wg_f; rfl; rfl; rfl; rfl) | (apply wg_u; rfl; rfl; rfl) | (apply c_t; rfl) | (apply c_f; rfl) | apply c_skip | apply c_block | apply n_blk | apply c_exit | apply e_hit | apply e_cd | apply e_lp | (apply e_miss; rfl) | apply c_ret | (apply wO; apply o_box; rfl; rfl; rfl; intro _) | (apply wO; apply o_alloc; rfl; intro _) | (apply wO; apply o_st; rfl; rfl; rfl; (first | exact AggC.s | exact OneC.s); rfl; exact rplE; exact putE; rfl) | (apply wO; apply o_bs0; rfl; intro _) | (apply wO; apply o_bs; rfl; rfl; rfl; rfl; exact rptE; exact filE; intro _) | (apply wO; apply o_call; rfl; kernel_rfl; exact evsE))
      refine cn (fun w s => Clone_Slot _ _ _ _ (s.get (p := .sl ESlot (.slice a2 (x.slots.drop 1).length c2) (x.slots.drop 1) F2) (by simp)).2 (by simp; omega)) fun a3 c3 F3 => ?_
      repeat (first | apply c_seq | apply c_reg | (apply wO; apply oc; rfl; exact ydE) | apply w_nil | apply n_cd | (apply wg_t; rfl; rfl) | (apply wg_f; rfl; rfl; rfl; rfl) | (apply wg_u; rfl; rfl; rfl) | (apply c_t; rfl) | (apply c_f; rfl) | apply c_skip | apply c_block | apply n_blk | apply c_exit | apply e_hit | apply e_cd | apply e_lp | (apply e_miss; rfl) | apply c_ret | (apply wO; apply o_box; rfl; rfl; rfl; intro _) | (apply wO; apply o_alloc; rfl; intro _) | (apply wO; apply o_st; rfl; rfl; rfl; (first | exact AggC.s | exact OneC.s); rfl; exact rplE; exact putE; rfl) | (apply wO; apply o_bs0; rfl; intro _) | (apply wO; apply o_bs; rfl; rfl; rfl; rfl; exact rptE; exact filE; intro _) | (apply wO; apply o_call; rfl; kernel_rfl; exact evsE))
      refine ce (fun w s => after_c _ _ _ (by omega) (by omega)) ?_
      repeat (first | apply c_seq | apply c_reg | (apply wO; apply oc; rfl; exact ydE) | apply w_nil | apply n_cd | (apply wg_t; rfl; rfl) | (apply wg_f; rfl; rfl; rfl; rfl) | (apply wg_u; rfl; rfl; rfl) | (apply c_t; rfl) | (apply c_f; rfl) | apply c_skip | apply c_block | apply n_blk | apply c_exit | apply e_hit | apply e_cd | apply e_lp | (apply e_miss; rfl) | apply c_ret | (apply wO; apply o_box; rfl; rfl; rfl; intro _) | (apply wO; apply o_alloc; rfl; intro _) | (apply wO; apply o_st; rfl; rfl; rfl; (first | exact AggC.s | exact OneC.s); rfl; exact rplE; exact putE; rfl) | (apply wO; apply o_bs0; rfl; intro _) | (apply wO; apply o_bs; rfl; rfl; rfl; rfl; exact rptE; exact filE; intro _) | (apply wO; apply o_call; rfl; kernel_rfl; exact evsE))
      refine ret (a3, c3, F3) trivial ?_
      rw [shiftEv_f hi g1]; rfl
    · repeat (first | apply c_seq | apply c_reg | (apply wO; apply oc; rfl; exact ydE) | apply w_nil | apply n_cd | (apply wg_t; rfl; rfl) | (apply wg_f; rfl; rfl; rfl; rfl) | (apply wg_u; rfl; rfl; rfl) | (apply c_t; rfl) | (apply c_f; rfl) | apply c_skip | apply c_block | apply n_blk | apply c_exit | apply e_hit | apply e_cd | apply e_lp | (apply e_miss; rfl) | apply c_ret | (apply wO; apply o_box; rfl; rfl; rfl; intro _) | (apply wO; apply o_alloc; rfl; intro _) | (apply wO; apply o_st; rfl; rfl; rfl; (first | exact AggC.s | exact OneC.s); rfl; exact rplE; exact putE; rfl) | (apply wO; apply o_bs0; rfl; intro _) | (apply wO; apply o_bs; rfl; rfl; rfl; rfl; exact rptE; exact filE; intro _) | (apply wO; apply o_call; rfl; kernel_rfl; exact evsE))
      apply wO
      refine sld 1 fun a2 c2 F2 => ?_
      repeat (first | apply c_seq | apply c_reg | (apply wO; apply oc; rfl; exact ydE) | apply w_nil | apply n_cd | (apply wg_t; rfl; rfl) | (apply wg_f; rfl; rfl; rfl; rfl) | (apply wg_u; rfl; rfl; rfl) | (apply c_t; rfl) | (apply c_f; rfl) | apply c_skip | apply c_block | apply n_blk | apply c_exit | apply e_hit | apply e_cd | apply e_lp | (apply e_miss; rfl) | apply c_ret | (apply wO; apply o_box; rfl; rfl; rfl; intro _) | (apply wO; apply o_alloc; rfl; intro _) | (apply wO; apply o_st; rfl; rfl; rfl; (first | exact AggC.s | exact OneC.s); rfl; exact rplE; exact putE; rfl) | (apply wO; apply o_bs0; rfl; intro _) | (apply wO; apply o_bs; rfl; rfl; rfl; rfl; exact rptE; exact filE; intro _) | (apply wO; apply o_call; rfl; kernel_rfl; exact evsE))
      refine cn (fun w s => Clone_Slot _ _ _ _ (s.get (p := .sl ESlot (.slice a2 (x.slots.drop 1).length c2) (x.slots.drop 1) F2) (by simp)).2 (by simp; omega)) fun a3 c3 F3 => ?_
      repeat (first | apply c_seq | apply c_reg | (apply wO; apply oc; rfl; exact ydE) | apply w_nil | apply n_cd | (apply wg_t; rfl; rfl) | (apply wg_f; rfl; rfl; rfl; rfl) | (apply wg_u; rfl; rfl; rfl) | (apply c_t; rfl) | (apply c_f; rfl) | apply c_skip | apply c_block | apply n_blk | apply c_exit | apply e_hit | apply e_cd | apply e_lp | (apply e_miss; rfl) | apply c_ret | (apply wO; apply o_box; rfl; rfl; rfl; intro _) | (apply wO; apply o_alloc; rfl; intro _) | (apply wO; apply o_st; rfl; rfl; rfl; (first | exact AggC.s | exact OneC.s); rfl; exact rplE; exact putE; rfl) | (apply wO; apply o_bs0; rfl; intro _) | (apply wO; apply o_bs; rfl; rfl; rfl; rfl; exact rptE; exact filE; intro _) | (apply wO; apply o_call; rfl; kernel_rfl; exact evsE))
      refine ce (fun w s => after_c _ _ _ (by omega) (by omega)) ?_
      repeat (first | apply c_seq | apply c_reg | (apply wO; apply oc; rfl; exact ydE) | apply w_nil | apply n_cd | (apply wg_t; rfl; rfl) | (apply wg_f; rfl; rfl; rfl; rfl) | (apply wg_u; rfl; rfl; rfl) | (apply c_t; rfl) | (apply c_f; rfl) | apply c_skip | apply c_block | apply n_blk | apply c_exit | apply e_hit | apply e_cd | apply e_lp | (apply e_miss; rfl) | apply c_ret | (apply wO; apply o_box; rfl; rfl; rfl; intro _) | (apply wO; apply o_alloc; rfl; intro _) | (apply wO; apply o_st; rfl; rfl; rfl; (first | exact AggC.s | exact OneC.s); rfl; exact rplE; exact putE; rfl) | (apply wO; apply o_bs0; rfl; intro _) | (apply wO; apply o_bs; rfl; rfl; rfl; rfl; exact rptE; exact filE; intro _) | (apply wO; apply o_call; rfl; kernel_rfl; exact evsE))
      refine ret (a3, c3, F3) trivial ?_
      rw [shiftEv_t hi g1]; rfl
  · obtain ⟨n, l⟩ := x
    obtain rfl : l = [] := List.eq_nil_of_length_eq_zero (by simpa using h)
    repeat (first | apply c_seq | apply c_reg | (apply wO; apply oc; rfl; exact ydE) | apply w_nil | apply n_cd | (apply wg_t; rfl; rfl) | (apply wg_f; rfl; rfl; rfl; rfl) | (apply wg_u; rfl; rfl; rfl) | (apply c_t; rfl) | (apply c_f; rfl) | apply c_skip | apply c_block | apply n_blk | apply c_exit | apply e_hit | apply e_cd | apply e_lp | (apply e_miss; rfl) | apply c_ret | (apply wO; apply o_box; rfl; rfl; rfl; intro _) | (apply wO; apply o_alloc; rfl; intro _) | (apply wO; apply o_st; rfl; rfl; rfl; (first | exact AggC.s | exact OneC.s); rfl; exact rplE; exact putE; rfl) | (apply wO; apply o_bs0; rfl; intro _) | (apply wO; apply o_bs; rfl; rfl; rfl; rfl; exact rptE; exact filE; intro _) | (apply wO; apply o_call; rfl; kernel_rfl; exact evsE))
    refine ce (fun w s => after_c _ _ _ (by omega) (by omega)) ?_
    repeat (first | apply c_seq | apply c_reg | (apply wO; apply oc; rfl; exact ydE) | apply w_nil | apply n_cd | (apply wg_t; rfl; rfl) | (apply wg_f; rfl; rfl; rfl; rfl) | (apply wg_u; rfl; rfl; rfl) | (apply c_t; rfl) | (apply c_f; rfl) | apply c_skip | apply c_block | apply n_blk | apply c_exit | apply e_hit | apply e_cd | apply e_lp | (apply e_miss; rfl) | apply c_ret | (apply wO; apply o_box; rfl; rfl; rfl; intro _) | (apply wO; apply o_alloc; rfl; intro _) | (apply wO; apply o_st; rfl; rfl; rfl; (first | exact AggC.s | exact OneC.s); rfl; exact rplE; exact putE; rfl) | (apply wO; apply o_bs0; rfl; intro _) | (apply wO; apply o_bs; rfl; rfl; rfl; rfl; exact rptE; exact filE; intro _) | (apply wO; apply o_call; rfl; kernel_rfl; exact evsE))
    refine ret (a, cc, F) trivial rfl
end Go.Proofs.YtidephmobajikaaGreatDoor
/- Receive windows: what is released. -/
namespace Go.Proofs.YtidephmobajikaaGreatDoor
open Go.RowKit
def relW (x : ReceiveWindow) : ReceiveWindow := ⟨(rel x.next x.slots).1, (rel x.next x.slots).2.1⟩
def relE (x : ReceiveWindow) : List ByteArray := (rel x.next x.slots).2.2
def shW (x : ReceiveWindow) : ReceiveWindow := ⟨aft x.next 1, x.slots.drop 1⟩
theorem rel_stop {x : ReceiveWindow} (h : havAt x.slots 0 = false) : relW x = x ∧ relE x = [] := by unfold relW relE; rw [rel_no h]; exact ⟨rfl, rfl⟩
theorem rel_go {x : ReceiveWindow} (h : havAt x.slots 0 = true) : relW x = relW (shW x) ∧ relE x = shiftEv x.slots :: relE (shW x) := by unfold relW relE; rw [rel_yes h]; exact ⟨rfl, rfl⟩
theorem shiftEv_size {l : List Slot} (h : ∀ s ∈ l, s.item.size ≤ 8) : (shiftEv l).size ≤ 9 := by
  cases l with
  | nil => decide
  | cons s r =>
    have := h s (by simp)
    unfold shiftEv; dsimp only
    split
    · unfold plus; rw [ByteArray.size_append]; show 1 + s.item.size ≤ 9; omega
    · decide
theorem hasB_next (y : ReceiveWindow) : hasB y y.next = havAt y.slots 0 := by
  unfold hasB gp; rw [Int.sub_self]; rfl
theorem rep_str (s : ByteArray) (h : s.size ≤ maxLen) (w : World) : Flat EStr w [.string s] [s] [] := ⟨_, [], [], [], by simp, by simp, ⟨rfl, h, rfl⟩, rfl, rfl⟩
/-- events so far, the window, where both lie -/
structure RelS where
  es : List ByteArray
  y : ReceiveWindow
  a : Option Addr
  c : Nat
  F : List Nat
  ae : Option Addr
  ce : Nat
  Fe : List Nat
structure RelOk (x : ReceiveWindow) (s : RelS) : Prop where
  n0 : 0 ≤ s.y.next
  n1 : s.y.next ≤ 65535
  it : ∀ z ∈ s.y.slots, z.item.size ≤ 8
  ln : s.es.length + s.y.slots.length ≤ x.slots.length
  w : relW x = relW s.y
  e : relE x = s.es ++ relE s.y
set_option maxRecDepth 100000 in
theorem RWrelease_f (x : ReceiveWindow) (g t o : Nat) (A B : List Value) (a : Option Addr) (cc : Nat) (F : List Nat) (h0 : 0 ≤ x.next) (h1 : x.next ≤ 65535) (hl : x.slots.length ≤ 1000000) (hs : ∀ s ∈ x.slots, s.item.size ≤ 8) :
    Fn Tryz.prog 140 [ptr g o 0] [] [.row g t o A [.int .i64 x.next, .slice a x.slots.length cc] B, .ow ESlot 113 (.slice a x.slots.length cc) x.slots F] (fun (s : RelS) => s.y = relW x ∧ s.es = relE x)
      (fun s => .slice s.ae s.es.length s.ce) (fun s => [.row g t o A [.int .i64 s.y.next, .slice s.a s.y.slots.length s.c] B, .ow ESlot 113 (.slice s.a s.y.slots.length s.c) s.y.slots s.F, .ow EStr 9 (.slice s.ae s.es.length s.ce) s.es s.Fe]) := by
  refine enter Tryz.func140 rfl Tryz.ntmps140 fun w0 => ?_
  repeat (first | apply c_seq | apply c_reg | (apply wO; apply oc; rfl; exact ydE) | apply w_nil | apply n_cd | (apply wg_t; rfl; rfl) | (apply wg_f; rfl; rfl; rfl; rfl) | (apply wg_u; rfl; rfl; rfl) | (apply c_t; rfl) | (apply c_f; rfl) | apply c_skip | apply c_block | apply n_blk | apply c_exit | apply e_hit | apply e_cd | apply e_lp | (apply e_miss; rfl) | apply c_ret | (apply wO; apply o_box; rfl; rfl; rfl; intro _) | (apply wO; apply o_alloc; rfl; intro _) | (apply wO; apply o_st; rfl; rfl; rfl; (first | exact AggC.s | exact OneC.s); rfl; exact rplE; exact putE; rfl) | (apply wO; apply o_bs0; rfl; intro _) | (apply wO; apply o_bs; rfl; rfl; rfl; rfl; exact rptE; exact filE; intro _) | (apply wO; apply o_call; rfl; kernel_rfl; exact evsE))
  refine t_nilow EStr 9 ?_
  refine c_loopS [0, 2] (fun s : RelS => [(3, .slice s.ae s.es.length s.ce)]) (fun s => [.row g t o A [.int .i64 s.y.next, .slice s.a s.y.slots.length s.c] B, .ow ESlot 113 (.slice s.a s.y.slots.length s.c) s.y.slots s.F, .ow EStr 9 (.slice s.ae s.es.length s.ce) s.es s.Fe]) (RelOk x) (fun s => s.y.slots.length) ⟨[], x, a, cc, F, none, 0, []⟩ ⟨h0, h1, hs, by simp, rfl, rfl⟩ fun s hC => ?_
  obtain ⟨n0, n1, hit, hln, hw, he⟩ := hC
  repeat (first | apply c_seq | apply c_reg | (apply wO; apply oc; rfl; exact ydE) | apply w_nil | apply n_cd | (apply wg_t; rfl; rfl) | (apply wg_f; rfl; rfl; rfl; rfl) | (apply wg_u; rfl; rfl; rfl) | (apply c_t; rfl) | (apply c_f; rfl) | apply c_skip | apply c_block | apply n_blk | apply c_exit | apply e_hit | apply e_cd | apply e_lp | (apply e_miss; rfl) | apply c_ret | (apply wO; apply o_box; rfl; rfl; rfl; intro _) | (apply wO; apply o_alloc; rfl; intro _) | (apply wO; apply o_st; rfl; rfl; rfl; (first | exact AggC.s | exact OneC.s); rfl; exact rplE; exact putE; rfl) | (apply wO; apply o_bs0; rfl; intro _) | (apply wO; apply o_bs; rfl; rfl; rfl; rfl; exact rptE; exact filE; intro _) | (apply wO; apply o_call; rfl; kernel_rfl; exact evsE))
  refine d_start [0] [] ?_
  refine dt 0 ?_
  refine dt 1 ?_
  refine dt 2 ?_
  refine dt 3 ?_
  refine dt 4 ?_
  refine dt 5 ?_
  refine dt 6 ?_
  refine dO 7 (by kernel_rfl) (by rw [List.getElem?_toArray]; rfl) ?_
  apply o_call; rfl; kernel_rfl; exact evsE
  refine cb (fun w st => by
    obtain ⟨F', h⟩ := rdRW (st.get (p := .ow ESlot 113 (.slice s.a s.y.slots.length s.c) s.y.slots s.F) (by simp))
    exact (RWhas_f s.y s.y.next _ F' n0 n1 n0 n1).val w (hol1 h)) ?_
  refine dk ?_
  refine dd ?_
  rw [hasB_next]
  cases hv : havAt s.y.slots 0
  · repeat (first | apply c_seq | apply c_reg | (apply wO; apply oc; rfl; exact ydE) | apply w_nil | apply n_cd | (apply wg_t; rfl; rfl) | (apply wg_f; rfl; rfl; rfl; rfl) | (apply wg_u; rfl; rfl; rfl) | (apply c_t; rfl) | (apply c_f; rfl) | apply c_skip | apply c_block | apply n_blk | apply c_exit | apply e_hit | apply e_cd | apply e_lp | (apply e_miss; rfl) | apply c_ret | (apply wO; apply o_box; rfl; rfl; rfl; intro _) | (apply wO; apply o_alloc; rfl; intro _) | (apply wO; apply o_st; rfl; rfl; rfl; (first | exact AggC.s | exact OneC.s); rfl; exact rplE; exact putE; rfl) | (apply wO; apply o_bs0; rfl; intro _) | (apply wO; apply o_bs; rfl; rfl; rfl; rfl; exact rptE; exact filE; intro _) | (apply wO; apply o_call; rfl; kernel_rfl; exact evsE))
    refine ret s ⟨by rw [hw, (rel_stop hv).1], by rw [he, (rel_stop hv).2, List.append_nil]⟩ rfl
  repeat (first | apply c_seq | apply c_reg | (apply wO; apply oc; rfl; exact ydE) | apply w_nil | apply n_cd | (apply wg_t; rfl; rfl) | (apply wg_f; rfl; rfl; rfl; rfl) | (apply wg_u; rfl; rfl; rfl) | (apply c_t; rfl) | (apply c_f; rfl) | apply c_skip | apply c_block | apply n_blk | apply c_exit | apply e_hit | apply e_cd | apply e_lp | (apply e_miss; rfl) | apply c_ret | (apply wO; apply o_box; rfl; rfl; rfl; intro _) | (apply wO; apply o_alloc; rfl; intro _) | (apply wO; apply o_st; rfl; rfl; rfl; (first | exact AggC.s | exact OneC.s); rfl; exact rplE; exact putE; rfl) | (apply wO; apply o_bs0; rfl; intro _) | (apply wO; apply o_bs; rfl; rfl; rfl; rfl; exact rptE; exact filE; intro _) | (apply wO; apply o_call; rfl; kernel_rfl; exact evsE))
  refine cf (RWshift_f s.y g t o A B s.a s.c s.F n0 n1 (by omega) hit) fun z _ => ?_
  obtain ⟨az, cz, Fz⟩ := z
  refine t_app ?_
  have hsz := shiftEv_size hit
  have hmx : (shiftEv s.y.slots).size ≤ maxLen := by unfold maxLen; omega
  have hlt : 0 < s.y.slots.length := by
    rcases Nat.eq_zero_or_pos s.y.slots.length with h | h
    · rw [havAt_ge (by omega)] at hv; cases hv
    · exact h
  have hll : s.es.length + 1 ≤ 1000000 := by omega
  repeat (first | apply c_seq | apply c_reg | (apply wO; apply oc; rfl; exact ydE) | apply w_nil | apply n_cd | (apply wg_t; rfl; rfl) | (apply wg_f; rfl; rfl; rfl; rfl) | (apply wg_u; rfl; rfl; rfl) | (apply c_t; rfl) | (apply c_f; rfl) | apply c_skip | apply c_block | apply n_blk | apply c_exit | apply e_hit | apply e_cd | apply e_lp | (apply e_miss; rfl) | apply c_ret | (apply wO; apply o_box; rfl; rfl; rfl; intro _) | (apply wO; apply o_alloc; rfl; intro _) | (apply wO; apply o_st; rfl; rfl; rfl; (first | exact AggC.s | exact OneC.s); rfl; exact rplE; exact putE; rfl) | (apply wO; apply o_bs0; rfl; intro _) | (apply wO; apply o_bs; rfl; rfl; rfl; rfl; exact rptE; exact filE; intro _) | (apply wO; apply o_call; rfl; kernel_rfl; exact evsE))
  apply wO
  refine ap1 (rep_str _ hmx) one_EStr fun a' c' F' => ?_
  repeat (first | apply c_seq | apply c_reg | (apply wO; apply oc; rfl; exact ydE) | apply w_nil | apply n_cd | (apply wg_t; rfl; rfl) | (apply wg_f; rfl; rfl; rfl; rfl) | (apply wg_u; rfl; rfl; rfl) | (apply c_t; rfl) | (apply c_f; rfl) | apply c_skip | apply c_block | apply n_blk | apply c_exit | apply e_hit | apply e_cd | apply e_lp | (apply e_miss; rfl) | apply c_ret | (apply wO; apply o_box; rfl; rfl; rfl; intro _) | (apply wO; apply o_alloc; rfl; intro _) | (apply wO; apply o_st; rfl; rfl; rfl; (first | exact AggC.s | exact OneC.s); rfl; exact rplE; exact putE; rfl) | (apply wO; apply o_bs0; rfl; intro _) | (apply wO; apply o_bs; rfl; rfl; rfl; rfl; exact rptE; exact filE; intro _) | (apply wO; apply o_call; rfl; kernel_rfl; exact evsE))
  refine n_lp ⟨s.es ++ [shiftEv s.y.slots], shW s.y, az, cz, Fz, a', c', F'⟩ ⟨(aft_bd _ _).1, (aft_bd _ _).2, fun z hz => hit z (List.mem_of_mem_drop hz), by simp [shW]; omega, by rw [hw, (rel_go hv).1], by rw [he, (rel_go hv).2]; simp⟩ (by simp [shW]; omega)
end Go.Proofs.YtidephmobajikaaGreatDoor
/- Receive windows: what is taken, what is given up: in place. -/
namespace Go.Proofs.YtidephmobajikaaGreatDoor
open Go.RowKit
def zsl : Slot := ⟨false, ⟨#[]⟩⟩
def padL (x : ReceiveWindow) (j : Nat) : List Slot := x.slots ++ List.replicate j zsl
theorem padL_len (x : ReceiveWindow) (j : Nat) : (padL x j).length = x.slots.length + j := by simp [padL]
def putL (x : ReceiveWindow) (k : Nat) (s : Slot) : List Slot := (padL x (k + 1 - x.slots.length)).set k s
def takeNo (x : ReceiveWindow) (n : Int) : Bool := bef n x.next || hasB x n
def takeOk (x : ReceiveWindow) (n : Int) : Bool := takeNo x n || decide (gp x.next n < 8)
def putW (x : ReceiveWindow) (n : Int) (s : ByteArray) : ReceiveWindow := ⟨x.next, putL x (gp x.next n).toNat ⟨true, s⟩⟩
def takeW (x : ReceiveWindow) (n : Int) (s : ByteArray) : ReceiveWindow := if takeNo x n || !decide (gp x.next n < 8) then x else relW (putW x n s)
def takeE (x : ReceiveWindow) (n : Int) (s : ByteArray) : List ByteArray := if takeNo x n || !decide (gp x.next n < 8) then [] else relE (putW x n s)
theorem rep_slot (s : Slot) (h : s.item.size ≤ maxLen) (w : World) : Flat ESlot w [.bool s.hav, .string s.item] [s] [] := ⟨_, [], [], [], by simp, by simp, ⟨rfl, h, rfl⟩, rfl, rfl⟩
theorem putL_items {x : ReceiveWindow} {k : Nat} (hs : ∀ s ∈ x.slots, s.item.size ≤ 8) {s : Slot} (hi : s.item.size ≤ 8) : ∀ z ∈ putL x k s, z.item.size ≤ 8 := fun z hz => by
  unfold putL at hz
  rcases List.mem_or_eq_of_mem_set hz with h | rfl
  · unfold padL at h
    rcases List.mem_append.1 h with h | h
    · exact hs z h
    · rw [(List.mem_replicate.1 h).2]; decide
  · exact hi
structure PadS where
  j : Nat
  a : Option Addr
  c : Nat
  F : List Nat
set_option maxRecDepth 100000 in
theorem RWtake_f (x : ReceiveWindow) (n : Int) (item : ByteArray) (g t o : Nat) (A B : List Value) (a : Option Addr) (cc : Nat) (F : List Nat) (h0 : 0 ≤ x.next) (h1 : x.next ≤ 65535) (h2 : 0 ≤ n) (h3 : n ≤ 65535) (hl : x.slots.length ≤ 8) (hs : ∀ s ∈ x.slots, s.item.size ≤ 8) (hi : item.size ≤ 8) :
    Fn Tryz.prog 72 [ptr g o 0, .int .i64 n, .string item] [] [.row g t o A [.int .i64 x.next, .slice a x.slots.length cc] B, .ow ESlot 113 (.slice a x.slots.length cc) x.slots F] (fun (s : RelS) => s.y = takeW x n item ∧ s.es = takeE x n item)
      (fun s => .tuple #[.slice s.ae s.es.length s.ce, .bool (takeOk x n)]) (fun s => [.row g t o A [.int .i64 s.y.next, .slice s.a s.y.slots.length s.c] B, .ow ESlot 113 (.slice s.a s.y.slots.length s.c) s.y.slots s.F, .ow EStr 9 (.slice s.ae s.es.length s.ce) s.es s.Fe]) := by
  have hg := gp_bd x.next n
  refine enter Tryz.func72 rfl Tryz.ntmps72 fun w0 => ?_
  repeat (first | apply c_seq | apply c_reg | (apply wO; apply oc; rfl; exact ydE) | apply w_nil | apply n_cd | (apply wg_t; rfl; rfl) | (apply wg_f; rfl; rfl; rfl; rfl) | (apply wg_u; rfl; rfl; rfl) | (apply c_t; rfl) | (apply c_f; rfl) | apply c_skip | apply c_block | apply n_blk | apply c_exit | apply e_hit | apply e_cd | apply e_lp | (apply e_miss; rfl) | apply c_ret | (apply wO; apply o_box; rfl; rfl; rfl; intro _) | (apply wO; apply o_alloc; rfl; intro _) | (apply wO; apply o_st; rfl; rfl; rfl; (first | exact AggC.s | exact OneC.s); rfl; exact rplE; exact putE; rfl) | (apply wO; apply o_bs0; rfl; intro _) | (apply wO; apply o_bs; rfl; rfl; rfl; rfl; exact rptE; exact filE; intro _) | (apply wO; apply o_call; rfl; kernel_rfl; exact evsE))
  refine ce (fun w s => isBefore_c _ _ _ (by omega) (by omega) (by omega) (by omega)) ?_
  cases g1 : bef n x.next
  rotate_left
  · repeat (first | apply c_seq | apply c_reg | (apply wO; apply oc; rfl; exact ydE) | apply w_nil | apply n_cd | (apply wg_t; rfl; rfl) | (apply wg_f; rfl; rfl; rfl; rfl) | (apply wg_u; rfl; rfl; rfl) | (apply c_t; rfl) | (apply c_f; rfl) | apply c_skip | apply c_block | apply n_blk | apply c_exit | apply e_hit | apply e_cd | apply e_lp | (apply e_miss; rfl) | apply c_ret | (apply wO; apply o_box; rfl; rfl; rfl; intro _) | (apply wO; apply o_alloc; rfl; intro _) | (apply wO; apply o_st; rfl; rfl; rfl; (first | exact AggC.s | exact OneC.s); rfl; exact rplE; exact putE; rfl) | (apply wO; apply o_bs0; rfl; intro _) | (apply wO; apply o_bs; rfl; rfl; rfl; rfl; exact rptE; exact filE; intro _) | (apply wO; apply o_call; rfl; kernel_rfl; exact evsE))
    refine t_nilow EStr 9 ?_
    refine ret ⟨[], x, a, cc, F, none, 0, []⟩ ⟨by simp [takeW, takeNo, g1], by simp [takeE, takeNo, g1]⟩ ?_
    simp [takeOk, takeNo, g1, tup]
  repeat (first | apply c_seq | apply c_reg | (apply wO; apply oc; rfl; exact ydE) | apply w_nil | apply n_cd | (apply wg_t; rfl; rfl) | (apply wg_f; rfl; rfl; rfl; rfl) | (apply wg_u; rfl; rfl; rfl) | (apply c_t; rfl) | (apply c_f; rfl) | apply c_skip | apply c_block | apply n_blk | apply c_exit | apply e_hit | apply e_cd | apply e_lp | (apply e_miss; rfl) | apply c_ret | (apply wO; apply o_box; rfl; rfl; rfl; intro _) | (apply wO; apply o_alloc; rfl; intro _) | (apply wO; apply o_st; rfl; rfl; rfl; (first | exact AggC.s | exact OneC.s); rfl; exact rplE; exact putE; rfl) | (apply wO; apply o_bs0; rfl; intro _) | (apply wO; apply o_bs; rfl; rfl; rfl; rfl; exact rptE; exact filE; intro _) | (apply wO; apply o_call; rfl; kernel_rfl; exact evsE))
  refine cb (fun w st => by
    obtain ⟨F', h⟩ := rdRW (st.get (p := .ow ESlot 113 (.slice a x.slots.length cc) x.slots F) (by simp))
    exact (RWhas_f x n _ F' h0 h1 h2 h3).val w (hol1 h)) ?_
  cases g2 : hasB x n
  rotate_left
  · repeat (first | apply c_seq | apply c_reg | (apply wO; apply oc; rfl; exact ydE) | apply w_nil | apply n_cd | (apply wg_t; rfl; rfl) | (apply wg_f; rfl; rfl; rfl; rfl) | (apply wg_u; rfl; rfl; rfl) | (apply c_t; rfl) | (apply c_f; rfl) | apply c_skip | apply c_block | apply n_blk | apply c_exit | apply e_hit | apply e_cd | apply e_lp | (apply e_miss; rfl) | apply c_ret | (apply wO; apply o_box; rfl; rfl; rfl; intro _) | (apply wO; apply o_alloc; rfl; intro _) | (apply wO; apply o_st; rfl; rfl; rfl; (first | exact AggC.s | exact OneC.s); rfl; exact rplE; exact putE; rfl) | (apply wO; apply o_bs0; rfl; intro _) | (apply wO; apply o_bs; rfl; rfl; rfl; rfl; exact rptE; exact filE; intro _) | (apply wO; apply o_call; rfl; kernel_rfl; exact evsE))
    refine t_nilow EStr 9 ?_
    refine ret ⟨[], x, a, cc, F, none, 0, []⟩ ⟨by simp [takeW, takeNo, g1, g2], by simp [takeE, takeNo, g1, g2]⟩ ?_
    simp [takeOk, takeNo, g1, g2, tup]
  repeat (first | apply c_seq | apply c_reg | (apply wO; apply oc; rfl; exact ydE) | apply w_nil | apply n_cd | (apply wg_t; rfl; rfl) | (apply wg_f; rfl; rfl; rfl; rfl) | (apply wg_u; rfl; rfl; rfl) | (apply c_t; rfl) | (apply c_f; rfl) | apply c_skip | apply c_block | apply n_blk | apply c_exit | apply e_hit | apply e_cd | apply e_lp | (apply e_miss; rfl) | apply c_ret | (apply wO; apply o_box; rfl; rfl; rfl; intro _) | (apply wO; apply o_alloc; rfl; intro _) | (apply wO; apply o_st; rfl; rfl; rfl; (first | exact AggC.s | exact OneC.s); rfl; exact rplE; exact putE; rfl) | (apply wO; apply o_bs0; rfl; intro _) | (apply wO; apply o_bs; rfl; rfl; rfl; rfl; exact rptE; exact filE; intro _) | (apply wO; apply o_call; rfl; kernel_rfl; exact evsE))
  refine ce (fun w s => gap_c _ _ _ (by omega) (by omega) (by omega) (by omega)) ?_
  repeat (first | apply c_seq | apply c_reg | (apply wO; apply oc; rfl; exact ydE) | apply w_nil | apply n_cd | (apply wg_t; rfl; rfl) | (apply wg_f; rfl; rfl; rfl; rfl) | (apply wg_u; rfl; rfl; rfl) | (apply c_t; rfl) | (apply c_f; rfl) | apply c_skip | apply c_block | apply n_blk | apply c_exit | apply e_hit | apply e_cd | apply e_lp | (apply e_miss; rfl) | apply c_ret | (apply wO; apply o_box; rfl; rfl; rfl; intro _) | (apply wO; apply o_alloc; rfl; intro _) | (apply wO; apply o_st; rfl; rfl; rfl; (first | exact AggC.s | exact OneC.s); rfl; exact rplE; exact putE; rfl) | (apply wO; apply o_bs0; rfl; intro _) | (apply wO; apply o_bs; rfl; rfl; rfl; rfl; exact rptE; exact filE; intro _) | (apply wO; apply o_call; rfl; kernel_rfl; exact evsE))
  refine c_if rfl (fun h8 => ?_) (fun h8 => ?_)
  · repeat (first | apply c_seq | apply c_reg | (apply wO; apply oc; rfl; exact ydE) | apply w_nil | apply n_cd | (apply wg_t; rfl; rfl) | (apply wg_f; rfl; rfl; rfl; rfl) | (apply wg_u; rfl; rfl; rfl) | (apply c_t; rfl) | (apply c_f; rfl) | apply c_skip | apply c_block | apply n_blk | apply c_exit | apply e_hit | apply e_cd | apply e_lp | (apply e_miss; rfl) | apply c_ret | (apply wO; apply o_box; rfl; rfl; rfl; intro _) | (apply wO; apply o_alloc; rfl; intro _) | (apply wO; apply o_st; rfl; rfl; rfl; (first | exact AggC.s | exact OneC.s); rfl; exact rplE; exact putE; rfl) | (apply wO; apply o_bs0; rfl; intro _) | (apply wO; apply o_bs; rfl; rfl; rfl; rfl; exact rptE; exact filE; intro _) | (apply wO; apply o_call; rfl; kernel_rfl; exact evsE))
    refine t_nilow EStr 9 ?_
    have h9 : ¬ gp x.next n < 8 := by omega
    refine ret ⟨[], x, a, cc, F, none, 0, []⟩ ⟨by simp [takeW, h9], by simp [takeE, h9]⟩ ?_
    simp [takeOk, takeNo, g1, g2, h9, tup]
  have hW : takeW x n item = relW (putW x n item) := by unfold takeW takeNo; rw [g1, g2, decide_eq_true (by omega)]; rfl
  have hE : takeE x n item = relE (putW x n item) := by unfold takeE takeNo; rw [g1, g2, decide_eq_true (by omega)]; rfl
  have hO : takeOk x n = true := by unfold takeOk; rw [decide_eq_true (show gp x.next n < 8 by omega)]; simp
  unfold putW at hW hE
  obtain ⟨k, hk⟩ : ∃ k : Nat, gp x.next n = k := ⟨(gp x.next n).toNat, by omega⟩
  rw [hk] at hW hE ⊢
  rw [Int.toNat_natCast] at hW hE
  repeat (first | apply c_seq | apply c_reg | (apply wO; apply oc; rfl; exact ydE) | apply w_nil | apply n_cd | (apply wg_t; rfl; rfl) | (apply wg_f; rfl; rfl; rfl; rfl) | (apply wg_u; rfl; rfl; rfl) | (apply c_t; rfl) | (apply c_f; rfl) | apply c_skip | apply c_block | apply n_blk | apply c_exit | apply e_hit | apply e_cd | apply e_lp | (apply e_miss; rfl) | apply c_ret | (apply wO; apply o_box; rfl; rfl; rfl; intro _) | (apply wO; apply o_alloc; rfl; intro _) | (apply wO; apply o_st; rfl; rfl; rfl; (first | exact AggC.s | exact OneC.s); rfl; exact rplE; exact putE; rfl) | (apply wO; apply o_bs0; rfl; intro _) | (apply wO; apply o_bs; rfl; rfl; rfl; rfl; exact rptE; exact filE; intro _) | (apply wO; apply o_call; rfl; kernel_rfl; exact evsE))
  refine c_loopS [0, 2, 6, 7, 8] (fun s : PadS => []) (fun s => [.row g t o A [.int .i64 x.next, .slice s.a (padL x s.j).length s.c] B, .ow ESlot 113 (.slice s.a (padL x s.j).length s.c) (padL x s.j) s.F]) (fun s => s.j ≤ k + 1 - x.slots.length) (fun s => k + 1 - x.slots.length - s.j) ⟨0, a, cc, F⟩ (Nat.zero_le _) (fun s hj => ?_) (hH := by simp only [padL, List.replicate_zero, List.append_nil]; exact picksE)
  have hpl := padL_len x s.j
  repeat (first | apply c_seq | apply c_reg | (apply wO; apply oc; rfl; exact ydE) | apply w_nil | apply n_cd | (apply wg_t; rfl; rfl) | (apply wg_f; rfl; rfl; rfl; rfl) | (apply wg_u; rfl; rfl; rfl) | (apply c_t; rfl) | (apply c_f; rfl) | apply c_skip | apply c_block | apply n_blk | apply c_exit | apply e_hit | apply e_cd | apply e_lp | (apply e_miss; rfl) | apply c_ret | (apply wO; apply o_box; rfl; rfl; rfl; intro _) | (apply wO; apply o_alloc; rfl; intro _) | (apply wO; apply o_st; rfl; rfl; rfl; (first | exact AggC.s | exact OneC.s); rfl; exact rplE; exact putE; rfl) | (apply wO; apply o_bs0; rfl; intro _) | (apply wO; apply o_bs; rfl; rfl; rfl; rfl; exact rptE; exact filE; intro _) | (apply wO; apply o_call; rfl; kernel_rfl; exact evsE))
  refine c_if rfl (fun h9 => ?_) (fun h9 => ?_)
  · repeat (first | apply c_seq | apply c_reg | (apply wO; apply oc; rfl; exact ydE) | apply w_nil | apply n_cd | (apply wg_t; rfl; rfl) | (apply wg_f; rfl; rfl; rfl; rfl) | (apply wg_u; rfl; rfl; rfl) | (apply c_t; rfl) | (apply c_f; rfl) | apply c_skip | apply c_block | apply n_blk | apply c_exit | apply e_hit | apply e_cd | apply e_lp | (apply e_miss; rfl) | apply c_ret | (apply wO; apply o_box; rfl; rfl; rfl; intro _) | (apply wO; apply o_alloc; rfl; intro _) | (apply wO; apply o_st; rfl; rfl; rfl; (first | exact AggC.s | exact OneC.s); rfl; exact rplE; exact putE; rfl) | (apply wO; apply o_bs0; rfl; intro _) | (apply wO; apply o_bs; rfl; rfl; rfl; rfl; exact rptE; exact filE; intro _) | (apply wO; apply o_call; rfl; kernel_rfl; exact evsE))
    apply wO
    refine ap1 (rep_slot zsl (by decide)) one_ESlot fun a' c' F' => ?_
    repeat (first | apply c_seq | apply c_reg | (apply wO; apply oc; rfl; exact ydE) | apply w_nil | apply n_cd | (apply wg_t; rfl; rfl) | (apply wg_f; rfl; rfl; rfl; rfl) | (apply wg_u; rfl; rfl; rfl) | (apply c_t; rfl) | (apply c_f; rfl) | apply c_skip | apply c_block | apply n_blk | apply c_exit | apply e_hit | apply e_cd | apply e_lp | (apply e_miss; rfl) | apply c_ret | (apply wO; apply o_box; rfl; rfl; rfl; intro _) | (apply wO; apply o_alloc; rfl; intro _) | (apply wO; apply o_st; rfl; rfl; rfl; (first | exact AggC.s | exact OneC.s); rfl; exact rplE; exact putE; rfl) | (apply wO; apply o_bs0; rfl; intro _) | (apply wO; apply o_bs; rfl; rfl; rfl; rfl; exact rptE; exact filE; intro _) | (apply wO; apply o_call; rfl; kernel_rfl; exact evsE))
    have e : padL x s.j ++ [zsl] = padL x (s.j + 1) := by simp [padL, List.replicate_succ']
    rw [e]
    refine n_lp ⟨s.j + 1, a', c', F'⟩ (by show s.j + 1 ≤ _; omega) (by show _ - (s.j + 1) < _; omega)
  have hjk : s.j = k + 1 - x.slots.length := by omega
  repeat (first | apply c_seq | apply c_reg | (apply wO; apply oc; rfl; exact ydE) | apply w_nil | apply n_cd | (apply wg_t; rfl; rfl) | (apply wg_f; rfl; rfl; rfl; rfl) | (apply wg_u; rfl; rfl; rfl) | (apply c_t; rfl) | (apply c_f; rfl) | apply c_skip | apply c_block | apply n_blk | apply c_exit | apply e_hit | apply e_cd | apply e_lp | (apply e_miss; rfl) | apply c_ret | (apply wO; apply o_box; rfl; rfl; rfl; intro _) | (apply wO; apply o_alloc; rfl; intro _) | (apply wO; apply o_st; rfl; rfl; rfl; (first | exact AggC.s | exact OneC.s); rfl; exact rplE; exact putE; rfl) | (apply wO; apply o_bs0; rfl; intro _) | (apply wO; apply o_bs; rfl; rfl; rfl; rfl; exact rptE; exact filE; intro _) | (apply wO; apply o_call; rfl; kernel_rfl; exact evsE))
  have hkl : k < (padL x s.j).length := by omega
  refine focSlot k ?_
  rintro hi2 g2 A2 B2 e eF hs2 hh
  rw [e]
  repeat (first | apply c_seq | apply c_reg | (apply wO; apply oc; rfl; exact ydE) | apply w_nil | apply n_cd | (apply wg_t; rfl; rfl) | (apply wg_f; rfl; rfl; rfl; rfl) | (apply wg_u; rfl; rfl; rfl) | (apply c_t; rfl) | (apply c_f; rfl) | apply c_skip | apply c_block | apply n_blk | apply c_exit | apply e_hit | apply e_cd | apply e_lp | (apply e_miss; rfl) | apply c_ret | (apply wO; apply o_box; rfl; rfl; rfl; intro _) | (apply wO; apply o_alloc; rfl; intro _) | (apply wO; apply o_st; rfl; rfl; rfl; (first | exact AggC.s | exact OneC.s); rfl; exact rplE; exact putE; rfl) | (apply wO; apply o_bs0; rfl; intro _) | (apply wO; apply o_bs; rfl; rfl; rfl; rfl; exact rptE; exact filE; intro _))
  refine unfF (⟨true, item⟩ : Slot) hh (fun w => ⟨rfl, by show item.size ≤ maxLen; unfold maxLen; omega, rfl⟩) ?_
  have hsl : (padL x s.j).length = ((padL x s.j).set k ⟨true, item⟩).length := by rw [List.length_set]
  rw [hsl]
  have hpu : (padL x s.j).set k ⟨true, item⟩ = putL x k ⟨true, item⟩ := by unfold putL; rw [hjk]
  rw [hpu]
  have hpl2 : (putL x k ⟨true, item⟩).length ≤ 1000 := by unfold putL; rw [List.length_set, padL_len]; omega
  have hps := putL_items (x := x) (k := k) hs (s := ⟨true, item⟩) hi
  repeat (first | apply c_seq | apply c_reg | (apply wO; apply oc; rfl; exact ydE) | apply w_nil | apply n_cd | (apply wg_t; rfl; rfl) | (apply wg_f; rfl; rfl; rfl; rfl) | (apply wg_u; rfl; rfl; rfl) | (apply c_t; rfl) | (apply c_f; rfl) | apply c_skip | apply c_block | apply n_blk | apply c_exit | apply e_hit | apply e_cd | apply e_lp | (apply e_miss; rfl) | apply c_ret | (apply wO; apply o_box; rfl; rfl; rfl; intro _) | (apply wO; apply o_alloc; rfl; intro _) | (apply wO; apply o_st; rfl; rfl; rfl; (first | exact AggC.s | exact OneC.s); rfl; exact rplE; exact putE; rfl) | (apply wO; apply o_bs0; rfl; intro _) | (apply wO; apply o_bs; rfl; rfl; rfl; rfl; exact rptE; exact filE; intro _) | (apply wO; apply o_call; rfl; kernel_rfl; exact evsE))
  refine cf (RWrelease_f ⟨x.next, putL x k ⟨true, item⟩⟩ g t o A B _ _ _ h0 h1 (by show (putL x k ⟨true, item⟩).length ≤ _; omega) hps) fun z hz => ?_
  refine t_app ?_
  repeat (first | apply c_seq | apply c_reg | (apply wO; apply oc; rfl; exact ydE) | apply w_nil | apply n_cd | (apply wg_t; rfl; rfl) | (apply wg_f; rfl; rfl; rfl; rfl) | (apply wg_u; rfl; rfl; rfl) | (apply c_t; rfl) | (apply c_f; rfl) | apply c_skip | apply c_block | apply n_blk | apply c_exit | apply e_hit | apply e_cd | apply e_lp | (apply e_miss; rfl) | apply c_ret | (apply wO; apply o_box; rfl; rfl; rfl; intro _) | (apply wO; apply o_alloc; rfl; intro _) | (apply wO; apply o_st; rfl; rfl; rfl; (first | exact AggC.s | exact OneC.s); rfl; exact rplE; exact putE; rfl) | (apply wO; apply o_bs0; rfl; intro _) | (apply wO; apply o_bs; rfl; rfl; rfl; rfl; exact rptE; exact filE; intro _) | (apply wO; apply o_call; rfl; kernel_rfl; exact evsE))
  refine ret z ⟨by rw [hz.1, hW], by rw [hz.2, hE]⟩ ?_
  rw [hO]; rfl
end Go.Proofs.YtidephmobajikaaGreatDoor
/- Receive windows: TakeItem and GiveUpTo of the program. -/
namespace Go.Proofs.YtidephmobajikaaGreatDoor
open Go.RowKit
def zRW : ReceiveWindow := ⟨0, []⟩
def okTakeItem (x : ReceiveWindow) (n : Int) (s : ByteArray) : Bool := goodRW x && isSer n && itm s && takeOk x n
def resTakeItem (x : ReceiveWindow) (n : Int) (s : ByteArray) : ReceiveWindow × List ByteArray × Bool := if okTakeItem x n s then (takeW x n s, takeE x n s, true) else (zRW, [], false)
theorem okSlot_size {s : Slot} (h : okSlot s = true) : s.item.size ≤ 8 := by
  unfold okSlot itm at h
  simp only [Bool.and_eq_true, decide_eq_true_eq] at h
  omega
structure GoodRW (x : ReceiveWindow) : Prop where
  n0 : 0 ≤ x.next
  n1 : x.next ≤ 65535
  l : x.slots.length ≤ 8
  it : ∀ s ∈ x.slots, s.item.size ≤ 8
theorem good_of {x : ReceiveWindow} (h : goodRW x = true) : GoodRW x := by
  unfold goodRW at h
  simp only [Bool.and_eq_true, decide_eq_true_eq] at h
  have hs := isSer_iff.1 h.1.1.1
  exact ⟨hs.1, hs.2, by omega, fun s hs => okSlot_size (List.all_eq_true.1 h.1.2 s hs)⟩
theorem itm_size {s : ByteArray} (h : itm s = true) : s.size ≤ 8 := by unfold itm at h; simp only [Bool.and_eq_true, decide_eq_true_eq] at h; omega
set_option maxRecDepth 100000 in
theorem TakeItem_f (x : ReceiveWindow) (n : Int) (item : ByteArray) (v : Value) (F : List Nat) (hi : item.size ≤ maxLen) :
    Fn Tryz.prog 9 [v, .int .i64 n, .string item] [.isv EReceiveWindow v x F] [] (fun (s : RelS) => s.y = (resTakeItem x n item).1 ∧ s.es = (resTakeItem x n item).2.1)
      (fun s => .tuple #[.agg #[.int .i64 s.y.next, .slice s.a s.y.slots.length s.c], .slice s.ae s.es.length s.ce, .bool (resTakeItem x n item).2.2]) (fun s => [.own OReceiveWindow (.agg #[.int .i64 s.y.next, .slice s.a s.y.slots.length s.c]) s.y s.F, .ow EStr 9 (.slice s.ae s.es.length s.ce) s.es s.Fe]) := by
  have no : okTakeItem x n item = false → resTakeItem x n item = (zRW, [], false) := fun h => by unfold resTakeItem; rw [h]; rfl
  refine enter Tryz.func9 rfl Tryz.ntmps9 fun w0 => ?_
  refine t_nilow EStr 9 ?_
  refine t_nilow ESlot 113 ?_
  refine closeOReceiveWindow zRW ?_
  refine openReceiveWindow ?_
  rintro a1 c1 F1 rfl l1
  repeat (first | apply c_seq | apply c_reg | (apply wO; apply oc; rfl; exact ydE) | apply w_nil | apply n_cd | (apply wg_t; rfl; rfl) | (apply wg_f; rfl; rfl; rfl; rfl) | (apply wg_u; rfl; rfl; rfl) | (apply c_t; rfl) | (apply c_f; rfl) | apply c_skip | apply c_block | apply n_blk | apply c_exit | apply e_hit | apply e_cd | apply e_lp | (apply e_miss; rfl) | apply c_ret | (apply wO; apply o_box; rfl; rfl; rfl; intro _) | (apply wO; apply o_alloc; rfl; intro _) | (apply wO; apply o_st; rfl; rfl; rfl; (first | exact AggC.s | exact OneC.s); rfl; exact rplE; exact putE; rfl) | (apply wO; apply o_bs0; rfl; intro _) | (apply wO; apply o_bs; rfl; rfl; rfl; rfl; exact rptE; exact filE; intro _) | (apply wO; apply o_call; rfl; kernel_rfl; exact evsE))
  refine cb (fun w st => (RWgood_f x _ F).val w (hol1 (st.get (p := .isv EReceiveWindow (.agg #[.int .i64 x.next, .slice a1 x.slots.length c1]) x F) (by simp)))) ?_
  cases g1 : goodRW x
  · repeat (first | apply c_seq | apply c_reg | (apply wO; apply oc; rfl; exact ydE) | apply w_nil | apply n_cd | (apply wg_t; rfl; rfl) | (apply wg_f; rfl; rfl; rfl; rfl) | (apply wg_u; rfl; rfl; rfl) | (apply c_t; rfl) | (apply c_f; rfl) | apply c_skip | apply c_block | apply n_blk | apply c_exit | apply e_hit | apply e_cd | apply e_lp | (apply e_miss; rfl) | apply c_ret | (apply wO; apply o_box; rfl; rfl; rfl; intro _) | (apply wO; apply o_alloc; rfl; intro _) | (apply wO; apply o_st; rfl; rfl; rfl; (first | exact AggC.s | exact OneC.s); rfl; exact rplE; exact putE; rfl) | (apply wO; apply o_bs0; rfl; intro _) | (apply wO; apply o_bs; rfl; rfl; rfl; rfl; exact rptE; exact filE; intro _) | (apply wO; apply o_call; rfl; kernel_rfl; exact evsE))
    rw [no (by unfold okTakeItem; rw [g1]; rfl)]
    refine ret ⟨[], zRW, none, 0, [], none, 0, []⟩ ⟨rfl, rfl⟩ rfl
  obtain ⟨n0, n1, hl, hit⟩ := good_of g1
  repeat (first | apply c_seq | apply c_reg | (apply wO; apply oc; rfl; exact ydE) | apply w_nil | apply n_cd | (apply wg_t; rfl; rfl) | (apply wg_f; rfl; rfl; rfl; rfl) | (apply wg_u; rfl; rfl; rfl) | (apply c_t; rfl) | (apply c_f; rfl) | apply c_skip | apply c_block | apply n_blk | apply c_exit | apply e_hit | apply e_cd | apply e_lp | (apply e_miss; rfl) | apply c_ret | (apply wO; apply o_box; rfl; rfl; rfl; intro _) | (apply wO; apply o_alloc; rfl; intro _) | (apply wO; apply o_st; rfl; rfl; rfl; (first | exact AggC.s | exact OneC.s); rfl; exact rplE; exact putE; rfl) | (apply wO; apply o_bs0; rfl; intro _) | (apply wO; apply o_bs; rfl; rfl; rfl; rfl; exact rptE; exact filE; intro _) | (apply wO; apply o_call; rfl; kernel_rfl; exact evsE))
  refine ce (fun w s => IsSerial_c _ _) ?_
  cases g2 : isSer n
  · repeat (first | apply c_seq | apply c_reg | (apply wO; apply oc; rfl; exact ydE) | apply w_nil | apply n_cd | (apply wg_t; rfl; rfl) | (apply wg_f; rfl; rfl; rfl; rfl) | (apply wg_u; rfl; rfl; rfl) | (apply c_t; rfl) | (apply c_f; rfl) | apply c_skip | apply c_block | apply n_blk | apply c_exit | apply e_hit | apply e_cd | apply e_lp | (apply e_miss; rfl) | apply c_ret | (apply wO; apply o_box; rfl; rfl; rfl; intro _) | (apply wO; apply o_alloc; rfl; intro _) | (apply wO; apply o_st; rfl; rfl; rfl; (first | exact AggC.s | exact OneC.s); rfl; exact rplE; exact putE; rfl) | (apply wO; apply o_bs0; rfl; intro _) | (apply wO; apply o_bs; rfl; rfl; rfl; rfl; exact rptE; exact filE; intro _) | (apply wO; apply o_call; rfl; kernel_rfl; exact evsE))
    rw [no (by unfold okTakeItem; rw [g2]; simp)]
    refine ret ⟨[], zRW, none, 0, [], none, 0, []⟩ ⟨rfl, rfl⟩ rfl
  obtain ⟨k0, k1⟩ := isSer_iff.1 g2
  repeat (first | apply c_seq | apply c_reg | (apply wO; apply oc; rfl; exact ydE) | apply w_nil | apply n_cd | (apply wg_t; rfl; rfl) | (apply wg_f; rfl; rfl; rfl; rfl) | (apply wg_u; rfl; rfl; rfl) | (apply c_t; rfl) | (apply c_f; rfl) | apply c_skip | apply c_block | apply n_blk | apply c_exit | apply e_hit | apply e_cd | apply e_lp | (apply e_miss; rfl) | apply c_ret | (apply wO; apply o_box; rfl; rfl; rfl; intro _) | (apply wO; apply o_alloc; rfl; intro _) | (apply wO; apply o_st; rfl; rfl; rfl; (first | exact AggC.s | exact OneC.s); rfl; exact rplE; exact putE; rfl) | (apply wO; apply o_bs0; rfl; intro _) | (apply wO; apply o_bs; rfl; rfl; rfl; rfl; exact rptE; exact filE; intro _) | (apply wO; apply o_call; rfl; kernel_rfl; exact evsE))
  refine cb (fun w s => isItem_c _ _ hi) ?_
  cases g3 : itm item
  · repeat (first | apply c_seq | apply c_reg | (apply wO; apply oc; rfl; exact ydE) | apply w_nil | apply n_cd | (apply wg_t; rfl; rfl) | (apply wg_f; rfl; rfl; rfl; rfl) | (apply wg_u; rfl; rfl; rfl) | (apply c_t; rfl) | (apply c_f; rfl) | apply c_skip | apply c_block | apply n_blk | apply c_exit | apply e_hit | apply e_cd | apply e_lp | (apply e_miss; rfl) | apply c_ret | (apply wO; apply o_box; rfl; rfl; rfl; intro _) | (apply wO; apply o_alloc; rfl; intro _) | (apply wO; apply o_st; rfl; rfl; rfl; (first | exact AggC.s | exact OneC.s); rfl; exact rplE; exact putE; rfl) | (apply wO; apply o_bs0; rfl; intro _) | (apply wO; apply o_bs; rfl; rfl; rfl; rfl; exact rptE; exact filE; intro _) | (apply wO; apply o_call; rfl; kernel_rfl; exact evsE))
    rw [no (by unfold okTakeItem; rw [g3]; simp)]
    refine ret ⟨[], zRW, none, 0, [], none, 0, []⟩ ⟨rfl, rfl⟩ rfl
  have hi8 := itm_size g3
  repeat (first | apply c_seq | apply c_reg | (apply wO; apply oc; rfl; exact ydE) | apply w_nil | apply n_cd | (apply wg_t; rfl; rfl) | (apply wg_f; rfl; rfl; rfl; rfl) | (apply wg_u; rfl; rfl; rfl) | (apply c_t; rfl) | (apply c_f; rfl) | apply c_skip | apply c_block | apply n_blk | apply c_exit | apply e_hit | apply e_cd | apply e_lp | (apply e_miss; rfl) | apply c_ret | (apply wO; apply o_box; rfl; rfl; rfl; intro _) | (apply wO; apply o_alloc; rfl; intro _) | (apply wO; apply o_st; rfl; rfl; rfl; (first | exact AggC.s | exact OneC.s); rfl; exact rplE; exact putE; rfl) | (apply wO; apply o_bs0; rfl; intro _) | (apply wO; apply o_bs; rfl; rfl; rfl; rfl; exact rptE; exact filE; intro _) | (apply wO; apply o_call; rfl; kernel_rfl; exact evsE))
  refine cf (RWclone_f x _ F (by omega)) fun z _ => ?_
  refine t_app ?_
  repeat (first | apply c_seq | apply c_reg | (apply wO; apply oc; rfl; exact ydE) | apply w_nil | apply n_cd | (apply wg_t; rfl; rfl) | (apply wg_f; rfl; rfl; rfl; rfl) | (apply wg_u; rfl; rfl; rfl) | (apply c_t; rfl) | (apply c_f; rfl) | apply c_skip | apply c_block | apply n_blk | apply c_exit | apply e_hit | apply e_cd | apply e_lp | (apply e_miss; rfl) | apply c_ret | (apply wO; apply o_box; rfl; rfl; rfl; intro _) | (apply wO; apply o_alloc; rfl; intro _) | (apply wO; apply o_st; rfl; rfl; rfl; (first | exact AggC.s | exact OneC.s); rfl; exact rplE; exact putE; rfl) | (apply wO; apply o_bs0; rfl; intro _) | (apply wO; apply o_bs; rfl; rfl; rfl; rfl; exact rptE; exact filE; intro _) | (apply wO; apply o_call; rfl; kernel_rfl; exact evsE))
  refine cf (RWtake_f x n item _ _ 0 [] [] z.1 z.2.1 z.2.2 n0 n1 k0 k1 hl hit hi8) fun z hz => ?_
  refine t_app ?_
  cases g4 : takeOk x n
  · repeat (first | apply c_seq | apply c_reg | (apply wO; apply oc; rfl; exact ydE) | apply w_nil | apply n_cd | (apply wg_t; rfl; rfl) | (apply wg_f; rfl; rfl; rfl; rfl) | (apply wg_u; rfl; rfl; rfl) | (apply c_t; rfl) | (apply c_f; rfl) | apply c_skip | apply c_block | apply n_blk | apply c_exit | apply e_hit | apply e_cd | apply e_lp | (apply e_miss; rfl) | apply c_ret | (apply wO; apply o_box; rfl; rfl; rfl; intro _) | (apply wO; apply o_alloc; rfl; intro _) | (apply wO; apply o_st; rfl; rfl; rfl; (first | exact AggC.s | exact OneC.s); rfl; exact rplE; exact putE; rfl) | (apply wO; apply o_bs0; rfl; intro _) | (apply wO; apply o_bs; rfl; rfl; rfl; rfl; exact rptE; exact filE; intro _) | (apply wO; apply o_call; rfl; kernel_rfl; exact evsE))
    rw [no (by unfold okTakeItem; rw [g4]; simp)]
    refine ret ⟨[], zRW, none, 0, [], none, 0, []⟩ ⟨rfl, rfl⟩ rfl
  have hr : resTakeItem x n item = (takeW x n item, takeE x n item, true) := by unfold resTakeItem okTakeItem; rw [g1, g2, g3, g4]; rfl
  rw [hr]
  repeat (first | apply c_seq | apply c_reg | (apply wO; apply oc; rfl; exact ydE) | apply w_nil | apply n_cd | (apply wg_t; rfl; rfl) | (apply wg_f; rfl; rfl; rfl; rfl) | (apply wg_u; rfl; rfl; rfl) | (apply c_t; rfl) | (apply c_f; rfl) | apply c_skip | apply c_block | apply n_blk | apply c_exit | apply e_hit | apply e_cd | apply e_lp | (apply e_miss; rfl) | apply c_ret | (apply wO; apply o_box; rfl; rfl; rfl; intro _) | (apply wO; apply o_alloc; rfl; intro _) | (apply wO; apply o_st; rfl; rfl; rfl; (first | exact AggC.s | exact OneC.s); rfl; exact rplE; exact putE; rfl) | (apply wO; apply o_bs0; rfl; intro _) | (apply wO; apply o_bs; rfl; rfl; rfl; rfl; exact rptE; exact filE; intro _) | (apply wO; apply o_call; rfl; kernel_rfl; exact evsE))
  refine closeOReceiveWindow z.y ?_
  refine ret z hz rfl
end Go.Proofs.YtidephmobajikaaGreatDoor
/- Receive windows: the reference's. -/
namespace Go.Proofs.YtidephmobajikaaGreatDoor
open Go.RowKit
structure CpS where
  g : Nat
  a : Option Addr
  c : Nat
  F : List Nat
set_option maxRecDepth 100000 in
theorem l10Release_f (x : ReceiveWindow) (v : Value) (F : List Nat) (h0 : 0 ≤ x.next) (h1 : x.next ≤ 65535) (hl : x.slots.length ≤ 1000000) (hs : ∀ s ∈ x.slots, s.item.size ≤ 8) :
    Fn Tryz.prog 142 [v] [.isv EReceiveWindow v x F] [] (fun (s : RelS) => s.y = relW x ∧ s.es = relE x)
      (fun s => .tuple #[.agg #[.int .i64 s.y.next, .slice s.a s.y.slots.length s.c], .slice s.ae s.es.length s.ce]) (fun s => [.isv EReceiveWindow (.agg #[.int .i64 s.y.next, .slice s.a s.y.slots.length s.c]) s.y s.F, .ow EStr 9 (.slice s.ae s.es.length s.ce) s.es s.Fe]) := by
  refine enter Tryz.func142 rfl Tryz.ntmps142 fun w0 => ?_
  refine openReceiveWindow ?_
  rintro a1 c1 F1 rfl l1
  unfold maxLen at l1
  repeat (first | apply c_seq | apply c_reg | (apply wO; apply oc; rfl; exact ydE) | apply w_nil | apply n_cd | (apply wg_t; rfl; rfl) | (apply wg_f; rfl; rfl; rfl; rfl) | (apply wg_u; rfl; rfl; rfl) | (apply c_t; rfl) | (apply c_f; rfl) | apply c_skip | apply c_block | apply n_blk | apply c_exit | apply e_hit | apply e_cd | apply e_lp | (apply e_miss; rfl) | apply c_ret | (apply wO; apply o_box; rfl; rfl; rfl; intro _) | (apply wO; apply o_alloc; rfl; intro _) | (apply wO; apply o_st; rfl; rfl; rfl; (first | exact AggC.s | exact OneC.s); rfl; exact rplE; exact putE; rfl) | (apply wO; apply o_bs0; rfl; intro _) | (apply wO; apply o_bs; rfl; rfl; rfl; rfl; exact rptE; exact filE; intro _) | (apply wO; apply o_call; rfl; kernel_rfl; exact evsE))
  refine c_joinS [2, 3] [0] (fun s : CpS => [(4, ptr s.g 0 0)]) (fun s => [.row s.g 26 0 [] [.int .i64 x.next, .slice s.a x.slots.length s.c] [], .ow ESlot 113 (.slice s.a x.slots.length s.c) x.slots s.F]) (fun _ => True) ?_ fun s _ => ?_
  · refine d_start [0, 1] [8] ?_
    refine dt 0 ?_
    refine dt 1 ?_
    refine dt 3 ?_
    refine dt 4 ?_
    refine dO2 2 7 (by kernel_rfl) (by rw [List.getElem?_toArray]; rfl) (by rw [List.getElem?_toArray]; rfl) ?_ ?_
    · apply o_bs0; rfl; intro _
      refine t_emp ESlot ?_
      refine dk ?_
      refine dO2 5 7 (by kernel_rfl) (by rw [List.getElem?_toArray]; rfl) (by rw [List.getElem?_toArray]; rfl) ?_ ?_
      · refine aps one_ESlot scal_ESlot fun a2 c2 F2 => ?_
        refine dk ?_
        refine dt 6 ?_
        refine dO 7 (by kernel_rfl) (by rw [List.getElem?_toArray]; rfl) ?_
        apply o_alloc; rfl; intro _
        refine dk ?_
        refine dO 8 (by kernel_rfl) (by rw [List.getElem?_toArray]; rfl) ?_
        apply o_st; rfl; rfl; rfl; (first | exact AggC.s | exact OneC.s); rfl; exact rplE; exact putE; rfl
        refine dkx ?_
        refine dd ?_
        refine n_join (⟨_, a2, c2, F2⟩ : CpS) trivial
      · apply o_alloc; rfl; intro _
        refine dk ?_
        refine dO 5 (by kernel_rfl) (by rw [List.getElem?_toArray]; rfl) ?_
        refine aps one_ESlot scal_ESlot fun a2 c2 F2 => ?_
        refine dk ?_
        refine dt 6 ?_
        refine dO 8 (by kernel_rfl) (by rw [List.getElem?_toArray]; rfl) ?_
        apply o_st; rfl; rfl; rfl; (first | exact AggC.s | exact OneC.s); rfl; exact rplE; exact putE; rfl
        refine dkx ?_
        refine dd ?_
        refine n_join (⟨_, a2, c2, F2⟩ : CpS) trivial
    · apply o_alloc; rfl; intro _
      refine dk ?_
      refine dO 2 (by kernel_rfl) (by rw [List.getElem?_toArray]; rfl) ?_
      apply o_bs0; rfl; intro _
      refine t_emp ESlot ?_
      refine dk ?_
      refine dO 5 (by kernel_rfl) (by rw [List.getElem?_toArray]; rfl) ?_
      refine aps one_ESlot scal_ESlot fun a2 c2 F2 => ?_
      refine dk ?_
      refine dt 6 ?_
      refine dO 8 (by kernel_rfl) (by rw [List.getElem?_toArray]; rfl) ?_
      apply o_st; rfl; rfl; rfl; (first | exact AggC.s | exact OneC.s); rfl; exact rplE; exact putE; rfl
      refine dkx ?_
      refine dd ?_
      refine n_join (⟨_, a2, c2, F2⟩ : CpS) trivial
  obtain ⟨gg, a2, c2, F2⟩ := s
  refine t_read (xs := x.slots) fun F3 => ?_
  repeat (first | apply c_seq | apply c_reg | (apply wO; apply oc; rfl; exact ydE) | apply w_nil | apply n_cd | (apply wg_t; rfl; rfl) | (apply wg_f; rfl; rfl; rfl; rfl) | (apply wg_u; rfl; rfl; rfl) | (apply c_t; rfl) | (apply c_f; rfl) | apply c_skip | apply c_block | apply n_blk | apply c_exit | apply e_hit | apply e_cd | apply e_lp | (apply e_miss; rfl) | apply c_ret | (apply wO; apply o_box; rfl; rfl; rfl; intro _) | (apply wO; apply o_alloc; rfl; intro _) | (apply wO; apply o_st; rfl; rfl; rfl; (first | exact AggC.s | exact OneC.s); rfl; exact rplE; exact putE; rfl) | (apply wO; apply o_bs0; rfl; intro _) | (apply wO; apply o_bs; rfl; rfl; rfl; rfl; exact rptE; exact filE; intro _) | (apply wO; apply o_call; rfl; kernel_rfl; exact evsE))
  refine t_emp EStr ?_
  refine c_loopS [2, 3, 4] (fun s : RelS => [(5, .slice s.ae s.es.length s.ce)]) (fun s => [.row gg 26 0 [] [.int .i64 s.y.next, .slice s.a s.y.slots.length s.c] [], .sl ESlot (.slice s.a s.y.slots.length s.c) s.y.slots s.F, .ow EStr 9 (.slice s.ae s.es.length s.ce) s.es s.Fe]) (RelOk x) (fun s => s.y.slots.length) ⟨[], x, a2, c2, F3, _, 0, _⟩ ⟨h0, h1, hs, by simp, rfl, rfl⟩ fun s hC => ?_
  obtain ⟨n0, n1, hit, hln, hw, he⟩ := hC
  have stop : havAt s.y.slots 0 = false → s.y = relW x ∧ s.es = relE x := fun h => ⟨by rw [hw, (rel_stop h).1], by rw [he, (rel_stop h).2, List.append_nil]⟩
  repeat (first | apply c_seq | apply c_reg | (apply wO; apply oc; rfl; exact ydE) | apply w_nil | apply n_cd | (apply wg_t; rfl; rfl) | (apply wg_f; rfl; rfl; rfl; rfl) | (apply wg_u; rfl; rfl; rfl) | (apply c_t; rfl) | (apply c_f; rfl) | apply c_skip | apply c_block | apply n_blk | apply c_exit | apply e_hit | apply e_cd | apply e_lp | (apply e_miss; rfl) | apply c_ret | (apply wO; apply o_box; rfl; rfl; rfl; intro _) | (apply wO; apply o_alloc; rfl; intro _) | (apply wO; apply o_st; rfl; rfl; rfl; (first | exact AggC.s | exact OneC.s); rfl; exact rplE; exact putE; rfl) | (apply wO; apply o_bs0; rfl; intro _) | (apply wO; apply o_bs; rfl; rfl; rfl; rfl; exact rptE; exact filE; intro _) | (apply wO; apply o_call; rfl; kernel_rfl; exact evsE))
  refine wg_if rfl rfl (fun h4 => ?_) (fun h4 => ?_)
  rotate_left
  · repeat (first | apply c_seq | apply c_reg | (apply wO; apply oc; rfl; exact ydE) | apply w_nil | apply n_cd | (apply wg_t; rfl; rfl) | (apply wg_f; rfl; rfl; rfl; rfl) | (apply wg_u; rfl; rfl; rfl) | (apply c_t; rfl) | (apply c_f; rfl) | apply c_skip | apply c_block | apply n_blk | apply c_exit | apply e_hit | apply e_cd | apply e_lp | (apply e_miss; rfl) | apply c_ret | (apply wO; apply o_box; rfl; rfl; rfl; intro _) | (apply wO; apply o_alloc; rfl; intro _) | (apply wO; apply o_st; rfl; rfl; rfl; (first | exact AggC.s | exact OneC.s); rfl; exact rplE; exact putE; rfl) | (apply wO; apply o_bs0; rfl; intro _) | (apply wO; apply o_bs; rfl; rfl; rfl; rfl; exact rptE; exact filE; intro _) | (apply wO; apply o_call; rfl; kernel_rfl; exact evsE))
    have hv : havAt s.y.slots 0 = false := havAt_ge (by omega)
    refine closeReceiveWindow s.y ?_
    refine ret s (stop hv) rfl
  refine atSlot 0 ?_
  rintro hi b o e s1
  rw [e]
  repeat (first | apply c_seq | apply c_reg | (apply wO; apply oc; rfl; exact ydE) | apply w_nil | apply n_cd | (apply wg_t; rfl; rfl) | (apply wg_f; rfl; rfl; rfl; rfl) | (apply wg_u; rfl; rfl; rfl) | (apply c_t; rfl) | (apply c_f; rfl) | apply c_skip | apply c_block | apply n_blk | apply c_exit | apply e_hit | apply e_cd | apply e_lp | (apply e_miss; rfl) | apply c_ret | (apply wO; apply o_box; rfl; rfl; rfl; intro _) | (apply wO; apply o_alloc; rfl; intro _) | (apply wO; apply o_st; rfl; rfl; rfl; (first | exact AggC.s | exact OneC.s); rfl; exact rplE; exact putE; rfl) | (apply wO; apply o_bs0; rfl; intro _) | (apply wO; apply o_bs; rfl; rfl; rfl; rfl; exact rptE; exact filE; intro _) | (apply wO; apply o_call; rfl; kernel_rfl; exact evsE))
  cases g1 : s.y.slots[0].hav
  · repeat (first | apply c_seq | apply c_reg | (apply wO; apply oc; rfl; exact ydE) | apply w_nil | apply n_cd | (apply wg_t; rfl; rfl) | (apply wg_f; rfl; rfl; rfl; rfl) | (apply wg_u; rfl; rfl; rfl) | (apply c_t; rfl) | (apply c_f; rfl) | apply c_skip | apply c_block | apply n_blk | apply c_exit | apply e_hit | apply e_cd | apply e_lp | (apply e_miss; rfl) | apply c_ret | (apply wO; apply o_box; rfl; rfl; rfl; intro _) | (apply wO; apply o_alloc; rfl; intro _) | (apply wO; apply o_st; rfl; rfl; rfl; (first | exact AggC.s | exact OneC.s); rfl; exact rplE; exact putE; rfl) | (apply wO; apply o_bs0; rfl; intro _) | (apply wO; apply o_bs; rfl; rfl; rfl; rfl; exact rptE; exact filE; intro _) | (apply wO; apply o_call; rfl; kernel_rfl; exact evsE))
    rw [← e]
    refine closeReceiveWindow s.y ?_
    refine ret s (stop (by rw [havAt_lt hi, g1])) rfl
  have hv : havAt s.y.slots 0 = true := by rw [havAt_lt hi, g1]
  have hz := hit _ (List.getElem_mem hi)
  have h43 : (⟨#[43]⟩ : ByteArray).size = 1 := rfl
  have hpl : (⟨#[43]⟩ ++ s.y.slots[0].item : ByteArray) = shiftEv s.y.slots := (shiftEv_t hi g1).symm
  have hmx : (shiftEv s.y.slots).size ≤ maxLen := by have := shiftEv_size hit; unfold maxLen; omega
  have hll : s.es.length + 1 ≤ 1000000 := by omega
  repeat (first | apply c_seq | apply c_reg | (apply wO; apply oc; rfl; exact ydE) | apply w_nil | apply n_cd | (apply wg_t; rfl; rfl) | (apply wg_f; rfl; rfl; rfl; rfl) | (apply wg_u; rfl; rfl; rfl) | (apply c_t; rfl) | (apply c_f; rfl) | apply c_skip | apply c_block | apply n_blk | apply c_exit | apply e_hit | apply e_cd | apply e_lp | (apply e_miss; rfl) | apply c_ret | (apply wO; apply o_box; rfl; rfl; rfl; intro _) | (apply wO; apply o_alloc; rfl; intro _) | (apply wO; apply o_st; rfl; rfl; rfl; (first | exact AggC.s | exact OneC.s); rfl; exact rplE; exact putE; rfl) | (apply wO; apply o_bs0; rfl; intro _) | (apply wO; apply o_bs; rfl; rfl; rfl; rfl; exact rptE; exact filE; intro _) | (apply wO; apply o_call; rfl; kernel_rfl; exact evsE))
  rw [hpl]
  apply wO
  refine ap1 (rep_str _ hmx) one_EStr fun a' c' F' => ?_
  repeat (first | apply c_seq | apply c_reg | (apply wO; apply oc; rfl; exact ydE) | apply w_nil | apply n_cd | (apply wg_t; rfl; rfl) | (apply wg_f; rfl; rfl; rfl; rfl) | (apply wg_u; rfl; rfl; rfl) | (apply c_t; rfl) | (apply c_f; rfl) | apply c_skip | apply c_block | apply n_blk | apply c_exit | apply e_hit | apply e_cd | apply e_lp | (apply e_miss; rfl) | apply c_ret | (apply wO; apply o_box; rfl; rfl; rfl; intro _) | (apply wO; apply o_alloc; rfl; intro _) | (apply wO; apply o_st; rfl; rfl; rfl; (first | exact AggC.s | exact OneC.s); rfl; exact rplE; exact putE; rfl) | (apply wO; apply o_bs0; rfl; intro _) | (apply wO; apply o_bs; rfl; rfl; rfl; rfl; exact rptE; exact filE; intro _) | (apply wO; apply o_call; rfl; kernel_rfl; exact evsE))
  refine d_start [1, 2] [7] ?_
  refine dt 0 ?_
  refine dt 1 ?_
  refine dt 3 ?_
  refine dt 4 ?_
  refine dsld 5 1 fun a5 c5 F5 => ?_
  refine dO 2 (by kernel_rfl) (by rw [List.getElem?_toArray]; rfl) ?_
  apply o_call; rfl; kernel_rfl; exact evsE
  refine ce (fun w s => l2After_c _ _ _ (by omega) (by omega)) ?_
  refine dk ?_
  refine dt 6 ?_
  refine dO 7 (by kernel_rfl) (by rw [List.getElem?_toArray]; rfl) ?_
  apply o_st; rfl; rfl; rfl; (first | exact AggC.s | exact OneC.s); rfl; exact rplE; exact putE; rfl
  refine dkx ?_
  refine dd ?_
  repeat (first | apply c_seq | apply c_reg | (apply wO; apply oc; rfl; exact ydE) | apply w_nil | apply n_cd | (apply wg_t; rfl; rfl) | (apply wg_f; rfl; rfl; rfl; rfl) | (apply wg_u; rfl; rfl; rfl) | (apply c_t; rfl) | (apply c_f; rfl) | apply c_skip | apply c_block | apply n_blk | apply c_exit | apply e_hit | apply e_cd | apply e_lp | (apply e_miss; rfl) | apply c_ret | (apply wO; apply o_box; rfl; rfl; rfl; intro _) | (apply wO; apply o_alloc; rfl; intro _) | (apply wO; apply o_st; rfl; rfl; rfl; (first | exact AggC.s | exact OneC.s); rfl; exact rplE; exact putE; rfl) | (apply wO; apply o_bs0; rfl; intro _) | (apply wO; apply o_bs; rfl; rfl; rfl; rfl; exact rptE; exact filE; intro _) | (apply wO; apply o_call; rfl; kernel_rfl; exact evsE))
  refine n_lp ⟨s.es ++ [shiftEv s.y.slots], shW s.y, a5, c5, F5, a', c', F'⟩ ⟨(aft_bd _ _).1, (aft_bd _ _).2, fun z hz => hit z (List.mem_of_mem_drop hz), by simp [shW]; omega, by rw [hw, (rel_go hv).1], by rw [he, (rel_go hv).2]; simp⟩ (by simp [shW]; omega)
end Go.Proofs.YtidephmobajikaaGreatDoor
/- Receive windows: the reference's taking and giving up. -/
namespace Go.Proofs.YtidephmobajikaaGreatDoor
open Go.RowKit
set_option maxRecDepth 100000 in
theorem l10Reach_f (x : ReceiveWindow) (n : Int) (v : Value) (F : List Nat) (h0 : 0 ≤ x.next) (h1 : x.next ≤ 65535) (h2 : 0 ≤ n) (h3 : n ≤ 65535) (hl : x.slots.length ≤ 8) :
    Fn Tryz.prog 75 [v, .int .i64 n] [.isv EReceiveWindow v x F] [] (fun (_ : Unit) => True) (fun _ => .bool (takeOk x n)) (fun _ => []) := by
  have hg := gp_bd x.next n
  have hh : ¬ gp x.next n < 8 → hasB x n = false := fun h => havAt_ge (by omega)
  refine enter Tryz.func75 rfl Tryz.ntmps75 fun w0 => ?_
  refine openReceiveWindow ?_
  rintro a1 c1 F1 rfl l1
  repeat (first | apply c_seq | apply c_reg | (apply wO; apply oc; rfl; exact ydE) | apply w_nil | apply n_cd | (apply wg_t; rfl; rfl) | (apply wg_f; rfl; rfl; rfl; rfl) | (apply wg_u; rfl; rfl; rfl) | (apply c_t; rfl) | (apply c_f; rfl) | apply c_skip | apply c_block | apply n_blk | apply c_exit | apply e_hit | apply e_cd | apply e_lp | (apply e_miss; rfl) | apply c_ret | (apply wO; apply o_box; rfl; rfl; rfl; intro _) | (apply wO; apply o_alloc; rfl; intro _) | (apply wO; apply o_st; rfl; rfl; rfl; (first | exact AggC.s | exact OneC.s); rfl; exact rplE; exact putE; rfl) | (apply wO; apply o_bs0; rfl; intro _) | (apply wO; apply o_bs; rfl; rfl; rfl; rfl; exact rptE; exact filE; intro _) | (apply wO; apply o_call; rfl; kernel_rfl; exact evsE))
  refine ce (fun w s => l2Before_c _ _ _ (by omega) (by omega)) ?_
  cases g1 : bef n x.next
  · repeat (first | apply c_seq | apply c_reg | (apply wO; apply oc; rfl; exact ydE) | apply w_nil | apply n_cd | (apply wg_t; rfl; rfl) | (apply wg_f; rfl; rfl; rfl; rfl) | (apply wg_u; rfl; rfl; rfl) | (apply c_t; rfl) | (apply c_f; rfl) | apply c_skip | apply c_block | apply n_blk | apply c_exit | apply e_hit | apply e_cd | apply e_lp | (apply e_miss; rfl) | apply c_ret | (apply wO; apply o_box; rfl; rfl; rfl; intro _) | (apply wO; apply o_alloc; rfl; intro _) | (apply wO; apply o_st; rfl; rfl; rfl; (first | exact AggC.s | exact OneC.s); rfl; exact rplE; exact putE; rfl) | (apply wO; apply o_bs0; rfl; intro _) | (apply wO; apply o_bs; rfl; rfl; rfl; rfl; exact rptE; exact filE; intro _) | (apply wO; apply o_call; rfl; kernel_rfl; exact evsE))
    refine ce (fun w s => l2Gap_c _ _ _ (by omega) (by omega)) ?_
    repeat (first | apply c_seq | apply c_reg | (apply wO; apply oc; rfl; exact ydE) | apply w_nil | apply n_cd | (apply wg_t; rfl; rfl) | (apply wg_f; rfl; rfl; rfl; rfl) | (apply wg_u; rfl; rfl; rfl) | (apply c_t; rfl) | (apply c_f; rfl) | apply c_skip | apply c_block | apply n_blk | apply c_exit | apply e_hit | apply e_cd | apply e_lp | (apply e_miss; rfl) | apply c_ret | (apply wO; apply o_box; rfl; rfl; rfl; intro _) | (apply wO; apply o_alloc; rfl; intro _) | (apply wO; apply o_st; rfl; rfl; rfl; (first | exact AggC.s | exact OneC.s); rfl; exact rplE; exact putE; rfl) | (apply wO; apply o_bs0; rfl; intro _) | (apply wO; apply o_bs; rfl; rfl; rfl; rfl; exact rptE; exact filE; intro _) | (apply wO; apply o_call; rfl; kernel_rfl; exact evsE))
    refine ret () trivial ?_
    unfold takeOk takeNo
    rw [g1]
    by_cases h8 : gp x.next n < 8
    · simp [h8, tup]
    · simp [h8, hh h8, tup]
  · repeat (first | apply c_seq | apply c_reg | (apply wO; apply oc; rfl; exact ydE) | apply w_nil | apply n_cd | (apply wg_t; rfl; rfl) | (apply wg_f; rfl; rfl; rfl; rfl) | (apply wg_u; rfl; rfl; rfl) | (apply c_t; rfl) | (apply c_f; rfl) | apply c_skip | apply c_block | apply n_blk | apply c_exit | apply e_hit | apply e_cd | apply e_lp | (apply e_miss; rfl) | apply c_ret | (apply wO; apply o_box; rfl; rfl; rfl; intro _) | (apply wO; apply o_alloc; rfl; intro _) | (apply wO; apply o_st; rfl; rfl; rfl; (first | exact AggC.s | exact OneC.s); rfl; exact rplE; exact putE; rfl) | (apply wO; apply o_bs0; rfl; intro _) | (apply wO; apply o_bs; rfl; rfl; rfl; rfl; exact rptE; exact filE; intro _) | (apply wO; apply o_call; rfl; kernel_rfl; exact evsE))
    refine ret () trivial ?_
    simp [takeOk, takeNo, g1, tup]
set_option maxRecDepth 100000 in
theorem l10Take_f (x : ReceiveWindow) (n : Int) (item : ByteArray) (v : Value) (F : List Nat) (h0 : 0 ≤ x.next) (h1 : x.next ≤ 65535) (h2 : 0 ≤ n) (h3 : n ≤ 65535) (hl : x.slots.length ≤ 8) (hs : ∀ s ∈ x.slots, s.item.size ≤ 8) (hi : item.size ≤ 8) (hok : takeOk x n = true) :
    Fn Tryz.prog 76 [v, .int .i64 n, .string item] [.isv EReceiveWindow v x F] [] (fun (s : RelS) => s.y = takeW x n item ∧ s.es = takeE x n item)
      (fun s => .tuple #[.agg #[.int .i64 s.y.next, .slice s.a s.y.slots.length s.c], .slice s.ae s.es.length s.ce]) (fun s => [.isv EReceiveWindow (.agg #[.int .i64 s.y.next, .slice s.a s.y.slots.length s.c]) s.y s.F, .ow EStr 9 (.slice s.ae s.es.length s.ce) s.es s.Fe]) := by
  have hg := gp_bd x.next n
  refine enter Tryz.func76 rfl Tryz.ntmps76 fun w0 => ?_
  refine openReceiveWindow ?_
  rintro a1 c1 F1 rfl l1
  repeat (first | apply c_seq | apply c_reg | (apply wO; apply oc; rfl; exact ydE) | apply w_nil | apply n_cd | (apply wg_t; rfl; rfl) | (apply wg_f; rfl; rfl; rfl; rfl) | (apply wg_u; rfl; rfl; rfl) | (apply c_t; rfl) | (apply c_f; rfl) | apply c_skip | apply c_block | apply n_blk | apply c_exit | apply e_hit | apply e_cd | apply e_lp | (apply e_miss; rfl) | apply c_ret | (apply wO; apply o_box; rfl; rfl; rfl; intro _) | (apply wO; apply o_alloc; rfl; intro _) | (apply wO; apply o_st; rfl; rfl; rfl; (first | exact AggC.s | exact OneC.s); rfl; exact rplE; exact putE; rfl) | (apply wO; apply o_bs0; rfl; intro _) | (apply wO; apply o_bs; rfl; rfl; rfl; rfl; exact rptE; exact filE; intro _) | (apply wO; apply o_call; rfl; kernel_rfl; exact evsE))
  refine ce (fun w s => l2Gap_c _ _ _ (by omega) (by omega)) ?_
  obtain ⟨k, hk⟩ : ∃ k : Nat, gp x.next n = k := ⟨(gp x.next n).toNat, by omega⟩
  rw [hk]
  repeat (first | apply c_seq | apply c_reg | (apply wO; apply oc; rfl; exact ydE) | apply w_nil | apply n_cd | (apply wg_t; rfl; rfl) | (apply wg_f; rfl; rfl; rfl; rfl) | (apply wg_u; rfl; rfl; rfl) | (apply c_t; rfl) | (apply c_f; rfl) | apply c_skip | apply c_block | apply n_blk | apply c_exit | apply e_hit | apply e_cd | apply e_lp | (apply e_miss; rfl) | apply c_ret | (apply wO; apply o_box; rfl; rfl; rfl; intro _) | (apply wO; apply o_alloc; rfl; intro _) | (apply wO; apply o_st; rfl; rfl; rfl; (first | exact AggC.s | exact OneC.s); rfl; exact rplE; exact putE; rfl) | (apply wO; apply o_bs0; rfl; intro _) | (apply wO; apply o_bs; rfl; rfl; rfl; rfl; exact rptE; exact filE; intro _) | (apply wO; apply o_call; rfl; kernel_rfl; exact evsE))
  refine c_joinS [1, 2, 3, 6, 7, 8] [0, 1, 2] (fun s : CpS => [(9, ptr s.g 0 0)]) (fun s => [.row s.g 26 0 [] [.int .i64 x.next, .slice s.a x.slots.length s.c] [], .ow ESlot 113 (.slice s.a x.slots.length s.c) x.slots s.F]) (fun _ => True) ?_ fun s _ => ?_
  · refine d_start [0, 1] [8] ?_
    refine dt 0 ?_
    refine dt 1 ?_
    refine dt 3 ?_
    refine dt 4 ?_
    refine dO2 2 7 (by kernel_rfl) (by rw [List.getElem?_toArray]; rfl) (by rw [List.getElem?_toArray]; rfl) ?_ ?_
    · apply o_bs0; rfl; intro _
      refine t_emp ESlot ?_
      refine dk ?_
      refine dO2 5 7 (by kernel_rfl) (by rw [List.getElem?_toArray]; rfl) (by rw [List.getElem?_toArray]; rfl) ?_ ?_
      · refine aps one_ESlot scal_ESlot fun a2 c2 F2 => ?_
        refine dk ?_
        refine dt 6 ?_
        refine dO 7 (by kernel_rfl) (by rw [List.getElem?_toArray]; rfl) ?_
        apply o_alloc; rfl; intro _
        refine dk ?_
        refine dO 8 (by kernel_rfl) (by rw [List.getElem?_toArray]; rfl) ?_
        apply o_st; rfl; rfl; rfl; (first | exact AggC.s | exact OneC.s); rfl; exact rplE; exact putE; rfl
        refine dkx ?_
        refine dd ?_
        refine n_join (⟨_, a2, c2, F2⟩ : CpS) trivial
      · apply o_alloc; rfl; intro _
        refine dk ?_
        refine dO 5 (by kernel_rfl) (by rw [List.getElem?_toArray]; rfl) ?_
        refine aps one_ESlot scal_ESlot fun a2 c2 F2 => ?_
        refine dk ?_
        refine dt 6 ?_
        refine dO 8 (by kernel_rfl) (by rw [List.getElem?_toArray]; rfl) ?_
        apply o_st; rfl; rfl; rfl; (first | exact AggC.s | exact OneC.s); rfl; exact rplE; exact putE; rfl
        refine dkx ?_
        refine dd ?_
        refine n_join (⟨_, a2, c2, F2⟩ : CpS) trivial
    · apply o_alloc; rfl; intro _
      refine dk ?_
      refine dO 2 (by kernel_rfl) (by rw [List.getElem?_toArray]; rfl) ?_
      apply o_bs0; rfl; intro _
      refine t_emp ESlot ?_
      refine dk ?_
      refine dO 5 (by kernel_rfl) (by rw [List.getElem?_toArray]; rfl) ?_
      refine aps one_ESlot scal_ESlot fun a2 c2 F2 => ?_
      refine dk ?_
      refine dt 6 ?_
      refine dO 8 (by kernel_rfl) (by rw [List.getElem?_toArray]; rfl) ?_
      apply o_st; rfl; rfl; rfl; (first | exact AggC.s | exact OneC.s); rfl; exact rplE; exact putE; rfl
      refine dkx ?_
      refine dd ?_
      refine n_join (⟨_, a2, c2, F2⟩ : CpS) trivial
  obtain ⟨gg, a2, c2, F2⟩ := s
  repeat (first | apply c_seq | apply c_reg | (apply wO; apply oc; rfl; exact ydE) | apply w_nil | apply n_cd | (apply wg_t; rfl; rfl) | (apply wg_f; rfl; rfl; rfl; rfl) | (apply wg_u; rfl; rfl; rfl) | (apply c_t; rfl) | (apply c_f; rfl) | apply c_skip | apply c_block | apply n_blk | apply c_exit | apply e_hit | apply e_cd | apply e_lp | (apply e_miss; rfl) | apply c_ret | (apply wO; apply o_box; rfl; rfl; rfl; intro _) | (apply wO; apply o_alloc; rfl; intro _) | (apply wO; apply o_st; rfl; rfl; rfl; (first | exact AggC.s | exact OneC.s); rfl; exact rplE; exact putE; rfl) | (apply wO; apply o_bs0; rfl; intro _) | (apply wO; apply o_bs; rfl; rfl; rfl; rfl; exact rptE; exact filE; intro _) | (apply wO; apply o_call; rfl; kernel_rfl; exact evsE))
  refine ce (fun w s => l2Before_c _ _ _ (by omega) (by omega)) ?_
  cases g1 : bef n x.next
  rotate_left
  · repeat (first | apply c_seq | apply c_reg | (apply wO; apply oc; rfl; exact ydE) | apply w_nil | apply n_cd | (apply wg_t; rfl; rfl) | (apply wg_f; rfl; rfl; rfl; rfl) | (apply wg_u; rfl; rfl; rfl) | (apply c_t; rfl) | (apply c_f; rfl) | apply c_skip | apply c_block | apply n_blk | apply c_exit | apply e_hit | apply e_cd | apply e_lp | (apply e_miss; rfl) | apply c_ret | (apply wO; apply o_box; rfl; rfl; rfl; intro _) | (apply wO; apply o_alloc; rfl; intro _) | (apply wO; apply o_st; rfl; rfl; rfl; (first | exact AggC.s | exact OneC.s); rfl; exact rplE; exact putE; rfl) | (apply wO; apply o_bs0; rfl; intro _) | (apply wO; apply o_bs; rfl; rfl; rfl; rfl; exact rptE; exact filE; intro _) | (apply wO; apply o_call; rfl; kernel_rfl; exact evsE))
    refine t_emp EStr ?_
    refine t_read (xs := x.slots) fun F3 => ?_
    refine closeReceiveWindow x ?_
    refine ret ⟨[], x, a2, c2, F3, _, 0, _⟩ ⟨by simp [takeW, takeNo, g1], by simp [takeE, takeNo, g1]⟩ rfl
  repeat (first | apply c_seq | apply c_reg | (apply wO; apply oc; rfl; exact ydE) | apply w_nil | apply n_cd | (apply wg_t; rfl; rfl) | (apply wg_f; rfl; rfl; rfl; rfl) | (apply wg_u; rfl; rfl; rfl) | (apply c_t; rfl) | (apply c_f; rfl) | apply c_skip | apply c_block | apply n_blk | apply c_exit | apply e_hit | apply e_cd | apply e_lp | (apply e_miss; rfl) | apply c_ret | (apply wO; apply o_box; rfl; rfl; rfl; intro _) | (apply wO; apply o_alloc; rfl; intro _) | (apply wO; apply o_st; rfl; rfl; rfl; (first | exact AggC.s | exact OneC.s); rfl; exact rplE; exact putE; rfl) | (apply wO; apply o_bs0; rfl; intro _) | (apply wO; apply o_bs; rfl; rfl; rfl; rfl; exact rptE; exact filE; intro _) | (apply wO; apply o_call; rfl; kernel_rfl; exact evsE))
  refine wg_if rfl rfl (fun h4 => ?_) (fun h4 => ?_)
  · refine atSlot k ?_
    rintro hi2 b2 o2 e s1
    cases e
    repeat (first | apply c_seq | apply c_reg | (apply wO; apply oc; rfl; exact ydE) | apply w_nil | apply n_cd | (apply wg_t; rfl; rfl) | (apply wg_f; rfl; rfl; rfl; rfl) | (apply wg_u; rfl; rfl; rfl) | (apply c_t; rfl) | (apply c_f; rfl) | apply c_skip | apply c_block | apply n_blk | apply c_exit | apply e_hit | apply e_cd | apply e_lp | (apply e_miss; rfl) | apply c_ret | (apply wO; apply o_box; rfl; rfl; rfl; intro _) | (apply wO; apply o_alloc; rfl; intro _) | (apply wO; apply o_st; rfl; rfl; rfl; (first | exact AggC.s | exact OneC.s); rfl; exact rplE; exact putE; rfl) | (apply wO; apply o_bs0; rfl; intro _) | (apply wO; apply o_bs; rfl; rfl; rfl; rfl; exact rptE; exact filE; intro _) | (apply wO; apply o_call; rfl; kernel_rfl; exact evsE))
    cases g4 : x.slots[k].hav
    rotate_left
    · have hb : hasB x n = true := by unfold hasB; rw [hk, Int.toNat_natCast, havAt_lt hi2]; exact g4
      repeat (first | apply c_seq | apply c_reg | (apply wO; apply oc; rfl; exact ydE) | apply w_nil | apply n_cd | (apply wg_t; rfl; rfl) | (apply wg_f; rfl; rfl; rfl; rfl) | (apply wg_u; rfl; rfl; rfl) | (apply c_t; rfl) | (apply c_f; rfl) | apply c_skip | apply c_block | apply n_blk | apply c_exit | apply e_hit | apply e_cd | apply e_lp | (apply e_miss; rfl) | apply c_ret | (apply wO; apply o_box; rfl; rfl; rfl; intro _) | (apply wO; apply o_alloc; rfl; intro _) | (apply wO; apply o_st; rfl; rfl; rfl; (first | exact AggC.s | exact OneC.s); rfl; exact rplE; exact putE; rfl) | (apply wO; apply o_bs0; rfl; intro _) | (apply wO; apply o_bs; rfl; rfl; rfl; rfl; exact rptE; exact filE; intro _) | (apply wO; apply o_call; rfl; kernel_rfl; exact evsE))
      refine t_emp EStr ?_
      refine t_read (xs := x.slots) fun F3 => ?_
      refine closeReceiveWindow x ?_
      refine ret ⟨[], x, a2, c2, F3, _, 0, _⟩ ⟨by simp [takeW, takeNo, hb], by simp [takeE, takeNo, hb]⟩ rfl
    have hpad : hasB x n = false := by unfold hasB; rw [hk, Int.toNat_natCast, havAt_lt hi2]; exact g4
    have hno : takeNo x n = false := by unfold takeNo; rw [g1, hpad]; rfl
    have h8 : gp x.next n < 8 := by unfold takeOk at hok; rw [hno] at hok; simpa using hok
    have hW : takeW x n item = relW (putW x n item) := by unfold takeW; rw [hno, decide_eq_true h8]; rfl
    have hE : takeE x n item = relE (putW x n item) := by unfold takeE; rw [hno, decide_eq_true h8]; rfl
    unfold putW at hW hE
    rw [hk, Int.toNat_natCast] at hW hE
    repeat (first | apply c_seq | apply c_reg | (apply wO; apply oc; rfl; exact ydE) | apply w_nil | apply n_cd | (apply wg_t; rfl; rfl) | (apply wg_f; rfl; rfl; rfl; rfl) | (apply wg_u; rfl; rfl; rfl) | (apply c_t; rfl) | (apply c_f; rfl) | apply c_skip | apply c_block | apply n_blk | apply c_exit | apply e_hit | apply e_cd | apply e_lp | (apply e_miss; rfl) | apply c_ret | (apply wO; apply o_box; rfl; rfl; rfl; intro _) | (apply wO; apply o_alloc; rfl; intro _) | (apply wO; apply o_st; rfl; rfl; rfl; (first | exact AggC.s | exact OneC.s); rfl; exact rplE; exact putE; rfl) | (apply wO; apply o_bs0; rfl; intro _) | (apply wO; apply o_bs; rfl; rfl; rfl; rfl; exact rptE; exact filE; intro _) | (apply wO; apply o_call; rfl; kernel_rfl; exact evsE))
    refine c_loopS [2, 6, 7, 8, 9] (fun s : PadS => []) (fun s => [.row gg 26 0 [] [.int .i64 x.next, .slice s.a (padL x s.j).length s.c] [], .ow ESlot 113 (.slice s.a (padL x s.j).length s.c) (padL x s.j) s.F]) (fun s => s.j ≤ k + 1 - x.slots.length) (fun s => k + 1 - x.slots.length - s.j) ⟨0, a2, c2, F2⟩ (Nat.zero_le _) (fun s hj => ?_) (hH := by simp only [padL, List.replicate_zero, List.append_nil]; exact picksE)
    have hpl := padL_len x s.j
    repeat (first | apply c_seq | apply c_reg | (apply wO; apply oc; rfl; exact ydE) | apply w_nil | apply n_cd | (apply wg_t; rfl; rfl) | (apply wg_f; rfl; rfl; rfl; rfl) | (apply wg_u; rfl; rfl; rfl) | (apply c_t; rfl) | (apply c_f; rfl) | apply c_skip | apply c_block | apply n_blk | apply c_exit | apply e_hit | apply e_cd | apply e_lp | (apply e_miss; rfl) | apply c_ret | (apply wO; apply o_box; rfl; rfl; rfl; intro _) | (apply wO; apply o_alloc; rfl; intro _) | (apply wO; apply o_st; rfl; rfl; rfl; (first | exact AggC.s | exact OneC.s); rfl; exact rplE; exact putE; rfl) | (apply wO; apply o_bs0; rfl; intro _) | (apply wO; apply o_bs; rfl; rfl; rfl; rfl; exact rptE; exact filE; intro _) | (apply wO; apply o_call; rfl; kernel_rfl; exact evsE))
    refine c_if rfl (fun h9 => ?_) (fun h9 => ?_)
    · repeat (first | apply c_seq | apply c_reg | (apply wO; apply oc; rfl; exact ydE) | apply w_nil | apply n_cd | (apply wg_t; rfl; rfl) | (apply wg_f; rfl; rfl; rfl; rfl) | (apply wg_u; rfl; rfl; rfl) | (apply c_t; rfl) | (apply c_f; rfl) | apply c_skip | apply c_block | apply n_blk | apply c_exit | apply e_hit | apply e_cd | apply e_lp | (apply e_miss; rfl) | apply c_ret | (apply wO; apply o_box; rfl; rfl; rfl; intro _) | (apply wO; apply o_alloc; rfl; intro _) | (apply wO; apply o_st; rfl; rfl; rfl; (first | exact AggC.s | exact OneC.s); rfl; exact rplE; exact putE; rfl) | (apply wO; apply o_bs0; rfl; intro _) | (apply wO; apply o_bs; rfl; rfl; rfl; rfl; exact rptE; exact filE; intro _) | (apply wO; apply o_call; rfl; kernel_rfl; exact evsE))
      apply wO
      refine ap1 (rep_slot zsl (by decide)) one_ESlot fun a' c' F' => ?_
      repeat (first | apply c_seq | apply c_reg | (apply wO; apply oc; rfl; exact ydE) | apply w_nil | apply n_cd | (apply wg_t; rfl; rfl) | (apply wg_f; rfl; rfl; rfl; rfl) | (apply wg_u; rfl; rfl; rfl) | (apply c_t; rfl) | (apply c_f; rfl) | apply c_skip | apply c_block | apply n_blk | apply c_exit | apply e_hit | apply e_cd | apply e_lp | (apply e_miss; rfl) | apply c_ret | (apply wO; apply o_box; rfl; rfl; rfl; intro _) | (apply wO; apply o_alloc; rfl; intro _) | (apply wO; apply o_st; rfl; rfl; rfl; (first | exact AggC.s | exact OneC.s); rfl; exact rplE; exact putE; rfl) | (apply wO; apply o_bs0; rfl; intro _) | (apply wO; apply o_bs; rfl; rfl; rfl; rfl; exact rptE; exact filE; intro _) | (apply wO; apply o_call; rfl; kernel_rfl; exact evsE))
      have e : padL x s.j ++ [zsl] = padL x (s.j + 1) := by simp [padL, List.replicate_succ']
      rw [e]
      refine n_lp ⟨s.j + 1, a', c', F'⟩ (by show s.j + 1 ≤ _; omega) (by show _ - (s.j + 1) < _; omega)
    have hjk : s.j = k + 1 - x.slots.length := by omega
    repeat (first | apply c_seq | apply c_reg | (apply wO; apply oc; rfl; exact ydE) | apply w_nil | apply n_cd | (apply wg_t; rfl; rfl) | (apply wg_f; rfl; rfl; rfl; rfl) | (apply wg_u; rfl; rfl; rfl) | (apply c_t; rfl) | (apply c_f; rfl) | apply c_skip | apply c_block | apply n_blk | apply c_exit | apply e_hit | apply e_cd | apply e_lp | (apply e_miss; rfl) | apply c_ret | (apply wO; apply o_box; rfl; rfl; rfl; intro _) | (apply wO; apply o_alloc; rfl; intro _) | (apply wO; apply o_st; rfl; rfl; rfl; (first | exact AggC.s | exact OneC.s); rfl; exact rplE; exact putE; rfl) | (apply wO; apply o_bs0; rfl; intro _) | (apply wO; apply o_bs; rfl; rfl; rfl; rfl; exact rptE; exact filE; intro _) | (apply wO; apply o_call; rfl; kernel_rfl; exact evsE))
    have hkl : k < (padL x s.j).length := by omega
    refine focSlot k ?_
    rintro hi2 g2 A2 B2 e eF hs2 hh
    rw [e]
    repeat (first | apply c_seq | apply c_reg | (apply wO; apply oc; rfl; exact ydE) | apply w_nil | apply n_cd | (apply wg_t; rfl; rfl) | (apply wg_f; rfl; rfl; rfl; rfl) | (apply wg_u; rfl; rfl; rfl) | (apply c_t; rfl) | (apply c_f; rfl) | apply c_skip | apply c_block | apply n_blk | apply c_exit | apply e_hit | apply e_cd | apply e_lp | (apply e_miss; rfl) | apply c_ret | (apply wO; apply o_box; rfl; rfl; rfl; intro _) | (apply wO; apply o_alloc; rfl; intro _) | (apply wO; apply o_st; rfl; rfl; rfl; (first | exact AggC.s | exact OneC.s); rfl; exact rplE; exact putE; rfl) | (apply wO; apply o_bs0; rfl; intro _) | (apply wO; apply o_bs; rfl; rfl; rfl; rfl; exact rptE; exact filE; intro _))
    refine unfF (⟨true, item⟩ : Slot) hh (fun w => ⟨rfl, by show item.size ≤ maxLen; unfold maxLen; omega, rfl⟩) ?_
    have hsl : (padL x s.j).length = ((padL x s.j).set k ⟨true, item⟩).length := by rw [List.length_set]
    rw [hsl]
    have hpu : (padL x s.j).set k ⟨true, item⟩ = putL x k ⟨true, item⟩ := by unfold putL; rw [hjk]
    rw [hpu]
    have hpl2 : (putL x k ⟨true, item⟩).length ≤ 1000 := by unfold putL; rw [List.length_set, padL_len]; omega
    have hps := putL_items (x := x) (k := k) hs (s := ⟨true, item⟩) hi
    refine t_read (xs := putL x k ⟨true, item⟩) fun F4 => ?_
    refine closeReceiveWindow ⟨x.next, putL x k ⟨true, item⟩⟩ ?_
    repeat (first | apply c_seq | apply c_reg | (apply wO; apply oc; rfl; exact ydE) | apply w_nil | apply n_cd | (apply wg_t; rfl; rfl) | (apply wg_f; rfl; rfl; rfl; rfl) | (apply wg_u; rfl; rfl; rfl) | (apply c_t; rfl) | (apply c_f; rfl) | apply c_skip | apply c_block | apply n_blk | apply c_exit | apply e_hit | apply e_cd | apply e_lp | (apply e_miss; rfl) | apply c_ret | (apply wO; apply o_box; rfl; rfl; rfl; intro _) | (apply wO; apply o_alloc; rfl; intro _) | (apply wO; apply o_st; rfl; rfl; rfl; (first | exact AggC.s | exact OneC.s); rfl; exact rplE; exact putE; rfl) | (apply wO; apply o_bs0; rfl; intro _) | (apply wO; apply o_bs; rfl; rfl; rfl; rfl; exact rptE; exact filE; intro _) | (apply wO; apply o_call; rfl; kernel_rfl; exact evsE))
    refine cf (l10Release_f ⟨x.next, putL x k ⟨true, item⟩⟩ _ _ h0 h1 (by show (putL x k ⟨true, item⟩).length ≤ _; omega) hps) fun z hz => ?_
    refine t_app ?_
    repeat (first | apply c_seq | apply c_reg | (apply wO; apply oc; rfl; exact ydE) | apply w_nil | apply n_cd | (apply wg_t; rfl; rfl) | (apply wg_f; rfl; rfl; rfl; rfl) | (apply wg_u; rfl; rfl; rfl) | (apply c_t; rfl) | (apply c_f; rfl) | apply c_skip | apply c_block | apply n_blk | apply c_exit | apply e_hit | apply e_cd | apply e_lp | (apply e_miss; rfl) | apply c_ret | (apply wO; apply o_box; rfl; rfl; rfl; intro _) | (apply wO; apply o_alloc; rfl; intro _) | (apply wO; apply o_st; rfl; rfl; rfl; (first | exact AggC.s | exact OneC.s); rfl; exact rplE; exact putE; rfl) | (apply wO; apply o_bs0; rfl; intro _) | (apply wO; apply o_bs; rfl; rfl; rfl; rfl; exact rptE; exact filE; intro _) | (apply wO; apply o_call; rfl; kernel_rfl; exact evsE))
    refine ret z ⟨by rw [hz.1, hW], by rw [hz.2, hE]⟩ rfl
  · have hpad : hasB x n = false := havAt_ge (by omega)
    have hno : takeNo x n = false := by unfold takeNo; rw [g1, hpad]; rfl
    have h8 : gp x.next n < 8 := by unfold takeOk at hok; rw [hno] at hok; simpa using hok
    have hW : takeW x n item = relW (putW x n item) := by unfold takeW; rw [hno, decide_eq_true h8]; rfl
    have hE : takeE x n item = relE (putW x n item) := by unfold takeE; rw [hno, decide_eq_true h8]; rfl
    unfold putW at hW hE
    rw [hk, Int.toNat_natCast] at hW hE
    repeat (first | apply c_seq | apply c_reg | (apply wO; apply oc; rfl; exact ydE) | apply w_nil | apply n_cd | (apply wg_t; rfl; rfl) | (apply wg_f; rfl; rfl; rfl; rfl) | (apply wg_u; rfl; rfl; rfl) | (apply c_t; rfl) | (apply c_f; rfl) | apply c_skip | apply c_block | apply n_blk | apply c_exit | apply e_hit | apply e_cd | apply e_lp | (apply e_miss; rfl) | apply c_ret | (apply wO; apply o_box; rfl; rfl; rfl; intro _) | (apply wO; apply o_alloc; rfl; intro _) | (apply wO; apply o_st; rfl; rfl; rfl; (first | exact AggC.s | exact OneC.s); rfl; exact rplE; exact putE; rfl) | (apply wO; apply o_bs0; rfl; intro _) | (apply wO; apply o_bs; rfl; rfl; rfl; rfl; exact rptE; exact filE; intro _) | (apply wO; apply o_call; rfl; kernel_rfl; exact evsE))
    refine c_loopS [2, 6, 7, 8, 9] (fun s : PadS => []) (fun s => [.row gg 26 0 [] [.int .i64 x.next, .slice s.a (padL x s.j).length s.c] [], .ow ESlot 113 (.slice s.a (padL x s.j).length s.c) (padL x s.j) s.F]) (fun s => s.j ≤ k + 1 - x.slots.length) (fun s => k + 1 - x.slots.length - s.j) ⟨0, a2, c2, F2⟩ (Nat.zero_le _) (fun s hj => ?_) (hH := by simp only [padL, List.replicate_zero, List.append_nil]; exact picksE)
    have hpl := padL_len x s.j
    repeat (first | apply c_seq | apply c_reg | (apply wO; apply oc; rfl; exact ydE) | apply w_nil | apply n_cd | (apply wg_t; rfl; rfl) | (apply wg_f; rfl; rfl; rfl; rfl) | (apply wg_u; rfl; rfl; rfl) | (apply c_t; rfl) | (apply c_f; rfl) | apply c_skip | apply c_block | apply n_blk | apply c_exit | apply e_hit | apply e_cd | apply e_lp | (apply e_miss; rfl) | apply c_ret | (apply wO; apply o_box; rfl; rfl; rfl; intro _) | (apply wO; apply o_alloc; rfl; intro _) | (apply wO; apply o_st; rfl; rfl; rfl; (first | exact AggC.s | exact OneC.s); rfl; exact rplE; exact putE; rfl) | (apply wO; apply o_bs0; rfl; intro _) | (apply wO; apply o_bs; rfl; rfl; rfl; rfl; exact rptE; exact filE; intro _) | (apply wO; apply o_call; rfl; kernel_rfl; exact evsE))
    refine c_if rfl (fun h9 => ?_) (fun h9 => ?_)
    · repeat (first | apply c_seq | apply c_reg | (apply wO; apply oc; rfl; exact ydE) | apply w_nil | apply n_cd | (apply wg_t; rfl; rfl) | (apply wg_f; rfl; rfl; rfl; rfl) | (apply wg_u; rfl; rfl; rfl) | (apply c_t; rfl) | (apply c_f; rfl) | apply c_skip | apply c_block | apply n_blk | apply c_exit | apply e_hit | apply e_cd | apply e_lp | (apply e_miss; rfl) | apply c_ret | (apply wO; apply o_box; rfl; rfl; rfl; intro _) | (apply wO; apply o_alloc; rfl; intro _) | (apply wO; apply o_st; rfl; rfl; rfl; (first | exact AggC.s | exact OneC.s); rfl; exact rplE; exact putE; rfl) | (apply wO; apply o_bs0; rfl; intro _) | (apply wO; apply o_bs; rfl; rfl; rfl; rfl; exact rptE; exact filE; intro _) | (apply wO; apply o_call; rfl; kernel_rfl; exact evsE))
      apply wO
      refine ap1 (rep_slot zsl (by decide)) one_ESlot fun a' c' F' => ?_
      repeat (first | apply c_seq | apply c_reg | (apply wO; apply oc; rfl; exact ydE) | apply w_nil | apply n_cd | (apply wg_t; rfl; rfl) | (apply wg_f; rfl; rfl; rfl; rfl) | (apply wg_u; rfl; rfl; rfl) | (apply c_t; rfl) | (apply c_f; rfl) | apply c_skip | apply c_block | apply n_blk | apply c_exit | apply e_hit | apply e_cd | apply e_lp | (apply e_miss; rfl) | apply c_ret | (apply wO; apply o_box; rfl; rfl; rfl; intro _) | (apply wO; apply o_alloc; rfl; intro _) | (apply wO; apply o_st; rfl; rfl; rfl; (first | exact AggC.s | exact OneC.s); rfl; exact rplE; exact putE; rfl) | (apply wO; apply o_bs0; rfl; intro _) | (apply wO; apply o_bs; rfl; rfl; rfl; rfl; exact rptE; exact filE; intro _) | (apply wO; apply o_call; rfl; kernel_rfl; exact evsE))
      have e : padL x s.j ++ [zsl] = padL x (s.j + 1) := by simp [padL, List.replicate_succ']
      rw [e]
      refine n_lp ⟨s.j + 1, a', c', F'⟩ (by show s.j + 1 ≤ _; omega) (by show _ - (s.j + 1) < _; omega)
    have hjk : s.j = k + 1 - x.slots.length := by omega
    repeat (first | apply c_seq | apply c_reg | (apply wO; apply oc; rfl; exact ydE) | apply w_nil | apply n_cd | (apply wg_t; rfl; rfl) | (apply wg_f; rfl; rfl; rfl; rfl) | (apply wg_u; rfl; rfl; rfl) | (apply c_t; rfl) | (apply c_f; rfl) | apply c_skip | apply c_block | apply n_blk | apply c_exit | apply e_hit | apply e_cd | apply e_lp | (apply e_miss; rfl) | apply c_ret | (apply wO; apply o_box; rfl; rfl; rfl; intro _) | (apply wO; apply o_alloc; rfl; intro _) | (apply wO; apply o_st; rfl; rfl; rfl; (first | exact AggC.s | exact OneC.s); rfl; exact rplE; exact putE; rfl) | (apply wO; apply o_bs0; rfl; intro _) | (apply wO; apply o_bs; rfl; rfl; rfl; rfl; exact rptE; exact filE; intro _) | (apply wO; apply o_call; rfl; kernel_rfl; exact evsE))
    have hkl : k < (padL x s.j).length := by omega
    refine focSlot k ?_
    rintro hi2 g2 A2 B2 e eF hs2 hh
    rw [e]
    repeat (first | apply c_seq | apply c_reg | (apply wO; apply oc; rfl; exact ydE) | apply w_nil | apply n_cd | (apply wg_t; rfl; rfl) | (apply wg_f; rfl; rfl; rfl; rfl) | (apply wg_u; rfl; rfl; rfl) | (apply c_t; rfl) | (apply c_f; rfl) | apply c_skip | apply c_block | apply n_blk | apply c_exit | apply e_hit | apply e_cd | apply e_lp | (apply e_miss; rfl) | apply c_ret | (apply wO; apply o_box; rfl; rfl; rfl; intro _) | (apply wO; apply o_alloc; rfl; intro _) | (apply wO; apply o_st; rfl; rfl; rfl; (first | exact AggC.s | exact OneC.s); rfl; exact rplE; exact putE; rfl) | (apply wO; apply o_bs0; rfl; intro _) | (apply wO; apply o_bs; rfl; rfl; rfl; rfl; exact rptE; exact filE; intro _))
    refine unfF (⟨true, item⟩ : Slot) hh (fun w => ⟨rfl, by show item.size ≤ maxLen; unfold maxLen; omega, rfl⟩) ?_
    have hsl : (padL x s.j).length = ((padL x s.j).set k ⟨true, item⟩).length := by rw [List.length_set]
    rw [hsl]
    have hpu : (padL x s.j).set k ⟨true, item⟩ = putL x k ⟨true, item⟩ := by unfold putL; rw [hjk]
    rw [hpu]
    have hpl2 : (putL x k ⟨true, item⟩).length ≤ 1000 := by unfold putL; rw [List.length_set, padL_len]; omega
    have hps := putL_items (x := x) (k := k) hs (s := ⟨true, item⟩) hi
    refine t_read (xs := putL x k ⟨true, item⟩) fun F4 => ?_
    refine closeReceiveWindow ⟨x.next, putL x k ⟨true, item⟩⟩ ?_
    repeat (first | apply c_seq | apply c_reg | (apply wO; apply oc; rfl; exact ydE) | apply w_nil | apply n_cd | (apply wg_t; rfl; rfl) | (apply wg_f; rfl; rfl; rfl; rfl) | (apply wg_u; rfl; rfl; rfl) | (apply c_t; rfl) | (apply c_f; rfl) | apply c_skip | apply c_block | apply n_blk | apply c_exit | apply e_hit | apply e_cd | apply e_lp | (apply e_miss; rfl) | apply c_ret | (apply wO; apply o_box; rfl; rfl; rfl; intro _) | (apply wO; apply o_alloc; rfl; intro _) | (apply wO; apply o_st; rfl; rfl; rfl; (first | exact AggC.s | exact OneC.s); rfl; exact rplE; exact putE; rfl) | (apply wO; apply o_bs0; rfl; intro _) | (apply wO; apply o_bs; rfl; rfl; rfl; rfl; exact rptE; exact filE; intro _) | (apply wO; apply o_call; rfl; kernel_rfl; exact evsE))
    refine cf (l10Release_f ⟨x.next, putL x k ⟨true, item⟩⟩ _ _ h0 h1 (by show (putL x k ⟨true, item⟩).length ≤ _; omega) hps) fun z hz => ?_
    refine t_app ?_
    repeat (first | apply c_seq | apply c_reg | (apply wO; apply oc; rfl; exact ydE) | apply w_nil | apply n_cd | (apply wg_t; rfl; rfl) | (apply wg_f; rfl; rfl; rfl; rfl) | (apply wg_u; rfl; rfl; rfl) | (apply c_t; rfl) | (apply c_f; rfl) | apply c_skip | apply c_block | apply n_blk | apply c_exit | apply e_hit | apply e_cd | apply e_lp | (apply e_miss; rfl) | apply c_ret | (apply wO; apply o_box; rfl; rfl; rfl; intro _) | (apply wO; apply o_alloc; rfl; intro _) | (apply wO; apply o_st; rfl; rfl; rfl; (first | exact AggC.s | exact OneC.s); rfl; exact rplE; exact putE; rfl) | (apply wO; apply o_bs0; rfl; intro _) | (apply wO; apply o_bs; rfl; rfl; rfl; rfl; exact rptE; exact filE; intro _) | (apply wO; apply o_call; rfl; kernel_rfl; exact evsE))
    refine ret z ⟨by rw [hz.1, hW], by rw [hz.2, hE]⟩ rfl
end Go.Proofs.YtidephmobajikaaGreatDoor
/- Receive windows: the reference's GiveUpTo and TakeItem; the contracts that the laws ask. -/
namespace Go.Proofs.YtidephmobajikaaGreatDoor
open Go.RowKit
end Go.Proofs.YtidephmobajikaaGreatDoor
/- Receive windows: GiveUpTo and TakeItem of the reference; the contracts that the laws ask. -/
namespace Go.Proofs.YtidephmobajikaaGreatDoor
open Go.RowKit
set_option maxRecDepth 100000 in
theorem specTakeItem_f (x : ReceiveWindow) (n : Int) (item : ByteArray) (v : Value) (F : List Nat) (hi : item.size ≤ maxLen) :
    Fn Tryz.prog 10 [v, .int .i64 n, .string item] [.isv EReceiveWindow v x F] [] (fun (s : RelS) => s.y = (resTakeItem x n item).1 ∧ s.es = (resTakeItem x n item).2.1)
      (fun s => .tuple #[.agg #[.int .i64 s.y.next, .slice s.a s.y.slots.length s.c], .slice s.ae s.es.length s.ce, .bool (resTakeItem x n item).2.2]) (fun s => [.isv EReceiveWindow (.agg #[.int .i64 s.y.next, .slice s.a s.y.slots.length s.c]) s.y s.F, .ow EStr 9 (.slice s.ae s.es.length s.ce) s.es s.Fe]) := by
  have no : okTakeItem x n item = false → resTakeItem x n item = (zRW, [], false) := fun h => by unfold resTakeItem; rw [h]; rfl
  refine enter Tryz.func10 rfl Tryz.ntmps10 fun w0 => ?_
  refine openReceiveWindow ?_
  rintro a1 c1 F1 rfl l1
  refine t_nilsl ESlot (by decide) ?_
  repeat (first | apply c_seq | apply c_reg | (apply wO; apply oc; rfl; exact ydE) | apply w_nil | apply n_cd | (apply wg_t; rfl; rfl) | (apply wg_f; rfl; rfl; rfl; rfl) | (apply wg_u; rfl; rfl; rfl) | (apply c_t; rfl) | (apply c_f; rfl) | apply c_skip | apply c_block | apply n_blk | apply c_exit | apply e_hit | apply e_cd | apply e_lp | (apply e_miss; rfl) | apply c_ret | (apply wO; apply o_box; rfl; rfl; rfl; intro _) | (apply wO; apply o_alloc; rfl; intro _) | (apply wO; apply o_st; rfl; rfl; rfl; (first | exact AggC.s | exact OneC.s); rfl; exact rplE; exact putE; rfl) | (apply wO; apply o_bs0; rfl; intro _) | (apply wO; apply o_bs; rfl; rfl; rfl; rfl; exact rptE; exact filE; intro _) | (apply wO; apply o_call; rfl; kernel_rfl; exact evsE))
  refine cb (fun w st => (l10Good_f x _ F).val w (hol1 (st.get (p := .isv EReceiveWindow (.agg #[.int .i64 x.next, .slice a1 x.slots.length c1]) x F) (by simp)))) ?_
  cases g1 : goodRW x
  · repeat (first | apply c_seq | apply c_reg | (apply wO; apply oc; rfl; exact ydE) | apply w_nil | apply n_cd | (apply wg_t; rfl; rfl) | (apply wg_f; rfl; rfl; rfl; rfl) | (apply wg_u; rfl; rfl; rfl) | (apply c_t; rfl) | (apply c_f; rfl) | apply c_skip | apply c_block | apply n_blk | apply c_exit | apply e_hit | apply e_cd | apply e_lp | (apply e_miss; rfl) | apply c_ret | (apply wO; apply o_box; rfl; rfl; rfl; intro _) | (apply wO; apply o_alloc; rfl; intro _) | (apply wO; apply o_st; rfl; rfl; rfl; (first | exact AggC.s | exact OneC.s); rfl; exact rplE; exact putE; rfl) | (apply wO; apply o_bs0; rfl; intro _) | (apply wO; apply o_bs; rfl; rfl; rfl; rfl; exact rptE; exact filE; intro _) | (apply wO; apply o_call; rfl; kernel_rfl; exact evsE))
    rw [no (by unfold okTakeItem; rw [g1]; simp)]
    refine t_emp EStr ?_
    refine closeReceiveWindow zRW ?_
    refine ret ⟨[], zRW, _, _, _, _, _, _⟩ ⟨rfl, rfl⟩ rfl
  obtain ⟨n0, n1, hl, hit⟩ := good_of g1
  repeat (first | apply c_seq | apply c_reg | (apply wO; apply oc; rfl; exact ydE) | apply w_nil | apply n_cd | (apply wg_t; rfl; rfl) | (apply wg_f; rfl; rfl; rfl; rfl) | (apply wg_u; rfl; rfl; rfl) | (apply c_t; rfl) | (apply c_f; rfl) | apply c_skip | apply c_block | apply n_blk | apply c_exit | apply e_hit | apply e_cd | apply e_lp | (apply e_miss; rfl) | apply c_ret | (apply wO; apply o_box; rfl; rfl; rfl; intro _) | (apply wO; apply o_alloc; rfl; intro _) | (apply wO; apply o_st; rfl; rfl; rfl; (first | exact AggC.s | exact OneC.s); rfl; exact rplE; exact putE; rfl) | (apply wO; apply o_bs0; rfl; intro _) | (apply wO; apply o_bs; rfl; rfl; rfl; rfl; exact rptE; exact filE; intro _) | (apply wO; apply o_call; rfl; kernel_rfl; exact evsE))
  refine ce (fun w s => l2Good_c _ _) ?_
  cases g2 : isSer n
  · repeat (first | apply c_seq | apply c_reg | (apply wO; apply oc; rfl; exact ydE) | apply w_nil | apply n_cd | (apply wg_t; rfl; rfl) | (apply wg_f; rfl; rfl; rfl; rfl) | (apply wg_u; rfl; rfl; rfl) | (apply c_t; rfl) | (apply c_f; rfl) | apply c_skip | apply c_block | apply n_blk | apply c_exit | apply e_hit | apply e_cd | apply e_lp | (apply e_miss; rfl) | apply c_ret | (apply wO; apply o_box; rfl; rfl; rfl; intro _) | (apply wO; apply o_alloc; rfl; intro _) | (apply wO; apply o_st; rfl; rfl; rfl; (first | exact AggC.s | exact OneC.s); rfl; exact rplE; exact putE; rfl) | (apply wO; apply o_bs0; rfl; intro _) | (apply wO; apply o_bs; rfl; rfl; rfl; rfl; exact rptE; exact filE; intro _) | (apply wO; apply o_call; rfl; kernel_rfl; exact evsE))
    rw [no (by unfold okTakeItem; rw [g2]; simp)]
    refine t_emp EStr ?_
    refine closeReceiveWindow zRW ?_
    refine ret ⟨[], zRW, _, _, _, _, _, _⟩ ⟨rfl, rfl⟩ rfl
  obtain ⟨k0, k1⟩ := isSer_iff.1 g2
  repeat (first | apply c_seq | apply c_reg | (apply wO; apply oc; rfl; exact ydE) | apply w_nil | apply n_cd | (apply wg_t; rfl; rfl) | (apply wg_f; rfl; rfl; rfl; rfl) | (apply wg_u; rfl; rfl; rfl) | (apply c_t; rfl) | (apply c_f; rfl) | apply c_skip | apply c_block | apply n_blk | apply c_exit | apply e_hit | apply e_cd | apply e_lp | (apply e_miss; rfl) | apply c_ret | (apply wO; apply o_box; rfl; rfl; rfl; intro _) | (apply wO; apply o_alloc; rfl; intro _) | (apply wO; apply o_st; rfl; rfl; rfl; (first | exact AggC.s | exact OneC.s); rfl; exact rplE; exact putE; rfl) | (apply wO; apply o_bs0; rfl; intro _) | (apply wO; apply o_bs; rfl; rfl; rfl; rfl; exact rptE; exact filE; intro _) | (apply wO; apply o_call; rfl; kernel_rfl; exact evsE))
  refine ce (fun w s => l4Letters_c _ _ _ hi) ?_
  rw [itm_8]
  cases g3 : itm item
  · repeat (first | apply c_seq | apply c_reg | (apply wO; apply oc; rfl; exact ydE) | apply w_nil | apply n_cd | (apply wg_t; rfl; rfl) | (apply wg_f; rfl; rfl; rfl; rfl) | (apply wg_u; rfl; rfl; rfl) | (apply c_t; rfl) | (apply c_f; rfl) | apply c_skip | apply c_block | apply n_blk | apply c_exit | apply e_hit | apply e_cd | apply e_lp | (apply e_miss; rfl) | apply c_ret | (apply wO; apply o_box; rfl; rfl; rfl; intro _) | (apply wO; apply o_alloc; rfl; intro _) | (apply wO; apply o_st; rfl; rfl; rfl; (first | exact AggC.s | exact OneC.s); rfl; exact rplE; exact putE; rfl) | (apply wO; apply o_bs0; rfl; intro _) | (apply wO; apply o_bs; rfl; rfl; rfl; rfl; exact rptE; exact filE; intro _) | (apply wO; apply o_call; rfl; kernel_rfl; exact evsE))
    rw [no (by unfold okTakeItem; rw [g3]; simp)]
    refine t_emp EStr ?_
    refine closeReceiveWindow zRW ?_
    refine ret ⟨[], zRW, _, _, _, _, _, _⟩ ⟨rfl, rfl⟩ rfl
  have hi8 := itm_size g3
  repeat (first | apply c_seq | apply c_reg | (apply wO; apply oc; rfl; exact ydE) | apply w_nil | apply n_cd | (apply wg_t; rfl; rfl) | (apply wg_f; rfl; rfl; rfl; rfl) | (apply wg_u; rfl; rfl; rfl) | (apply c_t; rfl) | (apply c_f; rfl) | apply c_skip | apply c_block | apply n_blk | apply c_exit | apply e_hit | apply e_cd | apply e_lp | (apply e_miss; rfl) | apply c_ret | (apply wO; apply o_box; rfl; rfl; rfl; intro _) | (apply wO; apply o_alloc; rfl; intro _) | (apply wO; apply o_st; rfl; rfl; rfl; (first | exact AggC.s | exact OneC.s); rfl; exact rplE; exact putE; rfl) | (apply wO; apply o_bs0; rfl; intro _) | (apply wO; apply o_bs; rfl; rfl; rfl; rfl; exact rptE; exact filE; intro _) | (apply wO; apply o_call; rfl; kernel_rfl; exact evsE))
  refine cb (fun w st => (l10Reach_f x n _ F n0 n1 k0 k1 hl).val w (hol1 (st.get (p := .isv EReceiveWindow (.agg #[.int .i64 x.next, .slice a1 x.slots.length c1]) x F) (by simp)))) ?_
  cases g4 : takeOk x n
  · repeat (first | apply c_seq | apply c_reg | (apply wO; apply oc; rfl; exact ydE) | apply w_nil | apply n_cd | (apply wg_t; rfl; rfl) | (apply wg_f; rfl; rfl; rfl; rfl) | (apply wg_u; rfl; rfl; rfl) | (apply c_t; rfl) | (apply c_f; rfl) | apply c_skip | apply c_block | apply n_blk | apply c_exit | apply e_hit | apply e_cd | apply e_lp | (apply e_miss; rfl) | apply c_ret | (apply wO; apply o_box; rfl; rfl; rfl; intro _) | (apply wO; apply o_alloc; rfl; intro _) | (apply wO; apply o_st; rfl; rfl; rfl; (first | exact AggC.s | exact OneC.s); rfl; exact rplE; exact putE; rfl) | (apply wO; apply o_bs0; rfl; intro _) | (apply wO; apply o_bs; rfl; rfl; rfl; rfl; exact rptE; exact filE; intro _) | (apply wO; apply o_call; rfl; kernel_rfl; exact evsE))
    rw [no (by unfold okTakeItem; rw [g4]; simp)]
    refine t_emp EStr ?_
    refine closeReceiveWindow zRW ?_
    refine ret ⟨[], zRW, _, _, _, _, _, _⟩ ⟨rfl, rfl⟩ rfl
  have hr : resTakeItem x n item = (takeW x n item, takeE x n item, true) := by unfold resTakeItem okTakeItem; rw [g1, g2, g3, g4]; rfl
  rw [hr]
  repeat (first | apply c_seq | apply c_reg | (apply wO; apply oc; rfl; exact ydE) | apply w_nil | apply n_cd | (apply wg_t; rfl; rfl) | (apply wg_f; rfl; rfl; rfl; rfl) | (apply wg_u; rfl; rfl; rfl) | (apply c_t; rfl) | (apply c_f; rfl) | apply c_skip | apply c_block | apply n_blk | apply c_exit | apply e_hit | apply e_cd | apply e_lp | (apply e_miss; rfl) | apply c_ret | (apply wO; apply o_box; rfl; rfl; rfl; intro _) | (apply wO; apply o_alloc; rfl; intro _) | (apply wO; apply o_st; rfl; rfl; rfl; (first | exact AggC.s | exact OneC.s); rfl; exact rplE; exact putE; rfl) | (apply wO; apply o_bs0; rfl; intro _) | (apply wO; apply o_bs; rfl; rfl; rfl; rfl; exact rptE; exact filE; intro _) | (apply wO; apply o_call; rfl; kernel_rfl; exact evsE))
  refine cf (l10Take_f x n item _ _ n0 n1 k0 k1 hl hit hi8 g4) fun z hz => ?_
  refine t_app ?_
  repeat (first | apply c_seq | apply c_reg | (apply wO; apply oc; rfl; exact ydE) | apply w_nil | apply n_cd | (apply wg_t; rfl; rfl) | (apply wg_f; rfl; rfl; rfl; rfl) | (apply wg_u; rfl; rfl; rfl) | (apply c_t; rfl) | (apply c_f; rfl) | apply c_skip | apply c_block | apply n_blk | apply c_exit | apply e_hit | apply e_cd | apply e_lp | (apply e_miss; rfl) | apply c_ret | (apply wO; apply o_box; rfl; rfl; rfl; intro _) | (apply wO; apply o_alloc; rfl; intro _) | (apply wO; apply o_st; rfl; rfl; rfl; (first | exact AggC.s | exact OneC.s); rfl; exact rplE; exact putE; rfl) | (apply wO; apply o_bs0; rfl; intro _) | (apply wO; apply o_bs; rfl; rfl; rfl; rfl; exact rptE; exact filE; intro _) | (apply wO; apply o_call; rfl; kernel_rfl; exact evsE))
  refine ret z hz rfl
end Go.Proofs.YtidephmobajikaaGreatDoor
/- Receive windows: what is counted, what is there, what is seen; serials. -/
namespace Go.Proofs.YtidephmobajikaaGreatDoor
open Go.RowKit
def resHave (x : ReceiveWindow) (n : Int) : Bool × Bool := if goodRW x && isSer n then (takeNo x n, true) else (false, false)
theorem resHave_no {x : ReceiveWindow} {n : Int} (h : (goodRW x && isSer n) = false) : resHave x n = (false, false) := by unfold resHave; rw [h]; rfl
theorem resHave_yes {x : ReceiveWindow} {n : Int} (h : (goodRW x && isSer n) = true) : resHave x n = (takeNo x n, true) := by unfold resHave; rw [h]; rfl
def resGap (a b : Int) : Int × Bool := if isSer a && isSer b then (gp a b, true) else (0, false)
set_option maxRecDepth 100000 in
theorem haveItem_f (x : ReceiveWindow) (n : Int) (v : Value) (F : List Nat) (h0 : 0 ≤ x.next) (h1 : x.next ≤ 65535) (h2 : 0 ≤ n) (h3 : n ≤ 65535) :
    Fn Tryz.prog 79 [v, .int .i64 n] [.isv EReceiveWindow v x F] [] (fun (_ : Unit) => True) (fun _ => .bool (takeNo x n)) (fun _ => []) := by
  refine enter Tryz.func79 rfl Tryz.ntmps79 fun w0 => ?_
  refine openReceiveWindow ?_
  rintro a1 c1 F1 rfl l1
  repeat (first | apply c_seq | apply c_reg | (apply wO; apply oc; rfl; exact ydE) | apply w_nil | apply n_cd | (apply wg_t; rfl; rfl) | (apply wg_f; rfl; rfl; rfl; rfl) | (apply wg_u; rfl; rfl; rfl) | (apply c_t; rfl) | (apply c_f; rfl) | apply c_skip | apply c_block | apply n_blk | apply c_exit | apply e_hit | apply e_cd | apply e_lp | (apply e_miss; rfl) | apply c_ret | (apply wO; apply o_box; rfl; rfl; rfl; intro _) | (apply wO; apply o_alloc; rfl; intro _) | (apply wO; apply o_st; rfl; rfl; rfl; (first | exact AggC.s | exact OneC.s); rfl; exact rplE; exact putE; rfl) | (apply wO; apply o_bs0; rfl; intro _) | (apply wO; apply o_bs; rfl; rfl; rfl; rfl; exact rptE; exact filE; intro _) | (apply wO; apply o_call; rfl; kernel_rfl; exact evsE))
  refine ce (fun w s => isBefore_c _ _ _ (by omega) (by omega) (by omega) (by omega)) ?_
  cases g1 : bef n x.next
  · repeat (first | apply c_seq | apply c_reg | (apply wO; apply oc; rfl; exact ydE) | apply w_nil | apply n_cd | (apply wg_t; rfl; rfl) | (apply wg_f; rfl; rfl; rfl; rfl) | (apply wg_u; rfl; rfl; rfl) | (apply c_t; rfl) | (apply c_f; rfl) | apply c_skip | apply c_block | apply n_blk | apply c_exit | apply e_hit | apply e_cd | apply e_lp | (apply e_miss; rfl) | apply c_ret | (apply wO; apply o_box; rfl; rfl; rfl; intro _) | (apply wO; apply o_alloc; rfl; intro _) | (apply wO; apply o_st; rfl; rfl; rfl; (first | exact AggC.s | exact OneC.s); rfl; exact rplE; exact putE; rfl) | (apply wO; apply o_bs0; rfl; intro _) | (apply wO; apply o_bs; rfl; rfl; rfl; rfl; exact rptE; exact filE; intro _) | (apply wO; apply o_call; rfl; kernel_rfl; exact evsE))
    refine cb (fun w st => (RWhas_f x n _ F h0 h1 h2 h3).val w (hol1 (st.get (p := .isv EReceiveWindow (.agg #[.int .i64 x.next, .slice a1 x.slots.length c1]) x F) (by simp)))) ?_
    repeat (first | apply c_seq | apply c_reg | (apply wO; apply oc; rfl; exact ydE) | apply w_nil | apply n_cd | (apply wg_t; rfl; rfl) | (apply wg_f; rfl; rfl; rfl; rfl) | (apply wg_u; rfl; rfl; rfl) | (apply c_t; rfl) | (apply c_f; rfl) | apply c_skip | apply c_block | apply n_blk | apply c_exit | apply e_hit | apply e_cd | apply e_lp | (apply e_miss; rfl) | apply c_ret | (apply wO; apply o_box; rfl; rfl; rfl; intro _) | (apply wO; apply o_alloc; rfl; intro _) | (apply wO; apply o_st; rfl; rfl; rfl; (first | exact AggC.s | exact OneC.s); rfl; exact rplE; exact putE; rfl) | (apply wO; apply o_bs0; rfl; intro _) | (apply wO; apply o_bs; rfl; rfl; rfl; rfl; exact rptE; exact filE; intro _) | (apply wO; apply o_call; rfl; kernel_rfl; exact evsE))
    refine ret () trivial ?_
    simp [takeNo, g1, tup]
  · repeat (first | apply c_seq | apply c_reg | (apply wO; apply oc; rfl; exact ydE) | apply w_nil | apply n_cd | (apply wg_t; rfl; rfl) | (apply wg_f; rfl; rfl; rfl; rfl) | (apply wg_u; rfl; rfl; rfl) | (apply c_t; rfl) | (apply c_f; rfl) | apply c_skip | apply c_block | apply n_blk | apply c_exit | apply e_hit | apply e_cd | apply e_lp | (apply e_miss; rfl) | apply c_ret | (apply wO; apply o_box; rfl; rfl; rfl; intro _) | (apply wO; apply o_alloc; rfl; intro _) | (apply wO; apply o_st; rfl; rfl; rfl; (first | exact AggC.s | exact OneC.s); rfl; exact rplE; exact putE; rfl) | (apply wO; apply o_bs0; rfl; intro _) | (apply wO; apply o_bs; rfl; rfl; rfl; rfl; exact rptE; exact filE; intro _) | (apply wO; apply o_call; rfl; kernel_rfl; exact evsE))
    refine ret () trivial ?_
    simp [takeNo, g1, tup]
set_option maxRecDepth 100000 in
theorem HaveItem_f (x : ReceiveWindow) (n : Int) (v : Value) (F : List Nat) : Fn Tryz.prog 15 [v, .int .i64 n] [.isv EReceiveWindow v x F] [] (fun (_ : Unit) => True) (fun _ => .tuple #[.bool (resHave x n).1, .bool (resHave x n).2]) (fun _ => []) := by
  refine enter Tryz.func15 rfl Tryz.ntmps15 fun w0 => ?_
  refine openReceiveWindow ?_
  rintro a1 c1 F1 rfl l1
  repeat (first | apply c_seq | apply c_reg | (apply wO; apply oc; rfl; exact ydE) | apply w_nil | apply n_cd | (apply wg_t; rfl; rfl) | (apply wg_f; rfl; rfl; rfl; rfl) | (apply wg_u; rfl; rfl; rfl) | (apply c_t; rfl) | (apply c_f; rfl) | apply c_skip | apply c_block | apply n_blk | apply c_exit | apply e_hit | apply e_cd | apply e_lp | (apply e_miss; rfl) | apply c_ret | (apply wO; apply o_box; rfl; rfl; rfl; intro _) | (apply wO; apply o_alloc; rfl; intro _) | (apply wO; apply o_st; rfl; rfl; rfl; (first | exact AggC.s | exact OneC.s); rfl; exact rplE; exact putE; rfl) | (apply wO; apply o_bs0; rfl; intro _) | (apply wO; apply o_bs; rfl; rfl; rfl; rfl; exact rptE; exact filE; intro _) | (apply wO; apply o_call; rfl; kernel_rfl; exact evsE))
  refine cb (fun w st => (RWgood_f x _ F).val w (hol1 (st.get (p := .isv EReceiveWindow (.agg #[.int .i64 x.next, .slice a1 x.slots.length c1]) x F) (by simp)))) ?_
  cases g1 : goodRW x
  · repeat (first | apply c_seq | apply c_reg | (apply wO; apply oc; rfl; exact ydE) | apply w_nil | apply n_cd | (apply wg_t; rfl; rfl) | (apply wg_f; rfl; rfl; rfl; rfl) | (apply wg_u; rfl; rfl; rfl) | (apply c_t; rfl) | (apply c_f; rfl) | apply c_skip | apply c_block | apply n_blk | apply c_exit | apply e_hit | apply e_cd | apply e_lp | (apply e_miss; rfl) | apply c_ret | (apply wO; apply o_box; rfl; rfl; rfl; intro _) | (apply wO; apply o_alloc; rfl; intro _) | (apply wO; apply o_st; rfl; rfl; rfl; (first | exact AggC.s | exact OneC.s); rfl; exact rplE; exact putE; rfl) | (apply wO; apply o_bs0; rfl; intro _) | (apply wO; apply o_bs; rfl; rfl; rfl; rfl; exact rptE; exact filE; intro _) | (apply wO; apply o_call; rfl; kernel_rfl; exact evsE))
    rw [resHave_no (by rw [g1]; rfl)]
    refine ret () trivial rfl
  obtain ⟨n0, n1, hl, hit⟩ := good_of g1
  repeat (first | apply c_seq | apply c_reg | (apply wO; apply oc; rfl; exact ydE) | apply w_nil | apply n_cd | (apply wg_t; rfl; rfl) | (apply wg_f; rfl; rfl; rfl; rfl) | (apply wg_u; rfl; rfl; rfl) | (apply c_t; rfl) | (apply c_f; rfl) | apply c_skip | apply c_block | apply n_blk | apply c_exit | apply e_hit | apply e_cd | apply e_lp | (apply e_miss; rfl) | apply c_ret | (apply wO; apply o_box; rfl; rfl; rfl; intro _) | (apply wO; apply o_alloc; rfl; intro _) | (apply wO; apply o_st; rfl; rfl; rfl; (first | exact AggC.s | exact OneC.s); rfl; exact rplE; exact putE; rfl) | (apply wO; apply o_bs0; rfl; intro _) | (apply wO; apply o_bs; rfl; rfl; rfl; rfl; exact rptE; exact filE; intro _) | (apply wO; apply o_call; rfl; kernel_rfl; exact evsE))
  refine ce (fun w s => IsSerial_c _ _) ?_
  cases g2 : isSer n
  · repeat (first | apply c_seq | apply c_reg | (apply wO; apply oc; rfl; exact ydE) | apply w_nil | apply n_cd | (apply wg_t; rfl; rfl) | (apply wg_f; rfl; rfl; rfl; rfl) | (apply wg_u; rfl; rfl; rfl) | (apply c_t; rfl) | (apply c_f; rfl) | apply c_skip | apply c_block | apply n_blk | apply c_exit | apply e_hit | apply e_cd | apply e_lp | (apply e_miss; rfl) | apply c_ret | (apply wO; apply o_box; rfl; rfl; rfl; intro _) | (apply wO; apply o_alloc; rfl; intro _) | (apply wO; apply o_st; rfl; rfl; rfl; (first | exact AggC.s | exact OneC.s); rfl; exact rplE; exact putE; rfl) | (apply wO; apply o_bs0; rfl; intro _) | (apply wO; apply o_bs; rfl; rfl; rfl; rfl; exact rptE; exact filE; intro _) | (apply wO; apply o_call; rfl; kernel_rfl; exact evsE))
    rw [resHave_no (by rw [g1, g2]; rfl)]
    refine ret () trivial rfl
  obtain ⟨k0, k1⟩ := isSer_iff.1 g2
  rw [resHave_yes (by rw [g1, g2]; rfl)]
  repeat (first | apply c_seq | apply c_reg | (apply wO; apply oc; rfl; exact ydE) | apply w_nil | apply n_cd | (apply wg_t; rfl; rfl) | (apply wg_f; rfl; rfl; rfl; rfl) | (apply wg_u; rfl; rfl; rfl) | (apply c_t; rfl) | (apply c_f; rfl) | apply c_skip | apply c_block | apply n_blk | apply c_exit | apply e_hit | apply e_cd | apply e_lp | (apply e_miss; rfl) | apply c_ret | (apply wO; apply o_box; rfl; rfl; rfl; intro _) | (apply wO; apply o_alloc; rfl; intro _) | (apply wO; apply o_st; rfl; rfl; rfl; (first | exact AggC.s | exact OneC.s); rfl; exact rplE; exact putE; rfl) | (apply wO; apply o_bs0; rfl; intro _) | (apply wO; apply o_bs; rfl; rfl; rfl; rfl; exact rptE; exact filE; intro _) | (apply wO; apply o_call; rfl; kernel_rfl; exact evsE))
  refine cb (fun w st => (haveItem_f x n _ F n0 n1 k0 k1).val w (hol1 (st.get (p := .isv EReceiveWindow (.agg #[.int .i64 x.next, .slice a1 x.slots.length c1]) x F) (by simp)))) ?_
  repeat (first | apply c_seq | apply c_reg | (apply wO; apply oc; rfl; exact ydE) | apply w_nil | apply n_cd | (apply wg_t; rfl; rfl) | (apply wg_f; rfl; rfl; rfl; rfl) | (apply wg_u; rfl; rfl; rfl) | (apply c_t; rfl) | (apply c_f; rfl) | apply c_skip | apply c_block | apply n_blk | apply c_exit | apply e_hit | apply e_cd | apply e_lp | (apply e_miss; rfl) | apply c_ret | (apply wO; apply o_box; rfl; rfl; rfl; intro _) | (apply wO; apply o_alloc; rfl; intro _) | (apply wO; apply o_st; rfl; rfl; rfl; (first | exact AggC.s | exact OneC.s); rfl; exact rplE; exact putE; rfl) | (apply wO; apply o_bs0; rfl; intro _) | (apply wO; apply o_bs; rfl; rfl; rfl; rfl; exact rptE; exact filE; intro _) | (apply wO; apply o_call; rfl; kernel_rfl; exact evsE))
  refine ret () trivial rfl
set_option maxRecDepth 100000 in
theorem SerialGap_f (a b : Int) : Fn Tryz.prog 16 [.int .i64 a, .int .i64 b] [] [] (fun (_ : Unit) => True) (fun _ => .tuple #[.int .i64 (resGap a b).1, .bool (resGap a b).2]) (fun _ => []) := by
  refine enter Tryz.func16 rfl Tryz.ntmps16 fun w0 => ?_
  repeat (first | apply c_seq | apply c_reg | (apply wO; apply oc; rfl; exact ydE) | apply w_nil | apply n_cd | (apply wg_t; rfl; rfl) | (apply wg_f; rfl; rfl; rfl; rfl) | (apply wg_u; rfl; rfl; rfl) | (apply c_t; rfl) | (apply c_f; rfl) | apply c_skip | apply c_block | apply n_blk | apply c_exit | apply e_hit | apply e_cd | apply e_lp | (apply e_miss; rfl) | apply c_ret | (apply wO; apply o_box; rfl; rfl; rfl; intro _) | (apply wO; apply o_alloc; rfl; intro _) | (apply wO; apply o_st; rfl; rfl; rfl; (first | exact AggC.s | exact OneC.s); rfl; exact rplE; exact putE; rfl) | (apply wO; apply o_bs0; rfl; intro _) | (apply wO; apply o_bs; rfl; rfl; rfl; rfl; exact rptE; exact filE; intro _) | (apply wO; apply o_call; rfl; kernel_rfl; exact evsE))
  refine ce (fun w s => IsSerial_c _ _) ?_
  cases g1 : isSer a
  · repeat (first | apply c_seq | apply c_reg | (apply wO; apply oc; rfl; exact ydE) | apply w_nil | apply n_cd | (apply wg_t; rfl; rfl) | (apply wg_f; rfl; rfl; rfl; rfl) | (apply wg_u; rfl; rfl; rfl) | (apply c_t; rfl) | (apply c_f; rfl) | apply c_skip | apply c_block | apply n_blk | apply c_exit | apply e_hit | apply e_cd | apply e_lp | (apply e_miss; rfl) | apply c_ret | (apply wO; apply o_box; rfl; rfl; rfl; intro _) | (apply wO; apply o_alloc; rfl; intro _) | (apply wO; apply o_st; rfl; rfl; rfl; (first | exact AggC.s | exact OneC.s); rfl; exact rplE; exact putE; rfl) | (apply wO; apply o_bs0; rfl; intro _) | (apply wO; apply o_bs; rfl; rfl; rfl; rfl; exact rptE; exact filE; intro _) | (apply wO; apply o_call; rfl; kernel_rfl; exact evsE))
    rw [show resGap a b = _ by unfold resGap; rw [g1]]
    refine ret () trivial rfl
  repeat (first | apply c_seq | apply c_reg | (apply wO; apply oc; rfl; exact ydE) | apply w_nil | apply n_cd | (apply wg_t; rfl; rfl) | (apply wg_f; rfl; rfl; rfl; rfl) | (apply wg_u; rfl; rfl; rfl) | (apply c_t; rfl) | (apply c_f; rfl) | apply c_skip | apply c_block | apply n_blk | apply c_exit | apply e_hit | apply e_cd | apply e_lp | (apply e_miss; rfl) | apply c_ret | (apply wO; apply o_box; rfl; rfl; rfl; intro _) | (apply wO; apply o_alloc; rfl; intro _) | (apply wO; apply o_st; rfl; rfl; rfl; (first | exact AggC.s | exact OneC.s); rfl; exact rplE; exact putE; rfl) | (apply wO; apply o_bs0; rfl; intro _) | (apply wO; apply o_bs; rfl; rfl; rfl; rfl; exact rptE; exact filE; intro _) | (apply wO; apply o_call; rfl; kernel_rfl; exact evsE))
  refine ce (fun w s => IsSerial_c _ _) ?_
  cases g2 : isSer b
  · repeat (first | apply c_seq | apply c_reg | (apply wO; apply oc; rfl; exact ydE) | apply w_nil | apply n_cd | (apply wg_t; rfl; rfl) | (apply wg_f; rfl; rfl; rfl; rfl) | (apply wg_u; rfl; rfl; rfl) | (apply c_t; rfl) | (apply c_f; rfl) | apply c_skip | apply c_block | apply n_blk | apply c_exit | apply e_hit | apply e_cd | apply e_lp | (apply e_miss; rfl) | apply c_ret | (apply wO; apply o_box; rfl; rfl; rfl; intro _) | (apply wO; apply o_alloc; rfl; intro _) | (apply wO; apply o_st; rfl; rfl; rfl; (first | exact AggC.s | exact OneC.s); rfl; exact rplE; exact putE; rfl) | (apply wO; apply o_bs0; rfl; intro _) | (apply wO; apply o_bs; rfl; rfl; rfl; rfl; exact rptE; exact filE; intro _) | (apply wO; apply o_call; rfl; kernel_rfl; exact evsE))
    rw [show resGap a b = _ by unfold resGap; rw [g1, g2]]
    refine ret () trivial rfl
  obtain ⟨a0, a1⟩ := isSer_iff.1 g1
  obtain ⟨b0, b1⟩ := isSer_iff.1 g2
  rw [show resGap a b = _ by unfold resGap; rw [g1, g2]]
  repeat (first | apply c_seq | apply c_reg | (apply wO; apply oc; rfl; exact ydE) | apply w_nil | apply n_cd | (apply wg_t; rfl; rfl) | (apply wg_f; rfl; rfl; rfl; rfl) | (apply wg_u; rfl; rfl; rfl) | (apply c_t; rfl) | (apply c_f; rfl) | apply c_skip | apply c_block | apply n_blk | apply c_exit | apply e_hit | apply e_cd | apply e_lp | (apply e_miss; rfl) | apply c_ret | (apply wO; apply o_box; rfl; rfl; rfl; intro _) | (apply wO; apply o_alloc; rfl; intro _) | (apply wO; apply o_st; rfl; rfl; rfl; (first | exact AggC.s | exact OneC.s); rfl; exact rplE; exact putE; rfl) | (apply wO; apply o_bs0; rfl; intro _) | (apply wO; apply o_bs; rfl; rfl; rfl; rfl; exact rptE; exact filE; intro _) | (apply wO; apply o_call; rfl; kernel_rfl; exact evsE))
  refine ce (fun w s => gap_c _ _ _ (by omega) (by omega) (by omega) (by omega)) ?_
  repeat (first | apply c_seq | apply c_reg | (apply wO; apply oc; rfl; exact ydE) | apply w_nil | apply n_cd | (apply wg_t; rfl; rfl) | (apply wg_f; rfl; rfl; rfl; rfl) | (apply wg_u; rfl; rfl; rfl) | (apply c_t; rfl) | (apply c_f; rfl) | apply c_skip | apply c_block | apply n_blk | apply c_exit | apply e_hit | apply e_cd | apply e_lp | (apply e_miss; rfl) | apply c_ret | (apply wO; apply o_box; rfl; rfl; rfl; intro _) | (apply wO; apply o_alloc; rfl; intro _) | (apply wO; apply o_st; rfl; rfl; rfl; (first | exact AggC.s | exact OneC.s); rfl; exact rplE; exact putE; rfl) | (apply wO; apply o_bs0; rfl; intro _) | (apply wO; apply o_bs; rfl; rfl; rfl; rfl; exact rptE; exact filE; intro _) | (apply wO; apply o_call; rfl; kernel_rfl; exact evsE))
  refine ret () trivial rfl
end Go.Proofs.YtidephmobajikaaGreatDoor
