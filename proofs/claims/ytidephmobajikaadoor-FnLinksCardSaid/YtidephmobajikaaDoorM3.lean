/- Part 3 of the proof: 25 texts, one behind the other. -/
import Derived.Laws.Bits64b
import Derived.Test.YtidephmobajikaaDoorShelf
import Derived.ProofKit
import Derived.OpenShut
import Derived.Test.YtidephmobajikaaDoorM2
/- Walks: the reference's draws: a cursor over bytes. -/
namespace Go.Proofs.YtidephmobajikaaDoor
open Go.RowKit
section
variable {P : Program} {ops : Array Oper} {Q : Exit → Act → World → Prop} {md : Region.Mode} {S : World → Prop} {X : Nat → Bool}
end
theorem Sl.byte {w v} {xs : List Int} {F} (h : Sl EByte w v xs F) : xs.length ≤ maxLen ∧ ∀ k (hk : k < xs.length), (0 ≤ xs[k] ∧ xs[k] ≤ 255) ∧ ∃ b off, v = .slice (some ⟨b, off, none⟩) xs.length (match v with | .slice _ _ c => c | _ => 0) ∧ b ∈ F ∧ w.cell? ⟨b, off + k, none⟩ = some (.int .u8 xs[k]) := by
  obtain ⟨a, cap, rfl, hl, ⟨rfl, rfl, _⟩ | ⟨b, off, F', rfl, hne, rfl, hc⟩⟩ := h
  · exact ⟨by simp, fun k hk => by simp at hk⟩
  · refine ⟨by omega, fun k hk => ?_⟩
    obtain ⟨cs, F1, ⟨rfl, h0, h1, rfl⟩, hcell, _⟩ := hc.get k hk
    refine ⟨⟨h0, h1⟩, b, off, rfl, by simp, ?_⟩
    simpa [EByte] using hcell 0 (by decide)
/-- the bytes that a cursor reads -/
structure CuF where
  code : List Int
  a : Option Addr
  c : Nat
  bs : List Nat
/-- the cursor lies in block g; its bytes in F, below it; it has moved at most B steps -/
def Cur (B : Nat) (w : World) (g : Nat) (F : CuF) : Prop :=
  ∃ (k : Nat) (seed : Int), Row w g 121 [.slice F.a F.code.length F.c, .int .i64 k, .int .u64 seed] ∧ Sl EByte w (.slice F.a F.code.length F.c) F.code F.bs ∧ g ∉ F.bs ∧ k ≤ B ∧ 0 ≤ seed ∧ seed < 18446744073709551616
theorem Cur.keep {B w w' g F K} (h : Cur B w g F) (hk : Keep K w w') (h1 : g ∉ K) (h2 : ∀ b ∈ F.bs, b ∉ K) : Cur B w' g F := by
  obtain ⟨k, seed, R, S, hF, h3⟩ := h
  exact ⟨k, seed, R.keepK hk h1, S.keep hk h2 (by decide), hF, h3⟩
theorem Cur.below {B w w' g F} (h : Cur B w g F) (hb : Below w.heap.size w w') : Cur B w' g F := by
  obtain ⟨k, seed, R, S, hF, h3⟩ := h
  exact ⟨k, seed, R.below hb, S.below (by decide) hb, hF, h3⟩
theorem Cur.mono {B B' w g F} (h : Cur B w g F) (hb : B ≤ B') : Cur B' w g F := by
  obtain ⟨k, seed, R, S, hF, h3, h4⟩ := h
  exact ⟨k, seed, R, S, hF, by omega, h4⟩
theorem Cur.lt {B w g F} (h : Cur B w g F) : g < w.heap.size := by
  obtain ⟨k, seed, R, _⟩ := h; exact R.lt
def PNext (B g : Nat) (F : CuF) (w : World) (e : Ending) (w' : World) : Prop := ∃ r : Nat, e = .returned (.int .i64 r) ∧ r ≤ 255 ∧ Cur (B + 1) w' g F ∧ Keep [g] w w'
set_option maxHeartbeats 3200000 in
set_option maxRecDepth 100000 in
theorem next_c (B g : Nat) (F : CuF) (w : World) (h : Cur B w g F) (hB0 : B ≤ 1099511627776) :
    Calls Tryd.prog 196 #[.pointer (some ⟨g, 0, none⟩)] w (PNext B g F w) := by
  obtain ⟨code, a, c, F⟩ := F
  obtain ⟨k, seed, R, S, hF, h2, h3, h4⟩ := h
  dsimp only at R S hF
  have hl := S.byte.1
  unfold maxLen at hl
  have hlt := S.lt (by decide)
  by_cases hk : k < code.length
  · obtain ⟨⟨hz0, hz1⟩, b, off, hv, hbF, hcell⟩ := S.byte.2 k hk
    simp only [Value.slice.injEq] at hv
    obtain ⟨rfl, -, -⟩ := hv
    generalize code[k] = z at *
    have hbg : b ≠ g := fun e => hF (e ▸ hbF)
    have hcl := fun w' (hb : Below w.heap.size w w') => kc hb hcell
    replace hcl := Lib.hid hcl
    clear hcell
    have hB := Below.refl w.heap.size w
    go_enter Tryd.func196, Tryd.ntmps196
    go_wp2_with fail
    refine AnyX.start (S := (fun w' => w'.cell? ⟨g, 0, none⟩ = some (.slice (some ⟨b, off, none⟩) code.length c) ∧ w'.cell? ⟨g, 1, none⟩ = some (.int .i64 k) ∧ w'.cell? ⟨g, 2, none⟩ = some (.int .u64 seed) ∧ w'.cell? ⟨b, off + k, none⟩ = some (.int .u8 z))) (X := (fun _ => false)) (by kernel_rfl) ?_
    have al : Below w.heap.size w w.drew := belowDrewN (Below.refl _ _) 1
    have hs_w1 := al.size
    replace R := R.below al
    replace S := S.below (by decide) al
    replace hB := tr hB al (Nat.le_refl _)
    generalize w.drew = w1 at *
    clear al
    have hS : (fun w' => w'.cell? ⟨g, 0, none⟩ = some (.slice (some ⟨b, off, none⟩) code.length c) ∧ w'.cell? ⟨g, 1, none⟩ = some (.int .i64 k) ∧ w'.cell? ⟨g, 2, none⟩ = some (.int .u64 seed) ∧ w'.cell? ⟨b, off + k, none⟩ = some (.int .u8 z)) w1 := ⟨R.cells 0, R.cells 1, R.cells 2, hcl.out _ hB⟩
    refine AnyX.take (i := 0) (oi := _) (v := ?_) (by rw [List.getElem?_toArray]; rfl) (by kernel_rfl) (by kernel_rfl) (by kernel_rfl) (by kernel_rfl) (by kernel_rfl) (by exact fun _ _ _ h => h) (Or.inl ⟨by rfl, ?_⟩) hS ?_
    rotate_left
    · (intro wS hSw; (try dsimp only at hSw); go_simp; try with_reducible rfl)
    try simp only [Act.put, List.setIfInBounds_toArray, List.set_cons_zero, List.set_cons_succ]
    refine AnyX.take (i := 1) (oi := _) (v := ?_) (by rw [List.getElem?_toArray]; rfl) (by kernel_rfl) (by kernel_rfl) (by kernel_rfl) (by kernel_rfl) (by kernel_rfl) (by exact fun _ _ _ h => h) (Or.inl ⟨by rfl, ?_⟩) hS ?_
    rotate_left
    · (intro wS hSw; (try dsimp only at hSw); go_simp; try with_reducible rfl)
    try simp only [Act.put, List.setIfInBounds_toArray, List.set_cons_zero, List.set_cons_succ]
    refine AnyX.take (i := 2) (oi := _) (v := ?_) (by rw [List.getElem?_toArray]; rfl) (by kernel_rfl) (by kernel_rfl) (by kernel_rfl) (by kernel_rfl) (by kernel_rfl) (by exact fun _ _ _ h => h) (Or.inl ⟨by rfl, ?_⟩) hS ?_
    rotate_left
    · (intro wS hSw; (try dsimp only at hSw); go_simp; try with_reducible rfl)
    try simp only [Act.put, List.setIfInBounds_toArray, List.set_cons_zero, List.set_cons_succ]
    refine AnyX.take (i := 3) (oi := _) (v := ?_) (by rw [List.getElem?_toArray]; rfl) (by kernel_rfl) (by kernel_rfl) (by kernel_rfl) (by kernel_rfl) (by kernel_rfl) (by exact fun _ _ _ h => h) (Or.inl ⟨by rfl, ?_⟩) hS ?_
    rotate_left
    · (intro wS hSw; (try dsimp only at hSw); go_simp; try with_reducible rfl)
    try simp only [Act.put, List.setIfInBounds_toArray, List.set_cons_zero, List.set_cons_succ]
    refine AnyX.take (i := 4) (oi := _) (v := ?_) (by rw [List.getElem?_toArray]; rfl) (by kernel_rfl) (by kernel_rfl) (by kernel_rfl) (by kernel_rfl) (by kernel_rfl) (by exact fun _ _ _ h => h) (Or.inl ⟨by rfl, ?_⟩) hS ?_
    rotate_left
    · (intro wS hSw; (try dsimp only at hSw); go_simp; try with_reducible rfl)
    try simp only [Act.put, List.setIfInBounds_toArray, List.set_cons_zero, List.set_cons_succ]
    refine AnyX.take (i := 5) (oi := _) (v := ?_) (by rw [List.getElem?_toArray]; rfl) (by kernel_rfl) (by kernel_rfl) (by kernel_rfl) (by kernel_rfl) (by kernel_rfl) (by exact fun _ _ _ h => h) (Or.inl ⟨by rfl, ?_⟩) hS ?_
    rotate_left
    · (intro wS hSw; (try dsimp only at hSw); go_simp; try with_reducible rfl)
    try simp only [Act.put, List.setIfInBounds_toArray, List.set_cons_zero, List.set_cons_succ]
    refine AnyX.take (i := 6) (oi := _) (v := ?_) (by rw [List.getElem?_toArray]; rfl) (by kernel_rfl) (by kernel_rfl) (by kernel_rfl) (by kernel_rfl) (by kernel_rfl) (by exact fun _ _ _ h => h) (Or.inl ⟨by rfl, ?_⟩) hS ?_
    rotate_left
    · (intro wS hSw; (try dsimp only at hSw); go_simp; try with_reducible rfl)
    try simp only [Act.put, List.setIfInBounds_toArray, List.set_cons_zero, List.set_cons_succ]
    refine AnyX.take (i := 7) (oi := _) (v := ?_) (by rw [List.getElem?_toArray]; rfl) (by kernel_rfl) (by kernel_rfl) (by kernel_rfl) (by kernel_rfl) (by kernel_rfl) (by exact fun _ _ _ h => h) (Or.inl ⟨by rfl, ?_⟩) hS ?_
    rotate_left
    · (intro wS hSw; (try dsimp only at hSw); go_simp; try with_reducible rfl)
    try simp only [Act.put, List.setIfInBounds_toArray, List.set_cons_zero, List.set_cons_succ]
    refine AnyX.take (i := 8) (oi := _) (v := ?_) (by rw [List.getElem?_toArray]; rfl) (by kernel_rfl) (by kernel_rfl) (by kernel_rfl) (by kernel_rfl) (by kernel_rfl) (by exact fun _ _ _ h => h) (Or.inl ⟨by rfl, ?_⟩) hS ?_
    rotate_left
    · (intro wS hSw; (try dsimp only at hSw); go_simp; try with_reducible rfl)
    try simp only [Act.put, List.setIfInBounds_toArray, List.set_cons_zero, List.set_cons_succ]
    refine AnyX.take (i := 9) (oi := _) (v := ?_) (by rw [List.getElem?_toArray]; rfl) (by kernel_rfl) (by kernel_rfl) (by kernel_rfl) (by kernel_rfl) (by kernel_rfl) (by exact fun _ _ _ h => h) (Or.inl ⟨by rfl, ?_⟩) hS ?_
    rotate_left
    · (intro wS hSw; (try dsimp only at hSw); go_simp; try with_reducible rfl)
    try simp only [Act.put, List.setIfInBounds_toArray, List.set_cons_zero, List.set_cons_succ]
    refine AnyX.done (by kernel_rfl) ?_ _
    (try clear hS)
    have c_R := R.cells; have f_R := R.frozens
    go_wp2_with fail
    clear c_R f_R
    rename_i K0 hK0
    refine AnyX.start (S := (fun w' => w'.cell? ⟨g, 0, none⟩ = some (.slice (some ⟨b, off, none⟩) code.length c) ∧ w'.cell? ⟨g, 1, none⟩ = some (.int .i64 k) ∧ w'.cell? ⟨g, 2, none⟩ = some (.int .u64 seed) ∧ w'.cell? ⟨b, off + k, none⟩ = some (.int .u8 z))) (X := (fun _ => false)) (by kernel_rfl) ?_
    have al : Below w1.heap.size w1 w1.drew := belowDrewN (Below.refl _ _) 1
    have hs_w2 := al.size
    replace R := R.below al
    replace S := S.below (by decide) al
    replace hB := tr hB al (Nat.le_refl _)
    generalize w1.drew = w2 at *
    clear al
    have hS : (fun w' => w'.cell? ⟨g, 0, none⟩ = some (.slice (some ⟨b, off, none⟩) code.length c) ∧ w'.cell? ⟨g, 1, none⟩ = some (.int .i64 k) ∧ w'.cell? ⟨g, 2, none⟩ = some (.int .u64 seed) ∧ w'.cell? ⟨b, off + k, none⟩ = some (.int .u8 z)) w2 := ⟨R.cells 0, R.cells 1, R.cells 2, hcl.out _ hB⟩
    refine AnyX.take (i := 0) (oi := _) (v := ?_) (by rw [List.getElem?_toArray]; rfl) (by kernel_rfl) (by kernel_rfl) (by kernel_rfl) (by kernel_rfl) (by kernel_rfl) (by exact fun _ _ _ h => h) (Or.inl ⟨by rfl, ?_⟩) hS ?_
    rotate_left
    · (intro wS hSw; (try dsimp only at hSw); go_simp; try with_reducible rfl)
    try simp only [Act.put, List.setIfInBounds_toArray, List.set_cons_zero, List.set_cons_succ]
    refine AnyX.take (i := 1) (oi := _) (v := ?_) (by rw [List.getElem?_toArray]; rfl) (by kernel_rfl) (by kernel_rfl) (by kernel_rfl) (by kernel_rfl) (by kernel_rfl) (by exact fun _ _ _ h => h) (Or.inl ⟨by rfl, ?_⟩) hS ?_
    rotate_left
    · (intro wS hSw; (try dsimp only at hSw); go_simp; try with_reducible rfl)
    try simp only [Act.put, List.setIfInBounds_toArray, List.set_cons_zero, List.set_cons_succ]
    refine AnyX.take (i := 2) (oi := _) (v := ?_) (by rw [List.getElem?_toArray]; rfl) (by kernel_rfl) (by kernel_rfl) (by kernel_rfl) (by kernel_rfl) (by kernel_rfl) (by exact fun _ _ _ h => h) (Or.inl ⟨by rfl, ?_⟩) hS ?_
    rotate_left
    · (intro wS hSw; (try dsimp only at hSw); go_simp; try with_reducible rfl)
    try simp only [Act.put, List.setIfInBounds_toArray, List.set_cons_zero, List.set_cons_succ]
    refine AnyX.take (i := 3) (oi := _) (v := ?_) (by rw [List.getElem?_toArray]; rfl) (by kernel_rfl) (by kernel_rfl) (by kernel_rfl) (by kernel_rfl) (by kernel_rfl) (by exact fun _ _ _ h => h) (Or.inl ⟨by rfl, ?_⟩) hS ?_
    rotate_left
    · (intro wS hSw; (try dsimp only at hSw); go_simp; try with_reducible rfl)
    try simp only [Act.put, List.setIfInBounds_toArray, List.set_cons_zero, List.set_cons_succ]
    refine AnyX.take (i := 4) (oi := _) (v := ?_) (by rw [List.getElem?_toArray]; rfl) (by kernel_rfl) (by kernel_rfl) (by kernel_rfl) (by kernel_rfl) (by kernel_rfl) (by exact fun _ _ _ h => h) (Or.inl ⟨by rfl, ?_⟩) hS ?_
    rotate_left
    · (intro wS hSw; (try dsimp only at hSw); go_simp; try with_reducible rfl)
    try simp only [Act.put, List.setIfInBounds_toArray, List.set_cons_zero, List.set_cons_succ]
    refine AnyX.take (i := 5) (oi := _) (v := ?_) (by rw [List.getElem?_toArray]; rfl) (by kernel_rfl) (by kernel_rfl) (by kernel_rfl) (by kernel_rfl) (by kernel_rfl) (by exact fun _ _ _ h => h) (Or.inl ⟨by rfl, ?_⟩) hS ?_
    rotate_left
    · (intro wS hSw; (try dsimp only at hSw); go_simp; try with_reducible rfl)
    try simp only [Act.put, List.setIfInBounds_toArray, List.set_cons_zero, List.set_cons_succ]
    refine AnyX.take (i := 6) (oi := _) (v := ?_) (by rw [List.getElem?_toArray]; rfl) (by kernel_rfl) (by kernel_rfl) (by kernel_rfl) (by kernel_rfl) (by kernel_rfl) (by exact fun _ _ _ h => h) (Or.inl ⟨by rfl, ?_⟩) hS ?_
    rotate_left
    · (intro wS hSw; (try dsimp only at hSw); go_simp; try with_reducible rfl)
    try simp only [Act.put, List.setIfInBounds_toArray, List.set_cons_zero, List.set_cons_succ]
    refine AnyX.take (i := 7) (oi := _) (v := ?_) (by rw [List.getElem?_toArray]; rfl) (by kernel_rfl) (by kernel_rfl) (by kernel_rfl) (by kernel_rfl) (by kernel_rfl) (by exact fun _ _ _ h => h) (Or.inl ⟨by rfl, ?_⟩) hS ?_
    rotate_left
    · (intro wS hSw; (try dsimp only at hSw); go_simp; try with_reducible rfl)
    try simp only [Act.put, List.setIfInBounds_toArray, List.set_cons_zero, List.set_cons_succ]
    refine AnyX.take (i := 8) (oi := _) (v := ?_) (by rw [List.getElem?_toArray]; rfl) (by kernel_rfl) (by kernel_rfl) (by kernel_rfl) (by kernel_rfl) (by kernel_rfl) (by exact fun _ _ _ h => h) (Or.inl ⟨by rfl, ?_⟩) hS ?_
    rotate_left
    · (intro wS hSw; (try dsimp only at hSw); go_simp; try with_reducible rfl)
    try simp only [Act.put, List.setIfInBounds_toArray, List.set_cons_zero, List.set_cons_succ]
    refine AnyX.take (i := 9) (oi := _) (v := ?_) (by rw [List.getElem?_toArray]; rfl) (by kernel_rfl) (by kernel_rfl) (by kernel_rfl) (by kernel_rfl) (by kernel_rfl) (by exact fun _ _ _ h => h) (Or.inl ⟨by rfl, ?_⟩) hS ?_
    rotate_left
    · (intro wS hSw; (try dsimp only at hSw); go_simp; try with_reducible rfl)
    try simp only [Act.put, List.setIfInBounds_toArray, List.set_cons_zero, List.set_cons_succ]
    refine AnyX.take (i := 10) (oi := _) (v := ?_) (by rw [List.getElem?_toArray]; rfl) (by kernel_rfl) (by kernel_rfl) (by kernel_rfl) (by kernel_rfl) (by kernel_rfl) (by exact fun _ _ _ h => h) (Or.inl ⟨by rfl, ?_⟩) hS ?_
    rotate_left
    · (intro wS hSw; (try dsimp only at hSw); go_simp; try with_reducible rfl)
    try simp only [Act.put, List.setIfInBounds_toArray, List.set_cons_zero, List.set_cons_succ]
    refine AnyX.only (i := 11) (o := _) (by kernel_rfl) (by rw [List.getElem?_toArray]; rfl) (fun K hK => ?_)
    try go_simp
    clear hS
    have hS : (fun w' => w'.cell? ⟨g, 0, none⟩ = some (.slice (some ⟨b, off, none⟩) code.length c) ∧ w'.cell? ⟨g, 1, none⟩ = some (.int .i64 k) ∧ w'.cell? ⟨g, 2, none⟩ = some (.int .u64 seed) ∧ w'.cell? ⟨b, off + k, none⟩ = some (.int .u8 z)) w2 := ⟨R.cells 0, R.cells 1, R.cells 2, hcl.out _ hB⟩
    refine hK.out _ _ (fun _ => hS) ?_
    clear hK K
    try simp only [Act.put, List.setIfInBounds_toArray, List.set_cons_zero, List.set_cons_succ]
    refine AnyX.done (by kernel_rfl) ?_ _
    (try clear hS)
    refine hK0 _ _ ?_
    clear hK0 K0
    have c_R := R.cells; have f_R := R.frozens
    go_wp2_with fail
    clear c_R f_R
    have n_K : Keep [g] w ((w2.setCell ⟨g, 1, none⟩ (.int .i64 ((k : Int) + 1))).setCell ⟨g, 2, none⟩ (.int .u64 (IntKind.u64.wrap (IntKind.u64.wrap (IntKind.u64.wrap (seed * 6364136223846793005) + z) + 840840)))) := ((Keep.ofBelow hB).setCell (p := ⟨g, 1, none⟩) (by simp) _).setCell (p := ⟨g, 2, none⟩) (by simp) _
    have n_R : Row ((w2.setCell ⟨g, 1, none⟩ (.int .i64 ((k : Int) + 1))).setCell ⟨g, 2, none⟩ (.int .u64 (IntKind.u64.wrap (IntKind.u64.wrap (IntKind.u64.wrap (seed * 6364136223846793005) + z) + 840840)))) g 121 [.slice (some ⟨b, off, none⟩) code.length c, .int .i64 ((k + 1 : Nat) : Int), .int .u64 (IntKind.u64.wrap (IntKind.u64.wrap (IntKind.u64.wrap (seed * 6364136223846793005) + z) + 840840))] := by simpa using ((R.set 1 (.int .i64 ((k : Int) + 1))).set 2 (.int .u64 (IntKind.u64.wrap (IntKind.u64.wrap (IntKind.u64.wrap (seed * 6364136223846793005) + z) + 840840))))
    have n_S : Sl EByte ((w2.setCell ⟨g, 1, none⟩ (.int .i64 ((k : Int) + 1))).setCell ⟨g, 2, none⟩ (.int .u64 (IntKind.u64.wrap (IntKind.u64.wrap (IntKind.u64.wrap (seed * 6364136223846793005) + z) + 840840)))) (Value.slice (some ⟨b, off, none⟩) code.length c) code F := S.frame (fun b hb => by have : b ≠ g := fun e => hF (e ▸ hb); repeat rw [Below.heap_setCell _ _ _ _ (by simp <;> omega)])
    have hs0 : 0 ≤ (IntKind.u64.wrap (IntKind.u64.wrap (IntKind.u64.wrap (seed * 6364136223846793005) + z) + 840840)) ∧ (IntKind.u64.wrap (IntKind.u64.wrap (IntKind.u64.wrap (seed * 6364136223846793005) + z) + 840840)) < 18446744073709551616 := by rw [IntKind.wrap_u64]; omega
    clear R S hB
    generalize (IntKind.u64.wrap (IntKind.u64.wrap (IntKind.u64.wrap (seed * 6364136223846793005) + z) + 840840)) = sd at *
    obtain ⟨hs0, hs1⟩ := hs0
    generalize ((w2.setCell ⟨g, 1, none⟩ (.int .i64 ((k : Int) + 1))).setCell ⟨g, 2, none⟩ (.int .u64 sd)) = w3 at *
    have R := n_R; clear n_R
    have S := n_S; clear n_S
    rename_i K0 hK0
    refine AnyX.start (S := (fun w' => w'.cell? ⟨g, 0, none⟩ = some (.slice (some ⟨b, off, none⟩) code.length c) ∧ w'.cell? ⟨g, 1, none⟩ = some (.int .i64 ((k + 1 : Nat) : Int)) ∧ w'.cell? ⟨g, 2, none⟩ = some (.int .u64 sd))) (X := (fun _ => false)) (by kernel_rfl) ?_
    have al : Below w3.heap.size w3 w3.drew := belowDrewN (Below.refl _ _) 1
    have hs_w4 := al.size
    replace R := R.below al
    replace S := S.below (by decide) al
    have hB := al
    generalize w3.drew = w4 at *
    clear al
    have hS : (fun w' => w'.cell? ⟨g, 0, none⟩ = some (.slice (some ⟨b, off, none⟩) code.length c) ∧ w'.cell? ⟨g, 1, none⟩ = some (.int .i64 ((k + 1 : Nat) : Int)) ∧ w'.cell? ⟨g, 2, none⟩ = some (.int .u64 sd)) w4 := ⟨R.cells 0, R.cells 1, R.cells 2⟩
    refine AnyX.take (i := 0) (oi := _) (v := ?_) (by rw [List.getElem?_toArray]; rfl) (by kernel_rfl) (by kernel_rfl) (by kernel_rfl) (by kernel_rfl) (by kernel_rfl) (by exact fun _ _ _ h => h) (Or.inl ⟨by rfl, ?_⟩) hS ?_
    rotate_left
    · (intro wS hSw; (try dsimp only at hSw); go_simp; try with_reducible rfl)
    try simp only [Act.put, List.setIfInBounds_toArray, List.set_cons_zero, List.set_cons_succ]
    refine AnyX.take (i := 1) (oi := _) (v := ?_) (by rw [List.getElem?_toArray]; rfl) (by kernel_rfl) (by kernel_rfl) (by kernel_rfl) (by kernel_rfl) (by kernel_rfl) (by exact fun _ _ _ h => h) (Or.inl ⟨by rfl, ?_⟩) hS ?_
    rotate_left
    · (intro wS hSw; (try dsimp only at hSw); go_simp; try with_reducible rfl)
    try simp only [Act.put, List.setIfInBounds_toArray, List.set_cons_zero, List.set_cons_succ]
    refine AnyX.take (i := 2) (oi := _) (v := ?_) (by rw [List.getElem?_toArray]; rfl) (by kernel_rfl) (by kernel_rfl) (by kernel_rfl) (by kernel_rfl) (by kernel_rfl) (by exact fun _ _ _ h => h) (Or.inl ⟨by rfl, ?_⟩) hS ?_
    rotate_left
    · (intro wS hSw; (try dsimp only at hSw); go_simp; try with_reducible rfl)
    try simp only [Act.put, List.setIfInBounds_toArray, List.set_cons_zero, List.set_cons_succ]
    refine AnyX.take (i := 3) (oi := _) (v := ?_) (by rw [List.getElem?_toArray]; rfl) (by kernel_rfl) (by kernel_rfl) (by kernel_rfl) (by kernel_rfl) (by kernel_rfl) (by exact fun _ _ _ h => h) (Or.inl ⟨by rfl, ?_⟩) hS ?_
    rotate_left
    · (intro wS hSw; (try dsimp only at hSw); go_simp; try with_reducible rfl)
    try simp only [Act.put, List.setIfInBounds_toArray, List.set_cons_zero, List.set_cons_succ]
    refine AnyX.take (i := 4) (oi := _) (v := ?_) (by rw [List.getElem?_toArray]; rfl) (by kernel_rfl) (by kernel_rfl) (by kernel_rfl) (by kernel_rfl) (by kernel_rfl) (by exact fun _ _ _ h => h) (Or.inl ⟨by rfl, ?_⟩) hS ?_
    rotate_left
    · (intro wS hSw; (try dsimp only at hSw); go_simp; try with_reducible rfl)
    try simp only [Act.put, List.setIfInBounds_toArray, List.set_cons_zero, List.set_cons_succ]
    refine AnyX.take (i := 5) (oi := _) (v := ?_) (by rw [List.getElem?_toArray]; rfl) (by kernel_rfl) (by kernel_rfl) (by kernel_rfl) (by kernel_rfl) (by kernel_rfl) (by exact fun _ _ _ h => h) (Or.inl ⟨by rfl, ?_⟩) hS ?_
    rotate_left
    · (intro wS hSw; (try dsimp only at hSw); go_simp; try with_reducible rfl)
    try simp only [Act.put, List.setIfInBounds_toArray, List.set_cons_zero, List.set_cons_succ]
    refine AnyX.take (i := 6) (oi := _) (v := ?_) (by rw [List.getElem?_toArray]; rfl) (by kernel_rfl) (by kernel_rfl) (by kernel_rfl) (by kernel_rfl) (by kernel_rfl) (by exact fun _ _ _ h => h) (Or.inl ⟨by rfl, ?_⟩) hS ?_
    rotate_left
    · (intro wS hSw; (try dsimp only at hSw); go_simp; try with_reducible rfl)
    try simp only [Act.put, List.setIfInBounds_toArray, List.set_cons_zero, List.set_cons_succ]
    refine AnyX.take (i := 7) (oi := _) (v := ?_) (by rw [List.getElem?_toArray]; rfl) (by kernel_rfl) (by kernel_rfl) (by kernel_rfl) (by kernel_rfl) (by kernel_rfl) (by exact fun _ _ _ h => h) (Or.inl ⟨by rfl, ?_⟩) hS ?_
    rotate_left
    · (intro wS hSw; (try dsimp only at hSw); go_simp; try with_reducible rfl)
    try simp only [Act.put, List.setIfInBounds_toArray, List.set_cons_zero, List.set_cons_succ]
    refine AnyX.take (i := 8) (oi := _) (v := ?_) (by rw [List.getElem?_toArray]; rfl) (by kernel_rfl) (by kernel_rfl) (by kernel_rfl) (by kernel_rfl) (by kernel_rfl) (by exact fun _ _ _ h => h) (Or.inl ⟨by rfl, ?_⟩) hS ?_
    rotate_left
    · (intro wS hSw; (try dsimp only at hSw); go_simp; try with_reducible rfl)
    try simp only [Act.put, List.setIfInBounds_toArray, List.set_cons_zero, List.set_cons_succ]
    refine AnyX.take (i := 9) (oi := _) (v := ?_) (by rw [List.getElem?_toArray]; rfl) (by kernel_rfl) (by kernel_rfl) (by kernel_rfl) (by kernel_rfl) (by kernel_rfl) (by exact fun _ _ _ h => h) (Or.inl ⟨by rfl, ?_⟩) hS ?_
    rotate_left
    · (intro wS hSw; (try dsimp only at hSw); go_simp; try with_reducible rfl)
    try simp only [Act.put, List.setIfInBounds_toArray, List.set_cons_zero, List.set_cons_succ]
    refine AnyX.done (by kernel_rfl) ?_ _
    (try clear hS)
    refine hK0 _ _ ?_
    clear hK0 K0
    have n_K2 := n_K.trans (Keep.ofBelow hB)
    have c_R := R.cells; have f_R := R.frozens
    go_wp2_with fail
    refine bodyPost_ret (v := .int .i64 (IntKind.i64.wrap z)) ?_ rfl ?_
    · simp [results, Tryd.results196, go_sem]
    · refine ⟨z.toNat, ?_, by omega, ⟨k + 1, sd, R, S, hF, by omega, hs0, hs1⟩, n_K2⟩
      rw [show IntKind.i64.wrap z = ((z.toNat : Nat) : Int) from by rw [IntKind.wrap_i64]; omega]
  · have hB := Below.refl w.heap.size w
    go_enter Tryd.func196, Tryd.ntmps196
    go_wp2_with fail
    refine AnyX.start (S := (fun w' => w'.cell? ⟨g, 0, none⟩ = some (.slice a code.length c) ∧ w'.cell? ⟨g, 1, none⟩ = some (.int .i64 k) ∧ w'.cell? ⟨g, 2, none⟩ = some (.int .u64 seed))) (X := (fun _ => false)) (by kernel_rfl) ?_
    have al : Below w.heap.size w w.drew := belowDrewN (Below.refl _ _) 1
    have hs_w5 := al.size
    replace R := R.below al
    replace S := S.below (by decide) al
    replace hB := tr hB al (Nat.le_refl _)
    generalize w.drew = w5 at *
    clear al
    have hS : (fun w' => w'.cell? ⟨g, 0, none⟩ = some (.slice a code.length c) ∧ w'.cell? ⟨g, 1, none⟩ = some (.int .i64 k) ∧ w'.cell? ⟨g, 2, none⟩ = some (.int .u64 seed)) w5 := ⟨R.cells 0, R.cells 1, R.cells 2⟩
    refine AnyX.take (i := 0) (oi := _) (v := ?_) (by rw [List.getElem?_toArray]; rfl) (by kernel_rfl) (by kernel_rfl) (by kernel_rfl) (by kernel_rfl) (by kernel_rfl) (by exact fun _ _ _ h => h) (Or.inl ⟨by rfl, ?_⟩) hS ?_
    rotate_left
    · (intro wS hSw; (try dsimp only at hSw); go_simp; try with_reducible rfl)
    try simp only [Act.put, List.setIfInBounds_toArray, List.set_cons_zero, List.set_cons_succ]
    refine AnyX.take (i := 1) (oi := _) (v := ?_) (by rw [List.getElem?_toArray]; rfl) (by kernel_rfl) (by kernel_rfl) (by kernel_rfl) (by kernel_rfl) (by kernel_rfl) (by exact fun _ _ _ h => h) (Or.inl ⟨by rfl, ?_⟩) hS ?_
    rotate_left
    · (intro wS hSw; (try dsimp only at hSw); go_simp; try with_reducible rfl)
    try simp only [Act.put, List.setIfInBounds_toArray, List.set_cons_zero, List.set_cons_succ]
    refine AnyX.take (i := 2) (oi := _) (v := ?_) (by rw [List.getElem?_toArray]; rfl) (by kernel_rfl) (by kernel_rfl) (by kernel_rfl) (by kernel_rfl) (by kernel_rfl) (by exact fun _ _ _ h => h) (Or.inl ⟨by rfl, ?_⟩) hS ?_
    rotate_left
    · (intro wS hSw; (try dsimp only at hSw); go_simp; try with_reducible rfl)
    try simp only [Act.put, List.setIfInBounds_toArray, List.set_cons_zero, List.set_cons_succ]
    refine AnyX.take (i := 3) (oi := _) (v := ?_) (by rw [List.getElem?_toArray]; rfl) (by kernel_rfl) (by kernel_rfl) (by kernel_rfl) (by kernel_rfl) (by kernel_rfl) (by exact fun _ _ _ h => h) (Or.inl ⟨by rfl, ?_⟩) hS ?_
    rotate_left
    · (intro wS hSw; (try dsimp only at hSw); go_simp; try with_reducible rfl)
    try simp only [Act.put, List.setIfInBounds_toArray, List.set_cons_zero, List.set_cons_succ]
    refine AnyX.take (i := 4) (oi := _) (v := ?_) (by rw [List.getElem?_toArray]; rfl) (by kernel_rfl) (by kernel_rfl) (by kernel_rfl) (by kernel_rfl) (by kernel_rfl) (by exact fun _ _ _ h => h) (Or.inl ⟨by rfl, ?_⟩) hS ?_
    rotate_left
    · (intro wS hSw; (try dsimp only at hSw); go_simp; try with_reducible rfl)
    try simp only [Act.put, List.setIfInBounds_toArray, List.set_cons_zero, List.set_cons_succ]
    refine AnyX.take (i := 5) (oi := _) (v := ?_) (by rw [List.getElem?_toArray]; rfl) (by kernel_rfl) (by kernel_rfl) (by kernel_rfl) (by kernel_rfl) (by kernel_rfl) (by exact fun _ _ _ h => h) (Or.inl ⟨by rfl, ?_⟩) hS ?_
    rotate_left
    · (intro wS hSw; (try dsimp only at hSw); go_simp; try with_reducible rfl)
    try simp only [Act.put, List.setIfInBounds_toArray, List.set_cons_zero, List.set_cons_succ]
    refine AnyX.take (i := 6) (oi := _) (v := ?_) (by rw [List.getElem?_toArray]; rfl) (by kernel_rfl) (by kernel_rfl) (by kernel_rfl) (by kernel_rfl) (by kernel_rfl) (by exact fun _ _ _ h => h) (Or.inl ⟨by rfl, ?_⟩) hS ?_
    rotate_left
    · (intro wS hSw; (try dsimp only at hSw); go_simp; try with_reducible rfl)
    try simp only [Act.put, List.setIfInBounds_toArray, List.set_cons_zero, List.set_cons_succ]
    refine AnyX.take (i := 7) (oi := _) (v := ?_) (by rw [List.getElem?_toArray]; rfl) (by kernel_rfl) (by kernel_rfl) (by kernel_rfl) (by kernel_rfl) (by kernel_rfl) (by exact fun _ _ _ h => h) (Or.inl ⟨by rfl, ?_⟩) hS ?_
    rotate_left
    · (intro wS hSw; (try dsimp only at hSw); go_simp; try with_reducible rfl)
    try simp only [Act.put, List.setIfInBounds_toArray, List.set_cons_zero, List.set_cons_succ]
    refine AnyX.take (i := 8) (oi := _) (v := ?_) (by rw [List.getElem?_toArray]; rfl) (by kernel_rfl) (by kernel_rfl) (by kernel_rfl) (by kernel_rfl) (by kernel_rfl) (by exact fun _ _ _ h => h) (Or.inl ⟨by rfl, ?_⟩) hS ?_
    rotate_left
    · (intro wS hSw; (try dsimp only at hSw); go_simp; try with_reducible rfl)
    try simp only [Act.put, List.setIfInBounds_toArray, List.set_cons_zero, List.set_cons_succ]
    refine AnyX.take (i := 9) (oi := _) (v := ?_) (by rw [List.getElem?_toArray]; rfl) (by kernel_rfl) (by kernel_rfl) (by kernel_rfl) (by kernel_rfl) (by kernel_rfl) (by exact fun _ _ _ h => h) (Or.inl ⟨by rfl, ?_⟩) hS ?_
    rotate_left
    · (intro wS hSw; (try dsimp only at hSw); go_simp; try with_reducible rfl)
    try simp only [Act.put, List.setIfInBounds_toArray, List.set_cons_zero, List.set_cons_succ]
    refine AnyX.done (by kernel_rfl) ?_ _
    (try clear hS)
    have c_R := R.cells; have f_R := R.frozens
    go_wp2_with fail
    clear c_R f_R
    have n_K : Keep [g] w ((w5.setCell ⟨g, 1, none⟩ (.int .i64 ((k : Int) + 1))).setCell ⟨g, 2, none⟩ (.int .u64 (IntKind.u64.wrap (IntKind.u64.wrap (IntKind.u64.wrap (seed * 6364136223846793005)) + 840840)))) := ((Keep.ofBelow hB).setCell (p := ⟨g, 1, none⟩) (by simp) _).setCell (p := ⟨g, 2, none⟩) (by simp) _
    have n_R : Row ((w5.setCell ⟨g, 1, none⟩ (.int .i64 ((k : Int) + 1))).setCell ⟨g, 2, none⟩ (.int .u64 (IntKind.u64.wrap (IntKind.u64.wrap (IntKind.u64.wrap (seed * 6364136223846793005)) + 840840)))) g 121 [.slice a code.length c, .int .i64 ((k + 1 : Nat) : Int), .int .u64 (IntKind.u64.wrap (IntKind.u64.wrap (IntKind.u64.wrap (seed * 6364136223846793005)) + 840840))] := by simpa using ((R.set 1 (.int .i64 ((k : Int) + 1))).set 2 (.int .u64 (IntKind.u64.wrap (IntKind.u64.wrap (IntKind.u64.wrap (seed * 6364136223846793005)) + 840840))))
    have n_S : Sl EByte ((w5.setCell ⟨g, 1, none⟩ (.int .i64 ((k : Int) + 1))).setCell ⟨g, 2, none⟩ (.int .u64 (IntKind.u64.wrap (IntKind.u64.wrap (IntKind.u64.wrap (seed * 6364136223846793005)) + 840840)))) (Value.slice a code.length c) code F := S.frame (fun b hb => by have : b ≠ g := fun e => hF (e ▸ hb); repeat rw [Below.heap_setCell _ _ _ _ (by simp <;> omega)])
    have hs0 : 0 ≤ (IntKind.u64.wrap (IntKind.u64.wrap (IntKind.u64.wrap (seed * 6364136223846793005)) + 840840)) ∧ (IntKind.u64.wrap (IntKind.u64.wrap (IntKind.u64.wrap (seed * 6364136223846793005)) + 840840)) < 18446744073709551616 := by rw [IntKind.wrap_u64]; omega
    clear R S hB
    generalize (IntKind.u64.wrap (IntKind.u64.wrap (IntKind.u64.wrap (seed * 6364136223846793005)) + 840840)) = sd at *
    obtain ⟨hs0, hs1⟩ := hs0
    generalize ((w5.setCell ⟨g, 1, none⟩ (.int .i64 ((k : Int) + 1))).setCell ⟨g, 2, none⟩ (.int .u64 sd)) = w6 at *
    have R := n_R; clear n_R
    have S := n_S; clear n_S
    rename_i K0 hK0
    refine AnyX.start (S := (fun w' => w'.cell? ⟨g, 0, none⟩ = some (.slice a code.length c) ∧ w'.cell? ⟨g, 1, none⟩ = some (.int .i64 ((k + 1 : Nat) : Int)) ∧ w'.cell? ⟨g, 2, none⟩ = some (.int .u64 sd))) (X := (fun _ => false)) (by kernel_rfl) ?_
    have al : Below w6.heap.size w6 w6.drew := belowDrewN (Below.refl _ _) 1
    have hs_w7 := al.size
    replace R := R.below al
    replace S := S.below (by decide) al
    have hB := al
    generalize w6.drew = w7 at *
    clear al
    have hS : (fun w' => w'.cell? ⟨g, 0, none⟩ = some (.slice a code.length c) ∧ w'.cell? ⟨g, 1, none⟩ = some (.int .i64 ((k + 1 : Nat) : Int)) ∧ w'.cell? ⟨g, 2, none⟩ = some (.int .u64 sd)) w7 := ⟨R.cells 0, R.cells 1, R.cells 2⟩
    refine AnyX.take (i := 0) (oi := _) (v := ?_) (by rw [List.getElem?_toArray]; rfl) (by kernel_rfl) (by kernel_rfl) (by kernel_rfl) (by kernel_rfl) (by kernel_rfl) (by exact fun _ _ _ h => h) (Or.inl ⟨by rfl, ?_⟩) hS ?_
    rotate_left
    · (intro wS hSw; (try dsimp only at hSw); go_simp; try with_reducible rfl)
    try simp only [Act.put, List.setIfInBounds_toArray, List.set_cons_zero, List.set_cons_succ]
    refine AnyX.take (i := 1) (oi := _) (v := ?_) (by rw [List.getElem?_toArray]; rfl) (by kernel_rfl) (by kernel_rfl) (by kernel_rfl) (by kernel_rfl) (by kernel_rfl) (by exact fun _ _ _ h => h) (Or.inl ⟨by rfl, ?_⟩) hS ?_
    rotate_left
    · (intro wS hSw; (try dsimp only at hSw); go_simp; try with_reducible rfl)
    try simp only [Act.put, List.setIfInBounds_toArray, List.set_cons_zero, List.set_cons_succ]
    refine AnyX.take (i := 2) (oi := _) (v := ?_) (by rw [List.getElem?_toArray]; rfl) (by kernel_rfl) (by kernel_rfl) (by kernel_rfl) (by kernel_rfl) (by kernel_rfl) (by exact fun _ _ _ h => h) (Or.inl ⟨by rfl, ?_⟩) hS ?_
    rotate_left
    · (intro wS hSw; (try dsimp only at hSw); go_simp; try with_reducible rfl)
    try simp only [Act.put, List.setIfInBounds_toArray, List.set_cons_zero, List.set_cons_succ]
    refine AnyX.take (i := 3) (oi := _) (v := ?_) (by rw [List.getElem?_toArray]; rfl) (by kernel_rfl) (by kernel_rfl) (by kernel_rfl) (by kernel_rfl) (by kernel_rfl) (by exact fun _ _ _ h => h) (Or.inl ⟨by rfl, ?_⟩) hS ?_
    rotate_left
    · (intro wS hSw; (try dsimp only at hSw); go_simp; try with_reducible rfl)
    try simp only [Act.put, List.setIfInBounds_toArray, List.set_cons_zero, List.set_cons_succ]
    refine AnyX.take (i := 4) (oi := _) (v := ?_) (by rw [List.getElem?_toArray]; rfl) (by kernel_rfl) (by kernel_rfl) (by kernel_rfl) (by kernel_rfl) (by kernel_rfl) (by exact fun _ _ _ h => h) (Or.inl ⟨by rfl, ?_⟩) hS ?_
    rotate_left
    · (intro wS hSw; (try dsimp only at hSw); go_simp; try with_reducible rfl)
    try simp only [Act.put, List.setIfInBounds_toArray, List.set_cons_zero, List.set_cons_succ]
    refine AnyX.take (i := 5) (oi := _) (v := ?_) (by rw [List.getElem?_toArray]; rfl) (by kernel_rfl) (by kernel_rfl) (by kernel_rfl) (by kernel_rfl) (by kernel_rfl) (by exact fun _ _ _ h => h) (Or.inl ⟨by rfl, ?_⟩) hS ?_
    rotate_left
    · (intro wS hSw; (try dsimp only at hSw); go_simp; try with_reducible rfl)
    try simp only [Act.put, List.setIfInBounds_toArray, List.set_cons_zero, List.set_cons_succ]
    refine AnyX.take (i := 6) (oi := _) (v := ?_) (by rw [List.getElem?_toArray]; rfl) (by kernel_rfl) (by kernel_rfl) (by kernel_rfl) (by kernel_rfl) (by kernel_rfl) (by exact fun _ _ _ h => h) (Or.inl ⟨by rfl, ?_⟩) hS ?_
    rotate_left
    · (intro wS hSw; (try dsimp only at hSw); go_simp; try with_reducible rfl)
    try simp only [Act.put, List.setIfInBounds_toArray, List.set_cons_zero, List.set_cons_succ]
    refine AnyX.take (i := 7) (oi := _) (v := ?_) (by rw [List.getElem?_toArray]; rfl) (by kernel_rfl) (by kernel_rfl) (by kernel_rfl) (by kernel_rfl) (by kernel_rfl) (by exact fun _ _ _ h => h) (Or.inl ⟨by rfl, ?_⟩) hS ?_
    rotate_left
    · (intro wS hSw; (try dsimp only at hSw); go_simp; try with_reducible rfl)
    try simp only [Act.put, List.setIfInBounds_toArray, List.set_cons_zero, List.set_cons_succ]
    refine AnyX.take (i := 8) (oi := _) (v := ?_) (by rw [List.getElem?_toArray]; rfl) (by kernel_rfl) (by kernel_rfl) (by kernel_rfl) (by kernel_rfl) (by kernel_rfl) (by exact fun _ _ _ h => h) (Or.inl ⟨by rfl, ?_⟩) hS ?_
    rotate_left
    · (intro wS hSw; (try dsimp only at hSw); go_simp; try with_reducible rfl)
    try simp only [Act.put, List.setIfInBounds_toArray, List.set_cons_zero, List.set_cons_succ]
    refine AnyX.take (i := 9) (oi := _) (v := ?_) (by rw [List.getElem?_toArray]; rfl) (by kernel_rfl) (by kernel_rfl) (by kernel_rfl) (by kernel_rfl) (by kernel_rfl) (by exact fun _ _ _ h => h) (Or.inl ⟨by rfl, ?_⟩) hS ?_
    rotate_left
    · (intro wS hSw; (try dsimp only at hSw); go_simp; try with_reducible rfl)
    try simp only [Act.put, List.setIfInBounds_toArray, List.set_cons_zero, List.set_cons_succ]
    refine AnyX.done (by kernel_rfl) ?_ _
    (try clear hS)
    refine hK0 _ _ ?_
    clear hK0 K0
    have n_K2 := n_K.trans (Keep.ofBelow hB)
    obtain ⟨q, hq, hq2⟩ : ∃ q : Nat, bits BinOp.and IntKind.u64 (sd / 1099511627776) 255 = (q : Int) ∧ q ≤ 255 := by
      refine ⟨(sd / 1099511627776).toNat &&& 255, ?_, Nat.and_le_right⟩
      rw [← bits_and_u64_nat _ _ (by omega) (by omega)]
      congr 1; omega
    have c_R := R.cells; have f_R := R.frozens
    go_wp2_with fail
    refine bodyPost_ret (v := .int .i64 (q : Int)) ?_ rfl ?_
    · simp [results, Tryd.results196, go_sem, hq]
    · exact ⟨q, rfl, hq2, ⟨k + 1, sd, R, S, hF, by omega, hs0, hs1⟩, n_K2⟩
def PPick (B g : Nat) (F : CuF) (n : Int) (w : World) (e : Ending) (w' : World) : Prop := ∃ r : Nat, e = .returned (.int .i64 r) ∧ (r = 0 ∨ (r : Int) < n) ∧ Cur (B + 2) w' g F ∧ Keep [g] w w'
set_option maxHeartbeats 1600000 in
set_option maxRecDepth 100000 in
theorem pick_c (B g : Nat) (F : CuF) (n : Int) (w : World) (h : Cur B w g F) (hB0 : B ≤ 1099511627774) (hn : n ≤ 1048576) :
    Calls Tryd.prog 152 #[.pointer (some ⟨g, 0, none⟩), .int .i64 n] w (PPick B g F n w) := by
  have hN1 := next_c B g F w h (by omega)
  have hN2 := fun w h => next_c (B + 1) g F w h (by omega)
  replace hN1 := Lib.hid hN1; replace hN2 := Lib.hid hN2
  by_cases h1 : n ≤ 1
  · go_enter Tryd.func152, Tryd.ntmps152
    go_wp2_with fail
    refine bodyPost_ret (v := .int .i64 0) ?_ rfl ⟨0, rfl, .inl rfl, h.mono (by omega), Keep.refl _ _⟩
    simp [results, Tryd.results152, go_sem]
  · by_cases h2 : n ≤ 200
    · go_enter Tryd.func152, Tryd.ntmps152
      go_wp2_with fail
      refine hN1.out.mono ?_
      rintro e w1 ⟨r, rfl, hr, hc, hk⟩
      have hm0 : 0 ≤ (r : Int) % n := Int.emod_nonneg _ (by omega)
      have hm1 : (r : Int) % n < n := Int.emod_lt_of_pos _ (by omega)
      go_wp2_with fail
      refine bodyPost_ret (v := .int .i64 ((r : Int) % n)) ?_ rfl ⟨((r : Int) % n).toNat, by rw [Int.toNat_of_nonneg hm0], .inr (by omega), hc.mono (by omega), hk⟩
      simp [results, Tryd.results152, go_sem]
    · go_enter Tryd.func152, Tryd.ntmps152
      go_wp2_with fail
      refine hN1.out.mono ?_
      rintro e w1 ⟨r, rfl, hr, hc, hk⟩
      go_wp2_with fail
      refine (hN2.out _ hc).mono ?_
      rintro e w2 ⟨r2, rfl, hr2, hc2, hk2⟩
      have hm0 : 0 ≤ ((r : Int) * 256 + r2) % n := Int.emod_nonneg _ (by omega)
      have hm1 : ((r : Int) * 256 + r2) % n < n := Int.emod_lt_of_pos _ (by omega)
      go_wp2_with fail
      refine bodyPost_ret (v := .int .i64 (((r : Int) * 256 + r2) % n)) ?_ rfl ⟨(((r : Int) * 256 + r2) % n).toNat, by rw [Int.toNat_of_nonneg hm0], .inr (by omega), hc2, hk.trans hk2⟩
      simp [results, Tryd.results152, go_sem]
def POne (B g : Nat) (F : CuF) (w : World) (e : Ending) (w' : World) : Prop := ∃ b : Bool, e = .returned (.bool b) ∧ Cur (B + 2) w' g F ∧ Keep [g] w w'
theorem one_c (B g : Nat) (F : CuF) (n : Int) (w : World) (h : Cur B w g F) (hB0 : B ≤ 1099511627774) (hn : n ≤ 1048576) :
    Calls Tryd.prog 115 #[.pointer (some ⟨g, 0, none⟩), .int .i64 n] w (POne B g F w) := by
  have hN1 := Lib.hid (pick_c B g F n w h hB0 hn)
  go_enter Tryd.func115, Tryd.ntmps115
  go_wp2_with fail
  refine hN1.out.mono ?_
  rintro e w1 ⟨r, rfl, hr, hc, hk⟩
  go_wp2_with fail
  refine bodyPost_ret (v := .bool ((r : Int) == 0)) ?_ rfl ⟨_, rfl, hc, hk⟩
  simp [results, Tryd.results115, go_sem]
def POf (B g : Nat) (F : CuF) (xs : List ByteArray) (w : World) (e : Ending) (w' : World) : Prop := ∃ s ∈ xs, e = .returned (.string s) ∧ Cur (B + 2) w' g F ∧ Keep [g] w w'
theorem of_c (B g : Nat) (F : CuF) (v : Value) (xs : List ByteArray) (K : List Nat) (w : World) (h : Cur B w g F) (hB0 : B ≤ 1099511627774) (hx : Sl EStr w v xs K) (h0 : 0 < xs.length) (h1 : xs.length ≤ 1048576) (hg : g ∉ K) :
    Calls Tryd.prog 94 #[.pointer (some ⟨g, 0, none⟩), v] w (POf B g F xs w) := by
  obtain ⟨a, c, rfl⟩ := hx.slice
  have hN1 := Lib.hid (pick_c B g F xs.length w h hB0 (by omega))
  go_enter Tryd.func94, Tryd.ntmps94
  go_wp2_with fail
  refine hN1.out.mono ?_
  rintro e w1 ⟨r, rfl, hr, hc, hk⟩
  have hr2 : r < xs.length := by omega
  obtain ⟨hsz, b, off, rfl, hcell⟩ := (hx.keep hk (fun b hb e => hg (by simp at e; rw [← e]; exact hb)) (by decide)).str.2.2 r hr2
  clear hr
  have hm := List.getElem_mem hr2
  generalize xs[r] = s at *
  go_wp2_with fail
  refine bodyPost_ret (v := .string s) ?_ rfl ⟨s, hm, rfl, hc, hk⟩
  simp [results, Tryd.results94, go_sem]
def PAmong (B g : Nat) (F : CuF) (xs : List Int) (w : World) (e : Ending) (w' : World) : Prop := ∃ s ∈ xs, e = .returned (.int .i64 s) ∧ Cur (B + 2) w' g F ∧ Keep [g] w w'
theorem among_c (B g : Nat) (F : CuF) (v : Value) (xs : List Int) (K : List Nat) (w : World) (h : Cur B w g F) (hB0 : B ≤ 1099511627774) (hx : Sl EInt w v xs K) (h0 : 0 < xs.length) (h1 : xs.length ≤ 1048576) (hg : g ∉ K) :
    Calls Tryd.prog 119 #[.pointer (some ⟨g, 0, none⟩), v] w (PAmong B g F xs w) := by
  obtain ⟨a, c, rfl⟩ := hx.slice
  have hN1 := Lib.hid (pick_c B g F xs.length w h hB0 (by omega))
  go_enter Tryd.func119, Tryd.ntmps119
  go_wp2_with fail
  refine hN1.out.mono ?_
  rintro e w1 ⟨r, rfl, hr, hc, hk⟩
  have hr2 : r < xs.length := by omega
  obtain ⟨b, off, rfl, hcell⟩ := (hx.keep hk (fun b hb e => hg (by simp at e; rw [← e]; exact hb)) (by decide)).int.2.2 r hr2
  clear hr
  have hm := List.getElem_mem hr2
  generalize xs[r] = s at *
  go_wp2_with fail
  refine bodyPost_ret (v := .int .i64 s) ?_ rfl ⟨s, hm, rfl, hc, hk⟩
  simp [results, Tryd.results119, go_sem]
end Go.Proofs.YtidephmobajikaaDoor
/- Draws, for the engine: the cursor. -/
namespace Go.Proofs.YtidephmobajikaaDoor
open Go.RowKit
structure CuS where
  k : Nat
  seed : Int
structure CuOk (B : Nat) (s : CuS) : Prop where
  k : s.k ≤ B
  s0 : 0 ≤ s.seed
  s1 : s.seed < 18446744073709551616
theorem CuOk.mono {B B' : Nat} {s : CuS} (h : CuOk B s) (hb : B ≤ B') : CuOk B' s := ⟨Nat.le_trans h.k hb, h.s0, h.s1⟩
theorem cu_fn {f : FuncId} {args : List Value} {σ : Type} {C : σ → Prop} {v : σ → Value} {B B' g : Nat} {F : CuF} {s : CuS} {X : List Pc} (hX : X.all (fun p => !p.mu) = true) (ok : CuOk B s)
    (h : ∀ w, Cur B w g F → Hol X w → (∀ p ∈ X, g ∉ p.F) → Calls Tryd.prog f args.toArray w fun e w' => ∃ r, C r ∧ e = .returned (v r) ∧ Cur B' w' g F ∧ Keep [g] w w') :
    Fn Tryd.prog f args (.sl EByte (.slice F.a F.code.length F.c) F.code F.bs :: X) [.row g 121 0 [] [.slice F.a F.code.length F.c, .int .i64 (s.k : Nat), .int .u64 s.seed] []] (fun (z : σ × CuS) => C z.1 ∧ CuOk B' z.2) (fun z => v z.1) (fun z => [.row g 121 0 [] [.slice F.a F.code.length F.c, .int .i64 (z.2.k : Nat), .int .u64 z.2.seed] []]) := fun w hH hS => by
  have h1 := hH (.row g 121 0 [] [.slice F.a F.code.length F.c, .int .i64 (s.k : Nat), .int .u64 s.seed] []) (by simp)
  have h2 := hH (.sl EByte (.slice F.a F.code.length F.c) F.code F.bs) (by simp)
  have ap := hS.1
  have hg : g ∉ F.bs := fun hm => ap (.sl EByte (.slice F.a F.code.length F.c) F.code F.bs) (by simp) (by simp [Pc.mu]) g (by simp [Pc.F]) hm
  refine (h w ⟨s.k, s.seed, by simpa using h1.2, h2.2, hg, ok.k, ok.s0, ok.s1⟩ (fun p hp => hH p (by simp [hp])) (fun p hp hm => ap p (by simp [hp]) (by simp [Pc.mu]) g (by simp [Pc.F]) hm)).mono ?_
  rintro e w' ⟨r, hC, he, ⟨k, seed, R, S, -, hk, h0, h3⟩, hK⟩
  refine ⟨(r, ⟨k, seed⟩), ⟨hC, hk, h0, h3⟩, he, hol1 ⟨rfl, by simpa using R⟩, ⟨by simp, trivial⟩, hK.mono (fun b hb _ => by simpa [fp, Pc.F] using hb), fun p hp b hb => ?_⟩
  simp at hp
  subst hp
  exact .inr (.inl ⟨_, List.mem_cons_self .., by simpa [Pc.F] using hb⟩)
theorem pick_f (B g : Nat) (F : CuF) (n : Int) (s : CuS) (ok : CuOk B s) (hB : B ≤ 1000000000000) (hn : n ≤ 1048576) :
    Fn Tryd.prog 152 [ptr g 0 0, .int .i64 n] [.sl EByte (.slice F.a F.code.length F.c) F.code F.bs] [.row g 121 0 [] [.slice F.a F.code.length F.c, .int .i64 (s.k : Nat), .int .u64 s.seed] []] (fun (z : Nat × CuS) => (z.1 = 0 ∨ (z.1 : Int) < n) ∧ CuOk (B + 2) z.2) (fun z => .int .i64 (z.1 : Nat)) (fun z => [.row g 121 0 [] [.slice F.a F.code.length F.c, .int .i64 (z.2.k : Nat), .int .u64 z.2.seed] []]) :=
  cu_fn (C := fun r : Nat => r = 0 ∨ (r : Int) < n) (v := fun r => .int .i64 (r : Nat)) (X := []) rfl ok fun w h _ _ => (pick_c B g F n w h (by omega) hn).mono fun _ _ ⟨r, he, h1, h2, h3⟩ => ⟨r, h1, he, h2, h3⟩
theorem one_f (B g : Nat) (F : CuF) (n : Int) (s : CuS) (ok : CuOk B s) (hB : B ≤ 1000000000000) (hn : n ≤ 1048576) :
    Fn Tryd.prog 115 [ptr g 0 0, .int .i64 n] [.sl EByte (.slice F.a F.code.length F.c) F.code F.bs] [.row g 121 0 [] [.slice F.a F.code.length F.c, .int .i64 (s.k : Nat), .int .u64 s.seed] []] (fun (z : Bool × CuS) => True ∧ CuOk (B + 2) z.2) (fun z => .bool z.1) (fun z => [.row g 121 0 [] [.slice F.a F.code.length F.c, .int .i64 (z.2.k : Nat), .int .u64 z.2.seed] []]) :=
  cu_fn (C := fun _ : Bool => True) (v := fun r => .bool r) (X := []) rfl ok fun w h _ _ => (one_c B g F n w h (by omega) hn).mono fun _ _ ⟨r, he, h2, h3⟩ => ⟨r, trivial, he, h2, h3⟩
theorem of_f (B g : Nat) (F : CuF) (v : Value) (xs : List ByteArray) (G : List Nat) (s : CuS) (ok : CuOk B s) (hB : B ≤ 1000000000000) (h0 : 0 < xs.length) (h1 : xs.length ≤ 1048576) :
    Fn Tryd.prog 94 [ptr g 0 0, v] [.sl EByte (.slice F.a F.code.length F.c) F.code F.bs, .sl EStr v xs G] [.row g 121 0 [] [.slice F.a F.code.length F.c, .int .i64 (s.k : Nat), .int .u64 s.seed] []] (fun (z : ByteArray × CuS) => z.1 ∈ xs ∧ CuOk (B + 2) z.2) (fun z => .string z.1) (fun z => [.row g 121 0 [] [.slice F.a F.code.length F.c, .int .i64 (z.2.k : Nat), .int .u64 z.2.seed] []]) :=
  cu_fn (C := fun r : ByteArray => r ∈ xs) (v := fun r => .string r) (X := [.sl EStr v xs G]) rfl ok fun w h hX hg => (of_c B g F v xs G w h (by omega) (hX (.sl EStr v xs G) (by simp)).2 h0 h1 (hg (.sl EStr v xs G) (by simp))).mono fun _ _ ⟨r, h1, he, h2, h3⟩ => ⟨r, h1, he, h2, h3⟩
theorem among_f (B g : Nat) (F : CuF) (v : Value) (xs : List Int) (G : List Nat) (s : CuS) (ok : CuOk B s) (hB : B ≤ 1000000000000) (h0 : 0 < xs.length) (h1 : xs.length ≤ 1048576) :
    Fn Tryd.prog 119 [ptr g 0 0, v] [.sl EByte (.slice F.a F.code.length F.c) F.code F.bs, .sl EInt v xs G] [.row g 121 0 [] [.slice F.a F.code.length F.c, .int .i64 (s.k : Nat), .int .u64 s.seed] []] (fun (z : Int × CuS) => z.1 ∈ xs ∧ CuOk (B + 2) z.2) (fun z => .int .i64 z.1) (fun z => [.row g 121 0 [] [.slice F.a F.code.length F.c, .int .i64 (z.2.k : Nat), .int .u64 z.2.seed] []]) :=
  cu_fn (C := fun r : Int => r ∈ xs) (v := fun r => .int .i64 r) (X := [.sl EInt v xs G]) rfl ok fun w h hX hg => (among_c B g F v xs G w h (by omega) (hX (.sl EInt v xs G) (by simp)).2 h0 h1 (hg (.sl EInt v xs G) (by simp))).mono fun _ _ ⟨r, h1, he, h2, h3⟩ => ⟨r, h1, he, h2, h3⟩
end Go.Proofs.YtidephmobajikaaDoor
/- The type Slot of the exact laws: how it reads, how it is owned; the walks of its size, copy, equality, mark and held. Written by wip/gentypes.py. -/
namespace Go.Proofs.YtidephmobajikaaDoor
open Go.RowKit
structure Slot where
  hav : Bool
  item : ByteArray
end Go.Proofs.YtidephmobajikaaDoor
/- The type ReceiveWindow of the exact laws: how it reads, how it is owned; the walks of its size, copy, equality, mark and held. Written by wip/gentypes.py. -/
namespace Go.Proofs.YtidephmobajikaaDoor
open Go.RowKit
structure ReceiveWindow where
  next : Int
  slots : List Slot
end Go.Proofs.YtidephmobajikaaDoor
/- Structs of type ReceiveWindow in a walk's state: opened, closed. -/
namespace Go.Proofs.YtidephmobajikaaDoor
open Go.RowKit
section
variable {c : Cx} {fr : Fr} {H : List Pc} {Φ : Gl}
end
end Go.Proofs.YtidephmobajikaaDoor
/- Structs of type Slot in a walk's state: opened, closed. -/
namespace Go.Proofs.YtidephmobajikaaDoor
open Go.RowKit
section
variable {c : Cx} {fr : Fr} {H : List Pc} {Φ : Gl}
end
end Go.Proofs.YtidephmobajikaaDoor
/- Walks: items: texts of at most eight small letters. -/
namespace Go.Proofs.YtidephmobajikaaDoor
open Go.RowKit Go.Shelf

end Go.Proofs.YtidephmobajikaaDoor
/- Walks of Go's generic library functions on slices of impl.Slot. Written by wip/genlib.py. -/
namespace Go.Proofs.YtidephmobajikaaDoor
open Go.RowKit
end Go.Proofs.YtidephmobajikaaDoor
/- Receive windows: the check, what is there. -/
namespace Go.Proofs.YtidephmobajikaaDoor
open Go.RowKit
end Go.Proofs.YtidephmobajikaaDoor
/- Receive windows: the reference's check. -/
namespace Go.Proofs.YtidephmobajikaaDoor
open Go.RowKit
end Go.Proofs.YtidephmobajikaaDoor
/- Receive windows: what is released, what is taken. Plain lists. -/
namespace Go.Proofs.YtidephmobajikaaDoor
open Go.RowKit
def plus (s : ByteArray) : ByteArray := ⟨#[43]⟩ ++ s
def minus : ByteArray := ⟨#[45]⟩
def shiftEv (l : List Slot) : ByteArray := match l with | [] => minus | s :: _ => if s.hav then plus s.item else minus
def rel : Int → List Slot → Int × List Slot × List ByteArray
  | n, [] => (n, [], [])
  | n, s :: r => if s.hav then ((rel (aft n 1) r).1, (rel (aft n 1) r).2.1, plus s.item :: (rel (aft n 1) r).2.2) else (n, s :: r, [])
end Go.Proofs.YtidephmobajikaaDoor
/- Receive windows: the copy, a step, what is released. -/
namespace Go.Proofs.YtidephmobajikaaDoor
open Go.RowKit
end Go.Proofs.YtidephmobajikaaDoor
/- Receive windows: what is released. -/
namespace Go.Proofs.YtidephmobajikaaDoor
open Go.RowKit
def relW (x : ReceiveWindow) : ReceiveWindow := ⟨(rel x.next x.slots).1, (rel x.next x.slots).2.1⟩
def relE (x : ReceiveWindow) : List ByteArray := (rel x.next x.slots).2.2
def shW (x : ReceiveWindow) : ReceiveWindow := ⟨aft x.next 1, x.slots.drop 1⟩
/-- events so far, the window, where both lie -/
structure RelS where
  es : List ByteArray
  y : ReceiveWindow
  a : Option Addr
  c : Nat
  F : List Nat
  ae : Option Addr
  ce : Nat
  Fe : List Nat
structure RelOk (x : ReceiveWindow) (s : RelS) : Prop where
  n0 : 0 ≤ s.y.next
  n1 : s.y.next ≤ 65535
  it : ∀ z ∈ s.y.slots, z.item.size ≤ 8
  ln : s.es.length + s.y.slots.length ≤ x.slots.length
  w : relW x = relW s.y
  e : relE x = s.es ++ relE s.y
end Go.Proofs.YtidephmobajikaaDoor
/- Receive windows: what is taken, what is given up: in place. -/
namespace Go.Proofs.YtidephmobajikaaDoor
open Go.RowKit
def stepsN (a b : Int) : Nat := if bef a b then (gp a b).toNat else 0
def giveW : Nat → ReceiveWindow → ReceiveWindow
  | 0, y => y
  | k + 1, y => giveW k (shW y)
def giveE : Nat → ReceiveWindow → List ByteArray
  | 0, _ => []
  | k + 1, y => shiftEv y.slots :: giveE k (shW y)
structure PadS where
  j : Nat
  a : Option Addr
  c : Nat
  F : List Nat
structure GiveOk (x : ReceiveWindow) (n : Int) (s : RelS) : Prop where
  n0 : 0 ≤ s.y.next
  n1 : s.y.next ≤ 65535
  it : ∀ z ∈ s.y.slots, z.item.size ≤ 8
  ln : s.y.slots.length ≤ x.slots.length
  le : s.es.length + stepsN s.y.next n ≤ stepsN x.next n
  w : giveW (stepsN x.next n) x = giveW (stepsN s.y.next n) s.y
  e : giveE (stepsN x.next n) x = s.es ++ giveE (stepsN s.y.next n) s.y
end Go.Proofs.YtidephmobajikaaDoor
/- Receive windows: TakeItem and GiveUpTo of the program. -/
namespace Go.Proofs.YtidephmobajikaaDoor
open Go.RowKit
structure GoodRW (x : ReceiveWindow) : Prop where
  n0 : 0 ≤ x.next
  n1 : x.next ≤ 65535
  l : x.slots.length ≤ 8
  it : ∀ s ∈ x.slots, s.item.size ≤ 8
end Go.Proofs.YtidephmobajikaaDoor
/- Receive windows: the reference's. -/
namespace Go.Proofs.YtidephmobajikaaDoor
open Go.RowKit
structure CpS where
  g : Nat
  a : Option Addr
  c : Nat
  F : List Nat
end Go.Proofs.YtidephmobajikaaDoor
/- Receive windows: the reference's taking and giving up. -/
namespace Go.Proofs.YtidephmobajikaaDoor
open Go.RowKit
end Go.Proofs.YtidephmobajikaaDoor
/- Receive windows: the reference's GiveUpTo and TakeItem; the contracts that the laws ask. -/
namespace Go.Proofs.YtidephmobajikaaDoor
open Go.RowKit
end Go.Proofs.YtidephmobajikaaDoor
/- Receive windows: GiveUpTo and TakeItem of the reference; the contracts that the laws ask. -/
namespace Go.Proofs.YtidephmobajikaaDoor
open Go.RowKit
end Go.Proofs.YtidephmobajikaaDoor
/- Receive windows: what is counted, what is there, what is seen; serials. -/
namespace Go.Proofs.YtidephmobajikaaDoor
open Go.RowKit
end Go.Proofs.YtidephmobajikaaDoor
/- Draws, for the engine: serials, letters. -/
namespace Go.Proofs.YtidephmobajikaaDoor
open Go.RowKit
theorem flat_int (w : World) : ∀ xs : List Int, Flat EInt w (xs.map (Value.int .i64)) xs []
  | [] => ⟨rfl, rfl⟩
  | x :: r => ⟨[.int .i64 x], r.map (Value.int .i64), [], [], rfl, rfl, ⟨rfl, rfl⟩, flat_int w r⟩
theorem flat_s (w : World) : ∀ xs : List ByteArray, (∀ x ∈ xs, x.size ≤ maxLen) → Flat EStr w (xs.map Value.string) xs []
  | [], _ => ⟨rfl, rfl⟩
  | x :: r, h => ⟨[.string x], r.map Value.string, [], [], rfl, rfl, ⟨rfl, h x (by simp), rfl⟩, flat_s w r fun y hy => h y (by simp [hy])⟩
structure LeS where
  r : Nat
  t : ByteArray
  s : CuS
structure LeOk (B r0 : Nat) (z : LeS) : Prop where
  r : z.r ≤ r0
  s : CuOk (B + 2 + 2 * (r0 - z.r)) z.s
  t : z.t.size ≤ r0 - z.r
end Go.Proofs.YtidephmobajikaaDoor
/- Draws, for the engine: links. -/
namespace Go.Proofs.YtidephmobajikaaDoor
open Go.RowKit
structure LnS where
  y : Link
  a : Option Addr
  c : Nat
  F : List Nat
  s : CuS
structure LnL where
  y : Link
  i : Nat
  a : Option Addr
  c : Nat
  F : List Nat
  s : CuS
structure LnOk (B r0 : Nat) (z : LnL) : Prop where
  f : z.y.fates.size ≤ 41
  l : z.y.queue.length + z.i = r0
  s : CuOk (B + 110 + 4 * z.y.queue.length) z.s
structure LnC (z : LnS) : Prop where
  q : z.y.queue.length ≤ 9
  f : z.y.fates.size ≤ 100
structure FtS where
  r : Nat
  t : ByteArray
  s : CuS
structure FtOk (B n : Nat) (z : FtS) : Prop where
  r : z.r ≤ n
  s : CuOk (B + 2 * (n - z.r)) z.s
  t : z.t.size ≤ n - z.r
set_option maxRecDepth 100000 in
theorem fates_f (B g : Nat) (F : CuF) (s : CuS) (n : Nat) (ok : CuOk B s) (hB : B ≤ 900000000000) (hn : n ≤ 41) :
    Fn Tryd.prog 186 [ptr g 0 0, .int .i64 (n : Nat)] [.sl EByte (.slice F.a F.code.length F.c) F.code F.bs] [.row g 121 0 [] [.slice F.a F.code.length F.c, .int .i64 (s.k : Nat), .int .u64 s.seed] []] (fun (z : ByteArray × CuS) => z.1.size ≤ 41 ∧ CuOk (B + 82) z.2) (fun z => .string z.1) (fun z => [.row g 121 0 [] [.slice F.a F.code.length F.c, .int .i64 (z.2.k : Nat), .int .u64 z.2.seed] []]) := by
  refine enter Tryd.func186 rfl Tryd.ntmps186 fun w0 => ?_
  repeat (first | apply c_seq | apply c_reg | (apply wO; apply oc; rfl; exact ydE) | apply w_nil | apply n_cd | (apply wg_t; rfl; rfl) | (apply wg_f; rfl; rfl; rfl; rfl) | (apply wg_u; rfl; rfl; rfl) | (apply c_t; rfl) | (apply c_f; rfl) | apply c_skip | apply c_block | apply n_blk | apply c_exit | apply e_hit | apply e_cd | apply e_lp | (apply e_miss; rfl) | apply c_ret | (apply wO; apply o_box; rfl; rfl; rfl; intro _) | (apply wO; apply o_alloc; rfl; intro _) | (apply wO; apply o_st; rfl; rfl; rfl; (first | exact AggC.s | exact OneC.s); rfl; exact rplE; exact putE; rfl) | (apply wO; apply o_bs0; rfl; intro _) | (apply wO; apply o_bs; rfl; rfl; rfl; rfl; exact rptE; exact filE; intro _) | (apply wO; apply o_call; rfl; kernel_rfl; exact evsE))
  refine c_loopS [0, 4] (fun z : FtS => [(1, .int .i64 (z.r : Nat)), (5, .string z.t)]) (fun z => [.row g 121 0 [] [.slice F.a F.code.length F.c, .int .i64 (z.s.k : Nat), .int .u64 z.s.seed] []]) (FtOk B n) (fun z => z.r) ⟨n, ⟨#[]⟩, s⟩ ⟨Nat.le_refl _, by simpa using ok, Nat.zero_le _⟩ fun z hz => ?_
  obtain ⟨z1, z2, z3⟩ := hz
  repeat (first | apply c_seq | apply c_reg | (apply wO; apply oc; rfl; exact ydE) | apply w_nil | apply n_cd | (apply wg_t; rfl; rfl) | (apply wg_f; rfl; rfl; rfl; rfl) | (apply wg_u; rfl; rfl; rfl) | (apply c_t; rfl) | (apply c_f; rfl) | apply c_skip | apply c_block | apply n_blk | apply c_exit | apply e_hit | apply e_cd | apply e_lp | (apply e_miss; rfl) | apply c_ret | (apply wO; apply o_box; rfl; rfl; rfl; intro _) | (apply wO; apply o_alloc; rfl; intro _) | (apply wO; apply o_st; rfl; rfl; rfl; (first | exact AggC.s | exact OneC.s); rfl; exact rplE; exact putE; rfl) | (apply wO; apply o_bs0; rfl; intro _) | (apply wO; apply o_bs; rfl; rfl; rfl; rfl; exact rptE; exact filE; intro _) | (apply wO; apply o_call; rfl; kernel_rfl; exact evsE))
  refine c_if rfl (fun h3 => ?_) (fun h3 => ?_)
  · repeat (first | apply c_seq | apply c_reg | (apply wO; apply oc; rfl; exact ydE) | apply w_nil | apply n_cd | (apply wg_t; rfl; rfl) | (apply wg_f; rfl; rfl; rfl; rfl) | (apply wg_u; rfl; rfl; rfl) | (apply c_t; rfl) | (apply c_f; rfl) | apply c_skip | apply c_block | apply n_blk | apply c_exit | apply e_hit | apply e_cd | apply e_lp | (apply e_miss; rfl) | apply c_ret | (apply wO; apply o_box; rfl; rfl; rfl; intro _) | (apply wO; apply o_alloc; rfl; intro _) | (apply wO; apply o_st; rfl; rfl; rfl; (first | exact AggC.s | exact OneC.s); rfl; exact rplE; exact putE; rfl) | (apply wO; apply o_bs0; rfl; intro _) | (apply wO; apply o_bs; rfl; rfl; rfl; rfl; exact rptE; exact filE; intro _))
    refine t_row (xs := [⟨#[107]⟩, ⟨#[107]⟩, ⟨#[108]⟩, ⟨#[100]⟩, ⟨#[115]⟩]) (fun w => flat_s w _ (by decide)) ?_ (by decide)
    refine t_read (E := EStr) fun G => ?_
    repeat (first | apply c_seq | apply c_reg | (apply wO; apply oc; rfl; exact ydE) | apply w_nil | apply n_cd | (apply wg_t; rfl; rfl) | (apply wg_f; rfl; rfl; rfl; rfl) | (apply wg_u; rfl; rfl; rfl) | (apply c_t; rfl) | (apply c_f; rfl) | apply c_skip | apply c_block | apply n_blk | apply c_exit | apply e_hit | apply e_cd | apply e_lp | (apply e_miss; rfl) | apply c_ret | (apply wO; apply o_box; rfl; rfl; rfl; intro _) | (apply wO; apply o_alloc; rfl; intro _) | (apply wO; apply o_st; rfl; rfl; rfl; (first | exact AggC.s | exact OneC.s); rfl; exact rplE; exact putE; rfl) | (apply wO; apply o_bs0; rfl; intro _) | (apply wO; apply o_bs; rfl; rfl; rfl; rfl; exact rptE; exact filE; intro _) | (apply wO; apply o_call; rfl; kernel_rfl; exact evsE))
    refine cf (of_f _ g F _ [⟨#[107]⟩, ⟨#[107]⟩, ⟨#[108]⟩, ⟨#[100]⟩, ⟨#[115]⟩] G z.s z2 (by omega) (by decide) (by decide)) fun q hq => ?_
    refine t_app ?_
    have hq1 : q.1.size = 1 := by
      have := hq.1
      simp only [List.mem_cons, List.not_mem_nil, or_false] at this
      rcases this with e | e | e | e | e <;> rw [e] <;> rfl
    repeat (first | apply c_seq | apply c_reg | (apply wO; apply oc; rfl; exact ydE) | apply w_nil | apply n_cd | (apply wg_t; rfl; rfl) | (apply wg_f; rfl; rfl; rfl; rfl) | (apply wg_u; rfl; rfl; rfl) | (apply c_t; rfl) | (apply c_f; rfl) | apply c_skip | apply c_block | apply n_blk | apply c_exit | apply e_hit | apply e_cd | apply e_lp | (apply e_miss; rfl) | apply c_ret | (apply wO; apply o_box; rfl; rfl; rfl; intro _) | (apply wO; apply o_alloc; rfl; intro _) | (apply wO; apply o_st; rfl; rfl; rfl; (first | exact AggC.s | exact OneC.s); rfl; exact rplE; exact putE; rfl) | (apply wO; apply o_bs0; rfl; intro _) | (apply wO; apply o_bs; rfl; rfl; rfl; rfl; exact rptE; exact filE; intro _) | (apply wO; apply o_call; rfl; kernel_rfl; exact evsE))
    rw [show ((z.r : Nat) : Int) - 1 = ((z.r - 1 : Nat) : Int) by omega]
    refine n_lp ⟨z.r - 1, z.t ++ q.1, q.2⟩ ⟨by show z.r - 1 ≤ n; omega, hq.2.mono (by show _ ≤ B + 2 * (n - (z.r - 1)); omega), by show (z.t ++ q.1).size ≤ n - (z.r - 1); rw [ByteArray.size_append]; omega⟩ (by show z.r - 1 < _; omega)
  · repeat (first | apply c_seq | apply c_reg | (apply wO; apply oc; rfl; exact ydE) | apply w_nil | apply n_cd | (apply wg_t; rfl; rfl) | (apply wg_f; rfl; rfl; rfl; rfl) | (apply wg_u; rfl; rfl; rfl) | (apply c_t; rfl) | (apply c_f; rfl) | apply c_skip | apply c_block | apply n_blk | apply c_exit | apply e_hit | apply e_cd | apply e_lp | (apply e_miss; rfl) | apply c_ret | (apply wO; apply o_box; rfl; rfl; rfl; intro _) | (apply wO; apply o_alloc; rfl; intro _) | (apply wO; apply o_st; rfl; rfl; rfl; (first | exact AggC.s | exact OneC.s); rfl; exact rplE; exact putE; rfl) | (apply wO; apply o_bs0; rfl; intro _) | (apply wO; apply o_bs; rfl; rfl; rfl; rfl; exact rptE; exact filE; intro _) | (apply wO; apply o_call; rfl; kernel_rfl; exact evsE))
    refine ret (z.t, z.s) ⟨by show z.t.size ≤ 41; omega, z2.mono (by omega)⟩ rfl
set_option maxRecDepth 100000 in
theorem shortText_f (B g : Nat) (F : CuF) (s : CuS) (ok : CuOk B s) (hB : B ≤ 900000000000) :
    Fn Tryd.prog 139 [ptr g 0 0] [.sl EByte (.slice F.a F.code.length F.c) F.code F.bs] [.row g 121 0 [] [.slice F.a F.code.length F.c, .int .i64 (s.k : Nat), .int .u64 s.seed] []] (fun (z : ByteArray × CuS) => z.1.size ≤ 100 ∧ CuOk (B + 4) z.2) (fun z => .string z.1) (fun z => [.row g 121 0 [] [.slice F.a F.code.length F.c, .int .i64 (z.2.k : Nat), .int .u64 z.2.seed] []]) := by
  refine enter Tryd.func139 rfl Tryd.ntmps139 fun w0 => ?_
  repeat (first | apply c_seq | apply c_reg | (apply wO; apply oc; rfl; exact ydE) | apply w_nil | apply n_cd | (apply wg_t; rfl; rfl) | (apply wg_f; rfl; rfl; rfl; rfl) | (apply wg_u; rfl; rfl; rfl) | (apply c_t; rfl) | (apply c_f; rfl) | apply c_skip | apply c_block | apply n_blk | apply c_exit | apply e_hit | apply e_cd | apply e_lp | (apply e_miss; rfl) | apply c_ret | (apply wO; apply o_box; rfl; rfl; rfl; intro _) | (apply wO; apply o_alloc; rfl; intro _) | (apply wO; apply o_st; rfl; rfl; rfl; (first | exact AggC.s | exact OneC.s); rfl; exact rplE; exact putE; rfl) | (apply wO; apply o_bs0; rfl; intro _) | (apply wO; apply o_bs; rfl; rfl; rfl; rfl; exact rptE; exact filE; intro _) | (apply wO; apply o_call; rfl; kernel_rfl; exact evsE))
  refine cf (one_f B g F 30 s ok (by omega) (by omega)) fun q hq => ?_
  refine t_app ?_
  obtain ⟨b, s1⟩ := q
  obtain ⟨-, hq⟩ := hq
  cases b
  · repeat (first | apply c_seq | apply c_reg | (apply wO; apply oc; rfl; exact ydE) | apply w_nil | apply n_cd | (apply wg_t; rfl; rfl) | (apply wg_f; rfl; rfl; rfl; rfl) | (apply wg_u; rfl; rfl; rfl) | (apply c_t; rfl) | (apply c_f; rfl) | apply c_skip | apply c_block | apply n_blk | apply c_exit | apply e_hit | apply e_cd | apply e_lp | (apply e_miss; rfl) | apply c_ret | (apply wO; apply o_box; rfl; rfl; rfl; intro _) | (apply wO; apply o_alloc; rfl; intro _) | (apply wO; apply o_st; rfl; rfl; rfl; (first | exact AggC.s | exact OneC.s); rfl; exact rplE; exact putE; rfl) | (apply wO; apply o_bs0; rfl; intro _) | (apply wO; apply o_bs; rfl; rfl; rfl; rfl; exact rptE; exact filE; intro _))
    refine t_row (xs := [⟨#[]⟩, ⟨#[97]⟩, ⟨#[98]⟩, ⟨#[99, 100]⟩, ⟨#[48, 49, 48, 50]⟩]) (fun w => flat_s w _ (by decide)) ?_ (by decide)
    refine t_read (E := EStr) fun G => ?_
    repeat (first | apply c_seq | apply c_reg | (apply wO; apply oc; rfl; exact ydE) | apply w_nil | apply n_cd | (apply wg_t; rfl; rfl) | (apply wg_f; rfl; rfl; rfl; rfl) | (apply wg_u; rfl; rfl; rfl) | (apply c_t; rfl) | (apply c_f; rfl) | apply c_skip | apply c_block | apply n_blk | apply c_exit | apply e_hit | apply e_cd | apply e_lp | (apply e_miss; rfl) | apply c_ret | (apply wO; apply o_box; rfl; rfl; rfl; intro _) | (apply wO; apply o_alloc; rfl; intro _) | (apply wO; apply o_st; rfl; rfl; rfl; (first | exact AggC.s | exact OneC.s); rfl; exact rplE; exact putE; rfl) | (apply wO; apply o_bs0; rfl; intro _) | (apply wO; apply o_bs; rfl; rfl; rfl; rfl; exact rptE; exact filE; intro _) | (apply wO; apply o_call; rfl; kernel_rfl; exact evsE))
    refine cf (of_f _ g F _ [⟨#[]⟩, ⟨#[97]⟩, ⟨#[98]⟩, ⟨#[99, 100]⟩, ⟨#[48, 49, 48, 50]⟩] G s1 hq (by omega) (by decide) (by decide)) fun q hq2 => ?_
    refine t_app ?_
    repeat (first | apply c_seq | apply c_reg | (apply wO; apply oc; rfl; exact ydE) | apply w_nil | apply n_cd | (apply wg_t; rfl; rfl) | (apply wg_f; rfl; rfl; rfl; rfl) | (apply wg_u; rfl; rfl; rfl) | (apply c_t; rfl) | (apply c_f; rfl) | apply c_skip | apply c_block | apply n_blk | apply c_exit | apply e_hit | apply e_cd | apply e_lp | (apply e_miss; rfl) | apply c_ret | (apply wO; apply o_box; rfl; rfl; rfl; intro _) | (apply wO; apply o_alloc; rfl; intro _) | (apply wO; apply o_st; rfl; rfl; rfl; (first | exact AggC.s | exact OneC.s); rfl; exact rplE; exact putE; rfl) | (apply wO; apply o_bs0; rfl; intro _) | (apply wO; apply o_bs; rfl; rfl; rfl; rfl; exact rptE; exact filE; intro _) | (apply wO; apply o_call; rfl; kernel_rfl; exact evsE))
    refine ret q ⟨by have := hq2.1; simp only [List.mem_cons, List.not_mem_nil, or_false] at this; rcases this with e | e | e | e | e <;> rw [e] <;> decide, hq2.2⟩ rfl
  · repeat (first | apply c_seq | apply c_reg | (apply wO; apply oc; rfl; exact ydE) | apply w_nil | apply n_cd | (apply wg_t; rfl; rfl) | (apply wg_f; rfl; rfl; rfl; rfl) | (apply wg_u; rfl; rfl; rfl) | (apply c_t; rfl) | (apply c_f; rfl) | apply c_skip | apply c_block | apply n_blk | apply c_exit | apply e_hit | apply e_cd | apply e_lp | (apply e_miss; rfl) | apply c_ret | (apply wO; apply o_box; rfl; rfl; rfl; intro _) | (apply wO; apply o_alloc; rfl; intro _) | (apply wO; apply o_st; rfl; rfl; rfl; (first | exact AggC.s | exact OneC.s); rfl; exact rplE; exact putE; rfl) | (apply wO; apply o_bs0; rfl; intro _) | (apply wO; apply o_bs; rfl; rfl; rfl; rfl; exact rptE; exact filE; intro _))
    refine t_row (xs := [⟨#[120, 120, 120, 120, 120, 120, 120, 120, 120, 120, 120, 120, 120, 120, 120, 120, 120, 120, 120, 120, 120, 120, 120, 120, 120, 120, 120, 120, 120, 120, 120, 120, 120, 120, 120, 120, 120, 120, 120, 120, 120, 120, 120, 120, 120, 120, 120, 120, 120, 120, 120, 120, 120, 120, 120, 120, 120, 120, 120, 120]⟩, ⟨#[120, 120, 120, 120, 120, 120, 120, 120, 120, 120, 120, 120, 120, 120, 120, 120, 120, 120, 120, 120, 120, 120, 120, 120, 120, 120, 120, 120, 120, 120, 120, 120, 120, 120, 120, 120, 120, 120, 120, 120, 120, 120, 120, 120, 120, 120, 120, 120, 120, 120, 120, 120, 120, 120, 120, 120, 120, 120, 120, 120, 120]⟩]) (fun w => flat_s w _ (by decide)) ?_ (by decide)
    refine t_read (E := EStr) fun G => ?_
    repeat (first | apply c_seq | apply c_reg | (apply wO; apply oc; rfl; exact ydE) | apply w_nil | apply n_cd | (apply wg_t; rfl; rfl) | (apply wg_f; rfl; rfl; rfl; rfl) | (apply wg_u; rfl; rfl; rfl) | (apply c_t; rfl) | (apply c_f; rfl) | apply c_skip | apply c_block | apply n_blk | apply c_exit | apply e_hit | apply e_cd | apply e_lp | (apply e_miss; rfl) | apply c_ret | (apply wO; apply o_box; rfl; rfl; rfl; intro _) | (apply wO; apply o_alloc; rfl; intro _) | (apply wO; apply o_st; rfl; rfl; rfl; (first | exact AggC.s | exact OneC.s); rfl; exact rplE; exact putE; rfl) | (apply wO; apply o_bs0; rfl; intro _) | (apply wO; apply o_bs; rfl; rfl; rfl; rfl; exact rptE; exact filE; intro _) | (apply wO; apply o_call; rfl; kernel_rfl; exact evsE))
    refine cf (of_f _ g F _ [⟨#[120, 120, 120, 120, 120, 120, 120, 120, 120, 120, 120, 120, 120, 120, 120, 120, 120, 120, 120, 120, 120, 120, 120, 120, 120, 120, 120, 120, 120, 120, 120, 120, 120, 120, 120, 120, 120, 120, 120, 120, 120, 120, 120, 120, 120, 120, 120, 120, 120, 120, 120, 120, 120, 120, 120, 120, 120, 120, 120, 120]⟩, ⟨#[120, 120, 120, 120, 120, 120, 120, 120, 120, 120, 120, 120, 120, 120, 120, 120, 120, 120, 120, 120, 120, 120, 120, 120, 120, 120, 120, 120, 120, 120, 120, 120, 120, 120, 120, 120, 120, 120, 120, 120, 120, 120, 120, 120, 120, 120, 120, 120, 120, 120, 120, 120, 120, 120, 120, 120, 120, 120, 120, 120, 120]⟩] G s1 hq (by omega) (by decide) (by decide)) fun q hq2 => ?_
    refine t_app ?_
    repeat (first | apply c_seq | apply c_reg | (apply wO; apply oc; rfl; exact ydE) | apply w_nil | apply n_cd | (apply wg_t; rfl; rfl) | (apply wg_f; rfl; rfl; rfl; rfl) | (apply wg_u; rfl; rfl; rfl) | (apply c_t; rfl) | (apply c_f; rfl) | apply c_skip | apply c_block | apply n_blk | apply c_exit | apply e_hit | apply e_cd | apply e_lp | (apply e_miss; rfl) | apply c_ret | (apply wO; apply o_box; rfl; rfl; rfl; intro _) | (apply wO; apply o_alloc; rfl; intro _) | (apply wO; apply o_st; rfl; rfl; rfl; (first | exact AggC.s | exact OneC.s); rfl; exact rplE; exact putE; rfl) | (apply wO; apply o_bs0; rfl; intro _) | (apply wO; apply o_bs; rfl; rfl; rfl; rfl; exact rptE; exact filE; intro _) | (apply wO; apply o_call; rfl; kernel_rfl; exact evsE))
    refine ret q ⟨by have := hq2.1; simp only [List.mem_cons, List.not_mem_nil, or_false] at this; rcases this with e | e <;> rw [e] <;> decide, hq2.2⟩ rfl
set_option maxRecDepth 100000 in
theorem link_f (B g : Nat) (F : CuF) (s : CuS) (ok : CuOk B s) (hB : B ≤ 800000000000) :
    Fn Tryd.prog 138 [ptr g 0 0] [.sl EByte (.slice F.a F.code.length F.c) F.code F.bs] [.row g 121 0 [] [.slice F.a F.code.length F.c, .int .i64 (s.k : Nat), .int .u64 s.seed] []] (fun (z : LnS) => z.y.queue.length ≤ 9 ∧ z.y.fates.size ≤ 100 ∧ CuOk (B + 1000) z.s) (fun s => .agg #[.slice s.a s.y.queue.length s.c, .string s.y.fates, .int .i64 s.y.used])
      (fun s => [.isv ELink (.agg #[.slice s.a s.y.queue.length s.c, .string s.y.fates, .int .i64 s.y.used]) s.y s.F, .row g 121 0 [] [.slice F.a F.code.length F.c, .int .i64 (s.s.k : Nat), .int .u64 s.s.seed] []]) := by
  refine enter Tryd.func138 rfl Tryd.ntmps138 fun w0 => ?_
  refine t_nilow EStr 9 ?_
  repeat (first | apply c_seq | apply c_reg | (apply wO; apply oc; rfl; exact ydE) | apply w_nil | apply n_cd | (apply wg_t; rfl; rfl) | (apply wg_f; rfl; rfl; rfl; rfl) | (apply wg_u; rfl; rfl; rfl) | (apply c_t; rfl) | (apply c_f; rfl) | apply c_skip | apply c_block | apply n_blk | apply c_exit | apply e_hit | apply e_cd | apply e_lp | (apply e_miss; rfl) | apply c_ret | (apply wO; apply o_box; rfl; rfl; rfl; intro _) | (apply wO; apply o_alloc; rfl; intro _) | (apply wO; apply o_st; rfl; rfl; rfl; (first | exact AggC.s | exact OneC.s); rfl; exact rplE; exact putE; rfl) | (apply wO; apply o_bs0; rfl; intro _) | (apply wO; apply o_bs; rfl; rfl; rfl; rfl; exact rptE; exact filE; intro _) | (apply wO; apply o_call; rfl; kernel_rfl; exact evsE))
  refine cf (pick_f B g F 7 s ok (by omega) (by omega)) fun n hn => ?_
  refine t_app ?_
  obtain ⟨hn1, hn2⟩ := hn
  repeat (first | apply c_seq | apply c_reg | (apply wO; apply oc; rfl; exact ydE) | apply w_nil | apply n_cd | (apply wg_t; rfl; rfl) | (apply wg_f; rfl; rfl; rfl; rfl) | (apply wg_u; rfl; rfl; rfl) | (apply c_t; rfl) | (apply c_f; rfl) | apply c_skip | apply c_block | apply n_blk | apply c_exit | apply e_hit | apply e_cd | apply e_lp | (apply e_miss; rfl) | apply c_ret | (apply wO; apply o_box; rfl; rfl; rfl; intro _) | (apply wO; apply o_alloc; rfl; intro _) | (apply wO; apply o_st; rfl; rfl; rfl; (first | exact AggC.s | exact OneC.s); rfl; exact rplE; exact putE; rfl) | (apply wO; apply o_bs0; rfl; intro _) | (apply wO; apply o_bs; rfl; rfl; rfl; rfl; exact rptE; exact filE; intro _) | (apply wO; apply o_call; rfl; kernel_rfl; exact evsE))
  refine cf (fates_f (B + 2) g F n.2 n.1 hn2 (by omega) (by omega)) fun f hf => ?_
  refine t_app ?_
  obtain ⟨hf1, hf2⟩ := hf
  repeat (first | apply c_seq | apply c_reg | (apply wO; apply oc; rfl; exact ydE) | apply w_nil | apply n_cd | (apply wg_t; rfl; rfl) | (apply wg_f; rfl; rfl; rfl; rfl) | (apply wg_u; rfl; rfl; rfl) | (apply c_t; rfl) | (apply c_f; rfl) | apply c_skip | apply c_block | apply n_blk | apply c_exit | apply e_hit | apply e_cd | apply e_lp | (apply e_miss; rfl) | apply c_ret | (apply wO; apply o_box; rfl; rfl; rfl; intro _) | (apply wO; apply o_alloc; rfl; intro _) | (apply wO; apply o_st; rfl; rfl; rfl; (first | exact AggC.s | exact OneC.s); rfl; exact rplE; exact putE; rfl) | (apply wO; apply o_bs0; rfl; intro _) | (apply wO; apply o_bs; rfl; rfl; rfl; rfl; exact rptE; exact filE; intro _) | (apply wO; apply o_call; rfl; kernel_rfl; exact evsE))
  rename_i gg
  refine cf (pick_f _ g F 5 f.2 hf2 (by omega) (by omega)) fun y hy => ?_
  refine t_app ?_
  obtain ⟨r0, s1⟩ := y
  obtain ⟨hy1, hy2⟩ := hy
  dsimp only at hy1 hy2 ⊢
  have hr0 : r0 ≤ 4 := by omega
  repeat (first | apply c_seq | apply c_reg | (apply wO; apply oc; rfl; exact ydE) | apply w_nil | apply n_cd | (apply wg_t; rfl; rfl) | (apply wg_f; rfl; rfl; rfl; rfl) | (apply wg_u; rfl; rfl; rfl) | (apply c_t; rfl) | (apply c_f; rfl) | apply c_skip | apply c_block | apply n_blk | apply c_exit | apply e_hit | apply e_cd | apply e_lp | (apply e_miss; rfl) | apply c_ret | (apply wO; apply o_box; rfl; rfl; rfl; intro _) | (apply wO; apply o_alloc; rfl; intro _) | (apply wO; apply o_st; rfl; rfl; rfl; (first | exact AggC.s | exact OneC.s); rfl; exact rplE; exact putE; rfl) | (apply wO; apply o_bs0; rfl; intro _) | (apply wO; apply o_bs; rfl; rfl; rfl; rfl; exact rptE; exact filE; intro _) | (apply wO; apply o_call; rfl; kernel_rfl; exact evsE))
  refine c_loopS [0, 2, 3] (fun z : LnL => [(4, .int .i64 (z.i : Nat))]) (fun z => [.row gg 76 0 [] [.slice z.a z.y.queue.length z.c, .string z.y.fates, .int .i64 z.y.used] [], .ow EStr 9 (.slice z.a z.y.queue.length z.c) z.y.queue z.F, .row g 121 0 [] [.slice F.a F.code.length F.c, .int .i64 (z.s.k : Nat), .int .u64 z.s.seed] []]) (LnOk B r0) (fun z => z.i) ⟨⟨[], f.1, 0⟩, r0, none, 0, [], s1⟩ ⟨hf1, by simp, hy2.mono (by show _ ≤ B + 110 + 4 * 0; omega)⟩ fun z hz => ?_
  obtain ⟨z0, z1, z3⟩ := hz
  repeat (first | apply c_seq | apply c_reg | (apply wO; apply oc; rfl; exact ydE) | apply w_nil | apply n_cd | (apply wg_t; rfl; rfl) | (apply wg_f; rfl; rfl; rfl; rfl) | (apply wg_u; rfl; rfl; rfl) | (apply c_t; rfl) | (apply c_f; rfl) | apply c_skip | apply c_block | apply n_blk | apply c_exit | apply e_hit | apply e_cd | apply e_lp | (apply e_miss; rfl) | apply c_ret | (apply wO; apply o_box; rfl; rfl; rfl; intro _) | (apply wO; apply o_alloc; rfl; intro _) | (apply wO; apply o_st; rfl; rfl; rfl; (first | exact AggC.s | exact OneC.s); rfl; exact rplE; exact putE; rfl) | (apply wO; apply o_bs0; rfl; intro _) | (apply wO; apply o_bs; rfl; rfl; rfl; rfl; exact rptE; exact filE; intro _) | (apply wO; apply o_call; rfl; kernel_rfl; exact evsE))
  refine c_if rfl (fun h2 => ?_) (fun h2 => ?_)
  · repeat (first | apply c_seq | apply c_reg | (apply wO; apply oc; rfl; exact ydE) | apply w_nil | apply n_cd | (apply wg_t; rfl; rfl) | (apply wg_f; rfl; rfl; rfl; rfl) | (apply wg_u; rfl; rfl; rfl) | (apply c_t; rfl) | (apply c_f; rfl) | apply c_skip | apply c_block | apply n_blk | apply c_exit | apply e_hit | apply e_cd | apply e_lp | (apply e_miss; rfl) | apply c_ret | (apply wO; apply o_box; rfl; rfl; rfl; intro _) | (apply wO; apply o_alloc; rfl; intro _) | (apply wO; apply o_st; rfl; rfl; rfl; (first | exact AggC.s | exact OneC.s); rfl; exact rplE; exact putE; rfl) | (apply wO; apply o_bs0; rfl; intro _) | (apply wO; apply o_bs; rfl; rfl; rfl; rfl; exact rptE; exact filE; intro _))
    refine d_start [0] [7] ?_
    refine dt 0 ?_
    refine dt 1 ?_
    refine dt 2 ?_
    refine dO 3 (by kernel_rfl) (by rw [List.getElem?_toArray]; rfl) ?_
    apply o_call; rfl; kernel_rfl; exact evsE
    refine cf (shortText_f _ g F z.s z3 (by omega)) fun l hl => ?_
    refine t_app ?_
    obtain ⟨hl1, hl2⟩ := hl
    have hl3 : l.1.size ≤ maxLen := by unfold maxLen; omega
    refine dk ?_
    refine dO 4 (by kernel_rfl) (by rw [List.getElem?_toArray]; rfl) ?_
    apply o_bs; rfl; rfl; rfl; rfl; exact rptE; exact filE; intro _
    refine dk ?_
    refine dO 5 (by kernel_rfl) (by rw [List.getElem?_toArray]; rfl) ?_
    refine ap1 (rep_s hl3) one_EStr fun a9 c9 F9 => ?_
    refine dk ?_
    refine dt 6 ?_
    refine dO 7 (by kernel_rfl) (by rw [List.getElem?_toArray]; rfl) ?_
    apply o_st; rfl; rfl; rfl; (first | exact AggC.s | exact OneC.s); rfl; exact rplE; exact putE; rfl
    refine dkx ?_
    refine dd ?_
    repeat (first | apply c_seq | apply c_reg | (apply wO; apply oc; rfl; exact ydE) | apply w_nil | apply n_cd | (apply wg_t; rfl; rfl) | (apply wg_f; rfl; rfl; rfl; rfl) | (apply wg_u; rfl; rfl; rfl) | (apply c_t; rfl) | (apply c_f; rfl) | apply c_skip | apply c_block | apply n_blk | apply c_exit | apply e_hit | apply e_cd | apply e_lp | (apply e_miss; rfl) | apply c_ret | (apply wO; apply o_box; rfl; rfl; rfl; intro _) | (apply wO; apply o_alloc; rfl; intro _) | (apply wO; apply o_st; rfl; rfl; rfl; (first | exact AggC.s | exact OneC.s); rfl; exact rplE; exact putE; rfl) | (apply wO; apply o_bs0; rfl; intro _) | (apply wO; apply o_bs; rfl; rfl; rfl; rfl; exact rptE; exact filE; intro _) | (apply wO; apply o_call; rfl; kernel_rfl; exact evsE))
    rw [show ((z.i : Nat) : Int) - 1 = ((z.i - 1 : Nat) : Int) by omega]
    refine n_lp ⟨⟨z.y.queue ++ [l.1], z.y.fates, z.y.used⟩, z.i - 1, a9, c9, F9, l.2⟩ ⟨z0, by show (z.y.queue ++ [l.1]).length + (z.i - 1) = r0; rw [List.length_append]; simp only [List.length_cons, List.length_nil]; omega, hl2.mono (by show _ ≤ B + 110 + 4 * (z.y.queue ++ [l.1]).length; rw [List.length_append]; simp only [List.length_cons, List.length_nil]; omega)⟩ (by show z.i - 1 < _; omega)
  · have hl4 : z.y.queue.length ≤ 4 := by omega
    repeat (first | apply c_seq | apply c_reg | (apply wO; apply oc; rfl; exact ydE) | apply w_nil | apply n_cd | (apply wg_t; rfl; rfl) | (apply wg_f; rfl; rfl; rfl; rfl) | (apply wg_u; rfl; rfl; rfl) | (apply c_t; rfl) | (apply c_f; rfl) | apply c_skip | apply c_block | apply n_blk | apply c_exit | apply e_hit | apply e_cd | apply e_lp | (apply e_miss; rfl) | apply c_ret | (apply wO; apply o_box; rfl; rfl; rfl; intro _) | (apply wO; apply o_alloc; rfl; intro _) | (apply wO; apply o_st; rfl; rfl; rfl; (first | exact AggC.s | exact OneC.s); rfl; exact rplE; exact putE; rfl) | (apply wO; apply o_bs0; rfl; intro _) | (apply wO; apply o_bs; rfl; rfl; rfl; rfl; exact rptE; exact filE; intro _) | (apply wO; apply o_call; rfl; kernel_rfl; exact evsE))
    refine cf (pick_f _ g F ((z.y.fates.size : Int) + 1) z.s z3 (by omega) (by omega)) fun p hp => ?_
    refine t_app ?_
    obtain ⟨u0, s2⟩ := p
    obtain ⟨hu, hp⟩ := hp
    dsimp only at hu hp ⊢
    obtain ⟨u, hue⟩ : ∃ u : Int, u = (u0 : Nat) := ⟨_, rfl⟩
    rw [← hue]
    repeat (first | apply c_seq | apply c_reg | (apply wO; apply oc; rfl; exact ydE) | apply w_nil | apply n_cd | (apply wg_t; rfl; rfl) | (apply wg_f; rfl; rfl; rfl; rfl) | (apply wg_u; rfl; rfl; rfl) | (apply c_t; rfl) | (apply c_f; rfl) | apply c_skip | apply c_block | apply n_blk | apply c_exit | apply e_hit | apply e_cd | apply e_lp | (apply e_miss; rfl) | apply c_ret | (apply wO; apply o_box; rfl; rfl; rfl; intro _) | (apply wO; apply o_alloc; rfl; intro _) | (apply wO; apply o_st; rfl; rfl; rfl; (first | exact AggC.s | exact OneC.s); rfl; exact rplE; exact putE; rfl) | (apply wO; apply o_bs0; rfl; intro _) | (apply wO; apply o_bs; rfl; rfl; rfl; rfl; exact rptE; exact filE; intro _) | (apply wO; apply o_call; rfl; kernel_rfl; exact evsE))
    refine cf (pick_f _ g F 24 s2 hp (by omega) (by omega)) fun p hp => ?_
    refine t_app ?_
    obtain ⟨r, s3⟩ := p
    obtain ⟨-, hp⟩ := hp
    dsimp only at hp ⊢
    repeat (first | apply c_seq | apply c_reg | (apply wO; apply oc; rfl; exact ydE) | apply w_nil | apply n_cd | (apply wg_t; rfl; rfl) | (apply wg_f; rfl; rfl; rfl; rfl) | (apply wg_u; rfl; rfl; rfl) | (apply c_t; rfl) | (apply c_f; rfl) | apply c_skip | apply c_block | apply n_blk | apply c_exit | apply e_hit | apply e_cd | apply e_lp | (apply e_miss; rfl) | apply c_ret | (apply wO; apply o_box; rfl; rfl; rfl; intro _) | (apply wO; apply o_alloc; rfl; intro _) | (apply wO; apply o_st; rfl; rfl; rfl; (first | exact AggC.s | exact OneC.s); rfl; exact rplE; exact putE; rfl) | (apply wO; apply o_bs0; rfl; intro _) | (apply wO; apply o_bs; rfl; rfl; rfl; rfl; exact rptE; exact filE; intro _) | (apply wO; apply o_call; rfl; kernel_rfl; exact evsE))
    refine c_if rfl (fun e0 => ?_) (fun e0 => ?_)
    · repeat (first | apply c_seq | apply c_reg | (apply wO; apply oc; rfl; exact ydE) | apply w_nil | apply n_cd | (apply wg_t; rfl; rfl) | (apply wg_f; rfl; rfl; rfl; rfl) | (apply wg_u; rfl; rfl; rfl) | (apply c_t; rfl) | (apply c_f; rfl) | apply c_skip | apply c_block | apply n_blk | apply c_exit | apply e_hit | apply e_cd | apply e_lp | (apply e_miss; rfl) | apply c_ret | (apply wO; apply o_box; rfl; rfl; rfl; intro _) | (apply wO; apply o_alloc; rfl; intro _) | (apply wO; apply o_st; rfl; rfl; rfl; (first | exact AggC.s | exact OneC.s); rfl; exact rplE; exact putE; rfl) | (apply wO; apply o_bs0; rfl; intro _) | (apply wO; apply o_bs; rfl; rfl; rfl; rfl; exact rptE; exact filE; intro _))
      refine d_start [1] [7] ?_
      refine dt 0 ?_
      refine dt 1 ?_
      refine dt 2 ?_
      refine dO 3 (by kernel_rfl) (by rw [List.getElem?_toArray]; rfl) ?_
      apply o_bs; rfl; rfl; rfl; rfl; exact rptE; exact filE; intro _
      refine t_row (xs := [⟨#[120]⟩, ⟨#[75]⟩, ⟨#[32]⟩]) (fun w => flat_s w _ (by decide)) ?_ (by decide)
      refine t_read (E := EStr) fun G => ?_
      refine dk ?_
      refine dO 4 (by kernel_rfl) (by rw [List.getElem?_toArray]; rfl) ?_
      apply o_call; rfl; kernel_rfl; exact evsE
      refine cf (of_f _ g F _ [⟨#[120]⟩, ⟨#[75]⟩, ⟨#[32]⟩] _ s3 hp (by omega) (by decide) (by decide)) fun q2 hq2 => ?_
      refine t_app ?_
      have hq3 : q2.1.size ≤ 1 := by have := hq2.1; simp only [List.mem_cons, List.not_mem_nil, or_false] at this; rcases this with e | e | e <;> rw [e] <;> decide
      refine dk ?_
      refine dt 5 ?_
      refine dt 6 ?_
      refine dO 7 (by kernel_rfl) (by rw [List.getElem?_toArray]; rfl) ?_
      apply o_st; rfl; rfl; rfl; (first | exact AggC.s | exact OneC.s); rfl; exact rplE; exact putE; rfl
      refine dkx ?_
      refine dd ?_
      repeat (first | apply c_seq | apply c_reg | (apply wO; apply oc; rfl; exact ydE) | apply w_nil | apply n_cd | (apply wg_t; rfl; rfl) | (apply wg_f; rfl; rfl; rfl; rfl) | (apply wg_u; rfl; rfl; rfl) | (apply c_t; rfl) | (apply c_f; rfl) | apply c_skip | apply c_block | apply n_blk | apply c_exit | apply e_hit | apply e_cd | apply e_lp | (apply e_miss; rfl) | apply c_ret | (apply wO; apply o_box; rfl; rfl; rfl; intro _) | (apply wO; apply o_alloc; rfl; intro _) | (apply wO; apply o_st; rfl; rfl; rfl; (first | exact AggC.s | exact OneC.s); rfl; exact rplE; exact putE; rfl) | (apply wO; apply o_bs0; rfl; intro _) | (apply wO; apply o_bs; rfl; rfl; rfl; rfl; exact rptE; exact filE; intro _) | (apply wO; apply o_call; rfl; kernel_rfl; exact evsE))
      refine t_read (E := EStr) (xs := z.y.queue) fun F8 => ?_
      refine closeLink ⟨z.y.queue, z.y.fates ++ q2.1, u⟩ (by show (z.y.fates ++ q2.1).size ≤ maxLen; rw [ByteArray.size_append]; unfold maxLen; omega) ?_
      refine ret ⟨⟨z.y.queue, z.y.fates ++ q2.1, u⟩, _, _, _, q2.2⟩ ⟨by show z.y.queue.length ≤ 9; omega, by show (z.y.fates ++ q2.1).size ≤ 100; rw [ByteArray.size_append]; omega, hq2.2.mono (by omega)⟩ rfl
    repeat (first | apply c_seq | apply c_reg | (apply wO; apply oc; rfl; exact ydE) | apply w_nil | apply n_cd | (apply wg_t; rfl; rfl) | (apply wg_f; rfl; rfl; rfl; rfl) | (apply wg_u; rfl; rfl; rfl) | (apply c_t; rfl) | (apply c_f; rfl) | apply c_skip | apply c_block | apply n_blk | apply c_exit | apply e_hit | apply e_cd | apply e_lp | (apply e_miss; rfl) | apply c_ret | (apply wO; apply o_box; rfl; rfl; rfl; intro _) | (apply wO; apply o_alloc; rfl; intro _) | (apply wO; apply o_st; rfl; rfl; rfl; (first | exact AggC.s | exact OneC.s); rfl; exact rplE; exact putE; rfl) | (apply wO; apply o_bs0; rfl; intro _) | (apply wO; apply o_bs; rfl; rfl; rfl; rfl; exact rptE; exact filE; intro _) | (apply wO; apply o_call; rfl; kernel_rfl; exact evsE))
    refine c_if rfl (fun e1 => ?_) (fun e1 => ?_)
    · repeat (first | apply c_seq | apply c_reg | (apply wO; apply oc; rfl; exact ydE) | apply w_nil | apply n_cd | (apply wg_t; rfl; rfl) | (apply wg_f; rfl; rfl; rfl; rfl) | (apply wg_u; rfl; rfl; rfl) | (apply c_t; rfl) | (apply c_f; rfl) | apply c_skip | apply c_block | apply n_blk | apply c_exit | apply e_hit | apply e_cd | apply e_lp | (apply e_miss; rfl) | apply c_ret | (apply wO; apply o_box; rfl; rfl; rfl; intro _) | (apply wO; apply o_alloc; rfl; intro _) | (apply wO; apply o_st; rfl; rfl; rfl; (first | exact AggC.s | exact OneC.s); rfl; exact rplE; exact putE; rfl) | (apply wO; apply o_bs0; rfl; intro _) | (apply wO; apply o_bs; rfl; rfl; rfl; rfl; exact rptE; exact filE; intro _))
      refine t_row (xs := [-1, (z.y.fates.size : Int) + 1]) (fun w => flat_int w _) ?_ (by simp)
      refine t_read (E := EInt) fun G => ?_
      repeat (first | apply c_seq | apply c_reg | (apply wO; apply oc; rfl; exact ydE) | apply w_nil | apply n_cd | (apply wg_t; rfl; rfl) | (apply wg_f; rfl; rfl; rfl; rfl) | (apply wg_u; rfl; rfl; rfl) | (apply c_t; rfl) | (apply c_f; rfl) | apply c_skip | apply c_block | apply n_blk | apply c_exit | apply e_hit | apply e_cd | apply e_lp | (apply e_miss; rfl) | apply c_ret | (apply wO; apply o_box; rfl; rfl; rfl; intro _) | (apply wO; apply o_alloc; rfl; intro _) | (apply wO; apply o_st; rfl; rfl; rfl; (first | exact AggC.s | exact OneC.s); rfl; exact rplE; exact putE; rfl) | (apply wO; apply o_bs0; rfl; intro _) | (apply wO; apply o_bs; rfl; rfl; rfl; rfl; exact rptE; exact filE; intro _) | (apply wO; apply o_call; rfl; kernel_rfl; exact evsE))
      refine cf (among_f _ g F _ [-1, (z.y.fates.size : Int) + 1] G s3 hp (by omega) (by simp) (by simp)) fun q hq => ?_
      refine t_app ?_
      repeat (first | apply c_seq | apply c_reg | (apply wO; apply oc; rfl; exact ydE) | apply w_nil | apply n_cd | (apply wg_t; rfl; rfl) | (apply wg_f; rfl; rfl; rfl; rfl) | (apply wg_u; rfl; rfl; rfl) | (apply c_t; rfl) | (apply c_f; rfl) | apply c_skip | apply c_block | apply n_blk | apply c_exit | apply e_hit | apply e_cd | apply e_lp | (apply e_miss; rfl) | apply c_ret | (apply wO; apply o_box; rfl; rfl; rfl; intro _) | (apply wO; apply o_alloc; rfl; intro _) | (apply wO; apply o_st; rfl; rfl; rfl; (first | exact AggC.s | exact OneC.s); rfl; exact rplE; exact putE; rfl) | (apply wO; apply o_bs0; rfl; intro _) | (apply wO; apply o_bs; rfl; rfl; rfl; rfl; exact rptE; exact filE; intro _) | (apply wO; apply o_call; rfl; kernel_rfl; exact evsE))
      refine t_read (E := EStr) (xs := z.y.queue) fun F8 => ?_
      refine closeLink ⟨z.y.queue, z.y.fates, q.1⟩ (by show z.y.fates.size ≤ maxLen; unfold maxLen; omega) ?_
      refine ret ⟨⟨z.y.queue, z.y.fates, q.1⟩, _, _, _, q.2⟩ ⟨by show z.y.queue.length ≤ 9; omega, by show z.y.fates.size ≤ 100; omega, hq.2.mono (by omega)⟩ rfl
    repeat (first | apply c_seq | apply c_reg | (apply wO; apply oc; rfl; exact ydE) | apply w_nil | apply n_cd | (apply wg_t; rfl; rfl) | (apply wg_f; rfl; rfl; rfl; rfl) | (apply wg_u; rfl; rfl; rfl) | (apply c_t; rfl) | (apply c_f; rfl) | apply c_skip | apply c_block | apply n_blk | apply c_exit | apply e_hit | apply e_cd | apply e_lp | (apply e_miss; rfl) | apply c_ret | (apply wO; apply o_box; rfl; rfl; rfl; intro _) | (apply wO; apply o_alloc; rfl; intro _) | (apply wO; apply o_st; rfl; rfl; rfl; (first | exact AggC.s | exact OneC.s); rfl; exact rplE; exact putE; rfl) | (apply wO; apply o_bs0; rfl; intro _) | (apply wO; apply o_bs; rfl; rfl; rfl; rfl; exact rptE; exact filE; intro _) | (apply wO; apply o_call; rfl; kernel_rfl; exact evsE))
    refine c_if rfl (fun e2 => ?_) (fun e2 => ?_)
    · repeat (first | apply c_seq | apply c_reg | (apply wO; apply oc; rfl; exact ydE) | apply w_nil | apply n_cd | (apply wg_t; rfl; rfl) | (apply wg_f; rfl; rfl; rfl; rfl) | (apply wg_u; rfl; rfl; rfl) | (apply c_t; rfl) | (apply c_f; rfl) | apply c_skip | apply c_block | apply n_blk | apply c_exit | apply e_hit | apply e_cd | apply e_lp | (apply e_miss; rfl) | apply c_ret | (apply wO; apply o_box; rfl; rfl; rfl; intro _) | (apply wO; apply o_alloc; rfl; intro _) | (apply wO; apply o_st; rfl; rfl; rfl; (first | exact AggC.s | exact OneC.s); rfl; exact rplE; exact putE; rfl) | (apply wO; apply o_bs0; rfl; intro _) | (apply wO; apply o_bs; rfl; rfl; rfl; rfl; exact rptE; exact filE; intro _) | (apply wO; apply o_call; rfl; kernel_rfl; exact evsE))
      refine c_loopS [0, 2, 3] (fun _ : LnS => []) (fun z => [.row gg 76 0 [] [.slice z.a z.y.queue.length z.c, .string z.y.fates, .int .i64 z.y.used] [], .ow EStr 9 (.slice z.a z.y.queue.length z.c) z.y.queue z.F, .row g 121 0 [] [.slice F.a F.code.length F.c, .int .i64 (z.s.k : Nat), .int .u64 z.s.seed] []]) (fun z : LnS => z.y.fates.size ≤ 41 ∧ z.y.queue.length ≤ 9 ∧ CuOk (B + 200 + 2 * z.y.queue.length) z.s) (fun z => 9 - z.y.queue.length) ⟨⟨z.y.queue, z.y.fates, u⟩, z.a, z.c, z.F, s3⟩ ⟨z0, by show z.y.queue.length ≤ 9; omega, hp.mono (by show _ ≤ B + 200 + 2 * z.y.queue.length; omega)⟩ fun z hz => ?_
      obtain ⟨z0, z1, z2⟩ := hz
      repeat (first | apply c_seq | apply c_reg | (apply wO; apply oc; rfl; exact ydE) | apply w_nil | apply n_cd | (apply wg_t; rfl; rfl) | (apply wg_f; rfl; rfl; rfl; rfl) | (apply wg_u; rfl; rfl; rfl) | (apply c_t; rfl) | (apply c_f; rfl) | apply c_skip | apply c_block | apply n_blk | apply c_exit | apply e_hit | apply e_cd | apply e_lp | (apply e_miss; rfl) | apply c_ret | (apply wO; apply o_box; rfl; rfl; rfl; intro _) | (apply wO; apply o_alloc; rfl; intro _) | (apply wO; apply o_st; rfl; rfl; rfl; (first | exact AggC.s | exact OneC.s); rfl; exact rplE; exact putE; rfl) | (apply wO; apply o_bs0; rfl; intro _) | (apply wO; apply o_bs; rfl; rfl; rfl; rfl; exact rptE; exact filE; intro _))
      refine d_start [0] [] ?_
      refine dt 0 ?_
      refine dt 1 ?_
      refine dt 2 ?_
      refine dt 3 ?_
      refine dO 4 (by kernel_rfl) (by rw [List.getElem?_toArray]; rfl) ?_
      apply o_call; rfl; kernel_rfl; exact evsE
      refine cf (pick_f _ g F 2 z.s z2 (by omega) (by omega)) fun p6 hp6 => ?_
      refine t_app ?_
      obtain ⟨r6, s6⟩ := p6
      obtain ⟨hr6, hp6⟩ := hp6
      dsimp only at hr6 hp6 ⊢
      refine dk ?_
      refine dt 5 ?_
      refine dt 6 ?_
      refine dd ?_
      repeat (first | apply c_seq | apply c_reg | (apply wO; apply oc; rfl; exact ydE) | apply w_nil | apply n_cd | (apply wg_t; rfl; rfl) | (apply wg_f; rfl; rfl; rfl; rfl) | (apply wg_u; rfl; rfl; rfl) | (apply c_t; rfl) | (apply c_f; rfl) | apply c_skip | apply c_block | apply n_blk | apply c_exit | apply e_hit | apply e_cd | apply e_lp | (apply e_miss; rfl) | apply c_ret | (apply wO; apply o_box; rfl; rfl; rfl; intro _) | (apply wO; apply o_alloc; rfl; intro _) | (apply wO; apply o_st; rfl; rfl; rfl; (first | exact AggC.s | exact OneC.s); rfl; exact rplE; exact putE; rfl) | (apply wO; apply o_bs0; rfl; intro _) | (apply wO; apply o_bs; rfl; rfl; rfl; rfl; exact rptE; exact filE; intro _) | (apply wO; apply o_call; rfl; kernel_rfl; exact evsE))
      refine c_if rfl (fun e4 => ?_) (fun e4 => ?_)
      · repeat (first | apply c_seq | apply c_reg | (apply wO; apply oc; rfl; exact ydE) | apply w_nil | apply n_cd | (apply wg_t; rfl; rfl) | (apply wg_f; rfl; rfl; rfl; rfl) | (apply wg_u; rfl; rfl; rfl) | (apply c_t; rfl) | (apply c_f; rfl) | apply c_skip | apply c_block | apply n_blk | apply c_exit | apply e_hit | apply e_cd | apply e_lp | (apply e_miss; rfl) | apply c_ret | (apply wO; apply o_box; rfl; rfl; rfl; intro _) | (apply wO; apply o_alloc; rfl; intro _) | (apply wO; apply o_st; rfl; rfl; rfl; (first | exact AggC.s | exact OneC.s); rfl; exact rplE; exact putE; rfl) | (apply wO; apply o_bs0; rfl; intro _) | (apply wO; apply o_bs; rfl; rfl; rfl; rfl; exact rptE; exact filE; intro _) | (apply wO; apply o_call; rfl; kernel_rfl; exact evsE))
        apply wO
        refine ap1 (rep_s (s := ⟨#[113]⟩) (by decide)) one_EStr fun a9 c9 F9 => ?_
        repeat (first | apply c_seq | apply c_reg | (apply wO; apply oc; rfl; exact ydE) | apply w_nil | apply n_cd | (apply wg_t; rfl; rfl) | (apply wg_f; rfl; rfl; rfl; rfl) | (apply wg_u; rfl; rfl; rfl) | (apply c_t; rfl) | (apply c_f; rfl) | apply c_skip | apply c_block | apply n_blk | apply c_exit | apply e_hit | apply e_cd | apply e_lp | (apply e_miss; rfl) | apply c_ret | (apply wO; apply o_box; rfl; rfl; rfl; intro _) | (apply wO; apply o_alloc; rfl; intro _) | (apply wO; apply o_st; rfl; rfl; rfl; (first | exact AggC.s | exact OneC.s); rfl; exact rplE; exact putE; rfl) | (apply wO; apply o_bs0; rfl; intro _) | (apply wO; apply o_bs; rfl; rfl; rfl; rfl; exact rptE; exact filE; intro _) | (apply wO; apply o_call; rfl; kernel_rfl; exact evsE))
        refine n_lp ⟨⟨z.y.queue ++ [⟨#[113]⟩], z.y.fates, z.y.used⟩, a9, c9, F9, s6⟩ ⟨z0, by show (z.y.queue ++ [_]).length ≤ 9; simp; omega, hp6.mono (by show _ ≤ B + 200 + 2 * (z.y.queue ++ [_]).length; simp; omega)⟩ (by show 9 - (z.y.queue ++ [_]).length < _; simp; omega)
      · repeat (first | apply c_seq | apply c_reg | (apply wO; apply oc; rfl; exact ydE) | apply w_nil | apply n_cd | (apply wg_t; rfl; rfl) | (apply wg_f; rfl; rfl; rfl; rfl) | (apply wg_u; rfl; rfl; rfl) | (apply c_t; rfl) | (apply c_f; rfl) | apply c_skip | apply c_block | apply n_blk | apply c_exit | apply e_hit | apply e_cd | apply e_lp | (apply e_miss; rfl) | apply c_ret | (apply wO; apply o_box; rfl; rfl; rfl; intro _) | (apply wO; apply o_alloc; rfl; intro _) | (apply wO; apply o_st; rfl; rfl; rfl; (first | exact AggC.s | exact OneC.s); rfl; exact rplE; exact putE; rfl) | (apply wO; apply o_bs0; rfl; intro _) | (apply wO; apply o_bs; rfl; rfl; rfl; rfl; exact rptE; exact filE; intro _) | (apply wO; apply o_call; rfl; kernel_rfl; exact evsE))
        repeat (first | apply c_seq | apply c_reg | (apply wO; apply oc; rfl; exact ydE) | apply w_nil | apply n_cd | (apply wg_t; rfl; rfl) | (apply wg_f; rfl; rfl; rfl; rfl) | (apply wg_u; rfl; rfl; rfl) | (apply c_t; rfl) | (apply c_f; rfl) | apply c_skip | apply c_block | apply n_blk | apply c_exit | apply e_hit | apply e_cd | apply e_lp | (apply e_miss; rfl) | apply c_ret | (apply wO; apply o_box; rfl; rfl; rfl; intro _) | (apply wO; apply o_alloc; rfl; intro _) | (apply wO; apply o_st; rfl; rfl; rfl; (first | exact AggC.s | exact OneC.s); rfl; exact rplE; exact putE; rfl) | (apply wO; apply o_bs0; rfl; intro _) | (apply wO; apply o_bs; rfl; rfl; rfl; rfl; exact rptE; exact filE; intro _) | (apply wO; apply o_call; rfl; kernel_rfl; exact evsE))
        refine t_read (E := EStr) (xs := z.y.queue) fun F8 => ?_
        refine closeLink z.y (by show z.y.fates.size ≤ maxLen; unfold maxLen; omega) ?_
        refine ret ⟨z.y, _, _, _, s6⟩ ⟨by show z.y.queue.length ≤ 9; omega, by show z.y.fates.size ≤ 100; omega, hp6.mono (by omega)⟩ rfl
    repeat (first | apply c_seq | apply c_reg | (apply wO; apply oc; rfl; exact ydE) | apply w_nil | apply n_cd | (apply wg_t; rfl; rfl) | (apply wg_f; rfl; rfl; rfl; rfl) | (apply wg_u; rfl; rfl; rfl) | (apply c_t; rfl) | (apply c_f; rfl) | apply c_skip | apply c_block | apply n_blk | apply c_exit | apply e_hit | apply e_cd | apply e_lp | (apply e_miss; rfl) | apply c_ret | (apply wO; apply o_box; rfl; rfl; rfl; intro _) | (apply wO; apply o_alloc; rfl; intro _) | (apply wO; apply o_st; rfl; rfl; rfl; (first | exact AggC.s | exact OneC.s); rfl; exact rplE; exact putE; rfl) | (apply wO; apply o_bs0; rfl; intro _) | (apply wO; apply o_bs; rfl; rfl; rfl; rfl; exact rptE; exact filE; intro _) | (apply wO; apply o_call; rfl; kernel_rfl; exact evsE))
    refine c_if rfl (fun e3 => ?_) (fun e3 => ?_)
    · repeat (first | apply c_seq | apply c_reg | (apply wO; apply oc; rfl; exact ydE) | apply w_nil | apply n_cd | (apply wg_t; rfl; rfl) | (apply wg_f; rfl; rfl; rfl; rfl) | (apply wg_u; rfl; rfl; rfl) | (apply c_t; rfl) | (apply c_f; rfl) | apply c_skip | apply c_block | apply n_blk | apply c_exit | apply e_hit | apply e_cd | apply e_lp | (apply e_miss; rfl) | apply c_ret | (apply wO; apply o_box; rfl; rfl; rfl; intro _) | (apply wO; apply o_alloc; rfl; intro _) | (apply wO; apply o_st; rfl; rfl; rfl; (first | exact AggC.s | exact OneC.s); rfl; exact rplE; exact putE; rfl) | (apply wO; apply o_bs0; rfl; intro _) | (apply wO; apply o_bs; rfl; rfl; rfl; rfl; exact rptE; exact filE; intro _) | (apply wO; apply o_call; rfl; kernel_rfl; exact evsE))
      refine cf (pick_f _ g F 2 s3 hp (by omega) (by omega)) fun q hq => ?_
      refine t_app ?_
      obtain ⟨r6, s6⟩ := q
      obtain ⟨hr6, hp6⟩ := hq
      dsimp only at hr6 hp6 ⊢
      repeat (first | apply c_seq | apply c_reg | (apply wO; apply oc; rfl; exact ydE) | apply w_nil | apply n_cd | (apply wg_t; rfl; rfl) | (apply wg_f; rfl; rfl; rfl; rfl) | (apply wg_u; rfl; rfl; rfl) | (apply c_t; rfl) | (apply c_f; rfl) | apply c_skip | apply c_block | apply n_blk | apply c_exit | apply e_hit | apply e_cd | apply e_lp | (apply e_miss; rfl) | apply c_ret | (apply wO; apply o_box; rfl; rfl; rfl; intro _) | (apply wO; apply o_alloc; rfl; intro _) | (apply wO; apply o_st; rfl; rfl; rfl; (first | exact AggC.s | exact OneC.s); rfl; exact rplE; exact putE; rfl) | (apply wO; apply o_bs0; rfl; intro _) | (apply wO; apply o_bs; rfl; rfl; rfl; rfl; exact rptE; exact filE; intro _) | (apply wO; apply o_call; rfl; kernel_rfl; exact evsE))
      rw [show (40 : Int) + (r6 : Nat) = ((40 + r6 : Nat) : Int) by omega]
      refine cf (fates_f _ g F s6 (40 + r6) hp6 (by omega) (by omega)) fun f2 hf2 => ?_
      refine t_app ?_
      obtain ⟨hg1, hg2⟩ := hf2
      repeat (first | apply c_seq | apply c_reg | (apply wO; apply oc; rfl; exact ydE) | apply w_nil | apply n_cd | (apply wg_t; rfl; rfl) | (apply wg_f; rfl; rfl; rfl; rfl) | (apply wg_u; rfl; rfl; rfl) | (apply c_t; rfl) | (apply c_f; rfl) | apply c_skip | apply c_block | apply n_blk | apply c_exit | apply e_hit | apply e_cd | apply e_lp | (apply e_miss; rfl) | apply c_ret | (apply wO; apply o_box; rfl; rfl; rfl; intro _) | (apply wO; apply o_alloc; rfl; intro _) | (apply wO; apply o_st; rfl; rfl; rfl; (first | exact AggC.s | exact OneC.s); rfl; exact rplE; exact putE; rfl) | (apply wO; apply o_bs0; rfl; intro _) | (apply wO; apply o_bs; rfl; rfl; rfl; rfl; exact rptE; exact filE; intro _) | (apply wO; apply o_call; rfl; kernel_rfl; exact evsE))
      refine t_read (E := EStr) (xs := z.y.queue) fun F8 => ?_
      refine closeLink ⟨z.y.queue, f2.1, u⟩ (by show f2.1.size ≤ maxLen; unfold maxLen; omega) ?_
      refine ret ⟨⟨z.y.queue, f2.1, u⟩, _, _, _, f2.2⟩ ⟨by show z.y.queue.length ≤ 9; omega, by show f2.1.size ≤ 100; omega, hg2.mono (by omega)⟩ rfl
    repeat (first | apply c_seq | apply c_reg | (apply wO; apply oc; rfl; exact ydE) | apply w_nil | apply n_cd | (apply wg_t; rfl; rfl) | (apply wg_f; rfl; rfl; rfl; rfl) | (apply wg_u; rfl; rfl; rfl) | (apply c_t; rfl) | (apply c_f; rfl) | apply c_skip | apply c_block | apply n_blk | apply c_exit | apply e_hit | apply e_cd | apply e_lp | (apply e_miss; rfl) | apply c_ret | (apply wO; apply o_box; rfl; rfl; rfl; intro _) | (apply wO; apply o_alloc; rfl; intro _) | (apply wO; apply o_st; rfl; rfl; rfl; (first | exact AggC.s | exact OneC.s); rfl; exact rplE; exact putE; rfl) | (apply wO; apply o_bs0; rfl; intro _) | (apply wO; apply o_bs; rfl; rfl; rfl; rfl; exact rptE; exact filE; intro _) | (apply wO; apply o_call; rfl; kernel_rfl; exact evsE))
    refine c_if rfl (fun e4 => ?_) (fun e4 => ?_)
    · repeat (first | apply c_seq | apply c_reg | (apply wO; apply oc; rfl; exact ydE) | apply w_nil | apply n_cd | (apply wg_t; rfl; rfl) | (apply wg_f; rfl; rfl; rfl; rfl) | (apply wg_u; rfl; rfl; rfl) | (apply c_t; rfl) | (apply c_f; rfl) | apply c_skip | apply c_block | apply n_blk | apply c_exit | apply e_hit | apply e_cd | apply e_lp | (apply e_miss; rfl) | apply c_ret | (apply wO; apply o_box; rfl; rfl; rfl; intro _) | (apply wO; apply o_alloc; rfl; intro _) | (apply wO; apply o_st; rfl; rfl; rfl; (first | exact AggC.s | exact OneC.s); rfl; exact rplE; exact putE; rfl) | (apply wO; apply o_bs0; rfl; intro _) | (apply wO; apply o_bs; rfl; rfl; rfl; rfl; exact rptE; exact filE; intro _) | (apply wO; apply o_call; rfl; kernel_rfl; exact evsE))
      refine c_loopS [2, 3] (fun _ : LnS => []) (fun z => [.row gg 76 0 [] [.slice z.a z.y.queue.length z.c, .string z.y.fates, .int .i64 z.y.used] [], .ow EStr 9 (.slice z.a z.y.queue.length z.c) z.y.queue z.F, .row g 121 0 [] [.slice F.a F.code.length F.c, .int .i64 (z.s.k : Nat), .int .u64 z.s.seed] []]) (fun z : LnS => z.y.fates.size ≤ 41 ∧ z.y.queue.length ≤ 9 ∧ CuOk (B + 200) z.s) (fun z => 9 - z.y.queue.length) ⟨⟨z.y.queue, z.y.fates, u⟩, z.a, z.c, z.F, s3⟩ ⟨z0, by show z.y.queue.length ≤ 9; omega, hp.mono (by omega)⟩ fun z hz => ?_
      obtain ⟨z0, z1, z2⟩ := hz
      repeat (first | apply c_seq | apply c_reg | (apply wO; apply oc; rfl; exact ydE) | apply w_nil | apply n_cd | (apply wg_t; rfl; rfl) | (apply wg_f; rfl; rfl; rfl; rfl) | (apply wg_u; rfl; rfl; rfl) | (apply c_t; rfl) | (apply c_f; rfl) | apply c_skip | apply c_block | apply n_blk | apply c_exit | apply e_hit | apply e_cd | apply e_lp | (apply e_miss; rfl) | apply c_ret | (apply wO; apply o_box; rfl; rfl; rfl; intro _) | (apply wO; apply o_alloc; rfl; intro _) | (apply wO; apply o_st; rfl; rfl; rfl; (first | exact AggC.s | exact OneC.s); rfl; exact rplE; exact putE; rfl) | (apply wO; apply o_bs0; rfl; intro _) | (apply wO; apply o_bs; rfl; rfl; rfl; rfl; exact rptE; exact filE; intro _) | (apply wO; apply o_call; rfl; kernel_rfl; exact evsE))
      refine c_if rfl (fun e5 => ?_) (fun e5 => ?_)
      · repeat (first | apply c_seq | apply c_reg | (apply wO; apply oc; rfl; exact ydE) | apply w_nil | apply n_cd | (apply wg_t; rfl; rfl) | (apply wg_f; rfl; rfl; rfl; rfl) | (apply wg_u; rfl; rfl; rfl) | (apply c_t; rfl) | (apply c_f; rfl) | apply c_skip | apply c_block | apply n_blk | apply c_exit | apply e_hit | apply e_cd | apply e_lp | (apply e_miss; rfl) | apply c_ret | (apply wO; apply o_box; rfl; rfl; rfl; intro _) | (apply wO; apply o_alloc; rfl; intro _) | (apply wO; apply o_st; rfl; rfl; rfl; (first | exact AggC.s | exact OneC.s); rfl; exact rplE; exact putE; rfl) | (apply wO; apply o_bs0; rfl; intro _) | (apply wO; apply o_bs; rfl; rfl; rfl; rfl; exact rptE; exact filE; intro _) | (apply wO; apply o_call; rfl; kernel_rfl; exact evsE))
        apply wO
        refine ap1 (rep_s (s := ⟨#[113]⟩) (by decide)) one_EStr fun a9 c9 F9 => ?_
        repeat (first | apply c_seq | apply c_reg | (apply wO; apply oc; rfl; exact ydE) | apply w_nil | apply n_cd | (apply wg_t; rfl; rfl) | (apply wg_f; rfl; rfl; rfl; rfl) | (apply wg_u; rfl; rfl; rfl) | (apply c_t; rfl) | (apply c_f; rfl) | apply c_skip | apply c_block | apply n_blk | apply c_exit | apply e_hit | apply e_cd | apply e_lp | (apply e_miss; rfl) | apply c_ret | (apply wO; apply o_box; rfl; rfl; rfl; intro _) | (apply wO; apply o_alloc; rfl; intro _) | (apply wO; apply o_st; rfl; rfl; rfl; (first | exact AggC.s | exact OneC.s); rfl; exact rplE; exact putE; rfl) | (apply wO; apply o_bs0; rfl; intro _) | (apply wO; apply o_bs; rfl; rfl; rfl; rfl; exact rptE; exact filE; intro _) | (apply wO; apply o_call; rfl; kernel_rfl; exact evsE))
        refine n_lp ⟨⟨z.y.queue ++ [⟨#[113]⟩], z.y.fates, z.y.used⟩, a9, c9, F9, z.s⟩ ⟨z0, by show (z.y.queue ++ [_]).length ≤ 9; simp; omega, z2⟩ (by show 9 - (z.y.queue ++ [_]).length < _; simp; omega)
      · repeat (first | apply c_seq | apply c_reg | (apply wO; apply oc; rfl; exact ydE) | apply w_nil | apply n_cd | (apply wg_t; rfl; rfl) | (apply wg_f; rfl; rfl; rfl; rfl) | (apply wg_u; rfl; rfl; rfl) | (apply c_t; rfl) | (apply c_f; rfl) | apply c_skip | apply c_block | apply n_blk | apply c_exit | apply e_hit | apply e_cd | apply e_lp | (apply e_miss; rfl) | apply c_ret | (apply wO; apply o_box; rfl; rfl; rfl; intro _) | (apply wO; apply o_alloc; rfl; intro _) | (apply wO; apply o_st; rfl; rfl; rfl; (first | exact AggC.s | exact OneC.s); rfl; exact rplE; exact putE; rfl) | (apply wO; apply o_bs0; rfl; intro _) | (apply wO; apply o_bs; rfl; rfl; rfl; rfl; exact rptE; exact filE; intro _) | (apply wO; apply o_call; rfl; kernel_rfl; exact evsE))
        repeat (first | apply c_seq | apply c_reg | (apply wO; apply oc; rfl; exact ydE) | apply w_nil | apply n_cd | (apply wg_t; rfl; rfl) | (apply wg_f; rfl; rfl; rfl; rfl) | (apply wg_u; rfl; rfl; rfl) | (apply c_t; rfl) | (apply c_f; rfl) | apply c_skip | apply c_block | apply n_blk | apply c_exit | apply e_hit | apply e_cd | apply e_lp | (apply e_miss; rfl) | apply c_ret | (apply wO; apply o_box; rfl; rfl; rfl; intro _) | (apply wO; apply o_alloc; rfl; intro _) | (apply wO; apply o_st; rfl; rfl; rfl; (first | exact AggC.s | exact OneC.s); rfl; exact rplE; exact putE; rfl) | (apply wO; apply o_bs0; rfl; intro _) | (apply wO; apply o_bs; rfl; rfl; rfl; rfl; exact rptE; exact filE; intro _) | (apply wO; apply o_call; rfl; kernel_rfl; exact evsE))
        refine t_read (E := EStr) (xs := z.y.queue) fun F8 => ?_
        refine closeLink z.y (by show z.y.fates.size ≤ maxLen; unfold maxLen; omega) ?_
        refine ret ⟨z.y, z.a, z.c, F8, z.s⟩ ⟨by show z.y.queue.length ≤ 9; omega, by show z.y.fates.size ≤ 100; omega, z2.mono (by omega)⟩ rfl
    repeat (first | apply c_seq | apply c_reg | (apply wO; apply oc; rfl; exact ydE) | apply w_nil | apply n_cd | (apply wg_t; rfl; rfl) | (apply wg_f; rfl; rfl; rfl; rfl) | (apply wg_u; rfl; rfl; rfl) | (apply c_t; rfl) | (apply c_f; rfl) | apply c_skip | apply c_block | apply n_blk | apply c_exit | apply e_hit | apply e_cd | apply e_lp | (apply e_miss; rfl) | apply c_ret | (apply wO; apply o_box; rfl; rfl; rfl; intro _) | (apply wO; apply o_alloc; rfl; intro _) | (apply wO; apply o_st; rfl; rfl; rfl; (first | exact AggC.s | exact OneC.s); rfl; exact rplE; exact putE; rfl) | (apply wO; apply o_bs0; rfl; intro _) | (apply wO; apply o_bs; rfl; rfl; rfl; rfl; exact rptE; exact filE; intro _) | (apply wO; apply o_call; rfl; kernel_rfl; exact evsE))
    refine t_read (E := EStr) (xs := z.y.queue) fun F8 => ?_
    refine closeLink ⟨z.y.queue, z.y.fates, u⟩ (by show z.y.fates.size ≤ maxLen; unfold maxLen; omega) ?_
    refine ret ⟨⟨z.y.queue, z.y.fates, u⟩, _, _, _, s3⟩ ⟨by show z.y.queue.length ≤ 9; omega, by show z.y.fates.size ≤ 100; omega, hp.mono (by omega)⟩ rfl
end Go.Proofs.YtidephmobajikaaDoor
/- Draws of links. -/
namespace Go.Proofs.YtidephmobajikaaDoor
open Go.RowKit
structure LnT where
  y : Link
  a : Option Addr
  c : Nat
  F : List Nat
  t : ByteArray
structure LnN where
  y : Link
  a : Option Addr
  c : Nat
  F : List Nat
  n : Int
structure LnJ where
  y : Link
  a : Option Addr
  c : Nat
  F : List Nat
set_option maxRecDepth 100000 in
theorem DrawSendOn_f (v : Value) (code : List Int) (G : List Nat) : Fn Tryd.prog 55 [v] [.sl EByte v code G] [] (fun (s : LnT) => (s.y.queue.length ≤ 9 ∧ s.y.fates.size ≤ 100) ∧ s.t.size ≤ 100) (fun s => .tuple #[.agg #[.slice s.a s.y.queue.length s.c, .string s.y.fates, .int .i64 s.y.used], .string s.t]) (fun s => [.isv ELink (.agg #[.slice s.a s.y.queue.length s.c, .string s.y.fates, .int .i64 s.y.used]) s.y s.F]) := by
  refine enter Tryd.func55 rfl Tryd.ntmps55 fun w0 => ?_
  refine t_sl (E := EByte) ?_
  rintro a c rfl l1 l2
  repeat (first | apply c_seq | apply c_reg | (apply wO; apply oc; rfl; exact ydE) | apply w_nil | apply n_cd | (apply wg_t; rfl; rfl) | (apply wg_f; rfl; rfl; rfl; rfl) | (apply wg_u; rfl; rfl; rfl) | (apply c_t; rfl) | (apply c_f; rfl) | apply c_skip | apply c_block | apply n_blk | apply c_exit | apply e_hit | apply e_cd | apply e_lp | (apply e_miss; rfl) | apply c_ret | (apply wO; apply o_box; rfl; rfl; rfl; intro _) | (apply wO; apply o_alloc; rfl; intro _) | (apply wO; apply o_st; rfl; rfl; rfl; (first | exact AggC.s | exact OneC.s); rfl; exact rplE; exact putE; rfl) | (apply wO; apply o_bs0; rfl; intro _) | (apply wO; apply o_bs; rfl; rfl; rfl; rfl; exact rptE; exact filE; intro _) | (apply wO; apply o_call; rfl; kernel_rfl; exact evsE))
  refine cf (link_f 0 _ ⟨code, a, c, G⟩ ⟨0, 0⟩ ⟨Nat.le_refl _, by decide, by decide⟩ (by omega)) fun z hz => ?_
  refine t_app ?_
  obtain ⟨hz1, hz2, hz3⟩ := hz
  repeat (first | apply c_seq | apply c_reg | (apply wO; apply oc; rfl; exact ydE) | apply w_nil | apply n_cd | (apply wg_t; rfl; rfl) | (apply wg_f; rfl; rfl; rfl; rfl) | (apply wg_u; rfl; rfl; rfl) | (apply c_t; rfl) | (apply c_f; rfl) | apply c_skip | apply c_block | apply n_blk | apply c_exit | apply e_hit | apply e_cd | apply e_lp | (apply e_miss; rfl) | apply c_ret | (apply wO; apply o_box; rfl; rfl; rfl; intro _) | (apply wO; apply o_alloc; rfl; intro _) | (apply wO; apply o_st; rfl; rfl; rfl; (first | exact AggC.s | exact OneC.s); rfl; exact rplE; exact putE; rfl) | (apply wO; apply o_bs0; rfl; intro _) | (apply wO; apply o_bs; rfl; rfl; rfl; rfl; exact rptE; exact filE; intro _) | (apply wO; apply o_call; rfl; kernel_rfl; exact evsE))
  refine d_start [0] [] ?_
  refine dt 0 ?_
  refine dt 1 ?_
  refine dO 2 (by kernel_rfl) (by rw [List.getElem?_toArray]; rfl) ?_
  apply o_call; rfl; kernel_rfl; exact evsE
  refine cf (shortText_f _ _ ⟨code, a, c, G⟩ z.s hz3 (by omega)) fun q hq => ?_
  refine t_app ?_
  refine dk ?_
  refine dO 3 (by kernel_rfl) (by rw [List.getElem?_toArray]; rfl) ?_
  apply o_st; rfl; rfl; rfl; (first | exact AggC.s | exact OneC.s); rfl; exact rplE; exact putE; rfl
  refine dk ?_
  refine dt 4 ?_
  refine dd ?_
  repeat (first | apply c_seq | apply c_reg | (apply wO; apply oc; rfl; exact ydE) | apply w_nil | apply n_cd | (apply wg_t; rfl; rfl) | (apply wg_f; rfl; rfl; rfl; rfl) | (apply wg_u; rfl; rfl; rfl) | (apply c_t; rfl) | (apply c_f; rfl) | apply c_skip | apply c_block | apply n_blk | apply c_exit | apply e_hit | apply e_cd | apply e_lp | (apply e_miss; rfl) | apply c_ret | (apply wO; apply o_box; rfl; rfl; rfl; intro _) | (apply wO; apply o_alloc; rfl; intro _) | (apply wO; apply o_st; rfl; rfl; rfl; (first | exact AggC.s | exact OneC.s); rfl; exact rplE; exact putE; rfl) | (apply wO; apply o_bs0; rfl; intro _) | (apply wO; apply o_bs; rfl; rfl; rfl; rfl; exact rptE; exact filE; intro _) | (apply wO; apply o_call; rfl; kernel_rfl; exact evsE))
  refine ret ⟨z.y, z.a, z.c, z.F, q.1⟩ ⟨⟨hz1, hz2⟩, hq.1⟩ rfl
set_option maxRecDepth 100000 in
theorem DrawDropFrom_f (v : Value) (code : List Int) (G : List Nat) : Fn Tryd.prog 66 [v] [.sl EByte v code G] [] (fun (s : LnN) => s.y.queue.length ≤ 9 ∧ s.y.fates.size ≤ 100) (fun s => .tuple #[.agg #[.slice s.a s.y.queue.length s.c, .string s.y.fates, .int .i64 s.y.used], .int .i64 s.n]) (fun s => [.isv ELink (.agg #[.slice s.a s.y.queue.length s.c, .string s.y.fates, .int .i64 s.y.used]) s.y s.F]) := by
  refine enter Tryd.func66 rfl Tryd.ntmps66 fun w0 => ?_
  refine t_sl (E := EByte) ?_
  rintro a c rfl l1 l2
  repeat (first | apply c_seq | apply c_reg | (apply wO; apply oc; rfl; exact ydE) | apply w_nil | apply n_cd | (apply wg_t; rfl; rfl) | (apply wg_f; rfl; rfl; rfl; rfl) | (apply wg_u; rfl; rfl; rfl) | (apply c_t; rfl) | (apply c_f; rfl) | apply c_skip | apply c_block | apply n_blk | apply c_exit | apply e_hit | apply e_cd | apply e_lp | (apply e_miss; rfl) | apply c_ret | (apply wO; apply o_box; rfl; rfl; rfl; intro _) | (apply wO; apply o_alloc; rfl; intro _) | (apply wO; apply o_st; rfl; rfl; rfl; (first | exact AggC.s | exact OneC.s); rfl; exact rplE; exact putE; rfl) | (apply wO; apply o_bs0; rfl; intro _) | (apply wO; apply o_bs; rfl; rfl; rfl; rfl; exact rptE; exact filE; intro _) | (apply wO; apply o_call; rfl; kernel_rfl; exact evsE))
  refine cf (link_f 0 _ ⟨code, a, c, G⟩ ⟨0, 0⟩ ⟨Nat.le_refl _, by decide, by decide⟩ (by omega)) fun z hz => ?_
  refine t_app ?_
  obtain ⟨hz1, hz2, hz3⟩ := hz
  repeat (first | apply c_seq | apply c_reg | (apply wO; apply oc; rfl; exact ydE) | apply w_nil | apply n_cd | (apply wg_t; rfl; rfl) | (apply wg_f; rfl; rfl; rfl; rfl) | (apply wg_u; rfl; rfl; rfl) | (apply c_t; rfl) | (apply c_f; rfl) | apply c_skip | apply c_block | apply n_blk | apply c_exit | apply e_hit | apply e_cd | apply e_lp | (apply e_miss; rfl) | apply c_ret | (apply wO; apply o_box; rfl; rfl; rfl; intro _) | (apply wO; apply o_alloc; rfl; intro _) | (apply wO; apply o_st; rfl; rfl; rfl; (first | exact AggC.s | exact OneC.s); rfl; exact rplE; exact putE; rfl) | (apply wO; apply o_bs0; rfl; intro _) | (apply wO; apply o_bs; rfl; rfl; rfl; rfl; exact rptE; exact filE; intro _) | (apply wO; apply o_call; rfl; kernel_rfl; exact evsE))
  refine d_start [0] [] ?_
  refine dt 0 ?_
  refine dt 1 ?_
  refine dt 2 ?_
  refine dt 3 ?_
  refine dt 4 ?_
  refine dt 5 ?_
  refine dt 7 ?_
  refine dO 6 (by kernel_rfl) (by rw [List.getElem?_toArray]; rfl) ?_
  apply o_call; rfl; kernel_rfl; exact evsE
  refine cf (pick_f _ _ ⟨code, a, c, G⟩ ((z.y.queue.length : Int) + 1) z.s hz3 (by omega) (by omega)) fun q hq => ?_
  refine t_app ?_
  have hq1 : q.1 ≤ 9 := by have := hq.1; omega
  refine dk ?_
  refine dO 8 (by kernel_rfl) (by rw [List.getElem?_toArray]; rfl) ?_
  apply o_call; rfl; kernel_rfl; exact evsE
  refine cf (pick_f _ _ ⟨code, a, c, G⟩ 12 q.2 hq.2 (by omega) (by omega)) fun r hr => ?_
  refine t_app ?_
  have hr1 : r.1 ≤ 11 := by have := hr.1; omega
  refine dk ?_
  refine dt 9 ?_
  refine dt 10 ?_
  refine dO 11 (by kernel_rfl) (by rw [List.getElem?_toArray]; rfl) ?_
  apply o_st; rfl; rfl; rfl; (first | exact AggC.s | exact OneC.s); rfl; exact rplE; exact putE; rfl
  refine dk ?_
  refine dt 12 ?_
  refine dd ?_
  repeat (first | apply c_seq | apply c_reg | (apply wO; apply oc; rfl; exact ydE) | apply w_nil | apply n_cd | (apply wg_t; rfl; rfl) | (apply wg_f; rfl; rfl; rfl; rfl) | (apply wg_u; rfl; rfl; rfl) | (apply c_t; rfl) | (apply c_f; rfl) | apply c_skip | apply c_block | apply n_blk | apply c_exit | apply e_hit | apply e_cd | apply e_lp | (apply e_miss; rfl) | apply c_ret | (apply wO; apply o_box; rfl; rfl; rfl; intro _) | (apply wO; apply o_alloc; rfl; intro _) | (apply wO; apply o_st; rfl; rfl; rfl; (first | exact AggC.s | exact OneC.s); rfl; exact rplE; exact putE; rfl) | (apply wO; apply o_bs0; rfl; intro _) | (apply wO; apply o_bs; rfl; rfl; rfl; rfl; exact rptE; exact filE; intro _) | (apply wO; apply o_call; rfl; kernel_rfl; exact evsE))
  refine ret ⟨z.y, z.a, z.c, z.F, (q.1 : Int) - (r.1 : Int) / 11⟩ ⟨hz1, hz2⟩ rfl
set_option maxRecDepth 100000 in
theorem DrawValidLink_f (v : Value) (code : List Int) (G : List Nat) : Fn Tryd.prog 150 [v] [.sl EByte v code G] [] (fun (s : LnJ) => s.y.queue.length ≤ 9 ∧ s.y.fates.size ≤ 100) (fun s => .agg #[.slice s.a s.y.queue.length s.c, .string s.y.fates, .int .i64 s.y.used]) (fun s => [.isv ELink (.agg #[.slice s.a s.y.queue.length s.c, .string s.y.fates, .int .i64 s.y.used]) s.y s.F]) := by
  refine enter Tryd.func150 rfl Tryd.ntmps150 fun w0 => ?_
  refine t_sl (E := EByte) ?_
  rintro a c rfl l1 l2
  repeat (first | apply c_seq | apply c_reg | (apply wO; apply oc; rfl; exact ydE) | apply w_nil | apply n_cd | (apply wg_t; rfl; rfl) | (apply wg_f; rfl; rfl; rfl; rfl) | (apply wg_u; rfl; rfl; rfl) | (apply c_t; rfl) | (apply c_f; rfl) | apply c_skip | apply c_block | apply n_blk | apply c_exit | apply e_hit | apply e_cd | apply e_lp | (apply e_miss; rfl) | apply c_ret | (apply wO; apply o_box; rfl; rfl; rfl; intro _) | (apply wO; apply o_alloc; rfl; intro _) | (apply wO; apply o_st; rfl; rfl; rfl; (first | exact AggC.s | exact OneC.s); rfl; exact rplE; exact putE; rfl) | (apply wO; apply o_bs0; rfl; intro _) | (apply wO; apply o_bs; rfl; rfl; rfl; rfl; exact rptE; exact filE; intro _) | (apply wO; apply o_call; rfl; kernel_rfl; exact evsE))
  refine cf (link_f 0 _ ⟨code, a, c, G⟩ ⟨0, 0⟩ ⟨Nat.le_refl _, by decide, by decide⟩ (by omega)) fun z hz => ?_
  refine t_app ?_
  obtain ⟨hz1, hz2, hz3⟩ := hz
  repeat (first | apply c_seq | apply c_reg | (apply wO; apply oc; rfl; exact ydE) | apply w_nil | apply n_cd | (apply wg_t; rfl; rfl) | (apply wg_f; rfl; rfl; rfl; rfl) | (apply wg_u; rfl; rfl; rfl) | (apply c_t; rfl) | (apply c_f; rfl) | apply c_skip | apply c_block | apply n_blk | apply c_exit | apply e_hit | apply e_cd | apply e_lp | (apply e_miss; rfl) | apply c_ret | (apply wO; apply o_box; rfl; rfl; rfl; intro _) | (apply wO; apply o_alloc; rfl; intro _) | (apply wO; apply o_st; rfl; rfl; rfl; (first | exact AggC.s | exact OneC.s); rfl; exact rplE; exact putE; rfl) | (apply wO; apply o_bs0; rfl; intro _) | (apply wO; apply o_bs; rfl; rfl; rfl; rfl; exact rptE; exact filE; intro _) | (apply wO; apply o_call; rfl; kernel_rfl; exact evsE))
  refine ret ⟨z.y, z.a, z.c, z.F⟩ ⟨hz1, hz2⟩ rfl
set_option maxRecDepth 100000 in
theorem DrawTakeFrom_f (v : Value) (code : List Int) (G : List Nat) : Fn Tryd.prog 62 [v] [.sl EByte v code G] [] (fun (s : LnJ) => s.y.queue.length ≤ 9 ∧ s.y.fates.size ≤ 100) (fun s => .agg #[.slice s.a s.y.queue.length s.c, .string s.y.fates, .int .i64 s.y.used]) (fun s => [.isv ELink (.agg #[.slice s.a s.y.queue.length s.c, .string s.y.fates, .int .i64 s.y.used]) s.y s.F]) := by
  refine enter Tryd.func62 rfl Tryd.ntmps62 fun w0 => ?_
  repeat (first | apply c_seq | apply c_reg | (apply wO; apply oc; rfl; exact ydE) | apply w_nil | apply n_cd | (apply wg_t; rfl; rfl) | (apply wg_f; rfl; rfl; rfl; rfl) | (apply wg_u; rfl; rfl; rfl) | (apply c_t; rfl) | (apply c_f; rfl) | apply c_skip | apply c_block | apply n_blk | apply c_exit | apply e_hit | apply e_cd | apply e_lp | (apply e_miss; rfl) | apply c_ret | (apply wO; apply o_box; rfl; rfl; rfl; intro _) | (apply wO; apply o_alloc; rfl; intro _) | (apply wO; apply o_st; rfl; rfl; rfl; (first | exact AggC.s | exact OneC.s); rfl; exact rplE; exact putE; rfl) | (apply wO; apply o_bs0; rfl; intro _) | (apply wO; apply o_bs; rfl; rfl; rfl; rfl; exact rptE; exact filE; intro _) | (apply wO; apply o_call; rfl; kernel_rfl; exact evsE))
  refine cf (DrawValidLink_f v code G) fun z hz => ?_
  refine t_app ?_
  repeat (first | apply c_seq | apply c_reg | (apply wO; apply oc; rfl; exact ydE) | apply w_nil | apply n_cd | (apply wg_t; rfl; rfl) | (apply wg_f; rfl; rfl; rfl; rfl) | (apply wg_u; rfl; rfl; rfl) | (apply c_t; rfl) | (apply c_f; rfl) | apply c_skip | apply c_block | apply n_blk | apply c_exit | apply e_hit | apply e_cd | apply e_lp | (apply e_miss; rfl) | apply c_ret | (apply wO; apply o_box; rfl; rfl; rfl; intro _) | (apply wO; apply o_alloc; rfl; intro _) | (apply wO; apply o_st; rfl; rfl; rfl; (first | exact AggC.s | exact OneC.s); rfl; exact rplE; exact putE; rfl) | (apply wO; apply o_bs0; rfl; intro _) | (apply wO; apply o_bs; rfl; rfl; rfl; rfl; exact rptE; exact filE; intro _) | (apply wO; apply o_call; rfl; kernel_rfl; exact evsE))
  refine ret z hz rfl
set_option maxRecDepth 100000 in
theorem DrawNewLink_f (v : Value) (code : List Int) (G : List Nat) : Fn Tryd.prog 68 [v] [.sl EByte v code G] [] (fun (s : ByteArray) => s.size ≤ 100) (fun s => .string s) (fun _ => []) := by
  refine enter Tryd.func68 rfl Tryd.ntmps68 fun w0 => ?_
  refine t_sl (E := EByte) ?_
  rintro a c rfl l1 l2
  repeat (first | apply c_seq | apply c_reg | (apply wO; apply oc; rfl; exact ydE) | apply w_nil | apply n_cd | (apply wg_t; rfl; rfl) | (apply wg_f; rfl; rfl; rfl; rfl) | (apply wg_u; rfl; rfl; rfl) | (apply c_t; rfl) | (apply c_f; rfl) | apply c_skip | apply c_block | apply n_blk | apply c_exit | apply e_hit | apply e_cd | apply e_lp | (apply e_miss; rfl) | apply c_ret | (apply wO; apply o_box; rfl; rfl; rfl; intro _) | (apply wO; apply o_alloc; rfl; intro _) | (apply wO; apply o_st; rfl; rfl; rfl; (first | exact AggC.s | exact OneC.s); rfl; exact rplE; exact putE; rfl) | (apply wO; apply o_bs0; rfl; intro _) | (apply wO; apply o_bs; rfl; rfl; rfl; rfl; exact rptE; exact filE; intro _) | (apply wO; apply o_call; rfl; kernel_rfl; exact evsE))
  refine cf (link_f 0 _ ⟨code, a, c, G⟩ ⟨0, 0⟩ ⟨Nat.le_refl _, by decide, by decide⟩ (by omega)) fun z hz => ?_
  refine t_app ?_
  obtain ⟨hz1, hz2, hz3⟩ := hz
  repeat (first | apply c_seq | apply c_reg | (apply wO; apply oc; rfl; exact ydE) | apply w_nil | apply n_cd | (apply wg_t; rfl; rfl) | (apply wg_f; rfl; rfl; rfl; rfl) | (apply wg_u; rfl; rfl; rfl) | (apply c_t; rfl) | (apply c_f; rfl) | apply c_skip | apply c_block | apply n_blk | apply c_exit | apply e_hit | apply e_cd | apply e_lp | (apply e_miss; rfl) | apply c_ret | (apply wO; apply o_box; rfl; rfl; rfl; intro _) | (apply wO; apply o_alloc; rfl; intro _) | (apply wO; apply o_st; rfl; rfl; rfl; (first | exact AggC.s | exact OneC.s); rfl; exact rplE; exact putE; rfl) | (apply wO; apply o_bs0; rfl; intro _) | (apply wO; apply o_bs; rfl; rfl; rfl; rfl; exact rptE; exact filE; intro _) | (apply wO; apply o_call; rfl; kernel_rfl; exact evsE))
  refine ret z.y.fates hz2 rfl
end Go.Proofs.YtidephmobajikaaDoor
/- The law FnLinks: the walk. -/
namespace Go.Proofs.YtidephmobajikaaDoor
open Go.RowKit
theorem law_sendOn (x : Link) (s : ByteArray) : (resSendOn x s).2 = true → goodLink x = true ∧ goodLink (resSendOn x s).1 = true ∧ (fateAt x.fates x.used = 108 ↔ (resSendOn x s).1.queue.length = x.queue.length) ∧ x.queue.length ≤ (resSendOn x s).1.queue.length ∧ (resSendOn x s).1.queue.length ≤ x.queue.length + 2 ∧ ((resSendOn x s).1.queue.length = x.queue.length + 2 → fateAt x.fates x.used = 100) ∧ x.used ≤ (resSendOn x s).1.used ∧ (resSendOn x s).1.used ≤ x.used + 1 ∧ (fateAt x.fates x.used = 107 → ∀ h : ((((resSendOn x s).1.queue.length : Nat) : Int) - 1).toNat < (resSendOn x s).1.queue.length, (resSendOn x s).1.queue[((((resSendOn x s).1.queue.length : Nat) : Int) - 1).toNat] = s) ∧ (fateAt x.fates x.used = 107 → 0 < (resSendOn x s).1.queue.length) := by
  unfold resSendOn
  split
  · rename_i h
    intro _
    unfold okSendOn at h
    simp only [Bool.and_eq_true] at h
    obtain ⟨h1, h2⟩ := h
    have hg := sent_good h1 h2
    obtain ⟨⟨⟨⟨q8, -⟩, f40⟩, -⟩, u0, u1⟩ := goodLink_iff.1 h1
    refine ⟨h1, hg, ?_⟩
    have hu : (sentL x s).used = min (x.used + 1) x.fates.size := rfl
    show (fateAt x.fates x.used = 108 ↔ (sentQ x.queue (fateAt x.fates x.used) s).length = x.queue.length) ∧ x.queue.length ≤ (sentQ x.queue (fateAt x.fates x.used) s).length ∧ (sentQ x.queue (fateAt x.fates x.used) s).length ≤ x.queue.length + 2 ∧ ((sentQ x.queue (fateAt x.fates x.used) s).length = x.queue.length + 2 → fateAt x.fates x.used = 100) ∧ x.used ≤ min (x.used + 1) x.fates.size ∧ min (x.used + 1) x.fates.size ≤ x.used + 1 ∧ (fateAt x.fates x.used = 107 → ∀ h : ((((sentQ x.queue (fateAt x.fates x.used) s).length : Nat) : Int) - 1).toNat < (sentQ x.queue (fateAt x.fates x.used) s).length, (sentQ x.queue (fateAt x.fates x.used) s)[((((sentQ x.queue (fateAt x.fates x.used) s).length : Nat) : Int) - 1).toNat] = s) ∧ (fateAt x.fates x.used = 107 → 0 < (sentQ x.queue (fateAt x.fates x.used) s).length)
    generalize fateAt x.fates x.used = f
    have hl : (f = 108 → (sentQ x.queue f s).length = x.queue.length) ∧ (¬ f = 108 → x.queue.length + 1 ≤ (sentQ x.queue f s).length) ∧ (sentQ x.queue f s).length ≤ x.queue.length + 2 ∧ (¬ f = 100 → (sentQ x.queue f s).length ≤ x.queue.length + 1) ∧ (f = 107 → sentQ x.queue f s = x.queue ++ [s]) := by
      unfold sentQ
      refine ⟨fun e => by rw [if_pos e], fun e => ?_, ?_, fun e => ?_, fun e => by subst e; rfl⟩
      · rw [if_neg e]
        split
        · simp; omega
        · split <;> simp
      · split
        · omega
        · split
          · simp; omega
          · split <;> simp
      · split
        · omega
        · split
          · simp; omega
          · rw [if_neg (by omega)]; simp
    obtain ⟨l1, l2, l3, l4, l5⟩ := hl
    refine ⟨⟨l1, fun e => ?_⟩, ?_, l3, fun e => ?_, by omega, by omega, fun e h => ?_, fun e => ?_⟩
    · by_cases hf : f = 108
      · exact hf
      · have := l2 hf; omega
    · by_cases hf : f = 108
      · rw [l1 hf]; exact Nat.le_refl _
      · have := l2 hf; omega
    · by_cases hf : f = 100
      · exact hf
      · have := l4 hf; omega
    · have e5 := l5 e
      simp only [e5]
      have ei : ((((x.queue ++ [s]).length : Nat) : Int) - 1).toNat = x.queue.length := by simp
      simp only [ei]
      simp
    · rw [l5 e]; simp
  · intro h; cases h
theorem law_take (x : Link) : (resTakeFrom x).2.2 = true → resDropFrom x 0 = ((resTakeFrom x).1, true) ∧ 0 < x.queue.length ∧ ∀ h : 0 < x.queue.length, (resTakeFrom x).2.1 = x.queue[0] := by
  unfold resTakeFrom
  split
  · rename_i h
    intro _
    unfold okTakeFrom at h
    simp only [Bool.and_eq_true, decide_eq_true_eq] at h
    obtain ⟨h1, h2⟩ := h
    refine ⟨?_, h2, fun h => ?_⟩
    · unfold resDropFrom okDropFrom btw
      rw [h1, decide_eq_true (show (0 : Int) ≤ 0 by omega), decide_eq_true (show (0 : Int) ≤ (x.queue.length : Int) - 1 by omega)]
      simp
    · dsimp only
      rw [List.headD_eq_head?_getD, List.head?_eq_getElem?, List.getElem?_eq_getElem h]; rfl
  · intro h; cases h
set_option maxRecDepth 100000 in
theorem links_f (v : Value) (code : List Int) (G : List Nat) : Fn Tryd.prog 6 [v] [.sl EByte v code G] [] (fun (_ : Unit) => True) (fun _ => .bool true) (fun _ => []) := by
  refine enter Tryd.func6 rfl Tryd.ntmps6 fun w0 => ?_
  repeat (first | apply c_seq | apply c_reg | (apply wO; apply oc; rfl; exact ydE) | apply w_nil | apply n_cd | (apply wg_t; rfl; rfl) | (apply wg_f; rfl; rfl; rfl; rfl) | (apply wg_u; rfl; rfl; rfl) | (apply c_t; rfl) | (apply c_f; rfl) | apply c_skip | apply c_block | apply n_blk | apply c_exit | apply e_hit | apply e_cd | apply e_lp | (apply e_miss; rfl) | apply c_ret | (apply wO; apply o_box; rfl; rfl; rfl; intro _) | (apply wO; apply o_alloc; rfl; intro _) | (apply wO; apply o_st; rfl; rfl; rfl; (first | exact AggC.s | exact OneC.s); rfl; exact rplE; exact putE; rfl) | (apply wO; apply o_bs0; rfl; intro _) | (apply wO; apply o_bs; rfl; rfl; rfl; rfl; exact rptE; exact filE; intro _) | (apply wO; apply o_call; rfl; kernel_rfl; exact evsE))
  refine cb (fun w st => (rBig_f v code G).val w (hol1 (st.get (p := .sl EByte v code G) (by simp)))) ?_
  repeat (first | apply c_seq | apply c_reg | (apply wO; apply oc; rfl; exact ydE) | apply w_nil | apply n_cd | (apply wg_t; rfl; rfl) | (apply wg_f; rfl; rfl; rfl; rfl) | (apply wg_u; rfl; rfl; rfl) | (apply c_t; rfl) | (apply c_f; rfl) | apply c_skip | apply c_block | apply n_blk | apply c_exit | apply e_hit | apply e_cd | apply e_lp | (apply e_miss; rfl) | apply c_ret | (apply wO; apply o_box; rfl; rfl; rfl; intro _) | (apply wO; apply o_alloc; rfl; intro _) | (apply wO; apply o_st; rfl; rfl; rfl; (first | exact AggC.s | exact OneC.s); rfl; exact rplE; exact putE; rfl) | (apply wO; apply o_bs0; rfl; intro _) | (apply wO; apply o_bs; rfl; rfl; rfl; rfl; exact rptE; exact filE; intro _) | (apply wO; apply o_call; rfl; kernel_rfl; exact evsE))
  refine c_if rfl (fun h => ?_) (fun h => ?_)
  · repeat (first | apply c_seq | apply c_reg | (apply wO; apply oc; rfl; exact ydE) | apply w_nil | apply n_cd | (apply wg_t; rfl; rfl) | (apply wg_f; rfl; rfl; rfl; rfl) | (apply wg_u; rfl; rfl; rfl) | (apply c_t; rfl) | (apply c_f; rfl) | apply c_skip | apply c_block | apply n_blk | apply c_exit | apply e_hit | apply e_cd | apply e_lp | (apply e_miss; rfl) | apply c_ret | (apply wO; apply o_box; rfl; rfl; rfl; intro _) | (apply wO; apply o_alloc; rfl; intro _) | (apply wO; apply o_st; rfl; rfl; rfl; (first | exact AggC.s | exact OneC.s); rfl; exact rplE; exact putE; rfl) | (apply wO; apply o_bs0; rfl; intro _) | (apply wO; apply o_bs; rfl; rfl; rfl; rfl; exact rptE; exact filE; intro _) | (apply wO; apply o_call; rfl; kernel_rfl; exact evsE))
    refine ret () trivial rfl
  repeat (first | apply c_seq | apply c_reg | (apply wO; apply oc; rfl; exact ydE) | apply w_nil | apply n_cd | (apply wg_t; rfl; rfl) | (apply wg_f; rfl; rfl; rfl; rfl) | (apply wg_u; rfl; rfl; rfl) | (apply c_t; rfl) | (apply c_f; rfl) | apply c_skip | apply c_block | apply n_blk | apply c_exit | apply e_hit | apply e_cd | apply e_lp | (apply e_miss; rfl) | apply c_ret | (apply wO; apply o_box; rfl; rfl; rfl; intro _) | (apply wO; apply o_alloc; rfl; intro _) | (apply wO; apply o_st; rfl; rfl; rfl; (first | exact AggC.s | exact OneC.s); rfl; exact rplE; exact putE; rfl) | (apply wO; apply o_bs0; rfl; intro _) | (apply wO; apply o_bs; rfl; rfl; rfl; rfl; exact rptE; exact filE; intro _) | (apply wO; apply o_call; rfl; kernel_rfl; exact evsE))
  refine cf (DrawSendOn_f v code G) fun z hz => ?_
  refine t_app ?_
  obtain ⟨⟨hz1, hz2⟩, hz3⟩ := hz
  have hz4 : z.t.size ≤ maxLen := by unfold maxLen; omega
  repeat (first | apply c_seq | apply c_reg | (apply wO; apply oc; rfl; exact ydE) | apply w_nil | apply n_cd | (apply wg_t; rfl; rfl) | (apply wg_f; rfl; rfl; rfl; rfl) | (apply wg_u; rfl; rfl; rfl) | (apply c_t; rfl) | (apply c_f; rfl) | apply c_skip | apply c_block | apply n_blk | apply c_exit | apply e_hit | apply e_cd | apply e_lp | (apply e_miss; rfl) | apply c_ret | (apply wO; apply o_box; rfl; rfl; rfl; intro _) | (apply wO; apply o_alloc; rfl; intro _) | (apply wO; apply o_st; rfl; rfl; rfl; (first | exact AggC.s | exact OneC.s); rfl; exact rplE; exact putE; rfl) | (apply wO; apply o_bs0; rfl; intro _) | (apply wO; apply o_bs; rfl; rfl; rfl; rfl; exact rptE; exact filE; intro _) | (apply wO; apply o_call; rfl; kernel_rfl; exact evsE))
  have hr := law_sendOn z.y z.t
  have hP := SendOn_f z.y z.t (.agg #[.slice z.a z.y.queue.length z.c, .string z.y.fates, .int .i64 z.y.used]) z.F hz4
  have hQ := specSendOn_f z.y z.t (.agg #[.slice z.a z.y.queue.length z.c, .string z.y.fates, .int .i64 z.y.used]) z.F hz4
  obtain ⟨W, b, e⟩ : ∃ W b, resSendOn z.y z.t = (W, b) := ⟨_, _, rfl⟩
  rw [e] at hr hP hQ
  dsimp only at hr hP hQ
  refine cf hP fun p _ => ?_
  refine t_app ?_
  obtain ⟨a5, c5, F5⟩ := p
  dsimp only
  repeat (first | apply c_seq | apply c_reg | (apply wO; apply oc; rfl; exact ydE) | apply w_nil | apply n_cd | (apply wg_t; rfl; rfl) | (apply wg_f; rfl; rfl; rfl; rfl) | (apply wg_u; rfl; rfl; rfl) | (apply c_t; rfl) | (apply c_f; rfl) | apply c_skip | apply c_block | apply n_blk | apply c_exit | apply e_hit | apply e_cd | apply e_lp | (apply e_miss; rfl) | apply c_ret | (apply wO; apply o_box; rfl; rfl; rfl; intro _) | (apply wO; apply o_alloc; rfl; intro _) | (apply wO; apply o_st; rfl; rfl; rfl; (first | exact AggC.s | exact OneC.s); rfl; exact rplE; exact putE; rfl) | (apply wO; apply o_bs0; rfl; intro _) | (apply wO; apply o_bs; rfl; rfl; rfl; rfl; exact rptE; exact filE; intro _) | (apply wO; apply o_call; rfl; kernel_rfl; exact evsE))
  refine cf hQ fun q _ => ?_
  refine t_app ?_
  repeat (first | apply c_seq | apply c_reg | (apply wO; apply oc; rfl; exact ydE) | apply w_nil | apply n_cd | (apply wg_t; rfl; rfl) | (apply wg_f; rfl; rfl; rfl; rfl) | (apply wg_u; rfl; rfl; rfl) | (apply c_t; rfl) | (apply c_f; rfl) | apply c_skip | apply c_block | apply n_blk | apply c_exit | apply e_hit | apply e_cd | apply e_lp | (apply e_miss; rfl) | apply c_ret | (apply wO; apply o_box; rfl; rfl; rfl; intro _) | (apply wO; apply o_alloc; rfl; intro _) | (apply wO; apply o_st; rfl; rfl; rfl; (first | exact AggC.s | exact OneC.s); rfl; exact rplE; exact putE; rfl) | (apply wO; apply o_bs0; rfl; intro _) | (apply wO; apply o_bs; rfl; rfl; rfl; rfl; exact rptE; exact filE; intro _) | (apply wO; apply o_call; rfl; kernel_rfl; exact evsE))
  refine openOLink (x := W) ?_
  rintro a6 c6 F6 e6 m1 m2
  cases e6
  refine t_read (xs := W.queue) fun F7 => ?_
  refine closeLink W m1 (a1 := a5) ?_
  refine wg_if rfl rfl (fun h1 => ?_) (fun h1 => ?_)
  · exact absurd rfl h1
  repeat (first | apply c_seq | apply c_reg | (apply wO; apply oc; rfl; exact ydE) | apply w_nil | apply n_cd | (apply wg_t; rfl; rfl) | (apply wg_f; rfl; rfl; rfl; rfl) | (apply wg_u; rfl; rfl; rfl) | (apply c_t; rfl) | (apply c_f; rfl) | apply c_skip | apply c_block | apply n_blk | apply c_exit | apply e_hit | apply e_cd | apply e_lp | (apply e_miss; rfl) | apply c_ret | (apply wO; apply o_box; rfl; rfl; rfl; intro _) | (apply wO; apply o_alloc; rfl; intro _) | (apply wO; apply o_st; rfl; rfl; rfl; (first | exact AggC.s | exact OneC.s); rfl; exact rplE; exact putE; rfl) | (apply wO; apply o_bs0; rfl; intro _) | (apply wO; apply o_bs; rfl; rfl; rfl; rfl; exact rptE; exact filE; intro _) | (apply wO; apply o_call; rfl; kernel_rfl; exact evsE))
  refine cf (rLinks_f _ _ W _ _) fun _ _ => ?_
  refine t_app ?_
  have hN := NextFate_f z.y (.agg #[.slice z.a z.y.queue.length z.c, .string z.y.fates, .int .i64 z.y.used]) z.F
  have hO := specNextFate_f z.y (.agg #[.slice z.a z.y.queue.length z.c, .string z.y.fates, .int .i64 z.y.used]) z.F
  repeat (first | apply c_seq | apply c_reg | (apply wO; apply oc; rfl; exact ydE) | apply w_nil | apply n_cd | (apply wg_t; rfl; rfl) | (apply wg_f; rfl; rfl; rfl; rfl) | (apply wg_u; rfl; rfl; rfl) | (apply c_t; rfl) | (apply c_f; rfl) | apply c_skip | apply c_block | apply n_blk | apply c_exit | apply e_hit | apply e_cd | apply e_lp | (apply e_miss; rfl) | apply c_ret | (apply wO; apply o_box; rfl; rfl; rfl; intro _) | (apply wO; apply o_alloc; rfl; intro _) | (apply wO; apply o_st; rfl; rfl; rfl; (first | exact AggC.s | exact OneC.s); rfl; exact rplE; exact putE; rfl) | (apply wO; apply o_bs0; rfl; intro _) | (apply wO; apply o_bs; rfl; rfl; rfl; rfl; exact rptE; exact filE; intro _) | (apply wO; apply o_call; rfl; kernel_rfl; exact evsE))
  refine cf hN fun _ _ => ?_
  refine t_app ?_
  repeat (first | apply c_seq | apply c_reg | (apply wO; apply oc; rfl; exact ydE) | apply w_nil | apply n_cd | (apply wg_t; rfl; rfl) | (apply wg_f; rfl; rfl; rfl; rfl) | (apply wg_u; rfl; rfl; rfl) | (apply c_t; rfl) | (apply c_f; rfl) | apply c_skip | apply c_block | apply n_blk | apply c_exit | apply e_hit | apply e_cd | apply e_lp | (apply e_miss; rfl) | apply c_ret | (apply wO; apply o_box; rfl; rfl; rfl; intro _) | (apply wO; apply o_alloc; rfl; intro _) | (apply wO; apply o_st; rfl; rfl; rfl; (first | exact AggC.s | exact OneC.s); rfl; exact rplE; exact putE; rfl) | (apply wO; apply o_bs0; rfl; intro _) | (apply wO; apply o_bs; rfl; rfl; rfl; rfl; exact rptE; exact filE; intro _) | (apply wO; apply o_call; rfl; kernel_rfl; exact evsE))
  refine cf hO fun _ _ => ?_
  refine t_app ?_
  repeat (first | apply c_seq | apply c_reg | (apply wO; apply oc; rfl; exact ydE) | apply w_nil | apply n_cd | (apply wg_t; rfl; rfl) | (apply wg_f; rfl; rfl; rfl; rfl) | (apply wg_u; rfl; rfl; rfl) | (apply c_t; rfl) | (apply c_f; rfl) | apply c_skip | apply c_block | apply n_blk | apply c_exit | apply e_hit | apply e_cd | apply e_lp | (apply e_miss; rfl) | apply c_ret | (apply wO; apply o_box; rfl; rfl; rfl; intro _) | (apply wO; apply o_alloc; rfl; intro _) | (apply wO; apply o_st; rfl; rfl; rfl; (first | exact AggC.s | exact OneC.s); rfl; exact rplE; exact putE; rfl) | (apply wO; apply o_bs0; rfl; intro _) | (apply wO; apply o_bs; rfl; rfl; rfl; rfl; exact rptE; exact filE; intro _) | (apply wO; apply o_call; rfl; kernel_rfl; exact evsE))
  refine wg_if rfl rfl (fun h2 => ?_) (fun h2 => ?_)
  · exact absurd rfl h2
  repeat (first | apply c_seq | apply c_reg | (apply wO; apply oc; rfl; exact ydE) | apply w_nil | apply n_cd | (apply wg_t; rfl; rfl) | (apply wg_f; rfl; rfl; rfl; rfl) | (apply wg_u; rfl; rfl; rfl) | (apply c_t; rfl) | (apply c_f; rfl) | apply c_skip | apply c_block | apply n_blk | apply c_exit | apply e_hit | apply e_cd | apply e_lp | (apply e_miss; rfl) | apply c_ret | (apply wO; apply o_box; rfl; rfl; rfl; intro _) | (apply wO; apply o_alloc; rfl; intro _) | (apply wO; apply o_st; rfl; rfl; rfl; (first | exact AggC.s | exact OneC.s); rfl; exact rplE; exact putE; rfl) | (apply wO; apply o_bs0; rfl; intro _) | (apply wO; apply o_bs; rfl; rfl; rfl; rfl; exact rptE; exact filE; intro _) | (apply wO; apply o_call; rfl; kernel_rfl; exact evsE))
  refine wg_if rfl rfl (fun h3 => ?_) (fun h3 => ?_)
  · exact absurd rfl h3
  repeat (first | apply c_seq | apply c_reg | (apply wO; apply oc; rfl; exact ydE) | apply w_nil | apply n_cd | (apply wg_t; rfl; rfl) | (apply wg_f; rfl; rfl; rfl; rfl) | (apply wg_u; rfl; rfl; rfl) | (apply c_t; rfl) | (apply c_f; rfl) | apply c_skip | apply c_block | apply n_blk | apply c_exit | apply e_hit | apply e_cd | apply e_lp | (apply e_miss; rfl) | apply c_ret | (apply wO; apply o_box; rfl; rfl; rfl; intro _) | (apply wO; apply o_alloc; rfl; intro _) | (apply wO; apply o_st; rfl; rfl; rfl; (first | exact AggC.s | exact OneC.s); rfl; exact rplE; exact putE; rfl) | (apply wO; apply o_bs0; rfl; intro _) | (apply wO; apply o_bs; rfl; rfl; rfl; rfl; exact rptE; exact filE; intro _) | (apply wO; apply o_call; rfl; kernel_rfl; exact evsE))
  refine cb (fun w st => IsValidLink_c _ z.y z.F w (st.get (p := .isv ELink (.agg #[.slice z.a z.y.queue.length z.c, .string z.y.fates, .int .i64 z.y.used]) z.y z.F) (by simp))) ?_
  repeat (first | apply c_seq | apply c_reg | (apply wO; apply oc; rfl; exact ydE) | apply w_nil | apply n_cd | (apply wg_t; rfl; rfl) | (apply wg_f; rfl; rfl; rfl; rfl) | (apply wg_u; rfl; rfl; rfl) | (apply c_t; rfl) | (apply c_f; rfl) | apply c_skip | apply c_block | apply n_blk | apply c_exit | apply e_hit | apply e_cd | apply e_lp | (apply e_miss; rfl) | apply c_ret | (apply wO; apply o_box; rfl; rfl; rfl; intro _) | (apply wO; apply o_alloc; rfl; intro _) | (apply wO; apply o_st; rfl; rfl; rfl; (first | exact AggC.s | exact OneC.s); rfl; exact rplE; exact putE; rfl) | (apply wO; apply o_bs0; rfl; intro _) | (apply wO; apply o_bs; rfl; rfl; rfl; rfl; exact rptE; exact filE; intro _) | (apply wO; apply o_call; rfl; kernel_rfl; exact evsE))
  refine c_if rfl (fun h4 => ?_) (fun h4 => ?_)
  · exact absurd (show _ = _ by unfold resFate; cases goodLink z.y <;> rfl) h4
  repeat (first | apply c_seq | apply c_reg | (apply wO; apply oc; rfl; exact ydE) | apply w_nil | apply n_cd | (apply wg_t; rfl; rfl) | (apply wg_f; rfl; rfl; rfl; rfl) | (apply wg_u; rfl; rfl; rfl) | (apply c_t; rfl) | (apply c_f; rfl) | apply c_skip | apply c_block | apply n_blk | apply c_exit | apply e_hit | apply e_cd | apply e_lp | (apply e_miss; rfl) | apply c_ret | (apply wO; apply o_box; rfl; rfl; rfl; intro _) | (apply wO; apply o_alloc; rfl; intro _) | (apply wO; apply o_st; rfl; rfl; rfl; (first | exact AggC.s | exact OneC.s); rfl; exact rplE; exact putE; rfl) | (apply wO; apply o_bs0; rfl; intro _) | (apply wO; apply o_bs; rfl; rfl; rfl; rfl; exact rptE; exact filE; intro _) | (apply wO; apply o_call; rfl; kernel_rfl; exact evsE))
  refine c_joinS [0] [] (fun _ : Unit => []) (fun _ => [.sl EByte v code G]) (fun _ => True) ?_ fun _ _ => ?_
  · cases b
    · repeat (first | apply c_seq | apply c_reg | (apply wO; apply oc; rfl; exact ydE) | apply w_nil | apply n_cd | (apply wg_t; rfl; rfl) | (apply wg_f; rfl; rfl; rfl; rfl) | (apply wg_u; rfl; rfl; rfl) | (apply c_t; rfl) | (apply c_f; rfl) | apply c_skip | apply c_block | apply n_blk | apply c_exit | apply e_hit | apply e_cd | apply e_lp | (apply e_miss; rfl) | apply c_ret | (apply wO; apply o_box; rfl; rfl; rfl; intro _) | (apply wO; apply o_alloc; rfl; intro _) | (apply wO; apply o_st; rfl; rfl; rfl; (first | exact AggC.s | exact OneC.s); rfl; exact rplE; exact putE; rfl) | (apply wO; apply o_bs0; rfl; intro _) | (apply wO; apply o_bs; rfl; rfl; rfl; rfl; exact rptE; exact filE; intro _) | (apply wO; apply o_call; rfl; kernel_rfl; exact evsE))
      refine n_join () trivial
    · obtain ⟨g0, g1, k0, k1, k2, k3, k5, k6, k7, k8⟩ := hr rfl
      have hfz : (resFate z.y).1 = fateAt z.y.fates z.y.used := by unfold resFate; rw [g0]; rfl
      rw [hfz]
      generalize fateAt z.y.fates z.y.used = f at *
      obtain ⟨-, u0, u1⟩ := goodLink_iff.1 g0
      repeat (first | apply c_seq | apply c_reg | (apply wO; apply oc; rfl; exact ydE) | apply w_nil | apply n_cd | (apply wg_t; rfl; rfl) | (apply wg_f; rfl; rfl; rfl; rfl) | (apply wg_u; rfl; rfl; rfl) | (apply c_t; rfl) | (apply c_f; rfl) | apply c_skip | apply c_block | apply n_blk | apply c_exit | apply e_hit | apply e_cd | apply e_lp | (apply e_miss; rfl) | apply c_ret | (apply wO; apply o_box; rfl; rfl; rfl; intro _) | (apply wO; apply o_alloc; rfl; intro _) | (apply wO; apply o_st; rfl; rfl; rfl; (first | exact AggC.s | exact OneC.s); rfl; exact rplE; exact putE; rfl) | (apply wO; apply o_bs0; rfl; intro _) | (apply wO; apply o_bs; rfl; rfl; rfl; rfl; exact rptE; exact filE; intro _) | (apply wO; apply o_call; rfl; kernel_rfl; exact evsE))
      refine cb (fun w st => IsValidLink_c _ W F7 w (st.get (p := .isv ELink (.agg #[.slice a5 W.queue.length c5, .string W.fates, .int .i64 W.used]) W F7) (by simp))) ?_
      rw [g1]
      repeat (first | apply c_seq | apply c_reg | (apply wO; apply oc; rfl; exact ydE) | apply w_nil | apply n_cd | (apply wg_t; rfl; rfl) | (apply wg_f; rfl; rfl; rfl; rfl) | (apply wg_u; rfl; rfl; rfl) | (apply c_t; rfl) | (apply c_f; rfl) | apply c_skip | apply c_block | apply n_blk | apply c_exit | apply e_hit | apply e_cd | apply e_lp | (apply e_miss; rfl) | apply c_ret | (apply wO; apply o_box; rfl; rfl; rfl; intro _) | (apply wO; apply o_alloc; rfl; intro _) | (apply wO; apply o_st; rfl; rfl; rfl; (first | exact AggC.s | exact OneC.s); rfl; exact rplE; exact putE; rfl) | (apply wO; apply o_bs0; rfl; intro _) | (apply wO; apply o_bs; rfl; rfl; rfl; rfl; exact rptE; exact filE; intro _) | (apply wO; apply o_call; rfl; kernel_rfl; exact evsE))
      refine wg_if rfl rfl (fun h5 => ?_) (fun h5 => ?_)
      · exact absurd (show _ = _ by rw [Bool.eq_iff_iff, decide_eq_true_eq, decide_eq_true_eq, k0]; omega) h5
      repeat (first | apply c_seq | apply c_reg | (apply wO; apply oc; rfl; exact ydE) | apply w_nil | apply n_cd | (apply wg_t; rfl; rfl) | (apply wg_f; rfl; rfl; rfl; rfl) | (apply wg_u; rfl; rfl; rfl) | (apply c_t; rfl) | (apply c_f; rfl) | apply c_skip | apply c_block | apply n_blk | apply c_exit | apply e_hit | apply e_cd | apply e_lp | (apply e_miss; rfl) | apply c_ret | (apply wO; apply o_box; rfl; rfl; rfl; intro _) | (apply wO; apply o_alloc; rfl; intro _) | (apply wO; apply o_st; rfl; rfl; rfl; (first | exact AggC.s | exact OneC.s); rfl; exact rplE; exact putE; rfl) | (apply wO; apply o_bs0; rfl; intro _) | (apply wO; apply o_bs; rfl; rfl; rfl; rfl; exact rptE; exact filE; intro _) | (apply wO; apply o_call; rfl; kernel_rfl; exact evsE))
      refine wg_if rfl rfl (fun h6 => ?_) (fun h6 => ?_)
      · exact absurd k2 (by omega)
      repeat (first | apply c_seq | apply c_reg | (apply wO; apply oc; rfl; exact ydE) | apply w_nil | apply n_cd | (apply wg_t; rfl; rfl) | (apply wg_f; rfl; rfl; rfl; rfl) | (apply wg_u; rfl; rfl; rfl) | (apply c_t; rfl) | (apply c_f; rfl) | apply c_skip | apply c_block | apply n_blk | apply c_exit | apply e_hit | apply e_cd | apply e_lp | (apply e_miss; rfl) | apply c_ret | (apply wO; apply o_box; rfl; rfl; rfl; intro _) | (apply wO; apply o_alloc; rfl; intro _) | (apply wO; apply o_st; rfl; rfl; rfl; (first | exact AggC.s | exact OneC.s); rfl; exact rplE; exact putE; rfl) | (apply wO; apply o_bs0; rfl; intro _) | (apply wO; apply o_bs; rfl; rfl; rfl; rfl; exact rptE; exact filE; intro _) | (apply wO; apply o_call; rfl; kernel_rfl; exact evsE))
      refine wg_if rfl rfl (fun h7 => ?_) (fun h7 => ?_)
      · repeat (first | apply c_seq | apply c_reg | (apply wO; apply oc; rfl; exact ydE) | apply w_nil | apply n_cd | (apply wg_t; rfl; rfl) | (apply wg_f; rfl; rfl; rfl; rfl) | (apply wg_u; rfl; rfl; rfl) | (apply c_t; rfl) | (apply c_f; rfl) | apply c_skip | apply c_block | apply n_blk | apply c_exit | apply e_hit | apply e_cd | apply e_lp | (apply e_miss; rfl) | apply c_ret | (apply wO; apply o_box; rfl; rfl; rfl; intro _) | (apply wO; apply o_alloc; rfl; intro _) | (apply wO; apply o_st; rfl; rfl; rfl; (first | exact AggC.s | exact OneC.s); rfl; exact rplE; exact putE; rfl) | (apply wO; apply o_bs0; rfl; intro _) | (apply wO; apply o_bs; rfl; rfl; rfl; rfl; exact rptE; exact filE; intro _) | (apply wO; apply o_call; rfl; kernel_rfl; exact evsE))
        refine wg_if rfl rfl (fun h12 => ?_) (fun h12 => ?_)
        · exact absurd (k3 (by omega)) h12
        repeat (first | apply c_seq | apply c_reg | (apply wO; apply oc; rfl; exact ydE) | apply w_nil | apply n_cd | (apply wg_t; rfl; rfl) | (apply wg_f; rfl; rfl; rfl; rfl) | (apply wg_u; rfl; rfl; rfl) | (apply c_t; rfl) | (apply c_f; rfl) | apply c_skip | apply c_block | apply n_blk | apply c_exit | apply e_hit | apply e_cd | apply e_lp | (apply e_miss; rfl) | apply c_ret | (apply wO; apply o_box; rfl; rfl; rfl; intro _) | (apply wO; apply o_alloc; rfl; intro _) | (apply wO; apply o_st; rfl; rfl; rfl; (first | exact AggC.s | exact OneC.s); rfl; exact rplE; exact putE; rfl) | (apply wO; apply o_bs0; rfl; intro _) | (apply wO; apply o_bs; rfl; rfl; rfl; rfl; exact rptE; exact filE; intro _) | (apply wO; apply o_call; rfl; kernel_rfl; exact evsE))
        refine wg_if rfl rfl (fun h8 => ?_) (fun h8 => ?_)
        · exact absurd k5 (by omega)
        repeat (first | apply c_seq | apply c_reg | (apply wO; apply oc; rfl; exact ydE) | apply w_nil | apply n_cd | (apply wg_t; rfl; rfl) | (apply wg_f; rfl; rfl; rfl; rfl) | (apply wg_u; rfl; rfl; rfl) | (apply c_t; rfl) | (apply c_f; rfl) | apply c_skip | apply c_block | apply n_blk | apply c_exit | apply e_hit | apply e_cd | apply e_lp | (apply e_miss; rfl) | apply c_ret | (apply wO; apply o_box; rfl; rfl; rfl; intro _) | (apply wO; apply o_alloc; rfl; intro _) | (apply wO; apply o_st; rfl; rfl; rfl; (first | exact AggC.s | exact OneC.s); rfl; exact rplE; exact putE; rfl) | (apply wO; apply o_bs0; rfl; intro _) | (apply wO; apply o_bs; rfl; rfl; rfl; rfl; exact rptE; exact filE; intro _) | (apply wO; apply o_call; rfl; kernel_rfl; exact evsE))
        refine c_if rfl (fun h9 => ?_) (fun h9 => ?_)
        · exact absurd k6 (by omega)
        repeat (first | apply c_seq | apply c_reg | (apply wO; apply oc; rfl; exact ydE) | apply w_nil | apply n_cd | (apply wg_t; rfl; rfl) | (apply wg_f; rfl; rfl; rfl; rfl) | (apply wg_u; rfl; rfl; rfl) | (apply c_t; rfl) | (apply c_f; rfl) | apply c_skip | apply c_block | apply n_blk | apply c_exit | apply e_hit | apply e_cd | apply e_lp | (apply e_miss; rfl) | apply c_ret | (apply wO; apply o_box; rfl; rfl; rfl; intro _) | (apply wO; apply o_alloc; rfl; intro _) | (apply wO; apply o_st; rfl; rfl; rfl; (first | exact AggC.s | exact OneC.s); rfl; exact rplE; exact putE; rfl) | (apply wO; apply o_bs0; rfl; intro _) | (apply wO; apply o_bs; rfl; rfl; rfl; rfl; exact rptE; exact filE; intro _) | (apply wO; apply o_call; rfl; kernel_rfl; exact evsE))
        refine wg_if rfl rfl (fun h10 => ?_) (fun h10 => ?_)
        · have hq := k7 h10
          have hk8 := k8 h10
          have hk9 : (((W.queue.length : Nat) : Int) - 1).toNat < W.queue.length := by omega
          refine at_str (a := a5) (xs := W.queue) (((W.queue.length : Nat) : Int) - 1).toNat ?_
          rintro hi b9 o9 e9 s9
          rw [e9]
          repeat (first | apply c_seq | apply c_reg | (apply wO; apply oc; rfl; exact ydE) | apply w_nil | apply n_cd | (apply wg_t; rfl; rfl) | (apply wg_f; rfl; rfl; rfl; rfl) | (apply wg_u; rfl; rfl; rfl) | (apply c_t; rfl) | (apply c_f; rfl) | apply c_skip | apply c_block | apply n_blk | apply c_exit | apply e_hit | apply e_cd | apply e_lp | (apply e_miss; rfl) | apply c_ret | (apply wO; apply o_box; rfl; rfl; rfl; intro _) | (apply wO; apply o_alloc; rfl; intro _) | (apply wO; apply o_st; rfl; rfl; rfl; (first | exact AggC.s | exact OneC.s); rfl; exact rplE; exact putE; rfl) | (apply wO; apply o_bs0; rfl; intro _) | (apply wO; apply o_bs; rfl; rfl; rfl; rfl; exact rptE; exact filE; intro _) | (apply wO; apply o_call; rfl; kernel_rfl; exact evsE))
          refine c_if rfl (fun h11 => ?_) (fun h11 => ?_)
          · exact absurd (hq _) h11
          repeat (first | apply c_seq | apply c_reg | (apply wO; apply oc; rfl; exact ydE) | apply w_nil | apply n_cd | (apply wg_t; rfl; rfl) | (apply wg_f; rfl; rfl; rfl; rfl) | (apply wg_u; rfl; rfl; rfl) | (apply c_t; rfl) | (apply c_f; rfl) | apply c_skip | apply c_block | apply n_blk | apply c_exit | apply e_hit | apply e_cd | apply e_lp | (apply e_miss; rfl) | apply c_ret | (apply wO; apply o_box; rfl; rfl; rfl; intro _) | (apply wO; apply o_alloc; rfl; intro _) | (apply wO; apply o_st; rfl; rfl; rfl; (first | exact AggC.s | exact OneC.s); rfl; exact rplE; exact putE; rfl) | (apply wO; apply o_bs0; rfl; intro _) | (apply wO; apply o_bs; rfl; rfl; rfl; rfl; exact rptE; exact filE; intro _) | (apply wO; apply o_call; rfl; kernel_rfl; exact evsE))
          refine n_join () trivial
        · repeat (first | apply c_seq | apply c_reg | (apply wO; apply oc; rfl; exact ydE) | apply w_nil | apply n_cd | (apply wg_t; rfl; rfl) | (apply wg_f; rfl; rfl; rfl; rfl) | (apply wg_u; rfl; rfl; rfl) | (apply c_t; rfl) | (apply c_f; rfl) | apply c_skip | apply c_block | apply n_blk | apply c_exit | apply e_hit | apply e_cd | apply e_lp | (apply e_miss; rfl) | apply c_ret | (apply wO; apply o_box; rfl; rfl; rfl; intro _) | (apply wO; apply o_alloc; rfl; intro _) | (apply wO; apply o_st; rfl; rfl; rfl; (first | exact AggC.s | exact OneC.s); rfl; exact rplE; exact putE; rfl) | (apply wO; apply o_bs0; rfl; intro _) | (apply wO; apply o_bs; rfl; rfl; rfl; rfl; exact rptE; exact filE; intro _) | (apply wO; apply o_call; rfl; kernel_rfl; exact evsE))
          refine n_join () trivial
      · repeat (first | apply c_seq | apply c_reg | (apply wO; apply oc; rfl; exact ydE) | apply w_nil | apply n_cd | (apply wg_t; rfl; rfl) | (apply wg_f; rfl; rfl; rfl; rfl) | (apply wg_u; rfl; rfl; rfl) | (apply c_t; rfl) | (apply c_f; rfl) | apply c_skip | apply c_block | apply n_blk | apply c_exit | apply e_hit | apply e_cd | apply e_lp | (apply e_miss; rfl) | apply c_ret | (apply wO; apply o_box; rfl; rfl; rfl; intro _) | (apply wO; apply o_alloc; rfl; intro _) | (apply wO; apply o_st; rfl; rfl; rfl; (first | exact AggC.s | exact OneC.s); rfl; exact rplE; exact putE; rfl) | (apply wO; apply o_bs0; rfl; intro _) | (apply wO; apply o_bs; rfl; rfl; rfl; rfl; exact rptE; exact filE; intro _) | (apply wO; apply o_call; rfl; kernel_rfl; exact evsE))
        repeat (first | apply c_seq | apply c_reg | (apply wO; apply oc; rfl; exact ydE) | apply w_nil | apply n_cd | (apply wg_t; rfl; rfl) | (apply wg_f; rfl; rfl; rfl; rfl) | (apply wg_u; rfl; rfl; rfl) | (apply c_t; rfl) | (apply c_f; rfl) | apply c_skip | apply c_block | apply n_blk | apply c_exit | apply e_hit | apply e_cd | apply e_lp | (apply e_miss; rfl) | apply c_ret | (apply wO; apply o_box; rfl; rfl; rfl; intro _) | (apply wO; apply o_alloc; rfl; intro _) | (apply wO; apply o_st; rfl; rfl; rfl; (first | exact AggC.s | exact OneC.s); rfl; exact rplE; exact putE; rfl) | (apply wO; apply o_bs0; rfl; intro _) | (apply wO; apply o_bs; rfl; rfl; rfl; rfl; exact rptE; exact filE; intro _) | (apply wO; apply o_call; rfl; kernel_rfl; exact evsE))
        refine wg_if rfl rfl (fun h8 => ?_) (fun h8 => ?_)
        · exact absurd k5 (by omega)
        repeat (first | apply c_seq | apply c_reg | (apply wO; apply oc; rfl; exact ydE) | apply w_nil | apply n_cd | (apply wg_t; rfl; rfl) | (apply wg_f; rfl; rfl; rfl; rfl) | (apply wg_u; rfl; rfl; rfl) | (apply c_t; rfl) | (apply c_f; rfl) | apply c_skip | apply c_block | apply n_blk | apply c_exit | apply e_hit | apply e_cd | apply e_lp | (apply e_miss; rfl) | apply c_ret | (apply wO; apply o_box; rfl; rfl; rfl; intro _) | (apply wO; apply o_alloc; rfl; intro _) | (apply wO; apply o_st; rfl; rfl; rfl; (first | exact AggC.s | exact OneC.s); rfl; exact rplE; exact putE; rfl) | (apply wO; apply o_bs0; rfl; intro _) | (apply wO; apply o_bs; rfl; rfl; rfl; rfl; exact rptE; exact filE; intro _) | (apply wO; apply o_call; rfl; kernel_rfl; exact evsE))
        refine c_if rfl (fun h9 => ?_) (fun h9 => ?_)
        · exact absurd k6 (by omega)
        repeat (first | apply c_seq | apply c_reg | (apply wO; apply oc; rfl; exact ydE) | apply w_nil | apply n_cd | (apply wg_t; rfl; rfl) | (apply wg_f; rfl; rfl; rfl; rfl) | (apply wg_u; rfl; rfl; rfl) | (apply c_t; rfl) | (apply c_f; rfl) | apply c_skip | apply c_block | apply n_blk | apply c_exit | apply e_hit | apply e_cd | apply e_lp | (apply e_miss; rfl) | apply c_ret | (apply wO; apply o_box; rfl; rfl; rfl; intro _) | (apply wO; apply o_alloc; rfl; intro _) | (apply wO; apply o_st; rfl; rfl; rfl; (first | exact AggC.s | exact OneC.s); rfl; exact rplE; exact putE; rfl) | (apply wO; apply o_bs0; rfl; intro _) | (apply wO; apply o_bs; rfl; rfl; rfl; rfl; exact rptE; exact filE; intro _) | (apply wO; apply o_call; rfl; kernel_rfl; exact evsE))
        refine wg_if rfl rfl (fun h10 => ?_) (fun h10 => ?_)
        · have hq := k7 h10
          have hk8 := k8 h10
          have hk9 : (((W.queue.length : Nat) : Int) - 1).toNat < W.queue.length := by omega
          refine at_str (a := a5) (xs := W.queue) (((W.queue.length : Nat) : Int) - 1).toNat ?_
          rintro hi b9 o9 e9 s9
          rw [e9]
          repeat (first | apply c_seq | apply c_reg | (apply wO; apply oc; rfl; exact ydE) | apply w_nil | apply n_cd | (apply wg_t; rfl; rfl) | (apply wg_f; rfl; rfl; rfl; rfl) | (apply wg_u; rfl; rfl; rfl) | (apply c_t; rfl) | (apply c_f; rfl) | apply c_skip | apply c_block | apply n_blk | apply c_exit | apply e_hit | apply e_cd | apply e_lp | (apply e_miss; rfl) | apply c_ret | (apply wO; apply o_box; rfl; rfl; rfl; intro _) | (apply wO; apply o_alloc; rfl; intro _) | (apply wO; apply o_st; rfl; rfl; rfl; (first | exact AggC.s | exact OneC.s); rfl; exact rplE; exact putE; rfl) | (apply wO; apply o_bs0; rfl; intro _) | (apply wO; apply o_bs; rfl; rfl; rfl; rfl; exact rptE; exact filE; intro _) | (apply wO; apply o_call; rfl; kernel_rfl; exact evsE))
          refine c_if rfl (fun h11 => ?_) (fun h11 => ?_)
          · exact absurd (hq _) h11
          repeat (first | apply c_seq | apply c_reg | (apply wO; apply oc; rfl; exact ydE) | apply w_nil | apply n_cd | (apply wg_t; rfl; rfl) | (apply wg_f; rfl; rfl; rfl; rfl) | (apply wg_u; rfl; rfl; rfl) | (apply c_t; rfl) | (apply c_f; rfl) | apply c_skip | apply c_block | apply n_blk | apply c_exit | apply e_hit | apply e_cd | apply e_lp | (apply e_miss; rfl) | apply c_ret | (apply wO; apply o_box; rfl; rfl; rfl; intro _) | (apply wO; apply o_alloc; rfl; intro _) | (apply wO; apply o_st; rfl; rfl; rfl; (first | exact AggC.s | exact OneC.s); rfl; exact rplE; exact putE; rfl) | (apply wO; apply o_bs0; rfl; intro _) | (apply wO; apply o_bs; rfl; rfl; rfl; rfl; exact rptE; exact filE; intro _) | (apply wO; apply o_call; rfl; kernel_rfl; exact evsE))
          refine n_join () trivial
        · repeat (first | apply c_seq | apply c_reg | (apply wO; apply oc; rfl; exact ydE) | apply w_nil | apply n_cd | (apply wg_t; rfl; rfl) | (apply wg_f; rfl; rfl; rfl; rfl) | (apply wg_u; rfl; rfl; rfl) | (apply c_t; rfl) | (apply c_f; rfl) | apply c_skip | apply c_block | apply n_blk | apply c_exit | apply e_hit | apply e_cd | apply e_lp | (apply e_miss; rfl) | apply c_ret | (apply wO; apply o_box; rfl; rfl; rfl; intro _) | (apply wO; apply o_alloc; rfl; intro _) | (apply wO; apply o_st; rfl; rfl; rfl; (first | exact AggC.s | exact OneC.s); rfl; exact rplE; exact putE; rfl) | (apply wO; apply o_bs0; rfl; intro _) | (apply wO; apply o_bs; rfl; rfl; rfl; rfl; exact rptE; exact filE; intro _) | (apply wO; apply o_call; rfl; kernel_rfl; exact evsE))
          refine n_join () trivial
  repeat (first | apply c_seq | apply c_reg | (apply wO; apply oc; rfl; exact ydE) | apply w_nil | apply n_cd | (apply wg_t; rfl; rfl) | (apply wg_f; rfl; rfl; rfl; rfl) | (apply wg_u; rfl; rfl; rfl) | (apply c_t; rfl) | (apply c_f; rfl) | apply c_skip | apply c_block | apply n_blk | apply c_exit | apply e_hit | apply e_cd | apply e_lp | (apply e_miss; rfl) | apply c_ret | (apply wO; apply o_box; rfl; rfl; rfl; intro _) | (apply wO; apply o_alloc; rfl; intro _) | (apply wO; apply o_st; rfl; rfl; rfl; (first | exact AggC.s | exact OneC.s); rfl; exact rplE; exact putE; rfl) | (apply wO; apply o_bs0; rfl; intro _) | (apply wO; apply o_bs; rfl; rfl; rfl; rfl; exact rptE; exact filE; intro _) | (apply wO; apply o_call; rfl; kernel_rfl; exact evsE))
  refine cf (DrawTakeFrom_f v code G) fun x hx => ?_
  refine t_app ?_
  obtain ⟨hx1, hx2⟩ := hx
  repeat (first | apply c_seq | apply c_reg | (apply wO; apply oc; rfl; exact ydE) | apply w_nil | apply n_cd | (apply wg_t; rfl; rfl) | (apply wg_f; rfl; rfl; rfl; rfl) | (apply wg_u; rfl; rfl; rfl) | (apply c_t; rfl) | (apply c_f; rfl) | apply c_skip | apply c_block | apply n_blk | apply c_exit | apply e_hit | apply e_cd | apply e_lp | (apply e_miss; rfl) | apply c_ret | (apply wO; apply o_box; rfl; rfl; rfl; intro _) | (apply wO; apply o_alloc; rfl; intro _) | (apply wO; apply o_st; rfl; rfl; rfl; (first | exact AggC.s | exact OneC.s); rfl; exact rplE; exact putE; rfl) | (apply wO; apply o_bs0; rfl; intro _) | (apply wO; apply o_bs; rfl; rfl; rfl; rfl; exact rptE; exact filE; intro _) | (apply wO; apply o_call; rfl; kernel_rfl; exact evsE))
  have hr := law_take x.y
  have hP := TakeFrom_f x.y (.agg #[.slice x.a x.y.queue.length x.c, .string x.y.fates, .int .i64 x.y.used]) x.F
  have hQ := specTakeFrom_f x.y (.agg #[.slice x.a x.y.queue.length x.c, .string x.y.fates, .int .i64 x.y.used]) x.F
  have hD := DropFrom_f x.y 0 (.agg #[.slice x.a x.y.queue.length x.c, .string x.y.fates, .int .i64 x.y.used]) x.F
  obtain ⟨W2, q, b2, e⟩ : ∃ W q b, resTakeFrom x.y = (W, q, b) := ⟨_, _, _, rfl⟩
  rw [e] at hr hP hQ
  dsimp only at hr hP hQ
  refine cf hP fun p _ => ?_
  refine t_app ?_
  refine openOLink (x := W2) ?_
  rintro a5 c5 F5 e5 m1 m2
  rw [e5]
  repeat (first | apply c_seq | apply c_reg | (apply wO; apply oc; rfl; exact ydE) | apply w_nil | apply n_cd | (apply wg_t; rfl; rfl) | (apply wg_f; rfl; rfl; rfl; rfl) | (apply wg_u; rfl; rfl; rfl) | (apply c_t; rfl) | (apply c_f; rfl) | apply c_skip | apply c_block | apply n_blk | apply c_exit | apply e_hit | apply e_cd | apply e_lp | (apply e_miss; rfl) | apply c_ret | (apply wO; apply o_box; rfl; rfl; rfl; intro _) | (apply wO; apply o_alloc; rfl; intro _) | (apply wO; apply o_st; rfl; rfl; rfl; (first | exact AggC.s | exact OneC.s); rfl; exact rplE; exact putE; rfl) | (apply wO; apply o_bs0; rfl; intro _) | (apply wO; apply o_bs; rfl; rfl; rfl; rfl; exact rptE; exact filE; intro _) | (apply wO; apply o_call; rfl; kernel_rfl; exact evsE))
  refine cf hQ fun p2 _ => ?_
  refine t_app ?_
  refine openOLink (x := W2) ?_
  rintro a6 c6 F6 e6 m3 m4
  rw [e6]
  repeat (first | apply c_seq | apply c_reg | (apply wO; apply oc; rfl; exact ydE) | apply w_nil | apply n_cd | (apply wg_t; rfl; rfl) | (apply wg_f; rfl; rfl; rfl; rfl) | (apply wg_u; rfl; rfl; rfl) | (apply c_t; rfl) | (apply c_f; rfl) | apply c_skip | apply c_block | apply n_blk | apply c_exit | apply e_hit | apply e_cd | apply e_lp | (apply e_miss; rfl) | apply c_ret | (apply wO; apply o_box; rfl; rfl; rfl; intro _) | (apply wO; apply o_alloc; rfl; intro _) | (apply wO; apply o_st; rfl; rfl; rfl; (first | exact AggC.s | exact OneC.s); rfl; exact rplE; exact putE; rfl) | (apply wO; apply o_bs0; rfl; intro _) | (apply wO; apply o_bs; rfl; rfl; rfl; rfl; exact rptE; exact filE; intro _) | (apply wO; apply o_call; rfl; kernel_rfl; exact evsE))
  refine t_read (xs := W2.queue) fun F7 => ?_
  refine t_read (xs := W2.queue) fun F8 => ?_
  refine closeLink W2 m1 (a1 := a5) ?_
  refine closeLink W2 m1 (a1 := a6) ?_
  refine wg_if rfl rfl (fun h5 => ?_) (fun h5 => ?_)
  · exact absurd rfl h5
  repeat (first | apply c_seq | apply c_reg | (apply wO; apply oc; rfl; exact ydE) | apply w_nil | apply n_cd | (apply wg_t; rfl; rfl) | (apply wg_f; rfl; rfl; rfl; rfl) | (apply wg_u; rfl; rfl; rfl) | (apply c_t; rfl) | (apply c_f; rfl) | apply c_skip | apply c_block | apply n_blk | apply c_exit | apply e_hit | apply e_cd | apply e_lp | (apply e_miss; rfl) | apply c_ret | (apply wO; apply o_box; rfl; rfl; rfl; intro _) | (apply wO; apply o_alloc; rfl; intro _) | (apply wO; apply o_st; rfl; rfl; rfl; (first | exact AggC.s | exact OneC.s); rfl; exact rplE; exact putE; rfl) | (apply wO; apply o_bs0; rfl; intro _) | (apply wO; apply o_bs; rfl; rfl; rfl; rfl; exact rptE; exact filE; intro _) | (apply wO; apply o_call; rfl; kernel_rfl; exact evsE))
  refine wg_if rfl rfl (fun h6 => ?_) (fun h6 => ?_)
  · exact absurd rfl h6
  repeat (first | apply c_seq | apply c_reg | (apply wO; apply oc; rfl; exact ydE) | apply w_nil | apply n_cd | (apply wg_t; rfl; rfl) | (apply wg_f; rfl; rfl; rfl; rfl) | (apply wg_u; rfl; rfl; rfl) | (apply c_t; rfl) | (apply c_f; rfl) | apply c_skip | apply c_block | apply n_blk | apply c_exit | apply e_hit | apply e_cd | apply e_lp | (apply e_miss; rfl) | apply c_ret | (apply wO; apply o_box; rfl; rfl; rfl; intro _) | (apply wO; apply o_alloc; rfl; intro _) | (apply wO; apply o_st; rfl; rfl; rfl; (first | exact AggC.s | exact OneC.s); rfl; exact rplE; exact putE; rfl) | (apply wO; apply o_bs0; rfl; intro _) | (apply wO; apply o_bs; rfl; rfl; rfl; rfl; exact rptE; exact filE; intro _) | (apply wO; apply o_call; rfl; kernel_rfl; exact evsE))
  refine cf (rLinks_f _ _ W2 _ _) fun _ _ => ?_
  refine t_app ?_
  repeat (first | apply c_seq | apply c_reg | (apply wO; apply oc; rfl; exact ydE) | apply w_nil | apply n_cd | (apply wg_t; rfl; rfl) | (apply wg_f; rfl; rfl; rfl; rfl) | (apply wg_u; rfl; rfl; rfl) | (apply c_t; rfl) | (apply c_f; rfl) | apply c_skip | apply c_block | apply n_blk | apply c_exit | apply e_hit | apply e_cd | apply e_lp | (apply e_miss; rfl) | apply c_ret | (apply wO; apply o_box; rfl; rfl; rfl; intro _) | (apply wO; apply o_alloc; rfl; intro _) | (apply wO; apply o_st; rfl; rfl; rfl; (first | exact AggC.s | exact OneC.s); rfl; exact rplE; exact putE; rfl) | (apply wO; apply o_bs0; rfl; intro _) | (apply wO; apply o_bs; rfl; rfl; rfl; rfl; exact rptE; exact filE; intro _) | (apply wO; apply o_call; rfl; kernel_rfl; exact evsE))
  refine c_joinS [0] [] (fun _ : Unit => []) (fun _ => [.sl EByte v code G]) (fun _ => True) ?_ fun _ _ => ?_
  · cases b2
    · repeat (first | apply c_seq | apply c_reg | (apply wO; apply oc; rfl; exact ydE) | apply w_nil | apply n_cd | (apply wg_t; rfl; rfl) | (apply wg_f; rfl; rfl; rfl; rfl) | (apply wg_u; rfl; rfl; rfl) | (apply c_t; rfl) | (apply c_f; rfl) | apply c_skip | apply c_block | apply n_blk | apply c_exit | apply e_hit | apply e_cd | apply e_lp | (apply e_miss; rfl) | apply c_ret | (apply wO; apply o_box; rfl; rfl; rfl; intro _) | (apply wO; apply o_alloc; rfl; intro _) | (apply wO; apply o_st; rfl; rfl; rfl; (first | exact AggC.s | exact OneC.s); rfl; exact rplE; exact putE; rfl) | (apply wO; apply o_bs0; rfl; intro _) | (apply wO; apply o_bs; rfl; rfl; rfl; rfl; exact rptE; exact filE; intro _) | (apply wO; apply o_call; rfl; kernel_rfl; exact evsE))
      refine n_join () trivial
    · obtain ⟨g0, g1, g2⟩ := hr rfl
      rw [g0] at hD
      dsimp only at hD
      repeat (first | apply c_seq | apply c_reg | (apply wO; apply oc; rfl; exact ydE) | apply w_nil | apply n_cd | (apply wg_t; rfl; rfl) | (apply wg_f; rfl; rfl; rfl; rfl) | (apply wg_u; rfl; rfl; rfl) | (apply c_t; rfl) | (apply c_f; rfl) | apply c_skip | apply c_block | apply n_blk | apply c_exit | apply e_hit | apply e_cd | apply e_lp | (apply e_miss; rfl) | apply c_ret | (apply wO; apply o_box; rfl; rfl; rfl; intro _) | (apply wO; apply o_alloc; rfl; intro _) | (apply wO; apply o_st; rfl; rfl; rfl; (first | exact AggC.s | exact OneC.s); rfl; exact rplE; exact putE; rfl) | (apply wO; apply o_bs0; rfl; intro _) | (apply wO; apply o_bs; rfl; rfl; rfl; rfl; exact rptE; exact filE; intro _) | (apply wO; apply o_call; rfl; kernel_rfl; exact evsE))
      refine cf hD fun p3 _ => ?_
      refine t_app ?_
      refine openOLink (x := W2) ?_
      rintro a9 c9 F9 e9 m5 m6
      rw [e9]
      repeat (first | apply c_seq | apply c_reg | (apply wO; apply oc; rfl; exact ydE) | apply w_nil | apply n_cd | (apply wg_t; rfl; rfl) | (apply wg_f; rfl; rfl; rfl; rfl) | (apply wg_u; rfl; rfl; rfl) | (apply c_t; rfl) | (apply c_f; rfl) | apply c_skip | apply c_block | apply n_blk | apply c_exit | apply e_hit | apply e_cd | apply e_lp | (apply e_miss; rfl) | apply c_ret | (apply wO; apply o_box; rfl; rfl; rfl; intro _) | (apply wO; apply o_alloc; rfl; intro _) | (apply wO; apply o_st; rfl; rfl; rfl; (first | exact AggC.s | exact OneC.s); rfl; exact rplE; exact putE; rfl) | (apply wO; apply o_bs0; rfl; intro _) | (apply wO; apply o_bs; rfl; rfl; rfl; rfl; exact rptE; exact filE; intro _))
      refine t_read (xs := W2.queue) fun F10 => ?_
      refine closeLink W2 m1 (a1 := a9) ?_
      repeat (first | apply c_seq | apply c_reg | (apply wO; apply oc; rfl; exact ydE) | apply w_nil | apply n_cd | (apply wg_t; rfl; rfl) | (apply wg_f; rfl; rfl; rfl; rfl) | (apply wg_u; rfl; rfl; rfl) | (apply c_t; rfl) | (apply c_f; rfl) | apply c_skip | apply c_block | apply n_blk | apply c_exit | apply e_hit | apply e_cd | apply e_lp | (apply e_miss; rfl) | apply c_ret | (apply wO; apply o_box; rfl; rfl; rfl; intro _) | (apply wO; apply o_alloc; rfl; intro _) | (apply wO; apply o_st; rfl; rfl; rfl; (first | exact AggC.s | exact OneC.s); rfl; exact rplE; exact putE; rfl) | (apply wO; apply o_bs0; rfl; intro _) | (apply wO; apply o_bs; rfl; rfl; rfl; rfl; exact rptE; exact filE; intro _) | (apply wO; apply o_call; rfl; kernel_rfl; exact evsE))
      refine cf (rLinks_f _ _ W2 _ _) fun _ _ => ?_
      refine t_app ?_
      refine openLink (x := x.y) ?_
      rintro ax cx Fx ex m7 m8
      cases ex
      refine at_str (a := x.a) (xs := x.y.queue) 0 ?_
      rintro hi b9 o9 e10 s9
      rw [e10]
      repeat (first | apply c_seq | apply c_reg | (apply wO; apply oc; rfl; exact ydE) | apply w_nil | apply n_cd | (apply wg_t; rfl; rfl) | (apply wg_f; rfl; rfl; rfl; rfl) | (apply wg_u; rfl; rfl; rfl) | (apply c_t; rfl) | (apply c_f; rfl) | apply c_skip | apply c_block | apply n_blk | apply c_exit | apply e_hit | apply e_cd | apply e_lp | (apply e_miss; rfl) | apply c_ret | (apply wO; apply o_box; rfl; rfl; rfl; intro _) | (apply wO; apply o_alloc; rfl; intro _) | (apply wO; apply o_st; rfl; rfl; rfl; (first | exact AggC.s | exact OneC.s); rfl; exact rplE; exact putE; rfl) | (apply wO; apply o_bs0; rfl; intro _) | (apply wO; apply o_bs; rfl; rfl; rfl; rfl; exact rptE; exact filE; intro _) | (apply wO; apply o_call; rfl; kernel_rfl; exact evsE))
      refine c_if rfl (fun h11 => ?_) (fun h11 => ?_)
      · exact absurd (g2 g1) h11
      repeat (first | apply c_seq | apply c_reg | (apply wO; apply oc; rfl; exact ydE) | apply w_nil | apply n_cd | (apply wg_t; rfl; rfl) | (apply wg_f; rfl; rfl; rfl; rfl) | (apply wg_u; rfl; rfl; rfl) | (apply c_t; rfl) | (apply c_f; rfl) | apply c_skip | apply c_block | apply n_blk | apply c_exit | apply e_hit | apply e_cd | apply e_lp | (apply e_miss; rfl) | apply c_ret | (apply wO; apply o_box; rfl; rfl; rfl; intro _) | (apply wO; apply o_alloc; rfl; intro _) | (apply wO; apply o_st; rfl; rfl; rfl; (first | exact AggC.s | exact OneC.s); rfl; exact rplE; exact putE; rfl) | (apply wO; apply o_bs0; rfl; intro _) | (apply wO; apply o_bs; rfl; rfl; rfl; rfl; exact rptE; exact filE; intro _) | (apply wO; apply o_call; rfl; kernel_rfl; exact evsE))
      refine n_join () trivial
  repeat (first | apply c_seq | apply c_reg | (apply wO; apply oc; rfl; exact ydE) | apply w_nil | apply n_cd | (apply wg_t; rfl; rfl) | (apply wg_f; rfl; rfl; rfl; rfl) | (apply wg_u; rfl; rfl; rfl) | (apply c_t; rfl) | (apply c_f; rfl) | apply c_skip | apply c_block | apply n_blk | apply c_exit | apply e_hit | apply e_cd | apply e_lp | (apply e_miss; rfl) | apply c_ret | (apply wO; apply o_box; rfl; rfl; rfl; intro _) | (apply wO; apply o_alloc; rfl; intro _) | (apply wO; apply o_st; rfl; rfl; rfl; (first | exact AggC.s | exact OneC.s); rfl; exact rplE; exact putE; rfl) | (apply wO; apply o_bs0; rfl; intro _) | (apply wO; apply o_bs; rfl; rfl; rfl; rfl; exact rptE; exact filE; intro _) | (apply wO; apply o_call; rfl; kernel_rfl; exact evsE))
  refine cf (DrawDropFrom_f v code G) fun d hd => ?_
  refine t_app ?_
  repeat (first | apply c_seq | apply c_reg | (apply wO; apply oc; rfl; exact ydE) | apply w_nil | apply n_cd | (apply wg_t; rfl; rfl) | (apply wg_f; rfl; rfl; rfl; rfl) | (apply wg_u; rfl; rfl; rfl) | (apply c_t; rfl) | (apply c_f; rfl) | apply c_skip | apply c_block | apply n_blk | apply c_exit | apply e_hit | apply e_cd | apply e_lp | (apply e_miss; rfl) | apply c_ret | (apply wO; apply o_box; rfl; rfl; rfl; intro _) | (apply wO; apply o_alloc; rfl; intro _) | (apply wO; apply o_st; rfl; rfl; rfl; (first | exact AggC.s | exact OneC.s); rfl; exact rplE; exact putE; rfl) | (apply wO; apply o_bs0; rfl; intro _) | (apply wO; apply o_bs; rfl; rfl; rfl; rfl; exact rptE; exact filE; intro _) | (apply wO; apply o_call; rfl; kernel_rfl; exact evsE))
  have hP := DropFrom_f d.y d.n (.agg #[.slice d.a d.y.queue.length d.c, .string d.y.fates, .int .i64 d.y.used]) d.F
  have hQ := specDropFrom_f d.y d.n (.agg #[.slice d.a d.y.queue.length d.c, .string d.y.fates, .int .i64 d.y.used]) d.F
  obtain ⟨W3, b3, e⟩ : ∃ W b, resDropFrom d.y d.n = (W, b) := ⟨_, _, rfl⟩
  rw [e] at hP hQ
  dsimp only at hP hQ
  refine cf hP fun p _ => ?_
  refine t_app ?_
  refine openOLink (x := W3) ?_
  rintro a5 c5 F5 e5 m1 m2
  rw [e5]
  repeat (first | apply c_seq | apply c_reg | (apply wO; apply oc; rfl; exact ydE) | apply w_nil | apply n_cd | (apply wg_t; rfl; rfl) | (apply wg_f; rfl; rfl; rfl; rfl) | (apply wg_u; rfl; rfl; rfl) | (apply c_t; rfl) | (apply c_f; rfl) | apply c_skip | apply c_block | apply n_blk | apply c_exit | apply e_hit | apply e_cd | apply e_lp | (apply e_miss; rfl) | apply c_ret | (apply wO; apply o_box; rfl; rfl; rfl; intro _) | (apply wO; apply o_alloc; rfl; intro _) | (apply wO; apply o_st; rfl; rfl; rfl; (first | exact AggC.s | exact OneC.s); rfl; exact rplE; exact putE; rfl) | (apply wO; apply o_bs0; rfl; intro _) | (apply wO; apply o_bs; rfl; rfl; rfl; rfl; exact rptE; exact filE; intro _) | (apply wO; apply o_call; rfl; kernel_rfl; exact evsE))
  refine cf hQ fun p2 _ => ?_
  refine t_app ?_
  refine openOLink (x := W3) ?_
  rintro a6 c6 F6 e6 m3 m4
  rw [e6]
  repeat (first | apply c_seq | apply c_reg | (apply wO; apply oc; rfl; exact ydE) | apply w_nil | apply n_cd | (apply wg_t; rfl; rfl) | (apply wg_f; rfl; rfl; rfl; rfl) | (apply wg_u; rfl; rfl; rfl) | (apply c_t; rfl) | (apply c_f; rfl) | apply c_skip | apply c_block | apply n_blk | apply c_exit | apply e_hit | apply e_cd | apply e_lp | (apply e_miss; rfl) | apply c_ret | (apply wO; apply o_box; rfl; rfl; rfl; intro _) | (apply wO; apply o_alloc; rfl; intro _) | (apply wO; apply o_st; rfl; rfl; rfl; (first | exact AggC.s | exact OneC.s); rfl; exact rplE; exact putE; rfl) | (apply wO; apply o_bs0; rfl; intro _) | (apply wO; apply o_bs; rfl; rfl; rfl; rfl; exact rptE; exact filE; intro _) | (apply wO; apply o_call; rfl; kernel_rfl; exact evsE))
  refine t_read (xs := W3.queue) fun F7 => ?_
  refine t_read (xs := W3.queue) fun F8 => ?_
  refine closeLink W3 m1 (a1 := a5) ?_
  refine closeLink W3 m1 (a1 := a6) ?_
  refine wg_if rfl rfl (fun h7 => ?_) (fun h7 => ?_)
  · exact absurd rfl h7
  repeat (first | apply c_seq | apply c_reg | (apply wO; apply oc; rfl; exact ydE) | apply w_nil | apply n_cd | (apply wg_t; rfl; rfl) | (apply wg_f; rfl; rfl; rfl; rfl) | (apply wg_u; rfl; rfl; rfl) | (apply c_t; rfl) | (apply c_f; rfl) | apply c_skip | apply c_block | apply n_blk | apply c_exit | apply e_hit | apply e_cd | apply e_lp | (apply e_miss; rfl) | apply c_ret | (apply wO; apply o_box; rfl; rfl; rfl; intro _) | (apply wO; apply o_alloc; rfl; intro _) | (apply wO; apply o_st; rfl; rfl; rfl; (first | exact AggC.s | exact OneC.s); rfl; exact rplE; exact putE; rfl) | (apply wO; apply o_bs0; rfl; intro _) | (apply wO; apply o_bs; rfl; rfl; rfl; rfl; exact rptE; exact filE; intro _) | (apply wO; apply o_call; rfl; kernel_rfl; exact evsE))
  refine cf (rLinks_f _ _ W3 _ _) fun _ _ => ?_
  refine t_app ?_
  repeat (first | apply c_seq | apply c_reg | (apply wO; apply oc; rfl; exact ydE) | apply w_nil | apply n_cd | (apply wg_t; rfl; rfl) | (apply wg_f; rfl; rfl; rfl; rfl) | (apply wg_u; rfl; rfl; rfl) | (apply c_t; rfl) | (apply c_f; rfl) | apply c_skip | apply c_block | apply n_blk | apply c_exit | apply e_hit | apply e_cd | apply e_lp | (apply e_miss; rfl) | apply c_ret | (apply wO; apply o_box; rfl; rfl; rfl; intro _) | (apply wO; apply o_alloc; rfl; intro _) | (apply wO; apply o_st; rfl; rfl; rfl; (first | exact AggC.s | exact OneC.s); rfl; exact rplE; exact putE; rfl) | (apply wO; apply o_bs0; rfl; intro _) | (apply wO; apply o_bs; rfl; rfl; rfl; rfl; exact rptE; exact filE; intro _) | (apply wO; apply o_call; rfl; kernel_rfl; exact evsE))
  refine cf (DrawNewLink_f v code G) fun f hf => ?_
  refine t_app ?_
  repeat (first | apply c_seq | apply c_reg | (apply wO; apply oc; rfl; exact ydE) | apply w_nil | apply n_cd | (apply wg_t; rfl; rfl) | (apply wg_f; rfl; rfl; rfl; rfl) | (apply wg_u; rfl; rfl; rfl) | (apply c_t; rfl) | (apply c_f; rfl) | apply c_skip | apply c_block | apply n_blk | apply c_exit | apply e_hit | apply e_cd | apply e_lp | (apply e_miss; rfl) | apply c_ret | (apply wO; apply o_box; rfl; rfl; rfl; intro _) | (apply wO; apply o_alloc; rfl; intro _) | (apply wO; apply o_st; rfl; rfl; rfl; (first | exact AggC.s | exact OneC.s); rfl; exact rplE; exact putE; rfl) | (apply wO; apply o_bs0; rfl; intro _) | (apply wO; apply o_bs; rfl; rfl; rfl; rfl; exact rptE; exact filE; intro _) | (apply wO; apply o_call; rfl; kernel_rfl; exact evsE))
  refine cf (NewLink_f f (by unfold maxLen; omega)) fun _ _ => ?_
  refine t_app ?_
  repeat (first | apply c_seq | apply c_reg | (apply wO; apply oc; rfl; exact ydE) | apply w_nil | apply n_cd | (apply wg_t; rfl; rfl) | (apply wg_f; rfl; rfl; rfl; rfl) | (apply wg_u; rfl; rfl; rfl) | (apply c_t; rfl) | (apply c_f; rfl) | apply c_skip | apply c_block | apply n_blk | apply c_exit | apply e_hit | apply e_cd | apply e_lp | (apply e_miss; rfl) | apply c_ret | (apply wO; apply o_box; rfl; rfl; rfl; intro _) | (apply wO; apply o_alloc; rfl; intro _) | (apply wO; apply o_st; rfl; rfl; rfl; (first | exact AggC.s | exact OneC.s); rfl; exact rplE; exact putE; rfl) | (apply wO; apply o_bs0; rfl; intro _) | (apply wO; apply o_bs; rfl; rfl; rfl; rfl; exact rptE; exact filE; intro _) | (apply wO; apply o_call; rfl; kernel_rfl; exact evsE))
  refine cf (specNewLink_f f (by unfold maxLen; omega)) fun _ _ => ?_
  refine t_app ?_
  repeat (first | apply c_seq | apply c_reg | (apply wO; apply oc; rfl; exact ydE) | apply w_nil | apply n_cd | (apply wg_t; rfl; rfl) | (apply wg_f; rfl; rfl; rfl; rfl) | (apply wg_u; rfl; rfl; rfl) | (apply c_t; rfl) | (apply c_f; rfl) | apply c_skip | apply c_block | apply n_blk | apply c_exit | apply e_hit | apply e_cd | apply e_lp | (apply e_miss; rfl) | apply c_ret | (apply wO; apply o_box; rfl; rfl; rfl; intro _) | (apply wO; apply o_alloc; rfl; intro _) | (apply wO; apply o_st; rfl; rfl; rfl; (first | exact AggC.s | exact OneC.s); rfl; exact rplE; exact putE; rfl) | (apply wO; apply o_bs0; rfl; intro _) | (apply wO; apply o_bs; rfl; rfl; rfl; rfl; exact rptE; exact filE; intro _) | (apply wO; apply o_call; rfl; kernel_rfl; exact evsE))
  refine wg_if rfl rfl (fun h8 => ?_) (fun h8 => ?_)
  · repeat (first | apply c_seq | apply c_reg | (apply wO; apply oc; rfl; exact ydE) | apply w_nil | apply n_cd | (apply wg_t; rfl; rfl) | (apply wg_f; rfl; rfl; rfl; rfl) | (apply wg_u; rfl; rfl; rfl) | (apply c_t; rfl) | (apply c_f; rfl) | apply c_skip | apply c_block | apply n_blk | apply c_exit | apply e_hit | apply e_cd | apply e_lp | (apply e_miss; rfl) | apply c_ret | (apply wO; apply o_box; rfl; rfl; rfl; intro _) | (apply wO; apply o_alloc; rfl; intro _) | (apply wO; apply o_st; rfl; rfl; rfl; (first | exact AggC.s | exact OneC.s); rfl; exact rplE; exact putE; rfl) | (apply wO; apply o_bs0; rfl; intro _) | (apply wO; apply o_bs; rfl; rfl; rfl; rfl; exact rptE; exact filE; intro _) | (apply wO; apply o_call; rfl; kernel_rfl; exact evsE))
    refine cf (rLinks_f _ _ (resNewLink f).1 _ _) fun _ _ => ?_
    refine t_app ?_
    repeat (first | apply c_seq | apply c_reg | (apply wO; apply oc; rfl; exact ydE) | apply w_nil | apply n_cd | (apply wg_t; rfl; rfl) | (apply wg_f; rfl; rfl; rfl; rfl) | (apply wg_u; rfl; rfl; rfl) | (apply c_t; rfl) | (apply c_f; rfl) | apply c_skip | apply c_block | apply n_blk | apply c_exit | apply e_hit | apply e_cd | apply e_lp | (apply e_miss; rfl) | apply c_ret | (apply wO; apply o_box; rfl; rfl; rfl; intro _) | (apply wO; apply o_alloc; rfl; intro _) | (apply wO; apply o_st; rfl; rfl; rfl; (first | exact AggC.s | exact OneC.s); rfl; exact rplE; exact putE; rfl) | (apply wO; apply o_bs0; rfl; intro _) | (apply wO; apply o_bs; rfl; rfl; rfl; rfl; exact rptE; exact filE; intro _) | (apply wO; apply o_call; rfl; kernel_rfl; exact evsE))
    refine ret () trivial rfl
  · exact absurd rfl h8
end Go.Proofs.YtidephmobajikaaDoor
/- What every law's proof shares: the step from 'returns true, and nothing that was there has turned' to the row's post; how arguments read. -/
namespace Go.Proofs.YtidephmobajikaaDoor
open Go.ChangeShapes Go.WideShapes Go.ChangeAt Go.RowKit

theorem trodAll_below {H : Type} {enc : TypeId × Value → H} {P : Program} (hl : laidOutB P = true) {W W' : World} (hb : Below W.heap.size W W') :
    ∀ (ts : List TypeId) (vs : List Value) (ds : List (DataW H)) (ps : List MemPlace), (∀ t ∈ ts, P.readableRec t = true ∧ t < P.types.size) →
      DataW.TrodAll enc P W 0 (fun _ => true) true ts vs ds ps → (∀ x ∈ ps, x.block < W.heap.size) → DataW.TrodAll enc P W' 0 (fun b => decide (b < W.heap.size)) true ts vs ds ps
  | [], vs, ds, ps, _, h, _ => by obtain ⟨rfl, rfl, rfl⟩ := trodAll_nil h; exact rfl
  | t :: ts, vs, ds, ps, ht, h, hlt => by
    obtain ⟨v, vs', d, ds', p, q, rfl, rfl, rfl, h1, h2⟩ := trodAll_cons h
    have ⟨a, b⟩ := ht t (by simp)
    exact ⟨p, q, Below.trod hl a b h1 hb fun x hx => hlt x (by simp [hx]), trodAll_below hl hb ts vs' ds' q (fun t h => ht t (by simp [h])) h2 fun x hx => hlt x (by simp [hx]), rfl⟩

/-- A law returned true and left all that was there aS it was: the row's post. -/
theorem law_post {H : Type} {enc : TypeId × Value → H} {P : Program} {f : Func} {s : ChangeSpec} {tb : TypeId} (hl : laidOutB P = true) (hr : ∀ t ∈ f.params.toList, P.readableRec t = true ∧ t < P.types.size)
    (hb : P.underlying tb = some .bool) (hres : f.resultTypes = #[tb]) (hv : s.vars = []) {W W' : World} {args : Array Value} {ds gs : List (DataW H)} {before : List MemPlace}
    (hs : s.fn H ds = { results := [.lit (.bool true)], args := ds }) (hW : DataW.Whole enc P f.params.toList s.vars false W args.toList ds gs before) (hB : Below W.heap.size W W') :
    s.post enc P f false true false false W args (.bool true) W' := by
  have hlt := hW.lt
  have hW0 := hW
  obtain ⟨p, q, hA, hV, rfl, _, _⟩ := hW0
  rw [hv] at hV
  obtain ⟨rfl, rfl⟩ := trodVars_none hV
  refine ⟨ds, [], p ++ [], [], p, [], hW, ?_, ?_, ?_, hB.frame _, fun h => by cases h⟩
  · rw [List.append_nil, hs, hres]
    exact trodAll_mk1 (shut_bool hb true)
  · rw [List.append_nil, hs]
    exact trodAll_below hl hB _ _ _ _ hr hA fun x hx => hlt x (by simpa using hx)
  · rw [hv, List.append_nil, hs]; exact rfl

/-- what reads aS data at type t reads by E -/
def Reads (P : Program) {α : Type} (E : Elem α) (t : TypeId) : Prop :=
  ∀ {H : Type} {enc : TypeId × Value → H} {w : World} {fuel : Nat} {cs : List Value} {x : DataW H × List MemPlace}, DataW.trod enc P w 0 (fun _ => true) true fuel t cs = some x → ∃ y F, E.rep w cs y F

section
variable {P : Program}
theorem reads_cells {α : Type} {E : Elem α} {e : TypeId} (hsz : P.cellsOf e = E.sz) (he : Reads P E e) {H : Type} {enc : TypeId × Value → H} {w : World} {n b off : Nat} :
    ∀ (els : List (DataW H × List MemPlace)) (k : Nat), (∀ i, i < els.length → (w.cells? 0 ((⟨b, off, none⟩ : Addr).add ((k + i) * P.cellsOf e)) (P.cellsOf e)).bind (DataW.trod enc P w 0 (fun _ => true) true n e) = els[i]?) →
      ∃ ys F, ys.length = els.length ∧ Cells E w b (off + k * E.sz) ys F
  | [], _, _ => ⟨[], [], rfl, rfl⟩
  | x :: r, k, h => by
    have h0 := h 0 (by simp)
    simp only [Nat.add_zero, List.getElem?_cons_zero, Option.bind_eq_some_iff] at h0
    obtain ⟨cs, hc, hx⟩ := h0
    obtain ⟨y, F1, hy⟩ := he hx
    obtain ⟨ys, F2, hl, hys⟩ := reads_cells hsz he r (k + 1) fun i hi => by
      have := h (i + 1) (by simpa using hi)
      rw [show k + 1 + i = k + (i + 1) by omega]
      simpa using this
    refine ⟨y :: ys, F1 ++ F2, by simp [hl], cs, F1, F2, rfl, hy, fun j hj => ?_, by rwa [show off + k * E.sz + E.sz = off + (k + 1) * E.sz by rw [Nat.add_mul]; omega]⟩
    obtain ⟨_, hlen, hcell⟩ := World.cells?_some hc
    rw [← hcell j (by rw [hsz]; exact hj)]
    congr 1
    simp only [Addr.add, hsz]
    split <;> split <;> simp_all <;> omega
theorem reads_slice {α : Type} {E : Elem α} {t e : TypeId} (ht : P.underlying t = some (.slice e)) (hsz : P.cellsOf e = E.sz) (hz : 0 < E.sz) (he : Reads P E e) : Reads P (ESl E hz) t := fun h => by
  rcases DataW.trod_slice ht h with ⟨rfl, _⟩ | ⟨a, len, cap, elems, rest, n, rfl, rfl, _, _, hlc, hcm, hlen, hel, _, _⟩
  · exact ⟨[], [], _, rfl, none, 0, rfl, ⟨by simp, by simp⟩, .inl ⟨rfl, rfl, fun _ => rfl⟩⟩
  · by_cases h0 : len = 0
    · subst h0
      exact ⟨[], [], _, rfl, some a, cap, rfl, ⟨by simp, by omega⟩, .inl ⟨rfl, rfl, fun e => by cases e⟩⟩
    · have hs : a = ⟨a.block, a.off, none⟩ := by
        have := hel 0 (by omega)
        rw [List.getElem?_eq_getElem (by omega)] at this
        simp only [Option.bind_eq_some_iff] at this
        obtain ⟨cs, hc, _⟩ := this
        obtain ⟨_, hl2, hcell⟩ := World.cells?_some hc
        have h1 := hcell 0 (by omega)
        rw [List.getElem?_eq_getElem (by omega)] at h1
        simp [Addr.add, World.cell?] at h1
        split at h1 <;> simp_all
        cases a; simp_all
      obtain ⟨ys, F, hyl, hys⟩ := reads_cells hsz he elems 0 (n := n) (b := a.block) (off := a.off) (enc := _) (w := _) (by
        rw [← hs]; intro i hi; rw [Nat.zero_add]; exact hel i (by omega))
      refine ⟨ys, a.block :: F, _, rfl, some a, cap, by rw [hyl, hlen], ⟨by omega, by omega⟩, .inr ⟨a.block, a.off, F, by rw [← hs], ?_, rfl, by simpa using hys⟩⟩
      intro e; rw [e] at hyl; simp at hyl; omega
end

/-- the fields of a struct, one behind the other, each by its own reading -/
inductive FieldsOk (P : Program) : List Field → Nat → (α : Type) → Elem α → Prop
  | nil (off : Nat) : FieldsOk P [] off Unit EUnit
  | cons {f : Field} {r : List Field} {off : Nat} {α β : Type} {A : Elem α} {B : Elem β} (ho : f.offset = off) (hc : P.cellsOf f.type = A.sz) (hA : Reads P A f.type) (h : FieldsOk P r (off + A.sz) β B) : FieldsOk P (f :: r) off (α × β) (EProd A B)
end Go.Proofs.YtidephmobajikaaDoor
