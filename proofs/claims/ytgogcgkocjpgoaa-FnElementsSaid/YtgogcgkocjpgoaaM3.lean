/- Part 3 of the proof: 11 texts, one behind the other. -/
import Derived.Laws.Bits64b
import Derived.ProofKit
import Derived.OpenShut
import Derived.Test.YtgogcgkocjpgoaaM2
/- Walks: the reference's draws: a cursor over bytes. -/
namespace Go.Proofs.Ytgogcgkocjpgoaa
open Go.RowKit
section
variable {P : Program} {ops : Array Oper} {Q : Exit → Act → World → Prop} {md : Region.Mode} {S : World → Prop} {X : Nat → Bool}
/-- an operation that looks at no cell may be taken first, whatever has been stored -/
theorem AnyX.firstP {i : Nat} {oi : Oper} {v : Value} (hi : ops[i]? = some oi) (hsel : ∀ (j : Nat) (o : Oper) cs b, ops[j]? = some o → o.op ≠ .select cs b)
    (hQ : ∀ c a w, Q (.panic c) (a.put oi.dst v) w → Q (.panic c) a w) (hXi : X i = true) :
    ∀ (f : Nat) (listed : Array Bool) (a : Act) (w : World),
      (∀ j oj, ops[j]? = some oj → j ≠ i → listed.getD j true = false → (∀ e ∈ oj.after, Region.binds md e = true → e.on ≠ i) → oi.apart ops oj = true) →
      i ∈ Region.ready md ops listed → YieldsIf P ops (fun _ => True) oi v a → AnyX P md ops Q S X f (listed.setIfInBounds i true) (a.put oi.dst v) w → AnyX P md ops Q S X (f + 1) listed a w := by
  intro f
  induction f with
  | zero =>
    intro listed a w _ hr hy H
    refine ⟨fun h => (by rw [h] at hr; cases hr), fun j hj => ?_⟩
    by_cases hji : j = i
    · subst hji; exact hy.wpOp hi trivial ⟨(fun h => by rw [hXi] at h; cases h), H⟩
    · have := ready_mono hj hji
      rw [H.1] at this; cases this
  | succ f ih =>
    intro listed a w hfree hr hy H
    refine ⟨fun h => (by rw [h] at hr; cases hr), fun j hj => ?_⟩
    by_cases hji : j = i
    · subst hji; exact hy.wpOp hi trivial ⟨(fun h => by rw [hXi] at h; cases h), H⟩
    · obtain ⟨hju, oj, hoj, hall⟩ := mem_ready.1 hj
      have hiu := unlisted (mem_ready.1 hr).1
      have hnot : ∀ e ∈ oj.after, Region.binds md e = true → e.on ≠ i := fun e he hb heq => by
        have h1 := hall e he hb
        rw [heq, hiu] at h1; cases h1
      have h2 := wpOp_putIf hoj (hfree j oj hoj hji hju hnot) (fun cs b => hsel i oi cs b hi) (fun cs b => hsel j oj cs b hoj) hQ hy (H.2 j (ready_mono hj hji))
      refine wpOp_mono (fun a' w' h3 => ⟨h3.2.1, ih (listed.setIfInBounds j true) a' w' (fun k ok hk hki hun hno => hfree k ok hk hki ?_ hno) (ready_mono hr (Ne.symm hji)) h3.1 ?_⟩) h2
      · by_cases hjk : j = k
        · subst hjk; exact hju
        · rw [getD_set_ne true hjk] at hun; exact hun
      · rw [Array.setIfInBounds_comm _ _ hji]; exact h3.2.2
theorem AnyX.takeP {i : Nat} {oi : Oper} {v : Value} {f : Nat} {listed : Array Bool} {a : Act} {w : World} (hi : ops[i]? = some oi)
    (hs : Region.noSelect ops = true) (hf : Region.free md ops listed i = true) (hr : (Region.ready md ops listed).contains i = true) (hXi : X i = true)
    (hQ : ∀ c a w, Q (.panic c) (a.put oi.dst v) w → Q (.panic c) a w) (hy : YieldsIf P ops (fun _ => True) oi v a)
    (h : AnyX P md ops Q S X f (listed.setIfInBounds i true) (a.put oi.dst v) w) : AnyX P md ops Q S X (f + 1) listed a w :=
  AnyX.firstP hi (Region.noSelect_spec hs) hQ hXi f listed a w (Region.free_spec hi hf) (by simpa using hr) hy h
end
theorem Sl.byte {w v} {xs : List Int} {F} (h : Sl EByte w v xs F) : xs.length ≤ maxLen ∧ ∀ k (hk : k < xs.length), (0 ≤ xs[k] ∧ xs[k] ≤ 255) ∧ ∃ b off, v = .slice (some ⟨b, off, none⟩) xs.length (match v with | .slice _ _ c => c | _ => 0) ∧ b ∈ F ∧ w.cell? ⟨b, off + k, none⟩ = some (.int .u8 xs[k]) := by
  obtain ⟨a, cap, rfl, hl, ⟨rfl, rfl, _⟩ | ⟨b, off, F', rfl, hne, rfl, hc⟩⟩ := h
  · exact ⟨by simp, fun k hk => by simp at hk⟩
  · refine ⟨by omega, fun k hk => ?_⟩
    obtain ⟨cs, F1, ⟨rfl, h0, h1, rfl⟩, hcell, _⟩ := hc.get k hk
    refine ⟨⟨h0, h1⟩, b, off, rfl, by simp, ?_⟩
    simpa [EByte] using hcell 0 (by decide)
/-- the bytes that a cursor reads -/
structure CuF where
  code : List Int
  a : Option Addr
  c : Nat
  bs : List Nat
/-- the cursor lies in block g; its bytes in F, below it; it has moved at most B steps -/
def Cur (B : Nat) (w : World) (g : Nat) (F : CuF) : Prop :=
  ∃ (k : Nat) (seed : Int), Row w g 70 [.slice F.a F.code.length F.c, .int .i64 k, .int .u64 seed] ∧ Sl EByte w (.slice F.a F.code.length F.c) F.code F.bs ∧ g ∉ F.bs ∧ k ≤ B ∧ 0 ≤ seed ∧ seed < 18446744073709551616
theorem Cur.keep {B w w' g F K} (h : Cur B w g F) (hk : Keep K w w') (h1 : g ∉ K) (h2 : ∀ b ∈ F.bs, b ∉ K) : Cur B w' g F := by
  obtain ⟨k, seed, R, S, hF, h3⟩ := h
  exact ⟨k, seed, R.keepK hk h1, S.keep hk h2 (by decide), hF, h3⟩
theorem Cur.below {B w w' g F} (h : Cur B w g F) (hb : Below w.heap.size w w') : Cur B w' g F := by
  obtain ⟨k, seed, R, S, hF, h3⟩ := h
  exact ⟨k, seed, R.below hb, S.below (by decide) hb, hF, h3⟩
theorem Cur.mono {B B' w g F} (h : Cur B w g F) (hb : B ≤ B') : Cur B' w g F := by
  obtain ⟨k, seed, R, S, hF, h3, h4⟩ := h
  exact ⟨k, seed, R, S, hF, by omega, h4⟩
theorem Cur.lt {B w g F} (h : Cur B w g F) : g < w.heap.size := by
  obtain ⟨k, seed, R, _⟩ := h; exact R.lt
def PNext (B g : Nat) (F : CuF) (w : World) (e : Ending) (w' : World) : Prop := ∃ r : Nat, e = .returned (.int .i64 r) ∧ r ≤ 255 ∧ Cur (B + 1) w' g F ∧ Keep [g] w w'
set_option maxHeartbeats 3200000 in
set_option maxRecDepth 100000 in
theorem next_c (B g : Nat) (F : CuF) (w : World) (h : Cur B w g F) (hB0 : B ≤ 1099511627776) :
    Calls Try.prog 80 #[.pointer (some ⟨g, 0, none⟩)] w (PNext B g F w) := by
  obtain ⟨code, a, c, F⟩ := F
  obtain ⟨k, seed, R, S, hF, h2, h3, h4⟩ := h
  dsimp only at R S hF
  have hl := S.byte.1
  unfold maxLen at hl
  have hlt := S.lt (by decide)
  by_cases hk : k < code.length
  · obtain ⟨⟨hz0, hz1⟩, b, off, hv, hbF, hcell⟩ := S.byte.2 k hk
    simp only [Value.slice.injEq] at hv
    obtain ⟨rfl, -, -⟩ := hv
    generalize code[k] = z at *
    have hbg : b ≠ g := fun e => hF (e ▸ hbF)
    have hcl := fun w' (hb : Below w.heap.size w w') => kc hb hcell
    replace hcl := Lib.hid hcl
    clear hcell
    have hB := Below.refl w.heap.size w
    go_enter Try.func80, Try.ntmps80
    go_wp2_with fail
    refine AnyX.start (S := (fun w' => w'.cell? ⟨g, 0, none⟩ = some (.slice (some ⟨b, off, none⟩) code.length c) ∧ w'.cell? ⟨g, 1, none⟩ = some (.int .i64 k) ∧ w'.cell? ⟨g, 2, none⟩ = some (.int .u64 seed) ∧ w'.cell? ⟨b, off + k, none⟩ = some (.int .u8 z))) (X := (fun _ => false)) (by kernel_rfl) ?_
    have al : Below w.heap.size w w.drew := belowDrewN (Below.refl _ _) 1
    have hs_w1 := al.size
    replace R := R.below al
    replace S := S.below (by decide) al
    replace hB := tr hB al (Nat.le_refl _)
    generalize w.drew = w1 at *
    clear al
    have hS : (fun w' => w'.cell? ⟨g, 0, none⟩ = some (.slice (some ⟨b, off, none⟩) code.length c) ∧ w'.cell? ⟨g, 1, none⟩ = some (.int .i64 k) ∧ w'.cell? ⟨g, 2, none⟩ = some (.int .u64 seed) ∧ w'.cell? ⟨b, off + k, none⟩ = some (.int .u8 z)) w1 := ⟨R.cells 0, R.cells 1, R.cells 2, hcl.out _ hB⟩
    refine AnyX.take (i := 0) (oi := _) (v := ?_) (by rw [List.getElem?_toArray]; rfl) (by kernel_rfl) (by kernel_rfl) (by kernel_rfl) (by kernel_rfl) (by kernel_rfl) (by exact fun _ _ _ h => h) (Or.inl ⟨by rfl, ?_⟩) hS ?_
    rotate_left
    · (intro wS hSw; (try dsimp only at hSw); go_simp; try with_reducible rfl)
    try simp only [Act.put, List.setIfInBounds_toArray, List.set_cons_zero, List.set_cons_succ]
    refine AnyX.take (i := 1) (oi := _) (v := ?_) (by rw [List.getElem?_toArray]; rfl) (by kernel_rfl) (by kernel_rfl) (by kernel_rfl) (by kernel_rfl) (by kernel_rfl) (by exact fun _ _ _ h => h) (Or.inl ⟨by rfl, ?_⟩) hS ?_
    rotate_left
    · (intro wS hSw; (try dsimp only at hSw); go_simp; try with_reducible rfl)
    try simp only [Act.put, List.setIfInBounds_toArray, List.set_cons_zero, List.set_cons_succ]
    refine AnyX.take (i := 2) (oi := _) (v := ?_) (by rw [List.getElem?_toArray]; rfl) (by kernel_rfl) (by kernel_rfl) (by kernel_rfl) (by kernel_rfl) (by kernel_rfl) (by exact fun _ _ _ h => h) (Or.inl ⟨by rfl, ?_⟩) hS ?_
    rotate_left
    · (intro wS hSw; (try dsimp only at hSw); go_simp; try with_reducible rfl)
    try simp only [Act.put, List.setIfInBounds_toArray, List.set_cons_zero, List.set_cons_succ]
    refine AnyX.take (i := 3) (oi := _) (v := ?_) (by rw [List.getElem?_toArray]; rfl) (by kernel_rfl) (by kernel_rfl) (by kernel_rfl) (by kernel_rfl) (by kernel_rfl) (by exact fun _ _ _ h => h) (Or.inl ⟨by rfl, ?_⟩) hS ?_
    rotate_left
    · (intro wS hSw; (try dsimp only at hSw); go_simp; try with_reducible rfl)
    try simp only [Act.put, List.setIfInBounds_toArray, List.set_cons_zero, List.set_cons_succ]
    refine AnyX.take (i := 4) (oi := _) (v := ?_) (by rw [List.getElem?_toArray]; rfl) (by kernel_rfl) (by kernel_rfl) (by kernel_rfl) (by kernel_rfl) (by kernel_rfl) (by exact fun _ _ _ h => h) (Or.inl ⟨by rfl, ?_⟩) hS ?_
    rotate_left
    · (intro wS hSw; (try dsimp only at hSw); go_simp; try with_reducible rfl)
    try simp only [Act.put, List.setIfInBounds_toArray, List.set_cons_zero, List.set_cons_succ]
    refine AnyX.take (i := 5) (oi := _) (v := ?_) (by rw [List.getElem?_toArray]; rfl) (by kernel_rfl) (by kernel_rfl) (by kernel_rfl) (by kernel_rfl) (by kernel_rfl) (by exact fun _ _ _ h => h) (Or.inl ⟨by rfl, ?_⟩) hS ?_
    rotate_left
    · (intro wS hSw; (try dsimp only at hSw); go_simp; try with_reducible rfl)
    try simp only [Act.put, List.setIfInBounds_toArray, List.set_cons_zero, List.set_cons_succ]
    refine AnyX.take (i := 6) (oi := _) (v := ?_) (by rw [List.getElem?_toArray]; rfl) (by kernel_rfl) (by kernel_rfl) (by kernel_rfl) (by kernel_rfl) (by kernel_rfl) (by exact fun _ _ _ h => h) (Or.inl ⟨by rfl, ?_⟩) hS ?_
    rotate_left
    · (intro wS hSw; (try dsimp only at hSw); go_simp; try with_reducible rfl)
    try simp only [Act.put, List.setIfInBounds_toArray, List.set_cons_zero, List.set_cons_succ]
    refine AnyX.take (i := 7) (oi := _) (v := ?_) (by rw [List.getElem?_toArray]; rfl) (by kernel_rfl) (by kernel_rfl) (by kernel_rfl) (by kernel_rfl) (by kernel_rfl) (by exact fun _ _ _ h => h) (Or.inl ⟨by rfl, ?_⟩) hS ?_
    rotate_left
    · (intro wS hSw; (try dsimp only at hSw); go_simp; try with_reducible rfl)
    try simp only [Act.put, List.setIfInBounds_toArray, List.set_cons_zero, List.set_cons_succ]
    refine AnyX.take (i := 8) (oi := _) (v := ?_) (by rw [List.getElem?_toArray]; rfl) (by kernel_rfl) (by kernel_rfl) (by kernel_rfl) (by kernel_rfl) (by kernel_rfl) (by exact fun _ _ _ h => h) (Or.inl ⟨by rfl, ?_⟩) hS ?_
    rotate_left
    · (intro wS hSw; (try dsimp only at hSw); go_simp; try with_reducible rfl)
    try simp only [Act.put, List.setIfInBounds_toArray, List.set_cons_zero, List.set_cons_succ]
    refine AnyX.take (i := 9) (oi := _) (v := ?_) (by rw [List.getElem?_toArray]; rfl) (by kernel_rfl) (by kernel_rfl) (by kernel_rfl) (by kernel_rfl) (by kernel_rfl) (by exact fun _ _ _ h => h) (Or.inl ⟨by rfl, ?_⟩) hS ?_
    rotate_left
    · (intro wS hSw; (try dsimp only at hSw); go_simp; try with_reducible rfl)
    try simp only [Act.put, List.setIfInBounds_toArray, List.set_cons_zero, List.set_cons_succ]
    refine AnyX.done (by kernel_rfl) ?_ _
    (try clear hS)
    have c_R := R.cells; have f_R := R.frozens
    go_wp2_with fail
    clear c_R f_R
    rename_i K0 hK0
    refine AnyX.start (S := (fun w' => w'.cell? ⟨g, 0, none⟩ = some (.slice (some ⟨b, off, none⟩) code.length c) ∧ w'.cell? ⟨g, 1, none⟩ = some (.int .i64 k) ∧ w'.cell? ⟨g, 2, none⟩ = some (.int .u64 seed) ∧ w'.cell? ⟨b, off + k, none⟩ = some (.int .u8 z))) (X := (fun _ => false)) (by kernel_rfl) ?_
    have al : Below w1.heap.size w1 w1.drew := belowDrewN (Below.refl _ _) 1
    have hs_w2 := al.size
    replace R := R.below al
    replace S := S.below (by decide) al
    replace hB := tr hB al (Nat.le_refl _)
    generalize w1.drew = w2 at *
    clear al
    have hS : (fun w' => w'.cell? ⟨g, 0, none⟩ = some (.slice (some ⟨b, off, none⟩) code.length c) ∧ w'.cell? ⟨g, 1, none⟩ = some (.int .i64 k) ∧ w'.cell? ⟨g, 2, none⟩ = some (.int .u64 seed) ∧ w'.cell? ⟨b, off + k, none⟩ = some (.int .u8 z)) w2 := ⟨R.cells 0, R.cells 1, R.cells 2, hcl.out _ hB⟩
    refine AnyX.take (i := 0) (oi := _) (v := ?_) (by rw [List.getElem?_toArray]; rfl) (by kernel_rfl) (by kernel_rfl) (by kernel_rfl) (by kernel_rfl) (by kernel_rfl) (by exact fun _ _ _ h => h) (Or.inl ⟨by rfl, ?_⟩) hS ?_
    rotate_left
    · (intro wS hSw; (try dsimp only at hSw); go_simp; try with_reducible rfl)
    try simp only [Act.put, List.setIfInBounds_toArray, List.set_cons_zero, List.set_cons_succ]
    refine AnyX.take (i := 1) (oi := _) (v := ?_) (by rw [List.getElem?_toArray]; rfl) (by kernel_rfl) (by kernel_rfl) (by kernel_rfl) (by kernel_rfl) (by kernel_rfl) (by exact fun _ _ _ h => h) (Or.inl ⟨by rfl, ?_⟩) hS ?_
    rotate_left
    · (intro wS hSw; (try dsimp only at hSw); go_simp; try with_reducible rfl)
    try simp only [Act.put, List.setIfInBounds_toArray, List.set_cons_zero, List.set_cons_succ]
    refine AnyX.take (i := 2) (oi := _) (v := ?_) (by rw [List.getElem?_toArray]; rfl) (by kernel_rfl) (by kernel_rfl) (by kernel_rfl) (by kernel_rfl) (by kernel_rfl) (by exact fun _ _ _ h => h) (Or.inl ⟨by rfl, ?_⟩) hS ?_
    rotate_left
    · (intro wS hSw; (try dsimp only at hSw); go_simp; try with_reducible rfl)
    try simp only [Act.put, List.setIfInBounds_toArray, List.set_cons_zero, List.set_cons_succ]
    refine AnyX.take (i := 3) (oi := _) (v := ?_) (by rw [List.getElem?_toArray]; rfl) (by kernel_rfl) (by kernel_rfl) (by kernel_rfl) (by kernel_rfl) (by kernel_rfl) (by exact fun _ _ _ h => h) (Or.inl ⟨by rfl, ?_⟩) hS ?_
    rotate_left
    · (intro wS hSw; (try dsimp only at hSw); go_simp; try with_reducible rfl)
    try simp only [Act.put, List.setIfInBounds_toArray, List.set_cons_zero, List.set_cons_succ]
    refine AnyX.take (i := 4) (oi := _) (v := ?_) (by rw [List.getElem?_toArray]; rfl) (by kernel_rfl) (by kernel_rfl) (by kernel_rfl) (by kernel_rfl) (by kernel_rfl) (by exact fun _ _ _ h => h) (Or.inl ⟨by rfl, ?_⟩) hS ?_
    rotate_left
    · (intro wS hSw; (try dsimp only at hSw); go_simp; try with_reducible rfl)
    try simp only [Act.put, List.setIfInBounds_toArray, List.set_cons_zero, List.set_cons_succ]
    refine AnyX.take (i := 5) (oi := _) (v := ?_) (by rw [List.getElem?_toArray]; rfl) (by kernel_rfl) (by kernel_rfl) (by kernel_rfl) (by kernel_rfl) (by kernel_rfl) (by exact fun _ _ _ h => h) (Or.inl ⟨by rfl, ?_⟩) hS ?_
    rotate_left
    · (intro wS hSw; (try dsimp only at hSw); go_simp; try with_reducible rfl)
    try simp only [Act.put, List.setIfInBounds_toArray, List.set_cons_zero, List.set_cons_succ]
    refine AnyX.take (i := 6) (oi := _) (v := ?_) (by rw [List.getElem?_toArray]; rfl) (by kernel_rfl) (by kernel_rfl) (by kernel_rfl) (by kernel_rfl) (by kernel_rfl) (by exact fun _ _ _ h => h) (Or.inl ⟨by rfl, ?_⟩) hS ?_
    rotate_left
    · (intro wS hSw; (try dsimp only at hSw); go_simp; try with_reducible rfl)
    try simp only [Act.put, List.setIfInBounds_toArray, List.set_cons_zero, List.set_cons_succ]
    refine AnyX.take (i := 7) (oi := _) (v := ?_) (by rw [List.getElem?_toArray]; rfl) (by kernel_rfl) (by kernel_rfl) (by kernel_rfl) (by kernel_rfl) (by kernel_rfl) (by exact fun _ _ _ h => h) (Or.inl ⟨by rfl, ?_⟩) hS ?_
    rotate_left
    · (intro wS hSw; (try dsimp only at hSw); go_simp; try with_reducible rfl)
    try simp only [Act.put, List.setIfInBounds_toArray, List.set_cons_zero, List.set_cons_succ]
    refine AnyX.take (i := 8) (oi := _) (v := ?_) (by rw [List.getElem?_toArray]; rfl) (by kernel_rfl) (by kernel_rfl) (by kernel_rfl) (by kernel_rfl) (by kernel_rfl) (by exact fun _ _ _ h => h) (Or.inl ⟨by rfl, ?_⟩) hS ?_
    rotate_left
    · (intro wS hSw; (try dsimp only at hSw); go_simp; try with_reducible rfl)
    try simp only [Act.put, List.setIfInBounds_toArray, List.set_cons_zero, List.set_cons_succ]
    refine AnyX.take (i := 9) (oi := _) (v := ?_) (by rw [List.getElem?_toArray]; rfl) (by kernel_rfl) (by kernel_rfl) (by kernel_rfl) (by kernel_rfl) (by kernel_rfl) (by exact fun _ _ _ h => h) (Or.inl ⟨by rfl, ?_⟩) hS ?_
    rotate_left
    · (intro wS hSw; (try dsimp only at hSw); go_simp; try with_reducible rfl)
    try simp only [Act.put, List.setIfInBounds_toArray, List.set_cons_zero, List.set_cons_succ]
    refine AnyX.take (i := 10) (oi := _) (v := ?_) (by rw [List.getElem?_toArray]; rfl) (by kernel_rfl) (by kernel_rfl) (by kernel_rfl) (by kernel_rfl) (by kernel_rfl) (by exact fun _ _ _ h => h) (Or.inl ⟨by rfl, ?_⟩) hS ?_
    rotate_left
    · (intro wS hSw; (try dsimp only at hSw); go_simp; try with_reducible rfl)
    try simp only [Act.put, List.setIfInBounds_toArray, List.set_cons_zero, List.set_cons_succ]
    refine AnyX.only (i := 11) (o := _) (by kernel_rfl) (by rw [List.getElem?_toArray]; rfl) (fun K hK => ?_)
    try go_simp
    clear hS
    have hS : (fun w' => w'.cell? ⟨g, 0, none⟩ = some (.slice (some ⟨b, off, none⟩) code.length c) ∧ w'.cell? ⟨g, 1, none⟩ = some (.int .i64 k) ∧ w'.cell? ⟨g, 2, none⟩ = some (.int .u64 seed) ∧ w'.cell? ⟨b, off + k, none⟩ = some (.int .u8 z)) w2 := ⟨R.cells 0, R.cells 1, R.cells 2, hcl.out _ hB⟩
    refine hK.out _ _ (fun _ => hS) ?_
    clear hK K
    try simp only [Act.put, List.setIfInBounds_toArray, List.set_cons_zero, List.set_cons_succ]
    refine AnyX.done (by kernel_rfl) ?_ _
    (try clear hS)
    refine hK0 _ _ ?_
    clear hK0 K0
    have c_R := R.cells; have f_R := R.frozens
    go_wp2_with fail
    clear c_R f_R
    have n_K : Keep [g] w ((w2.setCell ⟨g, 1, none⟩ (.int .i64 ((k : Int) + 1))).setCell ⟨g, 2, none⟩ (.int .u64 (IntKind.u64.wrap (IntKind.u64.wrap (IntKind.u64.wrap (seed * 6364136223846793005) + z) + 840840)))) := ((Keep.ofBelow hB).setCell (p := ⟨g, 1, none⟩) (by simp) _).setCell (p := ⟨g, 2, none⟩) (by simp) _
    have n_R : Row ((w2.setCell ⟨g, 1, none⟩ (.int .i64 ((k : Int) + 1))).setCell ⟨g, 2, none⟩ (.int .u64 (IntKind.u64.wrap (IntKind.u64.wrap (IntKind.u64.wrap (seed * 6364136223846793005) + z) + 840840)))) g 70 [.slice (some ⟨b, off, none⟩) code.length c, .int .i64 ((k + 1 : Nat) : Int), .int .u64 (IntKind.u64.wrap (IntKind.u64.wrap (IntKind.u64.wrap (seed * 6364136223846793005) + z) + 840840))] := by simpa using ((R.set 1 (.int .i64 ((k : Int) + 1))).set 2 (.int .u64 (IntKind.u64.wrap (IntKind.u64.wrap (IntKind.u64.wrap (seed * 6364136223846793005) + z) + 840840))))
    have n_S : Sl EByte ((w2.setCell ⟨g, 1, none⟩ (.int .i64 ((k : Int) + 1))).setCell ⟨g, 2, none⟩ (.int .u64 (IntKind.u64.wrap (IntKind.u64.wrap (IntKind.u64.wrap (seed * 6364136223846793005) + z) + 840840)))) (Value.slice (some ⟨b, off, none⟩) code.length c) code F := S.frame (fun b hb => by have : b ≠ g := fun e => hF (e ▸ hb); repeat rw [Below.heap_setCell _ _ _ _ (by simp <;> omega)])
    have hs0 : 0 ≤ (IntKind.u64.wrap (IntKind.u64.wrap (IntKind.u64.wrap (seed * 6364136223846793005) + z) + 840840)) ∧ (IntKind.u64.wrap (IntKind.u64.wrap (IntKind.u64.wrap (seed * 6364136223846793005) + z) + 840840)) < 18446744073709551616 := by rw [IntKind.wrap_u64]; omega
    clear R S hB
    generalize (IntKind.u64.wrap (IntKind.u64.wrap (IntKind.u64.wrap (seed * 6364136223846793005) + z) + 840840)) = sd at *
    obtain ⟨hs0, hs1⟩ := hs0
    generalize ((w2.setCell ⟨g, 1, none⟩ (.int .i64 ((k : Int) + 1))).setCell ⟨g, 2, none⟩ (.int .u64 sd)) = w3 at *
    have R := n_R; clear n_R
    have S := n_S; clear n_S
    rename_i K0 hK0
    refine AnyX.start (S := (fun w' => w'.cell? ⟨g, 0, none⟩ = some (.slice (some ⟨b, off, none⟩) code.length c) ∧ w'.cell? ⟨g, 1, none⟩ = some (.int .i64 ((k + 1 : Nat) : Int)) ∧ w'.cell? ⟨g, 2, none⟩ = some (.int .u64 sd))) (X := (fun _ => false)) (by kernel_rfl) ?_
    have al : Below w3.heap.size w3 w3.drew := belowDrewN (Below.refl _ _) 1
    have hs_w4 := al.size
    replace R := R.below al
    replace S := S.below (by decide) al
    have hB := al
    generalize w3.drew = w4 at *
    clear al
    have hS : (fun w' => w'.cell? ⟨g, 0, none⟩ = some (.slice (some ⟨b, off, none⟩) code.length c) ∧ w'.cell? ⟨g, 1, none⟩ = some (.int .i64 ((k + 1 : Nat) : Int)) ∧ w'.cell? ⟨g, 2, none⟩ = some (.int .u64 sd)) w4 := ⟨R.cells 0, R.cells 1, R.cells 2⟩
    refine AnyX.take (i := 0) (oi := _) (v := ?_) (by rw [List.getElem?_toArray]; rfl) (by kernel_rfl) (by kernel_rfl) (by kernel_rfl) (by kernel_rfl) (by kernel_rfl) (by exact fun _ _ _ h => h) (Or.inl ⟨by rfl, ?_⟩) hS ?_
    rotate_left
    · (intro wS hSw; (try dsimp only at hSw); go_simp; try with_reducible rfl)
    try simp only [Act.put, List.setIfInBounds_toArray, List.set_cons_zero, List.set_cons_succ]
    refine AnyX.take (i := 1) (oi := _) (v := ?_) (by rw [List.getElem?_toArray]; rfl) (by kernel_rfl) (by kernel_rfl) (by kernel_rfl) (by kernel_rfl) (by kernel_rfl) (by exact fun _ _ _ h => h) (Or.inl ⟨by rfl, ?_⟩) hS ?_
    rotate_left
    · (intro wS hSw; (try dsimp only at hSw); go_simp; try with_reducible rfl)
    try simp only [Act.put, List.setIfInBounds_toArray, List.set_cons_zero, List.set_cons_succ]
    refine AnyX.take (i := 2) (oi := _) (v := ?_) (by rw [List.getElem?_toArray]; rfl) (by kernel_rfl) (by kernel_rfl) (by kernel_rfl) (by kernel_rfl) (by kernel_rfl) (by exact fun _ _ _ h => h) (Or.inl ⟨by rfl, ?_⟩) hS ?_
    rotate_left
    · (intro wS hSw; (try dsimp only at hSw); go_simp; try with_reducible rfl)
    try simp only [Act.put, List.setIfInBounds_toArray, List.set_cons_zero, List.set_cons_succ]
    refine AnyX.take (i := 3) (oi := _) (v := ?_) (by rw [List.getElem?_toArray]; rfl) (by kernel_rfl) (by kernel_rfl) (by kernel_rfl) (by kernel_rfl) (by kernel_rfl) (by exact fun _ _ _ h => h) (Or.inl ⟨by rfl, ?_⟩) hS ?_
    rotate_left
    · (intro wS hSw; (try dsimp only at hSw); go_simp; try with_reducible rfl)
    try simp only [Act.put, List.setIfInBounds_toArray, List.set_cons_zero, List.set_cons_succ]
    refine AnyX.take (i := 4) (oi := _) (v := ?_) (by rw [List.getElem?_toArray]; rfl) (by kernel_rfl) (by kernel_rfl) (by kernel_rfl) (by kernel_rfl) (by kernel_rfl) (by exact fun _ _ _ h => h) (Or.inl ⟨by rfl, ?_⟩) hS ?_
    rotate_left
    · (intro wS hSw; (try dsimp only at hSw); go_simp; try with_reducible rfl)
    try simp only [Act.put, List.setIfInBounds_toArray, List.set_cons_zero, List.set_cons_succ]
    refine AnyX.take (i := 5) (oi := _) (v := ?_) (by rw [List.getElem?_toArray]; rfl) (by kernel_rfl) (by kernel_rfl) (by kernel_rfl) (by kernel_rfl) (by kernel_rfl) (by exact fun _ _ _ h => h) (Or.inl ⟨by rfl, ?_⟩) hS ?_
    rotate_left
    · (intro wS hSw; (try dsimp only at hSw); go_simp; try with_reducible rfl)
    try simp only [Act.put, List.setIfInBounds_toArray, List.set_cons_zero, List.set_cons_succ]
    refine AnyX.take (i := 6) (oi := _) (v := ?_) (by rw [List.getElem?_toArray]; rfl) (by kernel_rfl) (by kernel_rfl) (by kernel_rfl) (by kernel_rfl) (by kernel_rfl) (by exact fun _ _ _ h => h) (Or.inl ⟨by rfl, ?_⟩) hS ?_
    rotate_left
    · (intro wS hSw; (try dsimp only at hSw); go_simp; try with_reducible rfl)
    try simp only [Act.put, List.setIfInBounds_toArray, List.set_cons_zero, List.set_cons_succ]
    refine AnyX.take (i := 7) (oi := _) (v := ?_) (by rw [List.getElem?_toArray]; rfl) (by kernel_rfl) (by kernel_rfl) (by kernel_rfl) (by kernel_rfl) (by kernel_rfl) (by exact fun _ _ _ h => h) (Or.inl ⟨by rfl, ?_⟩) hS ?_
    rotate_left
    · (intro wS hSw; (try dsimp only at hSw); go_simp; try with_reducible rfl)
    try simp only [Act.put, List.setIfInBounds_toArray, List.set_cons_zero, List.set_cons_succ]
    refine AnyX.take (i := 8) (oi := _) (v := ?_) (by rw [List.getElem?_toArray]; rfl) (by kernel_rfl) (by kernel_rfl) (by kernel_rfl) (by kernel_rfl) (by kernel_rfl) (by exact fun _ _ _ h => h) (Or.inl ⟨by rfl, ?_⟩) hS ?_
    rotate_left
    · (intro wS hSw; (try dsimp only at hSw); go_simp; try with_reducible rfl)
    try simp only [Act.put, List.setIfInBounds_toArray, List.set_cons_zero, List.set_cons_succ]
    refine AnyX.take (i := 9) (oi := _) (v := ?_) (by rw [List.getElem?_toArray]; rfl) (by kernel_rfl) (by kernel_rfl) (by kernel_rfl) (by kernel_rfl) (by kernel_rfl) (by exact fun _ _ _ h => h) (Or.inl ⟨by rfl, ?_⟩) hS ?_
    rotate_left
    · (intro wS hSw; (try dsimp only at hSw); go_simp; try with_reducible rfl)
    try simp only [Act.put, List.setIfInBounds_toArray, List.set_cons_zero, List.set_cons_succ]
    refine AnyX.done (by kernel_rfl) ?_ _
    (try clear hS)
    refine hK0 _ _ ?_
    clear hK0 K0
    have n_K2 := n_K.trans (Keep.ofBelow hB)
    have c_R := R.cells; have f_R := R.frozens
    go_wp2_with fail
    refine bodyPost_ret (v := .int .i64 (IntKind.i64.wrap z)) ?_ rfl ?_
    · simp [results, Try.results80, go_sem]
    · refine ⟨z.toNat, ?_, by omega, ⟨k + 1, sd, R, S, hF, by omega, hs0, hs1⟩, n_K2⟩
      rw [show IntKind.i64.wrap z = ((z.toNat : Nat) : Int) from by rw [IntKind.wrap_i64]; omega]
  · have hB := Below.refl w.heap.size w
    go_enter Try.func80, Try.ntmps80
    go_wp2_with fail
    refine AnyX.start (S := (fun w' => w'.cell? ⟨g, 0, none⟩ = some (.slice a code.length c) ∧ w'.cell? ⟨g, 1, none⟩ = some (.int .i64 k) ∧ w'.cell? ⟨g, 2, none⟩ = some (.int .u64 seed))) (X := (fun _ => false)) (by kernel_rfl) ?_
    have al : Below w.heap.size w w.drew := belowDrewN (Below.refl _ _) 1
    have hs_w5 := al.size
    replace R := R.below al
    replace S := S.below (by decide) al
    replace hB := tr hB al (Nat.le_refl _)
    generalize w.drew = w5 at *
    clear al
    have hS : (fun w' => w'.cell? ⟨g, 0, none⟩ = some (.slice a code.length c) ∧ w'.cell? ⟨g, 1, none⟩ = some (.int .i64 k) ∧ w'.cell? ⟨g, 2, none⟩ = some (.int .u64 seed)) w5 := ⟨R.cells 0, R.cells 1, R.cells 2⟩
    refine AnyX.take (i := 0) (oi := _) (v := ?_) (by rw [List.getElem?_toArray]; rfl) (by kernel_rfl) (by kernel_rfl) (by kernel_rfl) (by kernel_rfl) (by kernel_rfl) (by exact fun _ _ _ h => h) (Or.inl ⟨by rfl, ?_⟩) hS ?_
    rotate_left
    · (intro wS hSw; (try dsimp only at hSw); go_simp; try with_reducible rfl)
    try simp only [Act.put, List.setIfInBounds_toArray, List.set_cons_zero, List.set_cons_succ]
    refine AnyX.take (i := 1) (oi := _) (v := ?_) (by rw [List.getElem?_toArray]; rfl) (by kernel_rfl) (by kernel_rfl) (by kernel_rfl) (by kernel_rfl) (by kernel_rfl) (by exact fun _ _ _ h => h) (Or.inl ⟨by rfl, ?_⟩) hS ?_
    rotate_left
    · (intro wS hSw; (try dsimp only at hSw); go_simp; try with_reducible rfl)
    try simp only [Act.put, List.setIfInBounds_toArray, List.set_cons_zero, List.set_cons_succ]
    refine AnyX.take (i := 2) (oi := _) (v := ?_) (by rw [List.getElem?_toArray]; rfl) (by kernel_rfl) (by kernel_rfl) (by kernel_rfl) (by kernel_rfl) (by kernel_rfl) (by exact fun _ _ _ h => h) (Or.inl ⟨by rfl, ?_⟩) hS ?_
    rotate_left
    · (intro wS hSw; (try dsimp only at hSw); go_simp; try with_reducible rfl)
    try simp only [Act.put, List.setIfInBounds_toArray, List.set_cons_zero, List.set_cons_succ]
    refine AnyX.take (i := 3) (oi := _) (v := ?_) (by rw [List.getElem?_toArray]; rfl) (by kernel_rfl) (by kernel_rfl) (by kernel_rfl) (by kernel_rfl) (by kernel_rfl) (by exact fun _ _ _ h => h) (Or.inl ⟨by rfl, ?_⟩) hS ?_
    rotate_left
    · (intro wS hSw; (try dsimp only at hSw); go_simp; try with_reducible rfl)
    try simp only [Act.put, List.setIfInBounds_toArray, List.set_cons_zero, List.set_cons_succ]
    refine AnyX.take (i := 4) (oi := _) (v := ?_) (by rw [List.getElem?_toArray]; rfl) (by kernel_rfl) (by kernel_rfl) (by kernel_rfl) (by kernel_rfl) (by kernel_rfl) (by exact fun _ _ _ h => h) (Or.inl ⟨by rfl, ?_⟩) hS ?_
    rotate_left
    · (intro wS hSw; (try dsimp only at hSw); go_simp; try with_reducible rfl)
    try simp only [Act.put, List.setIfInBounds_toArray, List.set_cons_zero, List.set_cons_succ]
    refine AnyX.take (i := 5) (oi := _) (v := ?_) (by rw [List.getElem?_toArray]; rfl) (by kernel_rfl) (by kernel_rfl) (by kernel_rfl) (by kernel_rfl) (by kernel_rfl) (by exact fun _ _ _ h => h) (Or.inl ⟨by rfl, ?_⟩) hS ?_
    rotate_left
    · (intro wS hSw; (try dsimp only at hSw); go_simp; try with_reducible rfl)
    try simp only [Act.put, List.setIfInBounds_toArray, List.set_cons_zero, List.set_cons_succ]
    refine AnyX.take (i := 6) (oi := _) (v := ?_) (by rw [List.getElem?_toArray]; rfl) (by kernel_rfl) (by kernel_rfl) (by kernel_rfl) (by kernel_rfl) (by kernel_rfl) (by exact fun _ _ _ h => h) (Or.inl ⟨by rfl, ?_⟩) hS ?_
    rotate_left
    · (intro wS hSw; (try dsimp only at hSw); go_simp; try with_reducible rfl)
    try simp only [Act.put, List.setIfInBounds_toArray, List.set_cons_zero, List.set_cons_succ]
    refine AnyX.take (i := 7) (oi := _) (v := ?_) (by rw [List.getElem?_toArray]; rfl) (by kernel_rfl) (by kernel_rfl) (by kernel_rfl) (by kernel_rfl) (by kernel_rfl) (by exact fun _ _ _ h => h) (Or.inl ⟨by rfl, ?_⟩) hS ?_
    rotate_left
    · (intro wS hSw; (try dsimp only at hSw); go_simp; try with_reducible rfl)
    try simp only [Act.put, List.setIfInBounds_toArray, List.set_cons_zero, List.set_cons_succ]
    refine AnyX.take (i := 8) (oi := _) (v := ?_) (by rw [List.getElem?_toArray]; rfl) (by kernel_rfl) (by kernel_rfl) (by kernel_rfl) (by kernel_rfl) (by kernel_rfl) (by exact fun _ _ _ h => h) (Or.inl ⟨by rfl, ?_⟩) hS ?_
    rotate_left
    · (intro wS hSw; (try dsimp only at hSw); go_simp; try with_reducible rfl)
    try simp only [Act.put, List.setIfInBounds_toArray, List.set_cons_zero, List.set_cons_succ]
    refine AnyX.take (i := 9) (oi := _) (v := ?_) (by rw [List.getElem?_toArray]; rfl) (by kernel_rfl) (by kernel_rfl) (by kernel_rfl) (by kernel_rfl) (by kernel_rfl) (by exact fun _ _ _ h => h) (Or.inl ⟨by rfl, ?_⟩) hS ?_
    rotate_left
    · (intro wS hSw; (try dsimp only at hSw); go_simp; try with_reducible rfl)
    try simp only [Act.put, List.setIfInBounds_toArray, List.set_cons_zero, List.set_cons_succ]
    refine AnyX.done (by kernel_rfl) ?_ _
    (try clear hS)
    have c_R := R.cells; have f_R := R.frozens
    go_wp2_with fail
    clear c_R f_R
    have n_K : Keep [g] w ((w5.setCell ⟨g, 1, none⟩ (.int .i64 ((k : Int) + 1))).setCell ⟨g, 2, none⟩ (.int .u64 (IntKind.u64.wrap (IntKind.u64.wrap (IntKind.u64.wrap (seed * 6364136223846793005)) + 840840)))) := ((Keep.ofBelow hB).setCell (p := ⟨g, 1, none⟩) (by simp) _).setCell (p := ⟨g, 2, none⟩) (by simp) _
    have n_R : Row ((w5.setCell ⟨g, 1, none⟩ (.int .i64 ((k : Int) + 1))).setCell ⟨g, 2, none⟩ (.int .u64 (IntKind.u64.wrap (IntKind.u64.wrap (IntKind.u64.wrap (seed * 6364136223846793005)) + 840840)))) g 70 [.slice a code.length c, .int .i64 ((k + 1 : Nat) : Int), .int .u64 (IntKind.u64.wrap (IntKind.u64.wrap (IntKind.u64.wrap (seed * 6364136223846793005)) + 840840))] := by simpa using ((R.set 1 (.int .i64 ((k : Int) + 1))).set 2 (.int .u64 (IntKind.u64.wrap (IntKind.u64.wrap (IntKind.u64.wrap (seed * 6364136223846793005)) + 840840))))
    have n_S : Sl EByte ((w5.setCell ⟨g, 1, none⟩ (.int .i64 ((k : Int) + 1))).setCell ⟨g, 2, none⟩ (.int .u64 (IntKind.u64.wrap (IntKind.u64.wrap (IntKind.u64.wrap (seed * 6364136223846793005)) + 840840)))) (Value.slice a code.length c) code F := S.frame (fun b hb => by have : b ≠ g := fun e => hF (e ▸ hb); repeat rw [Below.heap_setCell _ _ _ _ (by simp <;> omega)])
    have hs0 : 0 ≤ (IntKind.u64.wrap (IntKind.u64.wrap (IntKind.u64.wrap (seed * 6364136223846793005)) + 840840)) ∧ (IntKind.u64.wrap (IntKind.u64.wrap (IntKind.u64.wrap (seed * 6364136223846793005)) + 840840)) < 18446744073709551616 := by rw [IntKind.wrap_u64]; omega
    clear R S hB
    generalize (IntKind.u64.wrap (IntKind.u64.wrap (IntKind.u64.wrap (seed * 6364136223846793005)) + 840840)) = sd at *
    obtain ⟨hs0, hs1⟩ := hs0
    generalize ((w5.setCell ⟨g, 1, none⟩ (.int .i64 ((k : Int) + 1))).setCell ⟨g, 2, none⟩ (.int .u64 sd)) = w6 at *
    have R := n_R; clear n_R
    have S := n_S; clear n_S
    rename_i K0 hK0
    refine AnyX.start (S := (fun w' => w'.cell? ⟨g, 0, none⟩ = some (.slice a code.length c) ∧ w'.cell? ⟨g, 1, none⟩ = some (.int .i64 ((k + 1 : Nat) : Int)) ∧ w'.cell? ⟨g, 2, none⟩ = some (.int .u64 sd))) (X := (fun _ => false)) (by kernel_rfl) ?_
    have al : Below w6.heap.size w6 w6.drew := belowDrewN (Below.refl _ _) 1
    have hs_w7 := al.size
    replace R := R.below al
    replace S := S.below (by decide) al
    have hB := al
    generalize w6.drew = w7 at *
    clear al
    have hS : (fun w' => w'.cell? ⟨g, 0, none⟩ = some (.slice a code.length c) ∧ w'.cell? ⟨g, 1, none⟩ = some (.int .i64 ((k + 1 : Nat) : Int)) ∧ w'.cell? ⟨g, 2, none⟩ = some (.int .u64 sd)) w7 := ⟨R.cells 0, R.cells 1, R.cells 2⟩
    refine AnyX.take (i := 0) (oi := _) (v := ?_) (by rw [List.getElem?_toArray]; rfl) (by kernel_rfl) (by kernel_rfl) (by kernel_rfl) (by kernel_rfl) (by kernel_rfl) (by exact fun _ _ _ h => h) (Or.inl ⟨by rfl, ?_⟩) hS ?_
    rotate_left
    · (intro wS hSw; (try dsimp only at hSw); go_simp; try with_reducible rfl)
    try simp only [Act.put, List.setIfInBounds_toArray, List.set_cons_zero, List.set_cons_succ]
    refine AnyX.take (i := 1) (oi := _) (v := ?_) (by rw [List.getElem?_toArray]; rfl) (by kernel_rfl) (by kernel_rfl) (by kernel_rfl) (by kernel_rfl) (by kernel_rfl) (by exact fun _ _ _ h => h) (Or.inl ⟨by rfl, ?_⟩) hS ?_
    rotate_left
    · (intro wS hSw; (try dsimp only at hSw); go_simp; try with_reducible rfl)
    try simp only [Act.put, List.setIfInBounds_toArray, List.set_cons_zero, List.set_cons_succ]
    refine AnyX.take (i := 2) (oi := _) (v := ?_) (by rw [List.getElem?_toArray]; rfl) (by kernel_rfl) (by kernel_rfl) (by kernel_rfl) (by kernel_rfl) (by kernel_rfl) (by exact fun _ _ _ h => h) (Or.inl ⟨by rfl, ?_⟩) hS ?_
    rotate_left
    · (intro wS hSw; (try dsimp only at hSw); go_simp; try with_reducible rfl)
    try simp only [Act.put, List.setIfInBounds_toArray, List.set_cons_zero, List.set_cons_succ]
    refine AnyX.take (i := 3) (oi := _) (v := ?_) (by rw [List.getElem?_toArray]; rfl) (by kernel_rfl) (by kernel_rfl) (by kernel_rfl) (by kernel_rfl) (by kernel_rfl) (by exact fun _ _ _ h => h) (Or.inl ⟨by rfl, ?_⟩) hS ?_
    rotate_left
    · (intro wS hSw; (try dsimp only at hSw); go_simp; try with_reducible rfl)
    try simp only [Act.put, List.setIfInBounds_toArray, List.set_cons_zero, List.set_cons_succ]
    refine AnyX.take (i := 4) (oi := _) (v := ?_) (by rw [List.getElem?_toArray]; rfl) (by kernel_rfl) (by kernel_rfl) (by kernel_rfl) (by kernel_rfl) (by kernel_rfl) (by exact fun _ _ _ h => h) (Or.inl ⟨by rfl, ?_⟩) hS ?_
    rotate_left
    · (intro wS hSw; (try dsimp only at hSw); go_simp; try with_reducible rfl)
    try simp only [Act.put, List.setIfInBounds_toArray, List.set_cons_zero, List.set_cons_succ]
    refine AnyX.take (i := 5) (oi := _) (v := ?_) (by rw [List.getElem?_toArray]; rfl) (by kernel_rfl) (by kernel_rfl) (by kernel_rfl) (by kernel_rfl) (by kernel_rfl) (by exact fun _ _ _ h => h) (Or.inl ⟨by rfl, ?_⟩) hS ?_
    rotate_left
    · (intro wS hSw; (try dsimp only at hSw); go_simp; try with_reducible rfl)
    try simp only [Act.put, List.setIfInBounds_toArray, List.set_cons_zero, List.set_cons_succ]
    refine AnyX.take (i := 6) (oi := _) (v := ?_) (by rw [List.getElem?_toArray]; rfl) (by kernel_rfl) (by kernel_rfl) (by kernel_rfl) (by kernel_rfl) (by kernel_rfl) (by exact fun _ _ _ h => h) (Or.inl ⟨by rfl, ?_⟩) hS ?_
    rotate_left
    · (intro wS hSw; (try dsimp only at hSw); go_simp; try with_reducible rfl)
    try simp only [Act.put, List.setIfInBounds_toArray, List.set_cons_zero, List.set_cons_succ]
    refine AnyX.take (i := 7) (oi := _) (v := ?_) (by rw [List.getElem?_toArray]; rfl) (by kernel_rfl) (by kernel_rfl) (by kernel_rfl) (by kernel_rfl) (by kernel_rfl) (by exact fun _ _ _ h => h) (Or.inl ⟨by rfl, ?_⟩) hS ?_
    rotate_left
    · (intro wS hSw; (try dsimp only at hSw); go_simp; try with_reducible rfl)
    try simp only [Act.put, List.setIfInBounds_toArray, List.set_cons_zero, List.set_cons_succ]
    refine AnyX.take (i := 8) (oi := _) (v := ?_) (by rw [List.getElem?_toArray]; rfl) (by kernel_rfl) (by kernel_rfl) (by kernel_rfl) (by kernel_rfl) (by kernel_rfl) (by exact fun _ _ _ h => h) (Or.inl ⟨by rfl, ?_⟩) hS ?_
    rotate_left
    · (intro wS hSw; (try dsimp only at hSw); go_simp; try with_reducible rfl)
    try simp only [Act.put, List.setIfInBounds_toArray, List.set_cons_zero, List.set_cons_succ]
    refine AnyX.take (i := 9) (oi := _) (v := ?_) (by rw [List.getElem?_toArray]; rfl) (by kernel_rfl) (by kernel_rfl) (by kernel_rfl) (by kernel_rfl) (by kernel_rfl) (by exact fun _ _ _ h => h) (Or.inl ⟨by rfl, ?_⟩) hS ?_
    rotate_left
    · (intro wS hSw; (try dsimp only at hSw); go_simp; try with_reducible rfl)
    try simp only [Act.put, List.setIfInBounds_toArray, List.set_cons_zero, List.set_cons_succ]
    refine AnyX.done (by kernel_rfl) ?_ _
    (try clear hS)
    refine hK0 _ _ ?_
    clear hK0 K0
    have n_K2 := n_K.trans (Keep.ofBelow hB)
    obtain ⟨q, hq, hq2⟩ : ∃ q : Nat, bits BinOp.and IntKind.u64 (sd / 1099511627776) 255 = (q : Int) ∧ q ≤ 255 := by
      refine ⟨(sd / 1099511627776).toNat &&& 255, ?_, Nat.and_le_right⟩
      rw [← bits_and_u64_nat _ _ (by omega) (by omega)]
      congr 1; omega
    have c_R := R.cells; have f_R := R.frozens
    go_wp2_with fail
    refine bodyPost_ret (v := .int .i64 (q : Int)) ?_ rfl ?_
    · simp [results, Try.results80, go_sem, hq]
    · exact ⟨q, rfl, hq2, ⟨k + 1, sd, R, S, hF, by omega, hs0, hs1⟩, n_K2⟩
def PPick (B g : Nat) (F : CuF) (n : Int) (w : World) (e : Ending) (w' : World) : Prop := ∃ r : Nat, e = .returned (.int .i64 r) ∧ (r = 0 ∨ (r : Int) < n) ∧ Cur (B + 2) w' g F ∧ Keep [g] w w'
set_option maxHeartbeats 1600000 in
set_option maxRecDepth 100000 in
theorem pick_c (B g : Nat) (F : CuF) (n : Int) (w : World) (h : Cur B w g F) (hB0 : B ≤ 1099511627774) (hn : n ≤ 1048576) :
    Calls Try.prog 49 #[.pointer (some ⟨g, 0, none⟩), .int .i64 n] w (PPick B g F n w) := by
  have hN1 := next_c B g F w h (by omega)
  have hN2 := fun w h => next_c (B + 1) g F w h (by omega)
  replace hN1 := Lib.hid hN1; replace hN2 := Lib.hid hN2
  by_cases h1 : n ≤ 1
  · go_enter Try.func49, Try.ntmps49
    go_wp2_with fail
    refine bodyPost_ret (v := .int .i64 0) ?_ rfl ⟨0, rfl, .inl rfl, h.mono (by omega), Keep.refl _ _⟩
    simp [results, Try.results49, go_sem]
  · by_cases h2 : n ≤ 200
    · go_enter Try.func49, Try.ntmps49
      go_wp2_with fail
      refine hN1.out.mono ?_
      rintro e w1 ⟨r, rfl, hr, hc, hk⟩
      have hm0 : 0 ≤ (r : Int) % n := Int.emod_nonneg _ (by omega)
      have hm1 : (r : Int) % n < n := Int.emod_lt_of_pos _ (by omega)
      go_wp2_with fail
      refine bodyPost_ret (v := .int .i64 ((r : Int) % n)) ?_ rfl ⟨((r : Int) % n).toNat, by rw [Int.toNat_of_nonneg hm0], .inr (by omega), hc.mono (by omega), hk⟩
      simp [results, Try.results49, go_sem]
    · go_enter Try.func49, Try.ntmps49
      go_wp2_with fail
      refine hN1.out.mono ?_
      rintro e w1 ⟨r, rfl, hr, hc, hk⟩
      go_wp2_with fail
      refine (hN2.out _ hc).mono ?_
      rintro e w2 ⟨r2, rfl, hr2, hc2, hk2⟩
      have hm0 : 0 ≤ ((r : Int) * 256 + r2) % n := Int.emod_nonneg _ (by omega)
      have hm1 : ((r : Int) * 256 + r2) % n < n := Int.emod_lt_of_pos _ (by omega)
      go_wp2_with fail
      refine bodyPost_ret (v := .int .i64 (((r : Int) * 256 + r2) % n)) ?_ rfl ⟨(((r : Int) * 256 + r2) % n).toNat, by rw [Int.toNat_of_nonneg hm0], .inr (by omega), hc2, hk.trans hk2⟩
      simp [results, Try.results49, go_sem]
def POne (B g : Nat) (F : CuF) (w : World) (e : Ending) (w' : World) : Prop := ∃ b : Bool, e = .returned (.bool b) ∧ Cur (B + 2) w' g F ∧ Keep [g] w w'
theorem one_c (B g : Nat) (F : CuF) (n : Int) (w : World) (h : Cur B w g F) (hB0 : B ≤ 1099511627774) (hn : n ≤ 1048576) :
    Calls Try.prog 56 #[.pointer (some ⟨g, 0, none⟩), .int .i64 n] w (POne B g F w) := by
  have hN1 := Lib.hid (pick_c B g F n w h hB0 hn)
  go_enter Try.func56, Try.ntmps56
  go_wp2_with fail
  refine hN1.out.mono ?_
  rintro e w1 ⟨r, rfl, hr, hc, hk⟩
  go_wp2_with fail
  refine bodyPost_ret (v := .bool ((r : Int) == 0)) ?_ rfl ⟨_, rfl, hc, hk⟩
  simp [results, Try.results56, go_sem]
def PAmong (B g : Nat) (F : CuF) (xs : List Int) (w : World) (e : Ending) (w' : World) : Prop := ∃ s ∈ xs, e = .returned (.int .i64 s) ∧ Cur (B + 2) w' g F ∧ Keep [g] w w'
theorem among_c (B g : Nat) (F : CuF) (v : Value) (xs : List Int) (K : List Nat) (w : World) (h : Cur B w g F) (hB0 : B ≤ 1099511627774) (hx : Sl EInt w v xs K) (h0 : 0 < xs.length) (h1 : xs.length ≤ 1048576) (hg : g ∉ K) :
    Calls Try.prog 78 #[.pointer (some ⟨g, 0, none⟩), v] w (PAmong B g F xs w) := by
  obtain ⟨a, c, rfl⟩ := hx.slice
  have hN1 := Lib.hid (pick_c B g F xs.length w h hB0 (by omega))
  go_enter Try.func78, Try.ntmps78
  go_wp2_with fail
  refine hN1.out.mono ?_
  rintro e w1 ⟨r, rfl, hr, hc, hk⟩
  have hr2 : r < xs.length := by omega
  obtain ⟨b, off, rfl, hcell⟩ := (hx.keep hk (fun b hb e => hg (by simp at e; rw [← e]; exact hb)) (by decide)).int.2.2 r hr2
  clear hr
  have hm := List.getElem_mem hr2
  generalize xs[r] = s at *
  go_wp2_with fail
  refine bodyPost_ret (v := .int .i64 s) ?_ rfl ⟨s, hm, rfl, hc, hk⟩
  simp [results, Try.results78, go_sem]
end Go.Proofs.Ytgogcgkocjpgoaa
/- Draws, for the engine: the cursor. -/
namespace Go.Proofs.Ytgogcgkocjpgoaa
open Go.RowKit
structure CuS where
  k : Nat
  seed : Int
structure CuOk (B : Nat) (s : CuS) : Prop where
  k : s.k ≤ B
  s0 : 0 ≤ s.seed
  s1 : s.seed < 18446744073709551616
theorem CuOk.mono {B B' : Nat} {s : CuS} (h : CuOk B s) (hb : B ≤ B') : CuOk B' s := ⟨Nat.le_trans h.k hb, h.s0, h.s1⟩
theorem cu_fn {f : FuncId} {args : List Value} {σ : Type} {C : σ → Prop} {v : σ → Value} {B B' g : Nat} {F : CuF} {s : CuS} {X : List Pc} (hX : X.all (fun p => !p.mu) = true) (ok : CuOk B s)
    (h : ∀ w, Cur B w g F → Hol X w → (∀ p ∈ X, g ∉ p.F) → Calls Try.prog f args.toArray w fun e w' => ∃ r, C r ∧ e = .returned (v r) ∧ Cur B' w' g F ∧ Keep [g] w w') :
    Fn Try.prog f args (.sl EByte (.slice F.a F.code.length F.c) F.code F.bs :: X) [.row g 70 0 [] [.slice F.a F.code.length F.c, .int .i64 (s.k : Nat), .int .u64 s.seed] []] (fun (z : σ × CuS) => C z.1 ∧ CuOk B' z.2) (fun z => v z.1) (fun z => [.row g 70 0 [] [.slice F.a F.code.length F.c, .int .i64 (z.2.k : Nat), .int .u64 z.2.seed] []]) := fun w hH hS => by
  have h1 := hH (.row g 70 0 [] [.slice F.a F.code.length F.c, .int .i64 (s.k : Nat), .int .u64 s.seed] []) (by simp)
  have h2 := hH (.sl EByte (.slice F.a F.code.length F.c) F.code F.bs) (by simp)
  have ap := hS.1
  have hg : g ∉ F.bs := fun hm => ap (.sl EByte (.slice F.a F.code.length F.c) F.code F.bs) (by simp) (by simp [Pc.mu]) g (by simp [Pc.F]) hm
  refine (h w ⟨s.k, s.seed, by simpa using h1.2, h2.2, hg, ok.k, ok.s0, ok.s1⟩ (fun p hp => hH p (by simp [hp])) (fun p hp hm => ap p (by simp [hp]) (by simp [Pc.mu]) g (by simp [Pc.F]) hm)).mono ?_
  rintro e w' ⟨r, hC, he, ⟨k, seed, R, S, -, hk, h0, h3⟩, hK⟩
  refine ⟨(r, ⟨k, seed⟩), ⟨hC, hk, h0, h3⟩, he, hol1 ⟨rfl, by simpa using R⟩, ⟨by simp, trivial⟩, hK.mono (fun b hb _ => by simpa [fp, Pc.F] using hb), fun p hp b hb => ?_⟩
  simp at hp
  subst hp
  exact .inr (.inl ⟨_, List.mem_cons_self .., by simpa [Pc.F] using hb⟩)
theorem pick_f (B g : Nat) (F : CuF) (n : Int) (s : CuS) (ok : CuOk B s) (hB : B ≤ 1000000000000) (hn : n ≤ 1048576) :
    Fn Try.prog 49 [ptr g 0 0, .int .i64 n] [.sl EByte (.slice F.a F.code.length F.c) F.code F.bs] [.row g 70 0 [] [.slice F.a F.code.length F.c, .int .i64 (s.k : Nat), .int .u64 s.seed] []] (fun (z : Nat × CuS) => (z.1 = 0 ∨ (z.1 : Int) < n) ∧ CuOk (B + 2) z.2) (fun z => .int .i64 (z.1 : Nat)) (fun z => [.row g 70 0 [] [.slice F.a F.code.length F.c, .int .i64 (z.2.k : Nat), .int .u64 z.2.seed] []]) :=
  cu_fn (C := fun r : Nat => r = 0 ∨ (r : Int) < n) (v := fun r => .int .i64 (r : Nat)) (X := []) rfl ok fun w h _ _ => (pick_c B g F n w h (by omega) hn).mono fun _ _ ⟨r, he, h1, h2, h3⟩ => ⟨r, h1, he, h2, h3⟩
theorem one_f (B g : Nat) (F : CuF) (n : Int) (s : CuS) (ok : CuOk B s) (hB : B ≤ 1000000000000) (hn : n ≤ 1048576) :
    Fn Try.prog 56 [ptr g 0 0, .int .i64 n] [.sl EByte (.slice F.a F.code.length F.c) F.code F.bs] [.row g 70 0 [] [.slice F.a F.code.length F.c, .int .i64 (s.k : Nat), .int .u64 s.seed] []] (fun (z : Bool × CuS) => True ∧ CuOk (B + 2) z.2) (fun z => .bool z.1) (fun z => [.row g 70 0 [] [.slice F.a F.code.length F.c, .int .i64 (z.2.k : Nat), .int .u64 z.2.seed] []]) :=
  cu_fn (C := fun _ : Bool => True) (v := fun r => .bool r) (X := []) rfl ok fun w h _ _ => (one_c B g F n w h (by omega) hn).mono fun _ _ ⟨r, he, h2, h3⟩ => ⟨r, trivial, he, h2, h3⟩
theorem among_f (B g : Nat) (F : CuF) (v : Value) (xs : List Int) (G : List Nat) (s : CuS) (ok : CuOk B s) (hB : B ≤ 1000000000000) (h0 : 0 < xs.length) (h1 : xs.length ≤ 1048576) :
    Fn Try.prog 78 [ptr g 0 0, v] [.sl EByte (.slice F.a F.code.length F.c) F.code F.bs, .sl EInt v xs G] [.row g 70 0 [] [.slice F.a F.code.length F.c, .int .i64 (s.k : Nat), .int .u64 s.seed] []] (fun (z : Int × CuS) => z.1 ∈ xs ∧ CuOk (B + 2) z.2) (fun z => .int .i64 z.1) (fun z => [.row g 70 0 [] [.slice F.a F.code.length F.c, .int .i64 (z.2.k : Nat), .int .u64 z.2.seed] []]) :=
  cu_fn (C := fun r : Int => r ∈ xs) (v := fun r => .int .i64 r) (X := [.sl EInt v xs G]) rfl ok fun w h hX hg => (among_c B g F v xs G w h (by omega) (hX (.sl EInt v xs G) (by simp)).2 h0 h1 (hg (.sl EInt v xs G) (by simp))).mono fun _ _ ⟨r, h1, he, h2, h3⟩ => ⟨r, h1, he, h2, h3⟩
end Go.Proofs.Ytgogcgkocjpgoaa
/- Walks: serials: what lies behind, gaps, what is before what. -/
namespace Go.Proofs.Ytgogcgkocjpgoaa
open Go.RowKit

/-- the serial n steps behind x -/
def aft (x n : Int) : Int := (x + n) % 65536
theorem aft_bd (a b : Int) : 0 ≤ aft a b ∧ aft a b ≤ 65535 := by unfold aft; omega
theorem l2After_c (x n : Int) (w : World) (h0 : -131072 ≤ x + n) (h1 : x + n ≤ 4611686018427387904) :
    Calls Try.prog 77 #[.int .i64 x, .int .i64 n] w fun e w' => e = .returned (.int .i64 (aft x n)) ∧ w = w' := by
  have h2 : 0 ≤ x + n + 131072 := by omega
  go_enter Try.func77, Try.ntmps77
  go_wp2
  go_ret
  exact ⟨ret_int (by unfold aft; omega), rfl⟩
end Go.Proofs.Ytgogcgkocjpgoaa
/- Draws, for the engine: serials. -/
namespace Go.Proofs.Ytgogcgkocjpgoaa
open Go.RowKit
theorem Fn.weak {P : Program} {f : FuncId} {args : List Value} {A M : List Pc} {σ : Type} {C C' : σ → Prop} {v : σ → Value} {N : σ → List Pc} (h : Fn P f args A M C v N) (hC : ∀ s, C s → C' s) : Fn P f args A M C' v N := fun w h1 h2 => (h w h1 h2).mono fun _ _ ⟨s, hc, r⟩ => ⟨s, hC s hc, r⟩
theorem flat_int (w : World) : ∀ xs : List Int, Flat EInt w (xs.map (Value.int .i64)) xs []
  | [] => ⟨rfl, rfl⟩
  | x :: r => ⟨[.int .i64 x], r.map (Value.int .i64), [], [], rfl, rfl, ⟨rfl, rfl⟩, flat_int w r⟩
set_option maxRecDepth 100000 in
theorem serial_f (B g : Nat) (F : CuF) (s : CuS) (ok : CuOk B s) (hB : B ≤ 900000000000) :
    Fn Try.prog 75 [ptr g 0 0] [.sl EByte (.slice F.a F.code.length F.c) F.code F.bs] [.row g 70 0 [] [.slice F.a F.code.length F.c, .int .i64 (s.k : Nat), .int .u64 s.seed] []] (fun (z : Int × CuS) => (0 ≤ z.1 ∧ z.1 ≤ 65535) ∧ CuOk (B + 4) z.2) (fun z => .int .i64 z.1) (fun z => [.row g 70 0 [] [.slice F.a F.code.length F.c, .int .i64 (z.2.k : Nat), .int .u64 z.2.seed] []]) := by
  refine enter Try.func75 rfl Try.ntmps75 fun w0 => ?_
  refine goN ?_; intros
  refine t_row (xs := [0, 1, 100, 32767, 32768, 65535, 65530, 4660]) (fun w => flat_int w _) ?_ (by decide)
  refine t_read (E := EInt) fun G => ?_
  refine go ?_; intros
  refine cf (among_f B g F _ [0, 1, 100, 32767, 32768, 65535, 65530, 4660] G s ok (by omega) (by decide) (by decide)) fun z hz => ?_
  refine t_app ?_
  obtain ⟨hz1, hz2⟩ := hz
  have hz3 : 0 ≤ z.1 ∧ z.1 ≤ 65535 := by simp only [List.mem_cons, List.not_mem_nil, or_false] at hz1; omega
  refine go ?_; intros
  refine cf (pick_f (B + 2) g F 12 z.2 hz2 (by omega) (by omega)) fun y hy => ?_
  refine t_app ?_
  obtain ⟨hy1, hy2⟩ := hy
  refine go ?_; intros
  refine ce (fun w s => l2After_c _ _ _ (by omega) (by omega)) ?_
  refine go ?_; intros
  refine ret (_, y.2) ⟨aft_bd _ _, hy2⟩ rfl
set_option maxRecDepth 100000 in
theorem anySerialW_f (B g : Nat) (F : CuF) (s : CuS) (ok : CuOk B s) (hB : B ≤ 890000000000) :
    Fn Try.prog 79 [ptr g 0 0] [.sl EByte (.slice F.a F.code.length F.c) F.code F.bs] [.row g 70 0 [] [.slice F.a F.code.length F.c, .int .i64 (s.k : Nat), .int .u64 s.seed] []] (fun (z : Int × CuS) => (-1 ≤ z.1 ∧ z.1 ≤ 65536) ∧ CuOk (B + 6) z.2) (fun z => .int .i64 z.1) (fun z => [.row g 70 0 [] [.slice F.a F.code.length F.c, .int .i64 (z.2.k : Nat), .int .u64 z.2.seed] []]) := by
  refine enter Try.func79 rfl Try.ntmps79 fun w0 => ?_
  refine go ?_; intros
  refine cf (one_f B g F 20 s ok (by omega) (by omega)) fun q hq => ?_
  refine t_app ?_
  obtain ⟨b, s1⟩ := q
  obtain ⟨-, hq⟩ := hq
  cases b
  · refine go ?_; intros
    refine cf (serial_f (B + 2) g F s1 hq (by omega)) fun z hz => ?_
    refine t_app ?_
    refine go ?_; intros
    refine ret z ⟨by have := hz.1; omega, hz.2⟩ rfl
  · refine goN ?_; intros
    refine t_row (xs := [-1, 65536, 65535]) (fun w => flat_int w _) ?_ (by decide)
    refine t_read (E := EInt) fun G => ?_
    refine go ?_; intros
    refine cf (among_f (B + 2) g F _ [-1, 65536, 65535] G s1 hq (by omega) (by decide) (by decide)) fun z hz => ?_
    refine t_app ?_
    refine go ?_; intros
    refine ret z ⟨by have := hz.1; simp only [List.mem_cons, List.not_mem_nil, or_false] at this; omega, hz.2.mono (by omega)⟩ rfl
theorem anySerial_f (B g : Nat) (F : CuF) (s : CuS) (ok : CuOk B s) (hB : B ≤ 890000000000) :
    Fn Try.prog 79 [ptr g 0 0] [.sl EByte (.slice F.a F.code.length F.c) F.code F.bs] [.row g 70 0 [] [.slice F.a F.code.length F.c, .int .i64 (s.k : Nat), .int .u64 s.seed] []] (fun (z : Int × CuS) => CuOk (B + 6) z.2) (fun z => .int .i64 z.1) (fun z => [.row g 70 0 [] [.slice F.a F.code.length F.c, .int .i64 (z.2.k : Nat), .int .u64 z.2.seed] []]) := (anySerialW_f B g F s ok hB).weak fun _ h => h.2
end Go.Proofs.Ytgogcgkocjpgoaa
/- Regions that draw: pure operations that may stand behind a store. -/
namespace Go.Proofs.Ytgogcgkocjpgoaa
open Go.RowKit
section
variable {c : Cx} {fr : Fr} {H H0 : List Pc} {k : List It} {X : List Nat} {ops : Array Oper} {f : Nat} {listed : Array Bool} {d : Nat} {o : Op} {ty : TypeId} {pos : String} {aft : Array Edge} {v : Value}
theorem dtp (i : Nat) (h : T c ((d, v) :: fr) H (.dx k H0 X ops f (listed.setIfInBounds i true))) (ho : ops[i]? = some ⟨some d, o, ty, pos, aft, none⟩ := by rw [List.getElem?_toArray]; rfl) (hy : Yd c.P c.n fr [] o ty v := by exact ydE) (hX : X.contains i = true := by rfl)
    (h1 : Region.noSelect ops = true := by kernel_rfl) (h2 : Region.free .any ops listed i = true := by kernel_rfl) (h3 : (Region.ready .any ops listed).contains i = true := by kernel_rfl) (hR : PanOk c := by exact panOk) (hd : Nat.blt d c.n = true := by rfl) :
    T c fr H (.dx k H0 X ops (f + 1) listed) := .mk fun a w s g =>
  AnyX.takeP (v := v) ho h1 h2 h3 hX (fun ch a w hp => by rw [run_panic] at hp ⊢; exact hR _ _ _ _ _ hp) (.inl ⟨rfl, fun w' _ => hy.h a w' _ _ _ _ g (by intro p hp; simp at hp)⟩) (h.h _ _ s (g.put hd))
end
end Go.Proofs.Ytgogcgkocjpgoaa
/- Draws, for the engine: elements. -/
namespace Go.Proofs.Ytgogcgkocjpgoaa
open Go.RowKit
structure OkE (m : Nat) (y : Element) : Prop where
  k0 : 0 ≤ y.clock
  k1 : y.clock ≤ 30 + m
  l : y.entries.length ≤ m
  f : ∀ x ∈ y.entries, x.faces.length ≤ m
  mm : m ≤ 100
theorem ok_tickE {m y} (h : OkE m y) (hm : m + 1 ≤ 100 := by omega) : OkE (m + 1) (tickElement y) := by
  have := h.k0; have := h.k1
  have hl := List.length_filter_le (fun x : Entry => !decide (x.untl ≤ y.clock + 1)) y.entries
  exact ⟨by show 0 ≤ y.clock + 1; omega, by show y.clock + 1 ≤ 30 + ((m + 1 : Nat) : Int); omega, by show (y.entries.filter _).length ≤ _; have := h.l; omega, fun x hx => by have := h.f x (List.mem_filter.1 hx).1; omega, hm⟩
theorem ok_reqE {m y} (h : OkE m y) {n f : Int} (hm : m + 1 ≤ 100 := by omega) : OkE (m + 1) (reqE y n f) := by
  have := h.k0; have := h.k1; have hl := h.l
  have hf : ∀ x ∈ y.entries, x.faces.length ≤ m + 1 := fun x hx => by have := h.f x hx; omega
  unfold reqE
  split
  · rename_i x hx
    refine ⟨h.k0, by show y.clock ≤ 30 + ((m + 1 : Nat) : Int); omega, by show (y.entries.set _ _).length ≤ m + 1; rw [List.length_set]; omega, fun z hz => ?_, hm⟩
    rcases List.mem_or_eq_of_mem_set hz with h' | rfl
    · exact hf z h'
    · have := h.f x (List.mem_of_getElem? hx)
      have := putI_len x.faces f
      show (putI x.faces f).length ≤ m + 1
      omega
  · split
    · refine ⟨h.k0, by show y.clock ≤ 30 + ((m + 1 : Nat) : Int); omega, by show (y.entries ++ [_]).length ≤ m + 1; simp; omega, fun z hz => ?_, hm⟩
      rcases List.mem_append.1 hz with h' | h'
      · exact hf z h'
      · simp at h'; subst h'; simp
    · exact ⟨h.k0, by show y.clock ≤ 30 + ((m + 1 : Nat) : Int); omega, by omega, hf, hm⟩
structure ElD where
  y : Element
  a : Option Addr
  c : Nat
  F : List Nat
  i : Nat
  s : CuS
set_option maxRecDepth 100000 in
set_option maxHeartbeats 1000000 in
theorem element_f (B g : Nat) (F : CuF) (s : CuS) (ok : CuOk B s) (hB : B ≤ 700000000000) :
    Fn Try.prog 47 [ptr g 0 0] [.sl EByte (.slice F.a F.code.length F.c) F.code F.bs] [.row g 70 0 [] [.slice F.a F.code.length F.c, .int .i64 (s.k : Nat), .int .u64 s.seed] []] (fun (z : ElD) => z.y.entries.length ≤ 1000 ∧ CuOk (B + 2000) z.s) (fun s => .agg #[.int .i64 s.y.clock, .slice s.a s.y.entries.length s.c])
      (fun s => [.isv EElement (.agg #[.int .i64 s.y.clock, .slice s.a s.y.entries.length s.c]) s.y s.F, .row g 70 0 [] [.slice F.a F.code.length F.c, .int .i64 (s.s.k : Nat), .int .u64 s.s.seed] []]) := by
  refine enter Try.func47 rfl Try.ntmps47 fun w0 => ?_
  refine go ?_; intros
  refine cf (pick_f B g F 30 s ok (by omega) (by omega)) fun y hy => ?_
  refine t_app ?_
  obtain ⟨r1, s1⟩ := y
  obtain ⟨hy1, hy2⟩ := hy
  dsimp only at hy1 hy2 ⊢
  have hr1 : r1 ≤ 29 := by omega
  refine go ?_; intros
  rename_i gg
  refine cf (serial_f _ g F s1 hy2 (by omega)) fun n hn => ?_
  refine t_app ?_
  obtain ⟨hn1, hn2⟩ := hn
  refine go ?_; intros
  refine cf (pick_f _ g F 10 n.2 hn2 (by omega) (by omega)) fun y hy => ?_
  refine t_app ?_
  obtain ⟨r0, s2⟩ := y
  obtain ⟨hz1, hz2⟩ := hy
  dsimp only at hz1 hz2 ⊢
  have hr0 : r0 ≤ 9 := by omega
  refine t_nilsl EEntry (by decide) ?_
  refine closeElement ⟨(r1 : Int), []⟩ ?_
  refine go ?_; intros
  refine c_loopS [0, 2, 3, 4] (fun z : ElD => [(5, .int .i64 (z.i : Nat))]) (fun z => [.row gg 29 0 [] [.int .i64 z.y.clock, .slice z.a z.y.entries.length z.c] [], .isv EElement (.agg #[.int .i64 z.y.clock, .slice z.a z.y.entries.length z.c]) z.y z.F, .row g 70 0 [] [.slice F.a F.code.length F.c, .int .i64 (z.s.k : Nat), .int .u64 z.s.seed] []]) (fun z => OkE (r0 - z.i) z.y ∧ z.i ≤ r0 ∧ CuOk (B + 20 + 50 * (r0 - z.i)) z.s) (fun z => z.i) ⟨⟨(r1 : Int), []⟩, none, 0, [], r0, s2⟩ ⟨⟨by show (0 : Int) ≤ (r1 : Int); omega, by show (r1 : Int) ≤ _; omega, by simp, by simp, by omega⟩, Nat.le_refl _, hz2.mono (by show _ ≤ B + 20 + 50 * (r0 - r0); omega)⟩ fun z hz => ?_
  obtain ⟨z1, z2, z3⟩ := hz
  refine go ?_; intros
  refine c_if rfl (fun h2 => ?_) (fun h2 => ?_)
  · have hi0 : 0 < z.i := by omega
    refine go ?_; intros
    refine cf (one_f _ g F 5 z.s z3 (by omega) (by omega)) fun p hp => ?_
    refine t_app ?_
    obtain ⟨b4, s4⟩ := p
    obtain ⟨-, z4⟩ := hp
    dsimp only at z4 ⊢
    cases b4
    · refine go ?_; intros
      refine d_start [1] [10, 11, 12] ?_
      refine dt 0 ?_
      refine dt 1 ?_
      refine dt 2 ?_
      refine dt 5 ?_
      refine dO 3 (by kernel_rfl) (by rw [List.getElem?_toArray]; rfl) ?_
      apply o_call; rfl; kernel_rfl; exact evsE
      refine cf (pick_f _ g F 6 s4 z4 (by omega) (by omega)) fun p hp => ?_
      refine t_app ?_
      obtain ⟨p1, p2⟩ := hp
      refine dk ?_
      refine dO 4 (by kernel_rfl) (by rw [List.getElem?_toArray]; rfl) ?_
      apply o_call; rfl; kernel_rfl; exact evsE
      refine ce (fun w s => l2After_c _ _ _ (by omega) (by omega)) ?_
      refine dk ?_
      refine dO 6 (by kernel_rfl) (by rw [List.getElem?_toArray]; rfl) ?_
      apply o_call; rfl; kernel_rfl; exact evsE
      refine cf (pick_f _ g F 7 p.2 p2 (by omega) (by omega)) fun q hq => ?_
      refine t_app ?_
      obtain ⟨q1, q2⟩ := hq
      refine dk ?_
      refine dt 7 ?_
      refine dO 8 (by kernel_rfl) (by rw [List.getElem?_toArray]; rfl) ?_
      apply o_call; rfl; kernel_rfl; exact evsE
      refine cf (l14Request_f z.y (aft n.1 (p.1 : Nat)) (1 + (q.1 : Nat)) _ z.F (by have := z1.l; omega) (fun x hx => by have := z1.f x hx; omega) (by have := z1.k0; omega) (by have := z1.k1; omega)) fun u _ => ?_
      refine t_app ?_
      refine t_weakI weak_Element fun F7 => ?_
      refine openElement (v := u.1) ?_
      rintro a6 c6 F6 e6 l6
      rw [e6]
      refine dk ?_
      refine dt 9 ?_
      refine dtp 10 ?_
      refine dtp 11 ?_
      refine dO 12 (by kernel_rfl) (by rw [List.getElem?_toArray]; rfl) ?_
      apply o_st; rfl; rfl; rfl; (first | exact AggC.s | exact OneC.s); rfl; exact rplE; exact putE; rfl
      refine dkx ?_
      refine dd ?_
      refine go ?_; intros
      rw [show ((z.i : Nat) : Int) - 1 = ((z.i - 1 : Nat) : Int) by omega]
      refine n_lp ⟨(reqE z.y (aft n.1 (p.1 : Nat)) (1 + (q.1 : Nat))), a6, c6, F7, z.i - 1, q.2⟩ ⟨by rw [show r0 - (z.i - 1) = r0 - z.i + 1 by omega]; exact ok_reqE z1, by show z.i - 1 ≤ r0; omega, q2.mono (by show _ ≤ B + 20 + 50 * (r0 - (z.i - 1)); omega)⟩ (by show z.i - 1 < z.i; omega)
    · refine go ?_; intros
      refine cr (fun w st => l14Tick_c _ z.y z.F w (st.get (p := .isv EElement (.agg #[.int .i64 z.y.clock, .slice z.a z.y.entries.length z.c]) z.y z.F) (by simp)) (isClk_iff.2 ⟨z1.k0, by have := z1.k1; have := z1.mm; omega⟩) (by have := z1.l; omega) (fun x hx => by have := z1.f x hx; omega)) fun u F7 => ?_
      refine openElement (v := u) ?_
      rintro a6 c6 F6 rfl l6
      refine go ?_; intros
      rw [show ((z.i : Nat) : Int) - 1 = ((z.i - 1 : Nat) : Int) by omega]
      refine n_lp ⟨tickElement z.y, a6, c6, F7, z.i - 1, s4⟩ ⟨by rw [show r0 - (z.i - 1) = r0 - z.i + 1 by omega]; exact ok_tickE z1, by show z.i - 1 ≤ r0; omega, z4.mono (by show _ ≤ B + 20 + 50 * (r0 - (z.i - 1)); omega)⟩ (by show z.i - 1 < z.i; omega)
  · have hl7 := z1.l
    refine go ?_; intros
    refine cf (pick_f _ g F 24 z.s z3 (by omega) (by omega)) fun p hp => ?_
    refine t_app ?_
    obtain ⟨r, s3⟩ := p
    obtain ⟨-, hp⟩ := hp
    dsimp only at hp ⊢
    refine go ?_; intros
    refine c_if rfl (fun e0 => ?_) (fun e0 => ?_)
    · refine openElement (x := z.y) (F := z.F) ?_
      rintro b1 d1 G1 e5 m1
      simp only [Value.agg.injEq, Array.mk.injEq, List.cons.injEq, Value.slice.injEq, Value.int.injEq, true_and, and_true] at e5
      obtain ⟨rfl, rfl⟩ := e5
      refine goN ?_; intros
      refine t_row (xs := [-1, 9999, 10000]) (fun w => flat_int w _) ?_ (by decide)
      refine t_read (E := EInt) fun G => ?_
      refine go ?_; intros
      refine cf (among_f _ g F _ [-1, 9999, 10000] G s3 hp (by omega) (by decide) (by decide)) fun q hq => ?_
      refine t_app ?_
      refine go ?_; intros
      refine closeElement ⟨q.1, z.y.entries⟩ ?_
      refine ret ⟨⟨q.1, z.y.entries⟩, _, _, _, 0, q.2⟩ ⟨by show z.y.entries.length ≤ 1000; omega, hq.2.mono (by omega)⟩ rfl
    refine go ?_; intros
    refine c_if rfl (fun e1 => ?_) (fun e1 => ?_)
    · refine openElement (x := z.y) (F := z.F) ?_
      rintro b1 d1 G1 e5 m1
      simp only [Value.agg.injEq, Array.mk.injEq, List.cons.injEq, Value.slice.injEq, Value.int.injEq, true_and, and_true] at e5
      obtain ⟨rfl, rfl⟩ := e5
      refine t_shalR one_EEntry (xs := z.y.entries) (m := 3) rfl fun ys Fy Gy hyl hym => ?_
      refine goN ?_; intros
      refine d_start [4] [18] ?_
      refine dt 1 ?_
      refine dt 2 ?_
      refine dt 4 ?_
      refine dt 6 ?_
      refine dt 9 ?_
      refine dt 10 ?_
      refine dt 11 ?_
      refine dO 0 (by kernel_rfl) (by rw [List.getElem?_toArray]; rfl) ?_
      apply o_bs0; rfl; intro _
      refine t_emp (EC 3) ?_
      refine dk ?_
      refine dO 3 (by kernel_rfl) (by rw [List.getElem?_toArray]; rfl) ?_
      refine aps (ys := ys) (one_EC 3) (scal_EC 3) (fun a7 c7 F7 => ?_) (hn := hyl.symm) (h63 := by simp only [List.length_nil]; omega) (hby := by simp only [List.length_nil]; omega)
      rw [List.nil_append]
      refine dk ?_
      refine dO 5 (by kernel_rfl) (by rw [List.getElem?_toArray]; rfl) ?_
      apply o_call; rfl; kernel_rfl; exact evsE
      refine cf (anySerial_f _ g F s3 hp (by omega)) fun q hq => ?_
      refine t_app ?_
      refine dk ?_
      refine dO 7 (by kernel_rfl) (by rw [List.getElem?_toArray]; rfl) ?_
      apply o_call; rfl; kernel_rfl; exact evsE
      refine cf (pick_f _ g F 9 q.2 hq (by omega) (by omega)) fun r hr => ?_
      refine t_app ?_
      obtain ⟨hr1, hr2⟩ := hr
      refine dk ?_
      refine dO2 8 12 (by kernel_rfl) (by rw [List.getElem?_toArray]; rfl) (by rw [List.getElem?_toArray]; rfl) ?_ ?_
      · apply o_bs; rfl; rfl; rfl; rfl; exact rptE; exact filE; intro _
        rename_i gf
        refine t_row (E := EInt) (xs := [(r.1 : Int)]) (rep_i _) ?_ (by simp)
        refine t_read (E := EInt) fun F10 => ?_
        refine dk ?_
        refine dO 12 (by kernel_rfl) (by rw [List.getElem?_toArray]; rfl) ?_
        apply o_call; rfl; kernel_rfl; exact evsE
        refine cf (pick_f _ g F 9 r.2 hr2 (by omega) (by omega)) fun t ht => ?_
        refine t_app ?_
        obtain ⟨ht1, ht2⟩ := ht
        have hk0 := z1.k0
        have hk1 := z1.k1
        refine dk ?_
        refine dt 13 ?_
        refine dt 14 ?_
        refine dO 15 (by kernel_rfl) (by rw [List.getElem?_toArray]; rfl) ?_
        apply o_bs; rfl; rfl; rfl; rfl; exact rptE; exact filE; intro _
        refine closeEntry ⟨q.1, [(r.1 : Int)], z.y.clock + (t.1 : Nat)⟩ ?_
        refine dk ?_
        refine dO 16 (by kernel_rfl) (by rw [List.getElem?_toArray]; rfl) ?_
        refine ap1 (ys := [([.int .i64 q.1, .slice (some ⟨gf, 0, none⟩) 1 1, .int .i64 (z.y.clock + (t.1 : Nat))] : List Value)]) (flat_ec1 (m := 3) (cs := [.int .i64 q.1, .slice (some ⟨gf, 0, none⟩) 1 1, .int .i64 (z.y.clock + (t.1 : Nat))]) rfl (by simp [Value.oneCell'])) (one_EC 3) (fun a9 c9 F11 => ?_)
        refine dk ?_
        refine dt 17 ?_
        refine dO 18 (by kernel_rfl) (by rw [List.getElem?_toArray]; rfl) ?_
        apply o_st; rfl; rfl; rfl; (first | exact AggC.s | exact OneC.s); rfl; exact rplE; exact putE; rfl
        refine dkx ?_
        refine dd ?_
        refine go ?_; intros
        refine t_read (E := EC 3) fun F8 => ?_
        refine t_ea1 (E := EEntry) (x := ⟨q.1, [(r.1 : Int)], z.y.clock + (t.1 : Nat)⟩) ?_
        refine t_ea (E := EEntry) (c1 := ys.flatten) (c2 := [.int .i64 q.1, .slice (some ⟨gf, 0, none⟩) 1 1, .int .i64 (z.y.clock + (t.1 : Nat))]) (x1 := z.y.entries) (x2 := [⟨q.1, [(r.1 : Int)], z.y.clock + (t.1 : Nat)⟩]) rfl rfl ?_
        refine t_deepR (E := EEntry) (m := 3) (v := .agg (ys.flatten ++ ([.int .i64 q.1, .slice (some ⟨gf, 0, none⟩) 1 1, .int .i64 (z.y.clock + (t.1 : Nat))] : List Value)).toArray) (ys := ys ++ [([.int .i64 q.1, .slice (some ⟨gf, 0, none⟩) 1 1, .int .i64 (z.y.clock + (t.1 : Nat))] : List Value)]) (xs := z.y.entries ++ [(⟨q.1, [(r.1 : Int)], z.y.clock + (t.1 : Nat)⟩ : Entry)]) rfl (by simp [hyl]) (by simp) fun F9 => ?_
        rw [show (ys ++ [([.int .i64 q.1, .slice (some ⟨gf, 0, none⟩) 1 1, .int .i64 (z.y.clock + (t.1 : Nat))] : List Value)]).length = (z.y.entries ++ [(⟨q.1, [(r.1 : Int)], z.y.clock + (t.1 : Nat)⟩ : Entry)]).length by simp [hyl]]
        refine closeElement ⟨z.y.clock, z.y.entries ++ [⟨q.1, [(r.1 : Int)], z.y.clock + (t.1 : Nat)⟩]⟩ ?_
        refine ret ⟨⟨z.y.clock, z.y.entries ++ [⟨q.1, [(r.1 : Int)], z.y.clock + (t.1 : Nat)⟩]⟩, _, _, _, 0, t.2⟩ ⟨by show (z.y.entries ++ [_]).length ≤ 1000; simp; omega, ht2.mono (by omega)⟩ rfl
      · apply o_call; rfl; kernel_rfl; exact evsE
        refine cf (pick_f _ g F 9 r.2 hr2 (by omega) (by omega)) fun t ht => ?_
        refine t_app ?_
        obtain ⟨ht1, ht2⟩ := ht
        have hk0 := z1.k0
        have hk1 := z1.k1
        refine dk ?_
        refine dt 13 ?_
        refine dO 8 (by kernel_rfl) (by rw [List.getElem?_toArray]; rfl) ?_
        apply o_bs; rfl; rfl; rfl; rfl; exact rptE; exact filE; intro _
        rename_i gf
        refine t_row (E := EInt) (xs := [(r.1 : Int)]) (rep_i _) ?_ (by simp)
        refine t_read (E := EInt) fun F10 => ?_
        refine dk ?_
        refine dt 14 ?_
        refine dO 15 (by kernel_rfl) (by rw [List.getElem?_toArray]; rfl) ?_
        apply o_bs; rfl; rfl; rfl; rfl; exact rptE; exact filE; intro _
        refine closeEntry ⟨q.1, [(r.1 : Int)], z.y.clock + (t.1 : Nat)⟩ ?_
        refine dk ?_
        refine dO 16 (by kernel_rfl) (by rw [List.getElem?_toArray]; rfl) ?_
        refine ap1 (ys := [([.int .i64 q.1, .slice (some ⟨gf, 0, none⟩) 1 1, .int .i64 (z.y.clock + (t.1 : Nat))] : List Value)]) (flat_ec1 (m := 3) (cs := [.int .i64 q.1, .slice (some ⟨gf, 0, none⟩) 1 1, .int .i64 (z.y.clock + (t.1 : Nat))]) rfl (by simp [Value.oneCell'])) (one_EC 3) (fun a9 c9 F11 => ?_)
        refine dk ?_
        refine dt 17 ?_
        refine dO 18 (by kernel_rfl) (by rw [List.getElem?_toArray]; rfl) ?_
        apply o_st; rfl; rfl; rfl; (first | exact AggC.s | exact OneC.s); rfl; exact rplE; exact putE; rfl
        refine dkx ?_
        refine dd ?_
        refine go ?_; intros
        refine t_read (E := EC 3) fun F8 => ?_
        refine t_ea1 (E := EEntry) (x := ⟨q.1, [(r.1 : Int)], z.y.clock + (t.1 : Nat)⟩) ?_
        refine t_ea (E := EEntry) (c1 := ys.flatten) (c2 := [.int .i64 q.1, .slice (some ⟨gf, 0, none⟩) 1 1, .int .i64 (z.y.clock + (t.1 : Nat))]) (x1 := z.y.entries) (x2 := [⟨q.1, [(r.1 : Int)], z.y.clock + (t.1 : Nat)⟩]) rfl rfl ?_
        refine t_deepR (E := EEntry) (m := 3) (v := .agg (ys.flatten ++ ([.int .i64 q.1, .slice (some ⟨gf, 0, none⟩) 1 1, .int .i64 (z.y.clock + (t.1 : Nat))] : List Value)).toArray) (ys := ys ++ [([.int .i64 q.1, .slice (some ⟨gf, 0, none⟩) 1 1, .int .i64 (z.y.clock + (t.1 : Nat))] : List Value)]) (xs := z.y.entries ++ [(⟨q.1, [(r.1 : Int)], z.y.clock + (t.1 : Nat)⟩ : Entry)]) rfl (by simp [hyl]) (by simp) fun F9 => ?_
        rw [show (ys ++ [([.int .i64 q.1, .slice (some ⟨gf, 0, none⟩) 1 1, .int .i64 (z.y.clock + (t.1 : Nat))] : List Value)]).length = (z.y.entries ++ [(⟨q.1, [(r.1 : Int)], z.y.clock + (t.1 : Nat)⟩ : Entry)]).length by simp [hyl]]
        refine closeElement ⟨z.y.clock, z.y.entries ++ [⟨q.1, [(r.1 : Int)], z.y.clock + (t.1 : Nat)⟩]⟩ ?_
        refine ret ⟨⟨z.y.clock, z.y.entries ++ [⟨q.1, [(r.1 : Int)], z.y.clock + (t.1 : Nat)⟩]⟩, _, _, _, 0, t.2⟩ ⟨by show (z.y.entries ++ [_]).length ≤ 1000; simp; omega, ht2.mono (by omega)⟩ rfl
    refine go ?_; intros
    refine c_if rfl (fun e2 => ?_) (fun e2 => ?_)
    · refine openElement (x := z.y) (F := z.F) ?_
      rintro b1 d1 G1 e5 m1
      simp only [Value.agg.injEq, Array.mk.injEq, List.cons.injEq, Value.slice.injEq, Value.int.injEq, true_and, and_true] at e5
      obtain ⟨rfl, rfl⟩ := e5
      have hk0 := z1.k0
      have hk1 := z1.k1
      refine t_shalR one_EEntry (xs := z.y.entries) (m := 3) rfl fun ys Fy Gy hyl hym => ?_
      refine goN ?_; intros
      refine d_start [4] [11] ?_
      refine dt 1 ?_
      refine dt 2 ?_
      refine dt 4 ?_
      refine dt 5 ?_
      refine dt 6 ?_
      refine dt 7 ?_
      refine dO2 0 8 (by kernel_rfl) (by rw [List.getElem?_toArray]; rfl) (by rw [List.getElem?_toArray]; rfl) ?_ ?_
      · apply o_bs0; rfl; intro _
        refine t_emp (EC 3) ?_
        refine dk ?_
        refine dO2 3 8 (by kernel_rfl) (by rw [List.getElem?_toArray]; rfl) (by rw [List.getElem?_toArray]; rfl) ?_ ?_
        · refine aps (ys := ys) (one_EC 3) (scal_EC 3) (fun a7 c7 F7 => ?_) (hn := hyl.symm) (h63 := by simp only [List.length_nil]; omega) (hby := by simp only [List.length_nil]; omega)
          rw [List.nil_append]
          refine dk ?_
          refine dO 8 (by kernel_rfl) (by rw [List.getElem?_toArray]; rfl) ?_
          apply o_bs; rfl; rfl; rfl; rfl; exact rptE; exact filE; intro _
          refine t_nilsl EInt (by decide) ?_
          refine closeEntry ⟨77, [], z.y.clock + 2⟩ ?_
          refine dk ?_
          refine dO 9 (by kernel_rfl) (by rw [List.getElem?_toArray]; rfl) ?_
          refine ap1 (ys := [([.int .i64 77, .slice none 0 0, .int .i64 (z.y.clock + 2)] : List Value)]) (flat_ec1 (m := 3) (cs := [.int .i64 77, .slice none 0 0, .int .i64 (z.y.clock + 2)]) rfl (by simp [Value.oneCell'])) (one_EC 3) (fun a9 c9 F11 => ?_)
          refine dk ?_
          refine dt 10 ?_
          refine dO 11 (by kernel_rfl) (by rw [List.getElem?_toArray]; rfl) ?_
          apply o_st; rfl; rfl; rfl; (first | exact AggC.s | exact OneC.s); rfl; exact rplE; exact putE; rfl
          refine dkx ?_
          refine dd ?_
          refine go ?_; intros
          refine t_read (E := EC 3) fun F8 => ?_
          refine t_ea1 (E := EEntry) (x := ⟨77, [], z.y.clock + 2⟩) ?_
          refine t_ea (E := EEntry) (c1 := ys.flatten) (c2 := [.int .i64 77, .slice none 0 0, .int .i64 (z.y.clock + 2)]) (x1 := z.y.entries) (x2 := [⟨77, [], z.y.clock + 2⟩]) rfl rfl ?_
          refine t_deepR (E := EEntry) (m := 3) (v := .agg (ys.flatten ++ ([.int .i64 77, .slice none 0 0, .int .i64 (z.y.clock + 2)] : List Value)).toArray) (ys := ys ++ [([.int .i64 77, .slice none 0 0, .int .i64 (z.y.clock + 2)] : List Value)]) (xs := z.y.entries ++ [(⟨77, [], z.y.clock + 2⟩ : Entry)]) rfl (by simp [hyl]) (by simp) fun F9 => ?_
          rw [show (ys ++ [([.int .i64 77, .slice none 0 0, .int .i64 (z.y.clock + 2)] : List Value)]).length = (z.y.entries ++ [(⟨77, [], z.y.clock + 2⟩ : Entry)]).length by simp [hyl]]
          refine closeElement ⟨z.y.clock, z.y.entries ++ [⟨77, [], z.y.clock + 2⟩]⟩ ?_
          refine ret ⟨⟨z.y.clock, z.y.entries ++ [⟨77, [], z.y.clock + 2⟩]⟩, _, _, _, 0, s3⟩ ⟨by show (z.y.entries ++ [_]).length ≤ 1000; simp; omega, hp.mono (by omega)⟩ rfl
        · apply o_bs; rfl; rfl; rfl; rfl; exact rptE; exact filE; intro _
          refine t_nilsl EInt (by decide) ?_
          refine closeEntry ⟨77, [], z.y.clock + 2⟩ ?_
          refine dk ?_
          refine dO 3 (by kernel_rfl) (by rw [List.getElem?_toArray]; rfl) ?_
          refine aps (ys := ys) (one_EC 3) (scal_EC 3) (fun a7 c7 F7 => ?_) (hn := hyl.symm) (h63 := by simp only [List.length_nil]; omega) (hby := by simp only [List.length_nil]; omega)
          rw [List.nil_append]
          refine dk ?_
          refine dO 9 (by kernel_rfl) (by rw [List.getElem?_toArray]; rfl) ?_
          refine ap1 (ys := [([.int .i64 77, .slice none 0 0, .int .i64 (z.y.clock + 2)] : List Value)]) (flat_ec1 (m := 3) (cs := [.int .i64 77, .slice none 0 0, .int .i64 (z.y.clock + 2)]) rfl (by simp [Value.oneCell'])) (one_EC 3) (fun a9 c9 F11 => ?_)
          refine dk ?_
          refine dt 10 ?_
          refine dO 11 (by kernel_rfl) (by rw [List.getElem?_toArray]; rfl) ?_
          apply o_st; rfl; rfl; rfl; (first | exact AggC.s | exact OneC.s); rfl; exact rplE; exact putE; rfl
          refine dkx ?_
          refine dd ?_
          refine go ?_; intros
          refine t_read (E := EC 3) fun F8 => ?_
          refine t_ea1 (E := EEntry) (x := ⟨77, [], z.y.clock + 2⟩) ?_
          refine t_ea (E := EEntry) (c1 := ys.flatten) (c2 := [.int .i64 77, .slice none 0 0, .int .i64 (z.y.clock + 2)]) (x1 := z.y.entries) (x2 := [⟨77, [], z.y.clock + 2⟩]) rfl rfl ?_
          refine t_deepR (E := EEntry) (m := 3) (v := .agg (ys.flatten ++ ([.int .i64 77, .slice none 0 0, .int .i64 (z.y.clock + 2)] : List Value)).toArray) (ys := ys ++ [([.int .i64 77, .slice none 0 0, .int .i64 (z.y.clock + 2)] : List Value)]) (xs := z.y.entries ++ [(⟨77, [], z.y.clock + 2⟩ : Entry)]) rfl (by simp [hyl]) (by simp) fun F9 => ?_
          rw [show (ys ++ [([.int .i64 77, .slice none 0 0, .int .i64 (z.y.clock + 2)] : List Value)]).length = (z.y.entries ++ [(⟨77, [], z.y.clock + 2⟩ : Entry)]).length by simp [hyl]]
          refine closeElement ⟨z.y.clock, z.y.entries ++ [⟨77, [], z.y.clock + 2⟩]⟩ ?_
          refine ret ⟨⟨z.y.clock, z.y.entries ++ [⟨77, [], z.y.clock + 2⟩]⟩, _, _, _, 0, s3⟩ ⟨by show (z.y.entries ++ [_]).length ≤ 1000; simp; omega, hp.mono (by omega)⟩ rfl
      · apply o_bs; rfl; rfl; rfl; rfl; exact rptE; exact filE; intro _
        refine t_nilsl EInt (by decide) ?_
        refine closeEntry ⟨77, [], z.y.clock + 2⟩ ?_
        refine dk ?_
        refine dO 0 (by kernel_rfl) (by rw [List.getElem?_toArray]; rfl) ?_
        apply o_bs0; rfl; intro _
        refine t_emp (EC 3) ?_
        refine dk ?_
        refine dO 3 (by kernel_rfl) (by rw [List.getElem?_toArray]; rfl) ?_
        refine aps (ys := ys) (one_EC 3) (scal_EC 3) (fun a7 c7 F7 => ?_) (hn := hyl.symm) (h63 := by simp only [List.length_nil]; omega) (hby := by simp only [List.length_nil]; omega)
        rw [List.nil_append]
        refine dk ?_
        refine dO 9 (by kernel_rfl) (by rw [List.getElem?_toArray]; rfl) ?_
        refine ap1 (ys := [([.int .i64 77, .slice none 0 0, .int .i64 (z.y.clock + 2)] : List Value)]) (flat_ec1 (m := 3) (cs := [.int .i64 77, .slice none 0 0, .int .i64 (z.y.clock + 2)]) rfl (by simp [Value.oneCell'])) (one_EC 3) (fun a9 c9 F11 => ?_)
        refine dk ?_
        refine dt 10 ?_
        refine dO 11 (by kernel_rfl) (by rw [List.getElem?_toArray]; rfl) ?_
        apply o_st; rfl; rfl; rfl; (first | exact AggC.s | exact OneC.s); rfl; exact rplE; exact putE; rfl
        refine dkx ?_
        refine dd ?_
        refine go ?_; intros
        refine t_read (E := EC 3) fun F8 => ?_
        refine t_ea1 (E := EEntry) (x := ⟨77, [], z.y.clock + 2⟩) ?_
        refine t_ea (E := EEntry) (c1 := ys.flatten) (c2 := [.int .i64 77, .slice none 0 0, .int .i64 (z.y.clock + 2)]) (x1 := z.y.entries) (x2 := [⟨77, [], z.y.clock + 2⟩]) rfl rfl ?_
        refine t_deepR (E := EEntry) (m := 3) (v := .agg (ys.flatten ++ ([.int .i64 77, .slice none 0 0, .int .i64 (z.y.clock + 2)] : List Value)).toArray) (ys := ys ++ [([.int .i64 77, .slice none 0 0, .int .i64 (z.y.clock + 2)] : List Value)]) (xs := z.y.entries ++ [(⟨77, [], z.y.clock + 2⟩ : Entry)]) rfl (by simp [hyl]) (by simp) fun F9 => ?_
        rw [show (ys ++ [([.int .i64 77, .slice none 0 0, .int .i64 (z.y.clock + 2)] : List Value)]).length = (z.y.entries ++ [(⟨77, [], z.y.clock + 2⟩ : Entry)]).length by simp [hyl]]
        refine closeElement ⟨z.y.clock, z.y.entries ++ [⟨77, [], z.y.clock + 2⟩]⟩ ?_
        refine ret ⟨⟨z.y.clock, z.y.entries ++ [⟨77, [], z.y.clock + 2⟩]⟩, _, _, _, 0, s3⟩ ⟨by show (z.y.entries ++ [_]).length ≤ 1000; simp; omega, hp.mono (by omega)⟩ rfl
    · refine go ?_; intros
      refine ret ⟨z.y, z.a, z.c, z.F, 0, s3⟩ ⟨by show z.y.entries.length ≤ 1000; omega, hp.mono (by omega)⟩ rfl
end Go.Proofs.Ytgogcgkocjpgoaa
/- Draws of elements. -/
namespace Go.Proofs.Ytgogcgkocjpgoaa
open Go.RowKit
structure ElQ where
  y : Element
  a : Option Addr
  c : Nat
  F : List Nat
  n : Int
  m : Int
structure ElP where
  y : Element
  a : Option Addr
  c : Nat
  F : List Nat
  n : Int
  l : List Int
  a2 : Option Addr
  c2 : Nat
  F2 : List Nat
set_option maxRecDepth 100000 in
theorem entryOf_f (B g : Nat) (F : CuF) (s : CuS) (y : Element) (v : Value) (F1 : List Nat) (ok : CuOk B s) (hB : B ≤ 800000000000) (hl : y.entries.length ≤ 1000) :
    Fn Try.prog 48 [ptr g 0 0, v] [.sl EByte (.slice F.a F.code.length F.c) F.code F.bs, .isv EElement v y F1] [.row g 70 0 [] [.slice F.a F.code.length F.c, .int .i64 (s.k : Nat), .int .u64 s.seed] []] (fun (z : Int × CuS) => CuOk (B + 20) z.2) (fun z => .int .i64 z.1) (fun z => [.row g 70 0 [] [.slice F.a F.code.length F.c, .int .i64 (z.2.k : Nat), .int .u64 z.2.seed] []]) := by
  refine enter Try.func48 rfl Try.ntmps48 fun w0 => ?_
  refine openElement ?_
  rintro a1 c1 F3 rfl l1
  refine go ?_; intros
  refine wg_if rfl rfl (fun h1 => ?_) (fun h1 => ?_)
  · refine go ?_; intros
    refine cf (anySerial_f _ g F s ok (by omega)) fun q hq => ?_
    refine t_app ?_
    refine go ?_; intros
    refine ret (q.1, q.2) (hq.mono (by omega)) rfl
  · refine go ?_; intros
    refine cf (one_f _ g F 3 s ok (by omega) (by omega)) fun p hp => ?_
    refine t_app ?_
    obtain ⟨b4, s4⟩ := p
    obtain ⟨-, z4⟩ := hp
    dsimp only at z4 ⊢
    cases b4
    · refine go ?_; intros
      refine d_start [1] [] ?_
      refine dt 0 ?_
      refine dt 1 ?_
      refine dt 2 ?_
      refine dt 3 ?_
      refine dt 4 ?_
      refine dt 5 ?_
      refine dO 6 (by kernel_rfl) (by rw [List.getElem?_toArray]; rfl) ?_
      apply o_call; rfl; kernel_rfl; exact evsE
      refine cf (pick_f _ g F _ s4 z4 (by omega) (by omega)) fun q hq => ?_
      refine t_app ?_
      obtain ⟨q1, q2⟩ := hq
      refine atEntry (xs := y.entries) q.1 ?_
      rintro hi b o a5 c5 F5 e6 l5
      rw [e6]
      refine dk ?_
      refine dO 7 (by kernel_rfl) (by rw [List.getElem?_toArray]; rfl) ?_
      apply oc; rfl; exact ydE
      refine dk ?_
      refine dO 8 (by kernel_rfl) (by rw [List.getElem?_toArray]; rfl) ?_
      apply oc; rfl; exact ydE
      refine dk ?_
      refine dO 9 (by kernel_rfl) (by rw [List.getElem?_toArray]; rfl) ?_
      apply oc; rfl; exact ydE
      refine dk ?_
      refine dt 10 ?_
      refine dd ?_
      refine go ?_; intros
      refine ret (_, q.2) (q2.mono (by omega)) rfl
    · refine go ?_; intros
      refine cf (anySerial_f _ g F s4 z4 (by omega)) fun q hq => ?_
      refine t_app ?_
      refine go ?_; intros
      refine ret (q.1, q.2) (hq.mono (by omega)) rfl
set_option maxRecDepth 100000 in
theorem DrawTakeRequest_f (v : Value) (code : List Int) (G : List Nat) : Fn Try.prog 20 [v] [.sl EByte v code G] [] (fun (s : ElQ) => True) (fun s => .tuple #[.agg #[.int .i64 s.y.clock, .slice s.a s.y.entries.length s.c], .int .i64 s.n, .int .i64 s.m]) (fun s => [.isv EElement (.agg #[.int .i64 s.y.clock, .slice s.a s.y.entries.length s.c]) s.y s.F]) := by
  refine enter Try.func20 rfl Try.ntmps20 fun w0 => ?_
  refine t_sl (E := EByte) ?_
  rintro a c rfl l1 l2
  refine go ?_; intros
  refine cf (element_f 0 _ ⟨code, a, c, G⟩ ⟨0, 0⟩ ⟨Nat.le_refl _, by decide, by decide⟩ (by omega)) fun z hz => ?_
  refine t_app ?_
  obtain ⟨hz1, hz2⟩ := hz
  refine go ?_; intros
  refine d_start [0] [] ?_
  refine dt 0 ?_
  refine dt 1 ?_
  refine dt 2 ?_
  refine dt 4 ?_
  refine dO 3 (by kernel_rfl) (by rw [List.getElem?_toArray]; rfl) ?_
  apply o_call; rfl; kernel_rfl; exact evsE
  refine cf (entryOf_f _ _ ⟨code, a, c, G⟩ z.s z.y (.agg #[.int .i64 z.y.clock, .slice z.a z.y.entries.length z.c]) z.F hz2 (by omega) hz1) fun q hq => ?_
  refine t_app ?_
  refine dk ?_
  refine dO 5 (by kernel_rfl) (by rw [List.getElem?_toArray]; rfl) ?_
  apply o_call; rfl; kernel_rfl; exact evsE
  refine cf (pick_f _ _ ⟨code, a, c, G⟩ 9 q.2 hq (by omega) (by omega)) fun r hr => ?_
  refine t_app ?_
  refine dk ?_
  refine dO 6 (by kernel_rfl) (by rw [List.getElem?_toArray]; rfl) ?_
  apply o_st; rfl; rfl; rfl; (first | exact AggC.s | exact OneC.s); rfl; exact rplE; exact putE; rfl
  refine dk ?_
  refine dt 7 ?_
  refine dt 8 ?_
  refine dd ?_
  refine go ?_; intros
  refine ret (⟨z.y, z.a, z.c, z.F, q.1, (r.1 : Nat)⟩ : ElQ) trivial rfl
set_option maxRecDepth 100000 in
theorem DrawFacesFor_f (v : Value) (code : List Int) (G : List Nat) : Fn Try.prog 28 [v] [.sl EByte v code G] [] (fun (s : ElQ) => True) (fun s => .tuple #[.agg #[.int .i64 s.y.clock, .slice s.a s.y.entries.length s.c], .int .i64 s.n]) (fun s => [.isv EElement (.agg #[.int .i64 s.y.clock, .slice s.a s.y.entries.length s.c]) s.y s.F]) := by
  refine enter Try.func28 rfl Try.ntmps28 fun w0 => ?_
  refine t_sl (E := EByte) ?_
  rintro a c rfl l1 l2
  refine go ?_; intros
  refine cf (element_f 0 _ ⟨code, a, c, G⟩ ⟨0, 0⟩ ⟨Nat.le_refl _, by decide, by decide⟩ (by omega)) fun z hz => ?_
  refine t_app ?_
  obtain ⟨hz1, hz2⟩ := hz
  refine go ?_; intros
  refine d_start [0] [] ?_
  refine dt 0 ?_
  refine dt 1 ?_
  refine dt 2 ?_
  refine dO 3 (by kernel_rfl) (by rw [List.getElem?_toArray]; rfl) ?_
  apply o_call; rfl; kernel_rfl; exact evsE
  refine cf (entryOf_f _ _ ⟨code, a, c, G⟩ z.s z.y (.agg #[.int .i64 z.y.clock, .slice z.a z.y.entries.length z.c]) z.F hz2 (by omega) hz1) fun q hq => ?_
  refine t_app ?_
  refine dk ?_
  refine dO 4 (by kernel_rfl) (by rw [List.getElem?_toArray]; rfl) ?_
  apply o_st; rfl; rfl; rfl; (first | exact AggC.s | exact OneC.s); rfl; exact rplE; exact putE; rfl
  refine dk ?_
  refine dt 5 ?_
  refine dd ?_
  refine go ?_; intros
  refine ret (⟨z.y, z.a, z.c, z.F, q.1, 0⟩ : ElQ) trivial rfl
structure RpD where
  i : Nat
  l : List Int
  a : Option Addr
  c : Nat
  F : List Nat
  s : CuS
set_option maxRecDepth 100000 in
theorem DrawTakeRepair_f (v : Value) (code : List Int) (G : List Nat) : Fn Try.prog 27 [v] [.sl EByte v code G] [] (fun (s : ElP) => s.l.length ≤ 1000) (fun s => .tuple #[.agg #[.int .i64 s.y.clock, .slice s.a s.y.entries.length s.c], .int .i64 s.n, .slice s.a2 s.l.length s.c2]) (fun s => [.isv EElement (.agg #[.int .i64 s.y.clock, .slice s.a s.y.entries.length s.c]) s.y s.F, .ow EInt 3 (.slice s.a2 s.l.length s.c2) s.l s.F2]) := by
  refine enter Try.func27 rfl Try.ntmps27 fun w0 => ?_
  refine t_sl (E := EByte) ?_
  rintro a c rfl l1 l2
  refine go ?_; intros
  refine cf (element_f 0 _ ⟨code, a, c, G⟩ ⟨0, 0⟩ ⟨Nat.le_refl _, by decide, by decide⟩ (by omega)) fun z hz => ?_
  refine t_app ?_
  obtain ⟨hz1, hz2⟩ := hz
  refine go ?_; intros
  rename_i gr gc g6 g7
  refine t_emp EInt ?_
  refine c_loopS [2, 3, 4, 5, 6] (fun s : RpD => [(8, .int .i64 (s.i : Nat)), (7, .slice s.a s.l.length s.c)]) (fun s => [.ow EInt 3 (.slice s.a s.l.length s.c) s.l s.F, .row gc 70 0 [] [.slice a code.length c, .int .i64 (s.s.k : Nat), .int .u64 s.s.seed] []]) (fun s => 1 ≤ s.i ∧ s.i ≤ 8 ∧ s.l.length ≤ s.i ∧ CuOk (2000 + 2 * s.i) s.s) (fun s => 8 - s.i) ⟨1, [], _, _, _, z.s⟩ ⟨Nat.le_refl _, by show 1 ≤ 8; decide, by show 0 ≤ 1; decide, hz2.mono (by show 0 + 2000 ≤ 2000 + 2 * 1; decide)⟩ fun s hs => ?_
  obtain ⟨i, l, a3, c3, F3, s3⟩ := s
  obtain ⟨h1, h2, h3, h4⟩ := hs
  dsimp only at h1 h2 h3 h4 ⊢
  refine go ?_; intros
  refine c_if rfl (fun h5 => ?_) (fun h5 => ?_)
  · refine go ?_; intros
    refine cf (one_f _ gc ⟨code, a, c, G⟩ 2 s3 h4 (by omega) (by omega)) fun p hp => ?_
    refine t_app ?_
    obtain ⟨b4, s4⟩ := p
    obtain ⟨-, z4⟩ := hp
    dsimp only at z4 ⊢
    cases b4
    · refine go ?_; intros
      refine n_lp (⟨i + 1, l, _, _, _, s4⟩ : RpD) ⟨by show 1 ≤ i + 1; omega, by show i + 1 ≤ 8; omega, by show l.length ≤ i + 1; omega, z4.mono (by show _ ≤ 2000 + 2 * (i + 1); omega)⟩ (by show 8 - (i + 1) < 8 - i; omega)
    · refine go ?_; intros
      apply wO
      refine ap1 (rep_i _) one_EInt fun a6 c6 F6 => ?_
      refine go ?_; intros
      refine n_lp (⟨i + 1, l ++ [(i : Int)], _, _, _, s4⟩ : RpD) ⟨by show 1 ≤ i + 1; omega, by show i + 1 ≤ 8; omega, by show (l ++ [(i : Int)]).length ≤ i + 1; simp; omega, z4.mono (by show _ ≤ 2000 + 2 * (i + 1); omega)⟩ (by show 8 - (i + 1) < 8 - i; omega)
  refine go ?_; intros
  refine cf (one_f _ gc ⟨code, a, c, G⟩ 16 s3 h4 (by omega) (by omega)) fun p hp => ?_
  refine t_app ?_
  obtain ⟨b4, u1⟩ := p
  obtain ⟨-, hu1⟩ := hp
  dsimp only at hu1 ⊢
  cases b4
  · obtain ⟨u2, rfl⟩ : ∃ u2, u2 = u1 := ⟨_, rfl⟩
    have hu2 := hu1
    refine go ?_; intros
    refine d_start [2] [] ?_
    refine dt 0 ?_
    refine dt 1 ?_
    refine dt 2 ?_
    refine dt 4 ?_
    refine dO 3 (by kernel_rfl) (by rw [List.getElem?_toArray]; rfl) ?_
    apply o_call; rfl; kernel_rfl; exact evsE
    refine cf (entryOf_f _ _ ⟨code, a, c, G⟩ u2 z.y (.agg #[.int .i64 z.y.clock, .slice z.a z.y.entries.length z.c]) z.F hu2 (by omega) hz1) fun q hq => ?_
    refine t_app ?_
    refine dk ?_
    refine dO 5 (by kernel_rfl) (by rw [List.getElem?_toArray]; rfl) ?_
    apply o_st; rfl; rfl; rfl; (first | exact AggC.s | exact OneC.s); rfl; exact rplE; exact putE; rfl
    refine dk ?_
    refine dt 6 ?_
    refine dt 7 ?_
    refine dd ?_
    refine go ?_; intros
    refine ret (⟨z.y, z.a, z.c, z.F, q.1, l, a3, c3, F3⟩ : ElP) (by show (l).length ≤ 1000; first | omega | (simp only [List.length_append, List.length_cons, List.length_nil]; omega)) rfl
  · refine go ?_; intros
    refine cf (pick_f _ gc ⟨code, a, c, G⟩ 10 u1 hu1 (by omega) (by omega)) fun p hp => ?_
    refine t_app ?_
    obtain ⟨p1, u2⟩ := p
    obtain ⟨-, hu2⟩ := hp
    dsimp only at hu2 ⊢
    refine go ?_; intros
    apply wO
    refine ap1 (rep_i _) one_EInt fun a6 c6 F6 => ?_
    refine go ?_; intros
    refine d_start [2] [] ?_
    refine dt 0 ?_
    refine dt 1 ?_
    refine dt 2 ?_
    refine dt 4 ?_
    refine dO 3 (by kernel_rfl) (by rw [List.getElem?_toArray]; rfl) ?_
    apply o_call; rfl; kernel_rfl; exact evsE
    refine cf (entryOf_f _ _ ⟨code, a, c, G⟩ u2 z.y (.agg #[.int .i64 z.y.clock, .slice z.a z.y.entries.length z.c]) z.F hu2 (by omega) hz1) fun q hq => ?_
    refine t_app ?_
    refine dk ?_
    refine dO 5 (by kernel_rfl) (by rw [List.getElem?_toArray]; rfl) ?_
    apply o_st; rfl; rfl; rfl; (first | exact AggC.s | exact OneC.s); rfl; exact rplE; exact putE; rfl
    refine dk ?_
    refine dt 6 ?_
    refine dt 7 ?_
    refine dd ?_
    refine go ?_; intros
    refine ret (⟨z.y, z.a, z.c, z.F, q.1, l ++ [(p1 : Int)], a6, c6, F6⟩ : ElP) (by show (l ++ [(p1 : Int)]).length ≤ 1000; first | omega | (simp only [List.length_append, List.length_cons, List.length_nil]; omega)) rfl
end Go.Proofs.Ytgogcgkocjpgoaa
/- Elements: that they stay valid, what stands in them behind a request and a repair; plain laws. -/
namespace Go.Proofs.Ytgogcgkocjpgoaa
open Go.RowKit
theorem goodE_iff {e : Element} : goodElement e = true ↔ isClk e.clock = true ∧ e.entries.length ≤ 5 ∧ (∀ x ∈ e.entries, okEntry e.clock x = true) ∧ e.entries.Pairwise fun a b => a.number ≠ b.number := by
  unfold goodElement
  simp only [Bool.and_eq_true, decide_eq_true_eq]
  constructor
  · rintro ⟨⟨h1, h2⟩, h3⟩
    refine ⟨h1, h2, fun x hx => ?_, List.pairwise_iff_getElem.2 fun i j hi hj hij => ?_⟩
    · obtain ⟨i, hi, rfl⟩ := List.getElem_of_mem hx
      have := allUpTo_get h3 i hi
      rw [entAt_of hi, Bool.and_eq_true] at this
      exact this.1
    · have := allUpTo_get h3 j hj
      rw [entAt_of hj, Bool.and_eq_true, Bool.not_eq_true', List.any_eq_false] at this
      have := this.2 e.entries[i] (List.mem_take_iff_getElem.2 ⟨i, by omega, rfl⟩)
      simpa using this
  · rintro ⟨h1, h2, h3, h4⟩
    refine ⟨⟨h1, h2⟩, allUpTo_yes fun i hi => ?_⟩
    rw [entAt_of hi, h3 _ (List.getElem_mem hi), Bool.true_and, Bool.not_eq_true', List.any_eq_false]
    intro x hx
    obtain ⟨j, hj, rfl⟩ := List.mem_take_iff_getElem.1 hx
    have := List.pairwise_iff_getElem.1 h4 j i (by omega) hi (by omega)
    simpa using this
theorem okEntry_iff {c : Int} {x : Entry} : okEntry c x = true ↔ isSer x.number = true ∧ 0 < x.faces.length ∧ (x.faces.Pairwise (· < ·) ∧ ∀ z ∈ x.faces, 1 ≤ z ∧ z ≤ 7) ∧ c + 1 ≤ x.untl ∧ x.untl ≤ c + 6 := by
  unfold okEntry btw
  simp only [Bool.and_eq_true, decide_eq_true_eq]
  exact ⟨fun ⟨a, b, c, d⟩ => ⟨a, b, rising_pw c, d⟩, fun ⟨a, b, c, d⟩ => ⟨a, b, pw_rising c.1 c.2, d⟩⟩
theorem placeI_spec (l : List Int) (n : Int) : (∀ j (_ : j < placeI l n) (h : j < l.length), l[j] < n) ∧ ∀ h : placeI l n < l.length, ¬ l[placeI l n] < n := by
  have := tw_spec (p := fun x => decide (x < n)) (xs := l)
  exact ⟨fun j hj h => of_decide_eq_true (this.2.1 j hj h), fun h => of_decide_eq_false (this.2.2 h)⟩
theorem putI_mem {l : List Int} {n x : Int} : x ∈ putI l n ↔ x = n ∨ x ∈ l := by
  unfold putI
  split
  · rename_i h
    have := List.mem_of_getElem? h
    exact ⟨fun h => .inr h, fun h => by rcases h with rfl | h; exact this; exact h⟩
  · rw [List.mem_append, List.mem_cons]
    constructor
    · rintro (h | h | h)
      · exact .inr (List.mem_of_mem_take h)
      · exact .inl h
      · exact .inr (List.mem_of_mem_drop h)
    · rintro (h | h)
      · exact .inr (.inl h)
      · rw [← List.take_append_drop (placeI l n) l, List.mem_append] at h
        rcases h with h | h
        · exact .inl h
        · exact .inr (.inr h)
theorem putI_pw {l : List Int} {n : Int} (h : l.Pairwise (· < ·)) : (putI l n).Pairwise (· < ·) := by
  obtain ⟨s1, s2⟩ := placeI_spec l n
  have hp := List.pairwise_iff_getElem.1 h
  unfold putI
  split
  · exact h
  · rename_i hne
    refine List.pairwise_append.2 ⟨h.sublist (List.take_sublist _ _), List.pairwise_cons.2 ⟨fun z hz => ?_, h.sublist (List.drop_sublist _ _)⟩, fun a ha b hb => ?_⟩
    · obtain ⟨j, hj, rfl⟩ := List.mem_drop_iff_getElem.1 hz
      have hk : placeI l n < l.length := by omega
      have h1 := s2 hk
      have h2 : l[placeI l n] ≠ n := fun e => hne (by rw [List.getElem?_eq_getElem hk, e])
      rcases Nat.eq_zero_or_pos j with rfl | hj0
      · simp only [Nat.add_zero]; omega
      · have := hp (placeI l n) (placeI l n + j) hk (by omega) (by omega)
        omega
    · obtain ⟨i, hi, rfl⟩ := List.mem_take_iff_getElem.1 ha
      have h1 := s1 i (by omega) (by omega)
      rcases List.mem_cons.1 hb with rfl | hb
      · exact h1
      · obtain ⟨j, hj, rfl⟩ := List.mem_drop_iff_getElem.1 hb
        exact hp i (placeI l n + j) (by omega) (by omega) (by omega)
theorem isFac_iff {f : Int} : isFac f = true ↔ 1 ≤ f ∧ f ≤ 7 := by unfold isFac btw; simp
theorem atE_of {e : Element} {i : Nat} {n : Int} (hg : goodElement e = true) (hi : i < e.entries.length) (h : e.entries[i].number = n) : atE e n = i := by
  rcases findE_or e n with ⟨h1, -, h2, -⟩ | ⟨-, -, -, h2⟩
  · have hp := List.pairwise_iff_getElem.1 (goodE_iff.1 hg).2.2.2
    rcases Nat.lt_trichotomy (atE e n) i with h3 | h3 | h3
    · exact absurd (h2.trans h.symm) (hp _ _ h1 hi h3)
    · exact h3
    · exact absurd (h.trans h2.symm) (hp _ _ hi h1 h3)
  · exact absurd h (h2 _ (List.getElem_mem hi))
theorem facesE_at {e : Element} {i : Nat} {n : Int} (hg : goodElement e = true) (hi : i < e.entries.length) (h : e.entries[i].number = n) : facesE e n = e.entries[i].faces := by
  unfold facesE; rw [atE_of hg hi h, List.getElem?_eq_getElem hi]
/-- a request leaves an element valid -/
theorem good_reqE {e : Element} {n f : Int} (hg : goodElement e = true) (hn : isSer n = true) (hf : isFac f = true) : goodElement (reqE e n f) = true := by
  obtain ⟨h1, h2, h3, h4⟩ := goodE_iff.1 hg
  obtain ⟨f1, f2⟩ := isFac_iff.1 hf
  rcases findE_or e n with ⟨h, -, e2, -⟩ | ⟨-, e2, -, e4⟩
  · rw [reqE_yes h]
    have hx := okEntry_iff.1 (h3 _ (List.getElem_mem h))
    refine goodE_iff.2 ⟨h1, by simpa using h2, fun x hx' => ?_, ?_⟩
    · rcases List.mem_or_eq_of_mem_set hx' with h' | rfl
      · exact h3 x h'
      · refine okEntry_iff.2 ⟨hx.1, ?_, ⟨putI_pw hx.2.2.1.1, fun z hz => ?_⟩, hx.2.2.2⟩
        · exact List.length_pos_of_mem (putI_mem.2 (.inl rfl))
        · rcases putI_mem.1 hz with rfl | hz
          · exact ⟨f1, f2⟩
          · exact hx.2.2.1.2 z hz
    · refine List.pairwise_iff_getElem.2 fun i j hi hj hij => ?_
      have hp := List.pairwise_iff_getElem.1 h4 i j (by simpa using hi) (by simpa using hj) hij
      simp only [List.getElem_set]
      split <;> split <;> simp_all
  · by_cases hl : e.entries.length < 5
    · rw [reqE_new e2 hl]
      refine goodE_iff.2 ⟨h1, by simp; omega, fun x hx => ?_, ?_⟩
      · rcases List.mem_append.1 hx with h' | h'
        · exact h3 x h'
        · simp only [List.mem_cons, List.not_mem_nil, or_false] at h'
          subst h'
          exact okEntry_iff.2 ⟨hn, by simp, ⟨by simp, by simp [f1, f2]⟩, by show e.clock + 1 ≤ e.clock + 6; omega, by show e.clock + 6 ≤ e.clock + 6; omega⟩
      · refine List.pairwise_append.2 ⟨h4, by simp, fun a ha b hb => ?_⟩
        simp only [List.mem_cons, List.not_mem_nil, or_false] at hb
        subst hb
        exact e4 a ha
    · rw [reqE_full e2 hl]; exact hg
theorem good_repE {e : Element} {n : Int} (hg : goodElement e = true) : goodElement (repE e n) = true := by
  obtain ⟨h1, h2, h3, h4⟩ := goodE_iff.1 hg
  rcases findE_or e n with ⟨h, -, e2, -⟩ | ⟨-, e2, -, e4⟩
  · rw [repE_yes h]
    have hs : (e.entries.take (atE e n) ++ e.entries.drop (atE e n + 1)).Sublist e.entries := by
      have := List.Sublist.append (List.Sublist.refl (e.entries.take (atE e n))) (List.drop_sublist_drop_left e.entries (Nat.le_succ (atE e n)))
      rwa [List.take_append_drop] at this
    exact goodE_iff.2 ⟨h1, Nat.le_trans hs.length_le h2, fun x hx => h3 x (hs.subset hx), h4.sublist hs⟩
  · rw [repE_no e2]; exact hg
/-- behind a request: the faces of the entry, if there is one -/
theorem faces_req {e : Element} {n f : Int} (hg : goodElement e = true) (hn : isSer n = true) (hf : isFac f = true) : (facesE (reqE e n f) n ≠ [] → f ∈ facesE (reqE e n f) n) ∧ fwdE e n = decide (((facesE e n).length : Int) = 0) := by
  have hg2 := good_reqE hg hn hf
  obtain ⟨h1, h2, h3, h4⟩ := goodE_iff.1 hg
  rcases findE_or e n with ⟨h, -, e2, e3⟩ | ⟨-, e2, e3, e4⟩
  · refine ⟨fun _ => ?_, ?_⟩
    · rw [reqE_yes h] at hg2 ⊢
      rw [facesE_at (i := atE e n) hg2 (by simpa using h) (by simpa using e2)]
      simp only [List.getElem_set_self]
      exact putI_mem.2 (.inl rfl)
    · rw [e3, facesE_at hg h e2]
      have := (okEntry_iff.1 (h3 _ (List.getElem_mem h))).2.1
      exact (decide_eq_false (by omega)).symm
  · refine ⟨fun hne => ?_, ?_⟩
    · by_cases hl : e.entries.length < 5
      · rw [reqE_new e2 hl] at hg2 ⊢
        rw [facesE_at (i := e.entries.length) hg2 (by simp) (by simp)]
        simp
      · rw [reqE_full e2 hl] at hne
        exact absurd (by unfold facesE; rw [e2]) hne
    · rw [e3, show facesE e n = [] by unfold facesE; rw [e2]]; rfl
theorem faces_there {e : Element} {n : Int} (h : facesE e n ≠ []) : ∃ hi : atE e n < e.entries.length, e.entries[atE e n].number = n ∧ fwdE e n = false ∧ facesE e n = e.entries[atE e n].faces := by
  rcases findE_or e n with ⟨h1, -, e2, e3⟩ | ⟨-, e2, -, -⟩
  · exact ⟨h1, e2, e3, by unfold facesE; rw [List.getElem?_eq_getElem h1]⟩
  · exact absurd (by unfold facesE; rw [e2]) h
/-- a repair to all faces goes to those of the entry, and no entry is left -/
theorem rep_all {e : Element} {n : Int} (hg : goodElement e = true) (h : facesE e n ≠ []) : facE e n [1, 2, 3, 4, 5, 6, 7] = facesE e n ∧ facesE (repE e n) n = [] := by
  obtain ⟨hi, e2, -, e4⟩ := faces_there h
  obtain ⟨h1, h2, h3, h4⟩ := goodE_iff.1 hg
  refine ⟨?_, ?_⟩
  · rw [facE_yes hi, e4]
    refine List.filter_eq_self.2 fun z hz => ?_
    have := (okEntry_iff.1 (h3 _ (List.getElem_mem hi))).2.2.1.2 z hz
    simp only [List.mem_cons, List.not_mem_nil, or_false, decide_eq_true_eq]
    omega
  · rcases findE_or (repE e n) n with ⟨k1, -, k2, -⟩ | ⟨-, k2, -, -⟩
    · exfalso
      have hm := List.getElem_mem k1
      generalize (repE e n).entries[atE (repE e n) n] = x at hm k2
      rw [repE_yes hi] at hm
      have hp := List.pairwise_iff_getElem.1 h4
      rcases List.mem_append.1 hm with hm | hm
      · obtain ⟨j, hj, rfl⟩ := List.mem_take_iff_getElem.1 hm
        exact hp j (atE e n) (by omega) hi (by omega) (k2.trans e2.symm)
      · obtain ⟨j, hj, rfl⟩ := List.mem_drop_iff_getElem.1 hm
        exact hp (atE e n) (atE e n + 1 + j) hi (by omega) (by omega) (e2.trans k2.symm)
    · unfold facesE; rw [k2]
theorem facE_sub {e : Element} {n : Int} {l : List Int} : ∀ z ∈ facE e n l, z ∈ l := fun z hz => by
  unfold facE at hz
  split at hz
  · have := (List.mem_filter.1 hz).2; simpa using this
  · split at hz
    · exact hz
    · simp at hz
theorem law_request (e : Element) (n f : Int) : (resTakeRequest e n f).2.2 = true → goodElement e = true ∧ isSer n = true ∧ isFac f = true ∧ (resTakeRequest e n f).1 = reqE e n f ∧ (resTakeRequest e n f).2.1 = fwdE e n := by
  unfold resTakeRequest
  split
  · rename_i h
    unfold okTakeRequest at h
    simp only [Bool.and_eq_true] at h
    exact fun _ => ⟨h.1.1, h.1.2, h.2, rfl, rfl⟩
  · intro h; cases h
theorem repair_sub (e : Element) (n : Int) (l : List Int) : ∀ z ∈ (resTakeRepair e n l).2.1, z ∈ l := fun z hz => by
  unfold resTakeRepair at hz
  split at hz
  · exact facE_sub z hz
  · simp at hz
theorem repair_len (e : Element) (n : Int) (l : List Int) (hl : l.length ≤ 1000) : (resTakeRepair e n l).2.1.length ≤ 1000 := by
  unfold resTakeRepair
  split
  · rename_i h
    unfold okTakeRepair at h
    simp only [Bool.and_eq_true] at h
    obtain ⟨-, -, hf⟩ := good_room h.1.1
    show (facE e n l).length ≤ 1000
    unfold facE
    split
    · rename_i y hy
      have := hf y (List.mem_of_getElem? hy)
      have := List.length_filter_le (fun f => decide (f ∈ l)) y.faces
      omega
    · split
      · exact hl
      · simp
  · simp
end Go.Proofs.Ytgogcgkocjpgoaa
/- Texts that are alike; a code that is too long. -/
namespace Go.Proofs.Ytgogcgkocjpgoaa
open Go.RowKit
set_option maxRecDepth 100000 in
theorem vBig_f (v : Value) (code : List Int) (F : List Nat) : Fn Try.prog 19 [v] [.sl EByte v code F] [] (fun (_ : Unit) => True) (fun _ => .bool (decide (65536 < (code.length : Int)))) (fun _ => []) := by
  refine enter Try.func19 rfl Try.ntmps19 fun w0 => ?_
  refine t_sl (E := EByte) ?_
  rintro a c rfl l1 l2
  refine go ?_; intros
  refine ret () trivial rfl
end Go.Proofs.Ytgogcgkocjpgoaa
/- The law FnElements: the walk. -/
namespace Go.Proofs.Ytgogcgkocjpgoaa
open Go.RowKit
set_option maxHeartbeats 2000000 in
set_option maxRecDepth 100000 in
theorem fnElements_f (v : Value) (code : List Int) (G : List Nat) : Fn Try.prog 5 [v] [.sl EByte v code G] [] (fun (_ : Unit) => True) (fun _ => .bool true) (fun _ => []) := by
  have hbb : ∀ b : Bool, decide (¬ b = b) = false := by simp
  refine enter Try.func5 rfl Try.ntmps5 fun w0 => ?_
  refine go ?_; intros
  refine cb (fun w st => (vBig_f v code G).val w (hol1 (st.get (p := .sl EByte v code G) (by simp)))) ?_
  refine go ?_; intros
  refine c_if rfl (fun h => ?_) (fun h => ?_)
  · refine go ?_; intros
    refine ret () trivial rfl
  refine go ?_; intros
  refine cf (DrawTakeRequest_f v code G) fun z _ => ?_
  refine t_app ?_
  refine go ?_; intros
  have hr := law_request z.y z.n z.m
  have hP := TakeRequest_f z.y z.n z.m (.agg #[.int .i64 z.y.clock, .slice z.a z.y.entries.length z.c]) z.F
  have hQ := specTakeRequest_f z.y z.n z.m (.agg #[.int .i64 z.y.clock, .slice z.a z.y.entries.length z.c]) z.F
  obtain ⟨W, b, ok, e⟩ : ∃ W b ok, resTakeRequest z.y z.n z.m = (W, b, ok) := ⟨_, _, _, rfl⟩
  rw [e] at hr hP hQ
  dsimp only at hr hP hQ
  refine cf hP fun p _ => ?_
  refine t_app ?_
  refine t_weakI weak_Element fun F5 => ?_
  refine openElement (v := p.1) (x := W) ?_
  rintro a6 c6 F6 e6 l6
  rw [e6]
  refine go ?_; intros
  refine cf hQ fun q _ => ?_
  refine t_app ?_
  refine t_weakI weak_Element fun F7 => ?_
  refine openElement (v := q.1) (x := W) ?_
  rintro a8 c8 F8 e8 l8
  rw [e8]
  refine goN ?_; intros
  refine d_start [0, 3, 6] [] ?_
  refine dt 0 ?_
  refine dt 1 ?_
  refine dt 2 ?_
  rw [hbb]
  refine dt 3 ?_
  refine dtg 4 ?_
  refine dtg 5 ?_
  refine dtg 6 ?_
  rw [hbb]
  refine dt 7 ?_
  refine dt 8 ?_
  refine dtg 9 ?_
  refine dtg 10 ?_
  refine d1g 11 ?_
  apply On.h
  apply o_call; rfl; kernel_rfl; exact evsE
  refine cf (vElement_f _ _ W _ _) fun _ _ => ?_
  refine t_app ?_
  refine dk ?_
  refine dtg 12 ?_
  refine dt 13 ?_
  refine dt 14 ?_
  refine dtg 15 ?_
  refine dtg 17 ?_
  refine d1g 16 ?_
  apply On.h
  apply o_call; rfl; kernel_rfl; exact evsE
  refine cb (fun w st => IsValidElement_c _ z.y z.F w (st.get (p := .isv EElement (.agg #[.int .i64 z.y.clock, .slice z.a z.y.entries.length z.c]) z.y z.F) (by exact memE))) ?_
  refine dk ?_
  refine d1g 18 ?_
  apply On.h
  apply o_call; rfl; kernel_rfl; exact evsE
  refine cf (specValidE_f z.y _ z.F) fun _ _ => ?_
  refine t_app ?_
  refine dk ?_
  refine dtg 19 ?_
  refine dt 20 ?_
  refine dd ?_
  refine go ?_; intros
  refine c_if rfl (fun h1 => ?_) (fun h1 => ?_)
  · exact absurd rfl h1
  refine go ?_; intros
  refine c_joinS [0] [] (fun _ : Unit => []) (fun _ => [.sl EByte v code G]) (fun _ => True) ?_ fun _ _ => ?_
  · cases ok
    · refine go ?_; intros
      refine n_join () trivial
    · obtain ⟨g1, g2, g3, e1, e2⟩ := hr rfl
      subst e1 e2
      obtain ⟨f1, f2⟩ := faces_req g1 g2 g3
      have g4 := good_reqE g1 g2 g3
      rw [f2]
      refine go ?_; intros
      refine cf (FacesFor_f z.y z.n _ z.F) fun u1 _ => ?_
      refine t_app ?_
      rw [show resFaces z.y z.n = (facesE z.y z.n, true) by unfold resFaces; rw [g1, g2]; rfl]
      refine go ?_; intros
      refine cf (FacesFor_f (reqE z.y z.n z.m) z.n _ F5) fun u2 _ => ?_
      refine t_app ?_
      rw [show resFaces (reqE z.y z.n z.m) z.n = (facesE (reqE z.y z.n z.m) z.n, true) by unfold resFaces; rw [g4, g2]; rfl]
      refine go ?_; intros
      refine wg_if rfl rfl (fun h2 => ?_) (fun h2 => ?_)
      · exact absurd rfl h2
      refine go ?_; intros
      refine cb (fun w st => IsValidElement_c _ (reqE z.y z.n z.m) F5 w (st.get (p := .isv EElement (.agg #[.int .i64 (reqE z.y z.n z.m).clock, .slice a6 (reqE z.y z.n z.m).entries.length c6]) (reqE z.y z.n z.m) F5) (by exact memE))) ?_
      rw [g4]
      refine go ?_; intros
      refine c_if rfl (fun h3 => ?_) (fun h3 => ?_)
      · have hne : facesE (reqE z.y z.n z.m) z.n ≠ [] := by intro h0; rw [h0] at h3; simp at h3
        obtain ⟨hi, k2, k3, k4⟩ := faces_there hne
        obtain ⟨r1, r2⟩ := rep_all g4 hne
        refine go ?_; intros
        refine cf (TakeRequest_f (reqE z.y z.n z.m) z.n 1 _ F5) fun u3 _ => ?_
        refine t_app ?_
        rw [resTakeRequest_yes (by unfold okTakeRequest; rw [g4, g2]; rfl), k3]
        refine t_weakI weak_Element fun F9 => ?_
        refine openElement (v := u3.1) ?_
        rintro a9 c9 F10 e9 l9
        rw [e9]
        refine goN ?_; intros
        refine t_row (E := EInt) (xs := [1, 2, 3, 4, 5, 6, 7]) (fun w => flat_int w _) ?_ (by decide)
        refine t_read (E := EInt) fun F11 => ?_
        refine go ?_; intros
        refine cf (TakeRepair_f (reqE z.y z.n z.m) z.n [1, 2, 3, 4, 5, 6, 7] _ _ F11 _ F5) fun u4 _ => ?_
        refine t_app ?_
        rw [resTakeRepair_yes (by unfold okTakeRepair; rw [g4, g2]; rfl), r1]
        refine t_weakI weak_Element fun F12 => ?_
        refine openElement (v := u4.v) ?_
        rintro a13 c13 F13 e13 l13
        rw [e13]
        refine go ?_; intros
        refine cf (FacesFor_f (repE (reqE z.y z.n z.m) z.n) z.n _ F12) fun u5 _ => ?_
        refine t_app ?_
        rw [show resFaces (repE (reqE z.y z.n z.m) z.n) z.n = ([], true) by unfold resFaces; rw [good_repE g4, g2, r2]; rfl]
        refine t_read (E := EInt) (xs := facesE (reqE z.y z.n z.m) z.n) fun F14 => ?_
        refine t_read (E := EInt) (xs := facesE (reqE z.y z.n z.m) z.n) fun F15 => ?_
        refine go ?_; intros
        refine cf (vHas_f _ (facesE (reqE z.y z.n z.m) z.n) _ z.m) fun _ _ => ?_
        refine t_app ?_
        rw [show (facesE (reqE z.y z.n z.m) z.n).contains z.m = true from List.contains_iff_mem.2 (f1 hne)]
        refine go ?_; intros
        refine cf (vInts_f _ _ (facesE (reqE z.y z.n z.m) z.n) _ _) fun _ _ => ?_
        refine t_app ?_
        refine go ?_; intros
        refine n_join () trivial
      · refine go ?_; intros
        refine n_join () trivial
  refine go ?_; intros
  refine cf (DrawTakeRepair_f v code G) fun x hx => ?_
  refine t_app ?_
  refine t_read (E := EInt) fun G2 => ?_
  refine go ?_; intros
  have hP := TakeRepair_f x.y x.n x.l x.a2 x.c2 G2 (.agg #[.int .i64 x.y.clock, .slice x.a x.y.entries.length x.c]) x.F
  have hQ := specTakeRepair_f x.y x.n x.l x.a2 x.c2 G2 (.agg #[.int .i64 x.y.clock, .slice x.a x.y.entries.length x.c]) x.F
  have hs := repair_sub x.y x.n x.l
  have hl := repair_len x.y x.n x.l hx
  obtain ⟨W, L, ok, e⟩ : ∃ W L ok, resTakeRepair x.y x.n x.l = (W, L, ok) := ⟨_, _, _, rfl⟩
  rw [e] at hP hQ hs hl
  dsimp only at hP hQ hs hl
  refine cf hP fun p _ => ?_
  refine t_app ?_
  refine t_weakI weak_Element fun F5 => ?_
  refine openElement (v := p.v) (x := W) ?_
  rintro a6 c6 F6 e6 l6
  rw [e6]
  refine t_read (E := EInt) (xs := L) fun G3 => ?_
  refine go ?_; intros
  refine cf hQ fun q _ => ?_
  refine t_app ?_
  refine t_weakI weak_Element fun F7 => ?_
  refine openElement (v := q.v) (x := W) ?_
  rintro a8 c8 F8 e8 l8
  rw [e8]
  refine t_read (E := EInt) (xs := L) fun G4 => ?_
  refine go ?_; intros
  refine wg_if rfl rfl (fun h1 => ?_) (fun h1 => ?_)
  · exact absurd rfl h1
  refine go ?_; intros
  refine cf (vElement_f _ _ W _ _) fun _ _ => ?_
  refine t_app ?_
  refine go ?_; intros
  refine cf (vInts_f _ _ L _ _) fun _ _ => ?_
  refine t_app ?_
  refine go ?_; intros
  refine c_loopR [0, 26, 28] (fun k : Nat => [(33, .int .i64 (k : Nat))]) (fun k => k ≤ L.length) (fun k => L.length - k) 0 (Nat.zero_le _) fun k hk => ?_
  refine go ?_; intros
  refine c_if rfl (fun h2 => ?_) (fun h2 => ?_)
  · have hk2 : k < L.length := by omega
    refine go ?_; intros
    refine at_int (a := p.a) (xs := L) k ?_
    rintro hi b o e9
    rw [e9]
    refine go ?_; intros
    refine cf (vHas_f _ x.l _ L[k]) fun _ _ => ?_
    refine t_app ?_
    rw [show x.l.contains L[k] = true from List.contains_iff_mem.2 (hs _ (List.getElem_mem hk2))]
    refine go ?_; intros
    refine t_drop ?_
    refine n_lp (hH := hsub_refl _) (k + 1) (by omega) (by omega)
  refine go ?_; intros
  refine cf (DrawFacesFor_f v code G) fun y _ => ?_
  refine t_app ?_
  refine go ?_; intros
  have hP := FacesFor_f y.y y.n (.agg #[.int .i64 y.y.clock, .slice y.a y.y.entries.length y.c]) y.F
  have hQ := specFacesFor_f y.y y.n (.agg #[.int .i64 y.y.clock, .slice y.a y.y.entries.length y.c]) y.F
  obtain ⟨L2, ok2, e⟩ : ∃ L2 ok2, resFaces y.y y.n = (L2, ok2) := ⟨_, _, rfl⟩
  rw [e] at hP hQ
  dsimp only at hP hQ
  refine cf hP fun p2 _ => ?_
  refine t_app ?_
  refine t_read (E := EInt) (xs := L2) fun G5 => ?_
  refine go ?_; intros
  refine cf hQ fun q2 _ => ?_
  refine t_app ?_
  refine t_read (E := EInt) (xs := L2) fun G6 => ?_
  refine go ?_; intros
  refine wg_if rfl rfl (fun h3 => ?_) (fun h3 => ?_)
  · refine go ?_; intros
    refine cf (vInts_f _ _ L2 _ _) fun _ _ => ?_
    refine t_app ?_
    refine go ?_; intros
    refine ret () trivial rfl
  · exact absurd rfl h3
end Go.Proofs.Ytgogcgkocjpgoaa
/- What every law's proof shares: the step from 'returns true, and nothing that was there has turned' to the row's post; how arguments read. -/
namespace Go.Proofs.Ytgogcgkocjpgoaa
open Go.ChangeShapes Go.WideShapes Go.ChangeAt Go.RowKit

theorem trodAll_below {H : Type} {enc : TypeId × Value → H} {P : Program} (hl : laidOutB P = true) {W W' : World} (hb : Below W.heap.size W W') :
    ∀ (ts : List TypeId) (vs : List Value) (ds : List (DataW H)) (ps : List MemPlace), (∀ t ∈ ts, P.readableRec t = true ∧ t < P.types.size) →
      DataW.TrodAll enc P W 0 (fun _ => true) true ts vs ds ps → (∀ x ∈ ps, x.block < W.heap.size) → DataW.TrodAll enc P W' 0 (fun b => decide (b < W.heap.size)) true ts vs ds ps
  | [], vs, ds, ps, _, h, _ => by obtain ⟨rfl, rfl, rfl⟩ := trodAll_nil h; exact rfl
  | t :: ts, vs, ds, ps, ht, h, hlt => by
    obtain ⟨v, vs', d, ds', p, q, rfl, rfl, rfl, h1, h2⟩ := trodAll_cons h
    have ⟨a, b⟩ := ht t (by simp)
    exact ⟨p, q, Below.trod hl a b h1 hb fun x hx => hlt x (by simp [hx]), trodAll_below hl hb ts vs' ds' q (fun t h => ht t (by simp [h])) h2 fun x hx => hlt x (by simp [hx]), rfl⟩

/-- A law returned true and left all that was there aS it was: the row's post. -/
theorem law_post {H : Type} {enc : TypeId × Value → H} {P : Program} {f : Func} {s : ChangeSpec} {tb : TypeId} (hl : laidOutB P = true) (hr : ∀ t ∈ f.params.toList, P.readableRec t = true ∧ t < P.types.size)
    (hb : P.underlying tb = some .bool) (hres : f.resultTypes = #[tb]) (hv : s.vars = []) {W W' : World} {args : Array Value} {ds gs : List (DataW H)} {before : List MemPlace}
    (hs : s.fn H ds = { results := [.lit (.bool true)], args := ds }) (hW : DataW.Whole enc P f.params.toList s.vars false W args.toList ds gs before) (hB : Below W.heap.size W W') :
    s.post enc P f false true false false W args (.bool true) W' := by
  have hlt := hW.lt
  have hW0 := hW
  obtain ⟨p, q, hA, hV, rfl, _, _⟩ := hW0
  rw [hv] at hV
  obtain ⟨rfl, rfl⟩ := trodVars_none hV
  refine ⟨ds, [], p ++ [], [], p, [], hW, ?_, ?_, ?_, hB.frame _, fun h => by cases h⟩
  · rw [List.append_nil, hs, hres]
    exact trodAll_mk1 (shut_bool hb true)
  · rw [List.append_nil, hs]
    exact trodAll_below hl hB _ _ _ _ hr hA fun x hx => hlt x (by simpa using hx)
  · rw [hv, List.append_nil, hs]; exact rfl

/-- what reads aS data at type t reads by E -/
def Reads (P : Program) {α : Type} (E : Elem α) (t : TypeId) : Prop :=
  ∀ {H : Type} {enc : TypeId × Value → H} {w : World} {fuel : Nat} {cs : List Value} {x : DataW H × List MemPlace}, DataW.trod enc P w 0 (fun _ => true) true fuel t cs = some x → ∃ y F, E.rep w cs y F

section
variable {P : Program}
theorem reads_cells {α : Type} {E : Elem α} {e : TypeId} (hsz : P.cellsOf e = E.sz) (he : Reads P E e) {H : Type} {enc : TypeId × Value → H} {w : World} {n b off : Nat} :
    ∀ (els : List (DataW H × List MemPlace)) (k : Nat), (∀ i, i < els.length → (w.cells? 0 ((⟨b, off, none⟩ : Addr).add ((k + i) * P.cellsOf e)) (P.cellsOf e)).bind (DataW.trod enc P w 0 (fun _ => true) true n e) = els[i]?) →
      ∃ ys F, ys.length = els.length ∧ Cells E w b (off + k * E.sz) ys F
  | [], _, _ => ⟨[], [], rfl, rfl⟩
  | x :: r, k, h => by
    have h0 := h 0 (by simp)
    simp only [Nat.add_zero, List.getElem?_cons_zero, Option.bind_eq_some_iff] at h0
    obtain ⟨cs, hc, hx⟩ := h0
    obtain ⟨y, F1, hy⟩ := he hx
    obtain ⟨ys, F2, hl, hys⟩ := reads_cells hsz he r (k + 1) fun i hi => by
      have := h (i + 1) (by simpa using hi)
      rw [show k + 1 + i = k + (i + 1) by omega]
      simpa using this
    refine ⟨y :: ys, F1 ++ F2, by simp [hl], cs, F1, F2, rfl, hy, fun j hj => ?_, by rwa [show off + k * E.sz + E.sz = off + (k + 1) * E.sz by rw [Nat.add_mul]; omega]⟩
    obtain ⟨_, hlen, hcell⟩ := World.cells?_some hc
    rw [← hcell j (by rw [hsz]; exact hj)]
    congr 1
    simp only [Addr.add, hsz]
    split <;> split <;> simp_all <;> omega
theorem reads_slice {α : Type} {E : Elem α} {t e : TypeId} (ht : P.underlying t = some (.slice e)) (hsz : P.cellsOf e = E.sz) (hz : 0 < E.sz) (he : Reads P E e) : Reads P (ESl E hz) t := fun h => by
  rcases DataW.trod_slice ht h with ⟨rfl, _⟩ | ⟨a, len, cap, elems, rest, n, rfl, rfl, _, _, hlc, hcm, hlen, hel, _, _⟩
  · exact ⟨[], [], _, rfl, none, 0, rfl, ⟨by simp, by simp⟩, .inl ⟨rfl, rfl, fun _ => rfl⟩⟩
  · by_cases h0 : len = 0
    · subst h0
      exact ⟨[], [], _, rfl, some a, cap, rfl, ⟨by simp, by omega⟩, .inl ⟨rfl, rfl, fun e => by cases e⟩⟩
    · have hs : a = ⟨a.block, a.off, none⟩ := by
        have := hel 0 (by omega)
        rw [List.getElem?_eq_getElem (by omega)] at this
        simp only [Option.bind_eq_some_iff] at this
        obtain ⟨cs, hc, _⟩ := this
        obtain ⟨_, hl2, hcell⟩ := World.cells?_some hc
        have h1 := hcell 0 (by omega)
        rw [List.getElem?_eq_getElem (by omega)] at h1
        simp [Addr.add, World.cell?] at h1
        split at h1 <;> simp_all
        cases a; simp_all
      obtain ⟨ys, F, hyl, hys⟩ := reads_cells hsz he elems 0 (n := n) (b := a.block) (off := a.off) (enc := _) (w := _) (by
        rw [← hs]; intro i hi; rw [Nat.zero_add]; exact hel i (by omega))
      refine ⟨ys, a.block :: F, _, rfl, some a, cap, by rw [hyl, hlen], ⟨by omega, by omega⟩, .inr ⟨a.block, a.off, F, by rw [← hs], ?_, rfl, by simpa using hys⟩⟩
      intro e; rw [e] at hyl; simp at hyl; omega
end

/-- the fields of a struct, one behind the other, each by its own reading -/
inductive FieldsOk (P : Program) : List Field → Nat → (α : Type) → Elem α → Prop
  | nil (off : Nat) : FieldsOk P [] off Unit EUnit
  | cons {f : Field} {r : List Field} {off : Nat} {α β : Type} {A : Elem α} {B : Elem β} (ho : f.offset = off) (hc : P.cellsOf f.type = A.sz) (hA : Reads P A f.type) (h : FieldsOk P r (off + A.sz) β B) : FieldsOk P (f :: r) off (α × β) (EProd A B)
end Go.Proofs.Ytgogcgkocjpgoaa
