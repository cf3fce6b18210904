/- Walks: the reference's draws: a cursor over bytes. -/
import Derived.Test.YtidephmobajikaaDoorTStr
import Derived.Test.YtidephmobajikaaDoorHeld
import Derived.Test.YtidephmobajikaaDoorLaw2
import Derived.Test.YtidephmobajikaaDoorBytes
import Derived.Laws.Bits64b
namespace Go.Proofs.YtidephmobajikaaDoor
open Go.RowKit
section
variable {P : Program} {ops : Array Oper} {Q : Exit → Act → World → Prop} {md : Region.Mode} {S : World → Prop} {X : Nat → Bool}
/-- an operation that looks at no cell may be taken first, whatever has been stored -/
theorem AnyX.firstP {i : Nat} {oi : Oper} {v : Value} (hi : ops[i]? = some oi) (hsel : ∀ (j : Nat) (o : Oper) cs b, ops[j]? = some o → o.op ≠ .select cs b)
    (hQ : ∀ c a w, Q (.panic c) (a.put oi.dst v) w → Q (.panic c) a w) (hXi : X i = true) :
    ∀ (f : Nat) (listed : Array Bool) (a : Act) (w : World),
      (∀ j oj, ops[j]? = some oj → j ≠ i → listed.getD j true = false → (∀ e ∈ oj.after, Region.binds md e = true → e.on ≠ i) → oi.apart ops oj = true) →
      i ∈ Region.ready md ops listed → YieldsIf P ops (fun _ => True) oi v a → AnyX P md ops Q S X f (listed.setIfInBounds i true) (a.put oi.dst v) w → AnyX P md ops Q S X (f + 1) listed a w := by
  intro f
  induction f with
  | zero =>
    intro listed a w _ hr hy H
    refine ⟨fun h => (by rw [h] at hr; cases hr), fun j hj => ?_⟩
    by_cases hji : j = i
    · subst hji; exact hy.wpOp hi trivial ⟨(fun h => by rw [hXi] at h; cases h), H⟩
    · have := ready_mono hj hji
      rw [H.1] at this; cases this
  | succ f ih =>
    intro listed a w hfree hr hy H
    refine ⟨fun h => (by rw [h] at hr; cases hr), fun j hj => ?_⟩
    by_cases hji : j = i
    · subst hji; exact hy.wpOp hi trivial ⟨(fun h => by rw [hXi] at h; cases h), H⟩
    · obtain ⟨hju, oj, hoj, hall⟩ := mem_ready.1 hj
      have hiu := unlisted (mem_ready.1 hr).1
      have hnot : ∀ e ∈ oj.after, Region.binds md e = true → e.on ≠ i := fun e he hb heq => by
        have h1 := hall e he hb
        rw [heq, hiu] at h1; cases h1
      have h2 := wpOp_putIf hoj (hfree j oj hoj hji hju hnot) (fun cs b => hsel i oi cs b hi) (fun cs b => hsel j oj cs b hoj) hQ hy (H.2 j (ready_mono hj hji))
      refine wpOp_mono (fun a' w' h3 => ⟨h3.2.1, ih (listed.setIfInBounds j true) a' w' (fun k ok hk hki hun hno => hfree k ok hk hki ?_ hno) (ready_mono hr (Ne.symm hji)) h3.1 ?_⟩) h2
      · by_cases hjk : j = k
        · subst hjk; exact hju
        · rw [getD_set_ne true hjk] at hun; exact hun
      · rw [Array.setIfInBounds_comm _ _ hji]; exact h3.2.2
theorem AnyX.takeP {i : Nat} {oi : Oper} {v : Value} {f : Nat} {listed : Array Bool} {a : Act} {w : World} (hi : ops[i]? = some oi)
    (hs : Region.noSelect ops = true) (hf : Region.free md ops listed i = true) (hr : (Region.ready md ops listed).contains i = true) (hXi : X i = true)
    (hQ : ∀ c a w, Q (.panic c) (a.put oi.dst v) w → Q (.panic c) a w) (hy : YieldsIf P ops (fun _ => True) oi v a)
    (h : AnyX P md ops Q S X f (listed.setIfInBounds i true) (a.put oi.dst v) w) : AnyX P md ops Q S X (f + 1) listed a w :=
  AnyX.firstP hi (Region.noSelect_spec hs) hQ hXi f listed a w (Region.free_spec hi hf) (by simpa using hr) hy h
end
theorem Sl.byte {w v} {xs : List Int} {F} (h : Sl EByte w v xs F) : xs.length ≤ maxLen ∧ ∀ k (hk : k < xs.length), (0 ≤ xs[k] ∧ xs[k] ≤ 255) ∧ ∃ b off, v = .slice (some ⟨b, off, none⟩) xs.length (match v with | .slice _ _ c => c | _ => 0) ∧ b ∈ F ∧ w.cell? ⟨b, off + k, none⟩ = some (.int .u8 xs[k]) := by
  obtain ⟨a, cap, rfl, hl, ⟨rfl, rfl, _⟩ | ⟨b, off, F', rfl, hne, rfl, hc⟩⟩ := h
  · exact ⟨by simp, fun k hk => by simp at hk⟩
  · refine ⟨by omega, fun k hk => ?_⟩
    obtain ⟨cs, F1, ⟨rfl, h0, h1, rfl⟩, hcell, _⟩ := hc.get k hk
    refine ⟨⟨h0, h1⟩, b, off, rfl, by simp, ?_⟩
    simpa [EByte] using hcell 0 (by decide)
/-- the bytes that a cursor reads -/
structure CuF where
  code : List Int
  a : Option Addr
  c : Nat
  bs : List Nat
/-- the cursor lies in block g; its bytes in F, below it; it has moved at most B steps -/
def Cur (B : Nat) (w : World) (g : Nat) (F : CuF) : Prop :=
  ∃ (k : Nat) (seed : Int), Row w g 121 [.slice F.a F.code.length F.c, .int .i64 k, .int .u64 seed] ∧ Sl EByte w (.slice F.a F.code.length F.c) F.code F.bs ∧ g ∉ F.bs ∧ k ≤ B ∧ 0 ≤ seed ∧ seed < 18446744073709551616
theorem Cur.keep {B w w' g F K} (h : Cur B w g F) (hk : Keep K w w') (h1 : g ∉ K) (h2 : ∀ b ∈ F.bs, b ∉ K) : Cur B w' g F := by
  obtain ⟨k, seed, R, S, hF, h3⟩ := h
  exact ⟨k, seed, R.keepK hk h1, S.keep hk h2 (by decide), hF, h3⟩
theorem Cur.below {B w w' g F} (h : Cur B w g F) (hb : Below w.heap.size w w') : Cur B w' g F := by
  obtain ⟨k, seed, R, S, hF, h3⟩ := h
  exact ⟨k, seed, R.below hb, S.below (by decide) hb, hF, h3⟩
theorem Cur.mono {B B' w g F} (h : Cur B w g F) (hb : B ≤ B') : Cur B' w g F := by
  obtain ⟨k, seed, R, S, hF, h3, h4⟩ := h
  exact ⟨k, seed, R, S, hF, by omega, h4⟩
theorem Cur.lt {B w g F} (h : Cur B w g F) : g < w.heap.size := by
  obtain ⟨k, seed, R, _⟩ := h; exact R.lt
def PNext (B g : Nat) (F : CuF) (w : World) (e : Ending) (w' : World) : Prop := ∃ r : Nat, e = .returned (.int .i64 r) ∧ r ≤ 255 ∧ Cur (B + 1) w' g F ∧ Keep [g] w w'
set_option maxHeartbeats 3200000 in
set_option maxRecDepth 100000 in
theorem next_c (B g : Nat) (F : CuF) (w : World) (h : Cur B w g F) (hB0 : B ≤ 1099511627776) :
    Calls Tryd.prog 196 #[.pointer (some ⟨g, 0, none⟩)] w (PNext B g F w) := by
  obtain ⟨code, a, c, F⟩ := F
  obtain ⟨k, seed, R, S, hF, h2, h3, h4⟩ := h
  dsimp only at R S hF
  have hl := S.byte.1
  unfold maxLen at hl
  have hlt := S.lt (by decide)
  by_cases hk : k < code.length
  · obtain ⟨⟨hz0, hz1⟩, b, off, hv, hbF, hcell⟩ := S.byte.2 k hk
    simp only [Value.slice.injEq] at hv
    obtain ⟨rfl, -, -⟩ := hv
    generalize code[k] = z at *
    have hbg : b ≠ g := fun e => hF (e ▸ hbF)
    have hcl := fun w' (hb : Below w.heap.size w w') => kc hb hcell
    replace hcl := Lib.hid hcl
    clear hcell
    have hB := Below.refl w.heap.size w
    go_enter Tryd.func196, Tryd.ntmps196
    go_wp2_with fail
    refine AnyX.start (S := (fun w' => w'.cell? ⟨g, 0, none⟩ = some (.slice (some ⟨b, off, none⟩) code.length c) ∧ w'.cell? ⟨g, 1, none⟩ = some (.int .i64 k) ∧ w'.cell? ⟨g, 2, none⟩ = some (.int .u64 seed) ∧ w'.cell? ⟨b, off + k, none⟩ = some (.int .u8 z))) (X := (fun _ => false)) (by kernel_rfl) ?_
    have al : Below w.heap.size w w.drew := belowDrewN (Below.refl _ _) 1
    have hs_w1 := al.size
    replace R := R.below al
    replace S := S.below (by decide) al
    replace hB := tr hB al (Nat.le_refl _)
    generalize w.drew = w1 at *
    clear al
    have hS : (fun w' => w'.cell? ⟨g, 0, none⟩ = some (.slice (some ⟨b, off, none⟩) code.length c) ∧ w'.cell? ⟨g, 1, none⟩ = some (.int .i64 k) ∧ w'.cell? ⟨g, 2, none⟩ = some (.int .u64 seed) ∧ w'.cell? ⟨b, off + k, none⟩ = some (.int .u8 z)) w1 := ⟨R.cells 0, R.cells 1, R.cells 2, hcl.out _ hB⟩
    refine AnyX.take (i := 0) (oi := _) (v := ?_) (by rw [List.getElem?_toArray]; rfl) (by kernel_rfl) (by kernel_rfl) (by kernel_rfl) (by kernel_rfl) (by kernel_rfl) (by exact fun _ _ _ h => h) (Or.inl ⟨by rfl, ?_⟩) hS ?_
    rotate_left
    · (intro wS hSw; (try dsimp only at hSw); go_simp; try with_reducible rfl)
    try simp only [Act.put, List.setIfInBounds_toArray, List.set_cons_zero, List.set_cons_succ]
    refine AnyX.take (i := 1) (oi := _) (v := ?_) (by rw [List.getElem?_toArray]; rfl) (by kernel_rfl) (by kernel_rfl) (by kernel_rfl) (by kernel_rfl) (by kernel_rfl) (by exact fun _ _ _ h => h) (Or.inl ⟨by rfl, ?_⟩) hS ?_
    rotate_left
    · (intro wS hSw; (try dsimp only at hSw); go_simp; try with_reducible rfl)
    try simp only [Act.put, List.setIfInBounds_toArray, List.set_cons_zero, List.set_cons_succ]
    refine AnyX.take (i := 2) (oi := _) (v := ?_) (by rw [List.getElem?_toArray]; rfl) (by kernel_rfl) (by kernel_rfl) (by kernel_rfl) (by kernel_rfl) (by kernel_rfl) (by exact fun _ _ _ h => h) (Or.inl ⟨by rfl, ?_⟩) hS ?_
    rotate_left
    · (intro wS hSw; (try dsimp only at hSw); go_simp; try with_reducible rfl)
    try simp only [Act.put, List.setIfInBounds_toArray, List.set_cons_zero, List.set_cons_succ]
    refine AnyX.take (i := 3) (oi := _) (v := ?_) (by rw [List.getElem?_toArray]; rfl) (by kernel_rfl) (by kernel_rfl) (by kernel_rfl) (by kernel_rfl) (by kernel_rfl) (by exact fun _ _ _ h => h) (Or.inl ⟨by rfl, ?_⟩) hS ?_
    rotate_left
    · (intro wS hSw; (try dsimp only at hSw); go_simp; try with_reducible rfl)
    try simp only [Act.put, List.setIfInBounds_toArray, List.set_cons_zero, List.set_cons_succ]
    refine AnyX.take (i := 4) (oi := _) (v := ?_) (by rw [List.getElem?_toArray]; rfl) (by kernel_rfl) (by kernel_rfl) (by kernel_rfl) (by kernel_rfl) (by kernel_rfl) (by exact fun _ _ _ h => h) (Or.inl ⟨by rfl, ?_⟩) hS ?_
    rotate_left
    · (intro wS hSw; (try dsimp only at hSw); go_simp; try with_reducible rfl)
    try simp only [Act.put, List.setIfInBounds_toArray, List.set_cons_zero, List.set_cons_succ]
    refine AnyX.take (i := 5) (oi := _) (v := ?_) (by rw [List.getElem?_toArray]; rfl) (by kernel_rfl) (by kernel_rfl) (by kernel_rfl) (by kernel_rfl) (by kernel_rfl) (by exact fun _ _ _ h => h) (Or.inl ⟨by rfl, ?_⟩) hS ?_
    rotate_left
    · (intro wS hSw; (try dsimp only at hSw); go_simp; try with_reducible rfl)
    try simp only [Act.put, List.setIfInBounds_toArray, List.set_cons_zero, List.set_cons_succ]
    refine AnyX.take (i := 6) (oi := _) (v := ?_) (by rw [List.getElem?_toArray]; rfl) (by kernel_rfl) (by kernel_rfl) (by kernel_rfl) (by kernel_rfl) (by kernel_rfl) (by exact fun _ _ _ h => h) (Or.inl ⟨by rfl, ?_⟩) hS ?_
    rotate_left
    · (intro wS hSw; (try dsimp only at hSw); go_simp; try with_reducible rfl)
    try simp only [Act.put, List.setIfInBounds_toArray, List.set_cons_zero, List.set_cons_succ]
    refine AnyX.take (i := 7) (oi := _) (v := ?_) (by rw [List.getElem?_toArray]; rfl) (by kernel_rfl) (by kernel_rfl) (by kernel_rfl) (by kernel_rfl) (by kernel_rfl) (by exact fun _ _ _ h => h) (Or.inl ⟨by rfl, ?_⟩) hS ?_
    rotate_left
    · (intro wS hSw; (try dsimp only at hSw); go_simp; try with_reducible rfl)
    try simp only [Act.put, List.setIfInBounds_toArray, List.set_cons_zero, List.set_cons_succ]
    refine AnyX.take (i := 8) (oi := _) (v := ?_) (by rw [List.getElem?_toArray]; rfl) (by kernel_rfl) (by kernel_rfl) (by kernel_rfl) (by kernel_rfl) (by kernel_rfl) (by exact fun _ _ _ h => h) (Or.inl ⟨by rfl, ?_⟩) hS ?_
    rotate_left
    · (intro wS hSw; (try dsimp only at hSw); go_simp; try with_reducible rfl)
    try simp only [Act.put, List.setIfInBounds_toArray, List.set_cons_zero, List.set_cons_succ]
    refine AnyX.take (i := 9) (oi := _) (v := ?_) (by rw [List.getElem?_toArray]; rfl) (by kernel_rfl) (by kernel_rfl) (by kernel_rfl) (by kernel_rfl) (by kernel_rfl) (by exact fun _ _ _ h => h) (Or.inl ⟨by rfl, ?_⟩) hS ?_
    rotate_left
    · (intro wS hSw; (try dsimp only at hSw); go_simp; try with_reducible rfl)
    try simp only [Act.put, List.setIfInBounds_toArray, List.set_cons_zero, List.set_cons_succ]
    refine AnyX.done (by kernel_rfl) ?_ _
    (try clear hS)
    have c_R := R.cells; have f_R := R.frozens
    go_wp2_with fail
    clear c_R f_R
    rename_i K0 hK0
    refine AnyX.start (S := (fun w' => w'.cell? ⟨g, 0, none⟩ = some (.slice (some ⟨b, off, none⟩) code.length c) ∧ w'.cell? ⟨g, 1, none⟩ = some (.int .i64 k) ∧ w'.cell? ⟨g, 2, none⟩ = some (.int .u64 seed) ∧ w'.cell? ⟨b, off + k, none⟩ = some (.int .u8 z))) (X := (fun _ => false)) (by kernel_rfl) ?_
    have al : Below w1.heap.size w1 w1.drew := belowDrewN (Below.refl _ _) 1
    have hs_w2 := al.size
    replace R := R.below al
    replace S := S.below (by decide) al
    replace hB := tr hB al (Nat.le_refl _)
    generalize w1.drew = w2 at *
    clear al
    have hS : (fun w' => w'.cell? ⟨g, 0, none⟩ = some (.slice (some ⟨b, off, none⟩) code.length c) ∧ w'.cell? ⟨g, 1, none⟩ = some (.int .i64 k) ∧ w'.cell? ⟨g, 2, none⟩ = some (.int .u64 seed) ∧ w'.cell? ⟨b, off + k, none⟩ = some (.int .u8 z)) w2 := ⟨R.cells 0, R.cells 1, R.cells 2, hcl.out _ hB⟩
    refine AnyX.take (i := 0) (oi := _) (v := ?_) (by rw [List.getElem?_toArray]; rfl) (by kernel_rfl) (by kernel_rfl) (by kernel_rfl) (by kernel_rfl) (by kernel_rfl) (by exact fun _ _ _ h => h) (Or.inl ⟨by rfl, ?_⟩) hS ?_
    rotate_left
    · (intro wS hSw; (try dsimp only at hSw); go_simp; try with_reducible rfl)
    try simp only [Act.put, List.setIfInBounds_toArray, List.set_cons_zero, List.set_cons_succ]
    refine AnyX.take (i := 1) (oi := _) (v := ?_) (by rw [List.getElem?_toArray]; rfl) (by kernel_rfl) (by kernel_rfl) (by kernel_rfl) (by kernel_rfl) (by kernel_rfl) (by exact fun _ _ _ h => h) (Or.inl ⟨by rfl, ?_⟩) hS ?_
    rotate_left
    · (intro wS hSw; (try dsimp only at hSw); go_simp; try with_reducible rfl)
    try simp only [Act.put, List.setIfInBounds_toArray, List.set_cons_zero, List.set_cons_succ]
    refine AnyX.take (i := 2) (oi := _) (v := ?_) (by rw [List.getElem?_toArray]; rfl) (by kernel_rfl) (by kernel_rfl) (by kernel_rfl) (by kernel_rfl) (by kernel_rfl) (by exact fun _ _ _ h => h) (Or.inl ⟨by rfl, ?_⟩) hS ?_
    rotate_left
    · (intro wS hSw; (try dsimp only at hSw); go_simp; try with_reducible rfl)
    try simp only [Act.put, List.setIfInBounds_toArray, List.set_cons_zero, List.set_cons_succ]
    refine AnyX.take (i := 3) (oi := _) (v := ?_) (by rw [List.getElem?_toArray]; rfl) (by kernel_rfl) (by kernel_rfl) (by kernel_rfl) (by kernel_rfl) (by kernel_rfl) (by exact fun _ _ _ h => h) (Or.inl ⟨by rfl, ?_⟩) hS ?_
    rotate_left
    · (intro wS hSw; (try dsimp only at hSw); go_simp; try with_reducible rfl)
    try simp only [Act.put, List.setIfInBounds_toArray, List.set_cons_zero, List.set_cons_succ]
    refine AnyX.take (i := 4) (oi := _) (v := ?_) (by rw [List.getElem?_toArray]; rfl) (by kernel_rfl) (by kernel_rfl) (by kernel_rfl) (by kernel_rfl) (by kernel_rfl) (by exact fun _ _ _ h => h) (Or.inl ⟨by rfl, ?_⟩) hS ?_
    rotate_left
    · (intro wS hSw; (try dsimp only at hSw); go_simp; try with_reducible rfl)
    try simp only [Act.put, List.setIfInBounds_toArray, List.set_cons_zero, List.set_cons_succ]
    refine AnyX.take (i := 5) (oi := _) (v := ?_) (by rw [List.getElem?_toArray]; rfl) (by kernel_rfl) (by kernel_rfl) (by kernel_rfl) (by kernel_rfl) (by kernel_rfl) (by exact fun _ _ _ h => h) (Or.inl ⟨by rfl, ?_⟩) hS ?_
    rotate_left
    · (intro wS hSw; (try dsimp only at hSw); go_simp; try with_reducible rfl)
    try simp only [Act.put, List.setIfInBounds_toArray, List.set_cons_zero, List.set_cons_succ]
    refine AnyX.take (i := 6) (oi := _) (v := ?_) (by rw [List.getElem?_toArray]; rfl) (by kernel_rfl) (by kernel_rfl) (by kernel_rfl) (by kernel_rfl) (by kernel_rfl) (by exact fun _ _ _ h => h) (Or.inl ⟨by rfl, ?_⟩) hS ?_
    rotate_left
    · (intro wS hSw; (try dsimp only at hSw); go_simp; try with_reducible rfl)
    try simp only [Act.put, List.setIfInBounds_toArray, List.set_cons_zero, List.set_cons_succ]
    refine AnyX.take (i := 7) (oi := _) (v := ?_) (by rw [List.getElem?_toArray]; rfl) (by kernel_rfl) (by kernel_rfl) (by kernel_rfl) (by kernel_rfl) (by kernel_rfl) (by exact fun _ _ _ h => h) (Or.inl ⟨by rfl, ?_⟩) hS ?_
    rotate_left
    · (intro wS hSw; (try dsimp only at hSw); go_simp; try with_reducible rfl)
    try simp only [Act.put, List.setIfInBounds_toArray, List.set_cons_zero, List.set_cons_succ]
    refine AnyX.take (i := 8) (oi := _) (v := ?_) (by rw [List.getElem?_toArray]; rfl) (by kernel_rfl) (by kernel_rfl) (by kernel_rfl) (by kernel_rfl) (by kernel_rfl) (by exact fun _ _ _ h => h) (Or.inl ⟨by rfl, ?_⟩) hS ?_
    rotate_left
    · (intro wS hSw; (try dsimp only at hSw); go_simp; try with_reducible rfl)
    try simp only [Act.put, List.setIfInBounds_toArray, List.set_cons_zero, List.set_cons_succ]
    refine AnyX.take (i := 9) (oi := _) (v := ?_) (by rw [List.getElem?_toArray]; rfl) (by kernel_rfl) (by kernel_rfl) (by kernel_rfl) (by kernel_rfl) (by kernel_rfl) (by exact fun _ _ _ h => h) (Or.inl ⟨by rfl, ?_⟩) hS ?_
    rotate_left
    · (intro wS hSw; (try dsimp only at hSw); go_simp; try with_reducible rfl)
    try simp only [Act.put, List.setIfInBounds_toArray, List.set_cons_zero, List.set_cons_succ]
    refine AnyX.take (i := 10) (oi := _) (v := ?_) (by rw [List.getElem?_toArray]; rfl) (by kernel_rfl) (by kernel_rfl) (by kernel_rfl) (by kernel_rfl) (by kernel_rfl) (by exact fun _ _ _ h => h) (Or.inl ⟨by rfl, ?_⟩) hS ?_
    rotate_left
    · (intro wS hSw; (try dsimp only at hSw); go_simp; try with_reducible rfl)
    try simp only [Act.put, List.setIfInBounds_toArray, List.set_cons_zero, List.set_cons_succ]
    refine AnyX.only (i := 11) (o := _) (by kernel_rfl) (by rw [List.getElem?_toArray]; rfl) (fun K hK => ?_)
    try go_simp
    clear hS
    have hS : (fun w' => w'.cell? ⟨g, 0, none⟩ = some (.slice (some ⟨b, off, none⟩) code.length c) ∧ w'.cell? ⟨g, 1, none⟩ = some (.int .i64 k) ∧ w'.cell? ⟨g, 2, none⟩ = some (.int .u64 seed) ∧ w'.cell? ⟨b, off + k, none⟩ = some (.int .u8 z)) w2 := ⟨R.cells 0, R.cells 1, R.cells 2, hcl.out _ hB⟩
    refine hK.out _ _ (fun _ => hS) ?_
    clear hK K
    try simp only [Act.put, List.setIfInBounds_toArray, List.set_cons_zero, List.set_cons_succ]
    refine AnyX.done (by kernel_rfl) ?_ _
    (try clear hS)
    refine hK0 _ _ ?_
    clear hK0 K0
    have c_R := R.cells; have f_R := R.frozens
    go_wp2_with fail
    clear c_R f_R
    have n_K : Keep [g] w ((w2.setCell ⟨g, 1, none⟩ (.int .i64 ((k : Int) + 1))).setCell ⟨g, 2, none⟩ (.int .u64 (IntKind.u64.wrap (IntKind.u64.wrap (IntKind.u64.wrap (seed * 6364136223846793005) + z) + 840840)))) := ((Keep.ofBelow hB).setCell (p := ⟨g, 1, none⟩) (by simp) _).setCell (p := ⟨g, 2, none⟩) (by simp) _
    have n_R : Row ((w2.setCell ⟨g, 1, none⟩ (.int .i64 ((k : Int) + 1))).setCell ⟨g, 2, none⟩ (.int .u64 (IntKind.u64.wrap (IntKind.u64.wrap (IntKind.u64.wrap (seed * 6364136223846793005) + z) + 840840)))) g 121 [.slice (some ⟨b, off, none⟩) code.length c, .int .i64 ((k + 1 : Nat) : Int), .int .u64 (IntKind.u64.wrap (IntKind.u64.wrap (IntKind.u64.wrap (seed * 6364136223846793005) + z) + 840840))] := by simpa using ((R.set 1 (.int .i64 ((k : Int) + 1))).set 2 (.int .u64 (IntKind.u64.wrap (IntKind.u64.wrap (IntKind.u64.wrap (seed * 6364136223846793005) + z) + 840840))))
    have n_S : Sl EByte ((w2.setCell ⟨g, 1, none⟩ (.int .i64 ((k : Int) + 1))).setCell ⟨g, 2, none⟩ (.int .u64 (IntKind.u64.wrap (IntKind.u64.wrap (IntKind.u64.wrap (seed * 6364136223846793005) + z) + 840840)))) (Value.slice (some ⟨b, off, none⟩) code.length c) code F := S.frame (fun b hb => by have : b ≠ g := fun e => hF (e ▸ hb); repeat rw [Below.heap_setCell _ _ _ _ (by simp <;> omega)])
    have hs0 : 0 ≤ (IntKind.u64.wrap (IntKind.u64.wrap (IntKind.u64.wrap (seed * 6364136223846793005) + z) + 840840)) ∧ (IntKind.u64.wrap (IntKind.u64.wrap (IntKind.u64.wrap (seed * 6364136223846793005) + z) + 840840)) < 18446744073709551616 := by rw [IntKind.wrap_u64]; omega
    clear R S hB
    generalize (IntKind.u64.wrap (IntKind.u64.wrap (IntKind.u64.wrap (seed * 6364136223846793005) + z) + 840840)) = sd at *
    obtain ⟨hs0, hs1⟩ := hs0
    generalize ((w2.setCell ⟨g, 1, none⟩ (.int .i64 ((k : Int) + 1))).setCell ⟨g, 2, none⟩ (.int .u64 sd)) = w3 at *
    have R := n_R; clear n_R
    have S := n_S; clear n_S
    rename_i K0 hK0
    refine AnyX.start (S := (fun w' => w'.cell? ⟨g, 0, none⟩ = some (.slice (some ⟨b, off, none⟩) code.length c) ∧ w'.cell? ⟨g, 1, none⟩ = some (.int .i64 ((k + 1 : Nat) : Int)) ∧ w'.cell? ⟨g, 2, none⟩ = some (.int .u64 sd))) (X := (fun _ => false)) (by kernel_rfl) ?_
    have al : Below w3.heap.size w3 w3.drew := belowDrewN (Below.refl _ _) 1
    have hs_w4 := al.size
    replace R := R.below al
    replace S := S.below (by decide) al
    have hB := al
    generalize w3.drew = w4 at *
    clear al
    have hS : (fun w' => w'.cell? ⟨g, 0, none⟩ = some (.slice (some ⟨b, off, none⟩) code.length c) ∧ w'.cell? ⟨g, 1, none⟩ = some (.int .i64 ((k + 1 : Nat) : Int)) ∧ w'.cell? ⟨g, 2, none⟩ = some (.int .u64 sd)) w4 := ⟨R.cells 0, R.cells 1, R.cells 2⟩
    refine AnyX.take (i := 0) (oi := _) (v := ?_) (by rw [List.getElem?_toArray]; rfl) (by kernel_rfl) (by kernel_rfl) (by kernel_rfl) (by kernel_rfl) (by kernel_rfl) (by exact fun _ _ _ h => h) (Or.inl ⟨by rfl, ?_⟩) hS ?_
    rotate_left
    · (intro wS hSw; (try dsimp only at hSw); go_simp; try with_reducible rfl)
    try simp only [Act.put, List.setIfInBounds_toArray, List.set_cons_zero, List.set_cons_succ]
    refine AnyX.take (i := 1) (oi := _) (v := ?_) (by rw [List.getElem?_toArray]; rfl) (by kernel_rfl) (by kernel_rfl) (by kernel_rfl) (by kernel_rfl) (by kernel_rfl) (by exact fun _ _ _ h => h) (Or.inl ⟨by rfl, ?_⟩) hS ?_
    rotate_left
    · (intro wS hSw; (try dsimp only at hSw); go_simp; try with_reducible rfl)
    try simp only [Act.put, List.setIfInBounds_toArray, List.set_cons_zero, List.set_cons_succ]
    refine AnyX.take (i := 2) (oi := _) (v := ?_) (by rw [List.getElem?_toArray]; rfl) (by kernel_rfl) (by kernel_rfl) (by kernel_rfl) (by kernel_rfl) (by kernel_rfl) (by exact fun _ _ _ h => h) (Or.inl ⟨by rfl, ?_⟩) hS ?_
    rotate_left
    · (intro wS hSw; (try dsimp only at hSw); go_simp; try with_reducible rfl)
    try simp only [Act.put, List.setIfInBounds_toArray, List.set_cons_zero, List.set_cons_succ]
    refine AnyX.take (i := 3) (oi := _) (v := ?_) (by rw [List.getElem?_toArray]; rfl) (by kernel_rfl) (by kernel_rfl) (by kernel_rfl) (by kernel_rfl) (by kernel_rfl) (by exact fun _ _ _ h => h) (Or.inl ⟨by rfl, ?_⟩) hS ?_
    rotate_left
    · (intro wS hSw; (try dsimp only at hSw); go_simp; try with_reducible rfl)
    try simp only [Act.put, List.setIfInBounds_toArray, List.set_cons_zero, List.set_cons_succ]
    refine AnyX.take (i := 4) (oi := _) (v := ?_) (by rw [List.getElem?_toArray]; rfl) (by kernel_rfl) (by kernel_rfl) (by kernel_rfl) (by kernel_rfl) (by kernel_rfl) (by exact fun _ _ _ h => h) (Or.inl ⟨by rfl, ?_⟩) hS ?_
    rotate_left
    · (intro wS hSw; (try dsimp only at hSw); go_simp; try with_reducible rfl)
    try simp only [Act.put, List.setIfInBounds_toArray, List.set_cons_zero, List.set_cons_succ]
    refine AnyX.take (i := 5) (oi := _) (v := ?_) (by rw [List.getElem?_toArray]; rfl) (by kernel_rfl) (by kernel_rfl) (by kernel_rfl) (by kernel_rfl) (by kernel_rfl) (by exact fun _ _ _ h => h) (Or.inl ⟨by rfl, ?_⟩) hS ?_
    rotate_left
    · (intro wS hSw; (try dsimp only at hSw); go_simp; try with_reducible rfl)
    try simp only [Act.put, List.setIfInBounds_toArray, List.set_cons_zero, List.set_cons_succ]
    refine AnyX.take (i := 6) (oi := _) (v := ?_) (by rw [List.getElem?_toArray]; rfl) (by kernel_rfl) (by kernel_rfl) (by kernel_rfl) (by kernel_rfl) (by kernel_rfl) (by exact fun _ _ _ h => h) (Or.inl ⟨by rfl, ?_⟩) hS ?_
    rotate_left
    · (intro wS hSw; (try dsimp only at hSw); go_simp; try with_reducible rfl)
    try simp only [Act.put, List.setIfInBounds_toArray, List.set_cons_zero, List.set_cons_succ]
    refine AnyX.take (i := 7) (oi := _) (v := ?_) (by rw [List.getElem?_toArray]; rfl) (by kernel_rfl) (by kernel_rfl) (by kernel_rfl) (by kernel_rfl) (by kernel_rfl) (by exact fun _ _ _ h => h) (Or.inl ⟨by rfl, ?_⟩) hS ?_
    rotate_left
    · (intro wS hSw; (try dsimp only at hSw); go_simp; try with_reducible rfl)
    try simp only [Act.put, List.setIfInBounds_toArray, List.set_cons_zero, List.set_cons_succ]
    refine AnyX.take (i := 8) (oi := _) (v := ?_) (by rw [List.getElem?_toArray]; rfl) (by kernel_rfl) (by kernel_rfl) (by kernel_rfl) (by kernel_rfl) (by kernel_rfl) (by exact fun _ _ _ h => h) (Or.inl ⟨by rfl, ?_⟩) hS ?_
    rotate_left
    · (intro wS hSw; (try dsimp only at hSw); go_simp; try with_reducible rfl)
    try simp only [Act.put, List.setIfInBounds_toArray, List.set_cons_zero, List.set_cons_succ]
    refine AnyX.take (i := 9) (oi := _) (v := ?_) (by rw [List.getElem?_toArray]; rfl) (by kernel_rfl) (by kernel_rfl) (by kernel_rfl) (by kernel_rfl) (by kernel_rfl) (by exact fun _ _ _ h => h) (Or.inl ⟨by rfl, ?_⟩) hS ?_
    rotate_left
    · (intro wS hSw; (try dsimp only at hSw); go_simp; try with_reducible rfl)
    try simp only [Act.put, List.setIfInBounds_toArray, List.set_cons_zero, List.set_cons_succ]
    refine AnyX.done (by kernel_rfl) ?_ _
    (try clear hS)
    refine hK0 _ _ ?_
    clear hK0 K0
    have n_K2 := n_K.trans (Keep.ofBelow hB)
    have c_R := R.cells; have f_R := R.frozens
    go_wp2_with fail
    refine bodyPost_ret (v := .int .i64 (IntKind.i64.wrap z)) ?_ rfl ?_
    · simp [results, Tryd.results196, go_sem]
    · refine ⟨z.toNat, ?_, by omega, ⟨k + 1, sd, R, S, hF, by omega, hs0, hs1⟩, n_K2⟩
      rw [show IntKind.i64.wrap z = ((z.toNat : Nat) : Int) from by rw [IntKind.wrap_i64]; omega]
  · have hB := Below.refl w.heap.size w
    go_enter Tryd.func196, Tryd.ntmps196
    go_wp2_with fail
    refine AnyX.start (S := (fun w' => w'.cell? ⟨g, 0, none⟩ = some (.slice a code.length c) ∧ w'.cell? ⟨g, 1, none⟩ = some (.int .i64 k) ∧ w'.cell? ⟨g, 2, none⟩ = some (.int .u64 seed))) (X := (fun _ => false)) (by kernel_rfl) ?_
    have al : Below w.heap.size w w.drew := belowDrewN (Below.refl _ _) 1
    have hs_w5 := al.size
    replace R := R.below al
    replace S := S.below (by decide) al
    replace hB := tr hB al (Nat.le_refl _)
    generalize w.drew = w5 at *
    clear al
    have hS : (fun w' => w'.cell? ⟨g, 0, none⟩ = some (.slice a code.length c) ∧ w'.cell? ⟨g, 1, none⟩ = some (.int .i64 k) ∧ w'.cell? ⟨g, 2, none⟩ = some (.int .u64 seed)) w5 := ⟨R.cells 0, R.cells 1, R.cells 2⟩
    refine AnyX.take (i := 0) (oi := _) (v := ?_) (by rw [List.getElem?_toArray]; rfl) (by kernel_rfl) (by kernel_rfl) (by kernel_rfl) (by kernel_rfl) (by kernel_rfl) (by exact fun _ _ _ h => h) (Or.inl ⟨by rfl, ?_⟩) hS ?_
    rotate_left
    · (intro wS hSw; (try dsimp only at hSw); go_simp; try with_reducible rfl)
    try simp only [Act.put, List.setIfInBounds_toArray, List.set_cons_zero, List.set_cons_succ]
    refine AnyX.take (i := 1) (oi := _) (v := ?_) (by rw [List.getElem?_toArray]; rfl) (by kernel_rfl) (by kernel_rfl) (by kernel_rfl) (by kernel_rfl) (by kernel_rfl) (by exact fun _ _ _ h => h) (Or.inl ⟨by rfl, ?_⟩) hS ?_
    rotate_left
    · (intro wS hSw; (try dsimp only at hSw); go_simp; try with_reducible rfl)
    try simp only [Act.put, List.setIfInBounds_toArray, List.set_cons_zero, List.set_cons_succ]
    refine AnyX.take (i := 2) (oi := _) (v := ?_) (by rw [List.getElem?_toArray]; rfl) (by kernel_rfl) (by kernel_rfl) (by kernel_rfl) (by kernel_rfl) (by kernel_rfl) (by exact fun _ _ _ h => h) (Or.inl ⟨by rfl, ?_⟩) hS ?_
    rotate_left
    · (intro wS hSw; (try dsimp only at hSw); go_simp; try with_reducible rfl)
    try simp only [Act.put, List.setIfInBounds_toArray, List.set_cons_zero, List.set_cons_succ]
    refine AnyX.take (i := 3) (oi := _) (v := ?_) (by rw [List.getElem?_toArray]; rfl) (by kernel_rfl) (by kernel_rfl) (by kernel_rfl) (by kernel_rfl) (by kernel_rfl) (by exact fun _ _ _ h => h) (Or.inl ⟨by rfl, ?_⟩) hS ?_
    rotate_left
    · (intro wS hSw; (try dsimp only at hSw); go_simp; try with_reducible rfl)
    try simp only [Act.put, List.setIfInBounds_toArray, List.set_cons_zero, List.set_cons_succ]
    refine AnyX.take (i := 4) (oi := _) (v := ?_) (by rw [List.getElem?_toArray]; rfl) (by kernel_rfl) (by kernel_rfl) (by kernel_rfl) (by kernel_rfl) (by kernel_rfl) (by exact fun _ _ _ h => h) (Or.inl ⟨by rfl, ?_⟩) hS ?_
    rotate_left
    · (intro wS hSw; (try dsimp only at hSw); go_simp; try with_reducible rfl)
    try simp only [Act.put, List.setIfInBounds_toArray, List.set_cons_zero, List.set_cons_succ]
    refine AnyX.take (i := 5) (oi := _) (v := ?_) (by rw [List.getElem?_toArray]; rfl) (by kernel_rfl) (by kernel_rfl) (by kernel_rfl) (by kernel_rfl) (by kernel_rfl) (by exact fun _ _ _ h => h) (Or.inl ⟨by rfl, ?_⟩) hS ?_
    rotate_left
    · (intro wS hSw; (try dsimp only at hSw); go_simp; try with_reducible rfl)
    try simp only [Act.put, List.setIfInBounds_toArray, List.set_cons_zero, List.set_cons_succ]
    refine AnyX.take (i := 6) (oi := _) (v := ?_) (by rw [List.getElem?_toArray]; rfl) (by kernel_rfl) (by kernel_rfl) (by kernel_rfl) (by kernel_rfl) (by kernel_rfl) (by exact fun _ _ _ h => h) (Or.inl ⟨by rfl, ?_⟩) hS ?_
    rotate_left
    · (intro wS hSw; (try dsimp only at hSw); go_simp; try with_reducible rfl)
    try simp only [Act.put, List.setIfInBounds_toArray, List.set_cons_zero, List.set_cons_succ]
    refine AnyX.take (i := 7) (oi := _) (v := ?_) (by rw [List.getElem?_toArray]; rfl) (by kernel_rfl) (by kernel_rfl) (by kernel_rfl) (by kernel_rfl) (by kernel_rfl) (by exact fun _ _ _ h => h) (Or.inl ⟨by rfl, ?_⟩) hS ?_
    rotate_left
    · (intro wS hSw; (try dsimp only at hSw); go_simp; try with_reducible rfl)
    try simp only [Act.put, List.setIfInBounds_toArray, List.set_cons_zero, List.set_cons_succ]
    refine AnyX.take (i := 8) (oi := _) (v := ?_) (by rw [List.getElem?_toArray]; rfl) (by kernel_rfl) (by kernel_rfl) (by kernel_rfl) (by kernel_rfl) (by kernel_rfl) (by exact fun _ _ _ h => h) (Or.inl ⟨by rfl, ?_⟩) hS ?_
    rotate_left
    · (intro wS hSw; (try dsimp only at hSw); go_simp; try with_reducible rfl)
    try simp only [Act.put, List.setIfInBounds_toArray, List.set_cons_zero, List.set_cons_succ]
    refine AnyX.take (i := 9) (oi := _) (v := ?_) (by rw [List.getElem?_toArray]; rfl) (by kernel_rfl) (by kernel_rfl) (by kernel_rfl) (by kernel_rfl) (by kernel_rfl) (by exact fun _ _ _ h => h) (Or.inl ⟨by rfl, ?_⟩) hS ?_
    rotate_left
    · (intro wS hSw; (try dsimp only at hSw); go_simp; try with_reducible rfl)
    try simp only [Act.put, List.setIfInBounds_toArray, List.set_cons_zero, List.set_cons_succ]
    refine AnyX.done (by kernel_rfl) ?_ _
    (try clear hS)
    have c_R := R.cells; have f_R := R.frozens
    go_wp2_with fail
    clear c_R f_R
    have n_K : Keep [g] w ((w5.setCell ⟨g, 1, none⟩ (.int .i64 ((k : Int) + 1))).setCell ⟨g, 2, none⟩ (.int .u64 (IntKind.u64.wrap (IntKind.u64.wrap (IntKind.u64.wrap (seed * 6364136223846793005)) + 840840)))) := ((Keep.ofBelow hB).setCell (p := ⟨g, 1, none⟩) (by simp) _).setCell (p := ⟨g, 2, none⟩) (by simp) _
    have n_R : Row ((w5.setCell ⟨g, 1, none⟩ (.int .i64 ((k : Int) + 1))).setCell ⟨g, 2, none⟩ (.int .u64 (IntKind.u64.wrap (IntKind.u64.wrap (IntKind.u64.wrap (seed * 6364136223846793005)) + 840840)))) g 121 [.slice a code.length c, .int .i64 ((k + 1 : Nat) : Int), .int .u64 (IntKind.u64.wrap (IntKind.u64.wrap (IntKind.u64.wrap (seed * 6364136223846793005)) + 840840))] := by simpa using ((R.set 1 (.int .i64 ((k : Int) + 1))).set 2 (.int .u64 (IntKind.u64.wrap (IntKind.u64.wrap (IntKind.u64.wrap (seed * 6364136223846793005)) + 840840))))
    have n_S : Sl EByte ((w5.setCell ⟨g, 1, none⟩ (.int .i64 ((k : Int) + 1))).setCell ⟨g, 2, none⟩ (.int .u64 (IntKind.u64.wrap (IntKind.u64.wrap (IntKind.u64.wrap (seed * 6364136223846793005)) + 840840)))) (Value.slice a code.length c) code F := S.frame (fun b hb => by have : b ≠ g := fun e => hF (e ▸ hb); repeat rw [Below.heap_setCell _ _ _ _ (by simp <;> omega)])
    have hs0 : 0 ≤ (IntKind.u64.wrap (IntKind.u64.wrap (IntKind.u64.wrap (seed * 6364136223846793005)) + 840840)) ∧ (IntKind.u64.wrap (IntKind.u64.wrap (IntKind.u64.wrap (seed * 6364136223846793005)) + 840840)) < 18446744073709551616 := by rw [IntKind.wrap_u64]; omega
    clear R S hB
    generalize (IntKind.u64.wrap (IntKind.u64.wrap (IntKind.u64.wrap (seed * 6364136223846793005)) + 840840)) = sd at *
    obtain ⟨hs0, hs1⟩ := hs0
    generalize ((w5.setCell ⟨g, 1, none⟩ (.int .i64 ((k : Int) + 1))).setCell ⟨g, 2, none⟩ (.int .u64 sd)) = w6 at *
    have R := n_R; clear n_R
    have S := n_S; clear n_S
    rename_i K0 hK0
    refine AnyX.start (S := (fun w' => w'.cell? ⟨g, 0, none⟩ = some (.slice a code.length c) ∧ w'.cell? ⟨g, 1, none⟩ = some (.int .i64 ((k + 1 : Nat) : Int)) ∧ w'.cell? ⟨g, 2, none⟩ = some (.int .u64 sd))) (X := (fun _ => false)) (by kernel_rfl) ?_
    have al : Below w6.heap.size w6 w6.drew := belowDrewN (Below.refl _ _) 1
    have hs_w7 := al.size
    replace R := R.below al
    replace S := S.below (by decide) al
    have hB := al
    generalize w6.drew = w7 at *
    clear al
    have hS : (fun w' => w'.cell? ⟨g, 0, none⟩ = some (.slice a code.length c) ∧ w'.cell? ⟨g, 1, none⟩ = some (.int .i64 ((k + 1 : Nat) : Int)) ∧ w'.cell? ⟨g, 2, none⟩ = some (.int .u64 sd)) w7 := ⟨R.cells 0, R.cells 1, R.cells 2⟩
    refine AnyX.take (i := 0) (oi := _) (v := ?_) (by rw [List.getElem?_toArray]; rfl) (by kernel_rfl) (by kernel_rfl) (by kernel_rfl) (by kernel_rfl) (by kernel_rfl) (by exact fun _ _ _ h => h) (Or.inl ⟨by rfl, ?_⟩) hS ?_
    rotate_left
    · (intro wS hSw; (try dsimp only at hSw); go_simp; try with_reducible rfl)
    try simp only [Act.put, List.setIfInBounds_toArray, List.set_cons_zero, List.set_cons_succ]
    refine AnyX.take (i := 1) (oi := _) (v := ?_) (by rw [List.getElem?_toArray]; rfl) (by kernel_rfl) (by kernel_rfl) (by kernel_rfl) (by kernel_rfl) (by kernel_rfl) (by exact fun _ _ _ h => h) (Or.inl ⟨by rfl, ?_⟩) hS ?_
    rotate_left
    · (intro wS hSw; (try dsimp only at hSw); go_simp; try with_reducible rfl)
    try simp only [Act.put, List.setIfInBounds_toArray, List.set_cons_zero, List.set_cons_succ]
    refine AnyX.take (i := 2) (oi := _) (v := ?_) (by rw [List.getElem?_toArray]; rfl) (by kernel_rfl) (by kernel_rfl) (by kernel_rfl) (by kernel_rfl) (by kernel_rfl) (by exact fun _ _ _ h => h) (Or.inl ⟨by rfl, ?_⟩) hS ?_
    rotate_left
    · (intro wS hSw; (try dsimp only at hSw); go_simp; try with_reducible rfl)
    try simp only [Act.put, List.setIfInBounds_toArray, List.set_cons_zero, List.set_cons_succ]
    refine AnyX.take (i := 3) (oi := _) (v := ?_) (by rw [List.getElem?_toArray]; rfl) (by kernel_rfl) (by kernel_rfl) (by kernel_rfl) (by kernel_rfl) (by kernel_rfl) (by exact fun _ _ _ h => h) (Or.inl ⟨by rfl, ?_⟩) hS ?_
    rotate_left
    · (intro wS hSw; (try dsimp only at hSw); go_simp; try with_reducible rfl)
    try simp only [Act.put, List.setIfInBounds_toArray, List.set_cons_zero, List.set_cons_succ]
    refine AnyX.take (i := 4) (oi := _) (v := ?_) (by rw [List.getElem?_toArray]; rfl) (by kernel_rfl) (by kernel_rfl) (by kernel_rfl) (by kernel_rfl) (by kernel_rfl) (by exact fun _ _ _ h => h) (Or.inl ⟨by rfl, ?_⟩) hS ?_
    rotate_left
    · (intro wS hSw; (try dsimp only at hSw); go_simp; try with_reducible rfl)
    try simp only [Act.put, List.setIfInBounds_toArray, List.set_cons_zero, List.set_cons_succ]
    refine AnyX.take (i := 5) (oi := _) (v := ?_) (by rw [List.getElem?_toArray]; rfl) (by kernel_rfl) (by kernel_rfl) (by kernel_rfl) (by kernel_rfl) (by kernel_rfl) (by exact fun _ _ _ h => h) (Or.inl ⟨by rfl, ?_⟩) hS ?_
    rotate_left
    · (intro wS hSw; (try dsimp only at hSw); go_simp; try with_reducible rfl)
    try simp only [Act.put, List.setIfInBounds_toArray, List.set_cons_zero, List.set_cons_succ]
    refine AnyX.take (i := 6) (oi := _) (v := ?_) (by rw [List.getElem?_toArray]; rfl) (by kernel_rfl) (by kernel_rfl) (by kernel_rfl) (by kernel_rfl) (by kernel_rfl) (by exact fun _ _ _ h => h) (Or.inl ⟨by rfl, ?_⟩) hS ?_
    rotate_left
    · (intro wS hSw; (try dsimp only at hSw); go_simp; try with_reducible rfl)
    try simp only [Act.put, List.setIfInBounds_toArray, List.set_cons_zero, List.set_cons_succ]
    refine AnyX.take (i := 7) (oi := _) (v := ?_) (by rw [List.getElem?_toArray]; rfl) (by kernel_rfl) (by kernel_rfl) (by kernel_rfl) (by kernel_rfl) (by kernel_rfl) (by exact fun _ _ _ h => h) (Or.inl ⟨by rfl, ?_⟩) hS ?_
    rotate_left
    · (intro wS hSw; (try dsimp only at hSw); go_simp; try with_reducible rfl)
    try simp only [Act.put, List.setIfInBounds_toArray, List.set_cons_zero, List.set_cons_succ]
    refine AnyX.take (i := 8) (oi := _) (v := ?_) (by rw [List.getElem?_toArray]; rfl) (by kernel_rfl) (by kernel_rfl) (by kernel_rfl) (by kernel_rfl) (by kernel_rfl) (by exact fun _ _ _ h => h) (Or.inl ⟨by rfl, ?_⟩) hS ?_
    rotate_left
    · (intro wS hSw; (try dsimp only at hSw); go_simp; try with_reducible rfl)
    try simp only [Act.put, List.setIfInBounds_toArray, List.set_cons_zero, List.set_cons_succ]
    refine AnyX.take (i := 9) (oi := _) (v := ?_) (by rw [List.getElem?_toArray]; rfl) (by kernel_rfl) (by kernel_rfl) (by kernel_rfl) (by kernel_rfl) (by kernel_rfl) (by exact fun _ _ _ h => h) (Or.inl ⟨by rfl, ?_⟩) hS ?_
    rotate_left
    · (intro wS hSw; (try dsimp only at hSw); go_simp; try with_reducible rfl)
    try simp only [Act.put, List.setIfInBounds_toArray, List.set_cons_zero, List.set_cons_succ]
    refine AnyX.done (by kernel_rfl) ?_ _
    (try clear hS)
    refine hK0 _ _ ?_
    clear hK0 K0
    have n_K2 := n_K.trans (Keep.ofBelow hB)
    obtain ⟨q, hq, hq2⟩ : ∃ q : Nat, bits BinOp.and IntKind.u64 (sd / 1099511627776) 255 = (q : Int) ∧ q ≤ 255 := by
      refine ⟨(sd / 1099511627776).toNat &&& 255, ?_, Nat.and_le_right⟩
      rw [← bits_and_u64_nat _ _ (by omega) (by omega)]
      congr 1; omega
    have c_R := R.cells; have f_R := R.frozens
    go_wp2_with fail
    refine bodyPost_ret (v := .int .i64 (q : Int)) ?_ rfl ?_
    · simp [results, Tryd.results196, go_sem, hq]
    · exact ⟨q, rfl, hq2, ⟨k + 1, sd, R, S, hF, by omega, hs0, hs1⟩, n_K2⟩
def PPick (B g : Nat) (F : CuF) (n : Int) (w : World) (e : Ending) (w' : World) : Prop := ∃ r : Nat, e = .returned (.int .i64 r) ∧ (r = 0 ∨ (r : Int) < n) ∧ Cur (B + 2) w' g F ∧ Keep [g] w w'
set_option maxHeartbeats 1600000 in
set_option maxRecDepth 100000 in
theorem pick_c (B g : Nat) (F : CuF) (n : Int) (w : World) (h : Cur B w g F) (hB0 : B ≤ 1099511627774) (hn : n ≤ 1048576) :
    Calls Tryd.prog 152 #[.pointer (some ⟨g, 0, none⟩), .int .i64 n] w (PPick B g F n w) := by
  have hN1 := next_c B g F w h (by omega)
  have hN2 := fun w h => next_c (B + 1) g F w h (by omega)
  replace hN1 := Lib.hid hN1; replace hN2 := Lib.hid hN2
  by_cases h1 : n ≤ 1
  · go_enter Tryd.func152, Tryd.ntmps152
    go_wp2_with fail
    refine bodyPost_ret (v := .int .i64 0) ?_ rfl ⟨0, rfl, .inl rfl, h.mono (by omega), Keep.refl _ _⟩
    simp [results, Tryd.results152, go_sem]
  · by_cases h2 : n ≤ 200
    · go_enter Tryd.func152, Tryd.ntmps152
      go_wp2_with fail
      refine hN1.out.mono ?_
      rintro e w1 ⟨r, rfl, hr, hc, hk⟩
      have hm0 : 0 ≤ (r : Int) % n := Int.emod_nonneg _ (by omega)
      have hm1 : (r : Int) % n < n := Int.emod_lt_of_pos _ (by omega)
      go_wp2_with fail
      refine bodyPost_ret (v := .int .i64 ((r : Int) % n)) ?_ rfl ⟨((r : Int) % n).toNat, by rw [Int.toNat_of_nonneg hm0], .inr (by omega), hc.mono (by omega), hk⟩
      simp [results, Tryd.results152, go_sem]
    · go_enter Tryd.func152, Tryd.ntmps152
      go_wp2_with fail
      refine hN1.out.mono ?_
      rintro e w1 ⟨r, rfl, hr, hc, hk⟩
      go_wp2_with fail
      refine (hN2.out _ hc).mono ?_
      rintro e w2 ⟨r2, rfl, hr2, hc2, hk2⟩
      have hm0 : 0 ≤ ((r : Int) * 256 + r2) % n := Int.emod_nonneg _ (by omega)
      have hm1 : ((r : Int) * 256 + r2) % n < n := Int.emod_lt_of_pos _ (by omega)
      go_wp2_with fail
      refine bodyPost_ret (v := .int .i64 (((r : Int) * 256 + r2) % n)) ?_ rfl ⟨(((r : Int) * 256 + r2) % n).toNat, by rw [Int.toNat_of_nonneg hm0], .inr (by omega), hc2, hk.trans hk2⟩
      simp [results, Tryd.results152, go_sem]
def POne (B g : Nat) (F : CuF) (w : World) (e : Ending) (w' : World) : Prop := ∃ b : Bool, e = .returned (.bool b) ∧ Cur (B + 2) w' g F ∧ Keep [g] w w'
theorem one_c (B g : Nat) (F : CuF) (n : Int) (w : World) (h : Cur B w g F) (hB0 : B ≤ 1099511627774) (hn : n ≤ 1048576) :
    Calls Tryd.prog 115 #[.pointer (some ⟨g, 0, none⟩), .int .i64 n] w (POne B g F w) := by
  have hN1 := Lib.hid (pick_c B g F n w h hB0 hn)
  go_enter Tryd.func115, Tryd.ntmps115
  go_wp2_with fail
  refine hN1.out.mono ?_
  rintro e w1 ⟨r, rfl, hr, hc, hk⟩
  go_wp2_with fail
  refine bodyPost_ret (v := .bool ((r : Int) == 0)) ?_ rfl ⟨_, rfl, hc, hk⟩
  simp [results, Tryd.results115, go_sem]
def POf (B g : Nat) (F : CuF) (xs : List ByteArray) (w : World) (e : Ending) (w' : World) : Prop := ∃ s ∈ xs, e = .returned (.string s) ∧ Cur (B + 2) w' g F ∧ Keep [g] w w'
theorem of_c (B g : Nat) (F : CuF) (v : Value) (xs : List ByteArray) (K : List Nat) (w : World) (h : Cur B w g F) (hB0 : B ≤ 1099511627774) (hx : Sl EStr w v xs K) (h0 : 0 < xs.length) (h1 : xs.length ≤ 1048576) (hg : g ∉ K) :
    Calls Tryd.prog 94 #[.pointer (some ⟨g, 0, none⟩), v] w (POf B g F xs w) := by
  obtain ⟨a, c, rfl⟩ := hx.slice
  have hN1 := Lib.hid (pick_c B g F xs.length w h hB0 (by omega))
  go_enter Tryd.func94, Tryd.ntmps94
  go_wp2_with fail
  refine hN1.out.mono ?_
  rintro e w1 ⟨r, rfl, hr, hc, hk⟩
  have hr2 : r < xs.length := by omega
  obtain ⟨hsz, b, off, rfl, hcell⟩ := (hx.keep hk (fun b hb e => hg (by simp at e; rw [← e]; exact hb)) (by decide)).str.2.2 r hr2
  clear hr
  have hm := List.getElem_mem hr2
  generalize xs[r] = s at *
  go_wp2_with fail
  refine bodyPost_ret (v := .string s) ?_ rfl ⟨s, hm, rfl, hc, hk⟩
  simp [results, Tryd.results94, go_sem]
def PAmong (B g : Nat) (F : CuF) (xs : List Int) (w : World) (e : Ending) (w' : World) : Prop := ∃ s ∈ xs, e = .returned (.int .i64 s) ∧ Cur (B + 2) w' g F ∧ Keep [g] w w'
theorem among_c (B g : Nat) (F : CuF) (v : Value) (xs : List Int) (K : List Nat) (w : World) (h : Cur B w g F) (hB0 : B ≤ 1099511627774) (hx : Sl EInt w v xs K) (h0 : 0 < xs.length) (h1 : xs.length ≤ 1048576) (hg : g ∉ K) :
    Calls Tryd.prog 119 #[.pointer (some ⟨g, 0, none⟩), v] w (PAmong B g F xs w) := by
  obtain ⟨a, c, rfl⟩ := hx.slice
  have hN1 := Lib.hid (pick_c B g F xs.length w h hB0 (by omega))
  go_enter Tryd.func119, Tryd.ntmps119
  go_wp2_with fail
  refine hN1.out.mono ?_
  rintro e w1 ⟨r, rfl, hr, hc, hk⟩
  have hr2 : r < xs.length := by omega
  obtain ⟨b, off, rfl, hcell⟩ := (hx.keep hk (fun b hb e => hg (by simp at e; rw [← e]; exact hb)) (by decide)).int.2.2 r hr2
  clear hr
  have hm := List.getElem_mem hr2
  generalize xs[r] = s at *
  go_wp2_with fail
  refine bodyPost_ret (v := .int .i64 s) ?_ rfl ⟨s, hm, rfl, hc, hk⟩
  simp [results, Tryd.results119, go_sem]
end Go.Proofs.YtidephmobajikaaDoor
