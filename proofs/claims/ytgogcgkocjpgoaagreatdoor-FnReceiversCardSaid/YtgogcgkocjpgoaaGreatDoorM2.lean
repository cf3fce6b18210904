/- Part 2 of the proof: 44 texts, one behind the other. -/
import Derived.Laws.IdiomStrings
import Derived.Laws.Bits64b
import Derived.Test.YtgogcgkocjpgoaaGreatDoorShelf
import Derived.Lib.Overlaps
import Derived.Lib.AppendZerosOnto
import Derived.Laws.IdiomCopy
import Derived.Test.YtgogcgkocjpgoaaGreatDoorM1
/- '[]byte' of a string, a byte stored, and back. -/
namespace Go.Proofs.YtgogcgkocjpgoaaGreatDoor
open Go.RowKit
/-- a byte aS data -/
def EByte : Elem Int where
  sz := 1
  rep _ cs z F := cs = [.int .u8 z] ∧ 0 ≤ z ∧ z ≤ 255 ∧ F = []
  len h := by simp [h.1]
  lt h := by simp [h.2.2.2]
  frame h _ := h
/-- the bytes of l lie in block g -/
def ByteRow (w : World) (g : Nat) (l : List UInt8) : Prop :=
  g < w.heap.size ∧ ∀ j (hj : j < l.length), w.cell? ⟨g, j, none⟩ = some (.int .u8 (l[j].toNat : Int)) ∧ w.frozen? ⟨g, j, none⟩ = false
theorem ByteRow.below {w w' g l} (h : ByteRow w g l) (hb : Below w.heap.size w w') : ByteRow w' g l :=
  ⟨Nat.lt_of_lt_of_le h.1 hb.size, fun j hj => ⟨(hb.cell (p := ⟨g, j, none⟩) h.1).trans (h.2 j hj).1, (hb.frozen (p := ⟨g, j, none⟩) h.1).trans (h.2 j hj).2⟩⟩
theorem ByteRow.set {w g l} (h : ByteRow w g l) (k : Nat) (b : UInt8) (hk : k < l.length) : ByteRow (w.setCell ⟨g, k, none⟩ (.int .u8 (b.toNat : Int))) g (l.set k b) := by
  refine ⟨by simp [h.1], fun j hj => ?_⟩
  rw [List.length_set] at hj
  refine ⟨?_, ?_⟩
  · by_cases e : k = j
    · subst e
      rw [World.cell?_setCell_same _ _ _ (h.2 k hk).1]
      simp
    · rw [World.cell?_setCell_other _ _ _ _ (by intro q; cases q; exact e rfl), (h.2 j hj).1]
      simp [List.getElem_set, e]
  · rw [World.frozen?_setCell]; exact (h.2 j hj).2
end Go.Proofs.YtgogcgkocjpgoaaGreatDoor
/- Walks: the reference's draws: a cursor over bytes. -/
namespace Go.Proofs.YtgogcgkocjpgoaaGreatDoor
open Go.RowKit
section
variable {P : Program} {ops : Array Oper} {Q : Exit → Act → World → Prop} {md : Region.Mode} {S : World → Prop} {X : Nat → Bool}
/-- an operation that looks at no cell may be taken first, whatever has been stored -/
theorem AnyX.firstP {i : Nat} {oi : Oper} {v : Value} (hi : ops[i]? = some oi) (hsel : ∀ (j : Nat) (o : Oper) cs b, ops[j]? = some o → o.op ≠ .select cs b)
    (hQ : ∀ c a w, Q (.panic c) (a.put oi.dst v) w → Q (.panic c) a w) (hXi : X i = true) :
    ∀ (f : Nat) (listed : Array Bool) (a : Act) (w : World),
      (∀ j oj, ops[j]? = some oj → j ≠ i → listed.getD j true = false → (∀ e ∈ oj.after, Region.binds md e = true → e.on ≠ i) → oi.apart ops oj = true) →
      i ∈ Region.ready md ops listed → YieldsIf P ops (fun _ => True) oi v a → AnyX P md ops Q S X f (listed.setIfInBounds i true) (a.put oi.dst v) w → AnyX P md ops Q S X (f + 1) listed a w := by
  intro f
  induction f with
  | zero =>
    intro listed a w _ hr hy H
    refine ⟨fun h => (by rw [h] at hr; cases hr), fun j hj => ?_⟩
    by_cases hji : j = i
    · subst hji; exact hy.wpOp hi trivial ⟨(fun h => by rw [hXi] at h; cases h), H⟩
    · have := ready_mono hj hji
      rw [H.1] at this; cases this
  | succ f ih =>
    intro listed a w hfree hr hy H
    refine ⟨fun h => (by rw [h] at hr; cases hr), fun j hj => ?_⟩
    by_cases hji : j = i
    · subst hji; exact hy.wpOp hi trivial ⟨(fun h => by rw [hXi] at h; cases h), H⟩
    · obtain ⟨hju, oj, hoj, hall⟩ := mem_ready.1 hj
      have hiu := unlisted (mem_ready.1 hr).1
      have hnot : ∀ e ∈ oj.after, Region.binds md e = true → e.on ≠ i := fun e he hb heq => by
        have h1 := hall e he hb
        rw [heq, hiu] at h1; cases h1
      have h2 := wpOp_putIf hoj (hfree j oj hoj hji hju hnot) (fun cs b => hsel i oi cs b hi) (fun cs b => hsel j oj cs b hoj) hQ hy (H.2 j (ready_mono hj hji))
      refine wpOp_mono (fun a' w' h3 => ⟨h3.2.1, ih (listed.setIfInBounds j true) a' w' (fun k ok hk hki hun hno => hfree k ok hk hki ?_ hno) (ready_mono hr (Ne.symm hji)) h3.1 ?_⟩) h2
      · by_cases hjk : j = k
        · subst hjk; exact hju
        · rw [getD_set_ne true hjk] at hun; exact hun
      · rw [Array.setIfInBounds_comm _ _ hji]; exact h3.2.2
theorem AnyX.takeP {i : Nat} {oi : Oper} {v : Value} {f : Nat} {listed : Array Bool} {a : Act} {w : World} (hi : ops[i]? = some oi)
    (hs : Region.noSelect ops = true) (hf : Region.free md ops listed i = true) (hr : (Region.ready md ops listed).contains i = true) (hXi : X i = true)
    (hQ : ∀ c a w, Q (.panic c) (a.put oi.dst v) w → Q (.panic c) a w) (hy : YieldsIf P ops (fun _ => True) oi v a)
    (h : AnyX P md ops Q S X f (listed.setIfInBounds i true) (a.put oi.dst v) w) : AnyX P md ops Q S X (f + 1) listed a w :=
  AnyX.firstP hi (Region.noSelect_spec hs) hQ hXi f listed a w (Region.free_spec hi hf) (by simpa using hr) hy h
end
theorem Sl.byte {w v} {xs : List Int} {F} (h : Sl EByte w v xs F) : xs.length ≤ maxLen ∧ ∀ k (hk : k < xs.length), (0 ≤ xs[k] ∧ xs[k] ≤ 255) ∧ ∃ b off, v = .slice (some ⟨b, off, none⟩) xs.length (match v with | .slice _ _ c => c | _ => 0) ∧ b ∈ F ∧ w.cell? ⟨b, off + k, none⟩ = some (.int .u8 xs[k]) := by
  obtain ⟨a, cap, rfl, hl, ⟨rfl, rfl, _⟩ | ⟨b, off, F', rfl, hne, rfl, hc⟩⟩ := h
  · exact ⟨by simp, fun k hk => by simp at hk⟩
  · refine ⟨by omega, fun k hk => ?_⟩
    obtain ⟨cs, F1, ⟨rfl, h0, h1, rfl⟩, hcell, _⟩ := hc.get k hk
    refine ⟨⟨h0, h1⟩, b, off, rfl, by simp, ?_⟩
    simpa [EByte] using hcell 0 (by decide)
/-- the bytes that a cursor reads -/
structure CuF where
  code : List Int
  a : Option Addr
  c : Nat
  bs : List Nat
/-- the cursor lies in block g; its bytes in F, below it; it has moved at most B steps -/
def Cur (B : Nat) (w : World) (g : Nat) (F : CuF) : Prop :=
  ∃ (k : Nat) (seed : Int), Row w g 123 [.slice F.a F.code.length F.c, .int .i64 k, .int .u64 seed] ∧ Sl EByte w (.slice F.a F.code.length F.c) F.code F.bs ∧ g ∉ F.bs ∧ k ≤ B ∧ 0 ≤ seed ∧ seed < 18446744073709551616
theorem Cur.keep {B w w' g F K} (h : Cur B w g F) (hk : Keep K w w') (h1 : g ∉ K) (h2 : ∀ b ∈ F.bs, b ∉ K) : Cur B w' g F := by
  obtain ⟨k, seed, R, S, hF, h3⟩ := h
  exact ⟨k, seed, R.keepK hk h1, S.keep hk h2 (by decide), hF, h3⟩
theorem Cur.below {B w w' g F} (h : Cur B w g F) (hb : Below w.heap.size w w') : Cur B w' g F := by
  obtain ⟨k, seed, R, S, hF, h3⟩ := h
  exact ⟨k, seed, R.below hb, S.below (by decide) hb, hF, h3⟩
theorem Cur.mono {B B' w g F} (h : Cur B w g F) (hb : B ≤ B') : Cur B' w g F := by
  obtain ⟨k, seed, R, S, hF, h3, h4⟩ := h
  exact ⟨k, seed, R, S, hF, by omega, h4⟩
theorem Cur.lt {B w g F} (h : Cur B w g F) : g < w.heap.size := by
  obtain ⟨k, seed, R, _⟩ := h; exact R.lt
def PNext (B g : Nat) (F : CuF) (w : World) (e : Ending) (w' : World) : Prop := ∃ r : Nat, e = .returned (.int .i64 r) ∧ r ≤ 255 ∧ Cur (B + 1) w' g F ∧ Keep [g] w w'
set_option maxHeartbeats 3200000 in
set_option maxRecDepth 100000 in
theorem next_c (B g : Nat) (F : CuF) (w : World) (h : Cur B w g F) (hB0 : B ≤ 1099511627776) :
    Calls Tryz.prog 215 #[.pointer (some ⟨g, 0, none⟩)] w (PNext B g F w) := by
  obtain ⟨code, a, c, F⟩ := F
  obtain ⟨k, seed, R, S, hF, h2, h3, h4⟩ := h
  dsimp only at R S hF
  have hl := S.byte.1
  unfold maxLen at hl
  have hlt := S.lt (by decide)
  by_cases hk : k < code.length
  · obtain ⟨⟨hz0, hz1⟩, b, off, hv, hbF, hcell⟩ := S.byte.2 k hk
    simp only [Value.slice.injEq] at hv
    obtain ⟨rfl, -, -⟩ := hv
    generalize code[k] = z at *
    have hbg : b ≠ g := fun e => hF (e ▸ hbF)
    have hcl := fun w' (hb : Below w.heap.size w w') => kc hb hcell
    replace hcl := Lib.hid hcl
    clear hcell
    have hB := Below.refl w.heap.size w
    go_enter Tryz.func215, Tryz.ntmps215
    go_wp2_with fail
    refine AnyX.start (S := (fun w' => w'.cell? ⟨g, 0, none⟩ = some (.slice (some ⟨b, off, none⟩) code.length c) ∧ w'.cell? ⟨g, 1, none⟩ = some (.int .i64 k) ∧ w'.cell? ⟨g, 2, none⟩ = some (.int .u64 seed) ∧ w'.cell? ⟨b, off + k, none⟩ = some (.int .u8 z))) (X := (fun _ => false)) (by kernel_rfl) ?_
    have al : Below w.heap.size w w.drew := belowDrewN (Below.refl _ _) 1
    have hs_w1 := al.size
    replace R := R.below al
    replace S := S.below (by decide) al
    replace hB := tr hB al (Nat.le_refl _)
    generalize w.drew = w1 at *
    clear al
    have hS : (fun w' => w'.cell? ⟨g, 0, none⟩ = some (.slice (some ⟨b, off, none⟩) code.length c) ∧ w'.cell? ⟨g, 1, none⟩ = some (.int .i64 k) ∧ w'.cell? ⟨g, 2, none⟩ = some (.int .u64 seed) ∧ w'.cell? ⟨b, off + k, none⟩ = some (.int .u8 z)) w1 := ⟨R.cells 0, R.cells 1, R.cells 2, hcl.out _ hB⟩
    refine AnyX.take (i := 0) (oi := _) (v := ?_) (by rw [List.getElem?_toArray]; rfl) (by kernel_rfl) (by kernel_rfl) (by kernel_rfl) (by kernel_rfl) (by kernel_rfl) (by exact fun _ _ _ h => h) (Or.inl ⟨by rfl, ?_⟩) hS ?_
    rotate_left
    · (intro wS hSw; (try dsimp only at hSw); go_simp; try with_reducible rfl)
    try simp only [Act.put, List.setIfInBounds_toArray, List.set_cons_zero, List.set_cons_succ]
    refine AnyX.take (i := 1) (oi := _) (v := ?_) (by rw [List.getElem?_toArray]; rfl) (by kernel_rfl) (by kernel_rfl) (by kernel_rfl) (by kernel_rfl) (by kernel_rfl) (by exact fun _ _ _ h => h) (Or.inl ⟨by rfl, ?_⟩) hS ?_
    rotate_left
    · (intro wS hSw; (try dsimp only at hSw); go_simp; try with_reducible rfl)
    try simp only [Act.put, List.setIfInBounds_toArray, List.set_cons_zero, List.set_cons_succ]
    refine AnyX.take (i := 2) (oi := _) (v := ?_) (by rw [List.getElem?_toArray]; rfl) (by kernel_rfl) (by kernel_rfl) (by kernel_rfl) (by kernel_rfl) (by kernel_rfl) (by exact fun _ _ _ h => h) (Or.inl ⟨by rfl, ?_⟩) hS ?_
    rotate_left
    · (intro wS hSw; (try dsimp only at hSw); go_simp; try with_reducible rfl)
    try simp only [Act.put, List.setIfInBounds_toArray, List.set_cons_zero, List.set_cons_succ]
    refine AnyX.take (i := 3) (oi := _) (v := ?_) (by rw [List.getElem?_toArray]; rfl) (by kernel_rfl) (by kernel_rfl) (by kernel_rfl) (by kernel_rfl) (by kernel_rfl) (by exact fun _ _ _ h => h) (Or.inl ⟨by rfl, ?_⟩) hS ?_
    rotate_left
    · (intro wS hSw; (try dsimp only at hSw); go_simp; try with_reducible rfl)
    try simp only [Act.put, List.setIfInBounds_toArray, List.set_cons_zero, List.set_cons_succ]
    refine AnyX.take (i := 4) (oi := _) (v := ?_) (by rw [List.getElem?_toArray]; rfl) (by kernel_rfl) (by kernel_rfl) (by kernel_rfl) (by kernel_rfl) (by kernel_rfl) (by exact fun _ _ _ h => h) (Or.inl ⟨by rfl, ?_⟩) hS ?_
    rotate_left
    · (intro wS hSw; (try dsimp only at hSw); go_simp; try with_reducible rfl)
    try simp only [Act.put, List.setIfInBounds_toArray, List.set_cons_zero, List.set_cons_succ]
    refine AnyX.take (i := 5) (oi := _) (v := ?_) (by rw [List.getElem?_toArray]; rfl) (by kernel_rfl) (by kernel_rfl) (by kernel_rfl) (by kernel_rfl) (by kernel_rfl) (by exact fun _ _ _ h => h) (Or.inl ⟨by rfl, ?_⟩) hS ?_
    rotate_left
    · (intro wS hSw; (try dsimp only at hSw); go_simp; try with_reducible rfl)
    try simp only [Act.put, List.setIfInBounds_toArray, List.set_cons_zero, List.set_cons_succ]
    refine AnyX.take (i := 6) (oi := _) (v := ?_) (by rw [List.getElem?_toArray]; rfl) (by kernel_rfl) (by kernel_rfl) (by kernel_rfl) (by kernel_rfl) (by kernel_rfl) (by exact fun _ _ _ h => h) (Or.inl ⟨by rfl, ?_⟩) hS ?_
    rotate_left
    · (intro wS hSw; (try dsimp only at hSw); go_simp; try with_reducible rfl)
    try simp only [Act.put, List.setIfInBounds_toArray, List.set_cons_zero, List.set_cons_succ]
    refine AnyX.take (i := 7) (oi := _) (v := ?_) (by rw [List.getElem?_toArray]; rfl) (by kernel_rfl) (by kernel_rfl) (by kernel_rfl) (by kernel_rfl) (by kernel_rfl) (by exact fun _ _ _ h => h) (Or.inl ⟨by rfl, ?_⟩) hS ?_
    rotate_left
    · (intro wS hSw; (try dsimp only at hSw); go_simp; try with_reducible rfl)
    try simp only [Act.put, List.setIfInBounds_toArray, List.set_cons_zero, List.set_cons_succ]
    refine AnyX.take (i := 8) (oi := _) (v := ?_) (by rw [List.getElem?_toArray]; rfl) (by kernel_rfl) (by kernel_rfl) (by kernel_rfl) (by kernel_rfl) (by kernel_rfl) (by exact fun _ _ _ h => h) (Or.inl ⟨by rfl, ?_⟩) hS ?_
    rotate_left
    · (intro wS hSw; (try dsimp only at hSw); go_simp; try with_reducible rfl)
    try simp only [Act.put, List.setIfInBounds_toArray, List.set_cons_zero, List.set_cons_succ]
    refine AnyX.take (i := 9) (oi := _) (v := ?_) (by rw [List.getElem?_toArray]; rfl) (by kernel_rfl) (by kernel_rfl) (by kernel_rfl) (by kernel_rfl) (by kernel_rfl) (by exact fun _ _ _ h => h) (Or.inl ⟨by rfl, ?_⟩) hS ?_
    rotate_left
    · (intro wS hSw; (try dsimp only at hSw); go_simp; try with_reducible rfl)
    try simp only [Act.put, List.setIfInBounds_toArray, List.set_cons_zero, List.set_cons_succ]
    refine AnyX.done (by kernel_rfl) ?_ _
    (try clear hS)
    have c_R := R.cells; have f_R := R.frozens
    go_wp2_with fail
    clear c_R f_R
    rename_i K0 hK0
    refine AnyX.start (S := (fun w' => w'.cell? ⟨g, 0, none⟩ = some (.slice (some ⟨b, off, none⟩) code.length c) ∧ w'.cell? ⟨g, 1, none⟩ = some (.int .i64 k) ∧ w'.cell? ⟨g, 2, none⟩ = some (.int .u64 seed) ∧ w'.cell? ⟨b, off + k, none⟩ = some (.int .u8 z))) (X := (fun _ => false)) (by kernel_rfl) ?_
    have al : Below w1.heap.size w1 w1.drew := belowDrewN (Below.refl _ _) 1
    have hs_w2 := al.size
    replace R := R.below al
    replace S := S.below (by decide) al
    replace hB := tr hB al (Nat.le_refl _)
    generalize w1.drew = w2 at *
    clear al
    have hS : (fun w' => w'.cell? ⟨g, 0, none⟩ = some (.slice (some ⟨b, off, none⟩) code.length c) ∧ w'.cell? ⟨g, 1, none⟩ = some (.int .i64 k) ∧ w'.cell? ⟨g, 2, none⟩ = some (.int .u64 seed) ∧ w'.cell? ⟨b, off + k, none⟩ = some (.int .u8 z)) w2 := ⟨R.cells 0, R.cells 1, R.cells 2, hcl.out _ hB⟩
    refine AnyX.take (i := 0) (oi := _) (v := ?_) (by rw [List.getElem?_toArray]; rfl) (by kernel_rfl) (by kernel_rfl) (by kernel_rfl) (by kernel_rfl) (by kernel_rfl) (by exact fun _ _ _ h => h) (Or.inl ⟨by rfl, ?_⟩) hS ?_
    rotate_left
    · (intro wS hSw; (try dsimp only at hSw); go_simp; try with_reducible rfl)
    try simp only [Act.put, List.setIfInBounds_toArray, List.set_cons_zero, List.set_cons_succ]
    refine AnyX.take (i := 1) (oi := _) (v := ?_) (by rw [List.getElem?_toArray]; rfl) (by kernel_rfl) (by kernel_rfl) (by kernel_rfl) (by kernel_rfl) (by kernel_rfl) (by exact fun _ _ _ h => h) (Or.inl ⟨by rfl, ?_⟩) hS ?_
    rotate_left
    · (intro wS hSw; (try dsimp only at hSw); go_simp; try with_reducible rfl)
    try simp only [Act.put, List.setIfInBounds_toArray, List.set_cons_zero, List.set_cons_succ]
    refine AnyX.take (i := 2) (oi := _) (v := ?_) (by rw [List.getElem?_toArray]; rfl) (by kernel_rfl) (by kernel_rfl) (by kernel_rfl) (by kernel_rfl) (by kernel_rfl) (by exact fun _ _ _ h => h) (Or.inl ⟨by rfl, ?_⟩) hS ?_
    rotate_left
    · (intro wS hSw; (try dsimp only at hSw); go_simp; try with_reducible rfl)
    try simp only [Act.put, List.setIfInBounds_toArray, List.set_cons_zero, List.set_cons_succ]
    refine AnyX.take (i := 3) (oi := _) (v := ?_) (by rw [List.getElem?_toArray]; rfl) (by kernel_rfl) (by kernel_rfl) (by kernel_rfl) (by kernel_rfl) (by kernel_rfl) (by exact fun _ _ _ h => h) (Or.inl ⟨by rfl, ?_⟩) hS ?_
    rotate_left
    · (intro wS hSw; (try dsimp only at hSw); go_simp; try with_reducible rfl)
    try simp only [Act.put, List.setIfInBounds_toArray, List.set_cons_zero, List.set_cons_succ]
    refine AnyX.take (i := 4) (oi := _) (v := ?_) (by rw [List.getElem?_toArray]; rfl) (by kernel_rfl) (by kernel_rfl) (by kernel_rfl) (by kernel_rfl) (by kernel_rfl) (by exact fun _ _ _ h => h) (Or.inl ⟨by rfl, ?_⟩) hS ?_
    rotate_left
    · (intro wS hSw; (try dsimp only at hSw); go_simp; try with_reducible rfl)
    try simp only [Act.put, List.setIfInBounds_toArray, List.set_cons_zero, List.set_cons_succ]
    refine AnyX.take (i := 5) (oi := _) (v := ?_) (by rw [List.getElem?_toArray]; rfl) (by kernel_rfl) (by kernel_rfl) (by kernel_rfl) (by kernel_rfl) (by kernel_rfl) (by exact fun _ _ _ h => h) (Or.inl ⟨by rfl, ?_⟩) hS ?_
    rotate_left
    · (intro wS hSw; (try dsimp only at hSw); go_simp; try with_reducible rfl)
    try simp only [Act.put, List.setIfInBounds_toArray, List.set_cons_zero, List.set_cons_succ]
    refine AnyX.take (i := 6) (oi := _) (v := ?_) (by rw [List.getElem?_toArray]; rfl) (by kernel_rfl) (by kernel_rfl) (by kernel_rfl) (by kernel_rfl) (by kernel_rfl) (by exact fun _ _ _ h => h) (Or.inl ⟨by rfl, ?_⟩) hS ?_
    rotate_left
    · (intro wS hSw; (try dsimp only at hSw); go_simp; try with_reducible rfl)
    try simp only [Act.put, List.setIfInBounds_toArray, List.set_cons_zero, List.set_cons_succ]
    refine AnyX.take (i := 7) (oi := _) (v := ?_) (by rw [List.getElem?_toArray]; rfl) (by kernel_rfl) (by kernel_rfl) (by kernel_rfl) (by kernel_rfl) (by kernel_rfl) (by exact fun _ _ _ h => h) (Or.inl ⟨by rfl, ?_⟩) hS ?_
    rotate_left
    · (intro wS hSw; (try dsimp only at hSw); go_simp; try with_reducible rfl)
    try simp only [Act.put, List.setIfInBounds_toArray, List.set_cons_zero, List.set_cons_succ]
    refine AnyX.take (i := 8) (oi := _) (v := ?_) (by rw [List.getElem?_toArray]; rfl) (by kernel_rfl) (by kernel_rfl) (by kernel_rfl) (by kernel_rfl) (by kernel_rfl) (by exact fun _ _ _ h => h) (Or.inl ⟨by rfl, ?_⟩) hS ?_
    rotate_left
    · (intro wS hSw; (try dsimp only at hSw); go_simp; try with_reducible rfl)
    try simp only [Act.put, List.setIfInBounds_toArray, List.set_cons_zero, List.set_cons_succ]
    refine AnyX.take (i := 9) (oi := _) (v := ?_) (by rw [List.getElem?_toArray]; rfl) (by kernel_rfl) (by kernel_rfl) (by kernel_rfl) (by kernel_rfl) (by kernel_rfl) (by exact fun _ _ _ h => h) (Or.inl ⟨by rfl, ?_⟩) hS ?_
    rotate_left
    · (intro wS hSw; (try dsimp only at hSw); go_simp; try with_reducible rfl)
    try simp only [Act.put, List.setIfInBounds_toArray, List.set_cons_zero, List.set_cons_succ]
    refine AnyX.take (i := 10) (oi := _) (v := ?_) (by rw [List.getElem?_toArray]; rfl) (by kernel_rfl) (by kernel_rfl) (by kernel_rfl) (by kernel_rfl) (by kernel_rfl) (by exact fun _ _ _ h => h) (Or.inl ⟨by rfl, ?_⟩) hS ?_
    rotate_left
    · (intro wS hSw; (try dsimp only at hSw); go_simp; try with_reducible rfl)
    try simp only [Act.put, List.setIfInBounds_toArray, List.set_cons_zero, List.set_cons_succ]
    refine AnyX.only (i := 11) (o := _) (by kernel_rfl) (by rw [List.getElem?_toArray]; rfl) (fun K hK => ?_)
    try go_simp
    clear hS
    have hS : (fun w' => w'.cell? ⟨g, 0, none⟩ = some (.slice (some ⟨b, off, none⟩) code.length c) ∧ w'.cell? ⟨g, 1, none⟩ = some (.int .i64 k) ∧ w'.cell? ⟨g, 2, none⟩ = some (.int .u64 seed) ∧ w'.cell? ⟨b, off + k, none⟩ = some (.int .u8 z)) w2 := ⟨R.cells 0, R.cells 1, R.cells 2, hcl.out _ hB⟩
    refine hK.out _ _ (fun _ => hS) ?_
    clear hK K
    try simp only [Act.put, List.setIfInBounds_toArray, List.set_cons_zero, List.set_cons_succ]
    refine AnyX.done (by kernel_rfl) ?_ _
    (try clear hS)
    refine hK0 _ _ ?_
    clear hK0 K0
    have c_R := R.cells; have f_R := R.frozens
    go_wp2_with fail
    clear c_R f_R
    have n_K : Keep [g] w ((w2.setCell ⟨g, 1, none⟩ (.int .i64 ((k : Int) + 1))).setCell ⟨g, 2, none⟩ (.int .u64 (IntKind.u64.wrap (IntKind.u64.wrap (IntKind.u64.wrap (seed * 6364136223846793005) + z) + 840840)))) := ((Keep.ofBelow hB).setCell (p := ⟨g, 1, none⟩) (by simp) _).setCell (p := ⟨g, 2, none⟩) (by simp) _
    have n_R : Row ((w2.setCell ⟨g, 1, none⟩ (.int .i64 ((k : Int) + 1))).setCell ⟨g, 2, none⟩ (.int .u64 (IntKind.u64.wrap (IntKind.u64.wrap (IntKind.u64.wrap (seed * 6364136223846793005) + z) + 840840)))) g 123 [.slice (some ⟨b, off, none⟩) code.length c, .int .i64 ((k + 1 : Nat) : Int), .int .u64 (IntKind.u64.wrap (IntKind.u64.wrap (IntKind.u64.wrap (seed * 6364136223846793005) + z) + 840840))] := by simpa using ((R.set 1 (.int .i64 ((k : Int) + 1))).set 2 (.int .u64 (IntKind.u64.wrap (IntKind.u64.wrap (IntKind.u64.wrap (seed * 6364136223846793005) + z) + 840840))))
    have n_S : Sl EByte ((w2.setCell ⟨g, 1, none⟩ (.int .i64 ((k : Int) + 1))).setCell ⟨g, 2, none⟩ (.int .u64 (IntKind.u64.wrap (IntKind.u64.wrap (IntKind.u64.wrap (seed * 6364136223846793005) + z) + 840840)))) (Value.slice (some ⟨b, off, none⟩) code.length c) code F := S.frame (fun b hb => by have : b ≠ g := fun e => hF (e ▸ hb); repeat rw [Below.heap_setCell _ _ _ _ (by simp <;> omega)])
    have hs0 : 0 ≤ (IntKind.u64.wrap (IntKind.u64.wrap (IntKind.u64.wrap (seed * 6364136223846793005) + z) + 840840)) ∧ (IntKind.u64.wrap (IntKind.u64.wrap (IntKind.u64.wrap (seed * 6364136223846793005) + z) + 840840)) < 18446744073709551616 := by rw [IntKind.wrap_u64]; omega
    clear R S hB
    generalize (IntKind.u64.wrap (IntKind.u64.wrap (IntKind.u64.wrap (seed * 6364136223846793005) + z) + 840840)) = sd at *
    obtain ⟨hs0, hs1⟩ := hs0
    generalize ((w2.setCell ⟨g, 1, none⟩ (.int .i64 ((k : Int) + 1))).setCell ⟨g, 2, none⟩ (.int .u64 sd)) = w3 at *
    have R := n_R; clear n_R
    have S := n_S; clear n_S
    rename_i K0 hK0
    refine AnyX.start (S := (fun w' => w'.cell? ⟨g, 0, none⟩ = some (.slice (some ⟨b, off, none⟩) code.length c) ∧ w'.cell? ⟨g, 1, none⟩ = some (.int .i64 ((k + 1 : Nat) : Int)) ∧ w'.cell? ⟨g, 2, none⟩ = some (.int .u64 sd))) (X := (fun _ => false)) (by kernel_rfl) ?_
    have al : Below w3.heap.size w3 w3.drew := belowDrewN (Below.refl _ _) 1
    have hs_w4 := al.size
    replace R := R.below al
    replace S := S.below (by decide) al
    have hB := al
    generalize w3.drew = w4 at *
    clear al
    have hS : (fun w' => w'.cell? ⟨g, 0, none⟩ = some (.slice (some ⟨b, off, none⟩) code.length c) ∧ w'.cell? ⟨g, 1, none⟩ = some (.int .i64 ((k + 1 : Nat) : Int)) ∧ w'.cell? ⟨g, 2, none⟩ = some (.int .u64 sd)) w4 := ⟨R.cells 0, R.cells 1, R.cells 2⟩
    refine AnyX.take (i := 0) (oi := _) (v := ?_) (by rw [List.getElem?_toArray]; rfl) (by kernel_rfl) (by kernel_rfl) (by kernel_rfl) (by kernel_rfl) (by kernel_rfl) (by exact fun _ _ _ h => h) (Or.inl ⟨by rfl, ?_⟩) hS ?_
    rotate_left
    · (intro wS hSw; (try dsimp only at hSw); go_simp; try with_reducible rfl)
    try simp only [Act.put, List.setIfInBounds_toArray, List.set_cons_zero, List.set_cons_succ]
    refine AnyX.take (i := 1) (oi := _) (v := ?_) (by rw [List.getElem?_toArray]; rfl) (by kernel_rfl) (by kernel_rfl) (by kernel_rfl) (by kernel_rfl) (by kernel_rfl) (by exact fun _ _ _ h => h) (Or.inl ⟨by rfl, ?_⟩) hS ?_
    rotate_left
    · (intro wS hSw; (try dsimp only at hSw); go_simp; try with_reducible rfl)
    try simp only [Act.put, List.setIfInBounds_toArray, List.set_cons_zero, List.set_cons_succ]
    refine AnyX.take (i := 2) (oi := _) (v := ?_) (by rw [List.getElem?_toArray]; rfl) (by kernel_rfl) (by kernel_rfl) (by kernel_rfl) (by kernel_rfl) (by kernel_rfl) (by exact fun _ _ _ h => h) (Or.inl ⟨by rfl, ?_⟩) hS ?_
    rotate_left
    · (intro wS hSw; (try dsimp only at hSw); go_simp; try with_reducible rfl)
    try simp only [Act.put, List.setIfInBounds_toArray, List.set_cons_zero, List.set_cons_succ]
    refine AnyX.take (i := 3) (oi := _) (v := ?_) (by rw [List.getElem?_toArray]; rfl) (by kernel_rfl) (by kernel_rfl) (by kernel_rfl) (by kernel_rfl) (by kernel_rfl) (by exact fun _ _ _ h => h) (Or.inl ⟨by rfl, ?_⟩) hS ?_
    rotate_left
    · (intro wS hSw; (try dsimp only at hSw); go_simp; try with_reducible rfl)
    try simp only [Act.put, List.setIfInBounds_toArray, List.set_cons_zero, List.set_cons_succ]
    refine AnyX.take (i := 4) (oi := _) (v := ?_) (by rw [List.getElem?_toArray]; rfl) (by kernel_rfl) (by kernel_rfl) (by kernel_rfl) (by kernel_rfl) (by kernel_rfl) (by exact fun _ _ _ h => h) (Or.inl ⟨by rfl, ?_⟩) hS ?_
    rotate_left
    · (intro wS hSw; (try dsimp only at hSw); go_simp; try with_reducible rfl)
    try simp only [Act.put, List.setIfInBounds_toArray, List.set_cons_zero, List.set_cons_succ]
    refine AnyX.take (i := 5) (oi := _) (v := ?_) (by rw [List.getElem?_toArray]; rfl) (by kernel_rfl) (by kernel_rfl) (by kernel_rfl) (by kernel_rfl) (by kernel_rfl) (by exact fun _ _ _ h => h) (Or.inl ⟨by rfl, ?_⟩) hS ?_
    rotate_left
    · (intro wS hSw; (try dsimp only at hSw); go_simp; try with_reducible rfl)
    try simp only [Act.put, List.setIfInBounds_toArray, List.set_cons_zero, List.set_cons_succ]
    refine AnyX.take (i := 6) (oi := _) (v := ?_) (by rw [List.getElem?_toArray]; rfl) (by kernel_rfl) (by kernel_rfl) (by kernel_rfl) (by kernel_rfl) (by kernel_rfl) (by exact fun _ _ _ h => h) (Or.inl ⟨by rfl, ?_⟩) hS ?_
    rotate_left
    · (intro wS hSw; (try dsimp only at hSw); go_simp; try with_reducible rfl)
    try simp only [Act.put, List.setIfInBounds_toArray, List.set_cons_zero, List.set_cons_succ]
    refine AnyX.take (i := 7) (oi := _) (v := ?_) (by rw [List.getElem?_toArray]; rfl) (by kernel_rfl) (by kernel_rfl) (by kernel_rfl) (by kernel_rfl) (by kernel_rfl) (by exact fun _ _ _ h => h) (Or.inl ⟨by rfl, ?_⟩) hS ?_
    rotate_left
    · (intro wS hSw; (try dsimp only at hSw); go_simp; try with_reducible rfl)
    try simp only [Act.put, List.setIfInBounds_toArray, List.set_cons_zero, List.set_cons_succ]
    refine AnyX.take (i := 8) (oi := _) (v := ?_) (by rw [List.getElem?_toArray]; rfl) (by kernel_rfl) (by kernel_rfl) (by kernel_rfl) (by kernel_rfl) (by kernel_rfl) (by exact fun _ _ _ h => h) (Or.inl ⟨by rfl, ?_⟩) hS ?_
    rotate_left
    · (intro wS hSw; (try dsimp only at hSw); go_simp; try with_reducible rfl)
    try simp only [Act.put, List.setIfInBounds_toArray, List.set_cons_zero, List.set_cons_succ]
    refine AnyX.take (i := 9) (oi := _) (v := ?_) (by rw [List.getElem?_toArray]; rfl) (by kernel_rfl) (by kernel_rfl) (by kernel_rfl) (by kernel_rfl) (by kernel_rfl) (by exact fun _ _ _ h => h) (Or.inl ⟨by rfl, ?_⟩) hS ?_
    rotate_left
    · (intro wS hSw; (try dsimp only at hSw); go_simp; try with_reducible rfl)
    try simp only [Act.put, List.setIfInBounds_toArray, List.set_cons_zero, List.set_cons_succ]
    refine AnyX.done (by kernel_rfl) ?_ _
    (try clear hS)
    refine hK0 _ _ ?_
    clear hK0 K0
    have n_K2 := n_K.trans (Keep.ofBelow hB)
    have c_R := R.cells; have f_R := R.frozens
    go_wp2_with fail
    refine bodyPost_ret (v := .int .i64 (IntKind.i64.wrap z)) ?_ rfl ?_
    · simp [results, Tryz.results215, go_sem]
    · refine ⟨z.toNat, ?_, by omega, ⟨k + 1, sd, R, S, hF, by omega, hs0, hs1⟩, n_K2⟩
      rw [show IntKind.i64.wrap z = ((z.toNat : Nat) : Int) from by rw [IntKind.wrap_i64]; omega]
  · have hB := Below.refl w.heap.size w
    go_enter Tryz.func215, Tryz.ntmps215
    go_wp2_with fail
    refine AnyX.start (S := (fun w' => w'.cell? ⟨g, 0, none⟩ = some (.slice a code.length c) ∧ w'.cell? ⟨g, 1, none⟩ = some (.int .i64 k) ∧ w'.cell? ⟨g, 2, none⟩ = some (.int .u64 seed))) (X := (fun _ => false)) (by kernel_rfl) ?_
    have al : Below w.heap.size w w.drew := belowDrewN (Below.refl _ _) 1
    have hs_w5 := al.size
    replace R := R.below al
    replace S := S.below (by decide) al
    replace hB := tr hB al (Nat.le_refl _)
    generalize w.drew = w5 at *
    clear al
    have hS : (fun w' => w'.cell? ⟨g, 0, none⟩ = some (.slice a code.length c) ∧ w'.cell? ⟨g, 1, none⟩ = some (.int .i64 k) ∧ w'.cell? ⟨g, 2, none⟩ = some (.int .u64 seed)) w5 := ⟨R.cells 0, R.cells 1, R.cells 2⟩
    refine AnyX.take (i := 0) (oi := _) (v := ?_) (by rw [List.getElem?_toArray]; rfl) (by kernel_rfl) (by kernel_rfl) (by kernel_rfl) (by kernel_rfl) (by kernel_rfl) (by exact fun _ _ _ h => h) (Or.inl ⟨by rfl, ?_⟩) hS ?_
    rotate_left
    · (intro wS hSw; (try dsimp only at hSw); go_simp; try with_reducible rfl)
    try simp only [Act.put, List.setIfInBounds_toArray, List.set_cons_zero, List.set_cons_succ]
    refine AnyX.take (i := 1) (oi := _) (v := ?_) (by rw [List.getElem?_toArray]; rfl) (by kernel_rfl) (by kernel_rfl) (by kernel_rfl) (by kernel_rfl) (by kernel_rfl) (by exact fun _ _ _ h => h) (Or.inl ⟨by rfl, ?_⟩) hS ?_
    rotate_left
    · (intro wS hSw; (try dsimp only at hSw); go_simp; try with_reducible rfl)
    try simp only [Act.put, List.setIfInBounds_toArray, List.set_cons_zero, List.set_cons_succ]
    refine AnyX.take (i := 2) (oi := _) (v := ?_) (by rw [List.getElem?_toArray]; rfl) (by kernel_rfl) (by kernel_rfl) (by kernel_rfl) (by kernel_rfl) (by kernel_rfl) (by exact fun _ _ _ h => h) (Or.inl ⟨by rfl, ?_⟩) hS ?_
    rotate_left
    · (intro wS hSw; (try dsimp only at hSw); go_simp; try with_reducible rfl)
    try simp only [Act.put, List.setIfInBounds_toArray, List.set_cons_zero, List.set_cons_succ]
    refine AnyX.take (i := 3) (oi := _) (v := ?_) (by rw [List.getElem?_toArray]; rfl) (by kernel_rfl) (by kernel_rfl) (by kernel_rfl) (by kernel_rfl) (by kernel_rfl) (by exact fun _ _ _ h => h) (Or.inl ⟨by rfl, ?_⟩) hS ?_
    rotate_left
    · (intro wS hSw; (try dsimp only at hSw); go_simp; try with_reducible rfl)
    try simp only [Act.put, List.setIfInBounds_toArray, List.set_cons_zero, List.set_cons_succ]
    refine AnyX.take (i := 4) (oi := _) (v := ?_) (by rw [List.getElem?_toArray]; rfl) (by kernel_rfl) (by kernel_rfl) (by kernel_rfl) (by kernel_rfl) (by kernel_rfl) (by exact fun _ _ _ h => h) (Or.inl ⟨by rfl, ?_⟩) hS ?_
    rotate_left
    · (intro wS hSw; (try dsimp only at hSw); go_simp; try with_reducible rfl)
    try simp only [Act.put, List.setIfInBounds_toArray, List.set_cons_zero, List.set_cons_succ]
    refine AnyX.take (i := 5) (oi := _) (v := ?_) (by rw [List.getElem?_toArray]; rfl) (by kernel_rfl) (by kernel_rfl) (by kernel_rfl) (by kernel_rfl) (by kernel_rfl) (by exact fun _ _ _ h => h) (Or.inl ⟨by rfl, ?_⟩) hS ?_
    rotate_left
    · (intro wS hSw; (try dsimp only at hSw); go_simp; try with_reducible rfl)
    try simp only [Act.put, List.setIfInBounds_toArray, List.set_cons_zero, List.set_cons_succ]
    refine AnyX.take (i := 6) (oi := _) (v := ?_) (by rw [List.getElem?_toArray]; rfl) (by kernel_rfl) (by kernel_rfl) (by kernel_rfl) (by kernel_rfl) (by kernel_rfl) (by exact fun _ _ _ h => h) (Or.inl ⟨by rfl, ?_⟩) hS ?_
    rotate_left
    · (intro wS hSw; (try dsimp only at hSw); go_simp; try with_reducible rfl)
    try simp only [Act.put, List.setIfInBounds_toArray, List.set_cons_zero, List.set_cons_succ]
    refine AnyX.take (i := 7) (oi := _) (v := ?_) (by rw [List.getElem?_toArray]; rfl) (by kernel_rfl) (by kernel_rfl) (by kernel_rfl) (by kernel_rfl) (by kernel_rfl) (by exact fun _ _ _ h => h) (Or.inl ⟨by rfl, ?_⟩) hS ?_
    rotate_left
    · (intro wS hSw; (try dsimp only at hSw); go_simp; try with_reducible rfl)
    try simp only [Act.put, List.setIfInBounds_toArray, List.set_cons_zero, List.set_cons_succ]
    refine AnyX.take (i := 8) (oi := _) (v := ?_) (by rw [List.getElem?_toArray]; rfl) (by kernel_rfl) (by kernel_rfl) (by kernel_rfl) (by kernel_rfl) (by kernel_rfl) (by exact fun _ _ _ h => h) (Or.inl ⟨by rfl, ?_⟩) hS ?_
    rotate_left
    · (intro wS hSw; (try dsimp only at hSw); go_simp; try with_reducible rfl)
    try simp only [Act.put, List.setIfInBounds_toArray, List.set_cons_zero, List.set_cons_succ]
    refine AnyX.take (i := 9) (oi := _) (v := ?_) (by rw [List.getElem?_toArray]; rfl) (by kernel_rfl) (by kernel_rfl) (by kernel_rfl) (by kernel_rfl) (by kernel_rfl) (by exact fun _ _ _ h => h) (Or.inl ⟨by rfl, ?_⟩) hS ?_
    rotate_left
    · (intro wS hSw; (try dsimp only at hSw); go_simp; try with_reducible rfl)
    try simp only [Act.put, List.setIfInBounds_toArray, List.set_cons_zero, List.set_cons_succ]
    refine AnyX.done (by kernel_rfl) ?_ _
    (try clear hS)
    have c_R := R.cells; have f_R := R.frozens
    go_wp2_with fail
    clear c_R f_R
    have n_K : Keep [g] w ((w5.setCell ⟨g, 1, none⟩ (.int .i64 ((k : Int) + 1))).setCell ⟨g, 2, none⟩ (.int .u64 (IntKind.u64.wrap (IntKind.u64.wrap (IntKind.u64.wrap (seed * 6364136223846793005)) + 840840)))) := ((Keep.ofBelow hB).setCell (p := ⟨g, 1, none⟩) (by simp) _).setCell (p := ⟨g, 2, none⟩) (by simp) _
    have n_R : Row ((w5.setCell ⟨g, 1, none⟩ (.int .i64 ((k : Int) + 1))).setCell ⟨g, 2, none⟩ (.int .u64 (IntKind.u64.wrap (IntKind.u64.wrap (IntKind.u64.wrap (seed * 6364136223846793005)) + 840840)))) g 123 [.slice a code.length c, .int .i64 ((k + 1 : Nat) : Int), .int .u64 (IntKind.u64.wrap (IntKind.u64.wrap (IntKind.u64.wrap (seed * 6364136223846793005)) + 840840))] := by simpa using ((R.set 1 (.int .i64 ((k : Int) + 1))).set 2 (.int .u64 (IntKind.u64.wrap (IntKind.u64.wrap (IntKind.u64.wrap (seed * 6364136223846793005)) + 840840))))
    have n_S : Sl EByte ((w5.setCell ⟨g, 1, none⟩ (.int .i64 ((k : Int) + 1))).setCell ⟨g, 2, none⟩ (.int .u64 (IntKind.u64.wrap (IntKind.u64.wrap (IntKind.u64.wrap (seed * 6364136223846793005)) + 840840)))) (Value.slice a code.length c) code F := S.frame (fun b hb => by have : b ≠ g := fun e => hF (e ▸ hb); repeat rw [Below.heap_setCell _ _ _ _ (by simp <;> omega)])
    have hs0 : 0 ≤ (IntKind.u64.wrap (IntKind.u64.wrap (IntKind.u64.wrap (seed * 6364136223846793005)) + 840840)) ∧ (IntKind.u64.wrap (IntKind.u64.wrap (IntKind.u64.wrap (seed * 6364136223846793005)) + 840840)) < 18446744073709551616 := by rw [IntKind.wrap_u64]; omega
    clear R S hB
    generalize (IntKind.u64.wrap (IntKind.u64.wrap (IntKind.u64.wrap (seed * 6364136223846793005)) + 840840)) = sd at *
    obtain ⟨hs0, hs1⟩ := hs0
    generalize ((w5.setCell ⟨g, 1, none⟩ (.int .i64 ((k : Int) + 1))).setCell ⟨g, 2, none⟩ (.int .u64 sd)) = w6 at *
    have R := n_R; clear n_R
    have S := n_S; clear n_S
    rename_i K0 hK0
    refine AnyX.start (S := (fun w' => w'.cell? ⟨g, 0, none⟩ = some (.slice a code.length c) ∧ w'.cell? ⟨g, 1, none⟩ = some (.int .i64 ((k + 1 : Nat) : Int)) ∧ w'.cell? ⟨g, 2, none⟩ = some (.int .u64 sd))) (X := (fun _ => false)) (by kernel_rfl) ?_
    have al : Below w6.heap.size w6 w6.drew := belowDrewN (Below.refl _ _) 1
    have hs_w7 := al.size
    replace R := R.below al
    replace S := S.below (by decide) al
    have hB := al
    generalize w6.drew = w7 at *
    clear al
    have hS : (fun w' => w'.cell? ⟨g, 0, none⟩ = some (.slice a code.length c) ∧ w'.cell? ⟨g, 1, none⟩ = some (.int .i64 ((k + 1 : Nat) : Int)) ∧ w'.cell? ⟨g, 2, none⟩ = some (.int .u64 sd)) w7 := ⟨R.cells 0, R.cells 1, R.cells 2⟩
    refine AnyX.take (i := 0) (oi := _) (v := ?_) (by rw [List.getElem?_toArray]; rfl) (by kernel_rfl) (by kernel_rfl) (by kernel_rfl) (by kernel_rfl) (by kernel_rfl) (by exact fun _ _ _ h => h) (Or.inl ⟨by rfl, ?_⟩) hS ?_
    rotate_left
    · (intro wS hSw; (try dsimp only at hSw); go_simp; try with_reducible rfl)
    try simp only [Act.put, List.setIfInBounds_toArray, List.set_cons_zero, List.set_cons_succ]
    refine AnyX.take (i := 1) (oi := _) (v := ?_) (by rw [List.getElem?_toArray]; rfl) (by kernel_rfl) (by kernel_rfl) (by kernel_rfl) (by kernel_rfl) (by kernel_rfl) (by exact fun _ _ _ h => h) (Or.inl ⟨by rfl, ?_⟩) hS ?_
    rotate_left
    · (intro wS hSw; (try dsimp only at hSw); go_simp; try with_reducible rfl)
    try simp only [Act.put, List.setIfInBounds_toArray, List.set_cons_zero, List.set_cons_succ]
    refine AnyX.take (i := 2) (oi := _) (v := ?_) (by rw [List.getElem?_toArray]; rfl) (by kernel_rfl) (by kernel_rfl) (by kernel_rfl) (by kernel_rfl) (by kernel_rfl) (by exact fun _ _ _ h => h) (Or.inl ⟨by rfl, ?_⟩) hS ?_
    rotate_left
    · (intro wS hSw; (try dsimp only at hSw); go_simp; try with_reducible rfl)
    try simp only [Act.put, List.setIfInBounds_toArray, List.set_cons_zero, List.set_cons_succ]
    refine AnyX.take (i := 3) (oi := _) (v := ?_) (by rw [List.getElem?_toArray]; rfl) (by kernel_rfl) (by kernel_rfl) (by kernel_rfl) (by kernel_rfl) (by kernel_rfl) (by exact fun _ _ _ h => h) (Or.inl ⟨by rfl, ?_⟩) hS ?_
    rotate_left
    · (intro wS hSw; (try dsimp only at hSw); go_simp; try with_reducible rfl)
    try simp only [Act.put, List.setIfInBounds_toArray, List.set_cons_zero, List.set_cons_succ]
    refine AnyX.take (i := 4) (oi := _) (v := ?_) (by rw [List.getElem?_toArray]; rfl) (by kernel_rfl) (by kernel_rfl) (by kernel_rfl) (by kernel_rfl) (by kernel_rfl) (by exact fun _ _ _ h => h) (Or.inl ⟨by rfl, ?_⟩) hS ?_
    rotate_left
    · (intro wS hSw; (try dsimp only at hSw); go_simp; try with_reducible rfl)
    try simp only [Act.put, List.setIfInBounds_toArray, List.set_cons_zero, List.set_cons_succ]
    refine AnyX.take (i := 5) (oi := _) (v := ?_) (by rw [List.getElem?_toArray]; rfl) (by kernel_rfl) (by kernel_rfl) (by kernel_rfl) (by kernel_rfl) (by kernel_rfl) (by exact fun _ _ _ h => h) (Or.inl ⟨by rfl, ?_⟩) hS ?_
    rotate_left
    · (intro wS hSw; (try dsimp only at hSw); go_simp; try with_reducible rfl)
    try simp only [Act.put, List.setIfInBounds_toArray, List.set_cons_zero, List.set_cons_succ]
    refine AnyX.take (i := 6) (oi := _) (v := ?_) (by rw [List.getElem?_toArray]; rfl) (by kernel_rfl) (by kernel_rfl) (by kernel_rfl) (by kernel_rfl) (by kernel_rfl) (by exact fun _ _ _ h => h) (Or.inl ⟨by rfl, ?_⟩) hS ?_
    rotate_left
    · (intro wS hSw; (try dsimp only at hSw); go_simp; try with_reducible rfl)
    try simp only [Act.put, List.setIfInBounds_toArray, List.set_cons_zero, List.set_cons_succ]
    refine AnyX.take (i := 7) (oi := _) (v := ?_) (by rw [List.getElem?_toArray]; rfl) (by kernel_rfl) (by kernel_rfl) (by kernel_rfl) (by kernel_rfl) (by kernel_rfl) (by exact fun _ _ _ h => h) (Or.inl ⟨by rfl, ?_⟩) hS ?_
    rotate_left
    · (intro wS hSw; (try dsimp only at hSw); go_simp; try with_reducible rfl)
    try simp only [Act.put, List.setIfInBounds_toArray, List.set_cons_zero, List.set_cons_succ]
    refine AnyX.take (i := 8) (oi := _) (v := ?_) (by rw [List.getElem?_toArray]; rfl) (by kernel_rfl) (by kernel_rfl) (by kernel_rfl) (by kernel_rfl) (by kernel_rfl) (by exact fun _ _ _ h => h) (Or.inl ⟨by rfl, ?_⟩) hS ?_
    rotate_left
    · (intro wS hSw; (try dsimp only at hSw); go_simp; try with_reducible rfl)
    try simp only [Act.put, List.setIfInBounds_toArray, List.set_cons_zero, List.set_cons_succ]
    refine AnyX.take (i := 9) (oi := _) (v := ?_) (by rw [List.getElem?_toArray]; rfl) (by kernel_rfl) (by kernel_rfl) (by kernel_rfl) (by kernel_rfl) (by kernel_rfl) (by exact fun _ _ _ h => h) (Or.inl ⟨by rfl, ?_⟩) hS ?_
    rotate_left
    · (intro wS hSw; (try dsimp only at hSw); go_simp; try with_reducible rfl)
    try simp only [Act.put, List.setIfInBounds_toArray, List.set_cons_zero, List.set_cons_succ]
    refine AnyX.done (by kernel_rfl) ?_ _
    (try clear hS)
    refine hK0 _ _ ?_
    clear hK0 K0
    have n_K2 := n_K.trans (Keep.ofBelow hB)
    obtain ⟨q, hq, hq2⟩ : ∃ q : Nat, bits BinOp.and IntKind.u64 (sd / 1099511627776) 255 = (q : Int) ∧ q ≤ 255 := by
      refine ⟨(sd / 1099511627776).toNat &&& 255, ?_, Nat.and_le_right⟩
      rw [← bits_and_u64_nat _ _ (by omega) (by omega)]
      congr 1; omega
    have c_R := R.cells; have f_R := R.frozens
    go_wp2_with fail
    refine bodyPost_ret (v := .int .i64 (q : Int)) ?_ rfl ?_
    · simp [results, Tryz.results215, go_sem, hq]
    · exact ⟨q, rfl, hq2, ⟨k + 1, sd, R, S, hF, by omega, hs0, hs1⟩, n_K2⟩
def PPick (B g : Nat) (F : CuF) (n : Int) (w : World) (e : Ending) (w' : World) : Prop := ∃ r : Nat, e = .returned (.int .i64 r) ∧ (r = 0 ∨ (r : Int) < n) ∧ Cur (B + 2) w' g F ∧ Keep [g] w w'
set_option maxHeartbeats 1600000 in
set_option maxRecDepth 100000 in
theorem pick_c (B g : Nat) (F : CuF) (n : Int) (w : World) (h : Cur B w g F) (hB0 : B ≤ 1099511627774) (hn : n ≤ 1048576) :
    Calls Tryz.prog 126 #[.pointer (some ⟨g, 0, none⟩), .int .i64 n] w (PPick B g F n w) := by
  have hN1 := next_c B g F w h (by omega)
  have hN2 := fun w h => next_c (B + 1) g F w h (by omega)
  replace hN1 := Lib.hid hN1; replace hN2 := Lib.hid hN2
  by_cases h1 : n ≤ 1
  · go_enter Tryz.func126, Tryz.ntmps126
    go_wp2_with fail
    refine bodyPost_ret (v := .int .i64 0) ?_ rfl ⟨0, rfl, .inl rfl, h.mono (by omega), Keep.refl _ _⟩
    simp [results, Tryz.results126, go_sem]
  · by_cases h2 : n ≤ 200
    · go_enter Tryz.func126, Tryz.ntmps126
      go_wp2_with fail
      refine hN1.out.mono ?_
      rintro e w1 ⟨r, rfl, hr, hc, hk⟩
      have hm0 : 0 ≤ (r : Int) % n := Int.emod_nonneg _ (by omega)
      have hm1 : (r : Int) % n < n := Int.emod_lt_of_pos _ (by omega)
      go_wp2_with fail
      refine bodyPost_ret (v := .int .i64 ((r : Int) % n)) ?_ rfl ⟨((r : Int) % n).toNat, by rw [Int.toNat_of_nonneg hm0], .inr (by omega), hc.mono (by omega), hk⟩
      simp [results, Tryz.results126, go_sem]
    · go_enter Tryz.func126, Tryz.ntmps126
      go_wp2_with fail
      refine hN1.out.mono ?_
      rintro e w1 ⟨r, rfl, hr, hc, hk⟩
      go_wp2_with fail
      refine (hN2.out _ hc).mono ?_
      rintro e w2 ⟨r2, rfl, hr2, hc2, hk2⟩
      have hm0 : 0 ≤ ((r : Int) * 256 + r2) % n := Int.emod_nonneg _ (by omega)
      have hm1 : ((r : Int) * 256 + r2) % n < n := Int.emod_lt_of_pos _ (by omega)
      go_wp2_with fail
      refine bodyPost_ret (v := .int .i64 (((r : Int) * 256 + r2) % n)) ?_ rfl ⟨(((r : Int) * 256 + r2) % n).toNat, by rw [Int.toNat_of_nonneg hm0], .inr (by omega), hc2, hk.trans hk2⟩
      simp [results, Tryz.results126, go_sem]
def POne (B g : Nat) (F : CuF) (w : World) (e : Ending) (w' : World) : Prop := ∃ b : Bool, e = .returned (.bool b) ∧ Cur (B + 2) w' g F ∧ Keep [g] w w'
theorem one_c (B g : Nat) (F : CuF) (n : Int) (w : World) (h : Cur B w g F) (hB0 : B ≤ 1099511627774) (hn : n ≤ 1048576) :
    Calls Tryz.prog 95 #[.pointer (some ⟨g, 0, none⟩), .int .i64 n] w (POne B g F w) := by
  have hN1 := Lib.hid (pick_c B g F n w h hB0 hn)
  go_enter Tryz.func95, Tryz.ntmps95
  go_wp2_with fail
  refine hN1.out.mono ?_
  rintro e w1 ⟨r, rfl, hr, hc, hk⟩
  go_wp2_with fail
  refine bodyPost_ret (v := .bool ((r : Int) == 0)) ?_ rfl ⟨_, rfl, hc, hk⟩
  simp [results, Tryz.results95, go_sem]
def POf (B g : Nat) (F : CuF) (xs : List ByteArray) (w : World) (e : Ending) (w' : World) : Prop := ∃ s ∈ xs, e = .returned (.string s) ∧ Cur (B + 2) w' g F ∧ Keep [g] w w'
theorem of_c (B g : Nat) (F : CuF) (v : Value) (xs : List ByteArray) (K : List Nat) (w : World) (h : Cur B w g F) (hB0 : B ≤ 1099511627774) (hx : Sl EStr w v xs K) (h0 : 0 < xs.length) (h1 : xs.length ≤ 1048576) (hg : g ∉ K) :
    Calls Tryz.prog 225 #[.pointer (some ⟨g, 0, none⟩), v] w (POf B g F xs w) := by
  obtain ⟨a, c, rfl⟩ := hx.slice
  have hN1 := Lib.hid (pick_c B g F xs.length w h hB0 (by omega))
  go_enter Tryz.func225, Tryz.ntmps225
  go_wp2_with fail
  refine hN1.out.mono ?_
  rintro e w1 ⟨r, rfl, hr, hc, hk⟩
  have hr2 : r < xs.length := by omega
  obtain ⟨hsz, b, off, rfl, hcell⟩ := (hx.keep hk (fun b hb e => hg (by simp at e; rw [← e]; exact hb)) (by decide)).str.2.2 r hr2
  clear hr
  have hm := List.getElem_mem hr2
  generalize xs[r] = s at *
  go_wp2_with fail
  refine bodyPost_ret (v := .string s) ?_ rfl ⟨s, hm, rfl, hc, hk⟩
  simp [results, Tryz.results225, go_sem]
def PAmong (B g : Nat) (F : CuF) (xs : List Int) (w : World) (e : Ending) (w' : World) : Prop := ∃ s ∈ xs, e = .returned (.int .i64 s) ∧ Cur (B + 2) w' g F ∧ Keep [g] w w'
theorem among_c (B g : Nat) (F : CuF) (v : Value) (xs : List Int) (K : List Nat) (w : World) (h : Cur B w g F) (hB0 : B ≤ 1099511627774) (hx : Sl EInt w v xs K) (h0 : 0 < xs.length) (h1 : xs.length ≤ 1048576) (hg : g ∉ K) :
    Calls Tryz.prog 146 #[.pointer (some ⟨g, 0, none⟩), v] w (PAmong B g F xs w) := by
  obtain ⟨a, c, rfl⟩ := hx.slice
  have hN1 := Lib.hid (pick_c B g F xs.length w h hB0 (by omega))
  go_enter Tryz.func146, Tryz.ntmps146
  go_wp2_with fail
  refine hN1.out.mono ?_
  rintro e w1 ⟨r, rfl, hr, hc, hk⟩
  have hr2 : r < xs.length := by omega
  obtain ⟨b, off, rfl, hcell⟩ := (hx.keep hk (fun b hb e => hg (by simp at e; rw [← e]; exact hb)) (by decide)).int.2.2 r hr2
  clear hr
  have hm := List.getElem_mem hr2
  generalize xs[r] = s at *
  go_wp2_with fail
  refine bodyPost_ret (v := .int .i64 s) ?_ rfl ⟨s, hm, rfl, hc, hk⟩
  simp [results, Tryz.results146, go_sem]
end Go.Proofs.YtgogcgkocjpgoaaGreatDoor
/- Draws, for the engine: the cursor. -/
namespace Go.Proofs.YtgogcgkocjpgoaaGreatDoor
open Go.RowKit
structure CuS where
  k : Nat
  seed : Int
structure CuOk (B : Nat) (s : CuS) : Prop where
  k : s.k ≤ B
  s0 : 0 ≤ s.seed
  s1 : s.seed < 18446744073709551616
theorem CuOk.mono {B B' : Nat} {s : CuS} (h : CuOk B s) (hb : B ≤ B') : CuOk B' s := ⟨Nat.le_trans h.k hb, h.s0, h.s1⟩
theorem cu_fn {f : FuncId} {args : List Value} {σ : Type} {C : σ → Prop} {v : σ → Value} {B B' g : Nat} {F : CuF} {s : CuS} {X : List Pc} (hX : X.all (fun p => !p.mu) = true) (ok : CuOk B s)
    (h : ∀ w, Cur B w g F → Hol X w → (∀ p ∈ X, g ∉ p.F) → Calls Tryz.prog f args.toArray w fun e w' => ∃ r, C r ∧ e = .returned (v r) ∧ Cur B' w' g F ∧ Keep [g] w w') :
    Fn Tryz.prog f args (.sl EByte (.slice F.a F.code.length F.c) F.code F.bs :: X) [.row g 123 0 [] [.slice F.a F.code.length F.c, .int .i64 (s.k : Nat), .int .u64 s.seed] []] (fun (z : σ × CuS) => C z.1 ∧ CuOk B' z.2) (fun z => v z.1) (fun z => [.row g 123 0 [] [.slice F.a F.code.length F.c, .int .i64 (z.2.k : Nat), .int .u64 z.2.seed] []]) := fun w hH hS => by
  have h1 := hH (.row g 123 0 [] [.slice F.a F.code.length F.c, .int .i64 (s.k : Nat), .int .u64 s.seed] []) (by simp)
  have h2 := hH (.sl EByte (.slice F.a F.code.length F.c) F.code F.bs) (by simp)
  have ap := hS.1
  have hg : g ∉ F.bs := fun hm => ap (.sl EByte (.slice F.a F.code.length F.c) F.code F.bs) (by simp) (by simp [Pc.mu]) g (by simp [Pc.F]) hm
  refine (h w ⟨s.k, s.seed, by simpa using h1.2, h2.2, hg, ok.k, ok.s0, ok.s1⟩ (fun p hp => hH p (by simp [hp])) (fun p hp hm => ap p (by simp [hp]) (by simp [Pc.mu]) g (by simp [Pc.F]) hm)).mono ?_
  rintro e w' ⟨r, hC, he, ⟨k, seed, R, S, -, hk, h0, h3⟩, hK⟩
  refine ⟨(r, ⟨k, seed⟩), ⟨hC, hk, h0, h3⟩, he, hol1 ⟨rfl, by simpa using R⟩, ⟨by simp, trivial⟩, hK.mono (fun b hb _ => by simpa [fp, Pc.F] using hb), fun p hp b hb => ?_⟩
  simp at hp
  subst hp
  exact .inr (.inl ⟨_, List.mem_cons_self .., by simpa [Pc.F] using hb⟩)
theorem pick_f (B g : Nat) (F : CuF) (n : Int) (s : CuS) (ok : CuOk B s) (hB : B ≤ 1000000000000) (hn : n ≤ 1048576) :
    Fn Tryz.prog 126 [ptr g 0 0, .int .i64 n] [.sl EByte (.slice F.a F.code.length F.c) F.code F.bs] [.row g 123 0 [] [.slice F.a F.code.length F.c, .int .i64 (s.k : Nat), .int .u64 s.seed] []] (fun (z : Nat × CuS) => (z.1 = 0 ∨ (z.1 : Int) < n) ∧ CuOk (B + 2) z.2) (fun z => .int .i64 (z.1 : Nat)) (fun z => [.row g 123 0 [] [.slice F.a F.code.length F.c, .int .i64 (z.2.k : Nat), .int .u64 z.2.seed] []]) :=
  cu_fn (C := fun r : Nat => r = 0 ∨ (r : Int) < n) (v := fun r => .int .i64 (r : Nat)) (X := []) rfl ok fun w h _ _ => (pick_c B g F n w h (by omega) hn).mono fun _ _ ⟨r, he, h1, h2, h3⟩ => ⟨r, h1, he, h2, h3⟩
theorem one_f (B g : Nat) (F : CuF) (n : Int) (s : CuS) (ok : CuOk B s) (hB : B ≤ 1000000000000) (hn : n ≤ 1048576) :
    Fn Tryz.prog 95 [ptr g 0 0, .int .i64 n] [.sl EByte (.slice F.a F.code.length F.c) F.code F.bs] [.row g 123 0 [] [.slice F.a F.code.length F.c, .int .i64 (s.k : Nat), .int .u64 s.seed] []] (fun (z : Bool × CuS) => True ∧ CuOk (B + 2) z.2) (fun z => .bool z.1) (fun z => [.row g 123 0 [] [.slice F.a F.code.length F.c, .int .i64 (z.2.k : Nat), .int .u64 z.2.seed] []]) :=
  cu_fn (C := fun _ : Bool => True) (v := fun r => .bool r) (X := []) rfl ok fun w h _ _ => (one_c B g F n w h (by omega) hn).mono fun _ _ ⟨r, he, h2, h3⟩ => ⟨r, trivial, he, h2, h3⟩
theorem of_f (B g : Nat) (F : CuF) (v : Value) (xs : List ByteArray) (G : List Nat) (s : CuS) (ok : CuOk B s) (hB : B ≤ 1000000000000) (h0 : 0 < xs.length) (h1 : xs.length ≤ 1048576) :
    Fn Tryz.prog 225 [ptr g 0 0, v] [.sl EByte (.slice F.a F.code.length F.c) F.code F.bs, .sl EStr v xs G] [.row g 123 0 [] [.slice F.a F.code.length F.c, .int .i64 (s.k : Nat), .int .u64 s.seed] []] (fun (z : ByteArray × CuS) => z.1 ∈ xs ∧ CuOk (B + 2) z.2) (fun z => .string z.1) (fun z => [.row g 123 0 [] [.slice F.a F.code.length F.c, .int .i64 (z.2.k : Nat), .int .u64 z.2.seed] []]) :=
  cu_fn (C := fun r : ByteArray => r ∈ xs) (v := fun r => .string r) (X := [.sl EStr v xs G]) rfl ok fun w h hX hg => (of_c B g F v xs G w h (by omega) (hX (.sl EStr v xs G) (by simp)).2 h0 h1 (hg (.sl EStr v xs G) (by simp))).mono fun _ _ ⟨r, h1, he, h2, h3⟩ => ⟨r, h1, he, h2, h3⟩
theorem among_f (B g : Nat) (F : CuF) (v : Value) (xs : List Int) (G : List Nat) (s : CuS) (ok : CuOk B s) (hB : B ≤ 1000000000000) (h0 : 0 < xs.length) (h1 : xs.length ≤ 1048576) :
    Fn Tryz.prog 146 [ptr g 0 0, v] [.sl EByte (.slice F.a F.code.length F.c) F.code F.bs, .sl EInt v xs G] [.row g 123 0 [] [.slice F.a F.code.length F.c, .int .i64 (s.k : Nat), .int .u64 s.seed] []] (fun (z : Int × CuS) => z.1 ∈ xs ∧ CuOk (B + 2) z.2) (fun z => .int .i64 z.1) (fun z => [.row g 123 0 [] [.slice F.a F.code.length F.c, .int .i64 (z.2.k : Nat), .int .u64 z.2.seed] []]) :=
  cu_fn (C := fun r : Int => r ∈ xs) (v := fun r => .int .i64 r) (X := [.sl EInt v xs G]) rfl ok fun w h hX hg => (among_c B g F v xs G w h (by omega) (hX (.sl EInt v xs G) (by simp)).2 h0 h1 (hg (.sl EInt v xs G) (by simp))).mono fun _ _ ⟨r, h1, he, h2, h3⟩ => ⟨r, h1, he, h2, h3⟩
end Go.Proofs.YtgogcgkocjpgoaaGreatDoor
/- The type Slot of the exact laws: how it reads, how it is owned; the walks of its size, copy, equality, mark and held. Written by wip/gentypes.py. -/
namespace Go.Proofs.YtgogcgkocjpgoaaGreatDoor
open Go.RowKit
structure Slot where
  hav : Bool
  item : ByteArray
/-- read -/
def ESlot : Elem Slot where
  sz := 2
  rep _ cs x F := cs = [.bool x.hav, .string x.item] ∧ x.item.size ≤ maxLen ∧ F = []
  len h := by obtain ⟨rfl, s1, rfl⟩ := h; rfl
  lt h := by obtain ⟨rfl, s1, rfl⟩ := h; simp
  frame h _ := h
theorem one_ESlot : One ESlot := fun h u hu => by
  obtain ⟨rfl, s1, rfl⟩ := h
  simp only [List.mem_cons, List.not_mem_nil, or_false] at hu
  rcases hu with rfl | rfl
  · rfl
  · rfl
theorem scal_ESlot : Scal ESlot := fun h => by obtain ⟨rfl, s1, rfl⟩ := h; rfl
theorem info_Slot : (Tryz.prog.info? 213).map (fun i => (i.zero, i.size, i.bytes)) = some (some (.agg #[.bool false, .string ⟨#[]⟩]), 2, 24) := by kernel_rfl
end Go.Proofs.YtgogcgkocjpgoaaGreatDoor
/- The type ReceiveWindow of the exact laws: how it reads, how it is owned; the walks of its size, copy, equality, mark and held. Written by wip/gentypes.py. -/
namespace Go.Proofs.YtgogcgkocjpgoaaGreatDoor
open Go.RowKit
structure ReceiveWindow where
  next : Int
  slots : List Slot
/-- read -/
def EReceiveWindow : Elem ReceiveWindow where
  sz := 2
  rep w cs x F := ∃ v1, cs = [.int .i64 x.next, v1] ∧ Sl ESlot w v1 x.slots F
  len h := by obtain ⟨v1, rfl, h1⟩ := h; rfl
  lt h := by obtain ⟨v1, rfl, h1⟩ := h; exact h1.lt (by decide)
  frame h hF := by obtain ⟨v1, rfl, h1⟩ := h; exact ⟨v1, rfl, h1.frame hF⟩
end Go.Proofs.YtgogcgkocjpgoaaGreatDoor
/- Structs of type ReceiveWindow in a walk's state: opened, closed. -/
namespace Go.Proofs.YtgogcgkocjpgoaaGreatDoor
open Go.RowKit
section
variable {c : Cx} {fr : Fr} {H : List Pc} {Φ : Gl}
theorem openReceiveWindow {v : Value} {x : ReceiveWindow} {F : List Nat} (h : ∀ (a1 : Option Addr) (c1 : Nat) (F1 : List Nat), v = .agg #[.int .i64 x.next, .slice a1 x.slots.length c1] → x.slots.length ≤ maxLen → T c fr (.sl ESlot (.slice a1 x.slots.length c1) x.slots F1 :: H) Φ) (hm : .isv EReceiveWindow v x F ∈ H := by (repeat (first | exact .head _ | apply List.Mem.tail)); first | done | fail) : T c fr H Φ := .mk fun a w s g => by
  obtain ⟨cs, rfl, v1, rfl, h1⟩ := s.get hm
  obtain ⟨a1, c1, rfl⟩ := h1.slice; have l1 := h1.len
  have t1 := s.ro (p := .sl ESlot (.slice a1 x.slots.length c1) x.slots F) hm rfl rfl ⟨by decide, h1⟩ fun b hb => hb
  exact (h a1 c1 F rfl  l1).h a w t1 g
theorem closeReceiveWindow (x : ReceiveWindow) {a1 : Option Addr} {c1 : Nat} {F1 : List Nat}  (h : T c fr (.isv EReceiveWindow (.agg #[.int .i64 x.next, .slice a1 x.slots.length c1]) x (F1) :: H) Φ) (m1 : .sl ESlot (.slice a1 x.slots.length c1) x.slots F1 ∈ H := by (repeat (first | exact .head _ | apply List.Mem.tail)); first | done | fail) : T c fr H Φ := .mk fun a w s g => by
  have hP : IsV EReceiveWindow w (.agg #[.int .i64 x.next, .slice a1 x.slots.length c1]) x (F1) := ⟨_, rfl, _, rfl, (s.get m1).2⟩
  refine h.h a w (s.add (N := [.isv EReceiveWindow (.agg #[.int .i64 x.next, .slice a1 x.slots.length c1]) x (F1)]) (Below.refl _ _) (by intro q hq; simp at hq; subst hq; exact hP) ⟨by simp, trivial⟩ fun q hq b hb => ?_) g
  simp at hq; subst hq
  simp only [Pc.F, List.mem_append] at hb
  exact .inr ⟨rfl, _, m1, rfl, hb⟩
end
end Go.Proofs.YtgogcgkocjpgoaaGreatDoor
/- Structs of type Slot in a walk's state: opened, closed. -/
namespace Go.Proofs.YtgogcgkocjpgoaaGreatDoor
open Go.RowKit
section
variable {c : Cx} {fr : Fr} {H : List Pc} {Φ : Gl}
theorem openSlot {v : Value} {x : Slot} {F : List Nat} (h : ∀ (_ : Unit), v = .agg #[.bool x.hav, .string x.item] → x.item.size ≤ maxLen → T c fr (H) Φ) (hm : .isv ESlot v x F ∈ H := by (repeat (first | exact .head _ | apply List.Mem.tail)); first | done | fail) : T c fr H Φ := .mk fun a w s g => by
  obtain ⟨cs, rfl, rfl, s1, rfl⟩ := s.get hm
  exact (h () rfl s1 ).h a w s g
theorem atSlot {a : Option Addr} {n cp : Nat} {xs : List Slot} {F : List Nat} (i : Nat) (h : ∀ (hi : i < xs.length) (b o : Nat), a = some ⟨b, o, none⟩ → xs[i].item.size ≤ maxLen → T c fr (.cel b (o + i * 2) [.bool xs[i].hav, .string xs[i].item] :: H) Φ) (hm : .sl ESlot (.slice a n cp) xs F ∈ H := by (repeat (first | exact .head _ | apply List.Mem.tail)); first | done | fail) (hi : i < xs.length := by omega) : T c fr H Φ := .mk fun ac w s g => by
  obtain ⟨b, o, cs, G, ha, hrep, hG, hb, hne, hr⟩ := sl_at (s.get hm) i hi
  obtain ⟨rfl, s1, rfl⟩ := hrep
  exact (h hi b o  ha s1 ).h ac w (s.ro hm rfl rfl ⟨hne, hr⟩ (by intro x hx; simp [Pc.F] at hx; subst hx; exact hb)) g
theorem focSlot {t : TypeId} {a : Option Addr} {n cp : Nat} {xs : List Slot} {F : List Nat} {S : List Pc} (i : Nat) (h : ∀ (_ : i < xs.length) g A B, a = some ⟨g, 0, none⟩ → F = [g] → xs[i].item.size ≤ maxLen → Hole ESlot t g (.slice (some ⟨g, 0, none⟩) n cp) xs i A B → T c fr (.row g t (0 + i * 2) A [.bool xs[i].hav, .string xs[i].item] B :: S) Φ) (hp : Pick H (.ow ESlot t (.slice a n cp) xs F) S := by (repeat (first | exact .here | apply Pick.there)); first | done | fail) (hi : i < xs.length := by omega) : T c fr H Φ :=
  focF scal_ESlot i (fun hi g A cs B ha hF hr hh => by obtain ⟨rfl, s1, -⟩ := hr default; exact h hi g A B ha hF s1 hh) hp rfl hi
end
end Go.Proofs.YtgogcgkocjpgoaaGreatDoor
/- Walks of the small functions on elements: serials, clocks, faces. -/
namespace Go.Proofs.YtgogcgkocjpgoaaGreatDoor
open Go.RowKit

def isSer (x : Int) : Bool := btw 0 x 65535
def isClk (x : Int) : Bool := btw 0 x 9999
theorem IsSerial_c (x : Int) (w : World) : Calls Tryz.prog 130 #[.int .i64 x] w fun e w' => e = .returned (.bool (isSer x)) ∧ w = w' := by
  go_enter Tryz.func130, Tryz.ntmps130
  go_wp2_with (go_at_call 151; refine (within_c _ _ _ _).mono ?_; rintro e w' ⟨rfl, rfl⟩)
  go_ret
  exact ⟨rfl, rfl⟩
theorem l2Good_c (x : Int) (w : World) : Calls Tryz.prog 141 #[.int .i64 x] w fun e w' => e = .returned (.bool (isSer x)) ∧ w = w' := by
  go_enter Tryz.func141, Tryz.ntmps141
  go_wp2_with (go_at_call 177; refine (l1In_c _ _ _ _).mono ?_; rintro e w' ⟨rfl, rfl⟩)
  go_ret
  exact ⟨rfl, rfl⟩
theorem isClock_c (x : Int) (w : World) : Calls Tryz.prog 132 #[.int .i64 x] w fun e w' => e = .returned (.bool (isClk x)) ∧ w = w' := by
  go_enter Tryz.func132, Tryz.ntmps132
  go_wp2_with (go_at_call 151; refine (within_c _ _ _ _).mono ?_; rintro e w' ⟨rfl, rfl⟩)
  go_ret
  exact ⟨rfl, rfl⟩
theorem l11Clock_c (x : Int) (w : World) : Calls Tryz.prog 147 #[.int .i64 x] w fun e w' => e = .returned (.bool (isClk x)) ∧ w = w' := by
  go_enter Tryz.func147, Tryz.ntmps147
  go_wp2_with (go_at_call 177; refine (l1In_c _ _ _ _).mono ?_; rintro e w' ⟨rfl, rfl⟩)
  go_ret
  exact ⟨rfl, rfl⟩
end Go.Proofs.YtgogcgkocjpgoaaGreatDoor
/- Walks: serials: what lies behind, gaps, what is before what. -/
namespace Go.Proofs.YtgogcgkocjpgoaaGreatDoor
open Go.RowKit

theorem isSer_iff {x : Int} : isSer x = true ↔ 0 ≤ x ∧ x ≤ 65535 := by unfold isSer btw; simp
/-- the serial n steps behind x -/
def aft (x n : Int) : Int := (x + n) % 65536
/-- the gap from a to b -/
def gp (a b : Int) : Int := (b - a) % 65536
def bef (a b : Int) : Bool := btw 1 (gp a b) 32767
theorem gp_bd (a b : Int) : 0 ≤ gp a b ∧ gp a b ≤ 65535 := by unfold gp; omega
theorem aft_bd (a b : Int) : 0 ≤ aft a b ∧ aft a b ≤ 65535 := by unfold aft; omega
theorem aft_ser (a b : Int) : isSer (aft a b) = true := isSer_iff.2 (aft_bd a b)
theorem tmod_twice (z : Int) : ((z.tmod 65536) + 65536).tmod 65536 = z % 65536 := by
  rw [Int.tmod_eq_emod (a := z.tmod 65536 + 65536), Int.tmod_eq_emod]
  split <;> split <;> omega
theorem tmod_bd (z : Int) : -65535 ≤ z.tmod 65536 ∧ z.tmod 65536 ≤ 65535 := by
  rw [Int.tmod_eq_emod]
  split <;> omega
theorem after_c (x n : Int) (w : World) (h0 : -4611686018427387904 ≤ x + n) (h1 : x + n ≤ 4611686018427387904) :
    Calls Tryz.prog 152 #[.int .i64 x, .int .i64 n] w fun e w' => e = .returned (.int .i64 (aft x n)) ∧ w = w' := by
  have hb := tmod_bd (x + n)
  have hb1 := hb.1
  have hb2 := hb.2
  clear hb
  by_cases hz : 0 ≤ x + n
  · go_enter Tryz.func152, Tryz.ntmps152
    go_wp2
    go_ret
    exact ⟨ret_int (by unfold aft; omega), rfl⟩
  · have ht := tmod_twice (x + n)
    have ht := Lib.hid ht
    go_enter Tryz.func152, Tryz.ntmps152
    go_wp2
    go_ret
    refine ⟨ret_int ?_, rfl⟩
    have := ht.out
    rw [Int.tmod_eq_emod (a := (x + n).tmod 65536 + 65536)] at this
    unfold aft
    split at this <;> omega
theorem gap_c (a b : Int) (w : World) (h0 : -4611686018427387904 ≤ b - a) (h1 : b - a ≤ 4611686018427387904) (ha : -4611686018427387904 ≤ a) (ha' : a ≤ 4611686018427387904) :
    Calls Tryz.prog 131 #[.int .i64 a, .int .i64 b] w fun e w' => e = .returned (.int .i64 (gp a b)) ∧ w = w' := by
  go_enter Tryz.func131, Tryz.ntmps131
  go_wp2_with fail
  refine (after_c b (-a) _ (by omega) (by omega)).mono ?_
  rintro e w' ⟨rfl, rfl⟩
  go_wp2_with fail
  go_ret
  exact ⟨ret_int (by unfold aft gp; omega), rfl⟩
theorem isBefore_c (a b : Int) (w : World) (h0 : -4611686018427387904 ≤ b - a) (h1 : b - a ≤ 4611686018427387904) (ha : -4611686018427387904 ≤ a) (ha' : a ≤ 4611686018427387904) :
    Calls Tryz.prog 150 #[.int .i64 a, .int .i64 b] w fun e w' => e = .returned (.bool (bef a b)) ∧ w = w' := by
  go_enter Tryz.func150, Tryz.ntmps150
  go_wp2_with fail
  refine (gap_c a b _ h0 h1 ha ha').mono ?_
  rintro e w' ⟨rfl, rfl⟩
  go_wp2_with fail
  refine (within_c _ _ _ _).mono ?_
  rintro e w' ⟨rfl, rfl⟩
  go_wp2_with fail
  go_ret
  exact ⟨rfl, rfl⟩
theorem l2After_c (x n : Int) (w : World) (h0 : -131072 ≤ x + n) (h1 : x + n ≤ 4611686018427387904) :
    Calls Tryz.prog 185 #[.int .i64 x, .int .i64 n] w fun e w' => e = .returned (.int .i64 (aft x n)) ∧ w = w' := by
  have h2 : 0 ≤ x + n + 131072 := by omega
  go_enter Tryz.func185, Tryz.ntmps185
  go_wp2
  go_ret
  exact ⟨ret_int (by unfold aft; omega), rfl⟩
theorem l2Gap_c (a b : Int) (w : World) (h0 : -65536 ≤ b - a) (h1 : b - a ≤ 4611686018427387904) :
    Calls Tryz.prog 205 #[.int .i64 a, .int .i64 b] w fun e w' => e = .returned (.int .i64 (gp a b)) ∧ w = w' := by
  have h2 : 0 ≤ b - a + 65536 := by omega
  go_enter Tryz.func205, Tryz.ntmps205
  go_wp2
  go_ret
  exact ⟨ret_int (by unfold gp; omega), rfl⟩
theorem l2Before_c (a b : Int) (w : World) (h0 : -65536 ≤ b - a) (h1 : b - a ≤ 4611686018427387904) :
    Calls Tryz.prog 222 #[.int .i64 a, .int .i64 b] w fun e w' => e = .returned (.bool (bef a b)) ∧ w = w' := by
  go_enter Tryz.func222, Tryz.ntmps222
  go_wp2_with fail
  refine (l2Gap_c a b _ h0 h1).mono ?_
  rintro e w' ⟨rfl, rfl⟩
  go_wp2_with fail
  refine (l1In_c _ _ _ _).mono ?_
  rintro e w' ⟨rfl, rfl⟩
  go_wp2_with fail
  go_ret
  exact ⟨rfl, rfl⟩
end Go.Proofs.YtgogcgkocjpgoaaGreatDoor
/- Walks: items: texts of at most eight small letters. -/
namespace Go.Proofs.YtgogcgkocjpgoaaGreatDoor
open Go.RowKit Go.Shelf

def low (b : UInt8) : Bool := btw 97 b.toNat 122
def lows (l : List UInt8) : Bool := l.all low
def itm (s : ByteArray) : Bool := decide ((s.size : Int) ≤ 8) && lows s.data.toList
def abc : List UInt8 := [97, 98, 99, 100, 101, 102, 103, 104, 105, 106, 107, 108, 109, 110, 111, 112, 113, 114, 115, 116, 117, 118, 119, 120, 121, 122]
theorem abc_low (b : UInt8) : abc.contains b = low b := by
  have h : ∀ n : Fin 256, abc.contains (UInt8.ofNat n.val) = low (UInt8.ofNat n.val) := by decide +kernel
  have := h ⟨b.toNat, b.toNat_lt⟩
  simpa using this
theorem dropWhile_nil {α : Type} (p : α → Bool) (l : List α) : l.dropWhile p = [] ↔ l.all p = true := by
  induction l with
  | nil => simp
  | cons x r ih => rw [List.dropWhile_cons]; cases h : p x <;> simp [h, ih]
theorem all_dropWhile {α : Type} (p : α → Bool) (l : List α) : (l.dropWhile p).all p = l.all p := by
  induction l with
  | nil => simp
  | cons x r ih => rw [List.dropWhile_cons]; cases h : p x <;> simp [h, ih]
theorem trimS_nil (l cs : List UInt8) : (Lib.trimS l cs = []) ↔ l.all (cs.contains ·) = true := by
  unfold Lib.trimS Lib.trimLeftS Lib.trimRightS
  rw [dropWhile_nil, List.all_reverse, all_dropWhile, List.all_reverse]
theorem trim_abc (l : List UInt8) : (Lib.trimS l abc == []) = lows l := by
  rw [Bool.eq_iff_iff, beq_iff_eq, trimS_nil]
  unfold lows
  rw [show (fun b => abc.contains b) = low from funext abc_low]
set_option maxHeartbeats 400000 in
theorem isItem_c (s : ByteArray) (w : World) (hs : s.size ≤ maxLen) :
    Calls Tryz.prog 210 #[.string s] w fun e w' => e = .returned (.bool (itm s)) ∧ Below w.heap.size w w' := by
  unfold maxLen at hs
  have hc := fun w => Any.strings_Trim_laid Tryz.lays160 (by kernel_rfl) s ⟨abc.toArray⟩ w hs (by decide) (ascii_of_all (by decide))
  change ∀ w, Calls Tryz.prog 262 #[.string s, .string ⟨abc.toArray⟩] w (fun e w' => e = .returned (.string ⟨(Lib.trimS s.data.toList abc).toArray⟩) ∧ Below w.heap.size w w') at hc
  have ht := trim_abc s.data.toList
  replace hc := Lib.hid hc
  by_cases h8 : s.size ≤ 8
  · generalize Lib.trimS s.data.toList abc = t at *
    have hi : itm s = (t == []) := by unfold itm; rw [ht, decide_eq_true (by omega)]; rfl
    replace hi := Lib.hid hi
    clear ht
    cases t with
    | nil =>
      go_enter Tryz.func210, Tryz.ntmps210
      go_wp2_with fail
      refine (hc.out _).mono ?_
      rintro e w1 ⟨rfl, hb⟩
      go_wp2_with fail
      go_ret
      exact ⟨ret_bool hi.out.symm, hb⟩
    | cons a r =>
      go_enter Tryz.func210, Tryz.ntmps210
      go_wp2_with fail
      refine (hc.out _).mono ?_
      rintro e w1 ⟨rfl, hb⟩
      go_wp2_with fail
      go_ret
      exact ⟨ret_bool hi.out.symm, hb⟩
  · have hi : itm s = false := by unfold itm; rw [decide_eq_false (by omega)]; rfl
    replace hi := Lib.hid hi
    go_enter Tryz.func210, Tryz.ntmps210
    go_wp2_with fail
    go_ret
    exact ⟨ret_bool hi.out.symm, Below.refl _ _⟩
theorem lows_drop (s : ByteArray) (k : Nat) (h : k < s.size) : lows (s.data.toList.drop k) = (low s[k] && lows (s.data.toList.drop (k + 1))) := by rw [drop_at s k h]; rfl
set_option maxHeartbeats 400000 in
theorem l4Letters_c (s : ByteArray) (n : Int) (w : World) (hs : s.size ≤ maxLen) :
    Calls Tryz.prog 206 #[.string s, .int .i64 n] w fun e w' => e = .returned (.bool (decide ((s.size : Int) ≤ n) && lows s.data.toList)) ∧ w = w' := by
  unfold maxLen at hs
  go_enter Tryz.func206, Tryz.ntmps206
  go_wp2
  go_loop [5] (fun i => ∃ k : Nat, k ≤ s.size ∧ i = .int .i64 k ∧ Hid (lows s.data.toList = lows (s.data.toList.drop k))) (fun i => s.size - (intOf i).toNat)
  case atStart => exact ⟨0, Nat.zero_le _, rfl, rfl⟩
  case round =>
    obtain ⟨k, hk, rfl, hz⟩ := hrel
    by_cases hlt : k < s.size
    · have hz := Lib.hid (hz.out.trans (lows_drop s k hlt))
      have hb : (s[k].toNat : Int) ≤ 255 := by have := s[k].toNat_lt; omega
      cases hl : low s[k]
      · have hl1 : low s[k] = false := hl
        unfold low btw at hl
        by_cases h1 : (s[k].toNat : Int) < 97
        · clear hl
          go_wp2
          go_ret
          exact ⟨ret_bool (by rw [hz.out, hl1]; simp), rfl⟩
        · have h2 : (122 : Int) < s[k].toNat := by simp at hl; omega
          clear hl
          go_wp2
          go_ret
          exact ⟨ret_bool (by rw [hz.out, hl1]; simp), rfl⟩
      · have hl1 : low s[k] = true := hl
        unfold low btw at hl
        simp only [Bool.and_eq_true, decide_eq_true_eq] at hl
        have h1 : ¬ (s[k].toNat : Int) < 97 := by omega
        have h2 : ¬ (122 : Int) < s[k].toNat := by omega
        clear hl
        replace hl1 := Lib.hid hl1
        go_wp2
        go_round
        case rel => exact ⟨k + 1, by omega, by go_num, by refine Lib.hid ?_; rw [hz.out, hl1.out]; rfl⟩
        case measure => simp [intOf]; omega
    · go_wp2
      go_ret
      exact ⟨ret_bool (by rw [hz.out, drop_end s k hlt]; simp [lows]), rfl⟩
end Go.Proofs.YtgogcgkocjpgoaaGreatDoor
/- Walks of Go's generic library functions on slices of impl.Slot. Written by wip/genlib.py. -/
namespace Go.Proofs.YtgogcgkocjpgoaaGreatDoor
open Go.RowKit
set_option maxHeartbeats 800000 in
set_option maxRecDepth 100000 in
theorem IndexFunc_Slot (fid : FuncId) (hbd : Body Tryz.prog fid) (caps : Array Value) (v : Value) (xs : List Slot) (F : List Nat) (p : Slot → Bool) (w : World) (h : Sl ESlot w v xs F)
    (hp : ∀ (k : Nat) (hk : k < xs.length) (wr : World) (u : Value) (G : List Nat), Below w.heap.size w wr → IsV ESlot wr u xs[k] G → Calls Tryz.prog fid (#[u] ++ caps) wr fun e w' => e = .returned (.bool (p xs[k])) ∧ Below wr.heap.size wr w') :
    Calls Tryz.prog 268 #[v, .func (.func fid) #[] caps] w fun e w' => e = .returned (.int .i64 (fidx p xs)) ∧ Below w.heap.size w w' := by
  obtain ⟨a, cap, rfl⟩ := h.slice
  have hl := h.len
  unfold maxLen at hl
  go_enter Tryz.func268, Tryz.ntmps268
  go_wp2
  go_loopw [5, 8] (fun _ i wr => ∃ k : Nat, k ≤ xs.length ∧ i = .int .i64 k ∧ Hid (∀ j, j < k → ∀ hj : j < xs.length, p xs[j] = false) ∧ Below w.heap.size w wr) (fun _ i _ => xs.length - (intOf i).toNat)
  case atStart => exact ⟨0, Nat.zero_le _, rfl, fun j hj => by omega, Below.refl _ _⟩
  case round =>
    obtain ⟨k, hk, rfl, hz, hB⟩ := hrel
    by_cases hlt : k < xs.length
    · have hz0 := hz; clear hz
      obtain ⟨b, off, _, F1, rfl, hx, -, ja⟩ := (h.below (by decide) hB).at k hlt
      obtain ⟨rfl, s1, rfl⟩ := id hx
      have a0 := ja 0 (by decide)
      have a1 := ja 1 (by decide)
      simp only [show ESlot.sz = 2 from rfl, Nat.mul_one, Nat.add_zero, List.getElem?_cons_zero, List.getElem?_cons_succ] at a0 a1
      clear ja
      have hr := hp k hlt wr _ _ hB ⟨_, rfl, hx⟩
      have hp := Lib.hid hp
      cases hpk : p xs[k]
      all_goals
        rw [hpk] at hr
        have hpk := Lib.hid hpk
        have hr := Lib.hid hr
        go_wp2_with fail
        refine hbd.upon hr.out ?_
        rintro e w1 ⟨rfl, hb1⟩
        refine ⟨_, rfl, ?_⟩
        have hB := tr hB hb1 (Nat.le_refl _)
        clear hb1
        go_wp2_with fail
      · exact ⟨⟨k + 1, by omega, by go_num, fun j hj hl => by rcases Nat.lt_or_eq_of_le (Nat.le_of_lt_succ hj) with h | h; exact hz0.out j h hl; subst h; exact hpk.out, hB⟩, by simp [intOf]; omega⟩
      · go_ret
        exact ⟨ret_int (fidx_hit hlt hz0.out hpk.out).symm, hB⟩
    · go_wp2
      go_ret
      exact ⟨ret_int (fidx_none (fun j hj => hz.out j (by omega) hj)).symm, hB⟩
theorem ContainsFunc_Slot (fid : FuncId) (hbd : Body Tryz.prog fid) (caps : Array Value) (v : Value) (xs : List Slot) (F : List Nat) (p : Slot → Bool) (w : World) (h : Sl ESlot w v xs F)
    (hp : ∀ (k : Nat) (hk : k < xs.length) (wr : World) (u : Value) (G : List Nat), Below w.heap.size w wr → IsV ESlot wr u xs[k] G → Calls Tryz.prog fid (#[u] ++ caps) wr fun e w' => e = .returned (.bool (p xs[k])) ∧ Below wr.heap.size wr w') :
    Calls Tryz.prog 216 #[v, .func (.func fid) #[] caps] w fun e w' => e = .returned (.bool (xs.any p)) ∧ Below w.heap.size w w' := by
  have hp := Lib.hid hp
  go_enter Tryz.func216, Tryz.ntmps216
  go_wp2_with fail
  refine (IndexFunc_Slot fid hbd caps v xs F p _ h hp.out).mono ?_
  rintro e w1 ⟨rfl, hb1⟩
  go_wp2_with fail
  go_ret
  exact ⟨ret_bool (fidx_any p xs), hb1⟩
theorem Clone_Slot (v : Value) (xs : List Slot) (F : List Nat) (w : World) (h : Sl ESlot w v xs F) (hm : xs.length ≤ 4294967296) :
    Calls Tryz.prog 252 #[v] w (RetNew ESlot 213 xs w) := by
  obtain ⟨ao, c, news, Fy, rfl, hl, hfy, hFy, hsrc⟩ := h.src
  have hFl := hfy.lt
  have he := fun w (a : Option Addr) (n c : Nat) => Lib.run_eql_slice_nil (P := Tryz.prog) w 44 _ a n c 0 0 Tryz.underlying44
  go_enter Tryz.func252, Tryz.ntmps252
  rcases hsrc with ⟨rfl, rfl, rfl⟩ | ⟨ad, rfl, hn⟩
  · go_wp2
    go_ret
    exact ⟨.slice none 0 0, [], rfl, .inl ⟨rfl, rfl, rfl⟩, by simp, by simp, Below.refl _ _⟩
  · go_wp2_with (at_builtin; refine wpList_apd one_ESlot (by decide) (by rfl) _ _ _ (by rfl) 213 (.agg #[.bool false, .string ⟨#[]⟩]) 24 Tryz.underlying44 info_Slot rfl (.slice (some ⟨w.heap.size, 0, none⟩) 0 0) [] [w.heap.size] (by rfl) (Ow.empty (Row.made _ _ _)) (Hd.one _) (some ad) xs c (by rfl) news Fy (hfy.frame fun b hb => Below.heap_alloc _ _ _ (hFl b hb)) (.inr ⟨ad, rfl, fun j u hu => kc ((Below.refl _ _).alloc (Nat.le_refl _) _) (hn j u hu)⟩) (fun b hb e => by have := hFl b hb; simp [Value.ownBlock] at e; omega) (by simpa using hl) (by unfold maxLen at hl; simp; omega) ?_)
    intro v2 w2 F2 hA
    go_wp2_with fail
    go_ret
    have hB : Below w.heap.size w w2 := ((Below.refl _ _).alloc (Nat.le_refl _) _).trans (hA.keep.below (by simp) (by simp))
    have hs : ∀ b, v2.ownBlock = some b → w.heap.size ≤ b := fun b hb => by rcases hA.same with e | e <;> rw [e] at hb <;> simp [Value.ownBlock] at hb <;> omega
    refine ⟨v2, F2, rfl, by simpa using hA.ow, hA.ow.scal scal_ESlot ▸ ?_, fun b hb => ?_, hB⟩
    · cases v2.ownBlock <;> simp
    · rw [hA.ow.scal scal_ESlot] at hb; exact hs b (by simpa using hb)
end Go.Proofs.YtgogcgkocjpgoaaGreatDoor
/- Receive windows: the check, what is there. -/
namespace Go.Proofs.YtgogcgkocjpgoaaGreatDoor
open Go.RowKit
def okSlot (s : Slot) : Bool := itm s.item && (s.hav || decide (s.item = ⟨#[]⟩))
def havAt (l : List Slot) (k : Nat) : Bool := match l[k]? with | some s => s.hav | none => false
def ends (l : List Slot) : Bool := decide (l.length = 0) || (!havAt l 0 && havAt l (l.length - 1))
def goodRW (x : ReceiveWindow) : Bool := isSer x.next && decide ((x.slots.length : Int) ≤ 8) && x.slots.all okSlot && ends x.slots
theorem havAt_lt {l : List Slot} {k : Nat} (h : k < l.length) : havAt l k = l[k].hav := by unfold havAt; rw [List.getElem?_eq_getElem h]
theorem havAt_ge {l : List Slot} {k : Nat} (h : l.length ≤ k) : havAt l k = false := by unfold havAt; rw [List.getElem?_eq_none h]
def hasB (x : ReceiveWindow) (k : Int) : Bool := havAt x.slots (gp x.next k).toNat
set_option maxRecDepth 100000 in
theorem RWhas_f (x : ReceiveWindow) (k : Int) (v : Value) (F : List Nat) (h0 : 0 ≤ x.next) (h1 : x.next ≤ 65535) (h2 : 0 ≤ k) (h3 : k ≤ 65535) :
    Fn Tryz.prog 137 [v, .int .i64 k] [.isv EReceiveWindow v x F] [] (fun (_ : Unit) => True) (fun _ => .bool (hasB x k)) (fun _ => []) := by
  refine enter Tryz.func137 rfl Tryz.ntmps137 fun w0 => ?_
  refine openReceiveWindow ?_
  rintro a1 c1 F1 rfl l1
  unfold maxLen at l1
  have hg := gp_bd x.next k
  refine go ?_; intros
  refine ce (fun w s => gap_c _ _ _ (by omega) (by omega) (by omega) (by omega)) ?_
  refine go ?_; intros
  refine wg_if rfl rfl (fun h => ?_) (fun h => ?_)
  · refine atSlot (gp x.next k).toNat ?_
    rintro hi b o rfl s1
    refine go ?_; intros
    refine ret () trivial ?_
    unfold hasB; rw [havAt_lt hi]; rfl
  · refine go ?_; intros
    refine ret () trivial ?_
    unfold hasB; rw [havAt_ge (by omega)]; rfl
set_option maxRecDepth 100000 in
theorem RWok_f (x : Slot) (v : Value) (F : List Nat) : Fn Tryz.prog 217 [v] [.isv ESlot v x F] [] (fun (_ : Unit) => True) (fun _ => .bool (!okSlot x)) (fun _ => []) := by
  refine enter Tryz.func217 rfl Tryz.ntmps217 fun w0 => ?_
  refine openSlot ?_
  rintro _ rfl s1
  refine go ?_; intros
  refine cb (fun w s => isItem_c _ _ s1) ?_
  cases g : itm x.item
  · refine go ?_; intros
    refine ret () trivial ?_
    simp [okSlot, g, tup]
  refine go ?_; intros
  cases g2 : x.hav
  · refine go ?_; intros
    refine ret () trivial ?_
    simp [okSlot, g, g2, tup]
  · refine go ?_; intros
    refine ret () trivial ?_
    simp [okSlot, g, g2, tup]
set_option maxRecDepth 100000 in
theorem RWgood_f (x : ReceiveWindow) (v : Value) (F : List Nat) : Fn Tryz.prog 133 [v] [.isv EReceiveWindow v x F] [] (fun (_ : Unit) => True) (fun _ => .bool (goodRW x)) (fun _ => []) := by
  refine enter Tryz.func133 rfl Tryz.ntmps133 fun w0 => ?_
  refine openReceiveWindow ?_
  rintro a1 c1 F1 rfl l1
  unfold maxLen at l1
  refine go ?_; intros
  refine ce (fun w s => IsSerial_c _ _) ?_
  cases g1 : isSer x.next
  · refine go ?_; intros
    refine ret () trivial ?_
    simp [goodRW, g1, tup]
  refine go ?_; intros
  refine c_if rfl (fun h => ?_) (fun h => ?_)
  · refine go ?_; intros
    refine ret () trivial ?_
    simp [goodRW, g1, tup]; omega
  refine go ?_; intros
  refine cb (fun w s => ContainsFunc_Slot _ (.mk' Tryz.func217 rfl rfl) #[] _ x.slots F1 (fun s => !okSlot s) _ (s.get (p := .sl ESlot (.slice a1 x.slots.length c1) x.slots F1) (by simp)).2 ?_) ?_
  · intro k hk wr u G _ hu
    exact (RWok_f x.slots[k] u G).val wr (hol1 hu)
  cases g2 : x.slots.all okSlot
  · have : (x.slots.any fun s => !okSlot s) = true := by rw [← List.not_all_eq_any_not, g2]; rfl
    rw [this]
    refine go ?_; intros
    refine ret () trivial ?_
    simp [goodRW, g2, tup]
  have hx : (x.slots.any fun s => !okSlot s) = false := by rw [← List.not_all_eq_any_not, g2]; rfl
  rw [hx]
  refine go ?_; intros
  have g3 : goodRW x = ends x.slots := by simp [goodRW, g1, g2]; omega
  refine wg_if rfl rfl (fun h => ?_) (fun h => ?_)
  · refine go ?_; intros
    refine ret () trivial ?_
    rw [g3]; have : x.slots.length = 0 := by omega
    simp [ends, this, tup]
  refine atSlot 0 ?_
  rintro hi b o rfl s1
  refine go ?_; intros
  cases g4 : x.slots[0].hav
  rotate_left
  · refine go ?_; intros
    refine ret () trivial ?_
    rw [g3]; unfold ends; rw [havAt_lt hi, g4, decide_eq_false (by omega)]; rfl
  refine atSlot (x.slots.length - 1) ?_
  rintro hi2 b2 o2 e s2
  cases e
  refine go ?_; intros
  have hl : ((x.slots.length : Int) - 1).toNat = x.slots.length - 1 := by omega
  rw [hl]
  refine go ?_; intros
  refine ret () trivial ?_
  rw [g3]; unfold ends; rw [havAt_lt hi, havAt_lt hi2, g4, decide_eq_false (by omega)]; rfl
end Go.Proofs.YtgogcgkocjpgoaaGreatDoor
/- Receive windows: the reference's check. -/
namespace Go.Proofs.YtgogcgkocjpgoaaGreatDoor
open Go.RowKit
theorem itm_8 (s : ByteArray) : (decide ((s.size : Int) ≤ 8) && lows s.data.toList) = itm s := rfl
theorem all_take_succ {α : Type} {p : α → Bool} {l : List α} {k : Nat} (h : k < l.length) : (l.take (k + 1)).all p = ((l.take k).all p && p l[k]) := by
  rw [List.take_succ_eq_append_getElem h, List.all_append]; simp
theorem all_of_not {α : Type} {p : α → Bool} {l : List α} {k : Nat} (h : k < l.length) (hp : p l[k] = false) : l.all p = false := by
  rw [List.all_eq_false]; exact ⟨l[k], List.getElem_mem h, by simp [hp]⟩
set_option maxRecDepth 100000 in
theorem l10Good_f (x : ReceiveWindow) (v : Value) (F : List Nat) : Fn Tryz.prog 189 [v] [.isv EReceiveWindow v x F] [] (fun (_ : Unit) => True) (fun _ => .bool (goodRW x)) (fun _ => []) := by
  refine enter Tryz.func189 rfl Tryz.ntmps189 fun w0 => ?_
  refine openReceiveWindow ?_
  rintro a1 c1 F1 rfl l1
  unfold maxLen at l1
  refine go ?_; intros
  refine ce (fun w s => l2Good_c _ _) ?_
  cases g1 : isSer x.next
  · refine go ?_; intros
    refine ret () trivial ?_
    simp [goodRW, g1, tup]
  refine go ?_; intros
  refine c_if rfl (fun h => ?_) (fun h => ?_)
  · refine go ?_; intros
    refine ret () trivial ?_
    simp [goodRW, g1, tup]; omega
  refine go ?_; intros
  refine c_loopR [1, 2, 3] (fun k : Nat => [(4, .int .i64 k)]) (fun k => k ≤ x.slots.length ∧ (x.slots.take k).all okSlot = true) (fun k => x.slots.length - k) 0 ⟨Nat.zero_le _, rfl⟩ fun k hk => ?_
  obtain ⟨hk1, hk2⟩ := hk
  refine go ?_; intros
  refine c_if rfl (fun h3 => ?_) (fun h3 => ?_)
  · have hk3 : k < x.slots.length := by omega
    refine atSlot k ?_
    rintro hi b o e s1
    cases e
    refine go ?_; intros
    refine ce (fun w s => l4Letters_c _ _ _ s1) ?_
    rw [itm_8]
    cases g2 : itm x.slots[k].item
    · refine go ?_; intros
      refine ret () trivial ?_
      have : x.slots.all okSlot = false := all_of_not hk3 (by simp [okSlot, g2])
      simp [goodRW, this, tup]
    refine go ?_; intros
    cases g3 : x.slots[k].hav
    rotate_left
    · refine go ?_; intros
      refine n_lp (k + 1) ⟨by omega, by rw [all_take_succ hk3, hk2]; simp [okSlot, g2, g3]⟩ (by omega)
    refine go ?_; intros
    refine c_if rfl (fun g4 => ?_) (fun g4 => ?_)
    · refine go ?_; intros
      refine ret () trivial ?_
      have : x.slots.all okSlot = false := all_of_not hk3 (by simp [okSlot, g2, g3, g4])
      simp [goodRW, this, tup]
    · refine go ?_; intros
      simp only [Decidable.not_not] at g4
      have ho : okSlot x.slots[k] = true := by unfold okSlot; rw [g2, g3, decide_eq_true g4]; rfl
      refine n_lp (k + 1) ⟨by omega, by rw [all_take_succ hk3, hk2, ho]; rfl⟩ (by omega)
  have hkl : k = x.slots.length := by omega
  subst hkl
  rw [List.take_length] at hk2
  have g3 : goodRW x = ends x.slots := by simp [goodRW, g1, hk2]; omega
  refine go ?_; intros
  refine wg_if rfl rfl (fun h4 => ?_) (fun h4 => ?_)
  · refine go ?_; intros
    refine ret () trivial ?_
    rw [g3]; have : x.slots.length = 0 := by omega
    simp [ends, this, tup]
  refine atSlot 0 ?_
  rintro hi b o e s1
  cases e
  refine go ?_; intros
  cases g4 : x.slots[0].hav
  rotate_left
  · refine go ?_; intros
    refine ret () trivial ?_
    rw [g3]; unfold ends; rw [havAt_lt hi, g4, decide_eq_false (by omega)]; rfl
  refine atSlot (x.slots.length - 1) ?_
  rintro hi2 b2 o2 e s2
  cases e
  refine go ?_; intros
  have hl : ((x.slots.length : Int) - 1).toNat = x.slots.length - 1 := by omega
  rw [hl]
  refine go ?_; intros
  refine ret () trivial ?_
  rw [g3]; unfold ends; rw [havAt_lt hi, havAt_lt hi2, g4, decide_eq_false (by omega)]; rfl
end Go.Proofs.YtgogcgkocjpgoaaGreatDoor
/- Receive windows: what is released, what is taken. Plain lists. -/
namespace Go.Proofs.YtgogcgkocjpgoaaGreatDoor
open Go.RowKit
def plus (s : ByteArray) : ByteArray := ⟨#[43]⟩ ++ s
def minus : ByteArray := ⟨#[45]⟩
def shiftEv (l : List Slot) : ByteArray := match l with | [] => minus | s :: _ => if s.hav then plus s.item else minus
theorem shiftEv_t {l : List Slot} (hi : 0 < l.length) (h : l[0].hav = true) : shiftEv l = plus l[0].item := by
  cases l with
  | nil => simp at hi
  | cons s r => simp at h; simp [shiftEv, h]
theorem shiftEv_f {l : List Slot} (hi : 0 < l.length) (h : l[0].hav = false) : shiftEv l = minus := by
  cases l with
  | nil => simp at hi
  | cons s r => simp at h; simp [shiftEv, h]
def rel : Int → List Slot → Int × List Slot × List ByteArray
  | n, [] => (n, [], [])
  | n, s :: r => if s.hav then ((rel (aft n 1) r).1, (rel (aft n 1) r).2.1, plus s.item :: (rel (aft n 1) r).2.2) else (n, s :: r, [])
theorem rel_no {n : Int} {l : List Slot} (h : havAt l 0 = false) : rel n l = (n, l, []) := by
  cases l with
  | nil => rfl
  | cons s r => have : s.hav = false := h; simp [rel, this]
theorem rel_yes {n : Int} {l : List Slot} (h : havAt l 0 = true) : rel n l = ((rel (aft n 1) (l.drop 1)).1, (rel (aft n 1) (l.drop 1)).2.1, shiftEv l :: (rel (aft n 1) (l.drop 1)).2.2) := by
  cases l with
  | nil => cases h
  | cons s r => have : s.hav = true := h; simp [rel, shiftEv, this]
end Go.Proofs.YtgogcgkocjpgoaaGreatDoor
/- Receive windows: the copy, a step, what is released. -/
namespace Go.Proofs.YtgogcgkocjpgoaaGreatDoor
open Go.RowKit
theorem rdRW {w : World} {a : Option Addr} {c : Nat} {x : ReceiveWindow} {F : List Nat} (h : (Pc.ow ESlot 213 (.slice a x.slots.length c) x.slots F).P w) : ∃ F', (Pc.isv EReceiveWindow (.agg #[.int .i64 x.next, .slice a x.slots.length c]) x F').P w := by
  obtain ⟨F', -, hs⟩ := h.2.read
  exact ⟨F', _, rfl, _, rfl, hs⟩
set_option maxRecDepth 100000 in
theorem RWclone_f (x : ReceiveWindow) (v : Value) (F : List Nat) (hl : x.slots.length ≤ 4294967296) : Fn Tryz.prog 196 [v] [.isv EReceiveWindow v x F] [] (fun (_ : Option Addr × Nat × List Nat) => True)
    (fun s => .agg #[.int .i64 x.next, .slice s.1 x.slots.length s.2.1]) (fun s => [.ow ESlot 213 (.slice s.1 x.slots.length s.2.1) x.slots s.2.2]) := by
  refine enter Tryz.func196 rfl Tryz.ntmps196 fun w0 => ?_
  refine openReceiveWindow ?_
  rintro a1 c1 F1 rfl l1
  refine go ?_; intros
  refine cn (fun w s => Clone_Slot _ _ _ _ (s.get (p := .sl ESlot (.slice a1 x.slots.length c1) x.slots F1) (by simp)).2 hl) fun a cp F' => ?_
  refine go ?_; intros
  refine ret (a, cp, F') trivial rfl
set_option maxRecDepth 100000 in
theorem RWshift_f (x : ReceiveWindow) (g t o : Nat) (A B : List Value) (a : Option Addr) (cc : Nat) (F : List Nat) (h0 : 0 ≤ x.next) (h1 : x.next ≤ 65535) (hl : x.slots.length ≤ 4294967296) (hs : ∀ s ∈ x.slots, s.item.size ≤ 8) :
    Fn Tryz.prog 253 [ptr g o 0] [] [.row g t o A [.int .i64 x.next, .slice a x.slots.length cc] B, .ow ESlot 213 (.slice a x.slots.length cc) x.slots F] (fun (_ : Option Addr × Nat × List Nat) => True)
      (fun _ => .string (shiftEv x.slots)) (fun s => [.row g t o A [.int .i64 (aft x.next 1), .slice s.1 (x.slots.drop 1).length s.2.1] B, .ow ESlot 213 (.slice s.1 (x.slots.drop 1).length s.2.1) (x.slots.drop 1) s.2.2]) := by
  refine enter Tryz.func253 rfl Tryz.ntmps253 fun w0 => ?_
  refine go ?_; intros
  refine c_if rfl (fun h => ?_) (fun h => ?_)
  · refine t_read fun F' => ?_
    refine atSlot 0 ?_
    rintro hi b o2 e s1
    cases e
    refine go ?_; intros
    have s8 := hs _ (List.getElem_mem hi)
    have s9 : (⟨#[43]⟩ : ByteArray).size = 1 := rfl
    cases g1 : x.slots[0].hav
    · refine go ?_; intros
      apply wO
      refine sld 1 fun a2 c2 F2 => ?_
      refine go ?_; intros
      refine cn (fun w s => Clone_Slot _ _ _ _ (s.get (p := .sl ESlot (.slice a2 (x.slots.drop 1).length c2) (x.slots.drop 1) F2) (by simp)).2 (by simp; omega)) fun a3 c3 F3 => ?_
      refine go ?_; intros
      refine ce (fun w s => after_c _ _ _ (by omega) (by omega)) ?_
      refine go ?_; intros
      refine ret (a3, c3, F3) trivial ?_
      rw [shiftEv_f hi g1]; rfl
    · refine go ?_; intros
      apply wO
      refine sld 1 fun a2 c2 F2 => ?_
      refine go ?_; intros
      refine cn (fun w s => Clone_Slot _ _ _ _ (s.get (p := .sl ESlot (.slice a2 (x.slots.drop 1).length c2) (x.slots.drop 1) F2) (by simp)).2 (by simp; omega)) fun a3 c3 F3 => ?_
      refine go ?_; intros
      refine ce (fun w s => after_c _ _ _ (by omega) (by omega)) ?_
      refine go ?_; intros
      refine ret (a3, c3, F3) trivial ?_
      rw [shiftEv_t hi g1]; rfl
  · obtain ⟨n, l⟩ := x
    obtain rfl : l = [] := List.eq_nil_of_length_eq_zero (by simpa using h)
    refine go ?_; intros
    refine ce (fun w s => after_c _ _ _ (by omega) (by omega)) ?_
    refine go ?_; intros
    refine ret (a, cc, F) trivial rfl
end Go.Proofs.YtgogcgkocjpgoaaGreatDoor
/- Receive windows: what is released. -/
namespace Go.Proofs.YtgogcgkocjpgoaaGreatDoor
open Go.RowKit
def relW (x : ReceiveWindow) : ReceiveWindow := ⟨(rel x.next x.slots).1, (rel x.next x.slots).2.1⟩
def relE (x : ReceiveWindow) : List ByteArray := (rel x.next x.slots).2.2
def shW (x : ReceiveWindow) : ReceiveWindow := ⟨aft x.next 1, x.slots.drop 1⟩
theorem rel_stop {x : ReceiveWindow} (h : havAt x.slots 0 = false) : relW x = x ∧ relE x = [] := by unfold relW relE; rw [rel_no h]; exact ⟨rfl, rfl⟩
theorem rel_go {x : ReceiveWindow} (h : havAt x.slots 0 = true) : relW x = relW (shW x) ∧ relE x = shiftEv x.slots :: relE (shW x) := by unfold relW relE; rw [rel_yes h]; exact ⟨rfl, rfl⟩
theorem shiftEv_size {l : List Slot} (h : ∀ s ∈ l, s.item.size ≤ 8) : (shiftEv l).size ≤ 9 := by
  cases l with
  | nil => decide
  | cons s r =>
    have := h s (by simp)
    unfold shiftEv; dsimp only
    split
    · unfold plus; rw [ByteArray.size_append]; show 1 + s.item.size ≤ 9; omega
    · decide
theorem hasB_next (y : ReceiveWindow) : hasB y y.next = havAt y.slots 0 := by
  unfold hasB gp; rw [Int.sub_self]; rfl
theorem rep_str (s : ByteArray) (h : s.size ≤ maxLen) (w : World) : Flat EStr w [.string s] [s] [] := ⟨_, [], [], [], by simp, by simp, ⟨rfl, h, rfl⟩, rfl, rfl⟩
/-- events so far, the window, where both lie -/
structure RelS where
  es : List ByteArray
  y : ReceiveWindow
  a : Option Addr
  c : Nat
  F : List Nat
  ae : Option Addr
  ce : Nat
  Fe : List Nat
structure RelOk (x : ReceiveWindow) (s : RelS) : Prop where
  n0 : 0 ≤ s.y.next
  n1 : s.y.next ≤ 65535
  it : ∀ z ∈ s.y.slots, z.item.size ≤ 8
  ln : s.es.length + s.y.slots.length ≤ x.slots.length
  w : relW x = relW s.y
  e : relE x = s.es ++ relE s.y
set_option maxRecDepth 100000 in
theorem RWrelease_f (x : ReceiveWindow) (g t o : Nat) (A B : List Value) (a : Option Addr) (cc : Nat) (F : List Nat) (h0 : 0 ≤ x.next) (h1 : x.next ≤ 65535) (hl : x.slots.length ≤ 1000000) (hs : ∀ s ∈ x.slots, s.item.size ≤ 8) :
    Fn Tryz.prog 254 [ptr g o 0] [] [.row g t o A [.int .i64 x.next, .slice a x.slots.length cc] B, .ow ESlot 213 (.slice a x.slots.length cc) x.slots F] (fun (s : RelS) => s.y = relW x ∧ s.es = relE x)
      (fun s => .slice s.ae s.es.length s.ce) (fun s => [.row g t o A [.int .i64 s.y.next, .slice s.a s.y.slots.length s.c] B, .ow ESlot 213 (.slice s.a s.y.slots.length s.c) s.y.slots s.F, .ow EStr 9 (.slice s.ae s.es.length s.ce) s.es s.Fe]) := by
  refine enter Tryz.func254 rfl Tryz.ntmps254 fun w0 => ?_
  refine go ?_; intros
  refine t_nilow EStr 9 ?_
  refine c_loopS [0, 2] (fun s : RelS => [(3, .slice s.ae s.es.length s.ce)]) (fun s => [.row g t o A [.int .i64 s.y.next, .slice s.a s.y.slots.length s.c] B, .ow ESlot 213 (.slice s.a s.y.slots.length s.c) s.y.slots s.F, .ow EStr 9 (.slice s.ae s.es.length s.ce) s.es s.Fe]) (RelOk x) (fun s => s.y.slots.length) ⟨[], x, a, cc, F, none, 0, []⟩ ⟨h0, h1, hs, by simp, rfl, rfl⟩ fun s hC => ?_
  obtain ⟨n0, n1, hit, hln, hw, he⟩ := hC
  refine go ?_; intros
  refine d_start [0] [] ?_
  refine dt 0 ?_
  refine dt 1 ?_
  refine dt 2 ?_
  refine dt 3 ?_
  refine dt 4 ?_
  refine dt 5 ?_
  refine dt 6 ?_
  refine dO 7 (by kernel_rfl) (by rw [List.getElem?_toArray]; rfl) ?_
  apply o_call; rfl; kernel_rfl; exact evsE
  refine cb (fun w st => by
    obtain ⟨F', h⟩ := rdRW (st.get (p := .ow ESlot 213 (.slice s.a s.y.slots.length s.c) s.y.slots s.F) (by simp))
    exact (RWhas_f s.y s.y.next _ F' n0 n1 n0 n1).val w (hol1 h)) ?_
  refine dk ?_
  refine dd ?_
  rw [hasB_next]
  cases hv : havAt s.y.slots 0
  · refine go ?_; intros
    refine ret s ⟨by rw [hw, (rel_stop hv).1], by rw [he, (rel_stop hv).2, List.append_nil]⟩ rfl
  refine go ?_; intros
  refine cf (RWshift_f s.y g t o A B s.a s.c s.F n0 n1 (by omega) hit) fun z _ => ?_
  obtain ⟨az, cz, Fz⟩ := z
  refine t_app ?_
  have hsz := shiftEv_size hit
  have hmx : (shiftEv s.y.slots).size ≤ maxLen := by unfold maxLen; omega
  have hlt : 0 < s.y.slots.length := by
    rcases Nat.eq_zero_or_pos s.y.slots.length with h | h
    · rw [havAt_ge (by omega)] at hv; cases hv
    · exact h
  have hll : s.es.length + 1 ≤ 1000000 := by omega
  refine go ?_; intros
  apply wO
  refine ap1 (rep_str _ hmx) one_EStr fun a' c' F' => ?_
  refine go ?_; intros
  refine n_lp ⟨s.es ++ [shiftEv s.y.slots], shW s.y, az, cz, Fz, a', c', F'⟩ ⟨(aft_bd _ _).1, (aft_bd _ _).2, fun z hz => hit z (List.mem_of_mem_drop hz), by simp [shW]; omega, by rw [hw, (rel_go hv).1], by rw [he, (rel_go hv).2]; simp⟩ (by simp [shW]; omega)
end Go.Proofs.YtgogcgkocjpgoaaGreatDoor
/- Receive windows: what is taken, what is given up: in place. -/
namespace Go.Proofs.YtgogcgkocjpgoaaGreatDoor
open Go.RowKit
def zsl : Slot := ⟨false, ⟨#[]⟩⟩
def padL (x : ReceiveWindow) (j : Nat) : List Slot := x.slots ++ List.replicate j zsl
theorem padL_len (x : ReceiveWindow) (j : Nat) : (padL x j).length = x.slots.length + j := by simp [padL]
def putL (x : ReceiveWindow) (k : Nat) (s : Slot) : List Slot := (padL x (k + 1 - x.slots.length)).set k s
def takeNo (x : ReceiveWindow) (n : Int) : Bool := bef n x.next || hasB x n
def takeOk (x : ReceiveWindow) (n : Int) : Bool := takeNo x n || decide (gp x.next n < 8)
def putW (x : ReceiveWindow) (n : Int) (s : ByteArray) : ReceiveWindow := ⟨x.next, putL x (gp x.next n).toNat ⟨true, s⟩⟩
def takeW (x : ReceiveWindow) (n : Int) (s : ByteArray) : ReceiveWindow := if takeNo x n || !decide (gp x.next n < 8) then x else relW (putW x n s)
def takeE (x : ReceiveWindow) (n : Int) (s : ByteArray) : List ByteArray := if takeNo x n || !decide (gp x.next n < 8) then [] else relE (putW x n s)
def stepsN (a b : Int) : Nat := if bef a b then (gp a b).toNat else 0
def giveW : Nat → ReceiveWindow → ReceiveWindow
  | 0, y => y
  | k + 1, y => giveW k (shW y)
def giveE : Nat → ReceiveWindow → List ByteArray
  | 0, _ => []
  | k + 1, y => shiftEv y.slots :: giveE k (shW y)
theorem stepsN_no {a b : Int} (h : bef a b = false) : stepsN a b = 0 := by unfold stepsN; rw [h]; rfl
theorem stepsN_yes {a b : Int} (h : bef a b = true) : stepsN a b = stepsN (aft a 1) b + 1 := by
  unfold stepsN
  rw [h]
  unfold bef btw gp aft at *
  simp only [Bool.and_eq_true, decide_eq_true_eq, if_true] at h ⊢
  split <;> omega
theorem stepsN_le (a b : Int) : stepsN a b ≤ 32767 := by
  unfold stepsN
  split
  · rename_i h; unfold bef btw at h; simp only [Bool.and_eq_true, decide_eq_true_eq] at h; omega
  · omega
theorem rep_slot (s : Slot) (h : s.item.size ≤ maxLen) (w : World) : Flat ESlot w [.bool s.hav, .string s.item] [s] [] := ⟨_, [], [], [], by simp, by simp, ⟨rfl, h, rfl⟩, rfl, rfl⟩
theorem putL_items {x : ReceiveWindow} {k : Nat} (hs : ∀ s ∈ x.slots, s.item.size ≤ 8) {s : Slot} (hi : s.item.size ≤ 8) : ∀ z ∈ putL x k s, z.item.size ≤ 8 := fun z hz => by
  unfold putL at hz
  rcases List.mem_or_eq_of_mem_set hz with h | rfl
  · unfold padL at h
    rcases List.mem_append.1 h with h | h
    · exact hs z h
    · rw [(List.mem_replicate.1 h).2]; decide
  · exact hi
structure PadS where
  j : Nat
  a : Option Addr
  c : Nat
  F : List Nat
set_option maxRecDepth 100000 in
theorem RWtake_f (x : ReceiveWindow) (n : Int) (item : ByteArray) (g t o : Nat) (A B : List Value) (a : Option Addr) (cc : Nat) (F : List Nat) (h0 : 0 ≤ x.next) (h1 : x.next ≤ 65535) (h2 : 0 ≤ n) (h3 : n ≤ 65535) (hl : x.slots.length ≤ 8) (hs : ∀ s ∈ x.slots, s.item.size ≤ 8) (hi : item.size ≤ 8) :
    Fn Tryz.prog 263 [ptr g o 0, .int .i64 n, .string item] [] [.row g t o A [.int .i64 x.next, .slice a x.slots.length cc] B, .ow ESlot 213 (.slice a x.slots.length cc) x.slots F] (fun (s : RelS) => s.y = takeW x n item ∧ s.es = takeE x n item)
      (fun s => .tuple #[.slice s.ae s.es.length s.ce, .bool (takeOk x n)]) (fun s => [.row g t o A [.int .i64 s.y.next, .slice s.a s.y.slots.length s.c] B, .ow ESlot 213 (.slice s.a s.y.slots.length s.c) s.y.slots s.F, .ow EStr 9 (.slice s.ae s.es.length s.ce) s.es s.Fe]) := by
  have hg := gp_bd x.next n
  refine enter Tryz.func263 rfl Tryz.ntmps263 fun w0 => ?_
  refine go ?_; intros
  refine ce (fun w s => isBefore_c _ _ _ (by omega) (by omega) (by omega) (by omega)) ?_
  cases g1 : bef n x.next
  rotate_left
  · refine go ?_; intros
    refine t_nilow EStr 9 ?_
    refine ret ⟨[], x, a, cc, F, none, 0, []⟩ ⟨by simp [takeW, takeNo, g1], by simp [takeE, takeNo, g1]⟩ ?_
    simp [takeOk, takeNo, g1, tup]
  refine go ?_; intros
  refine cb (fun w st => by
    obtain ⟨F', h⟩ := rdRW (st.get (p := .ow ESlot 213 (.slice a x.slots.length cc) x.slots F) (by simp))
    exact (RWhas_f x n _ F' h0 h1 h2 h3).val w (hol1 h)) ?_
  cases g2 : hasB x n
  rotate_left
  · refine go ?_; intros
    refine t_nilow EStr 9 ?_
    refine ret ⟨[], x, a, cc, F, none, 0, []⟩ ⟨by simp [takeW, takeNo, g1, g2], by simp [takeE, takeNo, g1, g2]⟩ ?_
    simp [takeOk, takeNo, g1, g2, tup]
  refine go ?_; intros
  refine ce (fun w s => gap_c _ _ _ (by omega) (by omega) (by omega) (by omega)) ?_
  refine go ?_; intros
  refine c_if rfl (fun h8 => ?_) (fun h8 => ?_)
  · refine go ?_; intros
    refine t_nilow EStr 9 ?_
    have h9 : ¬ gp x.next n < 8 := by omega
    refine ret ⟨[], x, a, cc, F, none, 0, []⟩ ⟨by simp [takeW, h9], by simp [takeE, h9]⟩ ?_
    simp [takeOk, takeNo, g1, g2, h9, tup]
  have hW : takeW x n item = relW (putW x n item) := by unfold takeW takeNo; rw [g1, g2, decide_eq_true (by omega)]; rfl
  have hE : takeE x n item = relE (putW x n item) := by unfold takeE takeNo; rw [g1, g2, decide_eq_true (by omega)]; rfl
  have hO : takeOk x n = true := by unfold takeOk; rw [decide_eq_true (show gp x.next n < 8 by omega)]; simp
  unfold putW at hW hE
  obtain ⟨k, hk⟩ : ∃ k : Nat, gp x.next n = k := ⟨(gp x.next n).toNat, by omega⟩
  rw [hk] at hW hE ⊢
  rw [Int.toNat_natCast] at hW hE
  refine go ?_; intros
  refine c_loopS [0, 2, 6, 7, 8] (fun s : PadS => []) (fun s => [.row g t o A [.int .i64 x.next, .slice s.a (padL x s.j).length s.c] B, .ow ESlot 213 (.slice s.a (padL x s.j).length s.c) (padL x s.j) s.F]) (fun s => s.j ≤ k + 1 - x.slots.length) (fun s => k + 1 - x.slots.length - s.j) ⟨0, a, cc, F⟩ (Nat.zero_le _) (fun s hj => ?_) (hH := by simp only [padL, List.replicate_zero, List.append_nil]; exact picksE)
  have hpl := padL_len x s.j
  refine go ?_; intros
  refine c_if rfl (fun h9 => ?_) (fun h9 => ?_)
  · refine go ?_; intros
    apply wO
    refine ap1 (rep_slot zsl (by decide)) one_ESlot fun a' c' F' => ?_
    refine go ?_; intros
    have e : padL x s.j ++ [zsl] = padL x (s.j + 1) := by simp [padL, List.replicate_succ']
    rw [e]
    refine n_lp ⟨s.j + 1, a', c', F'⟩ (by show s.j + 1 ≤ _; omega) (by show _ - (s.j + 1) < _; omega)
  have hjk : s.j = k + 1 - x.slots.length := by omega
  refine go ?_; intros
  have hkl : k < (padL x s.j).length := by omega
  refine focSlot k ?_
  rintro hi2 g2 A2 B2 e eF hs2 hh
  rw [e]
  refine goN ?_; intros
  refine unfF (⟨true, item⟩ : Slot) hh (fun w => ⟨rfl, by show item.size ≤ maxLen; unfold maxLen; omega, rfl⟩) ?_
  have hsl : (padL x s.j).length = ((padL x s.j).set k ⟨true, item⟩).length := by rw [List.length_set]
  rw [hsl]
  have hpu : (padL x s.j).set k ⟨true, item⟩ = putL x k ⟨true, item⟩ := by unfold putL; rw [hjk]
  rw [hpu]
  have hpl2 : (putL x k ⟨true, item⟩).length ≤ 1000 := by unfold putL; rw [List.length_set, padL_len]; omega
  have hps := putL_items (x := x) (k := k) hs (s := ⟨true, item⟩) hi
  refine go ?_; intros
  refine cf (RWrelease_f ⟨x.next, putL x k ⟨true, item⟩⟩ g t o A B _ _ _ h0 h1 (by show (putL x k ⟨true, item⟩).length ≤ _; omega) hps) fun z hz => ?_
  refine t_app ?_
  refine go ?_; intros
  refine ret z ⟨by rw [hz.1, hW], by rw [hz.2, hE]⟩ ?_
  rw [hO]; rfl
structure GiveOk (x : ReceiveWindow) (n : Int) (s : RelS) : Prop where
  n0 : 0 ≤ s.y.next
  n1 : s.y.next ≤ 65535
  it : ∀ z ∈ s.y.slots, z.item.size ≤ 8
  ln : s.y.slots.length ≤ x.slots.length
  le : s.es.length + stepsN s.y.next n ≤ stepsN x.next n
  w : giveW (stepsN x.next n) x = giveW (stepsN s.y.next n) s.y
  e : giveE (stepsN x.next n) x = s.es ++ giveE (stepsN s.y.next n) s.y
theorem relE_len (x : ReceiveWindow) : (relE x).length ≤ x.slots.length := by
  unfold relE
  have : ∀ (l : List Slot) n, (rel n l).2.2.length ≤ l.length := by
    intro l
    induction l with
    | nil => intro n; simp [rel]
    | cons s r ih => intro n; unfold rel; split; simp; exact ih _; simp
  exact this _ _
set_option maxRecDepth 100000 in
theorem RWgive_f (x : ReceiveWindow) (n : Int) (g t o : Nat) (A B : List Value) (a : Option Addr) (cc : Nat) (F : List Nat) (h0 : 0 ≤ x.next) (h1 : x.next ≤ 65535) (h2 : 0 ≤ n) (h3 : n ≤ 65535) (hl : x.slots.length ≤ 8) (hs : ∀ s ∈ x.slots, s.item.size ≤ 8) :
    Fn Tryz.prog 199 [ptr g o 0, .int .i64 n] [] [.row g t o A [.int .i64 x.next, .slice a x.slots.length cc] B, .ow ESlot 213 (.slice a x.slots.length cc) x.slots F] (fun (s : RelS) => s.y = relW (giveW (stepsN x.next n) x) ∧ s.es = giveE (stepsN x.next n) x ++ relE (giveW (stepsN x.next n) x))
      (fun s => .slice s.ae s.es.length s.ce) (fun s => [.row g t o A [.int .i64 s.y.next, .slice s.a s.y.slots.length s.c] B, .ow ESlot 213 (.slice s.a s.y.slots.length s.c) s.y.slots s.F, .ow EStr 9 (.slice s.ae s.es.length s.ce) s.es s.Fe]) := by
  have hgn := stepsN_le x.next n
  refine enter Tryz.func199 rfl Tryz.ntmps199 fun w0 => ?_
  refine go ?_; intros
  refine t_nilow EStr 9 ?_
  refine c_loopS [0, 1, 4] (fun s : RelS => [(5, .slice s.ae s.es.length s.ce)]) (fun s => [.row g t o A [.int .i64 s.y.next, .slice s.a s.y.slots.length s.c] B, .ow ESlot 213 (.slice s.a s.y.slots.length s.c) s.y.slots s.F, .ow EStr 9 (.slice s.ae s.es.length s.ce) s.es s.Fe]) (GiveOk x n) (fun s => stepsN s.y.next n) ⟨[], x, a, cc, F, none, 0, []⟩ ⟨h0, h1, hs, Nat.le_refl _, by simp, rfl, rfl⟩ fun s hC => ?_
  obtain ⟨n0, n1, hit, hln, hle, hw, he⟩ := hC
  refine go ?_; intros
  refine ce (fun w s => isBefore_c _ _ _ (by omega) (by omega) (by omega) (by omega)) ?_
  cases hb : bef s.y.next n
  · refine go ?_; intros
    rw [stepsN_no hb] at hw he
    refine cf (RWrelease_f s.y g t o A B s.a s.c s.F n0 n1 (by omega) hit) fun z hz => ?_
    refine t_app ?_
    refine go ?_; intros
    have hr := relE_len s.y
    have hzl : z.es.length ≤ s.y.slots.length := by rw [hz.2]; exact hr
    refine t_read (xs := z.es) fun F' => ?_
    apply wO
    refine aps one_EStr scal_EStr fun a' c' F2 => ?_
    refine go ?_; intros
    refine ret ⟨s.es ++ z.es, z.y, z.a, z.c, z.F, a', c', F2⟩ ⟨by rw [hz.1, hw]; rfl, by rw [hz.2, he, hw]; simp [giveE, giveW]⟩ rfl
  have hst := stepsN_yes hb
  refine go ?_; intros
  refine cf (RWshift_f s.y g t o A B s.a s.c s.F n0 n1 (by omega) hit) fun z _ => ?_
  obtain ⟨az, cz, Fz⟩ := z
  refine t_app ?_
  have hsz := shiftEv_size hit
  have hmx : (shiftEv s.y.slots).size ≤ maxLen := by unfold maxLen; omega
  refine go ?_; intros
  apply wO
  refine ap1 (rep_str _ hmx) one_EStr fun a' c' F' => ?_
  refine go ?_; intros
  refine n_lp ⟨s.es ++ [shiftEv s.y.slots], shW s.y, az, cz, Fz, a', c', F'⟩ ⟨(aft_bd _ _).1, (aft_bd _ _).2, fun z hz => hit z (List.mem_of_mem_drop hz), by simp [shW]; omega, by simp [shW]; omega, by rw [hw, hst]; rfl, by rw [he, hst]; simp [giveE, shW]⟩ (by show stepsN (aft s.y.next 1) n < _; omega)
end Go.Proofs.YtgogcgkocjpgoaaGreatDoor
/- Receive windows: TakeItem and GiveUpTo of the program. -/
namespace Go.Proofs.YtgogcgkocjpgoaaGreatDoor
open Go.RowKit
def zRW : ReceiveWindow := ⟨0, []⟩
def okTakeItem (x : ReceiveWindow) (n : Int) (s : ByteArray) : Bool := goodRW x && isSer n && itm s && takeOk x n
def resTakeItem (x : ReceiveWindow) (n : Int) (s : ByteArray) : ReceiveWindow × List ByteArray × Bool := if okTakeItem x n s then (takeW x n s, takeE x n s, true) else (zRW, [], false)
theorem okSlot_size {s : Slot} (h : okSlot s = true) : s.item.size ≤ 8 := by
  unfold okSlot itm at h
  simp only [Bool.and_eq_true, decide_eq_true_eq] at h
  omega
structure GoodRW (x : ReceiveWindow) : Prop where
  n0 : 0 ≤ x.next
  n1 : x.next ≤ 65535
  l : x.slots.length ≤ 8
  it : ∀ s ∈ x.slots, s.item.size ≤ 8
theorem good_of {x : ReceiveWindow} (h : goodRW x = true) : GoodRW x := by
  unfold goodRW at h
  simp only [Bool.and_eq_true, decide_eq_true_eq] at h
  have hs := isSer_iff.1 h.1.1.1
  exact ⟨hs.1, hs.2, by omega, fun s hs => okSlot_size (List.all_eq_true.1 h.1.2 s hs)⟩
theorem itm_size {s : ByteArray} (h : itm s = true) : s.size ≤ 8 := by unfold itm at h; simp only [Bool.and_eq_true, decide_eq_true_eq] at h; omega
end Go.Proofs.YtgogcgkocjpgoaaGreatDoor
/- Receive windows: the reference's. -/
namespace Go.Proofs.YtgogcgkocjpgoaaGreatDoor
open Go.RowKit
structure CpS where
  g : Nat
  a : Option Addr
  c : Nat
  F : List Nat
set_option maxRecDepth 100000 in
theorem l10Release_f (x : ReceiveWindow) (v : Value) (F : List Nat) (h0 : 0 ≤ x.next) (h1 : x.next ≤ 65535) (hl : x.slots.length ≤ 1000000) (hs : ∀ s ∈ x.slots, s.item.size ≤ 8) :
    Fn Tryz.prog 250 [v] [.isv EReceiveWindow v x F] [] (fun (s : RelS) => s.y = relW x ∧ s.es = relE x)
      (fun s => .tuple #[.agg #[.int .i64 s.y.next, .slice s.a s.y.slots.length s.c], .slice s.ae s.es.length s.ce]) (fun s => [.isv EReceiveWindow (.agg #[.int .i64 s.y.next, .slice s.a s.y.slots.length s.c]) s.y s.F, .ow EStr 9 (.slice s.ae s.es.length s.ce) s.es s.Fe]) := by
  refine enter Tryz.func250 rfl Tryz.ntmps250 fun w0 => ?_
  refine openReceiveWindow ?_
  rintro a1 c1 F1 rfl l1
  unfold maxLen at l1
  refine go ?_; intros
  refine c_joinS [2, 3] [0] (fun s : CpS => [(4, ptr s.g 0 0)]) (fun s => [.row s.g 46 0 [] [.int .i64 x.next, .slice s.a x.slots.length s.c] [], .ow ESlot 213 (.slice s.a x.slots.length s.c) x.slots s.F]) (fun _ => True) ?_ fun s _ => ?_
  · refine d_start [0, 1] [8] ?_
    refine dt 0 ?_
    refine dt 1 ?_
    refine dt 3 ?_
    refine dt 4 ?_
    refine dO2 2 7 (by kernel_rfl) (by rw [List.getElem?_toArray]; rfl) (by rw [List.getElem?_toArray]; rfl) ?_ ?_
    · apply o_bs0; rfl; intro _
      refine t_emp ESlot ?_
      refine dk ?_
      refine dO2 5 7 (by kernel_rfl) (by rw [List.getElem?_toArray]; rfl) (by rw [List.getElem?_toArray]; rfl) ?_ ?_
      · refine aps one_ESlot scal_ESlot fun a2 c2 F2 => ?_
        refine dk ?_
        refine dt 6 ?_
        refine dO 7 (by kernel_rfl) (by rw [List.getElem?_toArray]; rfl) ?_
        apply o_alloc; rfl; intro _
        refine dk ?_
        refine dO 8 (by kernel_rfl) (by rw [List.getElem?_toArray]; rfl) ?_
        apply o_st; rfl; rfl; rfl; (first | exact AggC.s | exact OneC.s); rfl; exact rplE; exact putE; rfl
        refine dkx ?_
        refine dd ?_
        refine n_join (⟨_, a2, c2, F2⟩ : CpS) trivial
      · apply o_alloc; rfl; intro _
        refine dk ?_
        refine dO 5 (by kernel_rfl) (by rw [List.getElem?_toArray]; rfl) ?_
        refine aps one_ESlot scal_ESlot fun a2 c2 F2 => ?_
        refine dk ?_
        refine dt 6 ?_
        refine dO 8 (by kernel_rfl) (by rw [List.getElem?_toArray]; rfl) ?_
        apply o_st; rfl; rfl; rfl; (first | exact AggC.s | exact OneC.s); rfl; exact rplE; exact putE; rfl
        refine dkx ?_
        refine dd ?_
        refine n_join (⟨_, a2, c2, F2⟩ : CpS) trivial
    · apply o_alloc; rfl; intro _
      refine dk ?_
      refine dO 2 (by kernel_rfl) (by rw [List.getElem?_toArray]; rfl) ?_
      apply o_bs0; rfl; intro _
      refine t_emp ESlot ?_
      refine dk ?_
      refine dO 5 (by kernel_rfl) (by rw [List.getElem?_toArray]; rfl) ?_
      refine aps one_ESlot scal_ESlot fun a2 c2 F2 => ?_
      refine dk ?_
      refine dt 6 ?_
      refine dO 8 (by kernel_rfl) (by rw [List.getElem?_toArray]; rfl) ?_
      apply o_st; rfl; rfl; rfl; (first | exact AggC.s | exact OneC.s); rfl; exact rplE; exact putE; rfl
      refine dkx ?_
      refine dd ?_
      refine n_join (⟨_, a2, c2, F2⟩ : CpS) trivial
  obtain ⟨gg, a2, c2, F2⟩ := s
  refine t_read (xs := x.slots) fun F3 => ?_
  refine go ?_; intros
  refine t_emp EStr ?_
  refine c_loopS [2, 3, 4] (fun s : RelS => [(5, .slice s.ae s.es.length s.ce)]) (fun s => [.row gg 46 0 [] [.int .i64 s.y.next, .slice s.a s.y.slots.length s.c] [], .sl ESlot (.slice s.a s.y.slots.length s.c) s.y.slots s.F, .ow EStr 9 (.slice s.ae s.es.length s.ce) s.es s.Fe]) (RelOk x) (fun s => s.y.slots.length) ⟨[], x, a2, c2, F3, _, 0, _⟩ ⟨h0, h1, hs, by simp, rfl, rfl⟩ fun s hC => ?_
  obtain ⟨n0, n1, hit, hln, hw, he⟩ := hC
  have stop : havAt s.y.slots 0 = false → s.y = relW x ∧ s.es = relE x := fun h => ⟨by rw [hw, (rel_stop h).1], by rw [he, (rel_stop h).2, List.append_nil]⟩
  refine go ?_; intros
  refine wg_if rfl rfl (fun h4 => ?_) (fun h4 => ?_)
  rotate_left
  · refine go ?_; intros
    have hv : havAt s.y.slots 0 = false := havAt_ge (by omega)
    refine closeReceiveWindow s.y ?_
    refine ret s (stop hv) rfl
  refine atSlot 0 ?_
  rintro hi b o e s1
  rw [e]
  refine go ?_; intros
  cases g1 : s.y.slots[0].hav
  · refine go ?_; intros
    rw [← e]
    refine closeReceiveWindow s.y ?_
    refine ret s (stop (by rw [havAt_lt hi, g1])) rfl
  have hv : havAt s.y.slots 0 = true := by rw [havAt_lt hi, g1]
  have hz := hit _ (List.getElem_mem hi)
  have h43 : (⟨#[43]⟩ : ByteArray).size = 1 := rfl
  have hpl : (⟨#[43]⟩ ++ s.y.slots[0].item : ByteArray) = shiftEv s.y.slots := (shiftEv_t hi g1).symm
  have hmx : (shiftEv s.y.slots).size ≤ maxLen := by have := shiftEv_size hit; unfold maxLen; omega
  have hll : s.es.length + 1 ≤ 1000000 := by omega
  refine go ?_; intros
  rw [hpl]
  apply wO
  refine ap1 (rep_str _ hmx) one_EStr fun a' c' F' => ?_
  refine go ?_; intros
  refine d_start [1, 2] [7] ?_
  refine dt 0 ?_
  refine dt 1 ?_
  refine dt 3 ?_
  refine dt 4 ?_
  refine dsld 5 1 fun a5 c5 F5 => ?_
  refine dO 2 (by kernel_rfl) (by rw [List.getElem?_toArray]; rfl) ?_
  apply o_call; rfl; kernel_rfl; exact evsE
  refine ce (fun w s => l2After_c _ _ _ (by omega) (by omega)) ?_
  refine dk ?_
  refine dt 6 ?_
  refine dO 7 (by kernel_rfl) (by rw [List.getElem?_toArray]; rfl) ?_
  apply o_st; rfl; rfl; rfl; (first | exact AggC.s | exact OneC.s); rfl; exact rplE; exact putE; rfl
  refine dkx ?_
  refine dd ?_
  refine go ?_; intros
  refine n_lp ⟨s.es ++ [shiftEv s.y.slots], shW s.y, a5, c5, F5, a', c', F'⟩ ⟨(aft_bd _ _).1, (aft_bd _ _).2, fun z hz => hit z (List.mem_of_mem_drop hz), by simp [shW]; omega, by rw [hw, (rel_go hv).1], by rw [he, (rel_go hv).2]; simp⟩ (by simp [shW]; omega)
end Go.Proofs.YtgogcgkocjpgoaaGreatDoor
/- Receive windows: the reference's taking and giving up. -/
namespace Go.Proofs.YtgogcgkocjpgoaaGreatDoor
open Go.RowKit
set_option maxRecDepth 100000 in
theorem l10Reach_f (x : ReceiveWindow) (n : Int) (v : Value) (F : List Nat) (h0 : 0 ≤ x.next) (h1 : x.next ≤ 65535) (h2 : 0 ≤ n) (h3 : n ≤ 65535) (hl : x.slots.length ≤ 8) :
    Fn Tryz.prog 258 [v, .int .i64 n] [.isv EReceiveWindow v x F] [] (fun (_ : Unit) => True) (fun _ => .bool (takeOk x n)) (fun _ => []) := by
  have hg := gp_bd x.next n
  have hh : ¬ gp x.next n < 8 → hasB x n = false := fun h => havAt_ge (by omega)
  refine enter Tryz.func258 rfl Tryz.ntmps258 fun w0 => ?_
  refine openReceiveWindow ?_
  rintro a1 c1 F1 rfl l1
  refine go ?_; intros
  refine ce (fun w s => l2Before_c _ _ _ (by omega) (by omega)) ?_
  cases g1 : bef n x.next
  · refine go ?_; intros
    refine ce (fun w s => l2Gap_c _ _ _ (by omega) (by omega)) ?_
    refine go ?_; intros
    refine ret () trivial ?_
    unfold takeOk takeNo
    rw [g1]
    by_cases h8 : gp x.next n < 8
    · simp [h8, tup]
    · simp [h8, hh h8, tup]
  · refine go ?_; intros
    refine ret () trivial ?_
    simp [takeOk, takeNo, g1, tup]
set_option maxRecDepth 100000 in
theorem l10Take_f (x : ReceiveWindow) (n : Int) (item : ByteArray) (v : Value) (F : List Nat) (h0 : 0 ≤ x.next) (h1 : x.next ≤ 65535) (h2 : 0 ≤ n) (h3 : n ≤ 65535) (hl : x.slots.length ≤ 8) (hs : ∀ s ∈ x.slots, s.item.size ≤ 8) (hi : item.size ≤ 8) (hok : takeOk x n = true) :
    Fn Tryz.prog 259 [v, .int .i64 n, .string item] [.isv EReceiveWindow v x F] [] (fun (s : RelS) => s.y = takeW x n item ∧ s.es = takeE x n item)
      (fun s => .tuple #[.agg #[.int .i64 s.y.next, .slice s.a s.y.slots.length s.c], .slice s.ae s.es.length s.ce]) (fun s => [.isv EReceiveWindow (.agg #[.int .i64 s.y.next, .slice s.a s.y.slots.length s.c]) s.y s.F, .ow EStr 9 (.slice s.ae s.es.length s.ce) s.es s.Fe]) := by
  have hg := gp_bd x.next n
  refine enter Tryz.func259 rfl Tryz.ntmps259 fun w0 => ?_
  refine openReceiveWindow ?_
  rintro a1 c1 F1 rfl l1
  refine go ?_; intros
  refine ce (fun w s => l2Gap_c _ _ _ (by omega) (by omega)) ?_
  obtain ⟨k, hk⟩ : ∃ k : Nat, gp x.next n = k := ⟨(gp x.next n).toNat, by omega⟩
  rw [hk]
  refine go ?_; intros
  refine c_joinS [1, 2, 3, 6, 7, 8] [0, 1, 2] (fun s : CpS => [(9, ptr s.g 0 0)]) (fun s => [.row s.g 46 0 [] [.int .i64 x.next, .slice s.a x.slots.length s.c] [], .ow ESlot 213 (.slice s.a x.slots.length s.c) x.slots s.F]) (fun _ => True) ?_ fun s _ => ?_
  · refine d_start [0, 1] [8] ?_
    refine dt 0 ?_
    refine dt 1 ?_
    refine dt 3 ?_
    refine dt 4 ?_
    refine dO2 2 7 (by kernel_rfl) (by rw [List.getElem?_toArray]; rfl) (by rw [List.getElem?_toArray]; rfl) ?_ ?_
    · apply o_bs0; rfl; intro _
      refine t_emp ESlot ?_
      refine dk ?_
      refine dO2 5 7 (by kernel_rfl) (by rw [List.getElem?_toArray]; rfl) (by rw [List.getElem?_toArray]; rfl) ?_ ?_
      · refine aps one_ESlot scal_ESlot fun a2 c2 F2 => ?_
        refine dk ?_
        refine dt 6 ?_
        refine dO 7 (by kernel_rfl) (by rw [List.getElem?_toArray]; rfl) ?_
        apply o_alloc; rfl; intro _
        refine dk ?_
        refine dO 8 (by kernel_rfl) (by rw [List.getElem?_toArray]; rfl) ?_
        apply o_st; rfl; rfl; rfl; (first | exact AggC.s | exact OneC.s); rfl; exact rplE; exact putE; rfl
        refine dkx ?_
        refine dd ?_
        refine n_join (⟨_, a2, c2, F2⟩ : CpS) trivial
      · apply o_alloc; rfl; intro _
        refine dk ?_
        refine dO 5 (by kernel_rfl) (by rw [List.getElem?_toArray]; rfl) ?_
        refine aps one_ESlot scal_ESlot fun a2 c2 F2 => ?_
        refine dk ?_
        refine dt 6 ?_
        refine dO 8 (by kernel_rfl) (by rw [List.getElem?_toArray]; rfl) ?_
        apply o_st; rfl; rfl; rfl; (first | exact AggC.s | exact OneC.s); rfl; exact rplE; exact putE; rfl
        refine dkx ?_
        refine dd ?_
        refine n_join (⟨_, a2, c2, F2⟩ : CpS) trivial
    · apply o_alloc; rfl; intro _
      refine dk ?_
      refine dO 2 (by kernel_rfl) (by rw [List.getElem?_toArray]; rfl) ?_
      apply o_bs0; rfl; intro _
      refine t_emp ESlot ?_
      refine dk ?_
      refine dO 5 (by kernel_rfl) (by rw [List.getElem?_toArray]; rfl) ?_
      refine aps one_ESlot scal_ESlot fun a2 c2 F2 => ?_
      refine dk ?_
      refine dt 6 ?_
      refine dO 8 (by kernel_rfl) (by rw [List.getElem?_toArray]; rfl) ?_
      apply o_st; rfl; rfl; rfl; (first | exact AggC.s | exact OneC.s); rfl; exact rplE; exact putE; rfl
      refine dkx ?_
      refine dd ?_
      refine n_join (⟨_, a2, c2, F2⟩ : CpS) trivial
  obtain ⟨gg, a2, c2, F2⟩ := s
  refine go ?_; intros
  refine ce (fun w s => l2Before_c _ _ _ (by omega) (by omega)) ?_
  cases g1 : bef n x.next
  rotate_left
  · refine go ?_; intros
    refine t_emp EStr ?_
    refine t_read (xs := x.slots) fun F3 => ?_
    refine closeReceiveWindow x ?_
    refine ret ⟨[], x, a2, c2, F3, _, 0, _⟩ ⟨by simp [takeW, takeNo, g1], by simp [takeE, takeNo, g1]⟩ rfl
  refine go ?_; intros
  refine wg_if rfl rfl (fun h4 => ?_) (fun h4 => ?_)
  · refine atSlot k ?_
    rintro hi2 b2 o2 e s1
    cases e
    refine go ?_; intros
    cases g4 : x.slots[k].hav
    rotate_left
    · have hb : hasB x n = true := by unfold hasB; rw [hk, Int.toNat_natCast, havAt_lt hi2]; exact g4
      refine go ?_; intros
      refine t_emp EStr ?_
      refine t_read (xs := x.slots) fun F3 => ?_
      refine closeReceiveWindow x ?_
      refine ret ⟨[], x, a2, c2, F3, _, 0, _⟩ ⟨by simp [takeW, takeNo, hb], by simp [takeE, takeNo, hb]⟩ rfl
    have hpad : hasB x n = false := by unfold hasB; rw [hk, Int.toNat_natCast, havAt_lt hi2]; exact g4
    have hno : takeNo x n = false := by unfold takeNo; rw [g1, hpad]; rfl
    have h8 : gp x.next n < 8 := by unfold takeOk at hok; rw [hno] at hok; simpa using hok
    have hW : takeW x n item = relW (putW x n item) := by unfold takeW; rw [hno, decide_eq_true h8]; rfl
    have hE : takeE x n item = relE (putW x n item) := by unfold takeE; rw [hno, decide_eq_true h8]; rfl
    unfold putW at hW hE
    rw [hk, Int.toNat_natCast] at hW hE
    refine go ?_; intros
    refine c_loopS [2, 6, 7, 8, 9] (fun s : PadS => []) (fun s => [.row gg 46 0 [] [.int .i64 x.next, .slice s.a (padL x s.j).length s.c] [], .ow ESlot 213 (.slice s.a (padL x s.j).length s.c) (padL x s.j) s.F]) (fun s => s.j ≤ k + 1 - x.slots.length) (fun s => k + 1 - x.slots.length - s.j) ⟨0, a2, c2, F2⟩ (Nat.zero_le _) (fun s hj => ?_) (hH := by simp only [padL, List.replicate_zero, List.append_nil]; exact picksE)
    have hpl := padL_len x s.j
    refine go ?_; intros
    refine c_if rfl (fun h9 => ?_) (fun h9 => ?_)
    · refine go ?_; intros
      apply wO
      refine ap1 (rep_slot zsl (by decide)) one_ESlot fun a' c' F' => ?_
      refine go ?_; intros
      have e : padL x s.j ++ [zsl] = padL x (s.j + 1) := by simp [padL, List.replicate_succ']
      rw [e]
      refine n_lp ⟨s.j + 1, a', c', F'⟩ (by show s.j + 1 ≤ _; omega) (by show _ - (s.j + 1) < _; omega)
    have hjk : s.j = k + 1 - x.slots.length := by omega
    refine go ?_; intros
    have hkl : k < (padL x s.j).length := by omega
    refine focSlot k ?_
    rintro hi2 g2 A2 B2 e eF hs2 hh
    rw [e]
    refine goN ?_; intros
    refine unfF (⟨true, item⟩ : Slot) hh (fun w => ⟨rfl, by show item.size ≤ maxLen; unfold maxLen; omega, rfl⟩) ?_
    have hsl : (padL x s.j).length = ((padL x s.j).set k ⟨true, item⟩).length := by rw [List.length_set]
    rw [hsl]
    have hpu : (padL x s.j).set k ⟨true, item⟩ = putL x k ⟨true, item⟩ := by unfold putL; rw [hjk]
    rw [hpu]
    have hpl2 : (putL x k ⟨true, item⟩).length ≤ 1000 := by unfold putL; rw [List.length_set, padL_len]; omega
    have hps := putL_items (x := x) (k := k) hs (s := ⟨true, item⟩) hi
    refine t_read (xs := putL x k ⟨true, item⟩) fun F4 => ?_
    refine closeReceiveWindow ⟨x.next, putL x k ⟨true, item⟩⟩ ?_
    refine go ?_; intros
    refine cf (l10Release_f ⟨x.next, putL x k ⟨true, item⟩⟩ _ _ h0 h1 (by show (putL x k ⟨true, item⟩).length ≤ _; omega) hps) fun z hz => ?_
    refine t_app ?_
    refine go ?_; intros
    refine ret z ⟨by rw [hz.1, hW], by rw [hz.2, hE]⟩ rfl
  · have hpad : hasB x n = false := havAt_ge (by omega)
    have hno : takeNo x n = false := by unfold takeNo; rw [g1, hpad]; rfl
    have h8 : gp x.next n < 8 := by unfold takeOk at hok; rw [hno] at hok; simpa using hok
    have hW : takeW x n item = relW (putW x n item) := by unfold takeW; rw [hno, decide_eq_true h8]; rfl
    have hE : takeE x n item = relE (putW x n item) := by unfold takeE; rw [hno, decide_eq_true h8]; rfl
    unfold putW at hW hE
    rw [hk, Int.toNat_natCast] at hW hE
    refine go ?_; intros
    refine c_loopS [2, 6, 7, 8, 9] (fun s : PadS => []) (fun s => [.row gg 46 0 [] [.int .i64 x.next, .slice s.a (padL x s.j).length s.c] [], .ow ESlot 213 (.slice s.a (padL x s.j).length s.c) (padL x s.j) s.F]) (fun s => s.j ≤ k + 1 - x.slots.length) (fun s => k + 1 - x.slots.length - s.j) ⟨0, a2, c2, F2⟩ (Nat.zero_le _) (fun s hj => ?_) (hH := by simp only [padL, List.replicate_zero, List.append_nil]; exact picksE)
    have hpl := padL_len x s.j
    refine go ?_; intros
    refine c_if rfl (fun h9 => ?_) (fun h9 => ?_)
    · refine go ?_; intros
      apply wO
      refine ap1 (rep_slot zsl (by decide)) one_ESlot fun a' c' F' => ?_
      refine go ?_; intros
      have e : padL x s.j ++ [zsl] = padL x (s.j + 1) := by simp [padL, List.replicate_succ']
      rw [e]
      refine n_lp ⟨s.j + 1, a', c', F'⟩ (by show s.j + 1 ≤ _; omega) (by show _ - (s.j + 1) < _; omega)
    have hjk : s.j = k + 1 - x.slots.length := by omega
    refine go ?_; intros
    have hkl : k < (padL x s.j).length := by omega
    refine focSlot k ?_
    rintro hi2 g2 A2 B2 e eF hs2 hh
    rw [e]
    refine goN ?_; intros
    refine unfF (⟨true, item⟩ : Slot) hh (fun w => ⟨rfl, by show item.size ≤ maxLen; unfold maxLen; omega, rfl⟩) ?_
    have hsl : (padL x s.j).length = ((padL x s.j).set k ⟨true, item⟩).length := by rw [List.length_set]
    rw [hsl]
    have hpu : (padL x s.j).set k ⟨true, item⟩ = putL x k ⟨true, item⟩ := by unfold putL; rw [hjk]
    rw [hpu]
    have hpl2 : (putL x k ⟨true, item⟩).length ≤ 1000 := by unfold putL; rw [List.length_set, padL_len]; omega
    have hps := putL_items (x := x) (k := k) hs (s := ⟨true, item⟩) hi
    refine t_read (xs := putL x k ⟨true, item⟩) fun F4 => ?_
    refine closeReceiveWindow ⟨x.next, putL x k ⟨true, item⟩⟩ ?_
    refine go ?_; intros
    refine cf (l10Release_f ⟨x.next, putL x k ⟨true, item⟩⟩ _ _ h0 h1 (by show (putL x k ⟨true, item⟩).length ≤ _; omega) hps) fun z hz => ?_
    refine t_app ?_
    refine go ?_; intros
    refine ret z ⟨by rw [hz.1, hW], by rw [hz.2, hE]⟩ rfl
end Go.Proofs.YtgogcgkocjpgoaaGreatDoor
/- Receive windows: the reference's GiveUpTo and TakeItem; the contracts that the laws ask. -/
namespace Go.Proofs.YtgogcgkocjpgoaaGreatDoor
open Go.RowKit
set_option maxRecDepth 100000 in
theorem l10GiveUp_f (x : ReceiveWindow) (n : Int) (v : Value) (F : List Nat) (h0 : 0 ≤ x.next) (h1 : x.next ≤ 65535) (h2 : 0 ≤ n) (h3 : n ≤ 65535) (hl : x.slots.length ≤ 8) (hs : ∀ s ∈ x.slots, s.item.size ≤ 8) :
    Fn Tryz.prog 192 [v, .int .i64 n] [.isv EReceiveWindow v x F] [] (fun (s : RelS) => s.y = relW (giveW (stepsN x.next n) x) ∧ s.es = giveE (stepsN x.next n) x ++ relE (giveW (stepsN x.next n) x))
      (fun s => .tuple #[.agg #[.int .i64 s.y.next, .slice s.a s.y.slots.length s.c], .slice s.ae s.es.length s.ce]) (fun s => [.isv EReceiveWindow (.agg #[.int .i64 s.y.next, .slice s.a s.y.slots.length s.c]) s.y s.F, .ow EStr 9 (.slice s.ae s.es.length s.ce) s.es s.Fe]) := by
  have hgn := stepsN_le x.next n
  refine enter Tryz.func192 rfl Tryz.ntmps192 fun w0 => ?_
  refine openReceiveWindow ?_
  rintro a1 c1 F1 rfl l1
  refine go ?_; intros
  refine c_joinS [1, 4, 5] [0] (fun s : CpS => [(6, ptr s.g 0 0)]) (fun s => [.row s.g 46 0 [] [.int .i64 x.next, .slice s.a x.slots.length s.c] [], .ow ESlot 213 (.slice s.a x.slots.length s.c) x.slots s.F]) (fun _ => True) ?_ fun s _ => ?_
  · refine d_start [0, 1] [8] ?_
    refine dt 0 ?_
    refine dt 1 ?_
    refine dt 3 ?_
    refine dt 4 ?_
    refine dO2 2 7 (by kernel_rfl) (by rw [List.getElem?_toArray]; rfl) (by rw [List.getElem?_toArray]; rfl) ?_ ?_
    · apply o_bs0; rfl; intro _
      refine t_emp ESlot ?_
      refine dk ?_
      refine dO2 5 7 (by kernel_rfl) (by rw [List.getElem?_toArray]; rfl) (by rw [List.getElem?_toArray]; rfl) ?_ ?_
      · refine aps one_ESlot scal_ESlot fun a2 c2 F2 => ?_
        refine dk ?_
        refine dt 6 ?_
        refine dO 7 (by kernel_rfl) (by rw [List.getElem?_toArray]; rfl) ?_
        apply o_alloc; rfl; intro _
        refine dk ?_
        refine dO 8 (by kernel_rfl) (by rw [List.getElem?_toArray]; rfl) ?_
        apply o_st; rfl; rfl; rfl; (first | exact AggC.s | exact OneC.s); rfl; exact rplE; exact putE; rfl
        refine dkx ?_
        refine dd ?_
        refine n_join (⟨_, a2, c2, F2⟩ : CpS) trivial
      · apply o_alloc; rfl; intro _
        refine dk ?_
        refine dO 5 (by kernel_rfl) (by rw [List.getElem?_toArray]; rfl) ?_
        refine aps one_ESlot scal_ESlot fun a2 c2 F2 => ?_
        refine dk ?_
        refine dt 6 ?_
        refine dO 8 (by kernel_rfl) (by rw [List.getElem?_toArray]; rfl) ?_
        apply o_st; rfl; rfl; rfl; (first | exact AggC.s | exact OneC.s); rfl; exact rplE; exact putE; rfl
        refine dkx ?_
        refine dd ?_
        refine n_join (⟨_, a2, c2, F2⟩ : CpS) trivial
    · apply o_alloc; rfl; intro _
      refine dk ?_
      refine dO 2 (by kernel_rfl) (by rw [List.getElem?_toArray]; rfl) ?_
      apply o_bs0; rfl; intro _
      refine t_emp ESlot ?_
      refine dk ?_
      refine dO 5 (by kernel_rfl) (by rw [List.getElem?_toArray]; rfl) ?_
      refine aps one_ESlot scal_ESlot fun a2 c2 F2 => ?_
      refine dk ?_
      refine dt 6 ?_
      refine dO 8 (by kernel_rfl) (by rw [List.getElem?_toArray]; rfl) ?_
      apply o_st; rfl; rfl; rfl; (first | exact AggC.s | exact OneC.s); rfl; exact rplE; exact putE; rfl
      refine dkx ?_
      refine dd ?_
      refine n_join (⟨_, a2, c2, F2⟩ : CpS) trivial
  obtain ⟨gg, a2, c2, F2⟩ := s
  refine t_read (xs := x.slots) fun F3 => ?_
  refine go ?_; intros
  refine t_emp EStr ?_
  refine c_loopS [1, 4, 5, 6] (fun s : RelS => [(7, .slice s.ae s.es.length s.ce)]) (fun s => [.row gg 46 0 [] [.int .i64 s.y.next, .slice s.a s.y.slots.length s.c] [], .sl ESlot (.slice s.a s.y.slots.length s.c) s.y.slots s.F, .ow EStr 9 (.slice s.ae s.es.length s.ce) s.es s.Fe]) (GiveOk x n) (fun s => stepsN s.y.next n) ⟨[], x, a2, c2, F3, _, 0, _⟩ ⟨h0, h1, hs, Nat.le_refl _, by simp, rfl, rfl⟩ fun s hC => ?_
  obtain ⟨n0, n1, hit, hln, hle, hw, he⟩ := hC
  refine go ?_; intros
  refine ce (fun w s => l2Before_c _ _ _ (by omega) (by omega)) ?_
  cases hb : bef s.y.next n
  · refine goN ?_; intros
    refine closeReceiveWindow s.y ?_
    refine go ?_; intros
    rw [stepsN_no hb] at hw he
    refine cf (l10Release_f s.y _ _ n0 n1 (by omega) hit) fun z hz => ?_
    refine t_app ?_
    refine go ?_; intros
    have hr := relE_len s.y
    have hzl : z.es.length ≤ s.y.slots.length := by rw [hz.2]; exact hr
    refine t_read (xs := z.es) fun F' => ?_
    refine d_start [1] [] ?_
    refine dt 0 ?_
    refine dt 1 ?_
    refine dt 2 ?_
    refine dO 3 (by kernel_rfl) (by rw [List.getElem?_toArray]; rfl) ?_
    refine aps one_EStr scal_EStr fun a' c' F2 => ?_
    refine dk ?_
    refine dO 4 (by kernel_rfl) (by rw [List.getElem?_toArray]; rfl) ?_
    apply o_st; rfl; rfl; rfl; (first | exact AggC.s | exact OneC.s); rfl; exact rplE; exact putE; rfl
    refine dk ?_
    refine dt 5 ?_
    refine dd ?_
    refine go ?_; intros
    refine ret ⟨s.es ++ z.es, z.y, z.a, z.c, z.F, a', c', F2⟩ ⟨by rw [hz.1, hw]; rfl, by rw [hz.2, he, hw]; simp [giveE, giveW]⟩ rfl
  have hst := stepsN_yes hb
  have hmx : (shiftEv s.y.slots).size ≤ maxLen := by have := shiftEv_size hit; unfold maxLen; omega
  refine go ?_; intros
  refine t_emp ESlot ?_
  refine c_if rfl (fun h4 => ?_) (fun h4 => ?_)
  · refine atSlot 0 ?_
    rintro hi b o e s1
    rw [e]
    refine go ?_; intros
    cases g1 : s.y.slots[0].hav
    · have hpl1 : (⟨#[45]⟩ : ByteArray) = shiftEv s.y.slots := (shiftEv_f hi g1).symm
      refine go ?_; intros
      apply wO
      refine sld 1 fun a5 c5 F5 => ?_
      refine go ?_; intros
      rw [hpl1]
      apply wO
      refine ap1 (rep_str _ hmx) one_EStr fun a' c' F' => ?_
      refine go ?_; intros
      refine ce (fun w s => l2After_c _ _ _ (by omega) (by omega)) ?_
      refine go ?_; intros
      refine n_lp ⟨s.es ++ [shiftEv s.y.slots], shW s.y, a5, c5, F5, a', c', F'⟩ ⟨(aft_bd _ _).1, (aft_bd _ _).2, fun z hz => hit z (List.mem_of_mem_drop hz), by simp [shW]; omega, by simp [shW]; omega, by rw [hw, hst]; rfl, by rw [he, hst]; simp [giveE, shW]⟩ (by show stepsN (aft s.y.next 1) n < _; omega)
    · have hz := hit _ (List.getElem_mem hi)
      have h43 : (⟨#[43]⟩ : ByteArray).size = 1 := rfl
      have hpl2 : (⟨#[43]⟩ ++ s.y.slots[0].item : ByteArray) = shiftEv s.y.slots := (shiftEv_t hi g1).symm
      refine go ?_; intros
      apply wO
      refine sld 1 fun a5 c5 F5 => ?_
      refine go ?_; intros
      rw [hpl2]
      apply wO
      refine ap1 (rep_str _ hmx) one_EStr fun a' c' F' => ?_
      refine go ?_; intros
      refine ce (fun w s => l2After_c _ _ _ (by omega) (by omega)) ?_
      refine go ?_; intros
      refine n_lp ⟨s.es ++ [shiftEv s.y.slots], shW s.y, a5, c5, F5, a', c', F'⟩ ⟨(aft_bd _ _).1, (aft_bd _ _).2, fun z hz => hit z (List.mem_of_mem_drop hz), by simp [shW]; omega, by simp [shW]; omega, by rw [hw, hst]; rfl, by rw [he, hst]; simp [giveE, shW]⟩ (by show stepsN (aft s.y.next 1) n < _; omega)
  · have hnil : s.y.slots = [] := List.eq_nil_of_length_eq_zero (by omega)
    have hpl3 : (⟨#[45]⟩ : ByteArray) = shiftEv s.y.slots := by rw [hnil]; rfl
    have hd : ([] : List Slot) = s.y.slots.drop 1 := by rw [hnil]; rfl
    · refine go ?_; intros
      refine t_read (E := ESlot) (xs := []) fun F6 => ?_
      rw [show (Value.slice (some _) 0 0 : Value) = Value.slice _ ([] : List Slot).length 0 from rfl]
      rw [hpl3]
      apply wO
      refine ap1 (rep_str _ hmx) one_EStr fun a' c' F' => ?_
      refine go ?_; intros
      refine ce (fun w s => l2After_c _ _ _ (by omega) (by omega)) ?_
      refine go ?_; intros
      rw [hd]
      refine n_lp ⟨s.es ++ [shiftEv s.y.slots], shW s.y, _, 0, F6, a', c', F'⟩ ⟨(aft_bd _ _).1, (aft_bd _ _).2, fun z hz => hit z (List.mem_of_mem_drop hz), by simp [shW]; omega, by simp [shW]; omega, by rw [hw, hst]; rfl, by rw [he, hst]; simp [giveE, shW]⟩ (by show stepsN (aft s.y.next 1) n < _; omega)
end Go.Proofs.YtgogcgkocjpgoaaGreatDoor
/- Receive windows: GiveUpTo and TakeItem of the reference; the contracts that the laws ask. -/
namespace Go.Proofs.YtgogcgkocjpgoaaGreatDoor
open Go.RowKit
end Go.Proofs.YtgogcgkocjpgoaaGreatDoor
/- Receive windows: what is counted, what is there, what is seen; serials. -/
namespace Go.Proofs.YtgogcgkocjpgoaaGreatDoor
open Go.RowKit
def resHave (x : ReceiveWindow) (n : Int) : Bool × Bool := if goodRW x && isSer n then (takeNo x n, true) else (false, false)
theorem resHave_no {x : ReceiveWindow} {n : Int} (h : (goodRW x && isSer n) = false) : resHave x n = (false, false) := by unfold resHave; rw [h]; rfl
theorem resHave_yes {x : ReceiveWindow} {n : Int} (h : (goodRW x && isSer n) = true) : resHave x n = (takeNo x n, true) := by unfold resHave; rw [h]; rfl
def resGap (a b : Int) : Int × Bool := if isSer a && isSer b then (gp a b, true) else (0, false)
def resBef (a b : Int) : Bool × Bool := if isSer a && isSer b then (bef a b, true) else (false, false)
set_option maxRecDepth 100000 in
theorem haveItem_f (x : ReceiveWindow) (n : Int) (v : Value) (F : List Nat) (h0 : 0 ≤ x.next) (h1 : x.next ≤ 65535) (h2 : 0 ≤ n) (h3 : n ≤ 65535) :
    Fn Tryz.prog 140 [v, .int .i64 n] [.isv EReceiveWindow v x F] [] (fun (_ : Unit) => True) (fun _ => .bool (takeNo x n)) (fun _ => []) := by
  refine enter Tryz.func140 rfl Tryz.ntmps140 fun w0 => ?_
  refine openReceiveWindow ?_
  rintro a1 c1 F1 rfl l1
  refine go ?_; intros
  refine ce (fun w s => isBefore_c _ _ _ (by omega) (by omega) (by omega) (by omega)) ?_
  cases g1 : bef n x.next
  · refine go ?_; intros
    refine cb (fun w st => (RWhas_f x n _ F h0 h1 h2 h3).val w (hol1 (st.get (p := .isv EReceiveWindow (.agg #[.int .i64 x.next, .slice a1 x.slots.length c1]) x F) (by simp)))) ?_
    refine go ?_; intros
    refine ret () trivial ?_
    simp [takeNo, g1, tup]
  · refine go ?_; intros
    refine ret () trivial ?_
    simp [takeNo, g1, tup]
set_option maxRecDepth 100000 in
theorem l10Have_f (x : ReceiveWindow) (n : Int) (v : Value) (F : List Nat) (h0 : 0 ≤ x.next) (h1 : x.next ≤ 65535) (h2 : 0 ≤ n) (h3 : n ≤ 65535) :
    Fn Tryz.prog 142 [v, .int .i64 n] [.isv EReceiveWindow v x F] [] (fun (_ : Unit) => True) (fun _ => .bool (takeNo x n)) (fun _ => []) := by
  have hg := gp_bd x.next n
  refine enter Tryz.func142 rfl Tryz.ntmps142 fun w0 => ?_
  refine openReceiveWindow ?_
  rintro a1 c1 F1 rfl l1
  refine go ?_; intros
  refine ce (fun w s => l2Gap_c _ _ _ (by omega) (by omega)) ?_
  obtain ⟨k, hk⟩ : ∃ k : Nat, gp x.next n = k := ⟨(gp x.next n).toNat, by omega⟩
  have hh : hasB x n = havAt x.slots k := by unfold hasB; rw [hk, Int.toNat_natCast]
  rw [hk]
  refine go ?_; intros
  refine ce (fun w s => l2Before_c _ _ _ (by omega) (by omega)) ?_
  cases g1 : bef n x.next
  · refine go ?_; intros
    refine wg_if rfl rfl (fun h4 => ?_) (fun h4 => ?_)
    · refine atSlot (xs := x.slots) k ?_
      rintro hi2 b2 o2 e s1
      rw [e]
      refine go ?_; intros
      refine ret () trivial ?_
      simp [takeNo, g1, hh, havAt_lt hi2, tup]
    · refine go ?_; intros
      refine ret () trivial ?_
      simp [takeNo, g1, hh, havAt_ge (show x.slots.length ≤ k by omega), tup]
  · refine go ?_; intros
    refine ret () trivial ?_
    simp [takeNo, g1, tup]
set_option maxRecDepth 100000 in
theorem HaveItem_f (x : ReceiveWindow) (n : Int) (v : Value) (F : List Nat) : Fn Tryz.prog 65 [v, .int .i64 n] [.isv EReceiveWindow v x F] [] (fun (_ : Unit) => True) (fun _ => .tuple #[.bool (resHave x n).1, .bool (resHave x n).2]) (fun _ => []) := by
  refine enter Tryz.func65 rfl Tryz.ntmps65 fun w0 => ?_
  refine openReceiveWindow ?_
  rintro a1 c1 F1 rfl l1
  refine go ?_; intros
  refine cb (fun w st => (RWgood_f x _ F).val w (hol1 (st.get (p := .isv EReceiveWindow (.agg #[.int .i64 x.next, .slice a1 x.slots.length c1]) x F) (by simp)))) ?_
  cases g1 : goodRW x
  · refine go ?_; intros
    rw [resHave_no (by rw [g1]; rfl)]
    refine ret () trivial rfl
  obtain ⟨n0, n1, hl, hit⟩ := good_of g1
  refine go ?_; intros
  refine ce (fun w s => IsSerial_c _ _) ?_
  cases g2 : isSer n
  · refine go ?_; intros
    rw [resHave_no (by rw [g1, g2]; rfl)]
    refine ret () trivial rfl
  obtain ⟨k0, k1⟩ := isSer_iff.1 g2
  rw [resHave_yes (by rw [g1, g2]; rfl)]
  refine go ?_; intros
  refine cb (fun w st => (haveItem_f x n _ F n0 n1 k0 k1).val w (hol1 (st.get (p := .isv EReceiveWindow (.agg #[.int .i64 x.next, .slice a1 x.slots.length c1]) x F) (by simp)))) ?_
  refine go ?_; intros
  refine ret () trivial rfl
set_option maxRecDepth 100000 in
theorem SerialGap_f (a b : Int) : Fn Tryz.prog 50 [.int .i64 a, .int .i64 b] [] [] (fun (_ : Unit) => True) (fun _ => .tuple #[.int .i64 (resGap a b).1, .bool (resGap a b).2]) (fun _ => []) := by
  refine enter Tryz.func50 rfl Tryz.ntmps50 fun w0 => ?_
  refine go ?_; intros
  refine ce (fun w s => IsSerial_c _ _) ?_
  cases g1 : isSer a
  · refine go ?_; intros
    rw [show resGap a b = _ by unfold resGap; rw [g1]]
    refine ret () trivial rfl
  refine go ?_; intros
  refine ce (fun w s => IsSerial_c _ _) ?_
  cases g2 : isSer b
  · refine go ?_; intros
    rw [show resGap a b = _ by unfold resGap; rw [g1, g2]]
    refine ret () trivial rfl
  obtain ⟨a0, a1⟩ := isSer_iff.1 g1
  obtain ⟨b0, b1⟩ := isSer_iff.1 g2
  rw [show resGap a b = _ by unfold resGap; rw [g1, g2]]
  refine go ?_; intros
  refine ce (fun w s => gap_c _ _ _ (by omega) (by omega) (by omega) (by omega)) ?_
  refine go ?_; intros
  refine ret () trivial rfl
set_option maxRecDepth 100000 in
theorem IsBefore_f (a b : Int) : Fn Tryz.prog 64 [.int .i64 a, .int .i64 b] [] [] (fun (_ : Unit) => True) (fun _ => .tuple #[.bool (resBef a b).1, .bool (resBef a b).2]) (fun _ => []) := by
  refine enter Tryz.func64 rfl Tryz.ntmps64 fun w0 => ?_
  refine go ?_; intros
  refine ce (fun w s => IsSerial_c _ _) ?_
  cases g1 : isSer a
  · refine go ?_; intros
    rw [show resBef a b = _ by unfold resBef; rw [g1]]
    refine ret () trivial rfl
  refine go ?_; intros
  refine ce (fun w s => IsSerial_c _ _) ?_
  cases g2 : isSer b
  · refine go ?_; intros
    rw [show resBef a b = _ by unfold resBef; rw [g1, g2]]
    refine ret () trivial rfl
  obtain ⟨a0, a1⟩ := isSer_iff.1 g1
  obtain ⟨b0, b1⟩ := isSer_iff.1 g2
  rw [show resBef a b = _ by unfold resBef; rw [g1, g2]]
  refine go ?_; intros
  refine ce (fun w s => isBefore_c _ _ _ (by omega) (by omega) (by omega) (by omega)) ?_
  refine go ?_; intros
  refine ret () trivial rfl
end Go.Proofs.YtgogcgkocjpgoaaGreatDoor
/- Draws, for the engine: serials. -/
namespace Go.Proofs.YtgogcgkocjpgoaaGreatDoor
open Go.RowKit
theorem Fn.weak {P : Program} {f : FuncId} {args : List Value} {A M : List Pc} {σ : Type} {C C' : σ → Prop} {v : σ → Value} {N : σ → List Pc} (h : Fn P f args A M C v N) (hC : ∀ s, C s → C' s) : Fn P f args A M C' v N := fun w h1 h2 => (h w h1 h2).mono fun _ _ ⟨s, hc, r⟩ => ⟨s, hC s hc, r⟩
theorem flat_int (w : World) : ∀ xs : List Int, Flat EInt w (xs.map (Value.int .i64)) xs []
  | [] => ⟨rfl, rfl⟩
  | x :: r => ⟨[.int .i64 x], r.map (Value.int .i64), [], [], rfl, rfl, ⟨rfl, rfl⟩, flat_int w r⟩
theorem flat_s (w : World) : ∀ xs : List ByteArray, (∀ x ∈ xs, x.size ≤ maxLen) → Flat EStr w (xs.map Value.string) xs []
  | [], _ => ⟨rfl, rfl⟩
  | x :: r, h => ⟨[.string x], r.map Value.string, [], [], rfl, rfl, ⟨rfl, h x (by simp), rfl⟩, flat_s w r fun y hy => h y (by simp [hy])⟩
set_option maxRecDepth 100000 in
theorem serial_f (B g : Nat) (F : CuF) (s : CuS) (ok : CuOk B s) (hB : B ≤ 900000000000) :
    Fn Tryz.prog 183 [ptr g 0 0] [.sl EByte (.slice F.a F.code.length F.c) F.code F.bs] [.row g 123 0 [] [.slice F.a F.code.length F.c, .int .i64 (s.k : Nat), .int .u64 s.seed] []] (fun (z : Int × CuS) => (0 ≤ z.1 ∧ z.1 ≤ 65535) ∧ CuOk (B + 4) z.2) (fun z => .int .i64 z.1) (fun z => [.row g 123 0 [] [.slice F.a F.code.length F.c, .int .i64 (z.2.k : Nat), .int .u64 z.2.seed] []]) := by
  refine enter Tryz.func183 rfl Tryz.ntmps183 fun w0 => ?_
  refine goN ?_; intros
  refine t_row (xs := [0, 1, 100, 32767, 32768, 65535, 65530, 4660]) (fun w => flat_int w _) ?_ (by decide)
  refine t_read (E := EInt) fun G => ?_
  refine go ?_; intros
  refine cf (among_f B g F _ [0, 1, 100, 32767, 32768, 65535, 65530, 4660] G s ok (by omega) (by decide) (by decide)) fun z hz => ?_
  refine t_app ?_
  obtain ⟨hz1, hz2⟩ := hz
  have hz3 : 0 ≤ z.1 ∧ z.1 ≤ 65535 := by simp only [List.mem_cons, List.not_mem_nil, or_false] at hz1; omega
  refine go ?_; intros
  refine cf (pick_f (B + 2) g F 12 z.2 hz2 (by omega) (by omega)) fun y hy => ?_
  refine t_app ?_
  obtain ⟨hy1, hy2⟩ := hy
  refine go ?_; intros
  refine ce (fun w s => l2After_c _ _ _ (by omega) (by omega)) ?_
  refine go ?_; intros
  refine ret (_, y.2) ⟨aft_bd _ _, hy2⟩ rfl
set_option maxRecDepth 100000 in
theorem anySerialW_f (B g : Nat) (F : CuF) (s : CuS) (ok : CuOk B s) (hB : B ≤ 890000000000) :
    Fn Tryz.prog 186 [ptr g 0 0] [.sl EByte (.slice F.a F.code.length F.c) F.code F.bs] [.row g 123 0 [] [.slice F.a F.code.length F.c, .int .i64 (s.k : Nat), .int .u64 s.seed] []] (fun (z : Int × CuS) => (-1 ≤ z.1 ∧ z.1 ≤ 65536) ∧ CuOk (B + 6) z.2) (fun z => .int .i64 z.1) (fun z => [.row g 123 0 [] [.slice F.a F.code.length F.c, .int .i64 (z.2.k : Nat), .int .u64 z.2.seed] []]) := by
  refine enter Tryz.func186 rfl Tryz.ntmps186 fun w0 => ?_
  refine go ?_; intros
  refine cf (one_f B g F 20 s ok (by omega) (by omega)) fun q hq => ?_
  refine t_app ?_
  obtain ⟨b, s1⟩ := q
  obtain ⟨-, hq⟩ := hq
  cases b
  · refine go ?_; intros
    refine cf (serial_f (B + 2) g F s1 hq (by omega)) fun z hz => ?_
    refine t_app ?_
    refine go ?_; intros
    refine ret z ⟨by have := hz.1; omega, hz.2⟩ rfl
  · refine goN ?_; intros
    refine t_row (xs := [-1, 65536, 65535]) (fun w => flat_int w _) ?_ (by decide)
    refine t_read (E := EInt) fun G => ?_
    refine go ?_; intros
    refine cf (among_f (B + 2) g F _ [-1, 65536, 65535] G s1 hq (by omega) (by decide) (by decide)) fun z hz => ?_
    refine t_app ?_
    refine go ?_; intros
    refine ret z ⟨by have := hz.1; simp only [List.mem_cons, List.not_mem_nil, or_false] at this; omega, hz.2.mono (by omega)⟩ rfl
theorem anySerial_f (B g : Nat) (F : CuF) (s : CuS) (ok : CuOk B s) (hB : B ≤ 890000000000) :
    Fn Tryz.prog 186 [ptr g 0 0] [.sl EByte (.slice F.a F.code.length F.c) F.code F.bs] [.row g 123 0 [] [.slice F.a F.code.length F.c, .int .i64 (s.k : Nat), .int .u64 s.seed] []] (fun (z : Int × CuS) => CuOk (B + 6) z.2) (fun z => .int .i64 z.1) (fun z => [.row g 123 0 [] [.slice F.a F.code.length F.c, .int .i64 (z.2.k : Nat), .int .u64 z.2.seed] []]) := (anySerialW_f B g F s ok hB).weak fun _ h => h.2
end Go.Proofs.YtgogcgkocjpgoaaGreatDoor
/- Draws, for the engine: serials, letters. -/
namespace Go.Proofs.YtgogcgkocjpgoaaGreatDoor
open Go.RowKit
structure LeS where
  r : Nat
  t : ByteArray
  s : CuS
structure LeOk (B r0 : Nat) (z : LeS) : Prop where
  r : z.r ≤ r0
  s : CuOk (B + 2 + 2 * (r0 - z.r)) z.s
  t : z.t.size ≤ r0 - z.r
  l : lows z.t.data.toList = true
set_option maxRecDepth 100000 in
theorem letters_f (B g : Nat) (F : CuF) (s : CuS) (n : Int) (ok : CuOk B s) (hB : B ≤ 900000000000) (h0 : 0 ≤ n) (h8 : n ≤ 20) :
    Fn Tryz.prog 224 [ptr g 0 0, .int .i64 n] [.sl EByte (.slice F.a F.code.length F.c) F.code F.bs] [.row g 123 0 [] [.slice F.a F.code.length F.c, .int .i64 (s.k : Nat), .int .u64 s.seed] []] (fun (z : ByteArray × CuS) => (z.1.size ≤ 20 ∧ (z.1.size : Int) ≤ n ∧ lows z.1.data.toList = true) ∧ CuOk (B + 42) z.2) (fun z => .string z.1) (fun z => [.row g 123 0 [] [.slice F.a F.code.length F.c, .int .i64 (z.2.k : Nat), .int .u64 z.2.seed] []]) := by
  refine enter Tryz.func224 rfl Tryz.ntmps224 fun w0 => ?_
  refine go ?_; intros
  refine cf (pick_f B g F (n + 1) s ok (by omega) (by omega)) fun y hy => ?_
  refine t_app ?_
  obtain ⟨r0, s1⟩ := y
  obtain ⟨hy1, hy2⟩ := hy
  dsimp only at hy1 hy2 ⊢
  have hr0 : r0 ≤ 20 := by omega
  refine go ?_; intros
  refine c_loopS [0, 4] (fun z : LeS => [(5, .string z.t), (6, .int .i64 (z.r : Nat))]) (fun z => [.row g 123 0 [] [.slice F.a F.code.length F.c, .int .i64 (z.s.k : Nat), .int .u64 z.s.seed] []]) (LeOk B r0) (fun z => z.r) ⟨r0, ⟨#[]⟩, s1⟩ ⟨Nat.le_refl _, by simpa using hy2, Nat.zero_le _, rfl⟩ fun z hz => ?_
  obtain ⟨z1, z2, z3, z4⟩ := hz
  refine go ?_; intros
  refine c_if rfl (fun h3 => ?_) (fun h3 => ?_)
  · refine goN ?_; intros
    refine t_row (xs := [⟨#[97]⟩, ⟨#[98]⟩, ⟨#[99]⟩, ⟨#[120]⟩, ⟨#[122]⟩]) (fun w => flat_s w _ (by decide)) ?_ (by decide)
    refine t_read (E := EStr) fun G => ?_
    refine go ?_; intros
    refine cf (of_f _ g F _ [⟨#[97]⟩, ⟨#[98]⟩, ⟨#[99]⟩, ⟨#[120]⟩, ⟨#[122]⟩] G z.s z2 (by omega) (by decide) (by decide)) fun q hq => ?_
    refine t_app ?_
    have hq1 : q.1.size = 1 ∧ lows q.1.data.toList = true := by
      have := hq.1
      simp only [List.mem_cons, List.not_mem_nil, or_false] at this
      rcases this with e | e | e | e | e <;> rw [e] <;> exact ⟨rfl, rfl⟩
    refine go ?_; intros
    rw [show ((z.r : Nat) : Int) - 1 = ((z.r - 1 : Nat) : Int) by omega]
    refine n_lp ⟨z.r - 1, z.t ++ q.1, q.2⟩ ⟨by show z.r - 1 ≤ r0; omega, hq.2.mono (by show _ ≤ B + 2 + 2 * (r0 - (z.r - 1)); omega), by show (z.t ++ q.1).size ≤ r0 - (z.r - 1); rw [ByteArray.size_append]; omega, by show lows (z.t ++ q.1).data.toList = true; rw [ByteArray.data_append, Array.toList_append]; unfold lows at *; rw [List.all_append, z4, hq1.2]; rfl⟩ (by show z.r - 1 < _; omega)
  · refine go ?_; intros
    refine ret (z.t, z.s) ⟨⟨by show z.t.size ≤ 20; omega, by show (z.t.size : Int) ≤ n; omega, z4⟩, z2.mono (by omega)⟩ rfl
end Go.Proofs.YtgogcgkocjpgoaaGreatDoor
/- The type Packet of the exact laws: how it reads, how it is owned; the walks of its size, copy, equality, mark and held. Written by wip/gentypes.py. -/
namespace Go.Proofs.YtgogcgkocjpgoaaGreatDoor
open Go.RowKit
structure Packet where
  kind : Int
  number : Int
  trail : Int
  lead : Int
  data : ByteArray
/-- read -/
def EPacket : Elem Packet where
  sz := 5
  rep _ cs x F := cs = [.int .i64 x.kind, .int .i64 x.number, .int .i64 x.trail, .int .i64 x.lead, .string x.data] ∧ x.data.size ≤ maxLen ∧ F = []
  len h := by obtain ⟨rfl, s1, rfl⟩ := h; rfl
  lt h := by obtain ⟨rfl, s1, rfl⟩ := h; simp
  frame h _ := h
theorem one_EPacket : One EPacket := fun h u hu => by
  obtain ⟨rfl, s1, rfl⟩ := h
  simp only [List.mem_cons, List.not_mem_nil, or_false] at hu
  rcases hu with rfl | rfl | rfl | rfl | rfl
  · rfl
  · rfl
  · rfl
  · rfl
  · rfl
end Go.Proofs.YtgogcgkocjpgoaaGreatDoor
/- Structs of type Packet in a walk's state: opened, closed. -/
namespace Go.Proofs.YtgogcgkocjpgoaaGreatDoor
open Go.RowKit
section
variable {c : Cx} {fr : Fr} {H : List Pc} {Φ : Gl}
theorem atPacket {a : Option Addr} {n cp : Nat} {xs : List Packet} {F : List Nat} (i : Nat) (h : ∀ (hi : i < xs.length) (b o : Nat), a = some ⟨b, o, none⟩ → xs[i].data.size ≤ maxLen → T c fr (.cel b (o + i * 5) [.int .i64 xs[i].kind, .int .i64 xs[i].number, .int .i64 xs[i].trail, .int .i64 xs[i].lead, .string xs[i].data] :: H) Φ) (hm : .sl EPacket (.slice a n cp) xs F ∈ H := by (repeat (first | exact .head _ | apply List.Mem.tail)); first | done | fail) (hi : i < xs.length := by omega) : T c fr H Φ := .mk fun ac w s g => by
  obtain ⟨b, o, cs, G, ha, hrep, hG, hb, hne, hr⟩ := sl_at (s.get hm) i hi
  obtain ⟨rfl, s1, rfl⟩ := hrep
  exact (h hi b o  ha s1 ).h ac w (s.ro hm rfl rfl ⟨hne, hr⟩ (by intro x hx; simp [Pc.F] at hx; subst hx; exact hb)) g
theorem flatPacket (x : Packet) (s1 : x.data.size ≤ maxLen) (w : World) : Flat EPacket w [.int .i64 x.kind, .int .i64 x.number, .int .i64 x.trail, .int .i64 x.lead, .string x.data] [x] [] := ⟨_, [], [], [], by simp, by simp, ⟨rfl, s1, rfl⟩, rfl, rfl⟩
end
end Go.Proofs.YtgogcgkocjpgoaaGreatDoor
/- What a valid packet is; plain. -/
namespace Go.Proofs.YtgogcgkocjpgoaaGreatDoor
open Go.RowKit
def goodPk (p : Packet) : Bool := btw 1 p.kind 5 && isSer p.number && isSer p.trail && isSer p.lead && itm p.data && decide (gp p.trail p.lead ≤ 32767) && (decide (p.data = ⟨#[]⟩) || decide (p.kind = 1) || decide (p.kind = 2))
theorem goodPk_num {p : Packet} (h : goodPk p = true) : 0 ≤ p.number ∧ p.number ≤ 65535 := by
  unfold goodPk at h
  simp only [Bool.and_eq_true] at h
  exact isSer_iff.1 h.1.1.1.1.1.2
end Go.Proofs.YtgogcgkocjpgoaaGreatDoor
/- Draws, for the engine: packets. -/
namespace Go.Proofs.YtgogcgkocjpgoaaGreatDoor
open Go.RowKit
theorem goodPk_mk {k n t l : Int} {s : ByteArray} (hk : 1 ≤ k ∧ k ≤ 5) (hn : isSer n = true) (ht : isSer t = true) (hl : isSer l = true) (hg : gp t l ≤ 32767) (hs : itm s = true) (he : s = ⟨#[]⟩ ∨ k ≤ 2) : goodPk ⟨k, n, t, l, s⟩ = true := by
  unfold goodPk btw
  simp only [Bool.and_eq_true, Bool.or_eq_true, decide_eq_true_eq]
  refine ⟨⟨⟨⟨⟨⟨hk, hn⟩, ht⟩, hl⟩, hs⟩, hg⟩, ?_⟩
  rcases he with h | h
  · exact .inl (.inl h)
  · by_cases h1 : k = 1
    · exact .inl (.inr h1)
    · exact .inr (by omega)
theorem itm_mk {s : ByteArray} (h : (s.size : Int) ≤ 8) (h2 : lows s.data.toList = true) : itm s = true := by unfold itm; rw [decide_eq_true h, h2]; rfl
theorem goodPk_bd {p : Packet} (h : goodPk p = true) : 0 ≤ p.trail ∧ p.trail ≤ 65535 ∧ p.data.size ≤ maxLen := by
  unfold goodPk itm at h
  simp only [Bool.and_eq_true, decide_eq_true_eq] at h
  obtain ⟨t0, t1⟩ := isSer_iff.1 h.1.1.1.1.2
  exact ⟨t0, t1, by unfold maxLen; omega⟩
set_option maxRecDepth 100000 in
theorem packetG_f (B g : Nat) (F : CuF) (s : CuS) (ok : CuOk B s) (hB : B ≤ 800000000000) :
    Fn Tryz.prog 223 [ptr g 0 0] [.sl EByte (.slice F.a F.code.length F.c) F.code F.bs] [.row g 123 0 [] [.slice F.a F.code.length F.c, .int .i64 (s.k : Nat), .int .u64 s.seed] []] (fun (z : Packet × CuS) => goodPk z.1 = true ∧ CuOk (B + 60) z.2) (fun s => .agg #[.int .i64 s.1.kind, .int .i64 s.1.number, .int .i64 s.1.trail, .int .i64 s.1.lead, .string s.1.data]) (fun s => [.row g 123 0 [] [.slice F.a F.code.length F.c, .int .i64 (s.2.k : Nat), .int .u64 s.2.seed] []]) := by
  refine enter Tryz.func223 rfl Tryz.ntmps223 fun w0 => ?_
  refine go ?_; intros
  refine cf (serial_f B g F s ok (by omega)) fun n hn => ?_
  refine t_app ?_
  obtain ⟨hn1, hn2⟩ := hn
  refine go ?_; intros
  refine cf (pick_f (B + 4) g F 5 n.2 hn2 (by omega) (by omega)) fun y1 hy1 => ?_
  refine t_app ?_
  obtain ⟨hy1, hy2⟩ := hy1
  have hr1 : y1.1 ≤ 4 := by omega
  refine go ?_; intros
  refine cf (pick_f _ g F 9 y1.2 hy2 (by omega) (by omega)) fun y3 hy3 => ?_
  refine t_app ?_
  obtain ⟨hy3, hy4⟩ := hy3
  refine go ?_; intros
  refine ce (fun w s => l2After_c _ _ _ (by omega) (by omega)) ?_
  refine go ?_; intros
  refine cf (pick_f _ g F 10 y3.2 hy4 (by omega) (by omega)) fun y5 hy5 => ?_
  refine t_app ?_
  obtain ⟨hy5, hy6⟩ := hy5
  refine go ?_; intros
  refine ce (fun w s => l2After_c _ _ _ (by omega) (by omega)) ?_
  refine go ?_; intros
  refine c_if rfl (fun h1 => ?_) (fun h1 => ?_)
  · refine go ?_; intros
    refine cf (letters_f _ g F y5.2 8 hy6 (by omega) (by omega) (by omega)) fun l hl => ?_
    refine t_app ?_
    obtain ⟨hl1, hl2⟩ := hl
    refine go ?_; intros
    refine ret (⟨1 + (y1.1 : Nat), aft n.1 ((y5.1 : Nat) - 1), n.1, aft n.1 (y3.1 : Nat), l.1⟩, l.2) ⟨goodPk_mk ⟨by omega, by omega⟩ (aft_ser _ _) (isSer_iff.2 hn1) (aft_ser _ _) (by unfold gp aft; omega) (itm_mk hl1.2.1 hl1.2.2) (.inr (by omega)), hl2.mono (by omega)⟩ rfl
  · refine go ?_; intros
    refine ret (⟨1 + (y1.1 : Nat), aft n.1 ((y5.1 : Nat) - 1), n.1, aft n.1 (y3.1 : Nat), ⟨#[]⟩⟩, y5.2) ⟨goodPk_mk ⟨by omega, by omega⟩ (aft_ser _ _) (isSer_iff.2 hn1) (aft_ser _ _) (by unfold gp aft; omega) (by decide) (.inl rfl), hy6.mono (by omega)⟩ rfl
theorem packet_f (B g : Nat) (F : CuF) (s : CuS) (ok : CuOk B s) (hB : B ≤ 800000000000) :
    Fn Tryz.prog 223 [ptr g 0 0] [.sl EByte (.slice F.a F.code.length F.c) F.code F.bs] [.row g 123 0 [] [.slice F.a F.code.length F.c, .int .i64 (s.k : Nat), .int .u64 s.seed] []] (fun (z : Packet × CuS) => (0 ≤ z.1.trail ∧ z.1.trail ≤ 65535 ∧ z.1.data.size ≤ maxLen) ∧ CuOk (B + 60) z.2) (fun s => .agg #[.int .i64 s.1.kind, .int .i64 s.1.number, .int .i64 s.1.trail, .int .i64 s.1.lead, .string s.1.data]) (fun s => [.row g 123 0 [] [.slice F.a F.code.length F.c, .int .i64 (s.2.k : Nat), .int .u64 s.2.seed] []]) := (packetG_f B g F s ok hB).weak fun _ h => ⟨goodPk_bd h.1, h.2⟩
set_option maxRecDepth 100000 in
theorem anyPacket_f (B g : Nat) (F : CuF) (s : CuS) (ok : CuOk B s) (hB : B ≤ 700000000000) :
    Fn Tryz.prog 149 [ptr g 0 0] [.sl EByte (.slice F.a F.code.length F.c) F.code F.bs] [.row g 123 0 [] [.slice F.a F.code.length F.c, .int .i64 (s.k : Nat), .int .u64 s.seed] []] (fun (z : Packet × CuS) => z.1.data.size ≤ maxLen ∧ CuOk (B + 100) z.2) (fun s => .agg #[.int .i64 s.1.kind, .int .i64 s.1.number, .int .i64 s.1.trail, .int .i64 s.1.lead, .string s.1.data]) (fun s => [.row g 123 0 [] [.slice F.a F.code.length F.c, .int .i64 (s.2.k : Nat), .int .u64 s.2.seed] []]) := by
  refine enter Tryz.func149 rfl Tryz.ntmps149 fun w0 => ?_
  refine go ?_; intros
  refine cf (packet_f B g F s ok (by omega)) fun z hz => ?_
  refine t_app ?_
  obtain ⟨⟨t0, t1, hz1⟩, hz2⟩ := hz
  refine go ?_; intros
  refine cf (pick_f _ g F 24 z.2 hz2 (by omega) (by omega)) fun p hp => ?_
  refine t_app ?_
  obtain ⟨r, s3⟩ := p
  obtain ⟨-, hp⟩ := hp
  dsimp only at hp ⊢
  refine go ?_; intros
  refine c_if rfl (fun e0 => ?_) (fun e0 => ?_)
  · refine goN ?_; intros
    refine t_row (xs := [0, 6, 5]) (fun w => flat_int w _) ?_ (by decide)
    refine t_read (E := EInt) fun G => ?_
    refine go ?_; intros
    refine cf (among_f _ g F _ [0, 6, 5] G s3 hp (by omega) (by decide) (by decide)) fun q hq => ?_
    refine t_app ?_
    refine go ?_; intros
    refine ret (⟨q.1, z.1.number, z.1.trail, z.1.lead, z.1.data⟩, q.2) ⟨hz1, hq.2.mono (by omega)⟩ rfl
  · refine go ?_; intros
    refine c_if rfl (fun e1 => ?_) (fun e1 => ?_)
    · refine goN ?_; intros
      refine t_row (xs := [-1, 65536, 65535]) (fun w => flat_int w _) ?_ (by decide)
      refine t_read (E := EInt) fun G => ?_
      refine go ?_; intros
      refine cf (among_f _ g F _ [-1, 65536, 65535] G s3 hp (by omega) (by decide) (by decide)) fun q hq => ?_
      refine t_app ?_
      refine go ?_; intros
      refine ret (⟨z.1.kind, q.1, z.1.trail, z.1.lead, z.1.data⟩, q.2) ⟨hz1, hq.2.mono (by omega)⟩ rfl
    · refine go ?_; intros
      refine c_if rfl (fun e2 => ?_) (fun e2 => ?_)
      · refine goN ?_; intros
        refine d_start [1] [7] ?_
        refine dt 0 ?_
        refine dt 1 ?_
        refine dt 2 ?_
        refine dO 3 (by kernel_rfl) (by rw [List.getElem?_toArray]; rfl) ?_
        apply o_bs; rfl; rfl; rfl; rfl; exact rptE; exact filE; intro _
        refine t_row (xs := [32767, 32768]) (fun w => flat_int w _) ?_ (by decide)
        refine t_read (E := EInt) fun G => ?_
        refine dk ?_
        refine dO 4 (by kernel_rfl) (by rw [List.getElem?_toArray]; rfl) ?_
        apply o_call; rfl; kernel_rfl; exact evsE
        refine cf (among_f _ g F _ [32767, 32768] G s3 hp (by omega) (by decide) (by decide)) fun q hq => ?_
        refine t_app ?_
        have hq3 : 0 ≤ q.1 ∧ q.1 ≤ 32768 := by have := hq.1; simp only [List.mem_cons, List.not_mem_nil, or_false] at this; omega
        refine dk ?_
        refine dO 5 (by kernel_rfl) (by rw [List.getElem?_toArray]; rfl) ?_
        apply o_call; rfl; kernel_rfl; exact evsE
        refine ce (fun w s => l2After_c _ _ _ (by omega) (by omega)) ?_
        refine dk ?_
        refine dt 6 ?_
        refine dO 7 (by kernel_rfl) (by rw [List.getElem?_toArray]; rfl) ?_
        apply o_st; rfl; rfl; rfl; (first | exact AggC.s | exact OneC.s); rfl; exact rplE; exact putE; rfl
        refine dkx ?_
        refine dd ?_
        refine go ?_; intros
        refine ret (⟨z.1.kind, z.1.number, z.1.trail, aft z.1.trail q.1, z.1.data⟩, q.2) ⟨hz1, hq.2.mono (by omega)⟩ rfl
      · refine go ?_; intros
        refine c_if rfl (fun e3 => ?_) (fun e3 => ?_)
        · refine goN ?_; intros
          refine t_row (xs := [⟨#[97, 98, 99, 100, 101, 102, 103, 104]⟩, ⟨#[97, 98, 99, 100, 101, 102, 103, 104, 105]⟩, ⟨#[65]⟩, ⟨#[97, 32, 98]⟩, ⟨#[97]⟩]) (fun w => flat_s w _ (by decide)) ?_ (by decide)
          refine t_read (E := EStr) fun G => ?_
          refine go ?_; intros
          refine cf (of_f _ g F _ [⟨#[97, 98, 99, 100, 101, 102, 103, 104]⟩, ⟨#[97, 98, 99, 100, 101, 102, 103, 104, 105]⟩, ⟨#[65]⟩, ⟨#[97, 32, 98]⟩, ⟨#[97]⟩] G s3 hp (by omega) (by decide) (by decide)) fun q hq => ?_
          refine t_app ?_
          have hq3 : q.1.size ≤ maxLen := by have := hq.1; simp only [List.mem_cons, List.not_mem_nil, or_false] at this; rcases this with e | e | e | e | e <;> rw [e] <;> decide
          refine go ?_; intros
          refine ret (⟨z.1.kind, z.1.number, z.1.trail, z.1.lead, q.1⟩, q.2) ⟨hq3, hq.2.mono (by omega)⟩ rfl
        · refine go ?_; intros
          refine ret (z.1, s3) ⟨hz1, hp.mono (by omega)⟩ rfl
end Go.Proofs.YtgogcgkocjpgoaaGreatDoor
/- The type Request of the exact laws: how it reads, how it is owned; the walks of its size, copy, equality, mark and held. Written by wip/gentypes.py. -/
namespace Go.Proofs.YtgogcgkocjpgoaaGreatDoor
open Go.RowKit
structure Request where
  number : Int
  state : Int
  untl : Int
  tries : Int
/-- read -/
def ERequest : Elem Request where
  sz := 4
  rep _ cs x F := cs = [.int .i64 x.number, .int .i64 x.state, .int .i64 x.untl, .int .i64 x.tries] ∧ F = []
  len h := by obtain ⟨rfl, rfl⟩ := h; rfl
  lt h := by obtain ⟨rfl, rfl⟩ := h; simp
  frame h _ := h
theorem one_ERequest : One ERequest := fun h u hu => by
  obtain ⟨rfl, rfl⟩ := h
  simp only [List.mem_cons, List.not_mem_nil, or_false] at hu
  rcases hu with rfl | rfl | rfl | rfl
  · rfl
  · rfl
  · rfl
  · rfl
theorem scal_ERequest : Scal ERequest := fun h => by obtain ⟨rfl, rfl⟩ := h; rfl
end Go.Proofs.YtgogcgkocjpgoaaGreatDoor
/- The type Receiver of the exact laws: how it reads, how it is owned; the walks of its size, copy, equality, mark and held. Written by wip/gentypes.py. -/
namespace Go.Proofs.YtgogcgkocjpgoaaGreatDoor
open Go.RowKit
structure Receiver where
  started : Bool
  clock : Int
  window : ReceiveWindow
  requests : List Request
/-- read -/
def EReceiver : Elem Receiver where
  sz := 5
  rep w cs x F := ∃ v1 v2 F1 F2, cs = [.bool x.started, .int .i64 x.clock, .int .i64 x.window.next, v1, v2] ∧ Sl ESlot w v1 x.window.slots F1 ∧ Sl ERequest w v2 x.requests F2 ∧ F = F1 ++ F2
  len h := by obtain ⟨v1, v2, F1, F2, rfl, h1, h2, rfl⟩ := h; rfl
  lt h := by
    obtain ⟨v1, v2, F1, F2, rfl, h1, h2, rfl⟩ := h
    intro b hb
    simp only [List.mem_append] at hb
    rcases hb with hb | hb
    · exact h1.lt (by decide) b hb
    · exact h2.lt (by decide) b hb
  frame h hF := by obtain ⟨v1, v2, F1, F2, rfl, h1, h2, rfl⟩ := h; exact ⟨v1, v2, F1, F2, rfl, h1.frame fun b hb => hF b (by simp [hb]), h2.frame fun b hb => hF b (by simp [hb]), rfl⟩
/-- owned -/
def OReceiver : Elem Receiver where
  sz := 5
  rep w cs x F := ∃ v1 v2 F1 F2, cs = [.bool x.started, .int .i64 x.clock, .int .i64 x.window.next, v1, v2] ∧ Ow ESlot 213 w v1 x.window.slots F1 ∧ Ow ERequest 152 w v2 x.requests F2 ∧ F = F1 ++ F2
  len h := by obtain ⟨v1, v2, F1, F2, rfl, h1, h2, rfl⟩ := h; rfl
  lt h := by
    obtain ⟨v1, v2, F1, F2, rfl, h1, h2, rfl⟩ := h
    intro b hb
    simp only [List.mem_append] at hb
    rcases hb with hb | hb
    · exact h1.lt b hb
    · exact h2.lt b hb
  frame h hF := by obtain ⟨v1, v2, F1, F2, rfl, h1, h2, rfl⟩ := h; exact ⟨v1, v2, F1, F2, rfl, h1.frame fun b hb => hF b (by simp [hb]), h2.frame fun b hb => hF b (by simp [hb]), rfl⟩
end Go.Proofs.YtgogcgkocjpgoaaGreatDoor
/- Structs of type Receiver in a walk's state: opened, closed. -/
namespace Go.Proofs.YtgogcgkocjpgoaaGreatDoor
open Go.RowKit
section
variable {c : Cx} {fr : Fr} {H : List Pc} {Φ : Gl}
theorem openReceiver {v : Value} {x : Receiver} {F : List Nat} (h : ∀ (a1 : Option Addr) (c1 : Nat) (F1 : List Nat) (a2 : Option Addr) (c2 : Nat) (F2 : List Nat), v = .agg #[.bool x.started, .int .i64 x.clock, .int .i64 x.window.next, .slice a1 x.window.slots.length c1, .slice a2 x.requests.length c2] → x.window.slots.length ≤ maxLen → x.requests.length ≤ maxLen → T c fr (.sl ESlot (.slice a1 x.window.slots.length c1) x.window.slots F1 :: .sl ERequest (.slice a2 x.requests.length c2) x.requests F2 :: H) Φ) (hm : .isv EReceiver v x F ∈ H := by (repeat (first | exact .head _ | apply List.Mem.tail)); first | done | fail) : T c fr H Φ := .mk fun a w s g => by
  obtain ⟨cs, rfl, v1, v2, G1, G2, rfl, h1, h2, rfl⟩ := s.get hm
  obtain ⟨a1, c1, rfl⟩ := h1.slice; have l1 := h1.len
  obtain ⟨a2, c2, rfl⟩ := h2.slice; have l2 := h2.len
  have t2 := s.ro (p := .sl ERequest (.slice a2 x.requests.length c2) x.requests G2) hm rfl rfl ⟨by decide, h2⟩ (by intro b hb; simp only [Pc.F] at hb ⊢; simp [hb])
  have t1 := t2.ro (p := .sl ESlot (.slice a1 x.window.slots.length c1) x.window.slots G1) (List.mem_cons_of_mem _ hm) rfl rfl ⟨by decide, h1⟩ (by intro b hb; simp only [Pc.F] at hb ⊢; simp [hb])
  exact (h a1 c1 G1 a2 c2 G2 rfl  l1 l2).h a w t1 g
theorem closeReceiver (x : Receiver) {a1 : Option Addr} {c1 : Nat} {F1 : List Nat} {a2 : Option Addr} {c2 : Nat} {F2 : List Nat}  (h : T c fr (.isv EReceiver (.agg #[.bool x.started, .int .i64 x.clock, .int .i64 x.window.next, .slice a1 x.window.slots.length c1, .slice a2 x.requests.length c2]) x (F1 ++ F2) :: H) Φ) (m1 : .sl ESlot (.slice a1 x.window.slots.length c1) x.window.slots F1 ∈ H := by (repeat (first | exact .head _ | apply List.Mem.tail)); first | done | fail) (m2 : .sl ERequest (.slice a2 x.requests.length c2) x.requests F2 ∈ H := by (repeat (first | exact .head _ | apply List.Mem.tail)); first | done | fail) : T c fr H Φ := .mk fun a w s g => by
  have hP : IsV EReceiver w (.agg #[.bool x.started, .int .i64 x.clock, .int .i64 x.window.next, .slice a1 x.window.slots.length c1, .slice a2 x.requests.length c2]) x (F1 ++ F2) := ⟨_, rfl, _, _, _, _, rfl, (s.get m1).2, (s.get m2).2, rfl⟩
  refine h.h a w (s.add (N := [.isv EReceiver (.agg #[.bool x.started, .int .i64 x.clock, .int .i64 x.window.next, .slice a1 x.window.slots.length c1, .slice a2 x.requests.length c2]) x (F1 ++ F2)]) (Below.refl _ _) (by intro q hq; simp at hq; subst hq; exact hP) ⟨by simp, trivial⟩ fun q hq b hb => ?_) g
  simp at hq; subst hq
  simp only [Pc.F, List.mem_append] at hb
  rcases hb with hb | hb
  · exact .inr ⟨rfl, _, m1, rfl, hb⟩
  · exact .inr ⟨rfl, _, m2, rfl, hb⟩
theorem openOReceiver {v : Value} {x : Receiver} {F : List Nat} {S : List Pc} (h : ∀ (a1 : Option Addr) (c1 : Nat) (F1 : List Nat) (a2 : Option Addr) (c2 : Nat) (F2 : List Nat), v = .agg #[.bool x.started, .int .i64 x.clock, .int .i64 x.window.next, .slice a1 x.window.slots.length c1, .slice a2 x.requests.length c2] → x.window.slots.length ≤ maxLen → x.requests.length ≤ maxLen → T c fr (.ow ESlot 213 (.slice a1 x.window.slots.length c1) x.window.slots F1 :: .ow ERequest 152 (.slice a2 x.requests.length c2) x.requests F2 :: S) Φ) (hp : Pick H (.own OReceiver v x F) S := by (repeat (first | exact .here | apply Pick.there)); first | done | fail) : T c fr H Φ := .mk fun a w s g => by
  have z1 := s.pick hp
  obtain ⟨hn, cs, rfl, v1, v2, G1, G2, rfl, h1, h2, rfl⟩ := z1.on (.own OReceiver v x F) (by simp)
  obtain ⟨a1, c1, rfl⟩ := h1.slice; have l1 := h1.len
  obtain ⟨a2, c2, rfl⟩ := h2.slice; have l2 := h2.len
  have hn2 := hn; simp only [List.nodup_append, List.mem_append] at hn2
  refine (h a1 c1 G1 a2 c2 G2 rfl  l1 l2).h a w (St.turn (M := [.own OReceiver (.agg #[.bool x.started, .int .i64 x.clock, .int .i64 x.window.next, .slice a1 x.window.slots.length c1, .slice a2 x.requests.length c2]) x _]) (N := [.ow ESlot 213 (.slice a1 x.window.slots.length c1) x.window.slots G1, .ow ERequest 152 (.slice a2 x.requests.length c2) x.requests G2]) z1 (Keep.refl _ w) ?_ ?_ ?_) g
  · intro q hq; simp only [List.mem_cons, List.not_mem_nil, or_false] at hq
    rcases hq with rfl | rfl
    · exact ⟨(List.nodup_append.1 hn).1, h1⟩
    · exact ⟨(List.nodup_append.1 hn).2.1, h2⟩
  · refine ⟨?_, ⟨?_, trivial⟩⟩
    · intro q hq _ b hb hb2; simp only [List.mem_cons, List.not_mem_nil, or_false] at hq; rcases hq with rfl <;> simp only [Pc.F] at hb hb2 <;> exact nodup_apt hn hb hb2
    · intro q hq _ b hb hb2; simp at hq
  · intro q hq b hb; refine .inr (.inl ⟨_, List.mem_singleton.2 rfl, rfl, ?_⟩); simp only [List.mem_cons, List.not_mem_nil, or_false] at hq; rcases hq with rfl | rfl <;> simp only [Pc.F] at hb ⊢ <;> simp [hb]
theorem closeOReceiver (x : Receiver) {a1 : Option Addr} {c1 : Nat} {F1 : List Nat} {a2 : Option Addr} {c2 : Nat} {F2 : List Nat} {S1 S2 : List Pc}  (h : T c fr (.own OReceiver (.agg #[.bool x.started, .int .i64 x.clock, .int .i64 x.window.next, .slice a1 x.window.slots.length c1, .slice a2 x.requests.length c2]) x (F1 ++ F2) :: S2) Φ) (m1 : Pick H (.ow ESlot 213 (.slice a1 x.window.slots.length c1) x.window.slots F1) S1 := by (repeat (first | exact .here | apply Pick.there)); first | done | fail) (m2 : Pick S1 (.ow ERequest 152 (.slice a2 x.requests.length c2) x.requests F2) S2 := by (repeat (first | exact .here | apply Pick.there)); first | done | fail)  : T c fr H Φ := .mk fun a w s g => by
  have z1 : St c.G c.D c.w0 ([.ow ESlot 213 (.slice a1 x.window.slots.length c1) x.window.slots F1, .ow ERequest 152 (.slice a2 x.requests.length c2) x.requests F2] ++ S2) w := by simpa using (show Picks H [.ow ESlot 213 (.slice a1 x.window.slots.length c1) x.window.slots F1, .ow ERequest 152 (.slice a2 x.requests.length c2) x.requests F2] S2 from Picks.cons m1 (Picks.cons m2 (Picks.nil))).st (X := []) (by simpa using s)
  obtain ⟨n1, k1⟩ := z1.on (.ow ESlot 213 (.slice a1 x.window.slots.length c1) x.window.slots F1) (by simp)
  obtain ⟨n2, k2⟩ := z1.on (.ow ERequest 152 (.slice a2 x.requests.length c2) x.requests F2) (by simp)
  have hsp := z1.sep
  have p1_2 : ∀ b ∈ F1, b ∉ F2 := hsp.1 (.ow ERequest 152 (.slice a2 x.requests.length c2) x.requests F2) (by simp) rfl
  have hN : (F1 ++ F2).Nodup := by
    simp only [List.nodup_append, List.mem_append]
    grind
  refine h.h a w (St.turn (M := [.ow ESlot 213 (.slice a1 x.window.slots.length c1) x.window.slots F1, .ow ERequest 152 (.slice a2 x.requests.length c2) x.requests F2]) (N := [.own OReceiver (.agg #[.bool x.started, .int .i64 x.clock, .int .i64 x.window.next, .slice a1 x.window.slots.length c1, .slice a2 x.requests.length c2]) x (F1 ++ F2)]) z1 (Keep.refl _ w) (by intro q hq; simp at hq; subst hq; exact ⟨hN, _, rfl, _, _, _, _, rfl, k1, k2, rfl⟩) ⟨by simp, trivial⟩ fun q hq b hb => ?_) g
  simp at hq; subst hq
  simp only [Pc.F, List.mem_append] at hb
  rcases hb with hb | hb
  · exact .inr (.inl ⟨.ow ESlot 213 (.slice a1 x.window.slots.length c1) x.window.slots F1, by simp, rfl, hb⟩)
  · exact .inr (.inl ⟨.ow ERequest 152 (.slice a2 x.requests.length c2) x.requests F2, by simp, rfl, hb⟩)
end
end Go.Proofs.YtgogcgkocjpgoaaGreatDoor
/- Receive windows: what is given up, counted. Plain. -/
namespace Go.Proofs.YtgogcgkocjpgoaaGreatDoor
open Go.RowKit
theorem aft_aftN (n : Int) (j : Nat) : aft (aft n 1) j = aft n ((j + 1 : Nat) : Int) := by unfold aft; omega
theorem aft_zeroN {n : Int} (h0 : 0 ≤ n) (h1 : n ≤ 65535) : aft n ((0 : Nat) : Int) = n := by unfold aft; omega
theorem rel_next : ∀ (l : List Slot) (n : Int), 0 ≤ n → n ≤ 65535 → (rel n l).1 = aft n ((rel n l).2.2.length : Nat)
  | [], n, h0, h1 => (aft_zeroN h0 h1).symm
  | s :: r, n, h0, h1 => by
    have ih := rel_next r (aft n 1) (aft_bd _ _).1 (aft_bd _ _).2
    unfold rel
    split
    · dsimp only
      rw [ih, aft_aftN, List.length_cons]
    · exact (aft_zeroN h0 h1).symm
theorem give_next : ∀ (k : Nat) (x : ReceiveWindow), 0 ≤ x.next → x.next ≤ 65535 → (giveW k x).next = aft x.next (k : Nat) ∧ 0 ≤ (giveW k x).next ∧ (giveW k x).next ≤ 65535
  | 0, x, h0, h1 => ⟨(aft_zeroN h0 h1).symm, h0, h1⟩
  | k + 1, x, h0, h1 => by
    obtain ⟨a, b, c⟩ := give_next k (shW x) (aft_bd _ _).1 (aft_bd _ _).2
    unfold giveW
    exact ⟨by rw [a]; show aft (aft x.next 1) k = _; rw [aft_aftN], b, c⟩
theorem aft_add (n : Int) (i j : Nat) : aft (aft n i) j = aft n ((i + j : Nat) : Int) := by unfold aft; omega
theorem giveUp_next (k : Nat) (x : ReceiveWindow) (h0 : 0 ≤ x.next) (h1 : x.next ≤ 65535) : (relW (giveW k x)).next = aft x.next ((giveE k x ++ relE (giveW k x)).length : Nat) := by
  obtain ⟨a, b, c⟩ := give_next k x h0 h1
  have d : (relW (giveW k x)).next = aft (giveW k x).next ((relE (giveW k x)).length : Nat) := rel_next (giveW k x).slots (giveW k x).next b c
  have e : ∀ (k : Nat) (x : ReceiveWindow), (giveE k x).length = k := by
    intro k
    induction k with
    | zero => intro x; rfl
    | succ k ih => intro x; unfold giveE; rw [List.length_cons, ih]
  rw [d, a, aft_add, List.length_append, e]
theorem gp_aft (n : Int) (j : Nat) (hj : j ≤ 65535) : gp n (aft n j) = j := by unfold gp aft; omega
end Go.Proofs.YtgogcgkocjpgoaaGreatDoor
/- Receive windows: what is left after giving up is valid; nothing before is awaited. Plain. -/
namespace Go.Proofs.YtgogcgkocjpgoaaGreatDoor
open Go.RowKit
theorem rel_drop : ∀ (l : List Slot) (n : Int), (rel n l).2.1 = l.drop (rel n l).2.2.length ∧ havAt (rel n l).2.1 0 = false
  | [], n => ⟨rfl, rfl⟩
  | s :: r, n => by
    have ih := rel_drop r (aft n 1)
    unfold rel
    split
    · dsimp only
      rw [List.length_cons, List.drop_succ_cons]
      exact ih
    · rename_i h
      exact ⟨rfl, by simpa [havAt] using h⟩
theorem giveW_drop : ∀ (k : Nat) (x : ReceiveWindow), (giveW k x).slots = x.slots.drop k
  | 0, _ => rfl
  | k + 1, x => by unfold giveW; rw [giveW_drop k (shW x)]; simp [shW, Nat.add_comm]
theorem havAt_drop (l : List Slot) (m i : Nat) : havAt (l.drop m) i = havAt l (m + i) := by unfold havAt; rw [List.getElem?_drop]
theorem giveUp_good (k : Nat) (x : ReceiveWindow) (hg : goodRW x = true) : goodRW (relW (giveW k x)) = true := by
  have g := good_of hg
  unfold goodRW at hg
  simp only [Bool.and_eq_true, decide_eq_true_eq] at hg
  obtain ⟨⟨⟨h1, h2⟩, h3⟩, h4⟩ := hg
  obtain ⟨d1, d2⟩ := rel_drop (giveW k x).slots (giveW k x).next
  rw [giveW_drop, List.drop_drop] at d1
  have hs : (relW (giveW k x)).slots = x.slots.drop (k + (rel (giveW k x).next (x.slots.drop k)).2.2.length) := by
    unfold relW; dsimp only; rw [giveW_drop, d1]
  have hn := giveUp_next k x g.n0 g.n1
  generalize k + (rel (giveW k x).next (x.slots.drop k)).2.2.length = m at hs
  have h0 : havAt (relW (giveW k x)).slots 0 = false := d2
  rw [hs] at h0
  have e1 : isSer (relW (giveW k x)).next = true := by rw [hn]; exact aft_ser _ _
  have e2 : (x.slots.drop m).all okSlot = true := List.all_eq_true.2 fun z hz => List.all_eq_true.1 h3 z (List.mem_of_mem_drop hz)
  have e3 : ends (x.slots.drop m) = true := by
    unfold ends
    by_cases hz : (x.slots.drop m).length = 0
    · rw [decide_eq_true hz]; rfl
    · rw [decide_eq_false hz, h0, havAt_drop]
      unfold ends at h4
      rw [List.length_drop] at hz ⊢
      rw [decide_eq_false (show ¬ x.slots.length = 0 by omega)] at h4
      simp only [Bool.false_or, Bool.and_eq_true] at h4
      rw [show m + (x.slots.length - m - 1) = x.slots.length - 1 by omega, h4.2]
      rfl
  unfold goodRW
  rw [e1, hs, e2, e3, decide_eq_true (by simp; omega)]
  rfl
theorem good_first {x : ReceiveWindow} (hg : goodRW x = true) : havAt x.slots 0 = false := by
  unfold goodRW ends at hg
  simp only [Bool.and_eq_true, Bool.or_eq_true, decide_eq_true_eq, Bool.not_eq_true'] at hg
  rcases hg.2 with h | h
  · exact havAt_ge (by omega)
  · exact h.1
theorem relE_le (x : ReceiveWindow) : (relE x).length ≤ x.slots.length := by
  unfold relE
  have : ∀ (l : List Slot) n, (rel n l).2.2.length ≤ l.length := by
    intro l
    induction l with
    | nil => intro n; exact Nat.le_refl _
    | cons s r ih =>
      intro n
      unfold rel
      split
      · dsimp only; rw [List.length_cons, List.length_cons]; exact Nat.succ_le_succ (ih _)
      · exact Nat.zero_le _
  exact this _ _
end Go.Proofs.YtgogcgkocjpgoaaGreatDoor
/- Receive windows: an item that is taken is there or released, once. Plain. -/
namespace Go.Proofs.YtgogcgkocjpgoaaGreatDoor
open Go.RowKit
theorem havAt_set (l : List Slot) (k i : Nat) (s : Slot) (hk : k < l.length) : havAt (l.set k s) i = if i = k then s.hav else havAt l i := by
  unfold havAt
  rw [List.getElem?_set]
  by_cases h : k = i
  · subst h; simp [hk]
  · rw [if_neg h, if_neg (fun e => h e.symm)]
theorem putL_len (x : ReceiveWindow) (k : Nat) (s : Slot) : (putL x k s).length = max x.slots.length (k + 1) := by
  unfold putL; rw [List.length_set, padL_len]; omega
theorem putL_at (x : ReceiveWindow) (k : Nat) (s : Slot) : havAt (putL x k s) k = s.hav := by
  unfold putL; rw [havAt_set _ _ _ _ (by rw [padL_len]; omega), if_pos rfl]
theorem putL_get (x : ReceiveWindow) (k : Nat) (s : Slot) : (putL x k s)[k]? = some s := by
  unfold putL; rw [List.getElem?_set_self (by rw [padL_len]; omega)]
theorem putL_ok {x : ReceiveWindow} {k : Nat} {s : Slot} (hx : x.slots.all okSlot = true) (hs : okSlot s = true) : (putL x k s).all okSlot = true := by
  rw [List.all_eq_true] at hx ⊢
  intro z hz
  unfold putL at hz
  rcases List.mem_or_eq_of_mem_set hz with h | rfl
  · unfold padL at h
    rcases List.mem_append.1 h with h | h
    · exact hx z h
    · rw [(List.mem_replicate.1 h).2]; decide
  · exact hs
theorem putL_last {x : ReceiveWindow} {k : Nat} {s : Slot} (hx : ends x.slots = true) (hs : s.hav = true) : havAt (putL x k s) ((putL x k s).length - 1) = true := by
  rw [putL_len]
  by_cases h : x.slots.length ≤ k + 1
  · rw [show max x.slots.length (k + 1) - 1 = k by omega, putL_at]; exact hs
  · unfold putL
    rw [havAt_set _ _ _ _ (by rw [padL_len]; omega), if_neg (by omega)]
    unfold ends at hx
    rw [decide_eq_false (by omega)] at hx
    simp only [Bool.false_or, Bool.and_eq_true] at hx
    rw [show max x.slots.length (k + 1) - 1 = x.slots.length - 1 by omega]
    unfold padL
    rw [show k + 1 - x.slots.length = 0 by omega]
    simpa using hx.2
theorem rel_good {n : Int} {L : List Slot} (hn : isSer n = true) (ho : L.all okSlot = true) (hl : L.length ≤ 8) (he : havAt L (L.length - 1) = true ∨ L = []) : goodRW (relW ⟨n, L⟩) = true := by
  obtain ⟨d1, d2⟩ := rel_drop L n
  have hs : (relW ⟨n, L⟩).slots = L.drop (rel n L).2.2.length := d1
  obtain ⟨p0, p1⟩ := isSer_iff.1 hn
  have hnx : (relW ⟨n, L⟩).next = aft n ((rel n L).2.2.length : Nat) := rel_next L n p0 p1
  generalize (rel n L).2.2.length = m at hs hnx
  have h0 : havAt (relW ⟨n, L⟩).slots 0 = false := d2
  rw [hs] at h0
  have e1 : isSer (relW ⟨n, L⟩).next = true := by rw [hnx]; exact aft_ser _ _
  have e2 : (L.drop m).all okSlot = true := List.all_eq_true.2 fun z hz => List.all_eq_true.1 ho z (List.mem_of_mem_drop hz)
  have e3 : ends (L.drop m) = true := by
    unfold ends
    by_cases hz : (L.drop m).length = 0
    · rw [decide_eq_true hz]; rfl
    · rw [decide_eq_false hz, h0, havAt_drop]
      rw [List.length_drop] at hz ⊢
      rcases he with he | he
      · rw [show m + (L.length - m - 1) = L.length - 1 by omega, he]; rfl
      · subst he; simp at hz
  unfold goodRW
  rw [e1, hs, e2, e3, decide_eq_true (by simp; omega)]
  rfl
theorem law_take (x : ReceiveWindow) (n : Int) (s : ByteArray) : (resTakeItem x n s).2.2 = true → goodRW x = true ∧ isSer n = true ∧ goodRW (resTakeItem x n s).1 = true ∧ gp x.next (resTakeItem x n s).1.next = ((resTakeItem x n s).2.1.length : Nat) ∧ takeNo (resTakeItem x n s).1 n = true ∧ (n = x.next → ∃ r, (resTakeItem x n s).2.1 = plus s :: r) ∧ (resTakeItem x n s).2.1.length ≤ 8 ∧ s.size ≤ 8 := by
  unfold resTakeItem
  split
  rotate_left
  · intro h; cases h
  rename_i h
  intro _
  unfold okTakeItem at h
  simp only [Bool.and_eq_true] at h
  obtain ⟨⟨⟨h1, h2⟩, h3⟩, h4⟩ := h
  have g := good_of h1
  have p0 := g.n0
  have p1 := g.n1
  have pl := g.l
  obtain ⟨n0, n1⟩ := isSer_iff.1 h2
  refine ⟨h1, h2, ?_⟩
  dsimp only
  cases ht : takeNo x n with
  | true =>
    have eW : takeW x n s = x := by unfold takeW; rw [ht]; rfl
    have eE : takeE x n s = [] := by unfold takeE; rw [ht]; rfl
    rw [eW, eE]
    refine ⟨h1, ?_, ht, fun e => ?_, by simp, itm_size h3⟩
    · unfold gp; simp
    · subst e
      exfalso
      unfold takeNo at ht
      rw [Bool.or_eq_true] at ht
      rcases ht with h | h
      · unfold bef gp at h; simp at h; exact absurd h (by decide)
      · unfold hasB at h
        rw [show gp x.next x.next = 0 by unfold gp; omega] at h
        rw [show (0 : Int).toNat = 0 from rfl, good_first h1] at h
        cases h
  | false =>
    have hk8 : gp x.next n < 8 := by unfold takeOk at h4; rw [ht] at h4; simpa using h4
    have hgb := gp_bd x.next n
    obtain ⟨k, hk⟩ : ∃ k : Nat, gp x.next n = k := ⟨(gp x.next n).toNat, by omega⟩
    have eW : takeW x n s = relW ⟨x.next, putL x k ⟨true, s⟩⟩ := by unfold takeW; rw [ht, decide_eq_true hk8]; unfold putW; rw [hk, Int.toNat_natCast]; rfl
    have eE : takeE x n s = (rel x.next (putL x k ⟨true, s⟩)).2.2 := by unfold takeE; rw [ht, decide_eq_true hk8]; unfold putW; rw [hk, Int.toNat_natCast]; rfl
    have hx : x.slots.all okSlot = true ∧ ends x.slots = true := by
      unfold goodRW at h1
      simp only [Bool.and_eq_true] at h1
      exact ⟨h1.1.2, h1.2⟩
    have hos : okSlot ⟨true, s⟩ = true := by unfold okSlot; rw [h3]; rfl
    have hL := putL_len x k ⟨true, s⟩
    have hat := putL_at x k ⟨true, s⟩
    have hget := putL_get x k ⟨true, s⟩
    have ho := putL_ok (k := k) hx.1 hos
    have hla := putL_last (k := k) (s := ⟨true, s⟩) hx.2 rfl
    rw [eW, eE]
    generalize putL x k ⟨true, s⟩ = L at *
    have hl8 : L.length ≤ 8 := by omega
    have hrl : (rel x.next L).2.2.length ≤ L.length := by
      have := relE_le ⟨x.next, L⟩
      unfold relE at this; dsimp only at this; omega
    obtain ⟨d1, d2⟩ := rel_drop L x.next
    have hnx := rel_next L x.next p0 p1
    have hn : n = aft x.next (k : Nat) := by rw [← hk]; unfold gp aft; omega
    refine ⟨rel_good (isSer_iff.2 ⟨p0, p1⟩) ho hl8 (.inl hla), ?_, ?_, ?_, by omega, itm_size h3⟩
    · show gp x.next (rel x.next L).1 = _
      rw [hnx]; exact gp_aft _ _ (by omega)
    · unfold takeNo
      show (bef n (rel x.next L).1 || havAt (rel x.next L).2.1 (gp (rel x.next L).1 n).toNat) = true
      rw [hnx, d1]
      generalize (rel x.next L).2.2.length = m at *
      by_cases hkm : k < m
      · rw [show bef n (aft x.next (m : Nat)) = true by rw [hn]; unfold bef btw gp aft; rw [Bool.and_eq_true]; simp only [decide_eq_true_eq]; omega]; rfl
      · rw [show gp (aft x.next (m : Nat)) n = ((k - m : Nat) : Int) by rw [hn]; unfold gp aft; omega, Int.toNat_natCast, havAt_drop, show m + (k - m) = k by omega, hat]
        simp
    · intro e
      have hk0 : k = 0 := by rw [e] at hk; unfold gp at hk; omega
      subst hk0
      cases L with
      | nil => simp at hget
      | cons z r =>
        simp at hget
        subst hget
        exact ⟨(rel (aft x.next 1) r).2.2, by simp [rel]⟩
end Go.Proofs.YtgogcgkocjpgoaaGreatDoor
/- Serials in a row. -/
namespace Go.Proofs.YtgogcgkocjpgoaaGreatDoor
open Go.RowKit
def spanL (t : Int) (k : Nat) : List Int := (List.range k).map fun i => aft t (i : Nat)
theorem spanL_succ (t : Int) (k : Nat) : spanL t (k + 1) = spanL t k ++ [aft t (k : Nat)] := by unfold spanL; rw [List.range_succ, List.map_append]; rfl
theorem spanL_len (t : Int) (k : Nat) : (spanL t k).length = k := by unfold spanL; simp
theorem rep_int (n : Int) (w : World) : Flat EInt w [.int .i64 n] [n] [] := ⟨_, [], [], [], by simp, by simp, ⟨rfl, rfl⟩, rfl, rfl⟩
structure SpS where
  k : Nat
  a : Option Addr
  c : Nat
  F : List Nat
set_option maxRecDepth 100000 in
theorem span_f (t : Int) (n : Nat) (t0 : 0 ≤ t) (t1 : t ≤ 65535) (hn : n ≤ 65536) : Fn Tryz.prog 309 [.int .i64 t, .int .i64 (n : Nat)] [] [] (fun (_ : Option Addr × Nat × List Nat) => True) (fun s => .slice s.1 (spanL t n).length s.2.1) (fun s => [.ow EInt 3 (.slice s.1 (spanL t n).length s.2.1) (spanL t n) s.2.2]) := by
  refine enter Tryz.func309 rfl Tryz.ntmps309 fun w0 => ?_
  refine go ?_; intros
  refine t_nilow EInt 3 ?_
  refine c_loopS [0, 4, 7] (fun s : SpS => [(5, .slice s.a (spanL t s.k).length s.c), (8, .int .i64 (s.k : Nat))]) (fun s => [.ow EInt 3 (.slice s.a (spanL t s.k).length s.c) (spanL t s.k) s.F]) (fun s => s.k ≤ n) (fun s => n - s.k) ⟨0, none, 0, []⟩ (Nat.zero_le _) fun s hs => ?_
  obtain ⟨k, a, c, F⟩ := s
  dsimp only at hs ⊢
  have hl := spanL_len t k
  refine go ?_; intros
  refine c_if rfl (fun h1 => ?_) (fun h1 => ?_)
  · refine go ?_; intros
    refine ce (fun w s => after_c _ _ _ (by omega) (by omega)) ?_
    refine go ?_; intros
    apply wO
    refine ap1 (rep_int _) one_EInt fun a2 c2 F2 => ?_
    refine go ?_; intros
    rw [← spanL_succ]
    refine n_lp ⟨k + 1, a2, c2, F2⟩ (by show k + 1 ≤ n; omega) (by show n - (k + 1) < n - k; omega)
  · have hk : k = n := by omega
    subst hk
    refine go ?_; intros
    refine ret (a, c, F) trivial rfl
end Go.Proofs.YtgogcgkocjpgoaaGreatDoor
/- More operations: parts of texts, slices made, functions called by their value; a part of a slice that reads. -/
namespace Go.Proofs.YtgogcgkocjpgoaaGreatDoor
open Go.RowKit
section
variable {P : Program} {n : Nat} {fr : Fr} {H : List Pc} {ty : TypeId} {x y z : Operand}
end
section
variable {c : Cx} {fr : Fr} {H : List Pc} {k : List It} {Φ : Gl} {ops : Array Oper} {rest : List Oper} {d : Nat} {o : Op} {ty : TypeId} {v u : Value} {x y : Operand}
/-- a function called by its value -/
theorem o_callv {fo : Operand} {f : Nat} {caps : List Value} {aS : List Operand} {ts : Array TypeId} {vs : List Value} (hd : Nat.blt d c.n = true) (hf : ev fr fo = some (.func (.func f) #[] caps.toArray)) (hb : bodyB c.P f = true) (ha : Evs fr aS vs) (h : Cl c fr H d f (vs ++ caps) Φ) : On c fr H (some d) (.call { callee := .value fo, args := aS.toArray, argTypes := ts }) ty Φ := ⟨fun _ _ _ => ef_of fun Q a w s g => by
  have e : ∀ pos aft gd, (execOp a.eval ⟨some d, .call { callee := .value fo, args := aS.toArray, argTypes := ts }, ty, pos, aft, gd⟩).run c.P w = (callFunc f (vs ++ caps).toArray).run c.P w := by
    intro pos aft gd
    simp [execOp, resolve, Deferred.ofValue, g.ev hf, invoke, g.evs ha]
  rw [e]
  obtain ⟨R, hc, hk⟩ := h.h w s
  refine (body_of hb).upon hc fun e w' hR => ?_
  obtain ⟨v, he, hv⟩ := hk e w' hR
  exact ⟨v, he, hv _ (g.put hd)⟩⟩
/-- a part of a slice that reads -/
theorem t_rtake {α : Type} {E : Elem α} {a : Option Addr} {n cp : Nat} {xs : List α} {F : List Nat} (k : Nat) (h : ∀ F', T c fr (.sl E (.slice a (xs.take k).length cp) (xs.take k) F' :: H) Φ) (hk : k ≤ xs.length) (hm : .sl E (.slice a n cp) xs F ∈ H := by (repeat (first | exact .head _ | apply List.Mem.tail)); first | done | fail) : T c fr H Φ := .mk fun ac w s g => by
  obtain ⟨hz, hs⟩ := s.get hm
  obtain ⟨F', hF, h2⟩ := hs.takeS k hk
  have hl : (xs.take k).length = k := by simp [Nat.min_eq_left hk]
  have h' := h F'
  rw [hl] at h'
  exact h'.h _ w (s.ro hm rfl rfl ⟨hz, h2⟩ hF) g
end
end Go.Proofs.YtgogcgkocjpgoaaGreatDoor
/- Rows written as wholes: an owned slice as its row and back, copying, appending that grows, functions that are entries of the model, parts of a slice as values. -/
namespace Go.Proofs.YtgogcgkocjpgoaaGreatDoor
open Go.RowKit
theorem hsub_refl : ∀ (H : List Pc), HSub H H
  | [] => .nil
  | _ :: R => .cons .here (hsub_refl R)
theorem Flat.all {α : Type} {E : Elem α} {w : World} {cs : List Value} {xs : List α} (h : Flat E w cs xs []) (w' : World) : Flat E w' cs xs [] := h.frame (by simp)
theorem Flat.cutL {α : Type} {E : Elem α} {w : World} {cs : List Value} {xs : List α} (h : Flat E w cs xs []) (i : Nat) (hi : i ≤ xs.length) : Flat E w (cs.take (i * E.sz)) (xs.take i) [] ∧ Flat E w (cs.drop (i * E.sz)) (xs.drop i) [] := by
  rw [← List.take_append_drop i xs] at h
  obtain ⟨c1, c2, G1, G2, rfl, hG, h1, h2⟩ := h.split
  obtain ⟨rfl, rfl⟩ := List.append_eq_nil_iff.1 hG.symm
  have hl := h1.len
  rw [List.length_take, Nat.min_eq_left hi] at hl
  rw [List.take_left' hl, List.drop_left' hl]
  exact ⟨h1, h2⟩
theorem Flat.insL {α : Type} {E : Elem α} {w : World} {cs c1 : List Value} {xs : List α} {x : α} (h : Flat E w cs xs []) (h1 : Flat E w c1 [x] []) (i : Nat) (hi : i ≤ xs.length) : Flat E w (cs.take (i * E.sz) ++ c1 ++ cs.drop (i * E.sz)) (xs.take i ++ x :: xs.drop i) [] := by
  obtain ⟨ha, hb⟩ := h.cutL i hi
  have := (ha.append h1).append hb
  simpa using this
section
variable {P : Program} {n : Nat} {fr : Fr} {H : List Pc} {ty : TypeId} {x y z : Operand}
/-- what stands from i on, aS a value -/
theorem yd_slv {t e m i g o len cp : Nat} {kd : IntKind} {q : Int} [hS : SlC P t e m] (hx : ev fr x = some (.slice (some ⟨g, o, none⟩) len cp)) (hy : ev fr y = some (.int kd q)) (hq : q = (i : Int)) (hi : i ≤ len) (hc : i < cp) (hlc : len ≤ cp) : Yd P n fr H (.slice t x (some y) none none) ty (.slice (some ⟨g, o + i * m, none⟩) (len - i) (cp - i)) := .mk fun ac w d pos aft gd hA _ => by
  subst hq
  have he2 : P.elem t = e := by simp [Program.elem, hS.u]
  have h3 : (Instr.sliceAt t (.slice (some ⟨g, o, none⟩) len cp) (some (.int kd (i : Int))) none none).run P w = .ok (.slice (some ⟨g, o + i * m, none⟩) (len - i) (cp - i)) w := by
    rw [run_sliceAt_slice (h := by rw [he2]; exact hS.u), run_slice_l (ht := by rw [he2]; exact hS.u) (h0 := by omega) (h1 := by omega), he2, size_of hS.s]
    have h0 : ¬ (cp - i = 0) := by omega
    have h0' : ¬ (cp = i) := by omega
    simp [Result.andThen, sliced, h0, h0', Addr.add_lit]
  simp only [execOp, Option.map_none, Option.map_some, hA.ev hx, hA.ev hy, Sem.run_bind, h3, Result.andThen_ok, Sem.run_pure]
theorem yd_cvu {k : IntKind} {a : Int} {s t : TypeId} [hS : IntC P s k] [hD : IntC P t .u64] (hx : ev fr x = some (.int k a)) (h0 : 0 ≤ a) (h1 : a ≤ 18446744073709551615) : Yd P n fr H (.convert s t x) ty (.int .u64 a) := .mk fun c w d pos aft gd hA _ => by
  simp [execOp, hA.ev hx, convert, run_underlying hS.u, run_underlying hD.u, Conv.intToInt, IntWalk.u64_in _ ⟨h0, h1⟩]
theorem yd_shr1 {a : Int} {t t' : TypeId} (hx : ev fr x = some (.int .u64 a)) : Yd P n fr H (.binOp .shr t x (.const (.int .u64 1)) t') ty (.int .u64 (a / 2)) := .mk fun c w d pos aft gd hA _ => by
  have e : Op.shift .shr .u64 a .u64 1 = pure (.int .u64 (a / 2)) := by rw [shift_shr .u64 .u64 a 1 (by decide) (by decide)]; rfl
  have e2 : binOp .shr t (.int .u64 a) (.int .u64 1) = Op.shift .shr .u64 a .u64 1 := rfl
  have e3 : c.eval (.const (.int .u64 1)) = .int .u64 1 := rfl
  simp only [execOp, hA.ev hx, e3, eqGuard_shr, e2, e, Sem.run_bind, Sem.run_pure, Result.andThen_ok]
theorem yd_cap {a : Option Addr} {len cp t e m : Nat} [hS : SlC P t e m] (hx : ev fr x = some (.slice a len cp)) : Yd P n fr H (.call { callee := .builtin .cap, args := #[x], argTypes := #[t] }) ty (.int .i64 cp) := .mk fun ac w d pos aft gd hA _ => by
  simp [execOp, hA.ev hx, resolve, invoke, builtin, Builtin.cap_, run_underlying hS.u, goInt]
end
section
variable {c : Cx} {fr : Fr} {H k' : List Pc} {k : List It} {Φ : Gl} {d : Nat} {o : Op} {ty : TypeId} {v u : Value} {x y : Operand}
/-- an owned slice is its row -/
theorem t_rowof {α : Type} {E : Elem α} (sc : Scal E) {t n cp : Nat} {a : Option Addr} {xs : List α} {F : List Nat} {S : List Pc} (h0 : xs ≠ [])
    (h : ∀ g cs rest, a = some ⟨g, 0, none⟩ → n = xs.length → xs.length ≤ cp → cp ≤ 9223372036854775807 → cs.length = xs.length * E.sz → cs.length + rest.length = cp * E.sz → (∀ w, Flat E w cs xs []) → T c fr (.row g t 0 [] (cs ++ rest) [] :: S) Φ)
    (hp : Pick H (.ow E t (.slice a n cp) xs F) S := by (repeat (first | exact .here | apply Pick.there)); first | done | fail) : T c fr H Φ := .mk fun ac w s g' => by
  have s1 := s.pick hp
  obtain ⟨hnd, ho⟩ := s1.on (.ow E t (.slice a n cp) xs F) (by simp)
  have hF := ho.scal sc
  rcases ho with ⟨-, h2, -⟩ | ⟨g, cap, cs, rest, G, h1, h2, h3, h4, h5, h6, h7⟩
  · exact absurd h2 h0
  · cases h1
    have hG : G = [] := by rw [h7] at hF; simpa [Value.ownBlock] using hF
    subst hG h7
    have hl := h6.len
    refine (h g cs rest rfl rfl h3 (by unfold maxLen at h4; omega) hl h5 (fun w' => h6.all w')).h ac w (s1.conv rfl ⟨rfl, by simpa using h2⟩ (by simp [Pc.F])) g'
/-- .. and back -/
theorem t_owof {α : Type} {E : Elem α} {t g : Nat} {L cs rest : List Value} {xs : List α} {S : List Pc} (cp : Nat) (hL : L = cs ++ rest) (hf : ∀ w, Flat E w cs xs []) (h1 : xs.length ≤ cp) (h2 : cp ≤ 9223372036854775807) (h3 : L.length = cp * E.sz)
    (h : T c fr (.ow E t (.slice (some ⟨g, 0, none⟩) xs.length cp) xs [g] :: S) Φ) (hp : Pick H (.row g t 0 [] L []) S := by (repeat (first | exact .here | apply Pick.there)); first | done | fail) : T c fr H Φ := .mk fun ac w s g' => by
  subst hL
  have s1 := s.pick hp
  have hr := (s1.on (.row g t 0 [] (cs ++ rest) []) (by simp)).2
  exact h.h ac w (s1.conv rfl ⟨by simp, .inr ⟨g, cp, cs, rest, [], rfl, by simpa using hr, h1, by unfold maxLen; omega, by simpa using h3, hf w, rfl⟩⟩ (by simp [Pc.F])) g'
/-- an entry of the model that yields a value -/
theorem o_ext {f : Nat} {aS : List Operand} {ts : Array TypeId} {vs : List Value} (hd : Nat.blt d c.n = true) (ha : Evs fr aS vs) (hv : ∀ w, St c.G c.D c.w0 H w → (callFunc f vs.toArray).run c.P w = .ok (.value v) w) (h : T c ((d, v) :: fr) H Φ) : On c fr H (some d) (.call { callee := .value (.func f), args := aS.toArray, argTypes := ts }) ty Φ := ⟨fun _ _ _ => ef_of fun Q a w s g => by
  have e : ∀ pos aft gd, (execOp a.eval ⟨some d, .call { callee := .value (.func f), args := aS.toArray, argTypes := ts }, ty, pos, aft, gd⟩).run c.P w = .ok (.value v) w := by
    intro pos aft gd
    simp [execOp, resolve, Deferred.ofValue, Act.eval, invoke, g.evs ha, hv w s]
  rw [e]
  exact h.h _ _ s (g.put hd)⟩
theorem shape_row {w : World} {g : Nat} {t : TypeId} {cs : List Value} (h : Row w g t cs) : w.shape? g = some (t, cs.length) := by
  unfold World.shape?; rw [show w.heap[g]? = _ from h]; simp
/-- two rows do not overlap -/
theorem ovl {f : Nat} {tS tR e m : Nat} [hS : SlC c.P tS e m] {g o g2 o2 la ca lb cb t1 t2 : Nat} {L L2 : List Value}
    (he : ∀ (args : Array Value) (w : World), (callFunc f args).run c.P w = ((Extern.SlicesOverlaps.overlaps #[tS, tS] #[tR] args).run c.P w).andThen fun v w => .ok (.value v) w)
    (h1 : Pick H (.row g t1 0 [] L []) k') (h2 : .row g2 t2 0 [] L2 [] ∈ k') (hL : L2 ≠ []) (w : World) (s : St c.G c.D c.w0 H w) :
    (callFunc f [Value.slice (some ⟨g, o, none⟩) la ca, .slice (some ⟨g2, o2, none⟩) lb cb].toArray).run c.P w = .ok (.value (.bool false)) w := by
  have s1 := s.pick h1
  have r1 := (s1.on (.row g t1 0 [] L []) (by simp)).2
  have r2 := (s1.on (.row g2 t2 0 [] L2 []) (by simp [h2])).2
  have hne : g ≠ g2 := fun e' => s1.sep.1 (.row g2 t2 0 [] L2 []) h2 (by simp [Pc.mu]) g (by simp [Pc.F]) (by simp [Pc.F, e'])
  simp only [List.nil_append, List.append_nil] at r1 r2
  rw [he, Lib.run_overlaps_apart w tS tR e hS.u m (fun w => size_of hS.s w) ⟨g, o, none⟩ ⟨g2, o2, none⟩ la ca lb cb hne t1 t2 L.length L2.length (shape_row r1) (shape_row r2) (by simpa using hL) (r1.frozen _) (r1.frozen _)]
  rfl
theorem cpyM {P M Q d L : List Value} {o : Nat} (hL : L = P ++ M ++ Q) (ho : o = P.length) (hd : M.length = d.length) : P ++ d ++ Q = L.take o ++ d ++ L.drop (o + d.length) := by
  subst hL ho
  rw [List.append_assoc P M Q, List.take_left, ← hd, ← List.append_assoc, ← List.length_append, List.drop_left]
theorem shiftL {B R : List Value} (m : Nat) (h : m ≤ R.length) : ∃ X Y, B ++ R = X ++ Y ++ R.drop m ∧ X.length = m ∧ Y.length = B.length := by
  refine ⟨(B ++ R).take m, ((B ++ R).drop m).take B.length, ?_, by simp; omega, by simp; omega⟩
  have : R.drop m = ((B ++ R).drop m).drop B.length := by rw [List.drop_drop, Nat.add_comm, ← List.drop_drop, List.drop_left]
  rw [this, List.append_assoc, List.take_append_drop, List.take_append_drop]
/-- the world says what a row holds -/
theorem src_row {g t o m : Nat} {L cs : List Value} (h1 : .row g t 0 [] L [] ∈ H) (hc : cs = (L.drop o).take m) (w : World) (s : St c.G c.D c.w0 H w) : ∀ j u, cs[j]? = some u → w.cell? ((⟨g, o, none⟩ : Addr).add j) = some u := fun j u hu => by
  subst hc
  have r1 := (s.on (.row g t 0 [] L []) h1).2
  simp only [List.nil_append, List.append_nil] at r1
  rw [Addr.add_lit, r1.cell]
  rw [List.getElem?_take] at hu
  split at hu
  · rw [List.getElem?_drop] at hu; exact hu
  · cases hu
theorem run_copyN {P : Program} (w : World) (dT sT ty elem m : TypeId) (b o dLen dCap : Nat) (a : Addr) (sLen sCap : Nat) (cs : List Value)
    (hu : P.underlying dT = some (.slice elem)) (hs : (P.info? elem).map (·.size) = some m) (hn : cs.length = Nat.min sLen dLen * m)
    (hsrc : ∀ j v, cs[j]? = some v → w.cell? (a.add j) = some v) (hc : ∀ j, j < cs.length → (w.cell? ⟨b, o + j, none⟩).isSome = true) (hf : ∀ j, j < cs.length → w.frozen? ⟨b, o + j, none⟩ = false) (h1 : ∀ v ∈ cs, v.oneCell' = true) :
    (Builtin.copy_ #[dT, sT] ty #[.slice (some ⟨b, o, none⟩) dLen dCap, .slice (some a) sLen sCap]).run P w = .ok (goInt (Nat.min sLen dLen : Nat)) (w.setCells b o cs) := by
  have hl := run_loadCells_list (P := P) w a cs hsrc
  have hst := run_storeCells_cells (P := P) b o cs 0 w (by simpa using hc) (by simpa using hf) h1
  cases hq : P.info? elem with
  | none => simp [hq] at hs
  | some i =>
    have hi : i.size = m := by simpa [hq] using hs
    simp [Builtin.copy_, run_underlying hu, Builtin.lenOf, Builtin.firstCells, sizeOf, typeInfo, hq, hi, ← hn, hl, hst]
/-- copying into a row -/
theorem o_cpy {dT sT e m g t oo dn dc sn sc : Nat} {ad : Addr} {L L' cs : List Value} {S : List Pc} [hS : SlC c.P dT e m] (hd : Nat.blt d c.n = true) (hx : ev fr x = some (.slice (some ⟨g, oo, none⟩) dn dc)) (hy : ev fr y = some (.slice (some ad) sn sc))
    (hsrc : ∀ w, St c.G c.D c.w0 H w → ∀ j u, cs[j]? = some u → w.cell? (ad.add j) = some u) (hr : Rpl H (.row g t 0 [] L []) (.row g t 0 [] L' []) S)
    (hL : L' = L.take oo ++ cs ++ L.drop (oo + cs.length)) (hn : cs.length = Nat.min sn dn * m) (hfit : oo + cs.length ≤ L.length) (h1 : ∀ v ∈ cs, v.oneCell' = true) (h : T c ((d, .int .i64 (Nat.min sn dn : Nat)) :: fr) S Φ) :
    On c fr H (some d) (.call { callee := .builtin .copy, args := #[x, y], argTypes := #[dT, sT] }) ty Φ := ⟨fun _ _ _ => ef_of fun Q a w s ag => by
  have hP : (Pc.row g t 0 [] L []).P w := by obtain ⟨R, h1, _⟩ := hr.picks; exact s.on _ h1.mem
  have r1 := hP.2
  simp only [List.nil_append, List.append_nil] at r1
  have hrun := fun ty => run_copyN (P := c.P) w dT sT ty e m g oo dn dc ad sn sc cs hS.u hS.s hn (hsrc w s) (fun j hj => by rw [r1.cell, List.getElem?_eq_getElem (by omega)]; rfl) (fun j hj => r1.frozen _) h1
  have e1 : ∀ pos aft gd, (execOp a.eval ⟨some d, .call { callee := .builtin .copy, args := #[x, y], argTypes := #[dT, sT] }, ty, pos, aft, gd⟩).run c.P w = .ok (.value (goInt (Nat.min sn dn : Nat))) (w.setCells g oo cs) := by
    intro pos aft gd
    simp only [execOp, resolve, invoke, builtin, Sem.run_bind, Sem.run_pure, Result.andThen_ok, List.map_toArray, List.map_cons, List.map_nil, ag.ev hx, ag.ev hy, hrun]
  rw [e1]
  have hsplit : L = L.take oo ++ (L.drop oo).take cs.length ++ L.drop (oo + cs.length) := by
    rw [← List.drop_drop, List.append_assoc, List.take_append_drop, List.take_append_drop]
  have r2 := r1
  rw [hsplit] at r2
  have r3 := Row.put cs _ r2 (p := oo) (by simp; omega) (by simp; omega)
  have hk := putCells_keep (g := g) cs w oo
  rw [putCells_eq w g cs w] at r3 hk
  rw [← hL] at r3
  refine h.h _ _ (s.rpl hr rfl (fun b hb => .inl hb) hk ⟨rfl, by simpa using r3⟩) (ag.put hd)⟩
/-- zeros appended that make a slice grow: to a part of a row -/
theorem o_apgz {t tn e m b g oo n cp k : Nat} {zv : Value} {olds : List Value} {q : Int} [hS : SlC c.P t e m] [hE : ElT c.P e zv m b] [hI : IntC c.P tn .i64] (hd : Nat.blt d c.n = true) (hx : ev fr x = some (.slice (some ⟨g, oo, none⟩) n cp)) (hy : ev fr y = some (.int .i64 q)) (hq : q = (k : Int))
    (hso : ∀ w, St c.G c.D c.w0 H w → ∀ j u, olds[j]? = some u → w.cell? ((⟨g, oo, none⟩ : Addr).add j) = some u)
    (hlo : olds.length = n * m) (hm : 0 < m) (hk : 0 < k) (hg : cp < n + k) (h63 : n + k ≤ 4294967296) (hby : (n + k) * b ≤ 140737488355328)
    (h : ∀ g' cp' Z rest, n + k ≤ cp' → cp' ≤ 9223372036854775807 → Z.length = k * m → (olds ++ Z ++ rest).length = cp' * m → T c ((d, .slice (some ⟨g', 0, none⟩) ((n + k : Nat)) cp') :: fr) (.row g' e 0 [] (olds ++ Z ++ rest) [] :: H) Φ) :
    On c fr H (some d) (.call { callee := .builtin .append, args := #[x, y], argTypes := #[t, tn] }) ty Φ := ⟨fun _ _ _ => ef_of fun Q a w s ag => by
  subst hq
  obtain ⟨i, hi, hiz⟩ := Option.map_eq_some_iff.1 hE.i
  simp only [Prod.mk.injEq] at hiz
  obtain ⟨i1, i2, i3⟩ := hiz
  subst i2 i3
  have hold : (Builtin.firstCells i.size n (.slice (some ⟨g, oo, none⟩) n cp)).run c.P w.drew = .ok olds.toArray w.drew := run_firstCells_some w.drew i.size n ⟨g, oo, none⟩ n cp olds hlo (fun j v hj => hso w s j v hj)
  have hr := fun ty => Lib.run_append_grow_zeros (P := c.P) w t tn ty e i zv .i64 .i64 hS.u hI.u hi i1 (some ⟨g, oo, none⟩) n cp olds hold k hk hm hg (by omega) (Nat.le_trans (Nat.mul_le_mul_right _ (by omega)) (Nat.le_trans hby (by decide))) (growslice_fits hg hby)
  have e1 : ∀ pos aft gd, (execOp a.eval ⟨some d, .call { callee := .builtin .append, args := #[x, y], argTypes := #[t, tn] }, ty, pos, aft, gd⟩).run c.P w = .ok (.value (.slice (some ⟨w.heap.size, 0, none⟩) (n + k) (grownCap w (n + k) cp e))) (w.drew.alloc (.cells (olds.toArray ++ Builtin.zeroCells zv.cells k ++ Builtin.zeroCells zv.cells (grownCap w (n + k) cp e - (n + k))) e)) := by
    intro pos aft gd
    simp only [execOp, resolve, invoke, builtin, Sem.run_bind, Sem.run_pure, Result.andThen_ok, List.map_toArray, List.map_cons, List.map_nil, ag.ev hx, ag.ev hy, hr]
  rw [e1]
  have hge := grownCap_ge w (n + k) cp e
  have hle := grownCap_le_maxLen w (n + k) cp e (by unfold maxLen; omega)
  have hBel : Below w.heap.size w (w.drew.alloc (.cells (olds.toArray ++ Builtin.zeroCells zv.cells k ++ Builtin.zeroCells zv.cells (grownCap w (n + k) cp e - (n + k))) e)) := (belowDrewN (Below.refl w.heap.size w) 1).alloc (Nat.le_refl _) _
  have hz : ∀ q, (Builtin.zeroCells zv.cells q).toList.length = q * i.size := fun q => by rw [zeroCells_len, hE.s]
  refine (h w.heap.size (grownCap w (n + k) cp e) (Builtin.zeroCells zv.cells k).toList (Builtin.zeroCells zv.cells (grownCap w (n + k) cp e - (n + k))).toList hge (by unfold maxLen at hle; omega) (hz k) ?_).h _ _ (s.add (N := [.row w.heap.size e 0 [] (olds ++ (Builtin.zeroCells zv.cells k).toList ++ (Builtin.zeroCells zv.cells (grownCap w (n + k) cp e - (n + k))).toList) []]) hBel ?_ ⟨by simp, trivial⟩ ?_) (ag.put hd)
  · rw [List.length_append, List.length_append, hz, hz, hlo, ← Nat.add_mul, ← Nat.add_mul]; congr 1; omega
  · intro p hp
    rw [List.mem_singleton] at hp; subst hp
    refine ⟨rfl, ?_⟩
    have := Row.made w.drew e (olds ++ (Builtin.zeroCells zv.cells k).toList ++ (Builtin.zeroCells zv.cells (grownCap w (n + k) cp e - (n + k))).toList)
    rw [List.nil_append, List.append_nil]
    have e2 : (olds ++ (Builtin.zeroCells zv.cells k).toList ++ (Builtin.zeroCells zv.cells (grownCap w (n + k) cp e - (n + k))).toList).toArray = olds.toArray ++ Builtin.zeroCells zv.cells k ++ Builtin.zeroCells zv.cells (grownCap w (n + k) cp e - (n + k)) := by apply Array.ext'; simp
    rw [e2] at this
    exact this
  · intro p hp b hb
    rw [List.mem_singleton] at hp; subst hp
    simp [Pc.F] at hb; subst hb
    exact .inl (Nat.le_refl _)⟩
/-- a part of a slice that nobody looks at -/
theorem o_slany {t e m n cp i : Nat} {a : Option Addr} {q : Int} [hS : SlC c.P t e m] (hd : Nat.blt d c.n = true) (hx : ev fr x = some (.slice a n cp)) (hy : ev fr y = some (.int .i64 q)) (hq : q = (i : Int)) (hi : i ≤ n) (h : ∀ v, T c ((d, v) :: fr) H Φ) (hlc : n ≤ cp := by omega) : On c fr H (some d) (.slice t x (some y) none none) ty Φ := ⟨fun _ _ _ => ef_of fun Q ac w s g => by
  subst hq
  have he2 := elem_of hS
  obtain ⟨v, h3⟩ : ∃ v, (Instr.sliceAt t (.slice a n cp) (some (.int .i64 (i : Int))) none none).run c.P w = .ok v w := by
    rw [run_sliceAt_slice (h := by rw [he2]; exact hS.u), run_slice_l (ht := by rw [he2]; exact hS.u) (h0 := by omega) (h1 := by omega), he2, size_of hS.s]
    exact ⟨_, rfl⟩
  have e1 : ∀ pos aft gd, (execOp ac.eval ⟨some d, .slice t x (some y) none none, ty, pos, aft, gd⟩).run c.P w = .ok (.value v) w := by
    intro pos aft gd
    simp only [execOp, Option.map_none, Option.map_some, g.ev hx, g.ev hy, Sem.run_bind, h3, Result.andThen_ok, Sem.run_pure]
  rw [e1]
  exact (h v).h _ w s (g.put hd)⟩
end
end Go.Proofs.YtgogcgkocjpgoaaGreatDoor
/- Functions bound to a receiver, clearing, loops beside pieces that are not told. -/
namespace Go.Proofs.YtgogcgkocjpgoaaGreatDoor
open Go.RowKit
section
variable {P : Program} {n : Nat} {fr : Fr} {H : List Pc} {ty : TypeId}
theorem yd_fnb {f : Nat} {bs caps : List Operand} {us vs : List Value} (hb : Evs fr bs us) (hc : Evs fr caps vs) : Yd P n fr H (.makeFunc (.func f) bs.toArray caps.toArray) ty (.func (.func f) us.toArray vs.toArray) := .mk fun c w d pos aft gd hA _ => by
  simp [execOp, Instr.makeFunc, hA.evs hb, hA.evs hc]
end
section
variable {c : Cx} {fr : Fr} {H : List Pc} {k : List It} {Φ : Gl} {d : Nat} {ty : TypeId} {x : Operand}
theorem o_callb {fo : Operand} {f : Nat} {bd caps : List Value} {aS : List Operand} {ts : Array TypeId} {vs : List Value} (hd : Nat.blt d c.n = true) (hf : ev fr fo = some (.func (.func f) bd.toArray caps.toArray)) (hb : bodyB c.P f = true) (ha : Evs fr aS vs) (h : Cl c fr H d f (bd ++ vs ++ caps) Φ) : On c fr H (some d) (.call { callee := .value fo, args := aS.toArray, argTypes := ts }) ty Φ := ⟨fun _ _ _ => ef_of fun Q a w s g => by
  have e : ∀ pos aft gd, (execOp a.eval ⟨some d, .call { callee := .value fo, args := aS.toArray, argTypes := ts }, ty, pos, aft, gd⟩).run c.P w = (callFunc f (bd ++ vs ++ caps).toArray).run c.P w := by
    intro pos aft gd
    simp [execOp, resolve, Deferred.ofValue, g.ev hf, invoke, g.evs ha]
  rw [e]
  obtain ⟨R, hc, hk⟩ := h.h w s
  refine (body_of hb).upon hc fun e w' hR => ?_
  obtain ⟨v, he, hv⟩ := hk e w' hR
  exact ⟨v, he, hv _ (g.put hd)⟩⟩
/-- where an owned slice of plain elements lies -/
theorem t_head {α : Type} {E : Elem α} (sc : Scal E) {t n cp : Nat} {a : Option Addr} {xs : List α} {F : List Nat} (h0 : xs ≠ [])
    (h : ∀ g, a = some ⟨g, 0, none⟩ → F = [g] → n = xs.length → n ≤ cp → cp ≤ 9223372036854775807 → T c fr H Φ) (hm : .ow E t (.slice a n cp) xs F ∈ H := by (repeat (first | exact .head _ | apply List.Mem.tail)); first | done | fail) : T c fr H Φ := .mk fun ac w s g' => by
  obtain ⟨hnd, ho⟩ := s.get hm
  have hF := ho.scal sc
  rcases ho with ⟨-, h2, -⟩ | ⟨g, cap, cs, rest, G, h1, h2, h3, h4, h5, h6, h7⟩
  · exact absurd h2 h0
  · cases h1
    exact (h g rfl (by simpa [Value.ownBlock] using hF) rfl h3 (by unfold maxLen at h4; omega)).h ac w s g'
theorem Flat.rep0 {α : Type} {E : Elem α} {w : World} {zs : List Value} {z : α} (h : E.rep w zs z []) : ∀ n, Flat E w (List.replicate n zs).flatten (List.replicate n z) []
  | 0 => ⟨rfl, rfl⟩
  | n + 1 => ⟨zs, (List.replicate n zs).flatten, [], [], by simp [List.replicate_succ], by simp, h, Flat.rep0 h n⟩
theorem zeroCells_flat (z : Array Value) (n : Nat) : (Builtin.zeroCells z n).toList = (List.replicate n z.toList).flatten := by
  have := madeCells_flat z n
  exact this
/-- the elements from i on are cleared -/
theorem o_clr {α : Type} {E : Elem α} (sc : Scal E) {t e m b g n cp i : Nat} {zv : Value} {z0 : α} [hS : SlC c.P t e m] [hE : ElT c.P e zv m b] (hz : ∀ w, E.rep w zv.cells.toList z0 []) (one : ∀ u ∈ zv.cells, u.oneCell' = true) (hm : E.sz = m) {xs : List α} {F : List Nat} {S : List Pc}
    (hx : ev fr x = some (.slice (some ⟨g, 0 + i * m, none⟩) (n - i) (cp - i))) (hi : i < n) (hn : n = xs.length) (hp : Pick H (.ow E e (.slice (some ⟨g, 0, none⟩) n cp) xs F) S) (h : T c fr (.ow E e (.slice (some ⟨g, 0, none⟩) n cp) (xs.take i ++ List.replicate (n - i) z0) F :: S) Φ) :
    On c fr H none (.call { callee := .builtin .clear, args := #[x], argTypes := #[t] }) ty Φ := ⟨fun _ _ _ => ef_of fun Q a w s ag => by
  subst hm
  have s1 := s.pick hp
  obtain ⟨hnd, ho⟩ := s1.on (.ow E e (.slice (some ⟨g, 0, none⟩) n cp) xs F) (by simp)
  have hF := ho.scal sc
  rcases ho with ⟨h1, -, -⟩ | ⟨g2, cap, cs, rest, G, h1, h2, h3, h4, h5, h6, h7⟩
  · cases h1
  cases h1
  have hG : G = [] := by rw [h7] at hF; simpa [Value.ownBlock] using hF
  subst hG h7
  have hl := h6.len
  obtain ⟨f1, f2⟩ := h6.cutL i (by omega)
  have hcs := List.take_append_drop (i * E.sz) cs
  have hd1 : (cs.take (i * E.sz)).length = i * E.sz := by have := f1.len; rw [List.length_take (l := xs), Nat.min_eq_left (by omega)] at this; exact this
  have hd2 : (cs.drop (i * E.sz)).length = (xs.length - i) * E.sz := by have := f2.len; rwa [List.length_drop (l := xs)] at this
  have hr := fun ty => run_clear_rows (P := c.P) w t e ty zv hS.u (zeroValue_of hE.i) one g (0 + i * E.sz) (xs.length - i) (cp - i) (by omega)
    (fun j hj => by rw [hE.s] at hj; rw [h2.cell, List.getElem?_eq_getElem (by rw [List.length_append, ← hcs, List.length_append, hd1, hd2]; omega)]; rfl) (fun j _ => h2.frozen _)
  have e1 : ∀ pos aft gd, (execOp a.eval ⟨none, .call { callee := .builtin .clear, args := #[x], argTypes := #[t] }, ty, pos, aft, gd⟩).run c.P w = .ok (.value (.tuple #[])) (w.setCells g (0 + i * E.sz) (Builtin.zeroCells zv.cells (xs.length - i)).toList) := by
    intro pos aft gd
    simp only [execOp, resolve, invoke, builtin, Sem.run_bind, Sem.run_pure, Result.andThen_ok, List.map_toArray, List.map_cons, List.map_nil, ag.ev hx, hr]
  rw [e1]
  have hzl : (Builtin.zeroCells zv.cells (xs.length - i)).toList.length = (xs.length - i) * E.sz := by rw [zeroCells_len, hE.s]
  have R0 : Row w g e (cs.take (i * E.sz) ++ cs.drop (i * E.sz) ++ rest) := by rw [hcs]; exact h2
  have R1 := Row.put (Builtin.zeroCells zv.cells (xs.length - i)).toList _ R0 (p := 0 + i * E.sz) (by omega) (by rw [hzl, hd2])
  have hk := putCells_keep (g := g) (Builtin.zeroCells zv.cells (xs.length - i)).toList w (0 + i * E.sz)
  rw [putCells_eq w g] at R1 hk
  have hW : (Pc.ow E e (.slice (some ⟨g, 0, none⟩) xs.length cp) (xs.take i ++ List.replicate (xs.length - i) z0) [g]).P (w.setCells g (0 + i * E.sz) (Builtin.zeroCells zv.cells (xs.length - i)).toList) := by
    have hll : (xs.take i ++ List.replicate (xs.length - i) z0).length = xs.length := by rw [List.length_append, List.length_take, List.length_replicate]; omega
    have hfl : Flat E (w.setCells g (0 + i * E.sz) (Builtin.zeroCells zv.cells (xs.length - i)).toList) (cs.take (i * E.sz) ++ (Builtin.zeroCells zv.cells (xs.length - i)).toList) (xs.take i ++ List.replicate (xs.length - i) z0) [] := by
      rw [zeroCells_flat]
      exact (f1.all _).append (Flat.rep0 (hz _) _)
    refine ⟨by simp, .inr ⟨g, cp, cs.take (i * E.sz) ++ (Builtin.zeroCells zv.cells (xs.length - i)).toList, rest, [], by rw [hll], R1, by rw [hll]; exact h3, h4, ?_, hfl, rfl⟩⟩
    rw [List.length_append, hzl, hd1, ← Nat.add_mul]
    rw [← h5, hl]
    congr 2
    omega
  exact h.h _ _ (St.turn (M := [.ow E e (.slice (some ⟨g, 0, none⟩) xs.length cp) xs [g]]) (N := [.ow E e (.slice (some ⟨g, 0, none⟩) xs.length cp) (xs.take i ++ List.replicate (xs.length - i) z0) [g]]) s1 (by simpa [List.filter, Pc.mu, fp, Pc.F] using hk) (by intro q hq; rw [List.mem_singleton] at hq; subst hq; exact hW) ⟨by simp, trivial⟩ (by
      intro q hq b hb
      rw [List.mem_singleton] at hq; subst hq
      exact .inr (.inl ⟨_, List.mem_singleton.2 rfl, rfl, hb⟩))) ag⟩
end
end Go.Proofs.YtgogcgkocjpgoaaGreatDoor
/- Deleting out of lists of integers, by the engine. -/
namespace Go.Proofs.YtgogcgkocjpgoaaGreatDoor
open Go.RowKit
set_option maxRecDepth 100000 in
theorem IdxInt_f (fid : FuncId) (bd caps : List Value) (A : List Pc) (hA : A.all (fun p => !p.mu) = true) (xs : List Int) (a : Option Addr) (c : Nat) (F : List Nat) (p : Int → Bool) (hb : bodyB Tryz.prog fid = true) (hl : xs.length ≤ 1000000000)
    (hp : ∀ x ∈ xs, ∀ w, Hol A w → Calls Tryz.prog fid (bd ++ [(.int .i64 x : Value)] ++ caps).toArray w fun e w' => e = .returned (.bool (p x)) ∧ Below w.heap.size w w') :
    Fn Tryz.prog 322 [.slice a xs.length c, .func (.func fid) bd.toArray caps.toArray] (.sl EInt (.slice a xs.length c) xs F :: A) [] (fun (_ : Unit) => True) (fun _ => .int .i64 (fidx p xs)) (fun _ => []) := by
  refine enter Tryz.func322 rfl Tryz.ntmps322 (fun w0 => ?_) rfl (by simpa [Pc.mu] using hA) .nil
  refine go ?_; intros
  refine c_loopR [0, 1, 4, 7] (fun k : Nat => [(8, .int .i64 (k : Nat))]) (fun k => k ≤ xs.length ∧ ∀ j (_ : j < k) (hj : j < xs.length), p xs[j] = false) (fun k => xs.length - k) 0 ⟨Nat.zero_le _, fun j h => by omega⟩ fun k hk => ?_
  obtain ⟨hk1, hk2⟩ := hk
  refine go ?_; intros
  refine c_if rfl (fun h5 => ?_) (fun h5 => ?_)
  · have hh : k < xs.length := by omega
    refine go ?_; intros
    refine at_int (xs := xs) k ?_
    rintro hi b o e
    rw [e]
    refine go ?_; intros
    apply wO
    refine o_callb rfl rfl hb evsE ?_
    refine cb (fun w st => hp xs[k] (List.getElem_mem hh) w (fun q hq => st.on q (by simp [hq]))) ?_
    cases hpk : p xs[k]
    · refine go ?_; intros
      refine t_drop ?_
      refine n_lp (hH := hsub_refl _) (k + 1) ⟨hh, fun j hj h => ?_⟩ (by omega)
      rcases Nat.lt_or_eq_of_le (Nat.lt_succ_iff.1 hj) with h2 | rfl
      · exact hk2 j h2 h
      · exact hpk
    · refine go ?_; intros
      refine ret () trivial ?_
      rw [fidx_hit hh hk2 hpk]; rfl
  · obtain rfl : k = xs.length := by omega
    refine go ?_; intros
    refine ret () trivial ?_
    rw [fidx_none (fun j hj => hk2 j hj hj)]; rfl
structure DfInt where
  i : Nat
  j : Nat
  zs : List Int
set_option maxRecDepth 100000 in
theorem DelInt_f (fid : FuncId) (bd caps : List Value) (A : List Pc) (hA : A.all (fun p => !p.mu) = true) (xs : List Int) (a : Option Addr) (c : Nat) (F : List Nat) (p : Int → Bool) (hb : bodyB Tryz.prog fid = true) (hl : xs.length ≤ 1000000000)
    (hp : ∀ x ∈ xs, ∀ w, Hol A w → Calls Tryz.prog fid (bd ++ [(.int .i64 x : Value)] ++ caps).toArray w fun e w' => e = .returned (.bool (p x)) ∧ Below w.heap.size w w') :
    Fn Tryz.prog 308 [.slice a xs.length c, .func (.func fid) bd.toArray caps.toArray] A [.ow EInt 3 (.slice a xs.length c) xs F] (fun (_ : Option Addr × Nat × List Nat) => True)
      (fun z => .slice z.1 (xs.filter fun x => !p x).length z.2.1) (fun z => [.ow EInt 3 (.slice z.1 (xs.filter fun x => !p x).length z.2.1) (xs.filter fun x => !p x) z.2.2]) := by
  refine enter Tryz.func308 rfl Tryz.ntmps308 (fun w0 => ?_) rfl (by simpa [Pc.mu] using hA) (.cons .nil)
  refine go ?_; intros
  refine cb (fun w st => by
    obtain ⟨Fw, -, hw⟩ := (st.get (p := .ow EInt 3 (.slice a xs.length c) xs F) (by simp)).2.read
    refine (IdxInt_f fid bd caps A hA xs a c Fw p hb hl hp).val w ?_ (by simpa [Pc.mu] using hA)
    intro q hq
    rcases List.mem_cons.1 hq with rfl | hq
    · exact ⟨by decide, hw⟩
    · exact st.on q (by simp [hq])) ?_
  by_cases hany : xs.any p = true
  · obtain ⟨i0, hi0, hfx, hpi, hfl⟩ := fidx_some hany
    rw [hfx]
    refine t_head (xs := xs) scal_EInt (by rintro rfl; simp at hi0) ?_
    rintro g rfl rfl - hc1 hc2
    refine go ?_; intros
    refine c_loopS [0, 1, 4] (fun s : DfInt => [(5, .int .i64 (s.i : Nat)), (6, .int .i64 (s.j : Nat))]) (fun s => [.ow EInt 3 (.slice (some ⟨g, 0, none⟩) xs.length c) s.zs [g]]) (fun s => s.zs.length = xs.length ∧ s.j ≤ xs.length ∧ s.i < s.j ∧ s.zs.take s.i = (xs.take s.j).filter (fun x => !p x) ∧ s.zs.drop s.j = xs.drop s.j) (fun s => xs.length - s.j) ⟨i0, i0 + 1, xs⟩ ⟨rfl, hi0, Nat.lt_succ_self _, by rw [filter_take_no hi0 (by simp [hpi]), hfl], rfl⟩ fun s hs => ?_
    obtain ⟨i, j, zs⟩ := s
    obtain ⟨h1, h2, h3, h4, h5⟩ := hs
    dsimp only at h1 h2 h3 h4 h5 ⊢
    refine go ?_; intros
    refine c_if rfl (fun h6 => ?_) (fun h6 => ?_)
    · have hj : j < xs.length := by omega
      have hjz : j < zs.length := by omega
      have hx : zs[j] = xs[j] := by
        have a1 := List.drop_eq_getElem_cons hjz
        have a2 := List.drop_eq_getElem_cons hj
        rw [h5, a2] at a1
        exact (List.cons.inj a1).1.symm
      have hdz : zs.drop (j + 1) = xs.drop (j + 1) := by
        rw [← List.drop_drop, h5, List.drop_drop]
      refine go ?_; intros
      refine focF (m := 1) scal_EInt j ?_ (by repeat (first | exact .here | apply Pick.there)) rfl hjz
      rintro _ g2 A2 cs2 B2 e1 e2 hc3 hh
      cases e1
      obtain ⟨rfl, -⟩ := hc3 w0
      refine go ?_; intros
      refine unfF zs[j] hh hc3 ?_
      rw [List.set_getElem_self, hx]
      apply wO
      refine o_callb rfl rfl hb evsE ?_
      refine cb (fun w st => hp xs[j] (List.getElem_mem hj) w (fun q hq => st.on q (by simp [hq]))) ?_
      cases hpj : p xs[j]
      · refine go ?_; intros
        refine focF (m := 1) scal_EInt i ?_ (by repeat (first | exact .here | apply Pick.there)) rfl (by omega)
        rintro _ g3 A3 cs3 B3 e1 e2 hc4 hh3
        cases e1
        obtain ⟨rfl, -⟩ := hc4 w0
        refine go ?_; intros
        refine unfF xs[j] hh3 (fun w => ⟨rfl, rfl⟩) ?_
        refine n_lp (hH := hsub_refl _) (⟨i + 1, j + 1, zs.set i xs[j]⟩ : DfInt) ⟨by simp [h1], hj, Nat.succ_lt_succ h3, ?_, ?_⟩ (by dsimp only; omega)
        · dsimp only
          rw [filter_take_yes hj (by simp [hpj]), ← h4, List.take_add_one, List.getElem?_set_self (by omega), List.take_set_of_le (Nat.le_refl _)]
          rfl
        · dsimp only
          rw [List.drop_set_of_lt (by omega), hdz]
      · refine go ?_; intros
        refine n_lp (hH := hsub_refl _) (⟨i, j + 1, zs⟩ : DfInt) ⟨h1, hj, Nat.lt_succ_of_lt h3, ?_, hdz⟩ (by dsimp only; omega)
        dsimp only
        rw [filter_take_no hj (by simp [hpj]), h4]
    · obtain rfl : j = xs.length := by omega
      have h4' : zs.take i = xs.filter fun x => !p x := by rw [h4, List.take_length]
      have hil : (xs.filter fun x => !p x).length = i := by rw [← h4', List.length_take]; omega
      refine go ?_; intros
      apply wO; apply oc; rfl; exact yd_slv (i := i) rfl rfl rfl (by omega) (by omega) (by omega)
      refine go ?_; intros
      apply wO
      refine o_clr (z0 := 0) (n := xs.length) (cp := c) (i := i) (g := g) scal_EInt (fun w => ⟨rfl, rfl⟩) (by decide) rfl rfl h3 h1.symm (by repeat (first | exact .here | apply Pick.there)) ?_
      refine go ?_; intros
      refine t_take (xs := zs.take i ++ List.replicate (xs.length - i) 0) i (fun F2 => ?_) (by rw [List.length_append, List.length_take, List.length_replicate]; omega)
      rw [List.take_left' (by rw [List.length_take]; omega), h4']
      apply wO; apply oc; rfl; exact yd_slt (i := i) rfl rfl rfl (by omega) (by omega)
      refine go ?_; intros
      subst hil
      refine ret (_, c, F2) trivial rfl
  · obtain ⟨hfx, hfl⟩ := fidx_all hany
    rw [hfx, hfl]
    refine go ?_; intros
    refine ret (a, c, F) trivial rfl
end Go.Proofs.YtgogcgkocjpgoaaGreatDoor
/- Receive windows: what is missing. -/
namespace Go.Proofs.YtgogcgkocjpgoaaGreatDoor
open Go.RowKit
def missL (x : ReceiveWindow) (n : Nat) : List Int := (spanL x.next n).filter fun k => !hasB x k
theorem mem_spanL {t k : Int} {n : Nat} (h : k ∈ spanL t n) : 0 ≤ k ∧ k ≤ 65535 := by
  unfold spanL at h
  obtain ⟨i, -, rfl⟩ := List.mem_map.1 h
  unfold aft; omega
set_option maxRecDepth 100000 in
theorem RWmissing_f (x : ReceiveWindow) (k : Int) (n : Nat) (v : Value) (F : List Nat) (h0 : 0 ≤ x.next) (h1 : x.next ≤ 65535) (h2 : 0 ≤ k) (h3 : k ≤ 65535) (hn : gp x.next k = n) :
    Fn Tryz.prog 289 [v, .int .i64 k] [.isv EReceiveWindow v x F] [] (fun (_ : Option Addr × Nat × List Nat) => True) (fun s => .slice s.1 (missL x n).length s.2.1) (fun s => [.ow EInt 3 (.slice s.1 (missL x n).length s.2.1) (missL x n) s.2.2]) := by
  have hg := gp_bd x.next k
  refine enter Tryz.func289 rfl Tryz.ntmps289 fun w0 => ?_
  refine openReceiveWindow ?_
  rintro a1 c1 F1 rfl l1
  refine go ?_; intros
  refine d_start [0] [] ?_
  refine dt 0 ?_
  refine dt 1 ?_
  refine dt 2 ?_
  refine dt 3 ?_
  refine dt 4 ?_
  refine dt 7 ?_
  refine dt 8 ?_ (hy := yd_fnb evsE evsE)
  refine dO 5 (by kernel_rfl) (by rw [List.getElem?_toArray]; rfl) ?_
  apply o_call; rfl; kernel_rfl; exact evsE
  refine ce (fun w s => gap_c _ _ _ (by omega) (by omega) (by omega) (by omega)) ?_
  refine dk ?_
  refine dO 6 (by kernel_rfl) (by rw [List.getElem?_toArray]; rfl) ?_
  apply o_call; rfl; kernel_rfl; exact evsE
  rw [hn]
  refine cf (span_f x.next n (by omega) (by omega) (by omega)) fun s _ => ?_
  refine t_app ?_
  refine dk ?_
  refine dO 9 (by kernel_rfl) (by rw [List.getElem?_toArray]; rfl) ?_
  apply o_call; rfl; kernel_rfl; exact evsE
  refine cf (DelInt_f 137 [_] [] [.isv EReceiveWindow (.agg #[.int .i64 x.next, .slice a1 x.slots.length c1]) x F] rfl (spanL x.next n) s.1 s.2.1 s.2.2 (fun k => hasB x k) rfl (by rw [spanL_len]; omega) (fun k hk w hw => ?_)) fun q _ => ?_
  exact (RWhas_f x k _ F h0 h1 (mem_spanL hk).1 (mem_spanL hk).2).val w hw
  refine t_app ?_
  refine dk ?_
  refine dt 10 ?_
  refine dd ?_
  refine go ?_; intros
  refine ret q trivial rfl
theorem missL_yes {x : ReceiveWindow} {k : Nat} (hk : k ≤ 65535) (h : havAt x.slots k = true) : missL x (k + 1) = missL x k := by
  have e : hasB x (aft x.next k) = true := by unfold hasB; rw [show gp x.next (aft x.next k) = k by unfold gp aft; omega, Int.toNat_natCast, h]
  unfold missL; rw [spanL_succ, List.filter_append, List.filter_cons]; simp [e]
theorem missL_no {x : ReceiveWindow} {k : Nat} (hk : k ≤ 65535) (h : havAt x.slots k = false) : missL x (k + 1) = missL x k ++ [aft x.next k] := by
  have e : hasB x (aft x.next k) = false := by unfold hasB; rw [show gp x.next (aft x.next k) = k by unfold gp aft; omega, Int.toNat_natCast, h]
  unfold missL; rw [spanL_succ, List.filter_append, List.filter_cons]; simp [e]
theorem missL_len (x : ReceiveWindow) (k : Nat) : (missL x k).length ≤ k := by
  unfold missL; have := List.length_filter_le (fun k => !hasB x k) (spanL x.next k); rw [spanL_len] at this; exact this
set_option maxRecDepth 100000 in
theorem l10Missing_f (x : ReceiveWindow) (k : Int) (n : Nat) (v : Value) (F : List Nat) (h0 : 0 ≤ x.next) (h1 : x.next ≤ 65535) (h2 : 0 ≤ k) (h3 : k ≤ 65535) (hn : gp x.next k = n) :
    Fn Tryz.prog 260 [v, .int .i64 k] [.isv EReceiveWindow v x F] [] (fun (_ : Option Addr × Nat × List Nat) => True) (fun s => .slice s.1 (missL x n).length s.2.1) (fun s => [.ow EInt 3 (.slice s.1 (missL x n).length s.2.1) (missL x n) s.2.2]) := by
  have hg := gp_bd x.next k
  refine enter Tryz.func260 rfl Tryz.ntmps260 fun w0 => ?_
  refine openReceiveWindow ?_
  rintro a1 c1 F1 rfl l1
  unfold maxLen at l1
  refine goN ?_; intros
  refine t_emp EInt ?_
  refine go ?_; intros
  refine c_loopS [1, 2, 4] (fun s : SpS => [(5, .slice s.a (missL x s.k).length s.c), (6, .int .i64 (s.k : Nat))]) (fun s => [.ow EInt 3 (.slice s.a (missL x s.k).length s.c) (missL x s.k) s.F]) (fun s => s.k ≤ n) (fun s => n - s.k) ⟨0, _, _, _⟩ (Nat.zero_le _) fun s hs => ?_
  obtain ⟨j, a, c, F5⟩ := s
  dsimp only at hs ⊢
  have hlk := missL_len x j
  refine go ?_; intros
  refine ce (fun w s => l2Gap_c _ _ _ (by omega) (by omega)) ?_
  rw [hn]
  refine go ?_; intros
  refine c_if rfl (fun h4 => ?_) (fun h4 => ?_)
  · refine go ?_; intros
    refine wg_if rfl rfl (fun h5 => ?_) (fun h5 => ?_)
    · refine go ?_; intros
      refine ce (fun w s => l2After_c _ _ _ (by omega) (by omega)) ?_
      refine go ?_; intros
      apply wO
      refine ap1 (rep_int _) one_EInt fun a2 c2 F2 => ?_
      refine go ?_; intros
      rw [← missL_no (by omega) (havAt_ge (by omega))]
      refine n_lp ⟨j + 1, a2, c2, F2⟩ (by show j + 1 ≤ n; omega) (by show n - (j + 1) < n - j; omega)
    · refine atSlot (xs := x.slots) j ?_
      rintro hi2 b2 o2 e s1
      rw [e]
      refine go ?_; intros
      cases g2 : x.slots[j].hav
      · refine go ?_; intros
        refine ce (fun w s => l2After_c _ _ _ (by omega) (by omega)) ?_
        refine go ?_; intros
        apply wO
        refine ap1 (rep_int _) one_EInt fun a2 c2 F2 => ?_
        refine go ?_; intros
        rw [← missL_no (by omega) (by rw [havAt_lt hi2]; exact g2)]
        refine n_lp ⟨j + 1, a2, c2, F2⟩ (by show j + 1 ≤ n; omega) (by show n - (j + 1) < n - j; omega)
      · refine go ?_; intros
        rw [← missL_yes (x := x) (k := j) (by omega) (by rw [havAt_lt hi2]; exact g2)]
        refine n_lp ⟨j + 1, a, c, F5⟩ (by show j + 1 ≤ n; omega) (by show n - (j + 1) < n - j; omega)
  · obtain rfl : j = n := by omega
    refine go ?_; intros
    refine ret (a, c, F5) trivial rfl
end Go.Proofs.YtgogcgkocjpgoaaGreatDoor
/- Receivers: what is valid, what a tick brings; plain laws. -/
namespace Go.Proofs.YtgogcgkocjpgoaaGreatDoor
open Go.RowKit
def isDel (d : Int) : Bool := btw 1 d 8
def okReq (base : Int) (r : Request) : Bool := isSer r.number && decide (gp base r.number < 8) && btw 1 r.state 3 && btw 0 r.untl 10007 && btw 0 r.tries 3
def chkQ (l : List Request) (base : Int) (i : Nat) : Bool := match l[i]? with
  | none => true
  | some r => okReq base r && (decide (i = 0) || match l[i - 1]? with | none => true | some p => !decide (gp base r.number ≤ gp base p.number))
theorem chkQ_at {l : List Request} {base : Int} {i : Nat} (h : i < l.length) : chkQ l base i = (okReq base l[i] && (decide (i = 0) || !decide (gp base l[i].number ≤ gp base (l[i - 1]'(by omega)).number))) := by
  unfold chkQ
  rw [List.getElem?_eq_getElem h, List.getElem?_eq_getElem (show i - 1 < l.length by omega)]
def areQ (l : List Request) (base : Int) : Bool := isSer base && decide ((l.length : Int) ≤ 8) && (List.range l.length).all (chkQ l base)
theorem areQ_no {l : List Request} {base : Int} {i : Nat} (h : i < l.length) (hc : chkQ l base i = false) : areQ l base = false := by
  have : (List.range l.length).all (chkQ l base) = false := List.all_eq_false.2 ⟨i, by simpa using h, by simp [hc]⟩
  simp [areQ, this]
theorem areQ_yes {l : List Request} {base : Int} (h1 : isSer base = true) (h2 : (l.length : Int) ≤ 8) (h : ∀ j, j < l.length → chkQ l base j = true) : areQ l base = true := by
  unfold areQ
  rw [h1, decide_eq_true h2, List.all_eq_true.2 fun j hj => h j (by simpa using hj)]; rfl
/-- what valid requests are -/
theorem areQ_iff {l : List Request} {base : Int} : areQ l base = true ↔ isSer base = true ∧ l.length ≤ 8 ∧ (∀ r ∈ l, okReq base r = true) ∧ l.Pairwise fun a b => gp base a.number < gp base b.number := by
  unfold areQ
  simp only [Bool.and_eq_true, List.all_eq_true, List.mem_range, decide_eq_true_eq]
  constructor
  · rintro ⟨⟨h1, h2⟩, h4⟩
    refine ⟨h1, by omega, fun r hr => ?_, ?_⟩
    · obtain ⟨i, hi, rfl⟩ := List.getElem_of_mem hr
      have := h4 i hi
      rw [chkQ_at hi] at this
      simp only [Bool.and_eq_true] at this
      exact this.1
    · have step : ∀ i (hi : i + 1 < l.length), gp base l[i].number < gp base l[i + 1].number := fun i hi => by
        have := h4 (i + 1) hi
        rw [chkQ_at hi] at this
        simp only [Bool.and_eq_true, Bool.or_eq_true, decide_eq_true_eq, Bool.not_eq_true', decide_eq_false_iff_not] at this
        have h := this.2
        rcases h with h | h
        · omega
        · simpa using h
      refine List.pairwise_iff_getElem.2 fun i j hi hj hij => ?_
      obtain ⟨d, rfl⟩ : ∃ d, j = i + 1 + d := ⟨j - i - 1, by omega⟩
      clear hij
      induction d with
      | zero => exact step i hj
      | succ d ih => exact Int.lt_trans (ih (by omega)) (step (i + 1 + d) hj)
  · rintro ⟨h1, h2, h4, h5⟩
    refine ⟨⟨h1, by omega⟩, fun i hi => ?_⟩
    rw [chkQ_at hi, h4 l[i] (List.getElem_mem hi)]
    simp only [Bool.true_and, Bool.or_eq_true, decide_eq_true_eq, Bool.not_eq_true', decide_eq_false_iff_not]
    rcases Nat.eq_zero_or_pos i with h0 | h0
    · exact .inl h0
    · have := List.pairwise_iff_getElem.1 h5 (i - 1) i (by omega) hi (by omega)
      right; omega
structure OkReq (base : Int) (r : Request) : Prop where
  n : isSer r.number = true
  g : gp base r.number < 8
  s0 : 1 ≤ r.state
  s1 : r.state ≤ 3
  u0 : 0 ≤ r.untl
  u1 : r.untl ≤ 10007
  t0 : 0 ≤ r.tries
  t1 : r.tries ≤ 3
theorem okReq_iff {base : Int} {r : Request} : okReq base r = true ↔ OkReq base r := by
  unfold okReq btw
  simp only [Bool.and_eq_true, decide_eq_true_eq]
  exact ⟨fun ⟨⟨⟨⟨a, b⟩, c, d⟩, e, f⟩, g, h⟩ => ⟨a, b, c, d, e, f, g, h⟩, fun ⟨a, b, c, d, e, f, g, h⟩ => ⟨⟨⟨⟨a, b⟩, c, d⟩, e, f⟩, g, h⟩⟩
def zeroRec (r : Receiver) : Bool := decide (r.window.next = 0) && decide (r.window.slots.length = 0) && decide (r.requests.length = 0)
def freeQ (r : Receiver) : Bool := r.requests.all fun q => !hasB r.window q.number
def goodRec (r : Receiver) : Bool := isClk r.clock && (if r.started then goodRW r.window && areQ r.requests r.window.next && freeQ r else zeroRec r)
/-- one request at a tick: what stays, what is sent, what is given up -/
def tkO (c d : Int) (r : Request) : Option Request := if c < r.untl then some r else if r.tries = 3 then none else if r.state = 1 then some ⟨r.number, 2, c + 3, r.tries + 1⟩ else some ⟨r.number, 1, c + d, r.tries⟩
def tkS (c : Int) (r : Request) : Option Int := if c < r.untl then none else if r.tries = 3 then none else if r.state = 1 then some r.number else none
def tkL (c : Int) (r : Request) : Option Int := if c < r.untl then none else if r.tries = 3 then some r.number else none
def pkR (n k : Int) : Packet := ⟨3, k, n, n, ⟨#[]⟩⟩
def lostTrail (l : List Int) : Int := aft (l.getLastD 0) 1
def movedW (w : ReceiveWindow) (t : Int) : ReceiveWindow := relW (giveW (stepsN w.next t) w)
def movedE (w : ReceiveWindow) (t : Int) : List ByteArray := giveE (stepsN w.next t) w ++ relE (giveW (stepsN w.next t) w)
def noBef (l : List Request) (n : Int) : List Request := l.filter fun q => !bef q.number n
def needed (l : List Request) (w : ReceiveWindow) : List Request := l.filter fun q => !(bef q.number w.next || hasB w q.number) && decide (gp w.next q.number < 8)
def tkReq (r : Receiver) (d : Int) : List Request := r.requests.filterMap (tkO (r.clock + 1) d)
def tkLost (r : Receiver) : List Int := r.requests.filterMap (tkL (r.clock + 1))
def tickRec (r : Receiver) (d : Int) : Receiver := if tkLost r = [] then ⟨r.started, r.clock + 1, r.window, tkReq r d⟩ else ⟨r.started, r.clock + 1, movedW r.window (lostTrail (tkLost r)), noBef (tkReq r d) (movedW r.window (lostTrail (tkLost r))).next⟩
def tickPk (r : Receiver) : List Packet := (r.requests.filterMap (tkS (r.clock + 1))).map (pkR r.window.next)
def tickEv (r : Receiver) : List ByteArray := if tkLost r = [] then [] else movedE r.window (lostTrail (tkLost r))
def zRec : Receiver := ⟨false, 0, ⟨0, []⟩, []⟩
structure GoodR (r : Receiver) : Prop where
  k0 : 0 ≤ r.clock
  k1 : r.clock ≤ 9999
  w : goodRW r.window = true
  q : areQ r.requests r.window.next = true
  f : ∀ z ∈ r.requests, hasB r.window z.number = false
  z : r.started = false → r.window = ⟨0, []⟩ ∧ r.requests = []
theorem goodR_iff {r : Receiver} : goodRec r = true ↔ GoodR r := by
  have hc : isClk r.clock = true ↔ 0 ≤ r.clock ∧ r.clock ≤ 9999 := by unfold isClk btw; simp
  have hf : freeQ r = true ↔ ∀ z ∈ r.requests, hasB r.window z.number = false := by unfold freeQ; simp
  have hz : zeroRec r = true ↔ r.window = ⟨0, []⟩ ∧ r.requests = [] := by
    unfold zeroRec
    obtain ⟨st, ck, ⟨n, s⟩, q⟩ := r
    simp [and_assoc]
  unfold goodRec
  constructor
  · intro h
    rw [Bool.and_eq_true, hc] at h
    obtain ⟨⟨c0, c1⟩, h⟩ := h
    cases hs : r.started
    · rw [hs] at h
      obtain ⟨e1, e2⟩ := hz.1 (by simpa using h)
      refine ⟨c0, c1, by rw [e1]; decide, by rw [e1, e2]; decide, by rw [e2]; simp, fun _ => ⟨e1, e2⟩⟩
    · rw [hs] at h
      simp only [if_true, Bool.and_eq_true] at h
      exact ⟨c0, c1, h.1.1, h.1.2, hf.1 h.2, fun h' => by rw [hs] at h'; cases h'⟩
  · rintro ⟨c0, c1, h1, h2, h3, h4⟩
    rw [Bool.and_eq_true, hc]
    refine ⟨⟨c0, c1⟩, ?_⟩
    cases hs : r.started
    · simpa using hz.2 (h4 hs)
    · simp [h1, h2, hf.2 h3]
end Go.Proofs.YtgogcgkocjpgoaaGreatDoor
/- Receivers: what stands when a window has moved; plain laws. -/
namespace Go.Proofs.YtgogcgkocjpgoaaGreatDoor
open Go.RowKit
theorem stepsN_gp {a t : Int} : stepsN a t ≤ (gp a t).toNat := by unfold stepsN; split <;> omega
/-- how far a window moves -/
theorem moved_at {w : ReceiveWindow} {t : Int} (hg : goodRW w = true) : (movedW w t).next = aft w.next ((movedE w t).length : Nat) ∧ (movedW w t).slots = w.slots.drop (movedE w t).length ∧ (movedE w t).length ≤ stepsN w.next t + 8 ∧ stepsN w.next t ≤ (movedE w t).length := by
  obtain ⟨h0, h1⟩ : 0 ≤ w.next ∧ w.next ≤ 65535 := by
    unfold goodRW at hg
    simp only [Bool.and_eq_true] at hg
    exact isSer_iff.1 hg.1.1.1
  have hl : w.slots.length ≤ 8 := by
    unfold goodRW at hg
    simp only [Bool.and_eq_true, decide_eq_true_eq] at hg
    have := hg.1.1.2; omega
  have e1 : ∀ k (x : ReceiveWindow), (giveE k x).length = k := by
    intro k
    induction k with
    | zero => intro x; rfl
    | succ k ih => intro x; simp [giveE, ih]
  have h2 := giveUp_next (stepsN w.next t) w h0 h1
  have h3 := rel_drop (giveW (stepsN w.next t) w).slots (giveW (stepsN w.next t) w).next
  have h4 := giveW_drop (stepsN w.next t) w
  have h5 := relE_le (giveW (stepsN w.next t) w)
  rw [h4, List.length_drop] at h5
  refine ⟨h2, ?_, ?_, ?_⟩
  · have e : (movedW w t).slots = (giveW (stepsN w.next t) w).slots.drop (relE (giveW (stepsN w.next t) w)).length := h3.1
    rw [e, h4, List.drop_drop]
    unfold movedE
    rw [List.length_append, e1]
  · unfold movedE
    rw [List.length_append, e1]; omega
  · unfold movedE
    rw [List.length_append, e1]; omega
theorem hasB_at (w : ReceiveWindow) (n : Int) : hasB w n = havAt w.slots (gp w.next n).toNat := rfl
/-- an awaited serial is left behind, or still awaited -/
theorem moved_q {w : ReceiveWindow} {t n : Int} (hg : goodRW w = true) (ht : gp w.next t ≤ 8) (hn : isSer n = true) (h8 : gp w.next n < 8) (hh : hasB w n = false) :
    (bef n (movedW w t).next = true ∧ gp w.next n < ((movedE w t).length : Nat)) ∨ (bef n (movedW w t).next = false ∧ hasB (movedW w t) n = false ∧ gp w.next n = ((movedE w t).length : Nat) + gp (movedW w t).next n) := by
  obtain ⟨e1, e2, e3, -⟩ := moved_at (t := t) hg
  have hs := @stepsN_gp w.next t
  obtain ⟨n0, n1⟩ := isSer_iff.1 hn
  obtain ⟨w0, w1⟩ : 0 ≤ w.next ∧ w.next ≤ 65535 := by
    unfold goodRW at hg
    simp only [Bool.and_eq_true] at hg
    exact isSer_iff.1 hg.1.1.1
  have hm : (movedE w t).length ≤ 16 := by omega
  have hb := gp_bd w.next n
  rw [hasB_at, e1, e2, havAt_drop]
  rw [hasB_at] at hh
  generalize hM : (movedE w t).length = m at *
  clear e1 e2 e3 hs hM hg ht
  by_cases hc : gp w.next n < (m : Nat)
  · left
    refine ⟨?_, hc⟩
    unfold bef btw gp aft at *
    simp only [Bool.and_eq_true, decide_eq_true_eq]
    omega
  · right
    have e : gp w.next n = m + gp (aft w.next m) n := by unfold gp aft at *; omega
    refine ⟨?_, ?_, e⟩
    · have : ¬ (1 ≤ gp n (aft w.next m) ∧ gp n (aft w.next m) ≤ 32767) := by unfold gp aft at *; omega
      unfold bef btw
      simpa using this
    · have hb2 := gp_bd (aft w.next m) n
      rw [show m + (gp (aft w.next m) n).toNat = (gp w.next n).toNat by omega]
      exact hh
theorem needed_moved {w : ReceiveWindow} {t : Int} (hg : goodRW w = true) (ht : gp w.next t ≤ 8) {l : List Request} (hl : ∀ q ∈ l, isSer q.number = true ∧ gp w.next q.number < 8 ∧ hasB w q.number = false) : needed l (movedW w t) = noBef l (movedW w t).next := by
  unfold needed noBef
  refine List.filter_congr fun q hq => ?_
  obtain ⟨a, b, c⟩ := hl q hq
  rcases moved_q hg ht a b c with ⟨h, -⟩ | ⟨h, h2, h3⟩
  · simp [h]
  · have := gp_bd (movedW w t).next q.number
    simp [h, h2, show gp (movedW w t).next q.number < 8 by omega]
theorem tkO_num {c d : Int} {r q : Request} (h : tkO c d r = some q) : q.number = r.number := by
  unfold tkO at h
  split at h
  · cases h; rfl
  · split at h
    · cases h
    · split at h <;> cases h <;> rfl
theorem tkL_num {c : Int} {r : Request} {n : Int} (h : tkL c r = some n) : n = r.number := by
  unfold tkL at h
  split at h
  · cases h
  · split at h <;> cases h <;> rfl
theorem req_at {r : Receiver} (hg : GoodR r) {q : Request} (hq : q ∈ r.requests) : isSer q.number = true ∧ gp r.window.next q.number < 8 ∧ hasB r.window q.number = false := by
  obtain ⟨-, -, h3, -⟩ := areQ_iff.1 hg.q
  have := okReq_iff.1 (h3 q hq)
  exact ⟨this.n, this.g, hg.f q hq⟩
theorem tkReq_at {r : Receiver} {d : Int} (hg : GoodR r) {q : Request} (hq : q ∈ tkReq r d) : isSer q.number = true ∧ gp r.window.next q.number < 8 ∧ hasB r.window q.number = false := by
  obtain ⟨q', hq', h⟩ := List.mem_filterMap.1 hq
  rw [tkO_num h]
  exact req_at hg hq'
theorem tkLost_at {r : Receiver} (hg : GoodR r) {n : Int} (hn : n ∈ tkLost r) : isSer n = true ∧ gp r.window.next n < 8 := by
  obtain ⟨q', hq', h⟩ := List.mem_filterMap.1 hn
  rw [tkL_num h]
  exact ⟨(req_at hg hq').1, (req_at hg hq').2.1⟩
theorem next_ser {w : ReceiveWindow} (hg : goodRW w = true) : 0 ≤ w.next ∧ w.next ≤ 65535 := by
  unfold goodRW at hg
  simp only [Bool.and_eq_true] at hg
  exact isSer_iff.1 hg.1.1.1
theorem lost_gp {r : Receiver} (hg : GoodR r) (h : tkLost r ≠ []) : gp r.window.next (lostTrail (tkLost r)) ≤ 8 ∧ isSer (lostTrail (tkLost r)) = true := by
  unfold lostTrail
  have hm : (tkLost r).getLastD 0 ∈ tkLost r := by
    rw [List.getLastD_eq_getLast?, List.getLast?_eq_some_getLast h]
    exact List.getLast_mem h
  obtain ⟨a, b⟩ := tkLost_at hg hm
  refine ⟨?_, aft_ser _ _⟩
  obtain ⟨n0, n1⟩ := isSer_iff.1 a
  obtain ⟨w0, w1⟩ := next_ser hg.w
  unfold gp aft at *
  omega
/-- the reference keeps the same requests at a tick -/
theorem tick_needed {r : Receiver} {d : Int} (hg : GoodR r) (h : tkLost r ≠ []) : needed (tkReq r d) (movedW r.window (lostTrail (tkLost r))) = noBef (tkReq r d) (movedW r.window (lostTrail (tkLost r))).next :=
  needed_moved hg.w (lost_gp hg h).1 fun _ hq => tkReq_at hg hq
end Go.Proofs.YtgogcgkocjpgoaaGreatDoor
/- Structs of type Request in a walk's state: opened, closed. -/
namespace Go.Proofs.YtgogcgkocjpgoaaGreatDoor
open Go.RowKit
section
variable {c : Cx} {fr : Fr} {H : List Pc} {Φ : Gl}
theorem atRequest {a : Option Addr} {n cp : Nat} {xs : List Request} {F : List Nat} (i : Nat) (h : ∀ (hi : i < xs.length) (b o : Nat), a = some ⟨b, o, none⟩ → T c fr (.cel b (o + i * 4) [.int .i64 xs[i].number, .int .i64 xs[i].state, .int .i64 xs[i].untl, .int .i64 xs[i].tries] :: H) Φ) (hm : .sl ERequest (.slice a n cp) xs F ∈ H := by (repeat (first | exact .head _ | apply List.Mem.tail)); first | done | fail) (hi : i < xs.length := by omega) : T c fr H Φ := .mk fun ac w s g => by
  obtain ⟨b, o, cs, G, ha, hrep, hG, hb, hne, hr⟩ := sl_at (s.get hm) i hi
  obtain ⟨rfl, rfl⟩ := hrep
  exact (h hi b o  ha  ).h ac w (s.ro hm rfl rfl ⟨hne, hr⟩ (by intro x hx; simp [Pc.F] at hx; subst hx; exact hb)) g
theorem focRequest {t : TypeId} {a : Option Addr} {n cp : Nat} {xs : List Request} {F : List Nat} {S : List Pc} (i : Nat) (h : ∀ (_ : i < xs.length) g A B, a = some ⟨g, 0, none⟩ → F = [g] → Hole ERequest t g (.slice (some ⟨g, 0, none⟩) n cp) xs i A B → T c fr (.row g t (0 + i * 4) A [.int .i64 xs[i].number, .int .i64 xs[i].state, .int .i64 xs[i].untl, .int .i64 xs[i].tries] B :: S) Φ) (hp : Pick H (.ow ERequest t (.slice a n cp) xs F) S := by (repeat (first | exact .here | apply Pick.there)); first | done | fail) (hi : i < xs.length := by omega) : T c fr H Φ :=
  focF scal_ERequest i (fun hi g A cs B ha hF hr hh => by obtain ⟨rfl, -⟩ := hr default; exact h hi g A B ha hF  hh) hp rfl hi
theorem flatRequest (x : Request)  (w : World) : Flat ERequest w [.int .i64 x.number, .int .i64 x.state, .int .i64 x.untl, .int .i64 x.tries] [x] [] := ⟨_, [], [], [], by simp, by simp, ⟨rfl, rfl⟩, rfl, rfl⟩
end
end Go.Proofs.YtgogcgkocjpgoaaGreatDoor
