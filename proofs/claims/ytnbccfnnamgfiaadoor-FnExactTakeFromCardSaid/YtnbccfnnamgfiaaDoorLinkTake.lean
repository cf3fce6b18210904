/- Walks: DropFrom and TakeFrom, the program's and the reference's. -/
import Derived.Test.YtnbccfnnamgfiaaDoorLink
import Derived.Test.YtnbccfnnamgfiaaDoorLibStrDel
namespace Go.Proofs.YtnbccfnnamgfiaaDoor
open Go.RowKit
def okDropFrom (x : Link) (i : Int) : Bool := goodLink x && btw 0 i (x.queue.length - 1)
def resDropFrom (x : Link) (i : Int) : Link × Bool := if okDropFrom x i then (⟨x.queue.take i.toNat ++ x.queue.drop (i.toNat + 1), x.fates, x.used⟩, true) else (⟨[], ⟨#[]⟩, 0⟩, false)
def PS_DropFrom : Link × Bool → World → Ending → World → Prop := fun (r0, r1) w e w' => ∃ u0 G0, e = .returned (.tuple #[u0, .bool r1]) ∧ IsV ELink w' u0 r0 G0 ∧ Below w.heap.size w w'
def PI_DropFrom : Link × Bool → World → Ending → World → Prop := fun (r0, r1) w e w' => ∃ u0 G0, e = .returned (.tuple #[u0, .bool r1]) ∧ IsV OLink w' u0 r0 G0 ∧ (G0).Nodup ∧ (∀ b ∈ G0, w.heap.size ≤ b) ∧ Below w.heap.size w w'
set_option maxHeartbeats 3200000 in
set_option maxRecDepth 100000 in
theorem specDropFrom_c (v0 : Value) (x0 : Link) (F0 : List Nat) (x1 : Int) (w : World) (h0 : IsV ELink w v0 x0 F0) :
    Calls Tryd.prog 14 #[v0, .int .i64 x1] w (PS_DropFrom (resDropFrom x0 x1) w) := by
  have A0 := h0
  have lA0 := h0.lt
  obtain ⟨_, rfl, v0_1, rfl, s0_1, h0_1⟩ := h0
  obtain ⟨a0_1, c0_1, rfl⟩ := h0_1.slice
  clear h0_1
  go_enter Tryd.func14, Tryd.ntmps14
  go_wp2_with fail
  have al : Below w.heap.size w ((w.alloc (.cells #[.slice a0_1 x0.queue.length c0_1, .string x0.fates, .int .i64 x0.used] 26)).alloc (.cells #[.slice none 0 0, .string ⟨#[]⟩, .int .i64 0] 26)) := by
    repeat refine Below.alloc ?_ (by simp <;> omega) _
    exact Below.refl _ _
  have n_R0 : Row ((w.alloc (.cells #[.slice a0_1 x0.queue.length c0_1, .string x0.fates, .int .i64 x0.used] 26)).alloc (.cells #[.slice none 0 0, .string ⟨#[]⟩, .int .i64 0] 26)) (w.heap.size) 26 [.slice a0_1 x0.queue.length c0_1, .string x0.fates, .int .i64 x0.used] := by simp [row_alloc] <;> omega
  have n_RZ : Row ((w.alloc (.cells #[.slice a0_1 x0.queue.length c0_1, .string x0.fates, .int .i64 x0.used] 26)).alloc (.cells #[.slice none 0 0, .string ⟨#[]⟩, .int .i64 0] 26)) (w.heap.size + 1) 26 [.slice none 0 0, .string ⟨#[]⟩, .int .i64 0] := by simp [row_alloc] <;> omega
  have hs_w1 : w.heap.size + 1 < ((w.alloc (.cells #[.slice a0_1 x0.queue.length c0_1, .string x0.fates, .int .i64 x0.used] 26)).alloc (.cells #[.slice none 0 0, .string ⟨#[]⟩, .int .i64 0] 26)).heap.size := by simp <;> omega
  replace A0 := A0.below al
  have hB := al
  generalize ((w.alloc (.cells #[.slice a0_1 x0.queue.length c0_1, .string x0.fates, .int .i64 x0.used] 26)).alloc (.cells #[.slice none 0 0, .string ⟨#[]⟩, .int .i64 0] 26)) = w1 at *
  have R0 := n_R0; clear n_R0
  have RZ := n_RZ; clear n_RZ
  clear al
  refine (l7Good_c _ x0 F0 _ A0).mono ?_
  rintro e w2 ⟨rfl, hb⟩
  have hs_w2 := hb.size
  replace R0 := R0.below hb
  replace RZ := RZ.below hb
  replace A0 := A0.below hb
  replace hB := tr hB hb (Nat.le_refl _)
  clear hb
  cases g1 : goodLink x0
  · have hr : resDropFrom x0 x1 = (⟨[], ⟨#[]⟩, 0⟩, false) := by unfold resDropFrom okDropFrom; rw [g1]; simp
    replace hr := Lib.hid hr
    have c_R0 := R0.cells; have f_R0 := R0.frozens
    have c_RZ := RZ.cells; have f_RZ := RZ.frozens
    go_wp2_with fail
    refine bodyPost_ret (v := .tuple #[.agg #[.slice none 0 0, .string ⟨#[]⟩, .int .i64 0], .bool false]) ?_ rfl ?_
    · simp [results, Tryd.results14, go_sem, c_RZ, f_RZ]
    · rw [hr.out]
      refine ⟨_, [], rfl, ⟨_, rfl, _, rfl, by decide, none, 0, rfl, by simp, .inl ⟨rfl, rfl, fun _ => rfl⟩⟩, ?_⟩
      repeat refine Below.setCell ?_ (by simp <;> omega) _
      exact hB
  have gg := goodLink_iff.1 g1
  obtain ⟨⟨⟨⟨hq8, -⟩, -⟩, -⟩, -, -⟩ := gg
  have c_R0 := R0.cells; have f_R0 := R0.frozens
  have c_RZ := RZ.cells; have f_RZ := RZ.frozens
  go_wp2_with fail
  clear c_R0 f_R0 c_RZ f_RZ
  refine (l1In_c _ _ _ _).mono ?_
  rintro e w' ⟨rfl, rfl⟩
  cases g2 : btw 0 x1 (x0.queue.length - 1)
  · have hr : resDropFrom x0 x1 = (⟨[], ⟨#[]⟩, 0⟩, false) := by unfold resDropFrom okDropFrom; rw [g1, g2]; simp
    replace hr := Lib.hid hr
    have c_R0 := R0.cells; have f_R0 := R0.frozens
    have c_RZ := RZ.cells; have f_RZ := RZ.frozens
    go_wp2_with fail
    refine bodyPost_ret (v := .tuple #[.agg #[.slice none 0 0, .string ⟨#[]⟩, .int .i64 0], .bool false]) ?_ rfl ?_
    · simp [results, Tryd.results14, go_sem, c_RZ, f_RZ]
    · rw [hr.out]
      refine ⟨_, [], rfl, ⟨_, rfl, _, rfl, by decide, none, 0, rfl, by simp, .inl ⟨rfl, rfl, fun _ => rfl⟩⟩, ?_⟩
      repeat refine Below.setCell ?_ (by simp <;> omega) _
      exact hB
  have gn : 0 ≤ x1 ∧ x1 ≤ x0.queue.length - 1 := by unfold btw at g2; simpa using g2
  obtain ⟨k, rfl⟩ : ∃ k : Nat, x1 = k := ⟨x1.toNat, by omega⟩
  have hk : k < x0.queue.length := by omega
  clear gn
  obtain ⟨p, hp⟩ : ∃ p, p = x0.queue.take k := ⟨_, rfl⟩
  obtain ⟨s, hs⟩ : ∃ s, s = x0.queue.drop (k + 1) := ⟨_, rfl⟩
  have hr : resDropFrom x0 k = (⟨p ++ s, x0.fates, x0.used⟩, true) := by
    unfold resDropFrom okDropFrom
    rw [g1, g2, hp, hs]; rfl
  have hpl : p.length = k := by rw [hp]; simp; omega
  have hsl : s.length = x0.queue.length - (k + 1) := by rw [hs]; simp
  replace hr := Lib.hid hr
  have hs4 : ∀ W, (sizeOf (Tryd.prog.elem 22)).run Tryd.prog W = .ok 1 W := fun W => by kernel_rfl
  have S0 : Sl EStr w2 (.slice a0_1 x0.queue.length c0_1) x0.queue F0 := by
    obtain ⟨_, e1, v1, rfl, -, h1⟩ := A0
    simp at e1
    obtain ⟨rfl, -⟩ := e1
    exact h1
  have hkc : k ≤ c0_1 := by have := S0.caps; omega
  obtain ⟨FP, hFP, SP⟩ := S0.takeS k (by omega)
  obtain ⟨a2, c2, FS, hSW, hFS, SS⟩ := S0.dropS 22 (by kernel_rfl) (k + 1) (by omega) hs4
  rw [← hp] at SP
  rw [← hs] at SS
  clear S0
  rw [show ((k + 1 : Nat) : Int) = (k : Int) + 1 from by omega] at hSW
  have lP : ∀ b ∈ FP, b < w.heap.size := fun b hb => lA0 b (hFP b hb)
  have lS : ∀ b ∈ FS, b < w.heap.size := fun b hb => lA0 b (hFS b hb)
  clear hFP hFS
  have hw1 : IntKind.i64.wrap ((k : Int) + 1) = (k : Int) + 1 := by rw [IntKind.wrap_i64]; omega
  replace hw1 := Lib.hid hw1
  clear g2 hp hs
  have c_R0 := R0.cells; have f_R0 := R0.frozens
  have c_RZ := RZ.cells; have f_RZ := RZ.frozens
  go_wp2_with fail
  clear c_R0 f_R0 c_RZ f_RZ
  rename_i K0 hK0
  refine AnyX.start (S := (fun w' => w'.cell? ⟨w.heap.size, 0, none⟩ = some (.slice a0_1 x0.queue.length c0_1) ∧ w'.cell? ⟨w.heap.size, 1, none⟩ = some (.string x0.fates) ∧ w'.cell? ⟨w.heap.size, 2, none⟩ = some (.int .i64 x0.used))) (X := (fun i => i == 16 || i == 17)) (by kernel_rfl) ?_
  have al : Below w2.heap.size w2 w2.drew := belowDrewN (Below.refl _ _) 1
  have hs_w3 := al.size
  replace R0 := R0.below al
  replace RZ := RZ.below al
  replace A0 := A0.below al
  replace SP := SP.below (by decide) al
  replace SS := SS.below (by decide) al
  replace hB := tr hB al (Nat.le_refl _)
  generalize w2.drew = w3 at *
  clear al
  have hS : (fun w' => w'.cell? ⟨w.heap.size, 0, none⟩ = some (.slice a0_1 x0.queue.length c0_1) ∧ w'.cell? ⟨w.heap.size, 1, none⟩ = some (.string x0.fates) ∧ w'.cell? ⟨w.heap.size, 2, none⟩ = some (.int .i64 x0.used)) w3 := ⟨R0.cells 0, R0.cells 1, R0.cells 2⟩
  refine AnyX.take (i := 0) (oi := _) (v := ?_) (by rw [List.getElem?_toArray]; rfl) (by kernel_rfl) (by kernel_rfl) (by kernel_rfl) (by kernel_rfl) (by kernel_rfl) (by exact fun _ _ _ h => h) (Or.inl ⟨by rfl, ?_⟩) hS ?_
  rotate_left
  · (intro wS hSw; (try dsimp only at hSw); go_simp; try with_reducible rfl)
  try simp only [Act.put, List.setIfInBounds_toArray, List.set_cons_zero, List.set_cons_succ]
  refine AnyX.take (i := 2) (oi := _) (v := ?_) (by rw [List.getElem?_toArray]; rfl) (by kernel_rfl) (by kernel_rfl) (by kernel_rfl) (by kernel_rfl) (by kernel_rfl) (by exact fun _ _ _ h => h) (Or.inl ⟨by rfl, ?_⟩) hS ?_
  rotate_left
  · (intro wS hSw; (try dsimp only at hSw); go_simp; try with_reducible rfl)
  try simp only [Act.put, List.setIfInBounds_toArray, List.set_cons_zero, List.set_cons_succ]
  refine AnyX.take (i := 3) (oi := _) (v := ?_) (by rw [List.getElem?_toArray]; rfl) (by kernel_rfl) (by kernel_rfl) (by kernel_rfl) (by kernel_rfl) (by kernel_rfl) (by exact fun _ _ _ h => h) (Or.inl ⟨by rfl, ?_⟩) hS ?_
  rotate_left
  · (intro wS hSw; (try dsimp only at hSw); go_simp; try with_reducible rfl)
  try simp only [Act.put, List.setIfInBounds_toArray, List.set_cons_zero, List.set_cons_succ]
  refine AnyX.take (i := 4) (oi := _) (v := ?_) (by rw [List.getElem?_toArray]; rfl) (by kernel_rfl) (by kernel_rfl) (by kernel_rfl) (by kernel_rfl) (by kernel_rfl) (by exact fun _ _ _ h => h) (Or.inl ⟨by rfl, ?_⟩) hS ?_
  rotate_left
  · (intro wS hSw; (try dsimp only at hSw); go_simp; try with_reducible rfl)
  try simp only [Act.put, List.setIfInBounds_toArray, List.set_cons_zero, List.set_cons_succ]
  refine AnyX.take (i := 5) (oi := _) (v := ?_) (by rw [List.getElem?_toArray]; rfl) (by kernel_rfl) (by kernel_rfl) (by kernel_rfl) (by kernel_rfl) (by kernel_rfl) (by exact fun _ _ _ h => h) (Or.inl ⟨by rfl, ?_⟩) hS ?_
  rotate_left
  · (intro wS hSw; (try dsimp only at hSw); go_simp; try with_reducible rfl)
  try simp only [Act.put, List.setIfInBounds_toArray, List.set_cons_zero, List.set_cons_succ]
  refine AnyX.take (i := 7) (oi := _) (v := ?_) (by rw [List.getElem?_toArray]; rfl) (by kernel_rfl) (by kernel_rfl) (by kernel_rfl) (by kernel_rfl) (by kernel_rfl) (by exact fun _ _ _ h => h) (Or.inl ⟨by rfl, ?_⟩) hS ?_
  rotate_left
  · (intro wS hSw; (try dsimp only at hSw); go_simp; try with_reducible rfl)
  try simp only [Act.put, List.setIfInBounds_toArray, List.set_cons_zero, List.set_cons_succ]
  refine AnyX.take (i := 8) (oi := _) (v := ?_) (by rw [List.getElem?_toArray]; rfl) (by kernel_rfl) (by kernel_rfl) (by kernel_rfl) (by kernel_rfl) (by kernel_rfl) (by exact fun _ _ _ h => h) (Or.inl ⟨by rfl, ?_⟩) hS ?_
  rotate_left
  · (intro wS hSw; (try dsimp only at hSw); go_simp; try with_reducible rfl)
  try simp only [Act.put, List.setIfInBounds_toArray, List.set_cons_zero, List.set_cons_succ]
  refine AnyX.take (i := 9) (oi := _) (v := ?_) (by rw [List.getElem?_toArray]; rfl) (by kernel_rfl) (by kernel_rfl) (by kernel_rfl) (by kernel_rfl) (by kernel_rfl) (by exact fun _ _ _ h => h) (Or.inl ⟨by rfl, ?_⟩) hS ?_
  rotate_left
  · (intro wS hSw; (try dsimp only at hSw); go_simp; try with_reducible rfl)
  try simp only [Act.put, List.setIfInBounds_toArray, List.set_cons_zero, List.set_cons_succ]
  refine AnyX.take (i := 10) (oi := _) (v := ?_) (by rw [List.getElem?_toArray]; rfl) (by kernel_rfl) (by kernel_rfl) (by kernel_rfl) (by kernel_rfl) (by kernel_rfl) (by exact fun _ _ _ h => h) (Or.inl ⟨by rfl, ?_⟩) hS ?_
  rotate_left
  · (intro wS hSw; (try dsimp only at hSw); go_simp; rw [hw1.out]; try with_reducible rfl)
  try simp only [Act.put, List.setIfInBounds_toArray, List.set_cons_zero, List.set_cons_succ]
  refine AnyX.take (i := 11) (oi := _) (v := ?_) (by rw [List.getElem?_toArray]; rfl) (by kernel_rfl) (by kernel_rfl) (by kernel_rfl) (by kernel_rfl) (by kernel_rfl) (by exact fun _ _ _ h => h) (Or.inl ⟨by rfl, ?_⟩) hS ?_
  rotate_left
  · (intro wS hSw; (try dsimp only at hSw); go_simp; try with_reducible rfl)
  try simp only [Act.put, List.setIfInBounds_toArray, List.set_cons_zero, List.set_cons_succ]
  refine AnyX.take (i := 13) (oi := _) (v := ?_) (by rw [List.getElem?_toArray]; rfl) (by kernel_rfl) (by kernel_rfl) (by kernel_rfl) (by kernel_rfl) (by kernel_rfl) (by exact fun _ _ _ h => h) (Or.inl ⟨by rfl, ?_⟩) hS ?_
  rotate_left
  · (intro wS hSw; (try dsimp only at hSw); go_simp; try with_reducible rfl)
  try simp only [Act.put, List.setIfInBounds_toArray, List.set_cons_zero, List.set_cons_succ]
  refine AnyX.take (i := 14) (oi := _) (v := ?_) (by rw [List.getElem?_toArray]; rfl) (by kernel_rfl) (by kernel_rfl) (by kernel_rfl) (by kernel_rfl) (by kernel_rfl) (by exact fun _ _ _ h => h) (Or.inl ⟨by rfl, ?_⟩) hS ?_
  rotate_left
  · (intro wS hSw; (try dsimp only at hSw); go_simp; try with_reducible rfl)
  try simp only [Act.put, List.setIfInBounds_toArray, List.set_cons_zero, List.set_cons_succ]
  refine AnyX.only (i := 1) (o := _) (by kernel_rfl) (by rw [List.getElem?_toArray]; rfl) (fun K hK => ?_)
  go_simp
  have al : Below w3.heap.size w3 (w3.alloc (.cells #[] 9)) := by
    repeat refine Below.alloc ?_ (by simp <;> omega) _
    exact Below.refl _ _
  have n_RB := Row.made w3 9 []
  have hs_w4 : w3.heap.size < (w3.alloc (.cells #[] 9)).heap.size := by simp
  replace R0 := R0.below al
  replace RZ := RZ.below al
  replace A0 := A0.below al
  replace SP := SP.below (by decide) al
  replace SS := SS.below (by decide) al
  replace hB := tr hB al (Nat.le_refl _)
  generalize (w3.alloc (.cells #[] 9)) = w4 at *
  have RB := n_RB; clear n_RB
  clear al
  clear hS
  have hS : (fun w' => w'.cell? ⟨w.heap.size, 0, none⟩ = some (.slice a0_1 x0.queue.length c0_1) ∧ w'.cell? ⟨w.heap.size, 1, none⟩ = some (.string x0.fates) ∧ w'.cell? ⟨w.heap.size, 2, none⟩ = some (.int .i64 x0.used)) w4 := ⟨R0.cells 0, R0.cells 1, R0.cells 2⟩
  refine hK.out _ _ (fun _ => hS) ?_
  clear hK K
  try simp only [Act.put, List.setIfInBounds_toArray, List.set_cons_zero, List.set_cons_succ]
  refine AnyX.only (i := 6) (o := _) (by kernel_rfl) (by rw [List.getElem?_toArray]; rfl) (fun K hK => ?_)
  have oe := Ow.empty (E := EStr) (t := 9) RB
  obtain ⟨ao, cc, news, Fy, he, hl, hfy, hFy, hsrc⟩ := SP.src
  simp only [Value.slice.injEq] at he
  obtain ⟨rfl, -, rfl⟩ := he
  have hFl := hfy.lt
  refine step_apd one_EStr (by decide) (by rfl) _ _ _ (by rfl) 9 (.string ⟨#[]⟩) 16 Tryd.underlying22 info_string rfl (.slice (some ⟨w3.heap.size, 0, none⟩) 0 0) [] [w3.heap.size] (by rfl) oe (Hd.one _) a0_1 p c0_1 (by show Value.slice a0_1 k c0_1 = Value.slice a0_1 p.length c0_1; rw [hpl]) news Fy hfy hsrc (fun b hb e => ?_) ?_ ?_ ?_
  · have h1 := lP b (hFy b hb)
    simp [Value.ownBlock] at e; omega
  · unfold maxLen; simp only [List.length_nil]; omega
  · simp only [List.length_nil]; omega
  intro v3 w5 F3 hA
  have o3 := hA.ow
  have hd_o3 := hA.hd
  obtain ⟨a3, c3, rfl⟩ := o3.slice
  have hF_o3 : ∀ b ∈ F3, w.heap.size + 1 < b := fun b hb => by
    rw [o3.scal scal_EStr] at hb
    rcases hA.same with e | e <;> rw [e] at hb <;> simp [Value.ownBlock] at hb
    all_goals omega
  have K := hA.keep
  have hs_w5 := K.size
  clear hA hsrc hfy hFl hl
  have hkb := K.below (B := w.heap.size) (by omega) (fun b hm => by simp at hm; omega)
  replace R0 := R0.keepK K (fun hm => by simp at hm; omega)
  replace RZ := RZ.keepK K (fun hm => by simp at hm; omega)
  clear RB
  replace SP := SP.keep K (fun b hb hm => by have h1 := lP b hb; simp at hm; omega)
  replace SS := SS.keep K (fun b hb hm => by have h1 := lS b hb; simp at hm; omega)
  replace A0 := A0.keep K (fun b hb hm => by have h1 := lA0 b hb; simp at hm; omega)
  replace hB := hB.trans hkb
  clear hkb K
  clear oe SP
  rw [List.nil_append] at o3
  clear hS
  have hS : (fun w' => w'.cell? ⟨w.heap.size, 0, none⟩ = some (.slice a0_1 x0.queue.length c0_1) ∧ w'.cell? ⟨w.heap.size, 1, none⟩ = some (.string x0.fates) ∧ w'.cell? ⟨w.heap.size, 2, none⟩ = some (.int .i64 x0.used)) w5 := ⟨R0.cells 0, R0.cells 1, R0.cells 2⟩
  refine hK.out _ _ (fun _ => hS) ?_
  clear hK K
  try simp only [Act.put, List.setIfInBounds_toArray, List.set_cons_zero, List.set_cons_succ]
  refine AnyX.only (i := 12) (o := _) (by kernel_rfl) (by rw [List.getElem?_toArray]; rfl) (fun K hK => ?_)
  obtain ⟨ao, cc, news, Fy, he, hl, hfy, hFy, hsrc⟩ := SS.src
  simp only [Value.slice.injEq] at he
  obtain ⟨rfl, -, rfl⟩ := he
  have hFl := hfy.lt
  refine step_apd one_EStr (by decide) (by rfl) _ _ _ (by rfl) 9 (.string ⟨#[]⟩) 16 Tryd.underlying22 info_string rfl (.slice a3 p.length c3) p F3 (by rfl) o3 hd_o3 a2 s c2 (by show Value.slice a2 _ c2 = Value.slice a2 s.length c2; rw [hsl]) news Fy hfy hsrc (fun b hb e => ?_) ?_ ?_ ?_
  · have h1 := lS b (hFy b hb)
    have h2 := hF_o3 b (o3.own_mem b e); omega
  · unfold maxLen; omega
  · omega
  intro v3 w6 F4 hA
  have o4 := hA.ow
  have hd_o4 := hA.hd
  obtain ⟨a4, c4, rfl⟩ := o4.slice
  have hF_o4 : ∀ b ∈ F4, w.heap.size + 1 < b := fun b hb => by
    rw [o4.scal scal_EStr] at hb
    rcases hA.same with e | e
    · rw [e] at hb; exact hF_o3 b (o3.own_mem b (by simpa using hb))
    · rw [e] at hb; simp at hb; omega
  have K := hA.keep
  have hs_w6 := K.size
  clear hA hsrc hfy hFl hl
  have hkb := K.below (B := w.heap.size) (by omega) (fun b hm => by have := hF_o3 _ hm; omega)
  replace R0 := R0.keepK K (fun hm => by have := hF_o3 _ hm; omega)
  replace RZ := RZ.keepK K (fun hm => by have := hF_o3 _ hm; omega)
  replace SS := SS.keep K (fun b hb hm => by have h1 := lS b hb; have := hF_o3 _ hm; omega)
  replace A0 := A0.keep K (fun b hb hm => by have h1 := lA0 b hb; have := hF_o3 _ hm; omega)
  replace hB := hB.trans hkb
  clear hkb K
  clear o3 SS
  obtain ⟨q, hq⟩ : ∃ q, q = p ++ s := ⟨_, rfl⟩
  rw [← hq] at o4
  clear hS
  have hS : (fun w' => w'.cell? ⟨w.heap.size, 0, none⟩ = some (.slice a0_1 x0.queue.length c0_1) ∧ w'.cell? ⟨w.heap.size, 1, none⟩ = some (.string x0.fates) ∧ w'.cell? ⟨w.heap.size, 2, none⟩ = some (.int .i64 x0.used)) w6 := ⟨R0.cells 0, R0.cells 1, R0.cells 2⟩
  refine hK.out _ _ (fun _ => hS) ?_
  clear hK K
  try simp only [Act.put, List.setIfInBounds_toArray, List.set_cons_zero, List.set_cons_succ]
  refine AnyX.only (i := 15) (o := _) (by kernel_rfl) (by rw [List.getElem?_toArray]; rfl) (fun K hK => ?_)
  go_simp
  go_at_call 64
  try rw [← hq]
  refine (l7With_c _ x0 F0 a4 _ c4 x0.used _ A0).mono ?_
  rintro e w7 ⟨rfl, hb⟩
  have hs_w7 := hb.size
  replace R0 := R0.below hb
  replace RZ := RZ.below hb
  replace A0 := A0.below hb
  replace o4 := o4.below hb
  replace hB := tr hB hb (Nat.le_refl _)
  clear hb
  clear hS
  have hS : (fun w' => w'.cell? ⟨w.heap.size, 0, none⟩ = some (.slice a0_1 x0.queue.length c0_1) ∧ w'.cell? ⟨w.heap.size, 1, none⟩ = some (.string x0.fates) ∧ w'.cell? ⟨w.heap.size, 2, none⟩ = some (.int .i64 x0.used)) w7 := ⟨R0.cells 0, R0.cells 1, R0.cells 2⟩
  refine hK.out _ _ (fun _ => hS) ?_
  clear hK K
  try simp only [Act.put, List.setIfInBounds_toArray, List.set_cons_zero, List.set_cons_succ]
  refine AnyX.only (i := 16) (o := _) (by kernel_rfl) (by rw [List.getElem?_toArray]; rfl) (fun K hK => ?_)
  have c_R0 := R0.cells; have f_R0 := R0.frozens
  have c_RZ := RZ.cells; have f_RZ := RZ.frozens
  go_simp
  clear c_R0 f_R0 c_RZ f_RZ
  refine hK.out _ _ (fun h => by cases h) ?_
  clear hK K
  try simp only [Act.put, List.setIfInBounds_toArray, List.set_cons_zero, List.set_cons_succ]
  refine AnyX.only (i := 17) (o := _) (by kernel_rfl) (by rw [List.getElem?_toArray]; rfl) (fun K hK => ?_)
  have c_R0 := R0.cells; have f_R0 := R0.frozens
  have c_RZ := RZ.cells; have f_RZ := RZ.frozens
  go_simp
  clear c_R0 f_R0 c_RZ f_RZ
  refine hK.out _ _ (fun h => by cases h) ?_
  clear hK K
  try simp only [Act.put, List.setIfInBounds_toArray, List.set_cons_zero, List.set_cons_succ]
  refine AnyX.done (by kernel_rfl) ?_ _
  (try clear hS)
  refine hK0 _ _ ?_
  clear hK0 K0
  obtain ⟨F5, hF5, s5⟩ := o4.sl (Weak.refl _)
  have hql : q.length = k + (x0.queue.length - (k + 1)) := by rw [hq, List.length_append, hpl, hsl]
  rw [hql] at s5
  have hr2 := hr.out
  rw [← hq] at hr2
  replace hr := Lib.hid hr2
  clear hr2 o4 A0
  have n_R0 := R0.keep (show (((w7.setCell ⟨w.heap.size + 1, 0, none⟩ (.slice a4 (k + (x0.queue.length - (k + 1))) c4)).setCell ⟨w.heap.size + 1, 1, none⟩ (.string x0.fates)).setCell ⟨w.heap.size + 1, 2, none⟩ (.int .i64 x0.used)).heap[_]? = _ from by repeat rw [Below.heap_setCell _ _ _ _ (by simp <;> omega)])
  have n_RZ : Row (((w7.setCell ⟨w.heap.size + 1, 0, none⟩ (.slice a4 (k + (x0.queue.length - (k + 1))) c4)).setCell ⟨w.heap.size + 1, 1, none⟩ (.string x0.fates)).setCell ⟨w.heap.size + 1, 2, none⟩ (.int .i64 x0.used)) (w.heap.size + 1) 26 [.slice a4 (k + (x0.queue.length - (k + 1))) c4, .string x0.fates, .int .i64 x0.used] := by simpa using (((RZ.set 0 (.slice a4 (k + (x0.queue.length - (k + 1))) c4)).set 1 (.string x0.fates)).set 2 (.int .i64 x0.used))
  have n_s5 := s5.frame (w' := (((w7.setCell ⟨w.heap.size + 1, 0, none⟩ (.slice a4 (k + (x0.queue.length - (k + 1))) c4)).setCell ⟨w.heap.size + 1, 1, none⟩ (.string x0.fates)).setCell ⟨w.heap.size + 1, 2, none⟩ (.int .i64 x0.used))) fun b hb => by
    have h6 := hF_o4 b (hF5 b hb)
    repeat rw [Below.heap_setCell _ _ _ _ (by simp <;> omega)]
  have n_hB : Below w.heap.size w (((w7.setCell ⟨w.heap.size + 1, 0, none⟩ (.slice a4 (k + (x0.queue.length - (k + 1))) c4)).setCell ⟨w.heap.size + 1, 1, none⟩ (.string x0.fates)).setCell ⟨w.heap.size + 1, 2, none⟩ (.int .i64 x0.used)) := by
    repeat refine Below.setCell ?_ (by simp <;> omega) _
    exact hB
  clear hB R0 RZ s5
  have hs_w8 : w7.heap.size ≤ (((w7.setCell ⟨w.heap.size + 1, 0, none⟩ (.slice a4 (k + (x0.queue.length - (k + 1))) c4)).setCell ⟨w.heap.size + 1, 1, none⟩ (.string x0.fates)).setCell ⟨w.heap.size + 1, 2, none⟩ (.int .i64 x0.used)).heap.size := by simp
  generalize (((w7.setCell ⟨w.heap.size + 1, 0, none⟩ (.slice a4 (k + (x0.queue.length - (k + 1))) c4)).setCell ⟨w.heap.size + 1, 1, none⟩ (.string x0.fates)).setCell ⟨w.heap.size + 1, 2, none⟩ (.int .i64 x0.used)) = w8 at *
  have hB := n_hB; clear n_hB
  have R0 := n_R0; clear n_R0
  have RZ := n_RZ; clear n_RZ
  have s5 := n_s5; clear n_s5
  replace s5 := Lib.hid s5
  clear hpl hsl hql
  have c_R0 := R0.cells; have f_R0 := R0.frozens
  have c_RZ := RZ.cells; have f_RZ := RZ.frozens
  go_wp2_with fail
  refine bodyPost_ret (v := .tuple #[.agg #[.slice a4 (k + (x0.queue.length - (k + 1))) c4, .string x0.fates, .int .i64 x0.used], .bool true]) ?_ rfl ?_
  · simp [results, Tryd.results14, go_sem, c_RZ, f_RZ]
  · rw [hr.out]
    refine ⟨_, F5, rfl, ⟨_, rfl, _, rfl, s0_1, ?_⟩, ?_⟩
    · exact s5.out
    · exact hB
set_option maxHeartbeats 3200000 in
set_option maxRecDepth 100000 in
theorem DropFrom_c (v0 : Value) (x0 : Link) (F0 : List Nat) (x1 : Int) (w : World) (h0 : IsV ELink w v0 x0 F0) :
    Calls Tryd.prog 16 #[v0, .int .i64 x1] w (PI_DropFrom (resDropFrom x0 x1) w) := by
  have A0 := h0
  have lA0 := h0.lt
  obtain ⟨_, rfl, v0_1, rfl, s0_1, h0_1⟩ := h0
  obtain ⟨a0_1, c0_1, rfl⟩ := h0_1.slice
  clear h0_1
  go_enter Tryd.func16, Tryd.ntmps16
  go_wp2_with fail
  have al : Below w.heap.size w ((w.alloc (.cells #[.slice a0_1 x0.queue.length c0_1, .string x0.fates, .int .i64 x0.used] 26)).alloc (.cells #[.slice none 0 0, .string ⟨#[]⟩, .int .i64 0] 26)) := by
    repeat refine Below.alloc ?_ (by simp <;> omega) _
    exact Below.refl _ _
  have n_R0 : Row ((w.alloc (.cells #[.slice a0_1 x0.queue.length c0_1, .string x0.fates, .int .i64 x0.used] 26)).alloc (.cells #[.slice none 0 0, .string ⟨#[]⟩, .int .i64 0] 26)) (w.heap.size) 26 [.slice a0_1 x0.queue.length c0_1, .string x0.fates, .int .i64 x0.used] := by simp [row_alloc] <;> omega
  have n_RZ : Row ((w.alloc (.cells #[.slice a0_1 x0.queue.length c0_1, .string x0.fates, .int .i64 x0.used] 26)).alloc (.cells #[.slice none 0 0, .string ⟨#[]⟩, .int .i64 0] 26)) (w.heap.size + 1) 26 [.slice none 0 0, .string ⟨#[]⟩, .int .i64 0] := by simp [row_alloc] <;> omega
  have hs_w1 : w.heap.size + 1 < ((w.alloc (.cells #[.slice a0_1 x0.queue.length c0_1, .string x0.fates, .int .i64 x0.used] 26)).alloc (.cells #[.slice none 0 0, .string ⟨#[]⟩, .int .i64 0] 26)).heap.size := by simp <;> omega
  replace A0 := A0.below al
  have hB := al
  generalize ((w.alloc (.cells #[.slice a0_1 x0.queue.length c0_1, .string x0.fates, .int .i64 x0.used] 26)).alloc (.cells #[.slice none 0 0, .string ⟨#[]⟩, .int .i64 0] 26)) = w1 at *
  have R0 := n_R0; clear n_R0
  have RZ := n_RZ; clear n_RZ
  clear al
  refine (IsValidLink_c _ x0 F0 _ A0).mono ?_
  rintro e w2 ⟨rfl, hb⟩
  have hs_w2 := hb.size
  replace R0 := R0.below hb
  replace RZ := RZ.below hb
  replace A0 := A0.below hb
  replace hB := tr hB hb (Nat.le_refl _)
  clear hb
  cases g1 : goodLink x0
  · have hr : resDropFrom x0 x1 = (⟨[], ⟨#[]⟩, 0⟩, false) := by unfold resDropFrom okDropFrom; rw [g1]; simp
    replace hr := Lib.hid hr
    have c_R0 := R0.cells; have f_R0 := R0.frozens
    have c_RZ := RZ.cells; have f_RZ := RZ.frozens
    go_wp2_with fail
    refine bodyPost_ret (v := .tuple #[.agg #[.slice none 0 0, .string ⟨#[]⟩, .int .i64 0], .bool false]) ?_ rfl ?_
    · simp [results, Tryd.results16, go_sem, c_RZ, f_RZ]
    · rw [hr.out]
      refine ⟨_, [], rfl, ⟨_, rfl, _, rfl, by decide, .inl ⟨rfl, rfl, rfl⟩⟩, by simp, by simp, ?_⟩
      repeat refine Below.setCell ?_ (by simp <;> omega) _
      exact hB
  have gg := goodLink_iff.1 g1
  obtain ⟨⟨⟨⟨hq8, -⟩, -⟩, -⟩, -, -⟩ := gg
  have c_R0 := R0.cells; have f_R0 := R0.frozens
  have c_RZ := RZ.cells; have f_RZ := RZ.frozens
  go_wp2_with fail
  clear c_R0 f_R0 c_RZ f_RZ
  refine (within_c _ _ _ _).mono ?_
  rintro e w' ⟨rfl, rfl⟩
  cases g2 : btw 0 x1 (x0.queue.length - 1)
  · have hr : resDropFrom x0 x1 = (⟨[], ⟨#[]⟩, 0⟩, false) := by unfold resDropFrom okDropFrom; rw [g1, g2]; simp
    replace hr := Lib.hid hr
    have c_R0 := R0.cells; have f_R0 := R0.frozens
    have c_RZ := RZ.cells; have f_RZ := RZ.frozens
    go_wp2_with fail
    refine bodyPost_ret (v := .tuple #[.agg #[.slice none 0 0, .string ⟨#[]⟩, .int .i64 0], .bool false]) ?_ rfl ?_
    · simp [results, Tryd.results16, go_sem, c_RZ, f_RZ]
    · rw [hr.out]
      refine ⟨_, [], rfl, ⟨_, rfl, _, rfl, by decide, .inl ⟨rfl, rfl, rfl⟩⟩, by simp, by simp, ?_⟩
      repeat refine Below.setCell ?_ (by simp <;> omega) _
      exact hB
  have gn : 0 ≤ x1 ∧ x1 ≤ x0.queue.length - 1 := by unfold btw at g2; simpa using g2
  obtain ⟨k, rfl⟩ : ∃ k : Nat, x1 = k := ⟨x1.toNat, by omega⟩
  have hk : k < x0.queue.length := by omega
  clear gn
  obtain ⟨p, hp⟩ : ∃ p, p = x0.queue.take k := ⟨_, rfl⟩
  obtain ⟨s, hs⟩ : ∃ s, s = x0.queue.drop (k + 1) := ⟨_, rfl⟩
  have hr : resDropFrom x0 k = (⟨p ++ s, x0.fates, x0.used⟩, true) := by
    unfold resDropFrom okDropFrom
    rw [g1, g2, hp, hs]; rfl
  have hpl : p.length = k := by rw [hp]; simp; omega
  have hsl : s.length = x0.queue.length - (k + 1) := by rw [hs]; simp
  replace hr := Lib.hid hr
  clear g2
  have c_R0 := R0.cells; have f_R0 := R0.frozens
  have c_RZ := RZ.cells; have f_RZ := RZ.frozens
  go_wp2_with fail
  clear c_R0 f_R0 c_RZ f_RZ
  refine (Link_clone_c _ x0 F0 _ A0 (by omega)).mono ?_
  rintro e w3 ⟨_, F3, rfl, ⟨_, rfl, v3, rfl, s3, o3⟩, n3, g3, hb⟩
  have hs_w3 := hb.size
  replace R0 := R0.below hb
  replace RZ := RZ.below hb
  replace A0 := A0.below hb
  replace hB := tr hB hb (Nat.le_refl _)
  clear hb
  obtain ⟨a3, c3, rfl⟩ := o3.slice
  have l3 := o3.lt
  have c_R0 := R0.cells; have f_R0 := R0.frozens; have d_R0 := fun o => (R0.alloc o).cells; have e_R0 := fun o => (R0.alloc o).frozens
  have c_RZ := RZ.cells; have f_RZ := RZ.frozens; have d_RZ := fun o => (RZ.alloc o).cells; have e_RZ := fun o => (RZ.alloc o).frozens
  go_wp2_with fail
  clear c_R0 f_R0 d_R0 e_R0 c_RZ f_RZ d_RZ e_RZ
  have al : Below w3.heap.size w3 (w3.alloc (.cells #[.slice a3 x0.queue.length c3, .string x0.fates, .int .i64 x0.used] 26)) := by
    repeat refine Below.alloc ?_ (by simp <;> omega) _
    exact Below.refl _ _
  have n_RO := Row.made w3 26 [.slice a3 x0.queue.length c3, .string x0.fates, .int .i64 x0.used]
  have hs_w4 : w3.heap.size < (w3.alloc (.cells #[.slice a3 x0.queue.length c3, .string x0.fates, .int .i64 x0.used] 26)).heap.size := by simp
  replace R0 := R0.below al
  replace RZ := RZ.below al
  replace A0 := A0.below al
  replace o3 := o3.below al
  replace hB := tr hB al (Nat.le_refl _)
  generalize (w3.alloc (.cells #[.slice a3 x0.queue.length c3, .string x0.fates, .int .i64 x0.used] 26)) = w4 at *
  have RO := n_RO; clear n_RO
  clear al
  have c_R0 := R0.cells; have f_R0 := R0.frozens
  have c_RZ := RZ.cells; have f_RZ := RZ.frozens
  have c_RO := RO.cells; have f_RO := RO.frozens
  go_wp2_with fail
  clear c_R0 f_R0 c_RZ f_RZ c_RO f_RO
  clear s3
  refine (Delete_String _ _ _ x0.queue F3 k (k + 1) _ o3 (by omega) (by omega) (by omega)).mono ?_
  rintro e w5 ⟨rfl, o5, K⟩
  have hs5 := K.size
  clear o3
  clear R0
  replace RZ := RZ.keepK K (fun hm => by have h1 := g3 _ hm; have h2 := l3 _ hm; omega)
  replace RO := RO.keepK K (fun hm => by have h1 := g3 _ hm; have h2 := l3 _ hm; omega)
  clear A0
  replace hB := hB.trans (K.below (B := w.heap.size) (by omega) (fun b hm => by have h1 := g3 _ hm; have h2 := l3 _ hm; omega))
  clear K
  rw [← hp, ← hs, show k + 1 - k = 1 from by omega] at o5
  replace o5 := Lib.hid o5
  have c_RZ := RZ.cells; have f_RZ := RZ.frozens
  have c_RO := RO.cells; have f_RO := RO.frozens
  go_wp2_with fail
  refine bodyPost_ret (v := .tuple #[.agg #[.slice a3 (x0.queue.length - 1) c3, .string x0.fates, .int .i64 x0.used], .bool true]) ?_ rfl ?_
  · simp [results, Tryd.results16, go_sem, c_RZ, f_RZ, c_RO, f_RO]
  · rw [hr.out]
    refine ⟨_, F3, rfl, ⟨_, rfl, _, rfl, s0_1, ?_⟩, n3, fun b hb => by have := g3 b hb; omega, ?_⟩
    · repeat refine Ow.setFar ?_ (fun hm => by have h1 := g3 _ hm; have h2 := l3 _ hm; dsimp only at h1 h2; omega) _
      exact o5.out
    · repeat refine Below.setCell ?_ (by simp <;> omega) _
      exact hB
end Go.Proofs.YtnbccfnnamgfiaaDoor
