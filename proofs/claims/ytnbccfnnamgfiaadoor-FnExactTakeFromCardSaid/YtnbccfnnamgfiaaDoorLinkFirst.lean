/- Walks: TakeFrom, the program's and the reference's. -/
import Derived.Test.YtnbccfnnamgfiaaDoorLinkTake
import Derived.Test.YtnbccfnnamgfiaaDoorFr
namespace Go.Proofs.YtnbccfnnamgfiaaDoor
open Go.RowKit
def okTakeFrom (x : Link) : Bool := goodLink x && decide (0 < x.queue.length)
def resTakeFrom (x : Link) : Link × ByteArray × Bool := if okTakeFrom x then (⟨x.queue.drop 1, x.fates, x.used⟩, x.queue.headD ⟨#[]⟩, true) else (⟨[], ⟨#[]⟩, 0⟩, ⟨#[]⟩, false)
def PS_TakeFrom : Link × ByteArray × Bool → World → Ending → World → Prop := fun (r0, r1, r2) w e w' => ∃ u0 G0, e = .returned (.tuple #[u0, .string r1, .bool r2]) ∧ IsV ELink w' u0 r0 G0 ∧ Below w.heap.size w w'
def PI_TakeFrom : Link × ByteArray × Bool → World → Ending → World → Prop := fun (r0, r1, r2) w e w' => ∃ u0 G0, e = .returned (.tuple #[u0, .string r1, .bool r2]) ∧ IsV OLink w' u0 r0 G0 ∧ (G0).Nodup ∧ (∀ b ∈ G0, w.heap.size ≤ b) ∧ Below w.heap.size w w'
theorem first_text {w : World} {a : Option Addr} {n c : Nat} {f : ByteArray} {u : Int} {x : Link} {F : List Nat} (h : IsV ELink w (.agg #[.slice a n c, .string f, .int .i64 u]) x F) {q : ByteArray} (hq : x.queue[0]? = some q) :
    q.size ≤ maxLen ∧ ∃ b off, a = some ⟨b, off, none⟩ ∧ w.cell? ⟨b, off, none⟩ = some (.string q) := by
  obtain ⟨_, e1, v1, rfl, -, h1⟩ := h
  simp at e1
  obtain ⟨rfl, -⟩ := e1
  obtain ⟨h0, rfl⟩ := List.getElem?_eq_some_iff.1 hq
  obtain ⟨hs, b, off, e, hc⟩ := h1.str.2.2 0 h0
  exact ⟨hs, b, off, e, by simpa using hc⟩
theorem first_cell {w : World} {b off n c : Nat} {f : ByteArray} {u : Int} {x : Link} {F : List Nat} (h : IsV ELink w (.agg #[.slice (some ⟨b, off, none⟩) n c, .string f, .int .i64 u]) x F) {q : ByteArray} (hq : x.queue[0]? = some q) :
    w.cell? ⟨b, off, none⟩ = some (.string q) := by
  obtain ⟨-, b', off', e, hc⟩ := first_text h hq
  cases e; exact hc
set_option maxHeartbeats 3200000 in
set_option maxRecDepth 100000 in
theorem specTakeFrom_c (v0 : Value) (x0 : Link) (F0 : List Nat) (w : World) (h0 : IsV ELink w v0 x0 F0) :
    Calls Tryd.prog 20 #[v0] w (PS_TakeFrom (resTakeFrom x0) w) := by
  have A0 := h0
  have lA0 := h0.lt
  obtain ⟨_, rfl, v0_1, rfl, s0_1, h0_1⟩ := h0
  obtain ⟨a0_1, c0_1, rfl⟩ := h0_1.slice
  clear h0_1
  go_enter Tryd.func20, Tryd.ntmps20
  go_wp2_with fail
  have al : Below w.heap.size w ((w.alloc (.cells #[.slice a0_1 x0.queue.length c0_1, .string x0.fates, .int .i64 x0.used] 26)).alloc (.cells #[.slice none 0 0, .string ⟨#[]⟩, .int .i64 0] 26)) := by
    repeat refine Below.alloc ?_ (by simp <;> omega) _
    exact Below.refl _ _
  have n_R0 : Row ((w.alloc (.cells #[.slice a0_1 x0.queue.length c0_1, .string x0.fates, .int .i64 x0.used] 26)).alloc (.cells #[.slice none 0 0, .string ⟨#[]⟩, .int .i64 0] 26)) (w.heap.size) 26 [.slice a0_1 x0.queue.length c0_1, .string x0.fates, .int .i64 x0.used] := by simp [row_alloc] <;> omega
  have n_RZ : Row ((w.alloc (.cells #[.slice a0_1 x0.queue.length c0_1, .string x0.fates, .int .i64 x0.used] 26)).alloc (.cells #[.slice none 0 0, .string ⟨#[]⟩, .int .i64 0] 26)) (w.heap.size + 1) 26 [.slice none 0 0, .string ⟨#[]⟩, .int .i64 0] := by simp [row_alloc] <;> omega
  have hs_w1 : w.heap.size + 1 < ((w.alloc (.cells #[.slice a0_1 x0.queue.length c0_1, .string x0.fates, .int .i64 x0.used] 26)).alloc (.cells #[.slice none 0 0, .string ⟨#[]⟩, .int .i64 0] 26)).heap.size := by simp <;> omega
  replace A0 := A0.below al
  have hB := al
  generalize ((w.alloc (.cells #[.slice a0_1 x0.queue.length c0_1, .string x0.fates, .int .i64 x0.used] 26)).alloc (.cells #[.slice none 0 0, .string ⟨#[]⟩, .int .i64 0] 26)) = w1 at *
  have R0 := n_R0; clear n_R0
  have RZ := n_RZ; clear n_RZ
  clear al
  refine (l7Good_c _ x0 F0 _ A0).mono ?_
  rintro e w2 ⟨rfl, hb⟩
  have hs_w2 := hb.size
  replace R0 := R0.below hb
  replace RZ := RZ.below hb
  replace A0 := A0.below hb
  replace hB := tr hB hb (Nat.le_refl _)
  clear hb
  cases g1 : goodLink x0
  · have hr : resTakeFrom x0 = (⟨[], ⟨#[]⟩, 0⟩, ⟨#[]⟩, false) := by unfold resTakeFrom okTakeFrom; rw [g1]; simp
    replace hr := Lib.hid hr
    have c_R0 := R0.cells; have f_R0 := R0.frozens
    have c_RZ := RZ.cells; have f_RZ := RZ.frozens
    go_wp2_with fail
    refine bodyPost_ret (v := .tuple #[.agg #[.slice none 0 0, .string ⟨#[]⟩, .int .i64 0], .string ⟨#[]⟩, .bool false]) ?_ rfl ?_
    · simp [results, Tryd.results20, go_sem, c_RZ, f_RZ]
    · rw [hr.out]
      refine ⟨_, [], rfl, ⟨_, rfl, _, rfl, by decide, none, 0, rfl, by simp, .inl ⟨rfl, rfl, fun _ => rfl⟩⟩, ?_⟩
      repeat refine Below.setCell ?_ (by simp <;> omega) _
      exact hB
  have gg := goodLink_iff.1 g1
  obtain ⟨⟨⟨⟨hq8, -⟩, -⟩, -⟩, -, -⟩ := gg
  by_cases g2 : x0.queue = []
  · have hr : resTakeFrom x0 = (⟨[], ⟨#[]⟩, 0⟩, ⟨#[]⟩, false) := by unfold resTakeFrom okTakeFrom; rw [g2]; simp
    replace hr := Lib.hid hr
    have c_R0 := R0.cells; have f_R0 := R0.frozens
    have c_RZ := RZ.cells; have f_RZ := RZ.frozens
    go_wp2_with fail
    refine bodyPost_ret (v := .tuple #[.agg #[.slice none 0 0, .string ⟨#[]⟩, .int .i64 0], .string ⟨#[]⟩, .bool false]) ?_ rfl ?_
    · simp [results, Tryd.results20, go_sem, c_RZ, f_RZ]
    · rw [hr.out]
      refine ⟨_, [], rfl, ⟨_, rfl, _, rfl, by decide, none, 0, rfl, by simp, .inl ⟨rfl, rfl, fun _ => rfl⟩⟩, ?_⟩
      repeat refine Below.setCell ?_ (by simp <;> omega) _
      exact hB
  have hk : 0 < x0.queue.length := List.length_pos_iff.2 g2
  have g3 : ¬ (x0.queue.length : Int) = 0 := by omega
  obtain ⟨q0, hq0⟩ : ∃ q0, x0.queue[0]? = some q0 := ⟨_, List.getElem?_eq_getElem hk⟩
  obtain ⟨hq0s, b, off, rfl, -⟩ := first_text A0 hq0
  obtain ⟨s, hs⟩ : ∃ s, s = x0.queue.drop 1 := ⟨_, rfl⟩
  have hr : resTakeFrom x0 = (⟨s, x0.fates, x0.used⟩, q0, true) := by
    have h1 : x0.queue.headD ⟨#[]⟩ = q0 := by
      cases hq : x0.queue with
      | nil => rw [hq] at hk; simp at hk
      | cons y r => rw [hq] at hq0; simp at hq0; simp [hq0]
    unfold resTakeFrom okTakeFrom
    rw [g1, decide_eq_true hk, h1, hs]; rfl
  have hsl : s.length = x0.queue.length - 1 := by rw [hs]; simp
  replace hr := Lib.hid hr
  replace hq0 := Lib.hid hq0
  have hs4 : ∀ W, (sizeOf (Tryd.prog.elem 22)).run Tryd.prog W = .ok 1 W := fun W => by kernel_rfl
  have S0 : Sl EStr w2 (.slice (some ⟨b, off, none⟩) x0.queue.length c0_1) x0.queue F0 := by
    obtain ⟨_, e1, v1, rfl, -, h1⟩ := A0
    simp at e1
    obtain ⟨rfl, -⟩ := e1
    exact h1
  obtain ⟨a2, c2, FS, hSW, hFS, SS⟩ := S0.dropS 22 (by kernel_rfl) 1 (by omega) hs4
  rw [← hs] at SS
  clear S0
  rw [show ((1 : Nat) : Int) = 1 from rfl] at hSW
  have lS : ∀ b ∈ FS, b < w.heap.size := fun b hb => lA0 b (hFS b hb)
  clear hFS hs
  have c_R0 := R0.cells; have f_R0 := R0.frozens
  have c_RZ := RZ.cells; have f_RZ := RZ.frozens
  go_wp2_with fail
  clear c_R0 f_R0 c_RZ f_RZ
  rename_i K0 hK0
  refine AnyX.start (S := (fun w' => w'.cell? ⟨w.heap.size, 0, none⟩ = some (.slice (some ⟨b, off, none⟩) x0.queue.length c0_1) ∧ w'.cell? ⟨w.heap.size, 1, none⟩ = some (.string x0.fates) ∧ w'.cell? ⟨w.heap.size, 2, none⟩ = some (.int .i64 x0.used) ∧ w'.cell? ⟨b, off, none⟩ = some (.string q0))) (X := (fun _ => false)) (by kernel_rfl) ?_
  have al : Below w2.heap.size w2 w2.drew := belowDrewN (Below.refl _ _) 1
  have hs_w3 := al.size
  replace R0 := R0.below al
  replace RZ := RZ.below al
  replace A0 := A0.below al
  replace SS := SS.below (by decide) al
  replace hB := tr hB al (Nat.le_refl _)
  generalize w2.drew = w3 at *
  clear al
  have hS : (fun w' => w'.cell? ⟨w.heap.size, 0, none⟩ = some (.slice (some ⟨b, off, none⟩) x0.queue.length c0_1) ∧ w'.cell? ⟨w.heap.size, 1, none⟩ = some (.string x0.fates) ∧ w'.cell? ⟨w.heap.size, 2, none⟩ = some (.int .i64 x0.used) ∧ w'.cell? ⟨b, off, none⟩ = some (.string q0)) w3 := ⟨R0.cells 0, R0.cells 1, R0.cells 2, first_cell A0 hq0.out⟩
  refine AnyX.take (i := 0) (oi := _) (v := ?_) (by rw [List.getElem?_toArray]; rfl) (by kernel_rfl) (by kernel_rfl) (by kernel_rfl) (by kernel_rfl) (by kernel_rfl) (by exact fun _ _ _ h => h) (Or.inl ⟨by rfl, ?_⟩) hS ?_
  rotate_left
  · (intro wS hSw; (try dsimp only at hSw); go_simp; try with_reducible rfl)
  try simp only [Act.put, List.setIfInBounds_toArray, List.set_cons_zero, List.set_cons_succ]
  refine AnyX.take (i := 2) (oi := _) (v := ?_) (by rw [List.getElem?_toArray]; rfl) (by kernel_rfl) (by kernel_rfl) (by kernel_rfl) (by kernel_rfl) (by kernel_rfl) (by exact fun _ _ _ h => h) (Or.inl ⟨by rfl, ?_⟩) hS ?_
  rotate_left
  · (intro wS hSw; (try dsimp only at hSw); go_simp; try with_reducible rfl)
  try simp only [Act.put, List.setIfInBounds_toArray, List.set_cons_zero, List.set_cons_succ]
  refine AnyX.take (i := 3) (oi := _) (v := ?_) (by rw [List.getElem?_toArray]; rfl) (by kernel_rfl) (by kernel_rfl) (by kernel_rfl) (by kernel_rfl) (by kernel_rfl) (by exact fun _ _ _ h => h) (Or.inl ⟨by rfl, ?_⟩) hS ?_
  rotate_left
  · (intro wS hSw; (try dsimp only at hSw); go_simp; try with_reducible rfl)
  try simp only [Act.put, List.setIfInBounds_toArray, List.set_cons_zero, List.set_cons_succ]
  refine AnyX.take (i := 4) (oi := _) (v := ?_) (by rw [List.getElem?_toArray]; rfl) (by kernel_rfl) (by kernel_rfl) (by kernel_rfl) (by kernel_rfl) (by kernel_rfl) (by exact fun _ _ _ h => h) (Or.inl ⟨by rfl, ?_⟩) hS ?_
  rotate_left
  · (intro wS hSw; (try dsimp only at hSw); go_simp; try with_reducible rfl)
  try simp only [Act.put, List.setIfInBounds_toArray, List.set_cons_zero, List.set_cons_succ]
  refine AnyX.take (i := 6) (oi := _) (v := ?_) (by rw [List.getElem?_toArray]; rfl) (by kernel_rfl) (by kernel_rfl) (by kernel_rfl) (by kernel_rfl) (by kernel_rfl) (by exact fun _ _ _ h => h) (Or.inl ⟨by rfl, ?_⟩) hS ?_
  rotate_left
  · (intro wS hSw; (try dsimp only at hSw); go_simp; try with_reducible rfl)
  try simp only [Act.put, List.setIfInBounds_toArray, List.set_cons_zero, List.set_cons_succ]
  refine AnyX.take (i := 7) (oi := _) (v := ?_) (by rw [List.getElem?_toArray]; rfl) (by kernel_rfl) (by kernel_rfl) (by kernel_rfl) (by kernel_rfl) (by kernel_rfl) (by exact fun _ _ _ h => h) (Or.inl ⟨by rfl, ?_⟩) hS ?_
  rotate_left
  · (intro wS hSw; (try dsimp only at hSw); go_simp; try with_reducible rfl)
  try simp only [Act.put, List.setIfInBounds_toArray, List.set_cons_zero, List.set_cons_succ]
  refine AnyX.take (i := 9) (oi := _) (v := ?_) (by rw [List.getElem?_toArray]; rfl) (by kernel_rfl) (by kernel_rfl) (by kernel_rfl) (by kernel_rfl) (by kernel_rfl) (by exact fun _ _ _ h => h) (Or.inl ⟨by rfl, ?_⟩) hS ?_
  rotate_left
  · (intro wS hSw; (try dsimp only at hSw); go_simp; try with_reducible rfl)
  try simp only [Act.put, List.setIfInBounds_toArray, List.set_cons_zero, List.set_cons_succ]
  refine AnyX.take (i := 10) (oi := _) (v := ?_) (by rw [List.getElem?_toArray]; rfl) (by kernel_rfl) (by kernel_rfl) (by kernel_rfl) (by kernel_rfl) (by kernel_rfl) (by exact fun _ _ _ h => h) (Or.inl ⟨by rfl, ?_⟩) hS ?_
  rotate_left
  · (intro wS hSw; (try dsimp only at hSw); go_simp; try with_reducible rfl)
  try simp only [Act.put, List.setIfInBounds_toArray, List.set_cons_zero, List.set_cons_succ]
  refine AnyX.take (i := 11) (oi := _) (v := ?_) (by rw [List.getElem?_toArray]; rfl) (by kernel_rfl) (by kernel_rfl) (by kernel_rfl) (by kernel_rfl) (by kernel_rfl) (by exact fun _ _ _ h => h) (Or.inl ⟨by rfl, ?_⟩) hS ?_
  rotate_left
  · (intro wS hSw; (try dsimp only at hSw); go_simp; try with_reducible rfl)
  try simp only [Act.put, List.setIfInBounds_toArray, List.set_cons_zero, List.set_cons_succ]
  refine AnyX.take (i := 12) (oi := _) (v := ?_) (by rw [List.getElem?_toArray]; rfl) (by kernel_rfl) (by kernel_rfl) (by kernel_rfl) (by kernel_rfl) (by kernel_rfl) (by exact fun _ _ _ h => h) (Or.inl ⟨by rfl, ?_⟩) hS ?_
  rotate_left
  · (intro wS hSw; (try dsimp only at hSw); go_simp; try with_reducible rfl)
  try simp only [Act.put, List.setIfInBounds_toArray, List.set_cons_zero, List.set_cons_succ]
  refine AnyX.only (i := 1) (o := _) (by kernel_rfl) (by rw [List.getElem?_toArray]; rfl) (fun K hK => ?_)
  go_simp
  have al : Below w3.heap.size w3 (w3.alloc (.cells #[] 9)) := by
    repeat refine Below.alloc ?_ (by simp <;> omega) _
    exact Below.refl _ _
  have n_RB := Row.made w3 9 []
  have hs_w4 : w3.heap.size < (w3.alloc (.cells #[] 9)).heap.size := by simp
  replace R0 := R0.below al
  replace RZ := RZ.below al
  replace A0 := A0.below al
  replace SS := SS.below (by decide) al
  replace hB := tr hB al (Nat.le_refl _)
  generalize (w3.alloc (.cells #[] 9)) = w4 at *
  have RB := n_RB; clear n_RB
  clear al
  clear hS
  have hS : (fun w' => w'.cell? ⟨w.heap.size, 0, none⟩ = some (.slice (some ⟨b, off, none⟩) x0.queue.length c0_1) ∧ w'.cell? ⟨w.heap.size, 1, none⟩ = some (.string x0.fates) ∧ w'.cell? ⟨w.heap.size, 2, none⟩ = some (.int .i64 x0.used) ∧ w'.cell? ⟨b, off, none⟩ = some (.string q0)) w4 := ⟨R0.cells 0, R0.cells 1, R0.cells 2, first_cell A0 hq0.out⟩
  refine hK.out _ _ (fun _ => hS) ?_
  clear hK K
  try simp only [Act.put, List.setIfInBounds_toArray, List.set_cons_zero, List.set_cons_succ]
  refine AnyX.only (i := 5) (o := _) (by kernel_rfl) (by rw [List.getElem?_toArray]; rfl) (fun K hK => ?_)
  have oe := Ow.empty (E := EStr) (t := 9) RB
  obtain ⟨ao, cc, news, Fy, he, hl, hfy, hFy, hsrc⟩ := SS.src
  simp only [Value.slice.injEq] at he
  obtain ⟨rfl, -, rfl⟩ := he
  have hFl := hfy.lt
  refine step_apd one_EStr (by decide) (by rfl) _ _ _ (by rfl) 9 (.string ⟨#[]⟩) 16 Tryd.underlying22 info_string rfl (.slice (some ⟨w3.heap.size, 0, none⟩) 0 0) [] [w3.heap.size] (by rfl) oe (Hd.one _) a2 s c2 (by show Value.slice a2 _ c2 = Value.slice a2 s.length c2; rw [hsl]) news Fy hfy hsrc (fun b hb e => ?_) ?_ ?_ ?_
  · have h1 := lS b (hFy b hb)
    simp [Value.ownBlock] at e; omega
  · unfold maxLen; simp only [List.length_nil]; omega
  · simp only [List.length_nil]; omega
  intro v3 w5 F4 hA
  have o4 := hA.ow
  rw [List.nil_append] at o4
  obtain ⟨a4, c4, rfl⟩ := o4.slice
  have hF4 : ∀ b ∈ F4, w.heap.size + 1 < b := fun b hb => by
    rw [o4.scal scal_EStr] at hb
    rcases hA.same with e | e <;> rw [e] at hb <;> simp [Value.ownBlock] at hb
    all_goals omega
  have K := hA.keep
  have hs_w5 := K.size
  clear hA hsrc hfy hFl hl oe SS
  have hkb := K.below (B := w.heap.size) (by omega) (fun b hm => by simp at hm; omega)
  clear RB
  replace R0 := R0.keepK K (fun hm => by simp at hm; omega)
  replace RZ := RZ.keepK K (fun hm => by simp at hm; omega)
  replace A0 := A0.keep K (fun b hb hm => by have h1 := lA0 b hb; simp at hm; omega)
  replace hB := hB.trans hkb
  clear hkb K
  clear hS
  have hS : (fun w' => w'.cell? ⟨w.heap.size, 0, none⟩ = some (.slice (some ⟨b, off, none⟩) x0.queue.length c0_1) ∧ w'.cell? ⟨w.heap.size, 1, none⟩ = some (.string x0.fates) ∧ w'.cell? ⟨w.heap.size, 2, none⟩ = some (.int .i64 x0.used) ∧ w'.cell? ⟨b, off, none⟩ = some (.string q0)) w5 := ⟨R0.cells 0, R0.cells 1, R0.cells 2, first_cell A0 hq0.out⟩
  refine hK.out _ _ (fun _ => hS) ?_
  clear hK K
  try simp only [Act.put, List.setIfInBounds_toArray, List.set_cons_zero, List.set_cons_succ]
  refine AnyX.only (i := 8) (o := _) (by kernel_rfl) (by rw [List.getElem?_toArray]; rfl) (fun K hK => ?_)
  go_simp
  go_at_call 64
  refine (l7With_c _ x0 F0 a4 _ c4 x0.used _ A0).mono ?_
  rintro e w6 ⟨rfl, hb⟩
  have hs_w6 := hb.size
  replace R0 := R0.below hb
  replace RZ := RZ.below hb
  replace A0 := A0.below hb
  replace o4 := o4.below hb
  replace hB := tr hB hb (Nat.le_refl _)
  clear hb
  clear hS
  have hS : (fun w' => w'.cell? ⟨w.heap.size, 0, none⟩ = some (.slice (some ⟨b, off, none⟩) x0.queue.length c0_1) ∧ w'.cell? ⟨w.heap.size, 1, none⟩ = some (.string x0.fates) ∧ w'.cell? ⟨w.heap.size, 2, none⟩ = some (.int .i64 x0.used) ∧ w'.cell? ⟨b, off, none⟩ = some (.string q0)) w6 := ⟨R0.cells 0, R0.cells 1, R0.cells 2, first_cell A0 hq0.out⟩
  refine hK.out _ _ (fun _ => hS) ?_
  clear hK K
  try simp only [Act.put, List.setIfInBounds_toArray, List.set_cons_zero, List.set_cons_succ]
  refine AnyX.only (i := 13) (o := _) (by kernel_rfl) (by rw [List.getElem?_toArray]; rfl) (fun K hK => ?_)
  obtain ⟨F5, hF5, s5⟩ := o4.sl (Weak.refl _)
  rw [hsl] at s5
  clear o4
  have c_R0 := R0.cells; have f_R0 := R0.frozens
  have c_RZ := RZ.cells; have f_RZ := RZ.frozens
  go_simp
  clear c_R0 f_R0 c_RZ f_RZ
  have n_R0 := R0.keep (show (((w6.setCell ⟨w.heap.size + 1, 0, none⟩ (.slice a4 (x0.queue.length - 1) c4)).setCell ⟨w.heap.size + 1, 1, none⟩ (.string x0.fates)).setCell ⟨w.heap.size + 1, 2, none⟩ (.int .i64 x0.used)).heap[_]? = _ from by repeat rw [Below.heap_setCell _ _ _ _ (by simp <;> omega)])
  have n_RZ : Row (((w6.setCell ⟨w.heap.size + 1, 0, none⟩ (.slice a4 (x0.queue.length - 1) c4)).setCell ⟨w.heap.size + 1, 1, none⟩ (.string x0.fates)).setCell ⟨w.heap.size + 1, 2, none⟩ (.int .i64 x0.used)) (w.heap.size + 1) 26 [.slice a4 (x0.queue.length - 1) c4, .string x0.fates, .int .i64 x0.used] := by simpa using (((RZ.set 0 (.slice a4 (x0.queue.length - 1) c4)).set 1 (.string x0.fates)).set 2 (.int .i64 x0.used))
  have n_A0 := A0.frame (w' := (((w6.setCell ⟨w.heap.size + 1, 0, none⟩ (.slice a4 (x0.queue.length - 1) c4)).setCell ⟨w.heap.size + 1, 1, none⟩ (.string x0.fates)).setCell ⟨w.heap.size + 1, 2, none⟩ (.int .i64 x0.used))) fun b hb => by
    have h6 := lA0 b hb
    repeat rw [Below.heap_setCell _ _ _ _ (by simp <;> omega)]
  have n_s5 := s5.frame (w' := (((w6.setCell ⟨w.heap.size + 1, 0, none⟩ (.slice a4 (x0.queue.length - 1) c4)).setCell ⟨w.heap.size + 1, 1, none⟩ (.string x0.fates)).setCell ⟨w.heap.size + 1, 2, none⟩ (.int .i64 x0.used))) fun b hb => by
    have h6 := hF4 b (hF5 b hb)
    repeat rw [Below.heap_setCell _ _ _ _ (by simp <;> omega)]
  have n_hB : Below w.heap.size w (((w6.setCell ⟨w.heap.size + 1, 0, none⟩ (.slice a4 (x0.queue.length - 1) c4)).setCell ⟨w.heap.size + 1, 1, none⟩ (.string x0.fates)).setCell ⟨w.heap.size + 1, 2, none⟩ (.int .i64 x0.used)) := by
    repeat refine Below.setCell ?_ (by simp <;> omega) _
    exact hB
  clear hB R0 RZ A0 s5
  have hs_w7 : w6.heap.size ≤ (((w6.setCell ⟨w.heap.size + 1, 0, none⟩ (.slice a4 (x0.queue.length - 1) c4)).setCell ⟨w.heap.size + 1, 1, none⟩ (.string x0.fates)).setCell ⟨w.heap.size + 1, 2, none⟩ (.int .i64 x0.used)).heap.size := by simp
  generalize (((w6.setCell ⟨w.heap.size + 1, 0, none⟩ (.slice a4 (x0.queue.length - 1) c4)).setCell ⟨w.heap.size + 1, 1, none⟩ (.string x0.fates)).setCell ⟨w.heap.size + 1, 2, none⟩ (.int .i64 x0.used)) = w7 at *
  have hB := n_hB; clear n_hB
  have R0 := n_R0; clear n_R0
  have RZ := n_RZ; clear n_RZ
  have A0 := n_A0; clear n_A0
  have s5 := n_s5; clear n_s5
  clear hS
  have hS : (fun w' => w'.cell? ⟨w.heap.size, 0, none⟩ = some (.slice (some ⟨b, off, none⟩) x0.queue.length c0_1) ∧ w'.cell? ⟨w.heap.size, 1, none⟩ = some (.string x0.fates) ∧ w'.cell? ⟨w.heap.size, 2, none⟩ = some (.int .i64 x0.used) ∧ w'.cell? ⟨b, off, none⟩ = some (.string q0)) w7 := ⟨R0.cells 0, R0.cells 1, R0.cells 2, first_cell A0 hq0.out⟩
  refine hK.out _ _ (fun _ => hS) ?_
  clear hK K
  try simp only [Act.put, List.setIfInBounds_toArray, List.set_cons_zero, List.set_cons_succ]
  refine AnyX.only (i := 14) (o := _) (by kernel_rfl) (by rw [List.getElem?_toArray]; rfl) (fun K hK => ?_)
  try go_simp
  clear hS
  have hS : (fun w' => w'.cell? ⟨w.heap.size, 0, none⟩ = some (.slice (some ⟨b, off, none⟩) x0.queue.length c0_1) ∧ w'.cell? ⟨w.heap.size, 1, none⟩ = some (.string x0.fates) ∧ w'.cell? ⟨w.heap.size, 2, none⟩ = some (.int .i64 x0.used) ∧ w'.cell? ⟨b, off, none⟩ = some (.string q0)) w7 := ⟨R0.cells 0, R0.cells 1, R0.cells 2, first_cell A0 hq0.out⟩
  refine hK.out _ _ (fun _ => hS) ?_
  clear hK K
  try simp only [Act.put, List.setIfInBounds_toArray, List.set_cons_zero, List.set_cons_succ]
  refine AnyX.only (i := 15) (o := _) (by kernel_rfl) (by rw [List.getElem?_toArray]; rfl) (fun K hK => ?_)
  try go_simp
  clear hS
  have hS : (fun w' => w'.cell? ⟨w.heap.size, 0, none⟩ = some (.slice (some ⟨b, off, none⟩) x0.queue.length c0_1) ∧ w'.cell? ⟨w.heap.size, 1, none⟩ = some (.string x0.fates) ∧ w'.cell? ⟨w.heap.size, 2, none⟩ = some (.int .i64 x0.used) ∧ w'.cell? ⟨b, off, none⟩ = some (.string q0)) w7 := ⟨R0.cells 0, R0.cells 1, R0.cells 2, first_cell A0 hq0.out⟩
  refine hK.out _ _ (fun _ => hS) ?_
  clear hK K
  try simp only [Act.put, List.setIfInBounds_toArray, List.set_cons_zero, List.set_cons_succ]
  refine AnyX.done (by kernel_rfl) ?_ _
  (try clear hS)
  refine hK0 _ _ ?_
  clear hK0 K0
  clear A0
  replace s5 := Lib.hid s5
  clear hsl
  have c_R0 := R0.cells; have f_R0 := R0.frozens
  have c_RZ := RZ.cells; have f_RZ := RZ.frozens
  go_wp2_with fail
  refine bodyPost_ret (v := .tuple #[.agg #[.slice a4 (x0.queue.length - 1) c4, .string x0.fates, .int .i64 x0.used], .string q0, .bool true]) ?_ rfl ?_
  · simp [results, Tryd.results20, go_sem, c_RZ, f_RZ]
  · rw [hr.out]
    refine ⟨_, F5, rfl, ⟨_, rfl, _, rfl, s0_1, ?_⟩, ?_⟩
    · exact s5.out
    · exact hB
set_option maxHeartbeats 3200000 in
set_option maxRecDepth 100000 in
theorem TakeFrom_c (v0 : Value) (x0 : Link) (F0 : List Nat) (w : World) (h0 : IsV ELink w v0 x0 F0) :
    Calls Tryd.prog 21 #[v0] w (PI_TakeFrom (resTakeFrom x0) w) := by
  have A0 := h0
  have lA0 := h0.lt
  obtain ⟨_, rfl, v0_1, rfl, s0_1, h0_1⟩ := h0
  obtain ⟨a0_1, c0_1, rfl⟩ := h0_1.slice
  clear h0_1
  go_enter Tryd.func21, Tryd.ntmps21
  go_wp2_with fail
  have al : Below w.heap.size w ((w.alloc (.cells #[.slice a0_1 x0.queue.length c0_1, .string x0.fates, .int .i64 x0.used] 26)).alloc (.cells #[.slice none 0 0, .string ⟨#[]⟩, .int .i64 0] 26)) := by
    repeat refine Below.alloc ?_ (by simp <;> omega) _
    exact Below.refl _ _
  have n_R0 : Row ((w.alloc (.cells #[.slice a0_1 x0.queue.length c0_1, .string x0.fates, .int .i64 x0.used] 26)).alloc (.cells #[.slice none 0 0, .string ⟨#[]⟩, .int .i64 0] 26)) (w.heap.size) 26 [.slice a0_1 x0.queue.length c0_1, .string x0.fates, .int .i64 x0.used] := by simp [row_alloc] <;> omega
  have n_RZ : Row ((w.alloc (.cells #[.slice a0_1 x0.queue.length c0_1, .string x0.fates, .int .i64 x0.used] 26)).alloc (.cells #[.slice none 0 0, .string ⟨#[]⟩, .int .i64 0] 26)) (w.heap.size + 1) 26 [.slice none 0 0, .string ⟨#[]⟩, .int .i64 0] := by simp [row_alloc] <;> omega
  have hs_w1 : w.heap.size + 1 < ((w.alloc (.cells #[.slice a0_1 x0.queue.length c0_1, .string x0.fates, .int .i64 x0.used] 26)).alloc (.cells #[.slice none 0 0, .string ⟨#[]⟩, .int .i64 0] 26)).heap.size := by simp <;> omega
  replace A0 := A0.below al
  have hB := al
  generalize ((w.alloc (.cells #[.slice a0_1 x0.queue.length c0_1, .string x0.fates, .int .i64 x0.used] 26)).alloc (.cells #[.slice none 0 0, .string ⟨#[]⟩, .int .i64 0] 26)) = w1 at *
  have R0 := n_R0; clear n_R0
  have RZ := n_RZ; clear n_RZ
  clear al
  refine (IsValidLink_c _ x0 F0 _ A0).mono ?_
  rintro e w2 ⟨rfl, hb⟩
  have hs_w2 := hb.size
  replace R0 := R0.below hb
  replace RZ := RZ.below hb
  replace A0 := A0.below hb
  replace hB := tr hB hb (Nat.le_refl _)
  clear hb
  cases g1 : goodLink x0
  · have hr : resTakeFrom x0 = (⟨[], ⟨#[]⟩, 0⟩, ⟨#[]⟩, false) := by unfold resTakeFrom okTakeFrom; rw [g1]; simp
    replace hr := Lib.hid hr
    have c_R0 := R0.cells; have f_R0 := R0.frozens
    have c_RZ := RZ.cells; have f_RZ := RZ.frozens
    go_wp2_with fail
    refine bodyPost_ret (v := .tuple #[.agg #[.slice none 0 0, .string ⟨#[]⟩, .int .i64 0], .string ⟨#[]⟩, .bool false]) ?_ rfl ?_
    · simp [results, Tryd.results21, go_sem, c_RZ, f_RZ]
    · rw [hr.out]
      refine ⟨_, [], rfl, ⟨_, rfl, _, rfl, by decide, .inl ⟨rfl, rfl, rfl⟩⟩, by simp, by simp, ?_⟩
      repeat refine Below.setCell ?_ (by simp <;> omega) _
      exact hB
  have gg := goodLink_iff.1 g1
  obtain ⟨⟨⟨⟨hq8, -⟩, -⟩, -⟩, -, -⟩ := gg
  by_cases g2 : x0.queue = []
  · have hr : resTakeFrom x0 = (⟨[], ⟨#[]⟩, 0⟩, ⟨#[]⟩, false) := by unfold resTakeFrom okTakeFrom; rw [g2]; simp
    replace hr := Lib.hid hr
    have c_R0 := R0.cells; have f_R0 := R0.frozens
    have c_RZ := RZ.cells; have f_RZ := RZ.frozens
    go_wp2_with fail
    refine bodyPost_ret (v := .tuple #[.agg #[.slice none 0 0, .string ⟨#[]⟩, .int .i64 0], .string ⟨#[]⟩, .bool false]) ?_ rfl ?_
    · simp [results, Tryd.results21, go_sem, c_RZ, f_RZ]
    · rw [hr.out]
      refine ⟨_, [], rfl, ⟨_, rfl, _, rfl, by decide, .inl ⟨rfl, rfl, rfl⟩⟩, by simp, by simp, ?_⟩
      repeat refine Below.setCell ?_ (by simp <;> omega) _
      exact hB
  have hk : 0 < x0.queue.length := List.length_pos_iff.2 g2
  have g3 : ¬ (x0.queue.length : Int) = 0 := by omega
  obtain ⟨q0, hq0⟩ : ∃ q0, x0.queue[0]? = some q0 := ⟨_, List.getElem?_eq_getElem hk⟩
  obtain ⟨hq0s, b, off, rfl, -⟩ := first_text A0 hq0
  obtain ⟨s, hs⟩ : ∃ s, s = x0.queue.drop 1 := ⟨_, rfl⟩
  have hr : resTakeFrom x0 = (⟨s, x0.fates, x0.used⟩, q0, true) := by
    have h1 : x0.queue.headD ⟨#[]⟩ = q0 := by
      cases hq : x0.queue with
      | nil => rw [hq] at hk; simp at hk
      | cons y r => rw [hq] at hq0; simp at hq0; simp [hq0]
    unfold resTakeFrom okTakeFrom
    rw [g1, decide_eq_true hk, h1, hs]; rfl
  have hsl : s.length = x0.queue.length - 1 := by rw [hs]; simp
  replace hr := Lib.hid hr
  replace hq0 := Lib.hid hq0
  have c_R0 := R0.cells; have f_R0 := R0.frozens
  have c_RZ := RZ.cells; have f_RZ := RZ.frozens
  go_wp2_with fail
  clear c_R0 f_R0 c_RZ f_RZ
  refine (Link_clone_c _ x0 F0 _ A0 (by omega)).mono ?_
  rintro e w3 ⟨_, F3, rfl, ⟨_, rfl, v3, rfl, s3, o3⟩, n3, g3, hb⟩
  have hs_w3 := hb.size
  replace R0 := R0.below hb
  replace RZ := RZ.below hb
  replace A0 := A0.below hb
  replace hB := tr hB hb (Nat.le_refl _)
  clear hb
  obtain ⟨a3, c3, rfl⟩ := o3.slice
  have l3 := o3.lt
  have c_R0 := R0.cells; have f_R0 := R0.frozens; have d_R0 := fun o => (R0.alloc o).cells; have e_R0 := fun o => (R0.alloc o).frozens
  have c_RZ := RZ.cells; have f_RZ := RZ.frozens; have d_RZ := fun o => (RZ.alloc o).cells; have e_RZ := fun o => (RZ.alloc o).frozens
  go_wp2_with fail
  clear c_R0 f_R0 d_R0 e_R0 c_RZ f_RZ d_RZ e_RZ
  have al : Below w3.heap.size w3 (w3.alloc (.cells #[.slice a3 x0.queue.length c3, .string x0.fates, .int .i64 x0.used] 26)) := by
    repeat refine Below.alloc ?_ (by simp <;> omega) _
    exact Below.refl _ _
  have n_RO := Row.made w3 26 [.slice a3 x0.queue.length c3, .string x0.fates, .int .i64 x0.used]
  have hs_w4 : w3.heap.size < (w3.alloc (.cells #[.slice a3 x0.queue.length c3, .string x0.fates, .int .i64 x0.used] 26)).heap.size := by simp
  replace R0 := R0.below al
  replace RZ := RZ.below al
  replace A0 := A0.below al
  replace o3 := o3.below al
  replace hB := tr hB al (Nat.le_refl _)
  generalize (w3.alloc (.cells #[.slice a3 x0.queue.length c3, .string x0.fates, .int .i64 x0.used] 26)) = w4 at *
  have RO := n_RO; clear n_RO
  clear al
  have c_R0 := R0.cells; have f_R0 := R0.frozens
  have c_RZ := RZ.cells; have f_RZ := RZ.frozens
  have c_RO := RO.cells; have f_RO := RO.frozens
  go_wp2_with fail
  clear c_R0 f_R0 c_RZ f_RZ c_RO f_RO
  refine (Delete_String _ _ _ x0.queue F3 0 1 _ o3 (by omega) (by omega) (by omega)).mono ?_
  rintro e w5 ⟨rfl, o5, K⟩
  have hs5 := K.size
  clear o3
  replace R0 := R0.keepK K (fun hm => by have h1 := g3 _ hm; have h2 := l3 _ hm; omega)
  replace RZ := RZ.keepK K (fun hm => by have h1 := g3 _ hm; have h2 := l3 _ hm; omega)
  replace RO := RO.keepK K (fun hm => by have h1 := g3 _ hm; have h2 := l3 _ hm; omega)
  replace A0 := A0.keep K (fun b hb hm => by have h1 := g3 _ hm; have h2 := lA0 b hb; omega)
  replace hB := hB.trans (K.below (B := w.heap.size) (by omega) (fun b hm => by have h1 := g3 _ hm; have h2 := l3 _ hm; omega))
  clear K
  have o6 : Ow EStr 9 w5 (.slice a3 (x0.queue.length - 1) c3) s F3 := by rw [hs]; simpa using o5
  clear o5
  have c_R0 := R0.cells; have f_R0 := R0.frozens
  have c_RZ := RZ.cells; have f_RZ := RZ.frozens
  have c_RO := RO.cells; have f_RO := RO.frozens
  go_wp2_with fail
  clear c_R0 f_R0 c_RZ f_RZ c_RO f_RO
  have n_R0 := R0.keep (show (w5.setCell ⟨w3.heap.size, 0, none⟩ (.slice a3 (x0.queue.length - 1) c3)).heap[_]? = _ from by repeat rw [Below.heap_setCell _ _ _ _ (by simp <;> omega)])
  have n_RZ := RZ.keep (show (w5.setCell ⟨w3.heap.size, 0, none⟩ (.slice a3 (x0.queue.length - 1) c3)).heap[_]? = _ from by repeat rw [Below.heap_setCell _ _ _ _ (by simp <;> omega)])
  have n_RO : Row (w5.setCell ⟨w3.heap.size, 0, none⟩ (.slice a3 (x0.queue.length - 1) c3)) (w3.heap.size) 26 [.slice a3 (x0.queue.length - 1) c3, .string x0.fates, .int .i64 x0.used] := by simpa using (RO.set 0 (.slice a3 (x0.queue.length - 1) c3))
  have n_A0 := A0.frame (w' := (w5.setCell ⟨w3.heap.size, 0, none⟩ (.slice a3 (x0.queue.length - 1) c3))) fun b hb => by
    have h6 := lA0 b hb
    repeat rw [Below.heap_setCell _ _ _ _ (by simp <;> omega)]
  have n_o6 := o6.frame (w' := (w5.setCell ⟨w3.heap.size, 0, none⟩ (.slice a3 (x0.queue.length - 1) c3))) fun b hb => by
    have h6 := g3 b hb
    have h7 := l3 b hb
    repeat rw [Below.heap_setCell _ _ _ _ (by simp <;> omega)]
  have n_hB : Below w.heap.size w (w5.setCell ⟨w3.heap.size, 0, none⟩ (.slice a3 (x0.queue.length - 1) c3)) := by
    repeat refine Below.setCell ?_ (by simp <;> omega) _
    exact hB
  clear hB R0 RZ RO A0 o6
  have hs_w5 : w5.heap.size ≤ (w5.setCell ⟨w3.heap.size, 0, none⟩ (.slice a3 (x0.queue.length - 1) c3)).heap.size := by simp
  generalize (w5.setCell ⟨w3.heap.size, 0, none⟩ (.slice a3 (x0.queue.length - 1) c3)) = w5 at *
  have hB := n_hB; clear n_hB
  have R0 := n_R0; clear n_R0
  have RZ := n_RZ; clear n_RZ
  have RO := n_RO; clear n_RO
  have A0 := n_A0; clear n_A0
  have o6 := n_o6; clear n_o6
  rename_i K0 hK0
  refine AnyX.start (S := (fun w' => w'.cell? ⟨w.heap.size, 0, none⟩ = some (.slice (some ⟨b, off, none⟩) x0.queue.length c0_1) ∧ w'.cell? ⟨w.heap.size, 1, none⟩ = some (.string x0.fates) ∧ w'.cell? ⟨w.heap.size, 2, none⟩ = some (.int .i64 x0.used) ∧ w'.cell? ⟨w3.heap.size, 0, none⟩ = some (.slice a3 (x0.queue.length - 1) c3) ∧ w'.cell? ⟨w3.heap.size, 1, none⟩ = some (.string x0.fates) ∧ w'.cell? ⟨w3.heap.size, 2, none⟩ = some (.int .i64 x0.used) ∧ w'.cell? ⟨b, off, none⟩ = some (.string q0))) (X := (fun _ => false)) (by kernel_rfl) ?_
  have al : Below w5.heap.size w5 w5.drew := belowDrewN (Below.refl _ _) 1
  have hs_w6 := al.size
  replace R0 := R0.below al
  replace RZ := RZ.below al
  replace RO := RO.below al
  replace A0 := A0.below al
  replace o6 := o6.below al
  replace hB := tr hB al (Nat.le_refl _)
  generalize w5.drew = w6 at *
  clear al
  have hS : (fun w' => w'.cell? ⟨w.heap.size, 0, none⟩ = some (.slice (some ⟨b, off, none⟩) x0.queue.length c0_1) ∧ w'.cell? ⟨w.heap.size, 1, none⟩ = some (.string x0.fates) ∧ w'.cell? ⟨w.heap.size, 2, none⟩ = some (.int .i64 x0.used) ∧ w'.cell? ⟨w3.heap.size, 0, none⟩ = some (.slice a3 (x0.queue.length - 1) c3) ∧ w'.cell? ⟨w3.heap.size, 1, none⟩ = some (.string x0.fates) ∧ w'.cell? ⟨w3.heap.size, 2, none⟩ = some (.int .i64 x0.used) ∧ w'.cell? ⟨b, off, none⟩ = some (.string q0)) w6 := ⟨R0.cells 0, R0.cells 1, R0.cells 2, RO.cells 0, RO.cells 1, RO.cells 2, first_cell A0 hq0.out⟩
  refine AnyX.take (i := 0) (oi := _) (v := ?_) (by rw [List.getElem?_toArray]; rfl) (by kernel_rfl) (by kernel_rfl) (by kernel_rfl) (by kernel_rfl) (by kernel_rfl) (by exact fun _ _ _ h => h) (Or.inl ⟨by rfl, ?_⟩) hS ?_
  rotate_left
  · (intro wS hSw; (try dsimp only at hSw); go_simp; try with_reducible rfl)
  try simp only [Act.put, List.setIfInBounds_toArray, List.set_cons_zero, List.set_cons_succ]
  refine AnyX.take (i := 1) (oi := _) (v := ?_) (by rw [List.getElem?_toArray]; rfl) (by kernel_rfl) (by kernel_rfl) (by kernel_rfl) (by kernel_rfl) (by kernel_rfl) (by exact fun _ _ _ h => h) (Or.inl ⟨by rfl, ?_⟩) hS ?_
  rotate_left
  · (intro wS hSw; (try dsimp only at hSw); go_simp; try with_reducible rfl)
  try simp only [Act.put, List.setIfInBounds_toArray, List.set_cons_zero, List.set_cons_succ]
  refine AnyX.take (i := 2) (oi := _) (v := ?_) (by rw [List.getElem?_toArray]; rfl) (by kernel_rfl) (by kernel_rfl) (by kernel_rfl) (by kernel_rfl) (by kernel_rfl) (by exact fun _ _ _ h => h) (Or.inl ⟨by rfl, ?_⟩) hS ?_
  rotate_left
  · (intro wS hSw; (try dsimp only at hSw); go_simp; try with_reducible rfl)
  try simp only [Act.put, List.setIfInBounds_toArray, List.set_cons_zero, List.set_cons_succ]
  refine AnyX.take (i := 3) (oi := _) (v := ?_) (by rw [List.getElem?_toArray]; rfl) (by kernel_rfl) (by kernel_rfl) (by kernel_rfl) (by kernel_rfl) (by kernel_rfl) (by exact fun _ _ _ h => h) (Or.inl ⟨by rfl, ?_⟩) hS ?_
  rotate_left
  · (intro wS hSw; (try dsimp only at hSw); go_simp; try with_reducible rfl)
  try simp only [Act.put, List.setIfInBounds_toArray, List.set_cons_zero, List.set_cons_succ]
  refine AnyX.take (i := 4) (oi := _) (v := ?_) (by rw [List.getElem?_toArray]; rfl) (by kernel_rfl) (by kernel_rfl) (by kernel_rfl) (by kernel_rfl) (by kernel_rfl) (by exact fun _ _ _ h => h) (Or.inl ⟨by rfl, ?_⟩) hS ?_
  rotate_left
  · (intro wS hSw; (try dsimp only at hSw); go_simp; try with_reducible rfl)
  try simp only [Act.put, List.setIfInBounds_toArray, List.set_cons_zero, List.set_cons_succ]
  refine AnyX.only (i := 5) (o := _) (by kernel_rfl) (by rw [List.getElem?_toArray]; rfl) (fun K hK => ?_)
  have c_R0 := R0.cells; have f_R0 := R0.frozens
  have c_RZ := RZ.cells; have f_RZ := RZ.frozens
  have c_RO := RO.cells; have f_RO := RO.frozens
  go_simp
  clear c_R0 f_R0 c_RZ f_RZ c_RO f_RO
  have n_R0 := R0.keep (show (((w6.setCell ⟨w.heap.size + 1, 0, none⟩ (.slice a3 (x0.queue.length - 1) c3)).setCell ⟨w.heap.size + 1, 1, none⟩ (.string x0.fates)).setCell ⟨w.heap.size + 1, 2, none⟩ (.int .i64 x0.used)).heap[_]? = _ from by repeat rw [Below.heap_setCell _ _ _ _ (by simp <;> omega)])
  have n_RO := RO.keep (show (((w6.setCell ⟨w.heap.size + 1, 0, none⟩ (.slice a3 (x0.queue.length - 1) c3)).setCell ⟨w.heap.size + 1, 1, none⟩ (.string x0.fates)).setCell ⟨w.heap.size + 1, 2, none⟩ (.int .i64 x0.used)).heap[_]? = _ from by repeat rw [Below.heap_setCell _ _ _ _ (by simp <;> omega)])
  have n_RZ : Row (((w6.setCell ⟨w.heap.size + 1, 0, none⟩ (.slice a3 (x0.queue.length - 1) c3)).setCell ⟨w.heap.size + 1, 1, none⟩ (.string x0.fates)).setCell ⟨w.heap.size + 1, 2, none⟩ (.int .i64 x0.used)) (w.heap.size + 1) 26 [.slice a3 (x0.queue.length - 1) c3, .string x0.fates, .int .i64 x0.used] := by simpa using (((RZ.set 0 (.slice a3 (x0.queue.length - 1) c3)).set 1 (.string x0.fates)).set 2 (.int .i64 x0.used))
  have n_A0 := A0.frame (w' := (((w6.setCell ⟨w.heap.size + 1, 0, none⟩ (.slice a3 (x0.queue.length - 1) c3)).setCell ⟨w.heap.size + 1, 1, none⟩ (.string x0.fates)).setCell ⟨w.heap.size + 1, 2, none⟩ (.int .i64 x0.used))) fun b hb => by
    have h6 := lA0 b hb
    repeat rw [Below.heap_setCell _ _ _ _ (by simp <;> omega)]
  have n_o6 := o6.frame (w' := (((w6.setCell ⟨w.heap.size + 1, 0, none⟩ (.slice a3 (x0.queue.length - 1) c3)).setCell ⟨w.heap.size + 1, 1, none⟩ (.string x0.fates)).setCell ⟨w.heap.size + 1, 2, none⟩ (.int .i64 x0.used))) fun b hb => by
    have h6 := g3 b hb
    have h7 := l3 b hb
    repeat rw [Below.heap_setCell _ _ _ _ (by simp <;> omega)]
  have n_hB : Below w.heap.size w (((w6.setCell ⟨w.heap.size + 1, 0, none⟩ (.slice a3 (x0.queue.length - 1) c3)).setCell ⟨w.heap.size + 1, 1, none⟩ (.string x0.fates)).setCell ⟨w.heap.size + 1, 2, none⟩ (.int .i64 x0.used)) := by
    repeat refine Below.setCell ?_ (by simp <;> omega) _
    exact hB
  clear hB R0 RZ RO A0 o6
  have hs_w7 : w6.heap.size ≤ (((w6.setCell ⟨w.heap.size + 1, 0, none⟩ (.slice a3 (x0.queue.length - 1) c3)).setCell ⟨w.heap.size + 1, 1, none⟩ (.string x0.fates)).setCell ⟨w.heap.size + 1, 2, none⟩ (.int .i64 x0.used)).heap.size := by simp
  generalize (((w6.setCell ⟨w.heap.size + 1, 0, none⟩ (.slice a3 (x0.queue.length - 1) c3)).setCell ⟨w.heap.size + 1, 1, none⟩ (.string x0.fates)).setCell ⟨w.heap.size + 1, 2, none⟩ (.int .i64 x0.used)) = w7 at *
  have hB := n_hB; clear n_hB
  have R0 := n_R0; clear n_R0
  have RZ := n_RZ; clear n_RZ
  have RO := n_RO; clear n_RO
  have A0 := n_A0; clear n_A0
  have o6 := n_o6; clear n_o6
  clear hS
  have hS : (fun w' => w'.cell? ⟨w.heap.size, 0, none⟩ = some (.slice (some ⟨b, off, none⟩) x0.queue.length c0_1) ∧ w'.cell? ⟨w.heap.size, 1, none⟩ = some (.string x0.fates) ∧ w'.cell? ⟨w.heap.size, 2, none⟩ = some (.int .i64 x0.used) ∧ w'.cell? ⟨w3.heap.size, 0, none⟩ = some (.slice a3 (x0.queue.length - 1) c3) ∧ w'.cell? ⟨w3.heap.size, 1, none⟩ = some (.string x0.fates) ∧ w'.cell? ⟨w3.heap.size, 2, none⟩ = some (.int .i64 x0.used) ∧ w'.cell? ⟨b, off, none⟩ = some (.string q0)) w7 := ⟨R0.cells 0, R0.cells 1, R0.cells 2, RO.cells 0, RO.cells 1, RO.cells 2, first_cell A0 hq0.out⟩
  refine hK.out _ _ (fun _ => hS) ?_
  clear hK K
  try simp only [Act.put, List.setIfInBounds_toArray, List.set_cons_zero, List.set_cons_succ]
  refine AnyX.only (i := 6) (o := _) (by kernel_rfl) (by rw [List.getElem?_toArray]; rfl) (fun K hK => ?_)
  try go_simp
  clear hS
  have hS : (fun w' => w'.cell? ⟨w.heap.size, 0, none⟩ = some (.slice (some ⟨b, off, none⟩) x0.queue.length c0_1) ∧ w'.cell? ⟨w.heap.size, 1, none⟩ = some (.string x0.fates) ∧ w'.cell? ⟨w.heap.size, 2, none⟩ = some (.int .i64 x0.used) ∧ w'.cell? ⟨w3.heap.size, 0, none⟩ = some (.slice a3 (x0.queue.length - 1) c3) ∧ w'.cell? ⟨w3.heap.size, 1, none⟩ = some (.string x0.fates) ∧ w'.cell? ⟨w3.heap.size, 2, none⟩ = some (.int .i64 x0.used) ∧ w'.cell? ⟨b, off, none⟩ = some (.string q0)) w7 := ⟨R0.cells 0, R0.cells 1, R0.cells 2, RO.cells 0, RO.cells 1, RO.cells 2, first_cell A0 hq0.out⟩
  refine hK.out _ _ (fun _ => hS) ?_
  clear hK K
  try simp only [Act.put, List.setIfInBounds_toArray, List.set_cons_zero, List.set_cons_succ]
  refine AnyX.only (i := 7) (o := _) (by kernel_rfl) (by rw [List.getElem?_toArray]; rfl) (fun K hK => ?_)
  try go_simp
  clear hS
  have hS : (fun w' => w'.cell? ⟨w.heap.size, 0, none⟩ = some (.slice (some ⟨b, off, none⟩) x0.queue.length c0_1) ∧ w'.cell? ⟨w.heap.size, 1, none⟩ = some (.string x0.fates) ∧ w'.cell? ⟨w.heap.size, 2, none⟩ = some (.int .i64 x0.used) ∧ w'.cell? ⟨w3.heap.size, 0, none⟩ = some (.slice a3 (x0.queue.length - 1) c3) ∧ w'.cell? ⟨w3.heap.size, 1, none⟩ = some (.string x0.fates) ∧ w'.cell? ⟨w3.heap.size, 2, none⟩ = some (.int .i64 x0.used) ∧ w'.cell? ⟨b, off, none⟩ = some (.string q0)) w7 := ⟨R0.cells 0, R0.cells 1, R0.cells 2, RO.cells 0, RO.cells 1, RO.cells 2, first_cell A0 hq0.out⟩
  refine hK.out _ _ (fun _ => hS) ?_
  clear hK K
  try simp only [Act.put, List.setIfInBounds_toArray, List.set_cons_zero, List.set_cons_succ]
  refine AnyX.done (by kernel_rfl) ?_ _
  (try clear hS)
  refine hK0 _ _ ?_
  clear hK0 K0
  clear A0
  replace o6 := Lib.hid o6
  clear hsl
  have c_R0 := R0.cells; have f_R0 := R0.frozens
  have c_RZ := RZ.cells; have f_RZ := RZ.frozens
  have c_RO := RO.cells; have f_RO := RO.frozens
  go_wp2_with fail
  refine bodyPost_ret (v := .tuple #[.agg #[.slice a3 (x0.queue.length - 1) c3, .string x0.fates, .int .i64 x0.used], .string q0, .bool true]) ?_ rfl ?_
  · simp [results, Tryd.results21, go_sem, c_RZ, f_RZ]
  · rw [hr.out]
    refine ⟨_, F3, rfl, ⟨_, rfl, _, rfl, s0_1, ?_⟩, n3, fun b hb => by have := g3 b hb; omega, ?_⟩
    · exact o6.out
    · exact hB
end Go.Proofs.YtnbccfnnamgfiaaDoor
