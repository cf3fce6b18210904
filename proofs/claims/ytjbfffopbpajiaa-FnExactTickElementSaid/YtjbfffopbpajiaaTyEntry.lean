/- The type Entry of the exact laws: how it reads, how it is owned; the walks of its size, copy, equality, mark and held. Written by wip/gentypes.py. -/
import Derived.Test.YtjbfffopbpajiaaTInt
namespace Go.Proofs.Ytjbfffopbpajiaa
open Go.RowKit
structure Entry where
  number : Int
  faces : List Int
  untl : Int
/-- read -/
def EEntry : Elem Entry where
  sz := 3
  rep w cs x F := ∃ v1, cs = [.int .i64 x.number, v1, .int .i64 x.untl] ∧ Sl EInt w v1 x.faces F
  len h := by obtain ⟨v1, rfl, h1⟩ := h; rfl
  lt h := by obtain ⟨v1, rfl, h1⟩ := h; exact h1.lt (by decide)
  frame h hF := by obtain ⟨v1, rfl, h1⟩ := h; exact ⟨v1, rfl, h1.frame hF⟩
theorem one_EEntry : One EEntry := fun h u hu => by
  obtain ⟨v1, rfl, h1⟩ := h
  simp only [List.mem_cons, List.not_mem_nil, or_false] at hu
  rcases hu with rfl | rfl | rfl
  · rfl
  · exact h1.one
  · rfl
theorem info_Entry : (Try.prog.info? 70).map (fun i => (i.zero, i.size, i.bytes)) = some (some (.agg #[.int .i64 0, .slice none 0 0, .int .i64 0]), 3, 40) := by kernel_rfl
/-- owned -/
def OEntry : Elem Entry where
  sz := 3
  rep w cs x F := ∃ v1, cs = [.int .i64 x.number, v1, .int .i64 x.untl] ∧ Ow EInt 3 w v1 x.faces F
  len h := by obtain ⟨v1, rfl, h1⟩ := h; rfl
  lt h := by obtain ⟨v1, rfl, h1⟩ := h; exact h1.lt
  frame h hF := by obtain ⟨v1, rfl, h1⟩ := h; exact ⟨v1, rfl, h1.frame hF⟩
theorem one_OEntry : One OEntry := fun h u hu => by
  obtain ⟨v1, rfl, h1⟩ := h
  simp only [List.mem_cons, List.not_mem_nil, or_false] at hu
  rcases hu with rfl | rfl | rfl
  · rfl
  · exact h1.one
  · rfl
theorem weak_Entry : Weak OEntry EEntry := ⟨rfl, fun h => by
  obtain ⟨v1, rfl, h1⟩ := h
  obtain ⟨G1, g1, k1⟩ := h1.sl (Weak.refl _)
  exact ⟨G1, g1, v1, rfl, k1⟩⟩
def wtEntry (x : Entry) : Nat := wtL (fun _ => 0) x.faces
def cntEntry (x : Entry) : Nat := cntI x.number + (cntL cntI) x.faces + cntI x.untl
def mkEntry (k : Int) (x : Entry) : Entry := ⟨mkI (k) x.number, (markL mkI cntI) (k + cntI x.number) x.faces, mkI (k + cntI x.number + (cntL cntI) x.faces) x.untl⟩
/-- the marks of a value: its slices alone -/
def cvEntry (x : Entry) : Nat := (cntL cntI) x.faces
def mvEntry (k : Int) (x : Entry) : Entry := ⟨x.number, (markL mkI cntI) (k) x.faces, x.untl⟩
set_option maxHeartbeats 800000 in
theorem szEntry_c (v : Value) (x : Entry) (F : List Nat) (n : Int) (w : World) (h : IsV EEntry w v x F) (h0 : 0 ≤ n) (h1 : n ≤ 1048576) :
    Calls Try.prog 46 #[v, .int .i64 n] w fun e w' => e = .returned (.int .i64 (szr n (wtEntry x))) ∧ Below w.heap.size w w' := by
  obtain ⟨_, rfl, v1, rfl, h1⟩ := h
  have hB0 : ∀ A : Obj, Below w.heap.size w (w.alloc A) := fun A => (Below.refl _ _).alloc (Nat.le_refl _) _
  unfold wtEntry
  go_enter Try.func46, Try.ntmps46
  go_wp2_with fail
  refine (szIntS_c _ x.faces _ _ _ (h1.below (by decide) (hB0 _)) (by omega) (by omega)).mono ?_
  rintro e w1 ⟨rfl, hb1⟩
  have r0 := Row.below (g := w.heap.size) (t := 69) (cs := [.int .i64 x.number, v1, .int .i64 x.untl]) (by simp [row_alloc]) hb1
  have hB := tr (hB0 _) hb1 (Nat.le_refl _)
  have c0 := r0.cells
  clear hb1
  rcases szr_or (n) (wtL (fun _ => 0) x.faces) with ⟨e1, l1⟩ | ⟨e1, l1⟩
  · simp only [e1]
    have z1 := Lib.hid e1; clear e1
    go_wp2_with fail
    go_ret
    exact ⟨ret_int (szr_no (by omega)).symm, hB⟩
  simp only [e1]
  have z1 := Lib.hid e1; clear e1
  go_wp2_with fail
  go_ret
  exact ⟨ret_int (by rw [szr_yes (by omega)]; all_goals omega), hB⟩
set_option maxHeartbeats 800000 in
theorem szEntryS_c (v : Value) (xs : List Entry) (F : List Nat) (n : Int) (w : World) (h : Sl EEntry w v xs F) (h0 : 0 ≤ n) (h1 : n ≤ 1048576) :
    Calls Try.prog 27 #[v, .int .i64 n] w fun e w' => e = .returned (.int .i64 (szr n (wtL wtEntry xs))) ∧ Below w.heap.size w w' := by
  obtain ⟨a, cap, rfl⟩ := h.slice
  have hl := h.len
  unfold maxLen at hl
  go_enter Try.func27, Try.ntmps27
  by_cases hn : n < xs.length
  · go_wp2
    go_ret
    exact ⟨ret_int (szr_no (by have := wtL_le wtEntry xs 0; omega)).symm, Below.refl _ _⟩
  go_wp2
  go_loopw [1, 5] (fun l i wr => ∃ k : Nat, k ≤ xs.length ∧ i = .int .i64 k ∧ l = .int .i64 (n - xs.length - psum wtEntry xs k) ∧ (psum wtEntry xs k : Int) + xs.length ≤ n ∧ Below w.heap.size w wr) (fun _ i _ => xs.length - (intOf i).toNat)
  case atStart => exact ⟨0, Nat.zero_le _, rfl, by rw [psum_zero]; simp, by rw [psum_zero]; omega, Below.refl _ _⟩
  case round =>
    obtain ⟨k, hk, rfl, rfl, hle, hB⟩ := hrel
    by_cases hlt : k < xs.length
    · have hsn := psum_snoc wtEntry xs k hlt
      have hsl := wtL_le wtEntry xs (k + 1)
      obtain ⟨b, off, _, F1, rfl, hx, -, ja⟩ := (h.below (by decide) hB).at k hlt
      obtain ⟨v1, rfl, h1⟩ := id hx
      have a0 := ja 0 (by decide)
      have a1 := ja 1 (by decide)
      have a2 := ja 2 (by decide)
      simp only [show EEntry.sz = 3 from rfl, Nat.mul_one, Nat.add_zero, List.getElem?_cons_zero, List.getElem?_cons_succ] at a0 a1 a2
      clear ja
      have hS := Lib.hid hsn; clear hsn
      go_wp2_with fail
      refine (szEntry_c _ xs[k] F1 _ _ ⟨_, rfl, hx⟩ (by omega) (by omega)).mono ?_
      rintro e w1 ⟨rfl, hb1⟩
      have hB := tr hB hb1 (Nat.le_refl _)
      rcases szr_or (n - xs.length - psum wtEntry xs k) (wtEntry xs[k]) with ⟨e1, l1⟩ | ⟨e1, l1⟩
      · simp only [e1]
        have z1 := Lib.hid e1; clear e1
        go_wp2_with fail
        go_ret
        exact ⟨ret_int (szr_no (by have := hS.out; omega)).symm, hB⟩
      · simp only [e1]
        have z1 := Lib.hid e1; clear e1
        go_wp2_with fail
        exact ⟨⟨k + 1, by omega, by go_num, congrArg (Value.int .i64) (by have := hS.out; omega), by have := hS.out; omega, hB⟩, by simp [intOf]; omega⟩
    · have hk : k = xs.length := by omega
      subst hk
      go_wp2_with fail
      go_ret
      exact ⟨ret_int (by rw [szr_yes (by rw [wtL_eq]; omega), wtL_eq]; all_goals omega), hB⟩
set_option maxHeartbeats 1600000 in
theorem toEntry_c (v : Value) (x : Entry) (F : List Nat) (w : World) (h : IsV EEntry w v x F) (hl : wtEntry x ≤ 1048576) :
    Calls Try.prog 50 #[v] w (RetV OEntry x w) := by
  obtain ⟨_, rfl, v1, rfl, h1⟩ := h
  unfold wtEntry at hl
  have hB0 : ∀ A B C : Obj, Below w.heap.size w (((w.alloc A).alloc B).alloc C) := fun A B C => (((Below.refl _ _).alloc (Nat.le_refl _) _).alloc (by simp) _).alloc (by simp <;> omega) _
  go_enter Try.func50, Try.ntmps50
  go_wp2_with fail
  refine (toIntS_c _ x.faces _ _ (h1.below (by decide) (hB0 _ _ _)) (by omega)).mono ?_
  rintro e w1 ⟨y1, K1, rfl, o1, n1, g1, hb1⟩
  obtain ⟨d1, p1, rfl⟩ := o1.slice
  have r0 := Row.below (g := w.heap.size) (t := 69) (cs := [.int .i64 x.number, v1, .int .i64 x.untl]) (by simp [row_alloc] <;> omega) hb1
  have r1 := Row.below (g := w.heap.size + 1) (t := 70) (cs := [.int .i64 0, .slice none 0 0, .int .i64 0]) (by simp [row_alloc] <;> omega) hb1
  have r2 := Row.below (g := w.heap.size + 1 + 1) (t := 70) (cs := [.int .i64 x.number, .slice none 0 0, .int .i64 0]) (by simp [row_alloc] <;> omega) hb1
  have hB := tr (hB0 _ _ _) hb1 (Nat.le_refl _)
  have hs1 := hb1.size
  simp only [World.size_alloc] at hs1 g1
  clear hb1
  have c0 := r0.cells; have c1 := r1.cells; have c2 := r2.cells; have f1 := r1.frozens; have f2 := r2.frozens
  have o1_ := Lib.hid o1
  go_wp2_with fail
  refine bodyPost_ret (v := .agg #[.int .i64 x.number, .slice d1 x.faces.length p1, .int .i64 x.untl]) ?_ rfl ?_
  · simp [results, Try.results50, go_sem, c0, c1, c2, f1, f2]
  · refine ⟨_, K1, rfl, ⟨_, rfl, _, rfl, ?_⟩, ?_, ?_, ?_⟩
    · repeat refine Ow.setFar ?_ (fun hm => by have := g1 _ hm; simp at this <;> omega) _
      exact o1
    · exact n1
    · intro b hb
      have := g1 b hb; omega
    · repeat refine Below.setCell ?_ (by simp <;> omega) _
      exact hB
set_option maxHeartbeats 1600000 in
theorem toEntryS_c (v : Value) (xs : List Entry) (F : List Nat) (w : World) (h : Sl EEntry w v xs F) (hl1 : wtL wtEntry xs ≤ 1048576) :
    Calls Try.prog 30 #[v] w (RetNew OEntry 70 xs w) := by
  obtain ⟨a, cap, rfl⟩ := h.slice
  have hl2 : xs.length ≤ 1048576 := by unfold wtL at hl1; omega
  have hmk := fun w => run_make_rows (P := Try.prog) 33 70 (.agg #[.int .i64 0, .slice none 0 0, .int .i64 0]) 3 40 Try.underlying33 info_Entry xs.length (by omega) (by omega) w
  have hm := Lib.hid (Ow.made (E := OEntry) (t := 70) w #[.int .i64 0, .slice none 0 0, .int .i64 0] xs.length (⟨0, [], 0⟩ : Entry) rfl (fun _ => ⟨_, rfl, .inl ⟨rfl, rfl, rfl⟩⟩) (by unfold maxLen; omega))
  go_enter Try.func30, Try.ntmps30
  go_wp2
  clear hmk
  go_loopw [4] (fun i wr => ∃ k : Nat, k ≤ xs.length ∧ i = .int .i64 k ∧ ∃ F, Ow OEntry 70 wr (.slice (some ⟨w.heap.size, 0, none⟩) xs.length xs.length) (xs.take k ++ List.replicate (xs.length - k) (⟨0, [], 0⟩ : Entry)) F ∧ F.Nodup ∧ (∀ b ∈ F, w.heap.size ≤ b) ∧ Below w.heap.size w wr) (fun i _ => xs.length - (intOf i).toNat)
  case atStart => exact ⟨0, Nat.zero_le _, rfl, _, by simpa [show OEntry.sz = 3 from rfl, Value.cells] using hm.out, by simp, by simp, (Below.refl _ _).alloc (Nat.le_refl _) _⟩
  case round =>
    obtain ⟨k, hk, rfl, F2, ho, hn, hF, hB⟩ := hrel
    by_cases hlt : k < xs.length
    · obtain ⟨b, off, _, F1, rfl, hx, -, ja⟩ := (h.below (by decide) hB).at k hlt
      obtain ⟨v1, rfl, h1⟩ := id hx
      have a0 := ja 0 (by decide)
      have a1 := ja 1 (by decide)
      have a2 := ja 2 (by decide)
      simp only [show EEntry.sz = 3 from rfl, Nat.mul_one, Nat.add_zero, List.getElem?_cons_zero, List.getElem?_cons_succ] at a0 a1 a2
      clear ja
      have hst := Lib.hid (set_take_rep xs (⟨0, [], 0⟩ : Entry) k xs.length rfl hlt xs[k] (by simp))
      have hws : wtEntry xs[k] ≤ 1048576 := by have := psum_snoc wtEntry xs k hlt; have := wtL_le wtEntry xs (k + 1); omega
      have HO0 := Lib.hid ho
      clear ho
      go_wp2_with fail
      refine (toEntry_c _ xs[k] F1 _ ⟨_, rfl, hx⟩ hws).mono ?_
      rintro e w1 ⟨_, K, rfl, ⟨cs1, rfl, oo⟩, nn, gg, hb1⟩
      have ho := HO0.out.below hb1
      obtain ⟨hgF, hcell, hput⟩ := ho.put hn k (by simp; omega)
      have hlt2 := HO0.out.lt
      obtain ⟨F3, ho3, hn3, hs3⟩ := hput cs1 xs[k] K oo nn (fun b hb hc => by have := gg b hb; have := hlt2 b hc; omega)
      obtain ⟨y1, rfl, q1⟩ := id oo
      obtain ⟨d1, p1, rfl⟩ := q1.slice
      rw [hst.out] at ho3
      simp only [show OEntry.sz = 3 from rfl, Nat.mul_one, putCells] at ho3
      obtain ⟨⟨q0_, z0⟩, f0⟩ := hcell 0 (by decide)
      obtain ⟨⟨q1_, z1⟩, f1⟩ := hcell 1 (by decide)
      obtain ⟨⟨q2_, z2⟩, f2⟩ := hcell 2 (by decide)
      simp only [show OEntry.sz = 3 from rfl, Nat.mul_one, Nat.add_zero] at z0 f0 z1 f1 z2 f2
      have HO := Lib.hid ho3
      have hB1 := tr hB hb1 (Nat.le_refl _)
      have hF3 : ∀ b ∈ F3, w.heap.size ≤ b := fun b hb => by
        rcases hs3 b hb with hb | hb
        · exact hF b hb
        · have := gg b hb; have := hB.size; omega
      clear ho ho3 hput hcell HO0 oo
      go_wp2_with fail
      exact ⟨⟨k + 1, by omega, by go_num, F3, HO.out, hn3, hF3, by (repeat (refine Below.setCell ?_ (by simp) _)); exact hB1⟩, by simp [intOf]; omega⟩
    · have hk : k = xs.length := by omega
      subst hk
      have HO := Lib.hid ho
      clear ho
      go_wp2_with fail
      go_ret
      exact ⟨_, F2, rfl, by simpa using HO.out, hn, hF, hB⟩
set_option maxHeartbeats 1600000 in
theorem eqEntry_c (va vb : Value) (x : Entry) (Fa Fb : List Nat) (w : World) (ha : IsV EEntry w va x Fa) (hb : IsV EEntry w vb x Fb) :
    Calls Try.prog 58 #[va, vb] w fun e w' => e = .returned (.bool true) ∧ Below w.heap.size w w' := by
  obtain ⟨_, rfl, v1, rfl, h1⟩ := ha
  obtain ⟨_, rfl, u1, rfl, k1⟩ := hb
  have hB0 : ∀ A B : Obj, Below w.heap.size w ((w.alloc A).alloc B) := fun A B => ((Below.refl _ _).alloc (Nat.le_refl _) _).alloc (by simp) _
  have hE : ∀ z : Int, (z != z) = false := fun z => by simp
  go_enter Try.func58, Try.ntmps58
  go_wp2_with fail
  refine (eqIntS_c _ _ x.faces _ _ _ (h1.below (by decide) (hB0 _ _)) (k1.below (by decide) (hB0 _ _))).mono ?_
  rintro e w1 ⟨rfl, hb1⟩
  have r0 := Row.below (g := w.heap.size) (t := 70) (cs := [.int .i64 x.number, v1, .int .i64 x.untl]) (by simp [row_alloc] <;> omega) hb1
  have r1 := Row.below (g := w.heap.size + 1) (t := 70) (cs := [.int .i64 x.number, u1, .int .i64 x.untl]) (by simp [row_alloc] <;> omega) hb1
  have hB := tr (hB0 _ _) hb1 (Nat.le_refl _)
  clear hb1
  have c0 := r0.cells; have c1 := r1.cells
  go_wp2_with fail
  go_ret
  exact ⟨rfl, hB⟩
set_option maxHeartbeats 1600000 in
theorem eqEntryS_c (va vb : Value) (xs : List Entry) (Fa Fb : List Nat) (w : World) (ha : Sl EEntry w va xs Fa) (hb : Sl EEntry w vb xs Fb) :
    Calls Try.prog 34 #[va, vb] w fun e w' => e = .returned (.bool true) ∧ Below w.heap.size w w' := by
  obtain ⟨a, ca, rfl⟩ := ha.slice
  obtain ⟨b, cb, rfl⟩ := hb.slice
  have hl := ha.len
  unfold maxLen at hl
  go_enter Try.func34, Try.ntmps34
  go_wp2
  go_loopw [5] (fun i wr => ∃ k : Nat, k ≤ xs.length ∧ i = .int .i64 k ∧ Below w.heap.size w wr) (fun i _ => xs.length - (intOf i).toNat)
  case atStart => exact ⟨0, Nat.zero_le _, rfl, Below.refl _ _⟩
  case round =>
    obtain ⟨k, hk, rfl, hB⟩ := hrel
    by_cases hlt : k < xs.length
    · obtain ⟨ba, oa, _, F_, rfl, hx, -, ja⟩ := (ha.below (by decide) hB).at k hlt
      obtain ⟨bb, ob, _, G_, rfl, hy, -, jb⟩ := (hb.below (by decide) hB).at k hlt
      obtain ⟨v1, rfl, h1⟩ := id hx
      obtain ⟨u1, rfl, k1⟩ := id hy
      have a0 := ja 0 (by decide); have b0 := jb 0 (by decide)
      have a1 := ja 1 (by decide); have b1 := jb 1 (by decide)
      have a2 := ja 2 (by decide); have b2 := jb 2 (by decide)
      simp only [show EEntry.sz = 3 from rfl, Nat.mul_one, Nat.add_zero, List.getElem?_cons_zero, List.getElem?_cons_succ] at a0 b0 a1 b1 a2 b2
      clear ja jb
      go_wp2_with fail
      go_region_held3 (fun w' => w'.cell? ⟨ba, oa + k * 3, none⟩ = some (.int .i64 xs[k].number) ∧ w'.cell? ⟨ba, oa + k * 3 + 1, none⟩ = some (v1) ∧ w'.cell? ⟨ba, oa + k * 3 + 2, none⟩ = some (.int .i64 xs[k].untl) ∧ w'.cell? ⟨bb, ob + k * 3, none⟩ = some (.int .i64 xs[k].number) ∧ w'.cell? ⟨bb, ob + k * 3 + 1, none⟩ = some (u1) ∧ w'.cell? ⟨bb, ob + k * 3 + 2, none⟩ = some (.int .i64 xs[k].untl))
        (first | go_keep | (exact ⟨kc hb1 (by simpa using a0), kc hb1 (by simpa using a1), kc hb1 (by simpa using a2), kc hb1 (by simpa using b0), kc hb1 (by simpa using b1), kc hb1 (by simpa using b2)⟩))
        (first | (go_at_call 58; refine (eqEntry_c _ _ xs[k] F_ G_ wr.drew ⟨_, rfl, EEntry.frame hx (fun _ _ => rfl)⟩ ⟨_, rfl, EEntry.frame hy (fun _ _ => rfl)⟩).mono ?_; rintro e w1 ⟨rfl, hb1⟩))
      go_wp2_with fail
      exact ⟨⟨k + 1, by omega, by go_num, tr (belowDrewN hB 1) hb1 (Nat.le_refl _)⟩, by simp [intOf]; omega⟩
    · go_wp2_with fail
      go_ret
      exact ⟨rfl, hB⟩
set_option maxHeartbeats 1600000 in
theorem markEntryS_c (v : Value) (xs : List Entry) (F : List Nat) (k0 : Int) (w : World) (h : Ow OEntry 70 w v xs F) (hn : F.Nodup) (h0 : 0 ≤ k0) (h1 : k0 + cntL cntEntry xs ≤ 1099511627776) :
    Calls Try.prog 35 #[v, .int .i64 k0] w (RetMark OEntry 70 v (k0 + cntL cntEntry xs) (markL mkEntry cntEntry k0 xs) F w) := by
  obtain ⟨a, cap, rfl⟩ := h.slice
  have hl := h.len
  unfold maxLen at hl
  go_enter Try.func35, Try.ntmps35
  go_wp2
  go_loopw [1, 5] (fun kk i wr => ∃ k : Nat, k ≤ xs.length ∧ i = .int .i64 k ∧ kk = .int .i64 (k0 + psum cntEntry xs k) ∧ Ow OEntry 70 wr (.slice a xs.length cap) ((markL mkEntry cntEntry k0 xs).take k ++ xs.drop k) F ∧ Keep F w wr) (fun _ i _ => xs.length - (intOf i).toNat)
  case atStart => exact ⟨0, Nat.zero_le _, rfl, by rw [psum_zero]; simp, by simpa using h, Keep.refl _ _⟩
  case round =>
    obtain ⟨k, hk, rfl, rfl, ho, hK⟩ := hrel
    by_cases hlt : k < xs.length
    · have hln : k < ((markL mkEntry cntEntry k0 xs).take k ++ xs.drop k).length := by simp [markL_len]; omega
      have hsn := Lib.hid (psum_snoc cntEntry xs k hlt)
      have hsl : k0 + psum cntEntry xs k + cntEntry xs[k] ≤ 1099511627776 := by have := hsn.out; have := cntL_le cntEntry xs (k + 1); omega
      obtain ⟨g, rfl⟩ := ho.head k hln
      obtain ⟨A, c, B, Fi, hrow, hA, hcl, hx, hnF, hgF, hgm, hsub, back⟩ := ho.inPlace hn k hln
      rw [mid_get _ _ _ (markL_len ..) hlt] at hx
      simp only [show OEntry.sz = 3 from rfl] at hA
      have hst := Lib.hid (markL_step mkEntry cntEntry xs k0 k hlt)
      simp only [cntEntry, cntI] at hsl
      obtain ⟨v1, rfl, h1⟩ := hx
      have nF1 := hnF
      have gF1 := hgF
      have KK := Keep.refl (g :: Fi) wr
      clear ho
      have z0 := hrow.cellMid (p := k * 3) (j := 0) (by omega) (by simp)
      have z1 := hrow.cellMid (p := k * 3 + 1) (j := 1) (by omega) (by simp)
      have z2 := hrow.cellMid (p := k * 3 + 2) (j := 2) (by omega) (by simp)
      simp only [List.getElem?_cons_zero, List.getElem?_cons_succ] at z0 z1 z2
      have hfz := hrow.frozens
      have HBk := Lib.hid back; clear back
      go_wp2_with fail
      refine (markIntS_c _ xs[k].faces _ (k0 + psum cntEntry xs k + 1) _ (by (repeat (refine Ow.setFar ?_ gF1 _)); exact h1) nF1 (by omega) (by omega)).mono ?_
      rintro e w1 ⟨rfl, o1, kp1⟩
      have hrow : Row w1 g 70 (A ++ [.int .i64 (k0 + psum cntEntry xs k), v1, .int .i64 xs[k].untl] ++ B) := Row.keepK (by exact (Row.setMid hrow (p := k * 3) (j := 0) (by omega) (by simp) (.int .i64 (k0 + psum cntEntry xs k)))) kp1 gF1
      have KK := Keep.trans (F := g :: Fi) (a := wr) (by (repeat (refine Keep.setCell ?_ (by simp) _)); exact KK) (Keep.mono kp1 (fun b hb _ => by simp [hb]))
      clear kp1
      have z0 := hrow.cellMid (p := k * 3) (j := 0) (by omega) (by simp)
      have z1 := hrow.cellMid (p := k * 3 + 1) (j := 1) (by omega) (by simp)
      have z2 := hrow.cellMid (p := k * 3 + 2) (j := 2) (by omega) (by simp)
      simp only [List.getElem?_cons_zero, List.getElem?_cons_succ] at z0 z1 z2
      have hfz := hrow.frozens
      go_wp2_with fail
      have HB := HBk.out _ [.int .i64 (k0 + psum cntEntry xs k), v1, .int .i64 (k0 + psum cntEntry xs k + 1 + cntL cntI xs[k].faces)] (mkEntry (k0 + psum cntEntry xs k) xs[k]) (by exact (Row.setMid hrow (p := k * 3 + 2) (j := 2) (by omega) (by simp) (.int .i64 (k0 + psum cntEntry xs k + 1 + cntL cntI xs[k].faces)))) ⟨_, rfl, (by (repeat (refine Ow.setFar ?_ gF1 _)); exact o1)⟩ (by (repeat (refine Keep.setCell ?_ (by simp) _)); exact KK)
      rw [hst.out] at HB
      exact ⟨⟨k + 1, by omega, by go_num, congrArg (Value.int .i64) (by rw [hsn.out]; simp only [cntEntry, cntI]; omega), HB, by (repeat (refine Keep.setCell ?_ hgm _)); exact hK.trans (KK.mono (fun b hb _ => by rcases List.mem_cons.1 hb with rfl | hb; exact hgm; exact hsub b hb))⟩, by simp [intOf]; omega⟩
    · have hk : k = xs.length := by omega
      subst hk
      have HO := Lib.hid ho
      clear ho
      go_wp2
      go_ret
      exact ⟨ret_int (by rw [cntL_eq]), by simpa [markL_len, List.take_of_length_le] using HO.out, hK⟩
set_option maxHeartbeats 1600000 in
theorem heldEntryS_c (v : Value) (xs : List Entry) (F : List Nat) (k0 : Int) (w : World) (h : Sl EEntry w v (markL mkEntry cntEntry k0 xs) F) (h0 : 0 ≤ k0) (h1 : k0 + cntL cntEntry xs ≤ 1099511627776) :
    Calls Try.prog 36 #[v, .int .i64 k0] w fun e w' => e = .returned (.int .i64 (k0 + cntL cntEntry xs)) ∧ Below w.heap.size w w' := by
  obtain ⟨a, cap, rfl⟩ := h.slice
  have hl := h.len
  unfold maxLen at hl
  have hml := Lib.hid (markL_len mkEntry cntEntry xs k0)
  rw [hml.out] at hl
  rw [hml.out]
  have hE : ∀ z : Int, (z != z) = false := fun z => by simp
  go_enter Try.func36, Try.ntmps36
  go_wp2
  go_loopw [1, 5] (fun kk i wr => ∃ k : Nat, k ≤ xs.length ∧ i = .int .i64 k ∧ kk = .int .i64 (k0 + psum cntEntry xs k) ∧ Below w.heap.size w wr) (fun _ i _ => xs.length - (intOf i).toNat)
  case atStart => exact ⟨0, Nat.zero_le _, rfl, by rw [psum_zero]; simp, Below.refl _ _⟩
  case round =>
    obtain ⟨k, hk, rfl, rfl, hB⟩ := hrel
    by_cases hlt : k < xs.length
    · have hsn := Lib.hid (psum_snoc cntEntry xs k hlt)
      have hsl : k0 + psum cntEntry xs k + cntEntry xs[k] ≤ 1099511627776 := by have := hsn.out; have := cntL_le cntEntry xs (k + 1); omega
      obtain ⟨b, off, _, F1, hab, hx, -, ja⟩ := (h.below (by decide) hB).at k (by rw [hml.out]; exact hlt)
      rw [markL_get mkEntry cntEntry xs k0 k hlt] at hx
      rw [hml.out] at h
      subst hab
      simp only [cntEntry, cntI] at hsl
      obtain ⟨v1, rfl, k1⟩ := hx
      have a0 : wr.cell? ⟨b, off + k * 3, none⟩ = some (.int .i64 (k0 + psum cntEntry xs k)) := by have := ja 0 (by decide); simp only [show EEntry.sz = 3 from rfl, Nat.mul_one, Nat.add_zero, List.getElem?_cons_zero, List.getElem?_cons_succ] at this; exact this
      have a1 : wr.cell? ⟨b, off + k * 3 + 1, none⟩ = some (v1) := by have := ja 1 (by decide); simp only [show EEntry.sz = 3 from rfl, Nat.mul_one, Nat.add_zero, List.getElem?_cons_zero, List.getElem?_cons_succ] at this; exact this
      have a2 : wr.cell? ⟨b, off + k * 3 + 2, none⟩ = some (.int .i64 (k0 + psum cntEntry xs k + 1 + cntL cntI xs[k].faces)) := by have := ja 2 (by decide); simp only [show EEntry.sz = 3 from rfl, Nat.mul_one, Nat.add_zero, List.getElem?_cons_zero, List.getElem?_cons_succ] at this; exact this
      clear ja
      go_wp2_with fail
      refine (heldIntS_c _ xs[k].faces _ (k0 + psum cntEntry xs k + 1) _ (k1.below (by decide) (Below.refl _ _)) (by omega) (by omega)).mono ?_
      rintro e w1 ⟨rfl, hb1⟩
      have a0 := kc hb1 a0
      have a1 := kc hb1 a1
      have a2 := kc hb1 a2
      have hB := tr hB hb1 (Nat.le_refl _)
      have k1 := k1.below (by decide) hb1
      clear hb1
      go_wp2_with fail
      exact ⟨⟨k + 1, by omega, by go_num, congrArg (Value.int .i64) (by rw [hsn.out]; simp only [cntEntry, cntI]; omega), hB⟩, by simp [intOf]; omega⟩
    · have hk : k = xs.length := by omega
      subst hk
      go_wp2
      go_ret
      exact ⟨ret_int (by rw [cntL_eq]), hB⟩
end Go.Proofs.Ytjbfffopbpajiaa
