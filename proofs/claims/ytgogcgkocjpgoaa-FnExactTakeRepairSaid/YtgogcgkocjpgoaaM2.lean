/- Part 2 of the proof: 33 texts, one behind the other. -/
import Derived.Lib.Overlaps
import Derived.Lib.AppendZerosOnto
import Derived.Laws.IdiomCopy
import Derived.Deep.RegionLaw
import Derived.BigQuiet
import Derived.ArgAppend
import Derived.ProofKit
import Derived.OpenShut
import Derived.Test.YtgogcgkocjpgoaaM1
/- The type Entry of the exact laws: how it reads, how it is owned; the walks of its size, copy, equality, mark and held. Written by wip/gentypes.py. -/
namespace Go.Proofs.Ytgogcgkocjpgoaa
open Go.RowKit
structure Entry where
  number : Int
  faces : List Int
  untl : Int
/-- read -/
def EEntry : Elem Entry where
  sz := 3
  rep w cs x F := ∃ v1, cs = [.int .i64 x.number, v1, .int .i64 x.untl] ∧ Sl EInt w v1 x.faces F
  len h := by obtain ⟨v1, rfl, h1⟩ := h; rfl
  lt h := by obtain ⟨v1, rfl, h1⟩ := h; exact h1.lt (by decide)
  frame h hF := by obtain ⟨v1, rfl, h1⟩ := h; exact ⟨v1, rfl, h1.frame hF⟩
theorem one_EEntry : One EEntry := fun h u hu => by
  obtain ⟨v1, rfl, h1⟩ := h
  simp only [List.mem_cons, List.not_mem_nil, or_false] at hu
  rcases hu with rfl | rfl | rfl
  · rfl
  · exact h1.one
  · rfl
theorem info_Entry : (Try.prog.info? 74).map (fun i => (i.zero, i.size, i.bytes)) = some (some (.agg #[.int .i64 0, .slice none 0 0, .int .i64 0]), 3, 40) := by kernel_rfl
/-- owned -/
def OEntry : Elem Entry where
  sz := 3
  rep w cs x F := ∃ v1, cs = [.int .i64 x.number, v1, .int .i64 x.untl] ∧ Ow EInt 3 w v1 x.faces F
  len h := by obtain ⟨v1, rfl, h1⟩ := h; rfl
  lt h := by obtain ⟨v1, rfl, h1⟩ := h; exact h1.lt
  frame h hF := by obtain ⟨v1, rfl, h1⟩ := h; exact ⟨v1, rfl, h1.frame hF⟩
theorem one_OEntry : One OEntry := fun h u hu => by
  obtain ⟨v1, rfl, h1⟩ := h
  simp only [List.mem_cons, List.not_mem_nil, or_false] at hu
  rcases hu with rfl | rfl | rfl
  · rfl
  · exact h1.one
  · rfl
theorem weak_Entry : Weak OEntry EEntry := ⟨rfl, fun h => by
  obtain ⟨v1, rfl, h1⟩ := h
  obtain ⟨G1, g1, k1⟩ := h1.sl (Weak.refl _)
  exact ⟨G1, g1, v1, rfl, k1⟩⟩
def wtEntry (x : Entry) : Nat := wtL (fun _ => 0) x.faces
def cntEntry (x : Entry) : Nat := cntI x.number + (cntL cntI) x.faces + cntI x.untl
def mkEntry (k : Int) (x : Entry) : Entry := ⟨mkI (k) x.number, (markL mkI cntI) (k + cntI x.number) x.faces, mkI (k + cntI x.number + (cntL cntI) x.faces) x.untl⟩
theorem cntEntry_wt (x : Entry) : cntEntry x ≤ 2 * (1 + wtEntry x) := by
  have h0 := cntL_wt cntI (fun _ => 0) 1 (fun x => by simp [cntI]) x.faces
  simp only [cntEntry, wtEntry, cntI, cntB, cntS]
  omega
set_option maxHeartbeats 800000 in
theorem szEntry_c (v : Value) (x : Entry) (F : List Nat) (n : Int) (w : World) (h : IsV EEntry w v x F) (h0 : 0 ≤ n) (h1 : n ≤ 1048576) :
    Calls Try.prog 59 #[v, .int .i64 n] w fun e w' => e = .returned (.int .i64 (szr n (wtEntry x))) ∧ Below w.heap.size w w' := by
  obtain ⟨_, rfl, v1, rfl, h1⟩ := h
  have hB0 : ∀ A : Obj, Below w.heap.size w (w.alloc A) := fun A => (Below.refl _ _).alloc (Nat.le_refl _) _
  unfold wtEntry
  go_enter Try.func59, Try.ntmps59
  go_wp2_with fail
  refine (szIntS_c _ x.faces _ _ _ (h1.below (by decide) (hB0 _)) (by omega) (by omega)).mono ?_
  rintro e w1 ⟨rfl, hb1⟩
  have r0 := Row.below (g := w.heap.size) (t := 79) (cs := [.int .i64 x.number, v1, .int .i64 x.untl]) (by simp [row_alloc]) hb1
  have hB := tr (hB0 _) hb1 (Nat.le_refl _)
  have c0 := r0.cells
  clear hb1
  rcases szr_or (n) (wtL (fun _ => 0) x.faces) with ⟨e1, l1⟩ | ⟨e1, l1⟩
  · simp only [e1]
    have z1 := Lib.hid e1; clear e1
    go_wp2_with fail
    go_ret
    exact ⟨ret_int (szr_no (by omega)).symm, hB⟩
  simp only [e1]
  have z1 := Lib.hid e1; clear e1
  go_wp2_with fail
  go_ret
  exact ⟨ret_int (by rw [szr_yes (by omega)]; all_goals omega), hB⟩
set_option maxHeartbeats 800000 in
theorem szEntryS_c (v : Value) (xs : List Entry) (F : List Nat) (n : Int) (w : World) (h : Sl EEntry w v xs F) (h0 : 0 ≤ n) (h1 : n ≤ 1048576) :
    Calls Try.prog 30 #[v, .int .i64 n] w fun e w' => e = .returned (.int .i64 (szr n (wtL wtEntry xs))) ∧ Below w.heap.size w w' := by
  obtain ⟨a, cap, rfl⟩ := h.slice
  have hl := h.len
  unfold maxLen at hl
  go_enter Try.func30, Try.ntmps30
  by_cases hn : n < xs.length
  · go_wp2
    go_ret
    exact ⟨ret_int (szr_no (by have := wtL_le wtEntry xs 0; omega)).symm, Below.refl _ _⟩
  go_wp2
  go_loopw [1, 5] (fun l i wr => ∃ k : Nat, k ≤ xs.length ∧ i = .int .i64 k ∧ l = .int .i64 (n - xs.length - psum wtEntry xs k) ∧ (psum wtEntry xs k : Int) + xs.length ≤ n ∧ Below w.heap.size w wr) (fun _ i _ => xs.length - (intOf i).toNat)
  case atStart => exact ⟨0, Nat.zero_le _, rfl, by rw [psum_zero]; simp, by rw [psum_zero]; omega, Below.refl _ _⟩
  case round =>
    obtain ⟨k, hk, rfl, rfl, hle, hB⟩ := hrel
    by_cases hlt : k < xs.length
    · have hsn := psum_snoc wtEntry xs k hlt
      have hsl := wtL_le wtEntry xs (k + 1)
      obtain ⟨b, off, _, F1, rfl, hx, -, ja⟩ := (h.below (by decide) hB).at k hlt
      obtain ⟨v1, rfl, h1⟩ := id hx
      have a0 := ja 0 (by decide)
      have a1 := ja 1 (by decide)
      have a2 := ja 2 (by decide)
      simp only [show EEntry.sz = 3 from rfl, Nat.mul_one, Nat.add_zero, List.getElem?_cons_zero, List.getElem?_cons_succ] at a0 a1 a2
      clear ja
      have hS := Lib.hid hsn; clear hsn
      go_wp2_with fail
      refine (szEntry_c _ xs[k] _ _ _ ⟨_, rfl, hx⟩ (by omega) (by omega)).mono ?_
      rintro e w1 ⟨rfl, hb1⟩
      have hB := tr hB hb1 (Nat.le_refl _)
      rcases szr_or (n - xs.length - psum wtEntry xs k) (wtEntry xs[k]) with ⟨e1, l1⟩ | ⟨e1, l1⟩
      · simp only [e1]
        have z1 := Lib.hid e1; clear e1
        go_wp2_with fail
        go_ret
        exact ⟨ret_int (szr_no (by have := hS.out; omega)).symm, hB⟩
      · simp only [e1]
        have z1 := Lib.hid e1; clear e1
        go_wp2_with fail
        exact ⟨⟨k + 1, by omega, by go_num, congrArg (Value.int .i64) (by have := hS.out; omega), by have := hS.out; omega, hB⟩, by simp [intOf]; omega⟩
    · have hk : k = xs.length := by omega
      subst hk
      go_wp2_with fail
      go_ret
      exact ⟨ret_int (by rw [szr_yes (by rw [wtL_eq]; omega), wtL_eq]; all_goals omega), hB⟩
set_option maxHeartbeats 1600000 in
theorem toEntry_c (v : Value) (x : Entry) (F : List Nat) (w : World) (h : IsV EEntry w v x F) (hl : wtEntry x ≤ 1048576) :
    Calls Try.prog 65 #[v] w (RetV OEntry x w) := by
  obtain ⟨_, rfl, v1, rfl, h1⟩ := h
  unfold wtEntry at hl
  have hB0 : ∀ A B C : Obj, Below w.heap.size w (((w.alloc A).alloc B).alloc C) := fun A B C => (((Below.refl _ _).alloc (Nat.le_refl _) _).alloc (by simp) _).alloc (by simp <;> omega) _
  go_enter Try.func65, Try.ntmps65
  go_wp2_with fail
  refine (toIntS_c _ x.faces _ _ (h1.below (by decide) (hB0 _ _ _)) (by omega)).mono ?_
  rintro e w1 ⟨y1, K1, rfl, o1, n1, g1, hb1⟩
  obtain ⟨d1, p1, rfl⟩ := o1.slice
  have l1 : ∀ b ∈ K1, b < w1.heap.size := o1.lt
  have r0 := Row.below (g := w.heap.size) (t := 79) (cs := [.int .i64 x.number, v1, .int .i64 x.untl]) (by simp [row_alloc] <;> omega) hb1
  have r1 := Row.below (g := w.heap.size + 1) (t := 74) (cs := [.int .i64 0, .slice none 0 0, .int .i64 0]) (by simp [row_alloc] <;> omega) hb1
  have r2 := Row.below (g := w.heap.size + 1 + 1) (t := 74) (cs := [.int .i64 x.number, .slice none 0 0, .int .i64 0]) (by simp [row_alloc] <;> omega) hb1
  have hB := tr (hB0 _ _ _) hb1 (Nat.le_refl _)
  have hs1 := hb1.size
  simp only [World.size_alloc] at hs1 g1
  clear hb1
  have c0 := r0.cells; have c1 := r1.cells; have c2 := r2.cells; have f1 := r1.frozens; have f2 := r2.frozens
  have o1_ := Lib.hid o1
  go_wp2_with fail
  refine bodyPost_ret (v := .agg #[.int .i64 x.number, .slice d1 x.faces.length p1, .int .i64 x.untl]) ?_ rfl ?_
  · simp [results, Try.results65, go_sem, c0, c1, c2, f1, f2]
  · refine ⟨_, K1, rfl, ⟨_, rfl, _, rfl, ?_⟩, ?_, ?_, ?_⟩
    · repeat refine Ow.setFar ?_ (fun hm => by have := g1 _ hm; simp at this <;> omega) _
      exact o1
    · exact n1
    · intro b hb
      have := g1 b hb; omega
    · repeat refine Below.setCell ?_ (by simp <;> omega) _
      exact hB
set_option maxHeartbeats 1600000 in
theorem toEntryS_c (v : Value) (xs : List Entry) (F : List Nat) (w : World) (h : Sl EEntry w v xs F) (hl1 : wtL wtEntry xs ≤ 1048576) :
    Calls Try.prog 35 #[v] w (RetNew OEntry 74 xs w) := by
  obtain ⟨a, cap, rfl⟩ := h.slice
  have hl2 : xs.length ≤ 1048576 := by unfold wtL at hl1; omega
  have hmk := fun w => run_make_rows (P := Try.prog) 27 74 (.agg #[.int .i64 0, .slice none 0 0, .int .i64 0]) 3 40 Try.underlying27 info_Entry xs.length (by omega) (by omega) w
  have hm := Lib.hid (Ow.made (E := OEntry) (t := 74) w #[.int .i64 0, .slice none 0 0, .int .i64 0] xs.length (⟨0, [], 0⟩ : Entry) rfl (fun _ => ⟨_, rfl, .inl ⟨rfl, rfl, rfl⟩⟩) (by unfold maxLen; omega))
  go_enter Try.func35, Try.ntmps35
  go_wp2
  clear hmk
  go_loopw [4] (fun i wr => ∃ k : Nat, k ≤ xs.length ∧ i = .int .i64 k ∧ ∃ F, Ow OEntry 74 wr (.slice (some ⟨w.heap.size, 0, none⟩) xs.length xs.length) (xs.take k ++ List.replicate (xs.length - k) (⟨0, [], 0⟩ : Entry)) F ∧ F.Nodup ∧ (∀ b ∈ F, w.heap.size ≤ b) ∧ Below w.heap.size w wr) (fun i _ => xs.length - (intOf i).toNat)
  case atStart => exact ⟨0, Nat.zero_le _, rfl, _, by simpa [show OEntry.sz = 3 from rfl, Value.cells] using hm.out, by simp, by simp, (Below.refl _ _).alloc (Nat.le_refl _) _⟩
  case round =>
    obtain ⟨k, hk, rfl, F2, ho, hn, hF, hB⟩ := hrel
    by_cases hlt : k < xs.length
    · obtain ⟨b, off, _, F1, rfl, hx, -, ja⟩ := (h.below (by decide) hB).at k hlt
      obtain ⟨v1, rfl, h1⟩ := id hx
      have a0 := ja 0 (by decide)
      have a1 := ja 1 (by decide)
      have a2 := ja 2 (by decide)
      simp only [show EEntry.sz = 3 from rfl, Nat.mul_one, Nat.add_zero, List.getElem?_cons_zero, List.getElem?_cons_succ] at a0 a1 a2
      clear ja
      have hst := Lib.hid (set_take_rep xs (⟨0, [], 0⟩ : Entry) k xs.length rfl hlt xs[k] (by simp))
      have hws : wtEntry xs[k] ≤ 1048576 := by have := psum_snoc wtEntry xs k hlt; have := wtL_le wtEntry xs (k + 1); omega
      have HO0 := Lib.hid ho
      clear ho
      go_wp2_with fail
      refine (toEntry_c _ xs[k] _ _ ⟨_, rfl, hx⟩ hws).mono ?_
      rintro e w1 ⟨_, K, rfl, ⟨cs1, rfl, oo⟩, nn, gg, hb1⟩
      have ho := HO0.out.below hb1
      obtain ⟨hgF, hcell, hput⟩ := ho.put hn k (by simp; omega)
      have hlt2 := HO0.out.lt
      obtain ⟨F3, ho3, hn3, hs3⟩ := hput cs1 xs[k] K oo nn (fun b hb hc => by have := gg b hb; have := hlt2 b hc; omega)
      obtain ⟨y1, rfl, q1⟩ := id oo
      obtain ⟨d1, p1, rfl⟩ := q1.slice
      rw [hst.out] at ho3
      simp only [show OEntry.sz = 3 from rfl, Nat.mul_one, putCells] at ho3
      obtain ⟨⟨q0_, z0⟩, f0⟩ := hcell 0 (by decide)
      obtain ⟨⟨q1_, z1⟩, f1⟩ := hcell 1 (by decide)
      obtain ⟨⟨q2_, z2⟩, f2⟩ := hcell 2 (by decide)
      simp only [show OEntry.sz = 3 from rfl, Nat.mul_one, Nat.add_zero] at z0 f0 z1 f1 z2 f2
      have HO := Lib.hid ho3
      have hB1 := tr hB hb1 (Nat.le_refl _)
      have hF3 : ∀ b ∈ F3, w.heap.size ≤ b := fun b hb => by
        rcases hs3 b hb with hb | hb
        · exact hF b hb
        · have := gg b hb; have := hB.size; omega
      clear ho ho3 hput hcell HO0 oo
      go_wp2_with fail
      exact ⟨⟨k + 1, by omega, by go_num, F3, HO.out, hn3, hF3, by (repeat (refine Below.setCell ?_ (by simp) _)); exact hB1⟩, by simp [intOf]; omega⟩
    · have hk : k = xs.length := by omega
      subst hk
      have HO := Lib.hid ho
      clear ho
      go_wp2_with fail
      go_ret
      exact ⟨_, F2, rfl, by simpa using HO.out, hn, hF, hB⟩
set_option maxHeartbeats 1600000 in
theorem eqEntry_c (va vb : Value) (x : Entry) (Fa Fb : List Nat) (w : World) (ha : IsV EEntry w va x Fa) (hb : IsV EEntry w vb x Fb) :
    Calls Try.prog 71 #[va, vb] w fun e w' => e = .returned (.bool true) ∧ Below w.heap.size w w' := by
  obtain ⟨_, rfl, v1, rfl, h1⟩ := ha
  obtain ⟨_, rfl, u1, rfl, k1⟩ := hb
  have hB0 : ∀ A B : Obj, Below w.heap.size w ((w.alloc A).alloc B) := fun A B => ((Below.refl _ _).alloc (Nat.le_refl _) _).alloc (by simp) _
  have hE : ∀ z : Int, (z != z) = false := fun z => by simp
  go_enter Try.func71, Try.ntmps71
  go_wp2_with fail
  refine (eqIntS_c _ _ x.faces _ _ _ (h1.below (by decide) (hB0 _ _)) (k1.below (by decide) (hB0 _ _))).mono ?_
  rintro e w1 ⟨rfl, hb1⟩
  have r0 := Row.below (g := w.heap.size) (t := 74) (cs := [.int .i64 x.number, v1, .int .i64 x.untl]) (by simp [row_alloc] <;> omega) hb1
  have r1 := Row.below (g := w.heap.size + 1) (t := 74) (cs := [.int .i64 x.number, u1, .int .i64 x.untl]) (by simp [row_alloc] <;> omega) hb1
  have hB := tr (hB0 _ _) hb1 (Nat.le_refl _)
  clear hb1
  have c0 := r0.cells; have c1 := r1.cells
  go_wp2_with fail
  go_ret
  exact ⟨rfl, hB⟩
set_option maxHeartbeats 1600000 in
theorem eqEntryS_c (va vb : Value) (xs : List Entry) (Fa Fb : List Nat) (w : World) (ha : Sl EEntry w va xs Fa) (hb : Sl EEntry w vb xs Fb) :
    Calls Try.prog 40 #[va, vb] w fun e w' => e = .returned (.bool true) ∧ Below w.heap.size w w' := by
  obtain ⟨a, ca, rfl⟩ := ha.slice
  obtain ⟨b, cb, rfl⟩ := hb.slice
  have hl := ha.len
  unfold maxLen at hl
  go_enter Try.func40, Try.ntmps40
  go_wp2
  go_loopw [5] (fun i wr => ∃ k : Nat, k ≤ xs.length ∧ i = .int .i64 k ∧ Below w.heap.size w wr) (fun i _ => xs.length - (intOf i).toNat)
  case atStart => exact ⟨0, Nat.zero_le _, rfl, Below.refl _ _⟩
  case round =>
    obtain ⟨k, hk, rfl, hB⟩ := hrel
    by_cases hlt : k < xs.length
    · obtain ⟨ba, oa, _, F_, rfl, hx, -, ja⟩ := (ha.below (by decide) hB).at k hlt
      obtain ⟨bb, ob, _, G_, rfl, hy, -, jb⟩ := (hb.below (by decide) hB).at k hlt
      obtain ⟨v1, rfl, h1⟩ := id hx
      obtain ⟨u1, rfl, k1⟩ := id hy
      have a0 := ja 0 (by decide); have b0 := jb 0 (by decide)
      have a1 := ja 1 (by decide); have b1 := jb 1 (by decide)
      have a2 := ja 2 (by decide); have b2 := jb 2 (by decide)
      simp only [show EEntry.sz = 3 from rfl, Nat.mul_one, Nat.add_zero, List.getElem?_cons_zero, List.getElem?_cons_succ] at a0 b0 a1 b1 a2 b2
      clear ja jb
      go_wp2_with fail
      go_region_held3 (fun w' => w'.cell? ⟨ba, oa + k * 3, none⟩ = some (.int .i64 xs[k].number) ∧ w'.cell? ⟨ba, oa + k * 3 + 1, none⟩ = some (v1) ∧ w'.cell? ⟨ba, oa + k * 3 + 2, none⟩ = some (.int .i64 xs[k].untl) ∧ w'.cell? ⟨bb, ob + k * 3, none⟩ = some (.int .i64 xs[k].number) ∧ w'.cell? ⟨bb, ob + k * 3 + 1, none⟩ = some (u1) ∧ w'.cell? ⟨bb, ob + k * 3 + 2, none⟩ = some (.int .i64 xs[k].untl))
        (first | go_keep | (exact ⟨kc hb1 (by simpa using a0), kc hb1 (by simpa using a1), kc hb1 (by simpa using a2), kc hb1 (by simpa using b0), kc hb1 (by simpa using b1), kc hb1 (by simpa using b2)⟩))
        (first | (go_at_call 71; refine (eqEntry_c _ _ xs[k] _ _ wr.drew ⟨_, rfl, EEntry.frame hx (fun _ _ => rfl)⟩ ⟨_, rfl, EEntry.frame hy (fun _ _ => rfl)⟩).mono ?_; rintro e w1 ⟨rfl, hb1⟩))
      go_wp2_with fail
      exact ⟨⟨k + 1, by omega, by go_num, tr (belowDrewN hB 1) hb1 (Nat.le_refl _)⟩, by simp [intOf]; omega⟩
    · go_wp2_with fail
      go_ret
      exact ⟨rfl, hB⟩
set_option maxHeartbeats 1600000 in
theorem markEntryS_c (v : Value) (xs : List Entry) (F : List Nat) (k0 : Int) (w : World) (h : Ow OEntry 74 w v xs F) (hn : F.Nodup) (h0 : 0 ≤ k0) (h1 : k0 + cntL cntEntry xs ≤ 1099511627776) :
    Calls Try.prog 41 #[v, .int .i64 k0] w (RetMark OEntry 74 v (k0 + cntL cntEntry xs) (markL mkEntry cntEntry k0 xs) F w) := by
  obtain ⟨a, cap, rfl⟩ := h.slice
  have hl := h.len
  unfold maxLen at hl
  go_enter Try.func41, Try.ntmps41
  go_wp2
  go_loopw [1, 5] (fun kk i wr => ∃ k : Nat, k ≤ xs.length ∧ i = .int .i64 k ∧ kk = .int .i64 (k0 + psum cntEntry xs k) ∧ Ow OEntry 74 wr (.slice a xs.length cap) ((markL mkEntry cntEntry k0 xs).take k ++ xs.drop k) F ∧ Keep F w wr) (fun _ i _ => xs.length - (intOf i).toNat)
  case atStart => exact ⟨0, Nat.zero_le _, rfl, by rw [psum_zero]; simp, by simpa using h, Keep.refl _ _⟩
  case round =>
    obtain ⟨k, hk, rfl, rfl, ho, hK⟩ := hrel
    by_cases hlt : k < xs.length
    · have hln : k < ((markL mkEntry cntEntry k0 xs).take k ++ xs.drop k).length := by simp [markL_len]; omega
      have hsn := Lib.hid (psum_snoc cntEntry xs k hlt)
      have hsl : k0 + psum cntEntry xs k + cntEntry xs[k] ≤ 1099511627776 := by have := hsn.out; have := cntL_le cntEntry xs (k + 1); omega
      obtain ⟨g, rfl⟩ := ho.head k hln
      obtain ⟨A, c, B, Fi, hrow, hA, hcl, hx, hnF, hgF, hgm, hsub, back⟩ := ho.inPlace hn k hln
      rw [mid_get _ _ _ (markL_len ..) hlt] at hx
      simp only [show OEntry.sz = 3 from rfl] at hA
      have hst := Lib.hid (markL_step mkEntry cntEntry xs k0 k hlt)
      simp only [cntEntry, cntI] at hsl
      obtain ⟨v1, rfl, h1⟩ := hx
      have nF1 := hnF
      have gF1 := hgF
      have KK := Keep.refl (g :: Fi) wr
      clear ho
      have z0 := hrow.cellMid (p := k * 3) (j := 0) (by omega) (by simp)
      have z1 := hrow.cellMid (p := k * 3 + 1) (j := 1) (by omega) (by simp)
      have z2 := hrow.cellMid (p := k * 3 + 2) (j := 2) (by omega) (by simp)
      simp only [List.getElem?_cons_zero, List.getElem?_cons_succ] at z0 z1 z2
      have hfz := hrow.frozens
      have HBk := Lib.hid back; clear back
      go_wp2_with fail
      refine (markIntS_c _ xs[k].faces _ (k0 + psum cntEntry xs k + 1) _ (by (repeat (refine Ow.setFar ?_ gF1 _)); exact h1) nF1 (by omega) (by omega)).mono ?_
      rintro e w1 ⟨rfl, o1, kp1⟩
      have hrow : Row w1 g 74 (A ++ [.int .i64 (k0 + psum cntEntry xs k), v1, .int .i64 xs[k].untl] ++ B) := Row.keepK (by exact (Row.setMid hrow (p := k * 3) (j := 0) (by omega) (by simp) (.int .i64 (k0 + psum cntEntry xs k)))) kp1 gF1
      have KK := Keep.trans (F := g :: Fi) (a := wr) (by (repeat (refine Keep.setCell ?_ (by simp) _)); exact KK) (Keep.mono kp1 (fun b hb _ => by simp [hb]))
      clear kp1
      have z0 := hrow.cellMid (p := k * 3) (j := 0) (by omega) (by simp)
      have z1 := hrow.cellMid (p := k * 3 + 1) (j := 1) (by omega) (by simp)
      have z2 := hrow.cellMid (p := k * 3 + 2) (j := 2) (by omega) (by simp)
      simp only [List.getElem?_cons_zero, List.getElem?_cons_succ] at z0 z1 z2
      have hfz := hrow.frozens
      go_wp2_with fail
      have HB := HBk.out _ [.int .i64 (k0 + psum cntEntry xs k), v1, .int .i64 (k0 + psum cntEntry xs k + 1 + cntL cntI xs[k].faces)] (mkEntry (k0 + psum cntEntry xs k) xs[k]) (by exact (Row.setMid hrow (p := k * 3 + 2) (j := 2) (by omega) (by simp) (.int .i64 (k0 + psum cntEntry xs k + 1 + cntL cntI xs[k].faces)))) ⟨_, rfl, (by (repeat (refine Ow.setFar ?_ gF1 _)); exact o1)⟩ (by (repeat (refine Keep.setCell ?_ (by simp) _)); exact KK)
      rw [hst.out] at HB
      exact ⟨⟨k + 1, by omega, by go_num, congrArg (Value.int .i64) (by rw [hsn.out]; simp only [cntEntry, cntI]; omega), HB, by (repeat (refine Keep.setCell ?_ hgm _)); exact hK.trans (KK.mono (fun b hb _ => by rcases List.mem_cons.1 hb with rfl | hb; exact hgm; exact hsub b hb))⟩, by simp [intOf]; omega⟩
    · have hk : k = xs.length := by omega
      subst hk
      have HO := Lib.hid ho
      clear ho
      go_wp2
      go_ret
      exact ⟨ret_int (by rw [cntL_eq]), by simpa [markL_len, List.take_of_length_le] using HO.out, hK⟩
set_option maxHeartbeats 1600000 in
theorem heldEntryS_c (v : Value) (xs : List Entry) (F : List Nat) (k0 : Int) (w : World) (h : Sl EEntry w v (markL mkEntry cntEntry k0 xs) F) (h0 : 0 ≤ k0) (h1 : k0 + cntL cntEntry xs ≤ 1099511627776) :
    Calls Try.prog 42 #[v, .int .i64 k0] w fun e w' => e = .returned (.int .i64 (k0 + cntL cntEntry xs)) ∧ Below w.heap.size w w' := by
  obtain ⟨a, cap, rfl⟩ := h.slice
  have hl := h.len
  unfold maxLen at hl
  have hml := Lib.hid (markL_len mkEntry cntEntry xs k0)
  rw [hml.out] at hl
  rw [hml.out]
  have hE : ∀ z : Int, (z != z) = false := fun z => by simp
  go_enter Try.func42, Try.ntmps42
  go_wp2
  go_loopw [1, 5] (fun kk i wr => ∃ k : Nat, k ≤ xs.length ∧ i = .int .i64 k ∧ kk = .int .i64 (k0 + psum cntEntry xs k) ∧ Below w.heap.size w wr) (fun _ i _ => xs.length - (intOf i).toNat)
  case atStart => exact ⟨0, Nat.zero_le _, rfl, by rw [psum_zero]; simp, Below.refl _ _⟩
  case round =>
    obtain ⟨k, hk, rfl, rfl, hB⟩ := hrel
    by_cases hlt : k < xs.length
    · have hsn := Lib.hid (psum_snoc cntEntry xs k hlt)
      have hsl : k0 + psum cntEntry xs k + cntEntry xs[k] ≤ 1099511627776 := by have := hsn.out; have := cntL_le cntEntry xs (k + 1); omega
      obtain ⟨b, off, _, F1, hab, hx, -, ja⟩ := (h.below (by decide) hB).at k (by rw [hml.out]; exact hlt)
      rw [markL_get mkEntry cntEntry xs k0 k hlt] at hx
      rw [hml.out] at h
      subst hab
      simp only [cntEntry, cntI] at hsl
      obtain ⟨v1, rfl, k1⟩ := hx
      have a0 : wr.cell? ⟨b, off + k * 3, none⟩ = some (.int .i64 (k0 + psum cntEntry xs k)) := by have := ja 0 (by decide); simp only [show EEntry.sz = 3 from rfl, Nat.mul_one, Nat.add_zero, List.getElem?_cons_zero, List.getElem?_cons_succ] at this; exact this
      have a1 : wr.cell? ⟨b, off + k * 3 + 1, none⟩ = some (v1) := by have := ja 1 (by decide); simp only [show EEntry.sz = 3 from rfl, Nat.mul_one, Nat.add_zero, List.getElem?_cons_zero, List.getElem?_cons_succ] at this; exact this
      have a2 : wr.cell? ⟨b, off + k * 3 + 2, none⟩ = some (.int .i64 (k0 + psum cntEntry xs k + 1 + cntL cntI xs[k].faces)) := by have := ja 2 (by decide); simp only [show EEntry.sz = 3 from rfl, Nat.mul_one, Nat.add_zero, List.getElem?_cons_zero, List.getElem?_cons_succ] at this; exact this
      clear ja
      go_wp2_with fail
      refine (heldIntS_c _ xs[k].faces _ (k0 + psum cntEntry xs k + 1) _ (k1.below (by decide) (Below.refl _ _)) (by omega) (by omega)).mono ?_
      rintro e w1 ⟨rfl, hb1⟩
      have a0 := kc hb1 a0
      have a1 := kc hb1 a1
      have a2 := kc hb1 a2
      have hB := tr hB hb1 (Nat.le_refl _)
      have k1 := k1.below (by decide) hb1
      clear hb1
      go_wp2_with fail
      exact ⟨⟨k + 1, by omega, by go_num, congrArg (Value.int .i64) (by rw [hsn.out]; simp only [cntEntry, cntI]; omega), hB⟩, by simp [intOf]; omega⟩
    · have hk : k = xs.length := by omega
      subst hk
      go_wp2
      go_ret
      exact ⟨ret_int (by rw [cntL_eq]), hB⟩
end Go.Proofs.Ytgogcgkocjpgoaa
/- The type Element of the exact laws: how it reads, how it is owned; the walks of its size, copy, equality, mark and held. Written by wip/gentypes.py. -/
namespace Go.Proofs.Ytgogcgkocjpgoaa
open Go.RowKit
structure Element where
  clock : Int
  entries : List Entry
/-- read -/
def EElement : Elem Element where
  sz := 2
  rep w cs x F := ∃ v1, cs = [.int .i64 x.clock, v1] ∧ Sl EEntry w v1 x.entries F
  len h := by obtain ⟨v1, rfl, h1⟩ := h; rfl
  lt h := by obtain ⟨v1, rfl, h1⟩ := h; exact h1.lt (by decide)
  frame h hF := by obtain ⟨v1, rfl, h1⟩ := h; exact ⟨v1, rfl, h1.frame hF⟩
/-- owned -/
def OElement : Elem Element where
  sz := 2
  rep w cs x F := ∃ v1, cs = [.int .i64 x.clock, v1] ∧ Ow OEntry 74 w v1 x.entries F
  len h := by obtain ⟨v1, rfl, h1⟩ := h; rfl
  lt h := by obtain ⟨v1, rfl, h1⟩ := h; exact h1.lt
  frame h hF := by obtain ⟨v1, rfl, h1⟩ := h; exact ⟨v1, rfl, h1.frame hF⟩
theorem weak_Element : Weak OElement EElement := ⟨rfl, fun h => by
  obtain ⟨v1, rfl, h1⟩ := h
  obtain ⟨G1, g1, k1⟩ := h1.sl weak_Entry
  exact ⟨G1, g1, v1, rfl, k1⟩⟩
def wtElement (x : Element) : Nat := wtL wtEntry x.entries
/-- the marks of a value: its slices alone -/
def cvElement (x : Element) : Nat := (cntL cntEntry) x.entries
def mvElement (k : Int) (x : Element) : Element := ⟨x.clock, (markL mkEntry cntEntry) (k) x.entries⟩
theorem cvElement_wt (x : Element) (h : wtElement x ≤ 1048576) : cvElement x ≤ 4294967296 := by
  have h0 := cntL_wt cntEntry wtEntry 2 cntEntry_wt x.entries
  simp only [wtElement, cvElement] at h ⊢
  omega
set_option maxHeartbeats 800000 in
theorem szElement_c (v : Value) (x : Element) (F : List Nat) (n : Int) (w : World) (h : IsV EElement w v x F) (h0 : 0 ≤ n) (h1 : n ≤ 1048576) :
    Calls Try.prog 6 #[v, .int .i64 n] w fun e w' => e = .returned (.int .i64 (szr n (wtElement x))) ∧ Below w.heap.size w w' := by
  obtain ⟨_, rfl, v1, rfl, h1⟩ := h
  have hB0 : ∀ A : Obj, Below w.heap.size w (w.alloc A) := fun A => (Below.refl _ _).alloc (Nat.le_refl _) _
  unfold wtElement
  go_enter Try.func6, Try.ntmps6
  go_wp2_with fail
  refine (szEntryS_c _ x.entries _ _ _ (h1.below (by decide) (hB0 _)) (by omega) (by omega)).mono ?_
  rintro e w1 ⟨rfl, hb1⟩
  have r0 := Row.below (g := w.heap.size) (t := 24) (cs := [.int .i64 x.clock, v1]) (by simp [row_alloc]) hb1
  have hB := tr (hB0 _) hb1 (Nat.le_refl _)
  have c0 := r0.cells
  clear hb1
  rcases szr_or (n) (wtL wtEntry x.entries) with ⟨e1, l1⟩ | ⟨e1, l1⟩
  · simp only [e1]
    have z1 := Lib.hid e1; clear e1
    go_wp2_with fail
    go_ret
    exact ⟨ret_int (szr_no (by omega)).symm, hB⟩
  simp only [e1]
  have z1 := Lib.hid e1; clear e1
  go_wp2_with fail
  go_ret
  exact ⟨ret_int (by rw [szr_yes (by omega)]; all_goals omega), hB⟩
set_option maxHeartbeats 1600000 in
theorem toElement_c (v : Value) (x : Element) (F : List Nat) (w : World) (h : IsV EElement w v x F) (hl : wtElement x ≤ 1048576) :
    Calls Try.prog 8 #[v] w (RetV OElement x w) := by
  obtain ⟨_, rfl, v1, rfl, h1⟩ := h
  unfold wtElement at hl
  have hB0 : ∀ A B C : Obj, Below w.heap.size w (((w.alloc A).alloc B).alloc C) := fun A B C => (((Below.refl _ _).alloc (Nat.le_refl _) _).alloc (by simp) _).alloc (by simp <;> omega) _
  go_enter Try.func8, Try.ntmps8
  go_wp2_with fail
  refine (toEntryS_c _ x.entries _ _ (h1.below (by decide) (hB0 _ _ _)) (by omega)).mono ?_
  rintro e w1 ⟨y1, K1, rfl, o1, n1, g1, hb1⟩
  obtain ⟨d1, p1, rfl⟩ := o1.slice
  have l1 : ∀ b ∈ K1, b < w1.heap.size := o1.lt
  have r0 := Row.below (g := w.heap.size) (t := 24) (cs := [.int .i64 x.clock, v1]) (by simp [row_alloc] <;> omega) hb1
  have r1 := Row.below (g := w.heap.size + 1) (t := 29) (cs := [.int .i64 0, .slice none 0 0]) (by simp [row_alloc] <;> omega) hb1
  have r2 := Row.below (g := w.heap.size + 1 + 1) (t := 29) (cs := [.int .i64 x.clock, .slice none 0 0]) (by simp [row_alloc] <;> omega) hb1
  have hB := tr (hB0 _ _ _) hb1 (Nat.le_refl _)
  have hs1 := hb1.size
  simp only [World.size_alloc] at hs1 g1
  clear hb1
  have c0 := r0.cells; have c1 := r1.cells; have c2 := r2.cells; have f1 := r1.frozens; have f2 := r2.frozens
  have o1_ := Lib.hid o1
  go_wp2_with fail
  refine bodyPost_ret (v := .agg #[.int .i64 x.clock, .slice d1 x.entries.length p1]) ?_ rfl ?_
  · simp [results, Try.results8, go_sem, c0, c1, c2, f1, f2]
  · refine ⟨_, K1, rfl, ⟨_, rfl, _, rfl, ?_⟩, ?_, ?_, ?_⟩
    · repeat refine Ow.setFar ?_ (fun hm => by have := g1 _ hm; simp at this <;> omega) _
      exact o1
    · exact n1
    · intro b hb
      have := g1 b hb; omega
    · repeat refine Below.setCell ?_ (by simp <;> omega) _
      exact hB
set_option maxHeartbeats 1600000 in
theorem eqElement_c (va vb : Value) (x : Element) (Fa Fb : List Nat) (w : World) (ha : IsV EElement w va x Fa) (hb : IsV EElement w vb x Fb) :
    Calls Try.prog 11 #[va, vb] w fun e w' => e = .returned (.bool true) ∧ Below w.heap.size w w' := by
  obtain ⟨_, rfl, v1, rfl, h1⟩ := ha
  obtain ⟨_, rfl, u1, rfl, k1⟩ := hb
  have hB0 : ∀ A B : Obj, Below w.heap.size w ((w.alloc A).alloc B) := fun A B => ((Below.refl _ _).alloc (Nat.le_refl _) _).alloc (by simp) _
  have hE : ∀ z : Int, (z != z) = false := fun z => by simp
  go_enter Try.func11, Try.ntmps11
  go_wp2_with fail
  refine (eqEntryS_c _ _ x.entries _ _ _ (h1.below (by decide) (hB0 _ _)) (k1.below (by decide) (hB0 _ _))).mono ?_
  rintro e w1 ⟨rfl, hb1⟩
  have r0 := Row.below (g := w.heap.size) (t := 29) (cs := [.int .i64 x.clock, v1]) (by simp [row_alloc] <;> omega) hb1
  have r1 := Row.below (g := w.heap.size + 1) (t := 29) (cs := [.int .i64 x.clock, u1]) (by simp [row_alloc] <;> omega) hb1
  have hB := tr (hB0 _ _) hb1 (Nat.le_refl _)
  clear hb1
  have c0 := r0.cells; have c1 := r1.cells
  go_wp2_with fail
  go_ret
  exact ⟨rfl, hB⟩
set_option maxHeartbeats 1600000 in
theorem markElement_c (v : Value) (x : Element) (F : List Nat) (k0 : Int) (w : World) (h : IsV OElement w v x F) (hn : F.Nodup) (p0 : 0 ≤ k0) (p1 : k0 + cvElement x ≤ 1099511627776) :
    Calls Try.prog 13 #[v, .int .i64 k0] w (RetMarkV OElement v (k0 + cvElement x) (mvElement k0 x) F w) := by
  have hlt : ∀ b ∈ F, b < w.heap.size := by obtain ⟨cs, -, hx⟩ := h; exact OElement.lt hx
  obtain ⟨_, rfl, v1, rfl, h1⟩ := h
  unfold cvElement at p1 ⊢
  have hB0 : ∀ A : Obj, Below w.heap.size w (w.alloc A) := fun A => (Below.refl _ _).alloc (Nat.le_refl _) _
  have hw : w.heap.size ∉ F := fun e => by have := hlt _ e; omega
  have nF1 := hn
  have w1_ := hw
  go_enter Try.func13, Try.ntmps13
  go_wp2_with fail
  refine (markEntryS_c _ x.entries _ (k0) _ (h1.below (hB0 _)) nF1 (by omega) (by omega)).mono ?_
  rintro e w1 ⟨rfl, o1, kp1⟩
  have r0 := Row.keepK (g := w.heap.size) (t := 29) (cs := [.int .i64 x.clock, v1]) (by simp [row_alloc]) kp1 w1_
  have KK : Keep F w w1 := (Keep.ofBelow (hB0 _)).trans (kp1.mono (fun b hb _ => hb))
  clear kp1
  have c0 := r0.cells
  go_wp2_with fail
  go_ret
  exact ⟨ret_int (by omega), ⟨_, rfl, _, rfl, o1⟩, KK⟩
set_option maxHeartbeats 1600000 in
theorem heldElement_c (v : Value) (x : Element) (F : List Nat) (k0 : Int) (w : World) (h : IsV EElement w v (mvElement k0 x) F) (p0 : 0 ≤ k0) (p1 : k0 + cvElement x ≤ 1099511627776) :
    Calls Try.prog 15 #[v, .int .i64 k0] w fun e w' => e = .returned (.int .i64 (k0 + cvElement x)) ∧ Below w.heap.size w w' := by
  obtain ⟨_, rfl, v1, rfl, h1⟩ := h
  unfold cvElement at p1 ⊢
  have hB0 : ∀ A : Obj, Below w.heap.size w (w.alloc A) := fun A => (Below.refl _ _).alloc (Nat.le_refl _) _
  go_enter Try.func15, Try.ntmps15
  go_wp2_with fail
  refine (heldEntryS_c _ x.entries _ (k0) _ (h1.below (by decide) (hB0 _)) (by omega) (by omega)).mono ?_
  rintro e w1 ⟨rfl, hb1⟩
  have r0 := Row.below (g := w.heap.size) (t := 29) (cs := [.int .i64 x.clock, v1]) (by simp [row_alloc, mvElement]) hb1
  have hB := tr (hB0 _) hb1 (Nat.le_refl _)
  clear hb1
  have c0 := r0.cells
  go_wp2_with fail
  go_ret
  exact ⟨ret_int (by omega), hB⟩
end Go.Proofs.Ytgogcgkocjpgoaa
/- Structs of type Element in a walk's state: opened, closed. -/
namespace Go.Proofs.Ytgogcgkocjpgoaa
open Go.RowKit
section
variable {c : Cx} {fr : Fr} {H : List Pc} {Φ : Gl}
theorem openElement {v : Value} {x : Element} {F : List Nat} (h : ∀ (a1 : Option Addr) (c1 : Nat) (F1 : List Nat), v = .agg #[.int .i64 x.clock, .slice a1 x.entries.length c1] → x.entries.length ≤ maxLen → T c fr (.sl EEntry (.slice a1 x.entries.length c1) x.entries F1 :: H) Φ) (hm : .isv EElement v x F ∈ H := by (repeat (first | exact .head _ | apply List.Mem.tail)); first | done | fail) : T c fr H Φ := .mk fun a w s g => by
  obtain ⟨cs, rfl, v1, rfl, h1⟩ := s.get hm
  obtain ⟨a1, c1, rfl⟩ := h1.slice; have l1 := h1.len
  have t1 := s.ro (p := .sl EEntry (.slice a1 x.entries.length c1) x.entries F) hm rfl rfl ⟨by decide, h1⟩ fun b hb => hb
  exact (h a1 c1 F rfl  l1).h a w t1 g
theorem openOElement {v : Value} {x : Element} {F : List Nat} {S : List Pc} (h : ∀ (a1 : Option Addr) (c1 : Nat) (F1 : List Nat), v = .agg #[.int .i64 x.clock, .slice a1 x.entries.length c1] → x.entries.length ≤ maxLen → T c fr (.ow OEntry 74 (.slice a1 x.entries.length c1) x.entries F1 :: S) Φ) (hp : Pick H (.own OElement v x F) S := by (repeat (first | exact .here | apply Pick.there)); first | done | fail) : T c fr H Φ := .mk fun a w s g => by
  have z1 := s.pick hp
  obtain ⟨hn, cs, rfl, v1, rfl, h1⟩ := z1.on (.own OElement v x F) (by simp)
  obtain ⟨a1, c1, rfl⟩ := h1.slice; have l1 := h1.len
  refine (h a1 c1 F rfl  l1).h a w (St.turn (M := [.own OElement (.agg #[.int .i64 x.clock, .slice a1 x.entries.length c1]) x _]) (N := [.ow OEntry 74 (.slice a1 x.entries.length c1) x.entries F]) z1 (Keep.refl _ w) ?_ ?_ ?_) g
  · intro q hq; simp at hq; subst hq; exact ⟨hn, h1⟩
  · exact ⟨by simp, trivial⟩
  · intro q hq b hb; simp at hq; subst hq; exact .inr (.inl ⟨_, List.mem_singleton.2 rfl, rfl, hb⟩)
theorem closeOElement (x : Element) {a1 : Option Addr} {c1 : Nat} {F1 : List Nat} {S1 : List Pc}  (h : T c fr (.own OElement (.agg #[.int .i64 x.clock, .slice a1 x.entries.length c1]) x (F1) :: S1) Φ) (m1 : Pick H (.ow OEntry 74 (.slice a1 x.entries.length c1) x.entries F1) S1 := by (repeat (first | exact .here | apply Pick.there)); first | done | fail)  : T c fr H Φ := .mk fun a w s g => by
  have z1 : St c.G c.D c.w0 ([.ow OEntry 74 (.slice a1 x.entries.length c1) x.entries F1] ++ S1) w := by simpa using (show Picks H [.ow OEntry 74 (.slice a1 x.entries.length c1) x.entries F1] S1 from Picks.cons m1 (Picks.nil)).st (X := []) (by simpa using s)
  obtain ⟨n1, k1⟩ := z1.on (.ow OEntry 74 (.slice a1 x.entries.length c1) x.entries F1) (by simp)
  have hN := n1
  refine h.h a w (St.turn (M := [.ow OEntry 74 (.slice a1 x.entries.length c1) x.entries F1]) (N := [.own OElement (.agg #[.int .i64 x.clock, .slice a1 x.entries.length c1]) x (F1)]) z1 (Keep.refl _ w) (by intro q hq; simp at hq; subst hq; exact ⟨hN, _, rfl, _, rfl, k1⟩) ⟨by simp, trivial⟩ fun q hq b hb => ?_) g
  simp at hq; subst hq
  simp only [Pc.F, List.mem_append] at hb
  exact .inr (.inl ⟨_, List.mem_singleton.2 rfl, rfl, hb⟩)
end
end Go.Proofs.Ytgogcgkocjpgoaa
/- Structs of type Entry in a walk's state: opened, closed. -/
namespace Go.Proofs.Ytgogcgkocjpgoaa
open Go.RowKit
section
variable {c : Cx} {fr : Fr} {H : List Pc} {Φ : Gl}
theorem openEntry {v : Value} {x : Entry} {F : List Nat} (h : ∀ (a1 : Option Addr) (c1 : Nat) (F1 : List Nat), v = .agg #[.int .i64 x.number, .slice a1 x.faces.length c1, .int .i64 x.untl] → x.faces.length ≤ maxLen → T c fr (.sl EInt (.slice a1 x.faces.length c1) x.faces F1 :: H) Φ) (hm : .isv EEntry v x F ∈ H := by (repeat (first | exact .head _ | apply List.Mem.tail)); first | done | fail) : T c fr H Φ := .mk fun a w s g => by
  obtain ⟨cs, rfl, v1, rfl, h1⟩ := s.get hm
  obtain ⟨a1, c1, rfl⟩ := h1.slice; have l1 := h1.len
  have t1 := s.ro (p := .sl EInt (.slice a1 x.faces.length c1) x.faces F) hm rfl rfl ⟨by decide, h1⟩ fun b hb => hb
  exact (h a1 c1 F rfl  l1).h a w t1 g
theorem openOEntry {v : Value} {x : Entry} {F : List Nat} {S : List Pc} (h : ∀ (a1 : Option Addr) (c1 : Nat) (F1 : List Nat), v = .agg #[.int .i64 x.number, .slice a1 x.faces.length c1, .int .i64 x.untl] → x.faces.length ≤ maxLen → T c fr (.ow EInt 3 (.slice a1 x.faces.length c1) x.faces F1 :: S) Φ) (hp : Pick H (.own OEntry v x F) S := by (repeat (first | exact .here | apply Pick.there)); first | done | fail) : T c fr H Φ := .mk fun a w s g => by
  have z1 := s.pick hp
  obtain ⟨hn, cs, rfl, v1, rfl, h1⟩ := z1.on (.own OEntry v x F) (by simp)
  obtain ⟨a1, c1, rfl⟩ := h1.slice; have l1 := h1.len
  refine (h a1 c1 F rfl  l1).h a w (St.turn (M := [.own OEntry (.agg #[.int .i64 x.number, .slice a1 x.faces.length c1, .int .i64 x.untl]) x _]) (N := [.ow EInt 3 (.slice a1 x.faces.length c1) x.faces F]) z1 (Keep.refl _ w) ?_ ?_ ?_) g
  · intro q hq; simp at hq; subst hq; exact ⟨hn, h1⟩
  · exact ⟨by simp, trivial⟩
  · intro q hq b hb; simp at hq; subst hq; exact .inr (.inl ⟨_, List.mem_singleton.2 rfl, rfl, hb⟩)
theorem atEntry {a : Option Addr} {n cp : Nat} {xs : List Entry} {F : List Nat} (i : Nat) (h : ∀ (hi : i < xs.length) (b o : Nat) (a1 : Option Addr) (c1 : Nat) (F1 : List Nat), a = some ⟨b, o, none⟩ → xs[i].faces.length ≤ maxLen → T c fr (.cel b (o + i * 3) [.int .i64 xs[i].number, .slice a1 xs[i].faces.length c1, .int .i64 xs[i].untl] :: .sl EInt (.slice a1 xs[i].faces.length c1) xs[i].faces F1 :: H) Φ) (hm : .sl EEntry (.slice a n cp) xs F ∈ H := by (repeat (first | exact .head _ | apply List.Mem.tail)); first | done | fail) (hi : i < xs.length := by omega) : T c fr H Φ := .mk fun ac w s g => by
  obtain ⟨b, o, cs, G, ha, hrep, hG, hb, hne, hr⟩ := sl_at (s.get hm) i hi
  obtain ⟨v1, rfl, h1⟩ := hrep
  obtain ⟨a1, c1, rfl⟩ := h1.slice; have l1 := h1.len
  have t1 := s.ro (p := .sl EInt (.slice a1 xs[i].faces.length c1) xs[i].faces G) hm rfl rfl ⟨by decide, h1⟩ (by intro b hb; simp only [Pc.F] at hb ⊢; exact hG b (by simp [hb]))
  exact (h hi b o a1 c1 G ha  l1).h ac w (t1.ro (List.mem_cons_of_mem _ hm) rfl rfl ⟨hne, hr⟩ (by intro x hx; simp [Pc.F] at hx; subst hx; exact hb)) g
end
end Go.Proofs.Ytgogcgkocjpgoaa
/- Walks of the exact laws' helpers on slices of strings: size, copy, equality, mark, held; the text of a mark. -/
namespace Go.Proofs.Ytgogcgkocjpgoaa
open Go.RowKit

end Go.Proofs.Ytgogcgkocjpgoaa
/- A string as a row of one. -/
namespace Go.Proofs.Ytgogcgkocjpgoaa
open Go.RowKit
theorem t_sl {c : Cx} {fr : Fr} {H : List Pc} {Φ : Gl} {α : Type} {E : Elem α} {v : Value} {xs : List α} {F : List Nat} (h : ∀ a cp, v = .slice a xs.length cp → xs.length ≤ cp → cp ≤ 9223372036854775807 → T c fr H Φ) (hm : .sl E v xs F ∈ H := by (repeat (first | exact .head _ | apply List.Mem.tail)); first | done | fail) : T c fr H Φ := .mk fun ac w s g => by
  obtain ⟨-, hs⟩ := s.get hm
  obtain ⟨a, cp, rfl⟩ := hs.slice
  obtain ⟨-, h2, h3⟩ := hs.caps
  exact (h a cp rfl h2 (by unfold maxLen at h3; omega)).h ac w s g
end Go.Proofs.Ytgogcgkocjpgoaa
/- More operations: parts of texts, slices made, functions called by their value; a part of a slice that reads. -/
namespace Go.Proofs.Ytgogcgkocjpgoaa
open Go.RowKit
section
variable {P : Program} {n : Nat} {fr : Fr} {H : List Pc} {ty : TypeId} {x y z : Operand}
end
section
variable {c : Cx} {fr : Fr} {H : List Pc} {k : List It} {Φ : Gl} {ops : Array Oper} {rest : List Oper} {d : Nat} {o : Op} {ty : TypeId} {v u : Value} {x y : Operand}
end
end Go.Proofs.Ytgogcgkocjpgoaa
/- Rows written as wholes: an owned slice as its row and back, copying, appending that grows, functions that are entries of the model, parts of a slice as values. -/
namespace Go.Proofs.Ytgogcgkocjpgoaa
open Go.RowKit
theorem hsub_refl : ∀ (H : List Pc), HSub H H
  | [] => .nil
  | _ :: R => .cons .here (hsub_refl R)
theorem Flat.all {α : Type} {E : Elem α} {w : World} {cs : List Value} {xs : List α} (h : Flat E w cs xs []) (w' : World) : Flat E w' cs xs [] := h.frame (by simp)
theorem Flat.cutL {α : Type} {E : Elem α} {w : World} {cs : List Value} {xs : List α} (h : Flat E w cs xs []) (i : Nat) (hi : i ≤ xs.length) : Flat E w (cs.take (i * E.sz)) (xs.take i) [] ∧ Flat E w (cs.drop (i * E.sz)) (xs.drop i) [] := by
  rw [← List.take_append_drop i xs] at h
  obtain ⟨c1, c2, G1, G2, rfl, hG, h1, h2⟩ := h.split
  obtain ⟨rfl, rfl⟩ := List.append_eq_nil_iff.1 hG.symm
  have hl := h1.len
  rw [List.length_take, Nat.min_eq_left hi] at hl
  rw [List.take_left' hl, List.drop_left' hl]
  exact ⟨h1, h2⟩
section
variable {P : Program} {n : Nat} {fr : Fr} {H : List Pc} {ty : TypeId} {x y z : Operand}
/-- what stands from i on, aS a value -/
theorem yd_slv {t e m i g o len cp : Nat} {kd : IntKind} {q : Int} [hS : SlC P t e m] (hx : ev fr x = some (.slice (some ⟨g, o, none⟩) len cp)) (hy : ev fr y = some (.int kd q)) (hq : q = (i : Int)) (hi : i ≤ len) (hc : i < cp) (hlc : len ≤ cp) : Yd P n fr H (.slice t x (some y) none none) ty (.slice (some ⟨g, o + i * m, none⟩) (len - i) (cp - i)) := .mk fun ac w d pos aft gd hA _ => by
  subst hq
  have he2 : P.elem t = e := by simp [Program.elem, hS.u]
  have h3 : (Instr.sliceAt t (.slice (some ⟨g, o, none⟩) len cp) (some (.int kd (i : Int))) none none).run P w = .ok (.slice (some ⟨g, o + i * m, none⟩) (len - i) (cp - i)) w := by
    rw [run_sliceAt_slice (h := by rw [he2]; exact hS.u), run_slice_l (ht := by rw [he2]; exact hS.u) (h0 := by omega) (h1 := by omega), he2, size_of hS.s]
    have h0 : ¬ (cp - i = 0) := by omega
    have h0' : ¬ (cp = i) := by omega
    simp [Result.andThen, sliced, h0, h0', Addr.add_lit]
  simp only [execOp, Option.map_none, Option.map_some, hA.ev hx, hA.ev hy, Sem.run_bind, h3, Result.andThen_ok, Sem.run_pure]
end
section
variable {c : Cx} {fr : Fr} {H k' : List Pc} {k : List It} {Φ : Gl} {d : Nat} {o : Op} {ty : TypeId} {v u : Value} {x y : Operand}
end
end Go.Proofs.Ytgogcgkocjpgoaa
/- Functions bound to a receiver, clearing, loops beside pieces that are not told. -/
namespace Go.Proofs.Ytgogcgkocjpgoaa
open Go.RowKit
section
variable {P : Program} {n : Nat} {fr : Fr} {H : List Pc} {ty : TypeId}
end
section
variable {c : Cx} {fr : Fr} {H : List Pc} {k : List It} {Φ : Gl} {d : Nat} {ty : TypeId} {x : Operand}
theorem o_callb {fo : Operand} {f : Nat} {bd caps : List Value} {aS : List Operand} {ts : Array TypeId} {vs : List Value} (hd : Nat.blt d c.n = true) (hf : ev fr fo = some (.func (.func f) bd.toArray caps.toArray)) (hb : bodyB c.P f = true) (ha : Evs fr aS vs) (h : Cl c fr H d f (bd ++ vs ++ caps) Φ) : On c fr H (some d) (.call { callee := .value fo, args := aS.toArray, argTypes := ts }) ty Φ := ⟨fun _ _ _ => ef_of fun Q a w s g => by
  have e : ∀ pos aft gd, (execOp a.eval ⟨some d, .call { callee := .value fo, args := aS.toArray, argTypes := ts }, ty, pos, aft, gd⟩).run c.P w = (callFunc f (bd ++ vs ++ caps).toArray).run c.P w := by
    intro pos aft gd
    simp [execOp, resolve, Deferred.ofValue, g.ev hf, invoke, g.evs ha]
  rw [e]
  obtain ⟨R, hc, hk⟩ := h.h w s
  refine (body_of hb).upon hc fun e w' hR => ?_
  obtain ⟨v, he, hv⟩ := hk e w' hR
  exact ⟨v, he, hv _ (g.put hd)⟩⟩
/-- where an owned slice of plain elements lies -/
theorem t_head {α : Type} {E : Elem α} (sc : Scal E) {t n cp : Nat} {a : Option Addr} {xs : List α} {F : List Nat} (h0 : xs ≠ [])
    (h : ∀ g, a = some ⟨g, 0, none⟩ → F = [g] → n = xs.length → n ≤ cp → cp ≤ 9223372036854775807 → T c fr H Φ) (hm : .ow E t (.slice a n cp) xs F ∈ H := by (repeat (first | exact .head _ | apply List.Mem.tail)); first | done | fail) : T c fr H Φ := .mk fun ac w s g' => by
  obtain ⟨hnd, ho⟩ := s.get hm
  have hF := ho.scal sc
  rcases ho with ⟨-, h2, -⟩ | ⟨g, cap, cs, rest, G, h1, h2, h3, h4, h5, h6, h7⟩
  · exact absurd h2 h0
  · cases h1
    exact (h g rfl (by simpa [Value.ownBlock] using hF) rfl h3 (by unfold maxLen at h4; omega)).h ac w s g'
theorem Flat.rep0 {α : Type} {E : Elem α} {w : World} {zs : List Value} {z : α} (h : E.rep w zs z []) : ∀ n, Flat E w (List.replicate n zs).flatten (List.replicate n z) []
  | 0 => ⟨rfl, rfl⟩
  | n + 1 => ⟨zs, (List.replicate n zs).flatten, [], [], by simp [List.replicate_succ], by simp, h, Flat.rep0 h n⟩
theorem zeroCells_flat (z : Array Value) (n : Nat) : (Builtin.zeroCells z n).toList = (List.replicate n z.toList).flatten := by
  have := madeCells_flat z n
  exact this
/-- the elements from i on are cleared -/
theorem o_clr {α : Type} {E : Elem α} (sc : Scal E) {t e m b g n cp i : Nat} {zv : Value} {z0 : α} [hS : SlC c.P t e m] [hE : ElT c.P e zv m b] (hz : ∀ w, E.rep w zv.cells.toList z0 []) (one : ∀ u ∈ zv.cells, u.oneCell' = true) (hm : E.sz = m) {xs : List α} {F : List Nat} {S : List Pc}
    (hx : ev fr x = some (.slice (some ⟨g, 0 + i * m, none⟩) (n - i) (cp - i))) (hi : i < n) (hn : n = xs.length) (hp : Pick H (.ow E e (.slice (some ⟨g, 0, none⟩) n cp) xs F) S) (h : T c fr (.ow E e (.slice (some ⟨g, 0, none⟩) n cp) (xs.take i ++ List.replicate (n - i) z0) F :: S) Φ) :
    On c fr H none (.call { callee := .builtin .clear, args := #[x], argTypes := #[t] }) ty Φ := ⟨fun _ _ _ => ef_of fun Q a w s ag => by
  subst hm
  have s1 := s.pick hp
  obtain ⟨hnd, ho⟩ := s1.on (.ow E e (.slice (some ⟨g, 0, none⟩) n cp) xs F) (by simp)
  have hF := ho.scal sc
  rcases ho with ⟨h1, -, -⟩ | ⟨g2, cap, cs, rest, G, h1, h2, h3, h4, h5, h6, h7⟩
  · cases h1
  cases h1
  have hG : G = [] := by rw [h7] at hF; simpa [Value.ownBlock] using hF
  subst hG h7
  have hl := h6.len
  obtain ⟨f1, f2⟩ := h6.cutL i (by omega)
  have hcs := List.take_append_drop (i * E.sz) cs
  have hd1 : (cs.take (i * E.sz)).length = i * E.sz := by have := f1.len; rw [List.length_take (l := xs), Nat.min_eq_left (by omega)] at this; exact this
  have hd2 : (cs.drop (i * E.sz)).length = (xs.length - i) * E.sz := by have := f2.len; rwa [List.length_drop (l := xs)] at this
  have hr := fun ty => run_clear_rows (P := c.P) w t e ty zv hS.u (zeroValue_of hE.i) one g (0 + i * E.sz) (xs.length - i) (cp - i) (by omega)
    (fun j hj => by rw [hE.s] at hj; rw [h2.cell, List.getElem?_eq_getElem (by rw [List.length_append, ← hcs, List.length_append, hd1, hd2]; omega)]; rfl) (fun j _ => h2.frozen _)
  have e1 : ∀ pos aft gd, (execOp a.eval ⟨none, .call { callee := .builtin .clear, args := #[x], argTypes := #[t] }, ty, pos, aft, gd⟩).run c.P w = .ok (.value (.tuple #[])) (w.setCells g (0 + i * E.sz) (Builtin.zeroCells zv.cells (xs.length - i)).toList) := by
    intro pos aft gd
    simp only [execOp, resolve, invoke, builtin, Sem.run_bind, Sem.run_pure, Result.andThen_ok, List.map_toArray, List.map_cons, List.map_nil, ag.ev hx, hr]
  rw [e1]
  have hzl : (Builtin.zeroCells zv.cells (xs.length - i)).toList.length = (xs.length - i) * E.sz := by rw [zeroCells_len, hE.s]
  have R0 : Row w g e (cs.take (i * E.sz) ++ cs.drop (i * E.sz) ++ rest) := by rw [hcs]; exact h2
  have R1 := Row.put (Builtin.zeroCells zv.cells (xs.length - i)).toList _ R0 (p := 0 + i * E.sz) (by omega) (by rw [hzl, hd2])
  have hk := putCells_keep (g := g) (Builtin.zeroCells zv.cells (xs.length - i)).toList w (0 + i * E.sz)
  rw [putCells_eq w g] at R1 hk
  have hW : (Pc.ow E e (.slice (some ⟨g, 0, none⟩) xs.length cp) (xs.take i ++ List.replicate (xs.length - i) z0) [g]).P (w.setCells g (0 + i * E.sz) (Builtin.zeroCells zv.cells (xs.length - i)).toList) := by
    have hll : (xs.take i ++ List.replicate (xs.length - i) z0).length = xs.length := by rw [List.length_append, List.length_take, List.length_replicate]; omega
    have hfl : Flat E (w.setCells g (0 + i * E.sz) (Builtin.zeroCells zv.cells (xs.length - i)).toList) (cs.take (i * E.sz) ++ (Builtin.zeroCells zv.cells (xs.length - i)).toList) (xs.take i ++ List.replicate (xs.length - i) z0) [] := by
      rw [zeroCells_flat]
      exact (f1.all _).append (Flat.rep0 (hz _) _)
    refine ⟨by simp, .inr ⟨g, cp, cs.take (i * E.sz) ++ (Builtin.zeroCells zv.cells (xs.length - i)).toList, rest, [], by rw [hll], R1, by rw [hll]; exact h3, h4, ?_, hfl, rfl⟩⟩
    rw [List.length_append, hzl, hd1, ← Nat.add_mul]
    rw [← h5, hl]
    congr 2
    omega
  exact h.h _ _ (St.turn (M := [.ow E e (.slice (some ⟨g, 0, none⟩) xs.length cp) xs [g]]) (N := [.ow E e (.slice (some ⟨g, 0, none⟩) xs.length cp) (xs.take i ++ List.replicate (xs.length - i) z0) [g]]) s1 (by simpa [List.filter, Pc.mu, fp, Pc.F] using hk) (by intro q hq; rw [List.mem_singleton] at hq; subst hq; exact hW) ⟨by simp, trivial⟩ (by
      intro q hq b hb
      rw [List.mem_singleton] at hq; subst hq
      exact .inr (.inl ⟨_, List.mem_singleton.2 rfl, rfl, hb⟩))) ag⟩
end
end Go.Proofs.Ytgogcgkocjpgoaa
/- Slices whose elements have blocks of their own: their cells and what stands behind them, told apart. Plain: no program in sight. -/
namespace Go.Proofs.Ytgogcgkocjpgoaa
open Go.RowKit
/-- m cells, whatever they hold -/
def EC (m : Nat) : Elem (List Value) where
  sz := m
  rep _ cs x F := cs = x ∧ (x.length = m ∧ ∀ u ∈ x, u.oneCell' = true) ∧ F = []
  len h := by obtain ⟨rfl, ⟨h, _⟩, _⟩ := h; exact h
  lt h := by obtain ⟨_, _, rfl⟩ := h; simp
  frame h _ := h
theorem scal_EC (m : Nat) : Scal (EC m) := fun h => h.2.2
theorem one_EC (m : Nat) : One (EC m) := fun h => by obtain ⟨rfl, ⟨_, h⟩, _⟩ := h; exact h
theorem ec_flat {m : Nat} {w : World} : ∀ {ys : List (List Value)} {cs : List Value} {F : List Nat}, Flat (EC m) w cs ys F → cs = ys.flatten ∧ F = [] ∧ ∀ y ∈ ys, y.length = m
  | [], _, _, h => ⟨h.1, h.2, by simp⟩
  | y :: r, _, _, h => by
    obtain ⟨c1, c2, F1, F2, rfl, rfl, ⟨rfl, ⟨h1, _⟩, rfl⟩, h2⟩ := h
    obtain ⟨rfl, rfl, h4⟩ := ec_flat h2
    refine ⟨by simp, rfl, fun z hz => ?_⟩
    rcases List.mem_cons.1 hz with rfl | hz
    · exact h1
    · exact h4 z hz
theorem flat_ec {α : Type} {E : Elem α} {w w' : World} (one : One E) : ∀ {xs : List α} {cs : List Value} {G : List Nat}, Flat E w cs xs G → ∃ ys : List (List Value), ys.length = xs.length ∧ cs = ys.flatten ∧ (∀ y ∈ ys, y.length = E.sz) ∧ Flat (EC E.sz) w' cs ys []
  | [], _, _, h => ⟨[], rfl, h.1, by simp, h.1, rfl⟩
  | x :: r, _, _, h => by
    obtain ⟨c1, c2, F1, F2, rfl, rfl, h1, h2⟩ := h
    obtain ⟨ys, e1, rfl, e2, h3⟩ := flat_ec (w' := w') one h2
    refine ⟨c1 :: ys, by simp [e1], by simp, fun z hz => ?_, c1, ys.flatten, [], [], rfl, rfl, ⟨rfl, ⟨E.len h1, one h1⟩, rfl⟩, h3⟩
    rcases List.mem_cons.1 hz with rfl | hz
    · exact E.len h1
    · exact e2 z hz
theorem flat_len {m : Nat} : ∀ {ys : List (List Value)}, (∀ y ∈ ys, y.length = m) → ys.flatten.length = ys.length * m
  | [], _ => by simp
  | y :: r, h => by
    have := flat_len (m := m) (ys := r) fun z hz => h z (by simp [hz])
    rw [List.flatten_cons, List.length_append, this, h y (by simp), List.length_cons, Nat.add_mul]; omega
theorem Flat.cut {α : Type} {E : Elem α} {w : World} {c1 c2 : List Value} {x1 x2 : List α} {G : List Nat} (h : Flat E w (c1 ++ c2) (x1 ++ x2) G) (hl : c1.length = x1.length * E.sz) : ∃ G1 G2, G = G1 ++ G2 ∧ Flat E w c1 x1 G1 ∧ Flat E w c2 x2 G2 := by
  obtain ⟨d1, d2, G1, G2, he, hG, h1, h2⟩ := h.split
  have : d1.length = c1.length := by rw [h1.len, hl]
  obtain ⟨rfl, rfl⟩ := List.append_inj he this.symm
  exact ⟨G1, G2, hG, h1, h2⟩
theorem sep_nd : ∀ {N : List Pc}, (fp N).Nodup → Sep N
  | [], _ => trivial
  | p :: N, h => ⟨fun q hq _ b hb hqb => nodup_apt h hb (mem_fp.2 ⟨q, hq, hqb⟩), sep_nd (List.nodup_append.1 h).2.1⟩
theorem St.swap {G D w0 H M N R w} (s : St G D w0 H w) (hM : Picks H M R) (hm : ∀ p ∈ M, p.mu = true) (hN : Hol N w) (hnd : (fp M).Nodup → (fp N).Nodup) (hF : ∀ b ∈ fp N, b ∈ fp M) : St G D w0 (N ++ R) w :=
  have s1 : St G D w0 (M ++ R) w := by simpa using hM.st (X := []) (by simpa using s)
  have sM : Sep M := by
    have : ∀ (M : List Pc), Sep (M ++ R) → Sep M := by
      intro M
      induction M with
      | nil => intro _; trivial
      | cons p M ih => intro h; exact ⟨fun q hq => h.1 q (by simp [hq]), ih h.2⟩
    exact this M s1.sep
  have hn : (fp M).Nodup := fp_nd (by simpa using hm) (fun p hp => s1.on p (by simp [hp])) sM
  St.turn (M := M) (N := N) s1 (Keep.refl _ w) hN (sep_nd (hnd hn)) fun p hp b hb => by
    obtain ⟨q, hq, hqb⟩ := mem_fp.1 (hF b (mem_fp.2 ⟨p, hp, hb⟩))
    exact .inr (.inl ⟨q, hq, hm q hq, hqb⟩)
section
variable {c : Cx} {fr : Fr} {H : List Pc} {Φ : Gl}
/-- the cells of an owned slice, and what stands behind them -/
theorem t_shal {α : Type} {E : Elem α} (one : One E) {t : TypeId} {v : Value} {xs : List α} {F : List Nat} {S : List Pc} {m : Nat} (hm : E.sz = m)
    (h : ∀ (ys : List (List Value)) F0 G, ys.length = xs.length → (∀ y ∈ ys, y.length = m) → T c fr (.ow (EC m) t v ys F0 :: .flat E ys.flatten xs G :: S) Φ) (hp : Pick H (.ow E t v xs F) S := by (repeat (first | exact .here | apply Pick.there)); first | done | fail) : T c fr H Φ := .mk fun a w s g => by
  subst hm
  have s1 := s.pick hp
  obtain ⟨hnd, ho⟩ := s1.on (.ow E t v xs F) (by simp)
  rcases ho with ⟨rfl, rfl, rfl⟩ | ⟨b, cap, cs, rest, G, rfl, h2, h3, h4, h5, h6, rfl⟩
  · refine (h [] [] [] rfl (by simp)).h a w (s1.swap (M := [_]) (N := [.ow (EC E.sz) t (.slice none 0 0) [] [], .flat E [] [] []]) (.cons .here .nil) (by intro p hp; simp at hp; subst hp; rfl) ?_ (fun _ => by simp [fp, Pc.F]) (by simp [fp, Pc.F])) g
    intro p hp
    simp only [List.mem_cons, List.not_mem_nil, or_false] at hp
    rcases hp with rfl | rfl
    · exact ⟨by simp, .inl ⟨rfl, rfl, rfl⟩⟩
    · exact ⟨by simp, rfl, rfl⟩
  · obtain ⟨ys, e1, rfl, e2, h7⟩ := flat_ec (w' := w) one h6
    refine (h ys [b] G e1 e2).h a w (s1.swap (M := [_]) (N := [.ow (EC E.sz) t (.slice (some ⟨b, 0, none⟩) xs.length cap) ys [b], .flat E ys.flatten xs G]) (.cons .here .nil) (by intro p hp; simp at hp; subst hp; rfl) ?_ (fun hn => by simpa [fp, Pc.F] using hn) (by simp [fp, Pc.F])) g
    intro p hp
    simp only [List.mem_cons, List.not_mem_nil, or_false] at hp
    rcases hp with rfl | rfl
    · exact ⟨by simp, .inr ⟨b, cap, ys.flatten, rest, [], by rw [e1], h2, by rw [e1]; exact h3, h4, h5, h7, rfl⟩⟩
    · exact ⟨(List.nodup_cons.1 hnd).2, h6⟩
/-- .. and back -/
theorem t_deep {α : Type} {E : Elem α} {t : TypeId} {a : Option Addr} {n cp : Nat} {ys : List (List Value)} {cs : List Value} {xs : List α} {F G : List Nat} {S S2 : List Pc} {m : Nat}
    (h : T c fr (.ow E t (.slice a n cp) xs (F ++ G) :: S2) Φ) (hm : E.sz = m) (hc : cs = ys.flatten) (hl : ys.length = xs.length) (hp : Pick H (.ow (EC m) t (.slice a n cp) ys F) S := by (repeat (first | exact .here | apply Pick.there)); first | done | fail) (hp2 : Pick S (.flat E cs xs G) S2 := by (repeat (first | exact .here | apply Pick.there)); first | done | fail) : T c fr H Φ := .mk fun ac w s g => by
  subst hm hc
  have a1 := s.on _ hp.mem
  have a2 := s.on _ (hp.sub _ hp2.mem)
  obtain ⟨nd1, o1⟩ := a1
  obtain ⟨nd2, f2⟩ := a2
  refine h.h ac w (s.swap (M := [.ow (EC E.sz) t (.slice a n cp) ys F, .flat E ys.flatten xs G]) (N := [.ow E t (.slice a n cp) xs (F ++ G)]) (.cons hp (.cons hp2 .nil)) (by intro p hp; simp at hp; rcases hp with rfl | rfl <;> rfl) ?_ (fun hn => by simpa [fp, Pc.F] using hn) (by simp [fp, Pc.F])) g
  have hnd : (F ++ G).Nodup := by
    have s2 := s.pick hp
    refine List.nodup_append.2 ⟨nd1, nd2, fun b hb b' hb' e => ?_⟩
    subst e
    exact s2.sep.1 (.flat E ys.flatten xs G) hp2.mem rfl b hb hb'
  intro p hp
  simp only [List.mem_cons, List.not_mem_nil, or_false] at hp
  subst hp
  refine ⟨hnd, ?_⟩
  rcases o1 with ⟨h1, rfl, rfl⟩ | ⟨b, cap, cs, rest, G', h1, h2, h3, h4, h5, h6, rfl⟩
  · cases h1
    have : xs = [] := List.eq_nil_of_length_eq_zero hl.symm
    subst this
    exact .inl ⟨rfl, rfl, by simpa using f2.2⟩
  · cases h1
    obtain ⟨rfl, rfl, -⟩ := ec_flat h6
    exact .inr ⟨b, cp, ys.flatten, rest, G, by rw [hl], h2, by rw [← hl]; exact h3, h4, h5, f2, rfl⟩
/-- what stands behind one element -/
theorem t_fcut {α : Type} {E : Elem α} {ys : List (List Value)} {xs : List α} {G : List Nat} {S : List Pc} (i : Nat) (hi : i < xs.length) (hl : ys.length = xs.length) (hm : ∀ y ∈ ys, y.length = E.sz)
    (h : ∀ G1 Gi G2, T c fr (.flat E (ys.take i).flatten (xs.take i) G1 :: .own E (.agg (ys[i]'(by omega)).toArray) xs[i] Gi :: .flat E (ys.drop (i + 1)).flatten (xs.drop (i + 1)) G2 :: S) Φ) (hp : Pick H (.flat E ys.flatten xs G) S := by (repeat (first | exact .here | apply Pick.there)); first | done | fail) : T c fr H Φ := .mk fun ac w s g => by
  have s1 := s.pick hp
  obtain ⟨hnd, hf⟩ := s1.on (.flat E ys.flatten xs G) (by simp)
  have e1 : ys.flatten = (ys.take i).flatten ++ (ys[i]'(by omega) ++ (ys.drop (i + 1)).flatten) := by
    rw [← List.flatten_cons, ← List.drop_eq_getElem_cons, ← List.flatten_append, List.take_append_drop]
  have e2 : xs = xs.take i ++ ([xs[i]] ++ xs.drop (i + 1)) := by simp
  have hf2 : Flat E w ((ys.take i).flatten ++ (ys[i]'(by omega) ++ (ys.drop (i + 1)).flatten)) (xs.take i ++ ([xs[i]] ++ xs.drop (i + 1))) G := by rw [← e1, ← e2]; exact hf
  obtain ⟨G1, G', rfl, f1, f2⟩ := hf2.cut (by rw [flat_len (m := E.sz) fun y hy => hm y (List.mem_of_mem_take hy)]; simp [hl])
  obtain ⟨Gi, G2, rfl, ⟨d1, d2, F1, F2, h1, h2, h3, h4⟩, f3⟩ := f2.cut (by rw [hm _ (List.getElem_mem _)]; simp)
  obtain ⟨rfl, rfl⟩ := h4
  simp only [List.append_nil] at h1 h2
  subst h1 h2
  refine (h G1 Gi G2).h ac w (s1.swap (M := [_]) (N := [.flat E (ys.take i).flatten (xs.take i) G1, .own E (.agg (ys[i]'(by omega)).toArray) xs[i] Gi, .flat E (ys.drop (i + 1)).flatten (xs.drop (i + 1)) G2]) (.cons .here .nil) (by intro p hp; simp at hp; subst hp; rfl) ?_ (fun hn => by simpa [fp, Pc.F] using hn) (by simp [fp, Pc.F])) g
  have hn1 := List.nodup_append.1 hnd
  have hn2 := List.nodup_append.1 hn1.2.1
  intro p hp
  simp only [List.mem_cons, List.not_mem_nil, or_false] at hp
  rcases hp with rfl | rfl | rfl
  · exact ⟨hn1.1, f1⟩
  · exact ⟨hn2.1, _, rfl, h3⟩
  · exact ⟨hn2.2.1, f3⟩
theorem t_fjoin {α : Type} {E : Elem α} {c1 c2 : List Value} {x1 x2 : List α} {G1 G2 : List Nat} {S S2 : List Pc} (h : T c fr (.flat E (c1 ++ c2) (x1 ++ x2) (G1 ++ G2) :: S2) Φ) (hp : Pick H (.flat E c1 x1 G1) S := by (repeat (first | exact .here | apply Pick.there)); first | done | fail) (hp2 : Pick S (.flat E c2 x2 G2) S2 := by (repeat (first | exact .here | apply Pick.there)); first | done | fail) : T c fr H Φ := .mk fun ac w s g => by
  obtain ⟨nd1, f1⟩ := s.on _ hp.mem
  obtain ⟨nd2, f2⟩ := s.on _ (hp.sub _ hp2.mem)
  refine h.h ac w (s.swap (M := [.flat E c1 x1 G1, .flat E c2 x2 G2]) (N := [.flat E (c1 ++ c2) (x1 ++ x2) (G1 ++ G2)]) (.cons hp (.cons hp2 .nil)) (by intro p hp; simp at hp; rcases hp with rfl | rfl <;> rfl) ?_ (fun hn => by simpa [fp, Pc.F] using hn) (by simp [fp, Pc.F])) g
  intro p hq
  simp only [List.mem_cons, List.not_mem_nil, or_false] at hq
  subst hq
  refine ⟨List.nodup_append.2 ⟨nd1, nd2, fun b hb b' hb' e => ?_⟩, f1.append f2⟩
  subst e
  exact (s.pick hp).sep.1 (.flat E c2 x2 G2) hp2.mem rfl b hb hb'
/-- the first k of a slice that reads, beside it -/
theorem t_stk {α : Type} {E : Elem α} {a : Option Addr} {n cp : Nat} {xs : List α} {F : List Nat} (k : Nat) (hk : k ≤ xs.length) (h : ∀ F', n ≤ cp → cp ≤ 9223372036854775807 → T c fr (.sl E (.slice a k cp) (xs.take k) F' :: H) Φ) (hm : .sl E (.slice a n cp) xs F ∈ H := by (repeat (first | exact .head _ | apply List.Mem.tail)); first | done | fail) : T c fr H Φ := .mk fun ac w s g => by
  obtain ⟨hz, hs⟩ := s.get hm
  obtain ⟨rfl, hnc, hmx⟩ := hs.caps
  obtain ⟨F', hF, h2⟩ := hs.takeS k hk
  exact (h F' hnc (by unfold maxLen at hmx; omega)).h ac w (s.ro hm rfl rfl ⟨hz, h2⟩ hF) g
end
end Go.Proofs.Ytgogcgkocjpgoaa
/- Walks of the small functions on elements: serials, clocks, faces. -/
namespace Go.Proofs.Ytgogcgkocjpgoaa
open Go.RowKit

def isSer (x : Int) : Bool := btw 0 x 65535
def isClk (x : Int) : Bool := btw 0 x 9999
def isFac (x : Int) : Bool := btw 1 x 7
theorem IsSerial_c (x : Int) (w : World) : Calls Try.prog 36 #[.int .i64 x] w fun e w' => e = .returned (.bool (isSer x)) ∧ w = w' := by
  go_enter Try.func36, Try.ntmps36
  go_wp2_with (go_at_call 50; refine (within_c _ _ _ _).mono ?_; rintro e w' ⟨rfl, rfl⟩)
  go_ret
  exact ⟨rfl, rfl⟩
theorem l2Good_c (x : Int) (w : World) : Calls Try.prog 32 #[.int .i64 x] w fun e w' => e = .returned (.bool (isSer x)) ∧ w = w' := by
  go_enter Try.func32, Try.ntmps32
  go_wp2_with (go_at_call 61; refine (l1In_c _ _ _ _).mono ?_; rintro e w' ⟨rfl, rfl⟩)
  go_ret
  exact ⟨rfl, rfl⟩
theorem isClock_c (x : Int) (w : World) : Calls Try.prog 53 #[.int .i64 x] w fun e w' => e = .returned (.bool (isClk x)) ∧ w = w' := by
  go_enter Try.func53, Try.ntmps53
  go_wp2_with (go_at_call 50; refine (within_c _ _ _ _).mono ?_; rintro e w' ⟨rfl, rfl⟩)
  go_ret
  exact ⟨rfl, rfl⟩
theorem l11Clock_c (x : Int) (w : World) : Calls Try.prog 60 #[.int .i64 x] w fun e w' => e = .returned (.bool (isClk x)) ∧ w = w' := by
  go_enter Try.func60, Try.ntmps60
  go_wp2_with (go_at_call 61; refine (l1In_c _ _ _ _).mono ?_; rintro e w' ⟨rfl, rfl⟩)
  go_ret
  exact ⟨rfl, rfl⟩
theorem isFace_c (x : Int) (w : World) : Calls Try.prog 45 #[.int .i64 x] w fun e w' => e = .returned (.bool (isFac x)) ∧ w = w' := by
  go_enter Try.func45, Try.ntmps45
  go_wp2_with (go_at_call 50; refine (within_c _ _ _ _).mono ?_; rintro e w' ⟨rfl, rfl⟩)
  go_ret
  exact ⟨rfl, rfl⟩

/-- number i of a list is within bounds, and greater than the one before it -/
def risAt (lo hi : Int) (zs : List Int) (i : Nat) : Bool := btw lo (zs.getD i 0) hi && (i == 0 || decide (zs.getD (i - 1) 0 < zs.getD i 0))
def rising (lo hi : Int) (zs : List Int) : Bool := allUpTo (risAt lo hi zs) zs.length
theorem risAt_zero {lo hi : Int} {zs : List Int} (h : 0 < zs.length) : risAt lo hi zs 0 = btw lo zs[0] hi := by simp [risAt, h]
theorem risAt_succ {lo hi : Int} {zs : List Int} {m : Nat} (h : m + 1 < zs.length) : risAt lo hi zs (m + 1) = (btw lo zs[m + 1] hi && decide (zs[m]'(by omega) < zs[m + 1])) := by
  simp [risAt, h, show m < zs.length by omega]
set_option maxHeartbeats 800000 in
theorem areFaces_c (v : Value) (zs : List Int) (F : List Nat) (w : World) (h : Sl EInt w v zs F) :
    Calls Try.prog 37 #[v] w fun e w' => e = .returned (.bool (rising 1 7 zs)) ∧ w = w' := by
  obtain ⟨a, cap, rfl⟩ := h.slice
  obtain ⟨-, hl, hc⟩ := h.int
  unfold maxLen at hl
  go_enter Try.func37, Try.ntmps37
  go_wp2
  go_loop [3, 4, 7] (fun _ _ i => ∃ k : Nat, k ≤ zs.length ∧ i = .int .i64 k ∧ Hid (∀ j, j < k → risAt 1 7 zs j = true)) (fun _ _ i => zs.length - (intOf i).toNat)
  case atStart => exact ⟨0, Nat.zero_le _, rfl, fun j hj => by omega⟩
  case round =>
    obtain ⟨k, hk, rfl, hz⟩ := hrel
    by_cases hlt : k < zs.length
    · obtain ⟨b, off, rfl, c0⟩ := hc k hlt
      rcases k with _ | m
      · have hr := Lib.hid (risAt_zero (lo := 1) (hi := 7) hlt)
        clear hc
        simp only [Nat.add_zero] at c0
        go_wp2_with (go_at_call 45; refine (isFace_c _ _).mono ?_; rintro e w' ⟨rfl, rfl⟩)
        · have t : btw 1 zs[0] 7 = true := by assumption
          exact ⟨⟨1, by omega, by go_num, upto_snoc hz.out (by rw [hr.out, t])⟩, by simp [intOf]; omega⟩
        · have t : ¬ btw 1 zs[0] 7 = true := by assumption
          go_ret
          exact ⟨ret_bool (allUpTo_no hlt (by rw [hr.out]; simpa using t)).symm, rfl⟩
      · obtain ⟨b', off', hb', c1⟩ := hc m (by omega)
        cases hb'
        have hr := Lib.hid (risAt_succ (lo := 1) (hi := 7) hlt)
        clear hc
        go_wp2_with (go_at_call 45; refine (isFace_c _ _).mono ?_; rintro e w' ⟨rfl, rfl⟩)
        · have t : zs[m + 1] ≤ zs[m] := by assumption
          go_ret
          exact ⟨ret_bool (allUpTo_no hlt (by rw [hr.out]; simp; omega)).symm, rfl⟩
        · have t : btw 1 zs[m + 1] 7 = true := by assumption
          have t2 : zs[m] < zs[m + 1] := by assumption
          exact ⟨⟨m + 2, by omega, by go_num, upto_snoc hz.out (by rw [hr.out, t]; simp; omega)⟩, by simp [intOf]; omega⟩
        · have t : ¬ btw 1 zs[m + 1] 7 = true := by assumption
          go_ret
          exact ⟨ret_bool (allUpTo_no hlt (by rw [hr.out]; simp [t])).symm, rfl⟩
    · go_wp2
      go_ret
      exact ⟨ret_bool (allUpTo_yes (fun i hi => hz.out i (by omega))).symm, rfl⟩
set_option maxHeartbeats 800000 in
theorem l1Rising_c (v : Value) (zs : List Int) (F : List Nat) (lo hi : Int) (w : World) (h : Sl EInt w v zs F) :
    Calls Try.prog 62 #[v, .int .i64 lo, .int .i64 hi] w fun e w' => e = .returned (.bool (rising lo hi zs)) ∧ Below w.heap.size w w' := by
  obtain ⟨a, cap, rfl⟩ := h.slice
  obtain ⟨-, hl, -⟩ := h.int
  unfold maxLen at hl
  go_enter Try.func62, Try.ntmps62
  go_wp2
  go_loopw [7] (fun i wr => ∃ k : Nat, k ≤ zs.length ∧ i = .int .i64 k ∧ Hid (∀ j, j < k → risAt lo hi zs j = true) ∧ Below w.heap.size w wr) (fun i _ => zs.length - (intOf i).toNat)
  case atStart => exact ⟨0, Nat.zero_le _, rfl, fun j hj => by omega, Below.refl _ _⟩
  case round =>
    obtain ⟨k, hk, rfl, hz, hB⟩ := hrel
    have hc := (h.below (by decide) hB).int.2.2
    by_cases hlt : k < zs.length
    · obtain ⟨b, off, rfl, c0⟩ := hc k hlt
      rcases k with _ | m
      · have hr := Lib.hid (risAt_zero (lo := lo) (hi := hi) hlt)
        clear hc
        simp only [Nat.add_zero] at c0
        cases t : btw lo zs[0] hi
        · go_wp2_with fail
          go_quiet ((go_at_call 61; exact quiet_eq (l1In_c _ _ _ _)))
          go_wp2_with fail
          go_ret
          exact ⟨ret_bool (allUpTo_no hlt (by rw [hr.out, t])).symm, belowDrewN hB _⟩
        · go_wp2_with fail
          go_quiet ((go_at_call 61; exact quiet_eq (l1In_c _ _ _ _)))
          go_wp2_with fail
          exact ⟨⟨1, by omega, by go_num, upto_snoc hz.out (by rw [hr.out, t]), belowDrewN hB _⟩, by simp [intOf]; omega⟩
      · obtain ⟨b', off', hb', c1⟩ := hc m (by omega)
        cases hb'
        have hr := Lib.hid (risAt_succ (lo := lo) (hi := hi) hlt)
        clear hc
        cases t : btw lo zs[m + 1] hi
        · go_wp2_with fail
          go_quiet ((go_at_call 61; exact quiet_eq (l1In_c _ _ _ _)))
          go_wp2_with fail
          go_ret
          exact ⟨ret_bool (allUpTo_no hlt (by rw [hr.out, t]; rfl)).symm, belowDrewN hB _⟩
        · by_cases t2 : zs[m] < zs[m + 1]
          · go_wp2_with fail
            go_quiet ((go_at_call 61; exact quiet_eq (l1In_c _ _ _ _)))
            go_wp2_with fail
            exact ⟨⟨m + 2, by omega, by go_num, upto_snoc hz.out (by rw [hr.out, t]; simpa using t2), belowDrewN hB _⟩, by simp [intOf]; omega⟩
          · have t3 : zs[m + 1] ≤ zs[m] := by omega
            go_wp2_with fail
            go_quiet ((go_at_call 61; exact quiet_eq (l1In_c _ _ _ _)))
            go_wp2_with fail
            go_ret
            exact ⟨ret_bool (allUpTo_no hlt (by rw [hr.out]; simp; omega)).symm, belowDrewN hB _⟩
    · go_wp2
      go_ret
      exact ⟨ret_bool (allUpTo_yes (fun i hi => hz.out i (by omega))).symm, hB⟩
theorem l14Faces_c (v : Value) (zs : List Int) (F : List Nat) (w : World) (h : Sl EInt w v zs F) :
    Calls Try.prog 33 #[v] w fun e w' => e = .returned (.bool (rising 1 7 zs)) ∧ Below w.heap.size w w' := by
  go_enter Try.func33, Try.ntmps33
  go_wp2_with (go_at_call 62; refine (l1Rising_c _ zs F _ _ _ h).mono ?_; rintro e w' ⟨rfl, hb1⟩)
  go_ret
  exact ⟨rfl, hb1⟩
end Go.Proofs.Ytgogcgkocjpgoaa
/- Walks of Go's generic library functions on slices of impl.Entry. Written by wip/genlib.py. -/
namespace Go.Proofs.Ytgogcgkocjpgoaa
open Go.RowKit
set_option maxHeartbeats 800000 in
theorem IndexFunc_Entry (fid : FuncId) (hbd : Body Try.prog fid) (caps : Array Value) (v : Value) (xs : List Entry) (F : List Nat) (p : Entry → Bool) (w : World) (h : Sl EEntry w v xs F)
    (hp : ∀ (k : Nat) (hk : k < xs.length) (wr : World) (u : Value) (G : List Nat), Below w.heap.size w wr → IsV EEntry wr u xs[k] G → Calls Try.prog fid (#[u] ++ caps) wr fun e w' => e = .returned (.bool (p xs[k])) ∧ Below wr.heap.size wr w') :
    Calls Try.prog 81 #[v, .func (.func fid) #[] caps] w fun e w' => e = .returned (.int .i64 (fidx p xs)) ∧ Below w.heap.size w w' := by
  obtain ⟨a, cap, rfl⟩ := h.slice
  have hl := h.len
  unfold maxLen at hl
  go_enter Try.func81, Try.ntmps81
  go_wp2
  go_loopw [5, 8] (fun _ i wr => ∃ k : Nat, k ≤ xs.length ∧ i = .int .i64 k ∧ Hid (∀ j, j < k → ∀ hj : j < xs.length, p xs[j] = false) ∧ Below w.heap.size w wr) (fun _ i _ => xs.length - (intOf i).toNat)
  case atStart => exact ⟨0, Nat.zero_le _, rfl, fun j hj => by omega, Below.refl _ _⟩
  case round =>
    obtain ⟨k, hk, rfl, hz, hB⟩ := hrel
    by_cases hlt : k < xs.length
    · have hz0 := hz; clear hz
      obtain ⟨b, off, _, F1, rfl, hx, -, ja⟩ := (h.below (by decide) hB).at k hlt
      obtain ⟨v1, rfl, h1⟩ := id hx
      have a0 := ja 0 (by decide)
      have a1 := ja 1 (by decide)
      have a2 := ja 2 (by decide)
      simp only [show EEntry.sz = 3 from rfl, Nat.mul_one, Nat.add_zero, List.getElem?_cons_zero, List.getElem?_cons_succ] at a0 a1 a2
      clear ja
      have hr := hp k hlt wr _ F1 hB ⟨_, rfl, hx⟩
      have hp := Lib.hid hp
      cases hpk : p xs[k]
      all_goals
        rw [hpk] at hr
        have hpk := Lib.hid hpk
        have hr := Lib.hid hr
        go_wp2_with fail
        refine hbd.upon hr.out ?_
        rintro e w1 ⟨rfl, hb1⟩
        refine ⟨_, rfl, ?_⟩
        have hB := tr hB hb1 (Nat.le_refl _)
        clear hb1
        go_wp2_with fail
      · exact ⟨⟨k + 1, by omega, by go_num, fun j hj hl => by rcases Nat.lt_or_eq_of_le (Nat.le_of_lt_succ hj) with h | h; exact hz0.out j h hl; subst h; exact hpk.out, hB⟩, by simp [intOf]; omega⟩
      · go_ret
        exact ⟨ret_int (fidx_hit hlt hz0.out hpk.out).symm, hB⟩
    · go_wp2
      go_ret
      exact ⟨ret_int (fidx_none (fun j hj => hz.out j (by omega) hj)).symm, hB⟩
theorem ContainsFunc_Entry (fid : FuncId) (hbd : Body Try.prog fid) (caps : Array Value) (v : Value) (xs : List Entry) (F : List Nat) (p : Entry → Bool) (w : World) (h : Sl EEntry w v xs F)
    (hp : ∀ (k : Nat) (hk : k < xs.length) (wr : World) (u : Value) (G : List Nat), Below w.heap.size w wr → IsV EEntry wr u xs[k] G → Calls Try.prog fid (#[u] ++ caps) wr fun e w' => e = .returned (.bool (p xs[k])) ∧ Below wr.heap.size wr w') :
    Calls Try.prog 51 #[v, .func (.func fid) #[] caps] w fun e w' => e = .returned (.bool (xs.any p)) ∧ Below w.heap.size w w' := by
  have hp := Lib.hid hp
  go_enter Try.func51, Try.ntmps51
  go_wp2_with fail
  refine (IndexFunc_Entry fid hbd caps v xs F p _ h hp.out).mono ?_
  rintro e w1 ⟨rfl, hb1⟩
  go_wp2_with fail
  go_ret
  exact ⟨ret_bool (fidx_any p xs), hb1⟩
theorem Clone_Entry (v : Value) (xs : List Entry) (F : List Nat) (w : World) (h : Sl EEntry w v xs F) (hm : xs.length ≤ 4294967296) :
    Calls Try.prog 66 #[v] w fun e w' => ∃ v' F', e = .returned v' ∧ Ow EEntry 74 w' v' xs F' ∧ Hd F' ∧ (∀ b, v'.ownBlock = some b → w.heap.size ≤ b) ∧ (∀ b ∈ F', v'.ownBlock = some b ∨ b ∈ F) ∧ Below w.heap.size w w' := by
  obtain ⟨ao, c, news, Fy, rfl, hl, hfy, hFy, hsrc⟩ := h.src
  have hFl := hfy.lt
  have he := fun w (a : Option Addr) (n c : Nat) => Lib.run_eql_slice_nil (P := Try.prog) w 27 _ a n c 0 0 Try.underlying27
  go_enter Try.func66, Try.ntmps66
  rcases hsrc with ⟨rfl, rfl, rfl⟩ | ⟨ad, rfl, hn⟩
  · go_wp2
    go_ret
    exact ⟨.slice none 0 0, [], rfl, .inl ⟨rfl, rfl, rfl⟩, Hd.nil, (fun b e => by simp [Value.ownBlock] at e), by simp, Below.refl _ _⟩
  · go_wp2_with (at_builtin; refine wpList_apd one_EEntry (by decide) (by rfl) _ _ _ (by rfl) 74 (.agg #[.int .i64 0, .slice none 0 0, .int .i64 0]) 40 Try.underlying27 info_Entry rfl (.slice (some ⟨w.heap.size, 0, none⟩) 0 0) [] [w.heap.size] (by rfl) (Ow.empty (Row.made _ _ _)) (Hd.one _) (some ad) xs c (by rfl) news Fy (hfy.frame fun b hb => Below.heap_alloc _ _ _ (hFl b hb)) (.inr ⟨ad, rfl, fun j u hu => kc ((Below.refl _ _).alloc (Nat.le_refl _) _) (hn j u hu)⟩) (fun b hb e => by have := hFl b hb; simp [Value.ownBlock] at e; omega) (by simpa using hl) (by unfold maxLen at hl; simp; omega) ?_)
    intro v2 w2 F2 hA
    go_wp2_with fail
    go_ret
    have hB : Below w.heap.size w w2 := ((Below.refl _ _).alloc (Nat.le_refl _) _).trans (hA.keep.below (by simp) (by simp))
    have hs : ∀ b, v2.ownBlock = some b → w.heap.size ≤ b := fun b hb => by rcases hA.same with e | e <;> rw [e] at hb <;> simp [Value.ownBlock] at hb <;> omega
    refine ⟨v2, F2, rfl, by simpa using hA.ow, hA.hd, hs, fun b hb => ?_, hB⟩
    rw [hA.form [] (by simp [Value.ownBlock])] at hb
    simp at hb
    rcases hb with hb | hb
    · exact .inl hb
    · exact .inr (hFy b hb)
end Go.Proofs.Ytgogcgkocjpgoaa
/- Walks: an element is valid. -/
namespace Go.Proofs.Ytgogcgkocjpgoaa
open Go.RowKit

def okEntry (c : Int) (x : Entry) : Bool := isSer x.number && (decide (0 < x.faces.length) && (rising 1 7 x.faces && btw (c + 1) x.untl (c + 6)))
/-- entry i is valid, and no earlier one has its number -/
def entAt (c : Int) (es : List Entry) (i : Nat) : Bool := match es[i]? with
  | none => true
  | some x => okEntry c x && !((es.take i).any fun o => o.number == x.number)
theorem entAt_of {c : Int} {es : List Entry} {i : Nat} (h : i < es.length) : entAt c es i = (okEntry c es[i] && !((es.take i).any fun o => o.number == es[i].number)) := by
  simp [entAt, h]
def goodElement (e : Element) : Bool := isClk e.clock && decide (e.entries.length ≤ 5) && allUpTo (entAt e.clock e.entries) e.entries.length
theorem isClk_iff {c : Int} : isClk c = true ↔ 0 ≤ c ∧ c ≤ 9999 := by unfold isClk btw; simp

theorem any_take {es : List Entry} {m k : Nat} {p : Entry → Bool} (h : m < es.length) (hk : m < k) (hp : p es[m] = true) : (es.take k).any p = true := by
  rw [List.any_eq_true]; exact ⟨es[m], List.mem_take_iff_getElem.2 ⟨m, by omega, rfl⟩, hp⟩
theorem any_take_no {es : List Entry} {k : Nat} {n : Int} (h : ∀ q, q < k → ∀ hq : q < es.length, es[q].number ≠ n) : ((es.take k).any fun o => o.number == n) = false := by
  rw [List.any_eq_false]; intro x hx
  obtain ⟨i, hi, rfl⟩ := List.mem_take_iff_getElem.1 hx
  simpa using h i (by omega) (by omega)
theorem wrap_clk {c d : Int} (h : isClk c = true) (h1 : 0 ≤ d) (h2 : d ≤ 100) : wrap64 (c + d) = c + d := by
  have := isClk_iff.1 h; unfold wrap64; omega
theorem good_no {e : Element} {k : Nat} (hk : k < e.entries.length) (h : isClk e.clock = true → entAt e.clock e.entries k = false) : goodElement e = false := by
  unfold goodElement
  cases hc : isClk e.clock
  · rfl
  · rw [allUpTo_no hk (h hc)]; simp
theorem IsValidElement_1_c (x : Entry) (num : Int) (b : Nat) (G : List Nat) (u : Value) (w : World) (h : IsV EEntry w u x G) (hc : w.cell? ⟨b, 0, none⟩ = some (.int .i64 num)) :
    Calls Try.prog 52 #[u, .pointer (some ⟨b, 0, none⟩)] w fun e w' => e = .returned (.bool (x.number == num)) ∧ Below w.heap.size w w' := by
  obtain ⟨_, rfl, v1, rfl, -⟩ := h
  have hc1 := fun o : Obj => kc ((Below.refl w.heap.size w).alloc (Nat.le_refl _) o) hc
  go_enter Try.func52, Try.ntmps52
  go_wp2
  go_ret
  exact ⟨ret_bool rfl, (Below.refl _ _).alloc (Nat.le_refl _) _⟩
set_option maxHeartbeats 1600000 in
theorem IsValidElement_c (v : Value) (e : Element) (F : List Nat) (w : World) (h : IsV EElement w v e F) :
    Calls Try.prog 22 #[v] w fun e' w' => e' = .returned (.bool (goodElement e)) ∧ Below w.heap.size w w' := by
  obtain ⟨_, rfl, v1, rfl, h1⟩ := h
  obtain ⟨a, cap, rfl⟩ := h1.slice
  have hl := h1.len
  unfold maxLen at hl
  have hB0 : ∀ A : Obj, Below w.heap.size w (w.alloc A) := fun A => (Below.refl _ _).alloc (Nat.le_refl _) _
  go_enter Try.func22, Try.ntmps22
  go_wp2
  go_loopw [3, 4, 8] (fun _ _ i wr => ∃ k : Nat, k ≤ e.entries.length ∧ i = .int .i64 k ∧ Hid (isClk e.clock = true → ∀ j, j < k → entAt e.clock e.entries j = true) ∧ Row wr w.heap.size 29 [.int .i64 e.clock, .slice a e.entries.length cap] ∧ Below w.heap.size w wr) (fun _ _ i _ => e.entries.length - (intOf i).toNat)
  case atStart => exact ⟨0, Nat.zero_le _, rfl, fun _ j hj => by omega, by simp [row_alloc], hB0 _⟩
  case round =>
    obtain ⟨k, hk, rfl, hz, hr, hB⟩ := hrel
    have c0 := hr.cells
    by_cases hlt : k < e.entries.length
    · have hz0 := hz; clear hz
      obtain ⟨b, off, _, F1, rfl, hx, -, ja⟩ := (h1.below (by decide) hB).at k hlt
      obtain ⟨u1, rfl, hf⟩ := id hx
      obtain ⟨fa, fc, rfl⟩ := hf.slice
      have a0 := ja 0 (by decide)
      have a1 := ja 1 (by decide)
      have a2 := ja 2 (by decide)
      simp only [show EEntry.sz = 3 from rfl, Nat.mul_one, Nat.add_zero, List.getElem?_cons_zero, List.getElem?_cons_succ] at a0 a1 a2
      clear ja
      have d0 := fun A => (hr.alloc A).cells
      have hf1 := fun A : Obj => hf.below (by decide) ((Below.refl wr.heap.size wr).alloc (Nat.le_refl _) A)
      have hB1 := fun A : Obj => tr hB ((Below.refl wr.heap.size wr).alloc (Nat.le_refl _) A) (Nat.le_refl _)
      have hcp := h1.caps
      by_cases hfe : e.entries[k].faces = []
      · have hE : ((e.entries[k].faces.length : Int) == 0) = true := by simp [hfe]
        have hno := Lib.hid (good_no hlt (fun _ => by rw [entAt_of hlt]; simp [okEntry, hfe]))
        go_wp2_with (first
          | (go_at_call 36; refine (IsSerial_c _ _).mono ?_; rintro e' w' ⟨rfl, rfl⟩)
          | (go_at_call 37; refine (areFaces_c _ _ _ _ (hf1 _)).mono ?_; rintro e' w' ⟨rfl, rfl⟩)
          | (go_at_call 50; refine (within_c _ _ _ _).mono ?_; rintro e' w' ⟨rfl, rfl⟩))
        all_goals go_ret
        all_goals exact ⟨ret_bool hno.out.symm, hB1 _⟩
      · have hE : ((e.entries[k].faces.length : Int) == 0) = false := by simp [hfe]
        have hfe := Lib.hid hfe
        go_wp2_with (first
          | (go_at_call 36; refine (IsSerial_c _ _).mono ?_; rintro e' w' ⟨rfl, rfl⟩)
          | (go_at_call 37; refine (areFaces_c _ _ _ _ (hf1 _)).mono ?_; rintro e' w' ⟨rfl, rfl⟩)
          | (go_at_call 50; refine (within_c _ _ _ _).mono ?_; rintro e' w' ⟨rfl, rfl⟩))
        · have t : (!btw (wrap64 (e.clock + 1)) e.entries[k].untl (wrap64 (e.clock + 6))) = true := by assumption
          go_ret
          refine ⟨ret_bool (good_no hlt fun hc => ?_).symm, hB1 _⟩
          rw [wrap_clk hc (by omega) (by omega), wrap_clk hc (by omega) (by omega)] at t
          rw [entAt_of hlt]; simp only [okEntry]; simp at t; simp [t]
        · have t1 : isSer e.entries[k].number = true := by assumption
          have t2 : rising 1 7 e.entries[k].faces = true := by assumption
          have t : (!btw (wrap64 (e.clock + 1)) e.entries[k].untl (wrap64 (e.clock + 6))) = false := by assumption
          obtain ⟨G, -, hs⟩ := h1.takeS k hk
          refine (ContainsFunc_Entry _ (.mk' Try.func52 rfl rfl) _ _ _ _ (fun o => o.number == e.entries[k].number) _ (hs.below (by decide) (hB1 _)) ?_).mono ?_
          · intro j hj w2 u G2 hb2 hu
            exact IsValidElement_1_c _ _ _ _ _ _ hu (kc hb2 (by simp))
          rintro e' w2 ⟨rfl, hb2⟩
          have hr2 := (hr.alloc _).below hb2
          have hB2 := tr (hB1 _) hb2 (Nat.le_refl _)
          have hc2 := hr2.cells
          have hAt := Lib.hid (entAt_of (c := e.clock) hlt)
          cases hany : (e.entries.take k).any fun o => o.number == e.entries[k].number
          · rw [hany] at hAt
            have hany := Lib.hid hany
            go_wp2_with fail
            refine ⟨⟨k + 1, by omega, by go_num, fun hc => upto_snoc (hz0.out hc) ?_, hr2, hB2⟩, by simp [intOf]; omega⟩
            rw [wrap_clk hc (by omega) (by omega), wrap_clk hc (by omega) (by omega)] at t
            rw [hAt.out]; simp only [okEntry, t1, t2]; simp at t; simp [t, List.length_pos_iff, hfe.out]
          · rw [hany] at hAt
            have hany := Lib.hid hany
            go_wp2_with fail
            go_ret
            exact ⟨ret_bool (good_no hlt fun _ => by rw [hAt.out]; simp).symm, hB2⟩
        · have t : ¬rising 1 7 e.entries[k].faces = true := by assumption
          go_ret
          refine ⟨ret_bool (good_no hlt fun hc => ?_).symm, hB1 _⟩
          rw [entAt_of hlt]; simp [okEntry, t]
        · have t : ¬isSer e.entries[k].number = true := by assumption
          go_ret
          refine ⟨ret_bool (good_no hlt fun hc => ?_).symm, hB1 _⟩
          rw [entAt_of hlt]; simp [okEntry, t]
    · have hk : k = e.entries.length := by omega
      subst hk
      have hz0 := hz; clear hz
      cases hck : isClk e.clock
      · have hn := Lib.hid (show goodElement e = false by unfold goodElement; rw [hck]; rfl)
        have hck := Lib.hid hck
        go_wp2_with (go_at_call 53; refine (isClock_c _ _).mono ?_; rintro e' w' ⟨rfl, rfl⟩; rw [hck.out])
        go_ret
        exact ⟨ret_bool hn.out.symm, hB⟩
      · have hn := Lib.hid (show goodElement e = decide ((e.entries.length : Int) ≤ 5) by unfold goodElement; rw [hck, allUpTo_yes (hz0.out hck)]; simp; omega)
        have hck := Lib.hid hck
        go_wp2_with (go_at_call 53; refine (isClock_c _ _).mono ?_; rintro e' w' ⟨rfl, rfl⟩; rw [hck.out])
        go_ret
        exact ⟨ret_bool hn.out.symm, hB⟩
set_option maxHeartbeats 1600000 in
theorem l14Good_c (v : Value) (e : Element) (F : List Nat) (w : World) (h : IsV EElement w v e F) :
    Calls Try.prog 31 #[v] w fun e' w' => e' = .returned (.bool (goodElement e)) ∧ Below w.heap.size w w' := by
  obtain ⟨_, rfl, v1, rfl, h1⟩ := h
  obtain ⟨a, cap, rfl⟩ := h1.slice
  have hl := h1.len
  unfold maxLen at hl
  have hB0 : ∀ A : Obj, Below w.heap.size w (w.alloc A) := fun A => (Below.refl _ _).alloc (Nat.le_refl _) _
  go_enter Try.func31, Try.ntmps31
  cases hck : isClk e.clock
  · have hn := Lib.hid (show goodElement e = false by unfold goodElement; rw [hck]; rfl)
    have hck := Lib.hid hck
    go_wp2_with (go_at_call 60; refine (l11Clock_c _ _).mono ?_; rintro e' w' ⟨rfl, rfl⟩; rw [hck.out])
    go_ret
    exact ⟨ret_bool hn.out.symm, hB0 _⟩
  by_cases h5 : ¬ (e.entries.length : Int) ≤ 5
  · have hn := Lib.hid (show goodElement e = false by unfold goodElement; rw [hck, decide_eq_false (by omega)]; rfl)
    have hck := Lib.hid hck
    go_wp2_with (go_at_call 60; refine (l11Clock_c _ _).mono ?_; rintro e' w' ⟨rfl, rfl⟩; rw [hck.out])
    go_ret
    exact ⟨ret_bool hn.out.symm, hB0 _⟩
  have h5 : (e.entries.length : Int) ≤ 5 := by omega
  have hcb := isClk_iff.1 hck
  have hgood := Lib.hid (show goodElement e = allUpTo (entAt e.clock e.entries) e.entries.length by unfold goodElement; rw [hck, decide_eq_true (by omega)]; rfl)
  have hck := Lib.hid hck
  go_wp2_with (go_at_call 60; refine (l11Clock_c _ _).mono ?_; rintro e' w' ⟨rfl, rfl⟩; rw [hck.out])
  go_loopw [3, 4, 5] (fun i _ _ wr => ∃ k : Nat, k ≤ e.entries.length ∧ i = .int .i64 k ∧ Hid (∀ j, j < k → entAt e.clock e.entries j = true) ∧ Row wr w.heap.size 29 [.int .i64 e.clock, .slice a e.entries.length cap] ∧ Below w.heap.size w wr) (fun i _ _ _ => e.entries.length - (intOf i).toNat)
  case atStart => exact ⟨0, Nat.zero_le _, rfl, fun j hj => by omega, by simp [row_alloc], hB0 _⟩
  case round =>
    obtain ⟨k, hk, rfl, hz, hr, hB⟩ := hrel
    have c0 := hr.cells
    by_cases hlt : k < e.entries.length
    · have hz0 := hz; clear hz
      obtain ⟨b, off, _, F1, rfl, hx, -, ja⟩ := (h1.below (by decide) hB).at k hlt
      obtain ⟨u1, rfl, hf⟩ := id hx
      obtain ⟨fa, fc, rfl⟩ := hf.slice
      have a0 := ja 0 (by decide)
      have a1 := ja 1 (by decide)
      have a2 := ja 2 (by decide)
      simp only [show EEntry.sz = 3 from rfl, Nat.add_zero, List.getElem?_cons_zero, List.getElem?_cons_succ] at a0 a1 a2
      clear ja
      have d0 := fun A => (hr.alloc A).cells
      have hf1 := fun A : Obj => hf.below (by decide) ((Below.refl wr.heap.size wr).alloc (Nat.le_refl _) A)
      have hB1 := fun A : Obj => tr hB ((Below.refl wr.heap.size wr).alloc (Nat.le_refl _) A) (Nat.le_refl _)
      by_cases hfe : e.entries[k].faces = []
      · have hE : ((e.entries[k].faces.length : Int) == 0) = true := by simp [hfe]
        have hno := Lib.hid (good_no hlt (fun _ => by rw [entAt_of hlt]; simp [okEntry, hfe]))
        go_wp2_with (go_at_call 32; refine (l2Good_c _ _).mono ?_; rintro e' w' ⟨rfl, rfl⟩)
        all_goals go_ret
        all_goals exact ⟨ret_bool hno.out.symm, hB1 _⟩
      · have hE : ((e.entries[k].faces.length : Int) == 0) = false := by simp [hfe]
        have hfe := Lib.hid hfe
        go_wp2_with (go_at_call 32; refine (l2Good_c _ _).mono ?_; rintro e' w' ⟨rfl, rfl⟩)
        · have t1 : isSer e.entries[k].number = true := by assumption
          refine (l14Faces_c _ _ _ _ (hf1 _)).mono ?_
          rintro e' w2 ⟨rfl, hb2⟩
          have hr2 := (hr.alloc _).below hb2
          have q2 := Row.below (g := wr.heap.size) (t := 74) (cs := [.int .i64 e.entries[k].number, .slice fa e.entries[k].faces.length fc, .int .i64 e.entries[k].untl]) (by simp [row_alloc]) hb2
          have hB2 := tr (hB1 _) hb2 (Nat.le_refl _)
          have c2 := hr2.cells; have d2 := q2.cells
          clear hb2
          cases t2 : rising 1 7 e.entries[k].faces
          · have hno := Lib.hid (good_no hlt (fun _ => by rw [entAt_of hlt]; simp [okEntry, t2]))
            go_wp2_with fail
            go_ret
            exact ⟨ret_bool hno.out.symm, hB2⟩
          cases t3 : btw (e.clock + 1) e.entries[k].untl (e.clock + 6)
          · have hno := Lib.hid (good_no hlt (fun _ => by rw [entAt_of hlt]; simp [okEntry, t3]))
            have t3 := Lib.hid t3
            go_wp2_with (go_at_call 61; refine (l1In_c _ _ _ _).mono ?_; rintro e' w' ⟨rfl, rfl⟩; rw [t3.out])
            go_ret
            exact ⟨ret_bool hno.out.symm, hB2⟩
          have hAt := Lib.hid (show entAt e.clock e.entries k = !((e.entries.take k).any fun o => o.number == e.entries[k].number) by rw [entAt_of hlt]; simp [okEntry, t1, t2, t3, List.length_pos_iff, hfe.out])
          have t3 := Lib.hid t3
          clear t1 t2 hE hf1 hx
          go_wp2_with (go_at_call 61; refine (l1In_c _ _ _ _).mono ?_; rintro e' w' ⟨rfl, rfl⟩; rw [t3.out])
          go_loopw [5] (fun j wr2 => ∃ m : Nat, m ≤ k ∧ j = .int .i64 m ∧ Hid (∀ q, q < m → ∀ hq : q < e.entries.length, e.entries[q].number ≠ e.entries[k].number) ∧ Row wr2 w.heap.size 29 [.int .i64 e.clock, .slice (some ⟨b, off, none⟩) e.entries.length cap] ∧ Row wr2 wr.heap.size 74 [.int .i64 e.entries[k].number, .slice fa e.entries[k].faces.length fc, .int .i64 e.entries[k].untl] ∧ Below w.heap.size w wr2) (fun j _ => k - (intOf j).toNat)
          case atStart => exact ⟨0, Nat.zero_le _, rfl, fun q hq => by omega, hr2, q2, hB2⟩
          case round =>
            obtain ⟨m, hm, rfl, hy, hr3, q3, hB3⟩ := hrel
            rename_i wr2
            have c3 := hr3.cells; have d3 := q3.cells
            by_cases hlm : m < k
            · have hy0 := hy; clear hy
              obtain ⟨bb, oo, _, F2, he, hx2, -, jb⟩ := (h1.below (by decide) hB3).at m (by omega)
              cases he
              obtain ⟨u2, rfl, -⟩ := hx2
              have b0 := jb 0 (by decide)
              simp only [show EEntry.sz = 3 from rfl, Nat.add_zero, List.getElem?_cons_zero] at b0
              clear jb
              have hmi : m < e.entries.length := by omega
              by_cases hnum : e.entries[m].number = e.entries[k].number
              · have hno := Lib.hid (good_no hlt fun _ => by rw [hAt.out, any_take hmi hlm (by simpa using hnum)]; rfl)
                have hEq : (e.entries[m].number == e.entries[k].number) = true := by simpa using hnum
                go_wp2_with fail
                go_quiet (fail)
                go_wp2_with fail
                go_ret
                exact ⟨ret_bool hno.out.symm, belowDrewN hB3 _⟩
              · have hEq : (e.entries[m].number == e.entries[k].number) = false := by simpa using hnum
                have hnum := Lib.hid hnum
                go_wp2_with fail
                go_quiet (fail)
                go_wp2_with fail
                exact ⟨⟨m + 1, by omega, by go_num, fun q hq hql => by rcases Nat.lt_or_eq_of_le (Nat.le_of_lt_succ hq) with h | h; exact hy0.out q h hql; subst h; exact hnum.out, hr3, q3, belowDrewN hB3 _⟩, by simp [intOf]; omega⟩
            · have hmk : m = k := by omega
              subst hmk
              have hat : entAt e.clock e.entries m = true := by
                rw [hAt.out, any_take_no hy.out]; rfl
              have hat := Lib.hid hat
              have hy0 := hy; clear hy
              go_wp2_with fail
              exact ⟨⟨m + 1, by omega, by go_num, upto_snoc hz0.out hat.out, hr3, hB3⟩, by simp [intOf]; omega⟩
        · have t : ¬isSer e.entries[k].number = true := by assumption
          go_ret
          refine ⟨ret_bool (good_no hlt fun hc => ?_).symm, hB1 _⟩
          rw [entAt_of hlt]; simp [okEntry, t]
    · have hk : k = e.entries.length := by omega
      subst hk
      have hn := Lib.hid (show goodElement e = true by rw [hgood.out, allUpTo_yes hz.out])
      have hz0 := hz; clear hz
      go_wp2_with fail
      go_ret
      exact ⟨ret_bool hn.out.symm, hB⟩
end Go.Proofs.Ytgogcgkocjpgoaa
/- Walks of Go's generic library functions on slices of int. Written by wip/genlib.py. -/
namespace Go.Proofs.Ytgogcgkocjpgoaa
open Go.RowKit
theorem Clone_Int (v : Value) (xs : List Int) (F : List Nat) (w : World) (h : Sl EInt w v xs F) (hm : xs.length ≤ 4294967296) :
    Calls Try.prog 55 #[v] w (RetNew EInt 3 xs w) := by
  obtain ⟨ao, c, news, Fy, rfl, hl, hfy, hFy, hsrc⟩ := h.src
  have hFl := hfy.lt
  have he := fun w (a : Option Addr) (n c : Nat) => Lib.run_eql_slice_nil (P := Try.prog) w 25 _ a n c 0 0 Try.underlying25
  go_enter Try.func55, Try.ntmps55
  rcases hsrc with ⟨rfl, rfl, rfl⟩ | ⟨ad, rfl, hn⟩
  · go_wp2
    go_ret
    exact ⟨.slice none 0 0, [], rfl, .inl ⟨rfl, rfl, rfl⟩, by simp, by simp, Below.refl _ _⟩
  · go_wp2_with (at_builtin; refine wpList_apd one_EInt (by decide) (by rfl) _ _ _ (by rfl) 3 (.int .i64 0) 8 Try.underlying25 info_int rfl (.slice (some ⟨w.heap.size, 0, none⟩) 0 0) [] [w.heap.size] (by rfl) (Ow.empty (Row.made _ _ _)) (Hd.one _) (some ad) xs c (by rfl) news Fy (hfy.frame fun b hb => Below.heap_alloc _ _ _ (hFl b hb)) (.inr ⟨ad, rfl, fun j u hu => kc ((Below.refl _ _).alloc (Nat.le_refl _) _) (hn j u hu)⟩) (fun b hb e => by have := hFl b hb; simp [Value.ownBlock] at e; omega) (by simpa using hl) (by unfold maxLen at hl; simp; omega) ?_)
    intro v2 w2 F2 hA
    go_wp2_with fail
    go_ret
    have hB : Below w.heap.size w w2 := ((Below.refl _ _).alloc (Nat.le_refl _) _).trans (hA.keep.below (by simp) (by simp))
    have hs : ∀ b, v2.ownBlock = some b → w.heap.size ≤ b := fun b hb => by rcases hA.same with e | e <;> rw [e] at hb <;> simp [Value.ownBlock] at hb <;> omega
    refine ⟨v2, F2, rfl, by simpa using hA.ow, hA.ow.scal scal_EInt ▸ ?_, fun b hb => ?_, hB⟩
    · cases v2.ownBlock <;> simp
    · rw [hA.ow.scal scal_EInt] at hb; exact hs b (by simpa using hb)

end Go.Proofs.Ytgogcgkocjpgoaa
/- Walks of the reference's small functions on slices of numbers. -/
namespace Go.Proofs.Ytgogcgkocjpgoaa
open Go.RowKit
theorem l1Own_c (v : Value) (xs : List Int) (F : List Nat) (w : World) (h : Sl EInt w v xs F) (hm : xs.length ≤ 4294967296) :
    Calls Try.prog 58 #[v] w (RetNew EInt 3 xs w) := by
  obtain ⟨ao, c, news, Fy, rfl, hl, hfy, hFy, hsrc⟩ := h.src
  have hFl := hfy.lt
  have hsrc2 : (ao = none ∧ c = 0 ∧ xs = []) ∨ ∃ ad, ao = some ad ∧ ∀ j u, news[j]? = some u → (w.alloc (.cells #[] 3)).cell? (ad.add j) = some u := by
    rcases hsrc with h | ⟨ad, h1, h2⟩
    · exact .inl h
    · exact .inr ⟨ad, h1, fun j u hu => kc ((Below.refl _ _).alloc (Nat.le_refl _) _) (h2 j u hu)⟩
  go_enter Try.func58, Try.ntmps58
  go_wp2_with (at_builtin; refine wpList_apd one_EInt (by decide) (by rfl) _ _ _ (by rfl) 3 (.int .i64 0) 8 Try.underlying25 info_int rfl (.slice (some ⟨w.heap.size, 0, none⟩) 0 0) [] [w.heap.size] (by rfl) (Ow.empty (Row.made _ _ _)) (Hd.one _) ao xs c (by rfl) news Fy (hfy.frame fun b hb => Below.heap_alloc _ _ _ (hFl b hb)) hsrc2 (fun b hb e => by have := hFl b hb; simp [Value.ownBlock] at e; omega) (by simpa using hl) (by unfold maxLen at hl; simp; omega) ?_)
  intro v2 w2 F2 hA
  go_wp2_with fail
  go_ret
  have hB : Below w.heap.size w w2 := ((Below.refl _ _).alloc (Nat.le_refl _) _).trans (hA.keep.below (by simp) (by simp))
  have hs : ∀ b, v2.ownBlock = some b → w.heap.size ≤ b := fun b hb => by rcases hA.same with e | e <;> rw [e] at hb <;> simp [Value.ownBlock] at hb <;> omega
  refine ⟨v2, F2, rfl, by simpa using hA.ow, hA.ow.scal scal_EInt ▸ ?_, fun b hb => ?_, hB⟩
  · cases v2.ownBlock <;> simp
  · rw [hA.ow.scal scal_EInt] at hb; exact hs b (by simpa using hb)
end Go.Proofs.Ytgogcgkocjpgoaa
/- Walks: copies of an element. -/
namespace Go.Proofs.Ytgogcgkocjpgoaa
open Go.RowKit
set_option maxHeartbeats 1600000 in
theorem Element_clone_c (v : Value) (e : Element) (F : List Nat) (w : World) (h : IsV EElement w v e F) (hm : e.entries.length ≤ 4294967296) (hm2 : ∀ x ∈ e.entries, x.faces.length ≤ 4294967296) :
    Calls Try.prog 38 #[v] w (RetV OElement e w) := by
  obtain ⟨_, rfl, v1, rfl, h1⟩ := h
  obtain ⟨a, cap, rfl⟩ := h1.slice
  have hl := h1.len
  unfold maxLen at hl
  have hB0 : ∀ A B : Obj, Below w.heap.size w ((w.alloc A).alloc B) := fun A B => ((Below.refl _ _).alloc (Nat.le_refl _) _).alloc (by simp) _
  have hFl := h1.lt (by decide)
  go_enter Try.func38, Try.ntmps38
  go_wp2_with fail
  refine (Clone_Entry _ e.entries F _ (h1.below (by decide) (hB0 _ _)) hm).mono ?_
  rintro e' w1 ⟨v2, F2, rfl, ho, hd, hs, hF2, hb1⟩
  obtain ⟨a2, cap2, rfl⟩ := ho.slice
  have r0 := Row.below (g := w.heap.size) (t := 29) (cs := [.int .i64 e.clock, .slice a e.entries.length cap]) (by simp [row_alloc] <;> omega) hb1
  have r1 := Row.below (g := w.heap.size + 1) (t := 29) (cs := [.int .i64 0, .slice none 0 0]) (by simp [row_alloc] <;> omega) hb1
  have hB := tr (hB0 _ _) hb1 (Nat.le_refl _)
  have hm1 := Lib.hid (Mix.start (O := OEntry) (R := EEntry) (B1 := w.heap.size) (B0 := w.heap.size + 2) rfl ho (by simpa using hs) (fun b hb => (hF2 b hb).imp id fun hb => hFl b hb) hd)
  have c0 := r0.cells; have f0 := r0.frozens
  have f1 := r1.frozens; have c1 := r1.cells
  clear hb1 ho hs hd hF2
  go_wp2_with fail
  have R0 := r0.set 1 (.slice a2 e.entries.length cap2)
  have R1 := r1.setOther (p := ⟨w.heap.size, 1, none⟩) (by simp) (.slice a2 e.entries.length cap2)
  have M1 := Lib.hid (hm1.out.setFar (p := ⟨w.heap.size, 1, none⟩) (Nat.le_refl _) (by simp) (.slice a2 e.entries.length cap2))
  clear hm1
  go_loopw [3, 11] (fun _ i wr => ∃ k : Nat, k ≤ e.entries.length ∧ i = .int .i64 k ∧ Hid (Mix OEntry EEntry 74 w.heap.size (w.heap.size + 2) wr (.slice a2 e.entries.length cap2) e.entries k) ∧ Row wr w.heap.size 29 [.int .i64 e.clock, .slice a2 e.entries.length cap2] ∧ Row wr (w.heap.size + 1) 29 [.int .i64 0, .slice none 0 0] ∧ Below w.heap.size w wr) (fun _ i _ => e.entries.length - (intOf i).toNat)
  case atStart => exact ⟨0, Nat.zero_le _, rfl, M1, by simpa using R0, R1, hB.setCell (Nat.le_refl _) _⟩
  case round =>
    obtain ⟨k, hk, rfl, hM, hr, hr1, hB⟩ := hrel
    have c0 := hr.cells; have f0 := hr.frozens
    have hsz := hr1.lt
    by_cases hlt : k < e.entries.length
    · obtain ⟨g, cap3, A, c, B, Fk, hv, hg, hrow, hA, hcl, hx, -, back⟩ := hM.out.at rfl hlt (by omega) (by omega)
      cases hv
      obtain ⟨u1, rfl, hf⟩ := id hx
      obtain ⟨fa, fc, rfl⟩ := hf.slice
      have a1 := hrow.cellMid (p := k * 3 + 1) (j := 1) (by rw [hA]; rfl) (by simp)
      simp only [List.getElem?_cons_zero, List.getElem?_cons_succ] at a1
      have hne : ¬ g = w.heap.size := by omega
      have hne2 : ¬ w.heap.size = g := by omega
      have hbk := Lib.hid back
      clear back
      have hfl := hm2 e.entries[k] (List.getElem_mem _)
      go_wp2_with fail
      go_region_law (first | (go_simp; go_at_call 55; refine (Clone_Int _ e.entries[k].faces Fk wr.drew (hf.frame fun _ _ => rfl) hfl).mono ?_; rintro e' w2 ⟨v3, F3, rfl, o3, n3, g3, hb2⟩; obtain ⟨d3, p3, rfl⟩ := o3.slice; have z3 := kc hb2 (show wr.drew.cell? ⟨w.heap.size, 1, none⟩ = some (.slice (some ⟨g, 0, none⟩) e.entries.length cap2) by simpa using c0 1); have z1 := kc hb2 (by simpa using a1); have zf := ((show Row wr.drew g 74 _ from hrow).below hb2).frozens (k * 3 + 1)))
      all_goals
        have hr2 := ((show Row wr.drew w.heap.size 29 _ from hr).below hb2).setOther (p := ⟨g, k * 3 + 1, none⟩) hne (.slice d3 e.entries[k].faces.length p3)
        have hr3 := ((show Row wr.drew (w.heap.size + 1) 29 _ from hr1).below hb2).setOther (p := ⟨g, k * 3 + 1, none⟩) (by simp; omega) (.slice d3 e.entries[k].faces.length p3)
        have hro := ((show Row wr.drew g 74 _ from hrow).below hb2).setMid (p := k * 3 + 1) (j := 1) (by rw [hA]; rfl) (by simp) (.slice d3 e.entries[k].faces.length p3)
        have hg3 : ∀ b ∈ F3, wr.heap.size ≤ b := g3
        have hgs := hrow.lt
        have hMk := Lib.hid (hbk.out _ _ F3 hro ⟨_, rfl, o3.setFar (fun hm => by have := hg3 _ hm; simp at this; omega) _⟩ n3 hg3 (fun b hb hbg => (Below.heap_setCell _ _ _ _ hbg).trans (hb2.block b hb)))
        have hB3 : Below w.heap.size w (w2.setCell ⟨g, k * 3 + 1, none⟩ (.slice d3 e.entries[k].faces.length p3)) := (tr (belowDrewN hB 1) hb2 (Nat.le_refl _)).setCell (by simp; omega) _
        go_wp2_with fail
        exact ⟨⟨k + 1, by omega, by go_num, hMk, hr2, hr3, hB3⟩, by simp [intOf]; omega⟩
    · have hk : k = e.entries.length := by omega
      subst hk
      obtain ⟨F4, o4, n4, g4⟩ := hM.out.done
      have O4 := Lib.hid o4
      clear hM o4
      have d1 := hr1.cells; have fd := hr1.frozens
      go_wp2_with fail
      refine bodyPost_ret (v := .agg #[.int .i64 e.clock, .slice a2 e.entries.length cap2]) ?_ rfl ?_
      · simp [results, Try.results38, go_sem, c0, d1, fd]
      · refine ⟨_, F4, rfl, ⟨_, rfl, _, rfl, ?_⟩, n4, fun b hb => by have := g4 b hb; omega, ?_⟩
        · repeat refine Ow.setFar ?_ (fun hm => by have := g4 _ hm; simp at this <;> omega) _
          exact O4.out
        · repeat refine Below.setCell ?_ (by simp <;> omega) _
          exact hB
end Go.Proofs.Ytgogcgkocjpgoaa
/- Walks: the reference's copy of an element. -/
namespace Go.Proofs.Ytgogcgkocjpgoaa
open Go.RowKit
set_option maxHeartbeats 1600000 in
theorem l14Own_c (v : Value) (e : Element) (F : List Nat) (w : World) (h : IsV EElement w v e F) (hm : e.entries.length ≤ 4294967296) (hm2 : ∀ x ∈ e.entries, x.faces.length ≤ 4294967296) :
    Calls Try.prog 63 #[v] w (RetV OElement e w) := by
  obtain ⟨_, rfl, v1, rfl, h1⟩ := h
  obtain ⟨a, cap, rfl⟩ := h1.slice
  have hl := h1.len
  unfold maxLen at hl
  have hB0 : ∀ A B C : Obj, Below w.heap.size w (((w.alloc A).alloc B).alloc C) := fun A B C => (((Below.refl _ _).alloc (Nat.le_refl _) _).alloc (by simp) _).alloc (by simp <;> omega) _
  go_enter Try.func63, Try.ntmps63
  go_wp2_with fail
  go_loopw [4, 5] (fun i _ wr => ∃ k : Nat, k ≤ e.entries.length ∧ i = .int .i64 k ∧ ∃ oa oc F, Hid (Ow OEntry 74 wr (.slice oa k oc) (e.entries.take k) F) ∧ F.Nodup ∧ (∀ b ∈ F, w.heap.size + 1 + 1 < b) ∧
    Row wr w.heap.size 29 [.int .i64 e.clock, .slice a e.entries.length cap] ∧ Row wr (w.heap.size + 1) 29 [.int .i64 0, .slice none 0 0] ∧ Row wr (w.heap.size + 1 + 1) 29 [.int .i64 e.clock, .slice oa k oc] ∧ Below w.heap.size w wr) (fun i _ _ => e.entries.length - (intOf i).toNat)
  case atStart => exact ⟨0, Nat.zero_le _, rfl, none, 0, [], Lib.hid (.inl ⟨rfl, by simp, rfl⟩), by simp, by simp, by simp [row_alloc] <;> omega, by simp [row_alloc] <;> omega, by simp [row_alloc] <;> omega, hB0 _ _ _⟩
  case round =>
    obtain ⟨k, hk, rfl, oa, oc, F2, ho, hn2, hF2, hr, hr1, hr2, hB⟩ := hrel
    have c0 := hr.cells
    have hsz := hr2.lt
    by_cases hlt : k < e.entries.length
    · obtain ⟨b, off, _, F1, rfl, hx, -, ja⟩ := (h1.below (by decide) hB).at k hlt
      obtain ⟨u1, rfl, hf⟩ := id hx
      obtain ⟨fa, fc, rfl⟩ := hf.slice
      have a0 := ja 0 (by decide)
      have a1 := ja 1 (by decide)
      have a2 := ja 2 (by decide)
      simp only [show EEntry.sz = 3 from rfl, Nat.add_zero, List.getElem?_cons_zero, List.getElem?_cons_succ] at a0 a1 a2
      clear ja
      have hfl := hm2 e.entries[k] (List.getElem_mem _)
      have hAl := fun A : Obj => (Below.refl wr.heap.size wr).alloc (Nat.le_refl _) A
      have hB1 := fun A : Obj => tr hB (hAl A) (Nat.le_refl _)
      have hlF := ho.out.lt
      go_wp2_with fail
      have H0 := hr.alloc (.cells #[.int .i64 e.entries[k].number, .slice fa e.entries[k].faces.length fc, .int .i64 e.entries[k].untl] 74)
      have H1 := hr1.alloc (.cells #[.int .i64 e.entries[k].number, .slice fa e.entries[k].faces.length fc, .int .i64 e.entries[k].untl] 74)
      have H2 := hr2.alloc (.cells #[.int .i64 e.entries[k].number, .slice fa e.entries[k].faces.length fc, .int .i64 e.entries[k].untl] 74)
      have Q := Row.made wr 74 [.int .i64 e.entries[k].number, .slice fa e.entries[k].faces.length fc, .int .i64 e.entries[k].untl]
      have O1 := Lib.hid (ho.out.below (hAl (.cells #[.int .i64 e.entries[k].number, .slice fa e.entries[k].faces.length fc, .int .i64 e.entries[k].untl] 74)))
      have hf1 := hf.below (by decide) (hAl (.cells #[.int .i64 e.entries[k].number, .slice fa e.entries[k].faces.length fc, .int .i64 e.entries[k].untl] 74))
      have hB2 := hB1 (.cells #[.int .i64 e.entries[k].number, .slice fa e.entries[k].faces.length fc, .int .i64 e.entries[k].untl] 74)
      have hs1 : wr.heap.size < (wr.alloc (.cells #[.int .i64 e.entries[k].number, .slice fa e.entries[k].faces.length fc, .int .i64 e.entries[k].untl] 74)).heap.size := by simp
      generalize wr.alloc (.cells #[.int .i64 e.entries[k].number, .slice fa e.entries[k].faces.length fc, .int .i64 e.entries[k].untl] 74) = w1 at *
      have q0 := Q.cells; have t1 := H2.cells 1
      simp only [List.getElem?_cons_zero, List.getElem?_cons_succ] at t1
      have hown := O1.out.own_mem
      have hne : ¬ wr.heap.size = w.heap.size + 1 + 1 := by omega
      have hne2 : ¬ w.heap.size + 1 + 1 = wr.heap.size := by omega
      have htl : (e.entries.take k).length = k := by simp; omega
      have hks : k + 1 ≤ 4294967296 := by omega
      clear hr hr1 hr2 hx hf ho hAl hB1 c0 a0 a1 a2
      have hS0 : (fun w' => w'.cell? ⟨wr.heap.size, 0, none⟩ = some (.int .i64 e.entries[k].number) ∧ w'.cell? ⟨wr.heap.size, 1, none⟩ = some (.slice fa e.entries[k].faces.length fc) ∧ w'.cell? ⟨wr.heap.size, 2, none⟩ = some (.int .i64 e.entries[k].untl) ∧ w'.cell? ⟨w.heap.size + 1 + 1, 1, none⟩ = some (.slice oa k oc)) w1.drew := ⟨by simpa using q0 0, by simpa using q0 1, by simpa using q0 2, t1⟩
      refine AnyX.start (S := (fun w' => w'.cell? ⟨wr.heap.size, 0, none⟩ = some (.int .i64 e.entries[k].number) ∧ w'.cell? ⟨wr.heap.size, 1, none⟩ = some (.slice fa e.entries[k].faces.length fc) ∧ w'.cell? ⟨wr.heap.size, 2, none⟩ = some (.int .i64 e.entries[k].untl) ∧ w'.cell? ⟨w.heap.size + 1 + 1, 1, none⟩ = some (.slice oa k oc))) (X := fun i => i == 13) (by kernel_rfl) ?_
      refine AnyX.take (i := 0) (oi := _) (v := ?_) rfl (by kernel_rfl) (by kernel_rfl) (by kernel_rfl) (by kernel_rfl) (by kernel_rfl) (fun _ _ _ h => h) (Or.inl ⟨by rfl, ?_⟩) (by assumption) ?_
      rotate_left
      · (intro wS hSw; (try dsimp only at hSw); go_simp; try with_reducible rfl)
      try simp only [Act.put, List.setIfInBounds_toArray, List.set_cons_zero, List.set_cons_succ]
      refine AnyX.take (i := 1) (oi := _) (v := ?_) rfl (by kernel_rfl) (by kernel_rfl) (by kernel_rfl) (by kernel_rfl) (by kernel_rfl) (fun _ _ _ h => h) (Or.inl ⟨by rfl, ?_⟩) (by assumption) ?_
      rotate_left
      · (intro wS hSw; (try dsimp only at hSw); go_simp; try with_reducible rfl)
      try simp only [Act.put, List.setIfInBounds_toArray, List.set_cons_zero, List.set_cons_succ]
      refine AnyX.take (i := 2) (oi := _) (v := ?_) rfl (by kernel_rfl) (by kernel_rfl) (by kernel_rfl) (by kernel_rfl) (by kernel_rfl) (fun _ _ _ h => h) (Or.inl ⟨by rfl, ?_⟩) (by assumption) ?_
      rotate_left
      · (intro wS hSw; (try dsimp only at hSw); go_simp; try with_reducible rfl)
      try simp only [Act.put, List.setIfInBounds_toArray, List.set_cons_zero, List.set_cons_succ]
      refine AnyX.take (i := 3) (oi := _) (v := ?_) rfl (by kernel_rfl) (by kernel_rfl) (by kernel_rfl) (by kernel_rfl) (by kernel_rfl) (fun _ _ _ h => h) (Or.inl ⟨by rfl, ?_⟩) (by assumption) ?_
      rotate_left
      · (intro wS hSw; (try dsimp only at hSw); go_simp; try with_reducible rfl)
      try simp only [Act.put, List.setIfInBounds_toArray, List.set_cons_zero, List.set_cons_succ]
      refine AnyX.take (i := 4) (oi := _) (v := ?_) rfl (by kernel_rfl) (by kernel_rfl) (by kernel_rfl) (by kernel_rfl) (by kernel_rfl) (fun _ _ _ h => h) (Or.inl ⟨by rfl, ?_⟩) (by assumption) ?_
      rotate_left
      · (intro wS hSw; (try dsimp only at hSw); go_simp; try with_reducible rfl)
      try simp only [Act.put, List.setIfInBounds_toArray, List.set_cons_zero, List.set_cons_succ]
      refine AnyX.take (i := 5) (oi := _) (v := ?_) rfl (by kernel_rfl) (by kernel_rfl) (by kernel_rfl) (by kernel_rfl) (by kernel_rfl) (fun _ _ _ h => h) (Or.inl ⟨by rfl, ?_⟩) (by assumption) ?_
      rotate_left
      · (intro wS hSw; (try dsimp only at hSw); go_simp; try with_reducible rfl)
      try simp only [Act.put, List.setIfInBounds_toArray, List.set_cons_zero, List.set_cons_succ]
      refine AnyX.take (i := 7) (oi := _) (v := ?_) rfl (by kernel_rfl) (by kernel_rfl) (by kernel_rfl) (by kernel_rfl) (by kernel_rfl) (fun _ _ _ h => h) (Or.inl ⟨by rfl, ?_⟩) (by assumption) ?_
      rotate_left
      · (intro wS hSw; (try dsimp only at hSw); go_simp; try with_reducible rfl)
      try simp only [Act.put, List.setIfInBounds_toArray, List.set_cons_zero, List.set_cons_succ]
      refine AnyX.take (i := 8) (oi := _) (v := ?_) rfl (by kernel_rfl) (by kernel_rfl) (by kernel_rfl) (by kernel_rfl) (by kernel_rfl) (fun _ _ _ h => h) (Or.inl ⟨by rfl, ?_⟩) (by assumption) ?_
      rotate_left
      · (intro wS hSw; (try dsimp only at hSw); go_simp; try with_reducible rfl)
      try simp only [Act.put, List.setIfInBounds_toArray, List.set_cons_zero, List.set_cons_succ]
      refine AnyX.only (i := 6) (o := _) (by kernel_rfl) rfl (fun K hK => ?_)
      go_simp
      go_at_call 58; refine (l1Own_c _ e.entries[k].faces F1 w1.drew (hf1.frame fun _ _ => rfl) hfl).mono ?_; rintro e' w2 ⟨v3, F3, rfl, o3, n3, g3, hb2⟩; obtain ⟨d3, p3, rfl⟩ := o3.slice; have H2b := (show Row w1.drew (w.heap.size + 1 + 1) 29 _ from H2).below hb2; have t2 := H2b.cells 1; have t3 := fun A => (H2b.alloc A).cells 1; have Q2 := (show Row w1.drew wr.heap.size 74 _ from Q).below hb2; simp only [List.getElem?_cons_zero, List.getElem?_cons_succ] at t2 t3
      refine hK.out _ _ (fun _ => ?_) ?_
      · exact ⟨kc hb2 (by simpa using q0 0), kc hb2 (by simpa using q0 1), kc hb2 (by simpa using q0 2), t2⟩
      clear hK K
      try simp only [Act.put, List.setIfInBounds_toArray, List.set_cons_zero, List.set_cons_succ]
      have hS2 : (fun w' => w'.cell? ⟨wr.heap.size, 0, none⟩ = some (.int .i64 e.entries[k].number) ∧ w'.cell? ⟨wr.heap.size, 1, none⟩ = some (.slice fa e.entries[k].faces.length fc) ∧ w'.cell? ⟨wr.heap.size, 2, none⟩ = some (.int .i64 e.entries[k].untl) ∧ w'.cell? ⟨w.heap.size + 1 + 1, 1, none⟩ = some (.slice oa k oc)) w2 := ⟨kc hb2 (by simpa using q0 0), kc hb2 (by simpa using q0 1), kc hb2 (by simpa using q0 2), t2⟩
      have q6 := fun A => (Q2.alloc A).cells
      refine AnyX.take (i := 9) (oi := _) (v := ?_) rfl (by kernel_rfl) (by kernel_rfl) (by kernel_rfl) (by kernel_rfl) (by kernel_rfl) (fun _ _ _ h => h) (Or.inl ⟨by rfl, ?_⟩) (by assumption) ?_
      rotate_left
      · (intro wS hSw; (try dsimp only at hSw); go_simp; try with_reducible rfl)
      try simp only [Act.put, List.setIfInBounds_toArray, List.set_cons_zero, List.set_cons_succ]
      refine AnyX.only (i := 10) (o := _) (by kernel_rfl) rfl (fun K hK => ?_)
      go_simp
      refine hK.out _ _ (fun _ => ?_) ?_
      · exact ⟨by simpa using q6 _ 0, by simpa using q6 _ 1, by simpa using q6 _ 2, t3 _⟩
      clear hK K
      try simp only [Act.put, List.setIfInBounds_toArray, List.set_cons_zero, List.set_cons_succ]
      refine AnyX.only (i := 11) (o := _) (by kernel_rfl) rfl (fun K hK => ?_)
      refine step_apd one_OEntry (by decide) (by rfl) _ _ _ (by rfl) 74 (.agg #[.int .i64 0, .slice none 0 0, .int .i64 0]) 40 Try.underlying27 info_Entry rfl (.slice oa k oc) (e.entries.take k) F2 (by rfl) ((O1.out.frame (w' := w1.drew) fun _ _ => rfl).below (hb2.alloc hb2.size _)) (Hd.of hn2) (some ⟨w2.heap.size, 0, none⟩) [e.entries[k]] 1 (by rfl) [.int .i64 e.entries[k].number, .slice d3 e.entries[k].faces.length p3, .int .i64 e.entries[k].untl] F3 (Flat.one ⟨_, rfl, o3.below ((Below.refl _ _).alloc (Nat.le_refl _) _)⟩) (.inr ⟨_, rfl, World.news_of_block (heap_alloc_new w2 _)⟩) (fun b hb he => by have h1 := hown b he; have h2 := O1.out.lt b h1; have h3 := g3 b hb; exact Nat.lt_irrefl _ (Nat.lt_of_lt_of_le h2 h3)) (by unfold maxLen; rw [htl]; simp; omega) (by rw [htl]; simp; omega) ?_
      intro v4 w4 F4 hA; obtain ⟨oa2, oc2, rfl⟩ := hA.val; rw [htl];  have H4 := (H2b.alloc (.cells #[.int .i64 e.entries[k].number, .slice d3 e.entries[k].faces.length p3, .int .i64 e.entries[k].untl] 74)).keepK hA.keep (fun hm => Nat.lt_irrefl _ (hF2 _ hm)); have q4 := ((Q2.alloc (.cells #[.int .i64 e.entries[k].number, .slice d3 e.entries[k].faces.length p3, .int .i64 e.entries[k].untl] 74)).keepK hA.keep (fun hm => by have := hlF _ hm; omega)).cells; have t4 := H4.cells 1; have f4 := H4.frozens 1; simp only [List.getElem?_cons_zero, List.getElem?_cons_succ] at t4
      refine hK.out _ _ (fun _ => ?_) ?_
      · exact ⟨by simpa using q4 0, by simpa using q4 1, by simpa using q4 2, t4⟩
      clear hK K
      try simp only [Act.put, List.setIfInBounds_toArray, List.set_cons_zero, List.set_cons_succ]
      have hS4 : (fun w' => w'.cell? ⟨wr.heap.size, 0, none⟩ = some (.int .i64 e.entries[k].number) ∧ w'.cell? ⟨wr.heap.size, 1, none⟩ = some (.slice fa e.entries[k].faces.length fc) ∧ w'.cell? ⟨wr.heap.size, 2, none⟩ = some (.int .i64 e.entries[k].untl) ∧ w'.cell? ⟨w.heap.size + 1 + 1, 1, none⟩ = some (.slice oa k oc)) w4 := ⟨by simpa using q4 0, by simpa using q4 1, by simpa using q4 2, t4⟩
      refine AnyX.take (i := 12) (oi := _) (v := ?_) rfl (by kernel_rfl) (by kernel_rfl) (by kernel_rfl) (by kernel_rfl) (by kernel_rfl) (fun _ _ _ h => h) (Or.inl ⟨by rfl, ?_⟩) (by assumption) ?_
      rotate_left
      · (intro wS hSw; (try dsimp only at hSw); go_simp; try with_reducible rfl)
      try simp only [Act.put, List.setIfInBounds_toArray, List.set_cons_zero, List.set_cons_succ]
      refine AnyX.only (i := 13) (o := _) (by kernel_rfl) rfl (fun K hK => ?_)
      go_simp
      refine hK.out _ _ (fun h => by cases h) ?_
      clear hK K
      try simp only [Act.put, List.setIfInBounds_toArray, List.set_cons_zero, List.set_cons_succ]
      refine AnyX.done (by kernel_rfl) ?_ _
      have hz2 : w1.heap.size ≤ w2.heap.size := hb2.size
      have hO4 := hA.ow
      rw [htl, ← List.take_succ_eq_append_getElem hlt] at hO4
      have hF4 : ∀ b ∈ F4, w.heap.size + 1 + 1 < b := fun b hb => by
        rcases hA.mem b hb with h | h | h
        · exact hF2 b h
        · have h3 : w1.heap.size ≤ b := g3 b h; omega
        · simp at h; omega
      have hO5 := Lib.hid (hO4.setFar (p := ⟨w.heap.size + 1 + 1, 1, none⟩) (fun hm => Nat.lt_irrefl _ (hF4 _ hm)) (.slice oa2 (k + 1) oc2))
      have hn4 := hA.nodup hn2 n3 (fun b hb hm => by have h2 := O1.out.lt b hm; have h3 := g3 b hb; exact Nat.lt_irrefl _ (Nat.lt_of_lt_of_le h2 h3))
      have G0 := (((show Row w1.drew w.heap.size 29 _ from H0).below hb2).alloc (.cells #[.int .i64 e.entries[k].number, .slice d3 e.entries[k].faces.length p3, .int .i64 e.entries[k].untl] 74)).keepK hA.keep (fun hm => by have := hF2 _ hm; omega)
      have G1 := (((show Row w1.drew (w.heap.size + 1) 29 _ from H1).below hb2).alloc (.cells #[.int .i64 e.entries[k].number, .slice d3 e.entries[k].faces.length p3, .int .i64 e.entries[k].untl] 74)).keepK hA.keep (fun hm => by have := hF2 _ hm; omega)
      have L0 := G0.setOther (p := ⟨w.heap.size + 1 + 1, 1, none⟩) (by simp; omega) (.slice oa2 (k + 1) oc2)
      have L1 := G1.setOther (p := ⟨w.heap.size + 1 + 1, 1, none⟩) (by simp) (.slice oa2 (k + 1) oc2)
      have L2 := H4.set 1 (.slice oa2 (k + 1) oc2)
      have hB5 : Below w.heap.size w (w4.setCell ⟨w.heap.size + 1 + 1, 1, none⟩ (.slice oa2 (k + 1) oc2)) :=
        Below.setCell (((tr (belowDrewN hB2 1) hb2 (Nat.le_refl _)).alloc (by omega) _).trans (hA.keep.below (by simp; omega) (fun b hb => by have := hF2 b hb; omega))) (by simp <;> omega) _
      clear hA hO4 G0 G1 H4
      go_wp2_with fail
      exact ⟨⟨k + 1, by omega, by go_num, oa2, oc2, F4, hO5, hn4, hF4, L0, L1, by simpa using L2, hB5⟩, by simp [intOf]; omega⟩
    · have hk : k = e.entries.length := by omega
      subst hk
      have hO := Lib.hid (show Ow OEntry 74 wr (.slice oa e.entries.length oc) e.entries F2 by simpa using ho.out)
      clear ho
      have c1 := hr1.cells; have c2 := hr2.cells; have f1 := hr1.frozens
      go_wp2_with fail
      refine bodyPost_ret (v := .agg #[.int .i64 e.clock, .slice oa e.entries.length oc]) ?_ rfl ?_
      · simp [results, Try.results63, go_sem, c1, c2, f1]
      · refine ⟨_, F2, rfl, ⟨_, rfl, _, rfl, ?_⟩, hn2, fun b hb => by have := hF2 b hb; omega, ?_⟩
        · repeat refine Ow.setFar ?_ (fun hm => by have := hF2 _ hm; simp at this <;> omega) _
          exact hO.out
        · repeat refine Below.setCell ?_ (by simp <;> omega) _
          exact hB
end Go.Proofs.Ytgogcgkocjpgoaa
/- Walks: a tick of an element. -/
namespace Go.Proofs.Ytgogcgkocjpgoaa
open Go.RowKit
end Go.Proofs.Ytgogcgkocjpgoaa
/- Walks: TickElement, the program's and the reference's. -/
namespace Go.Proofs.Ytgogcgkocjpgoaa
open Go.RowKit
theorem rising_len {lo hi : Int} {zs : List Int} (h : rising lo hi zs = true) : (zs.length : Int) ≤ hi - lo + 1 ∨ zs = [] := by
  by_cases h0 : zs = []
  · exact .inr h0
  · left
    have key : ∀ i (hi' : i < zs.length), lo + i ≤ zs[i] ∧ zs[i] ≤ hi := by
      intro i
      induction i with
      | zero =>
        intro hi'
        have := allUpTo_get h 0 hi'
        rw [risAt_zero hi'] at this
        simp [btw] at this
        simpa using this
      | succ i ih =>
        intro hi'
        have := allUpTo_get h (i + 1) hi'
        rw [risAt_succ hi'] at this
        have := ih (by omega)
        simp [btw] at *
        omega
    have hp := List.length_pos_iff.2 h0
    have := key (zs.length - 1) (by omega)
    omega
theorem good_room {e : Element} (h : goodElement e = true) : isClk e.clock = true ∧ e.entries.length ≤ 5 ∧ ∀ x ∈ e.entries, x.faces.length ≤ 7 := by
  unfold goodElement at h
  simp only [Bool.and_eq_true, decide_eq_true_eq] at h
  refine ⟨h.1.1, h.1.2, fun x hx => ?_⟩
  obtain ⟨i, hi, rfl⟩ := List.getElem_of_mem hx
  have := allUpTo_get h.2 i hi
  rw [entAt_of hi] at this
  simp [okEntry] at this
  rcases rising_len this.1.2.2.1 with h | h
  · omega
  · rw [h]; simp
end Go.Proofs.Ytgogcgkocjpgoaa
/- Elements: what requests and repairs bring; plain laws. -/
namespace Go.Proofs.Ytgogcgkocjpgoaa
open Go.RowKit
/-- where the entry for a serial stands -/
def atE (e : Element) (n : Int) : Nat := e.entries.findIdx fun x => x.number == n
def fwdE (e : Element) (n : Int) : Bool := !e.entries.any fun x => x.number == n
def repE (e : Element) (n : Int) : Element := match e.entries[atE e n]? with
  | some _ => ⟨e.clock, e.entries.take (atE e n) ++ e.entries.drop (atE e n + 1)⟩
  | none => e
def facE (e : Element) (n : Int) (below : List Int) : List Int := match e.entries[atE e n]? with
  | some x => x.faces.filter fun f => decide (f ∈ below)
  | none => if e.entries.length = 5 then below else []
def okTakeRepair (e : Element) (n : Int) (below : List Int) : Bool := goodElement e && isSer n && rising 1 7 below
def resTakeRepair (e : Element) (n : Int) (below : List Int) : Element × List Int × Bool := if okTakeRepair e n below then (repE e n, facE e n below, true) else (⟨0, []⟩, [], false)
theorem resTakeRepair_no {e : Element} {n : Int} {l : List Int} (h : okTakeRepair e n l = false) : resTakeRepair e n l = (⟨0, []⟩, [], false) := by unfold resTakeRepair; rw [h]; rfl
theorem resTakeRepair_yes {e : Element} {n : Int} {l : List Int} (h : okTakeRepair e n l = true) : resTakeRepair e n l = (repE e n, facE e n l, true) := by unfold resTakeRepair; rw [h]; rfl
/-- there is an entry, or there is none -/
theorem findE_or (e : Element) (n : Int) : (∃ (h : atE e n < e.entries.length), fidx (fun x => x.number == n) e.entries = (atE e n : Nat) ∧ e.entries[atE e n].number = n ∧ fwdE e n = false) ∨ (fidx (fun x => x.number == n) e.entries = -1 ∧ e.entries[atE e n]? = none ∧ fwdE e n = true ∧ ∀ x ∈ e.entries, x.number ≠ n) := by
  cases h : e.entries.any fun x => x.number == n
  · right
    have h' := List.any_eq_false.1 h
    refine ⟨by unfold fidx; rw [h]; rfl, ?_, by simp [fwdE, h], fun x hx => by have := h' x hx; simpa using this⟩
    have : atE e n = e.entries.length := List.findIdx_eq_length.2 (fun x hx => by have := h' x hx; simpa using this)
    rw [this]; simp
  · left
    have h2 : atE e n < e.entries.length := by
      obtain ⟨x, hx, hp⟩ := List.any_eq_true.1 h
      exact List.findIdx_lt_length_of_exists ⟨x, hx, hp⟩
    refine ⟨h2, by unfold fidx; rw [h]; rfl, ?_, by simp [fwdE, h]⟩
    have : (e.entries[atE e n].number == n) = true := List.findIdx_getElem (p := fun x : Entry => x.number == n) (xs := e.entries) (w := h2)
    simpa using this
theorem rising_pw {lo hi : Int} {zs : List Int} (h : rising lo hi zs = true) : zs.Pairwise (· < ·) ∧ ∀ z ∈ zs, lo ≤ z ∧ z ≤ hi := by
  have hb : ∀ i (hi' : i < zs.length), lo ≤ zs[i] ∧ zs[i] ≤ hi := fun i hi' => by
    have := allUpTo_get h i hi'
    unfold risAt btw at this
    simp only [Bool.and_eq_true, decide_eq_true_eq] at this
    rw [List.getD_eq_getElem?_getD, List.getElem?_eq_getElem hi'] at this
    simpa using this.1
  refine ⟨?_, fun z hz => by obtain ⟨i, hi', rfl⟩ := List.getElem_of_mem hz; exact hb i hi'⟩
  have step : ∀ i (hi : i + 1 < zs.length), zs[i] < zs[i + 1] := fun i hi' => by
    have := allUpTo_get h (i + 1) hi'
    rw [risAt_succ hi'] at this
    simp only [Bool.and_eq_true, decide_eq_true_eq] at this
    exact this.2
  refine List.pairwise_iff_getElem.2 fun i j hi' hj hij => ?_
  obtain ⟨d, rfl⟩ : ∃ d, j = i + 1 + d := ⟨j - i - 1, by omega⟩
  clear hij
  induction d with
  | zero => exact step i hj
  | succ d ih => exact Int.lt_trans (ih (by omega)) (step (i + 1 + d) hj)
/-- rising lists with the same numbers are one -/
theorem pw_ext : ∀ {a b : List Int}, a.Pairwise (· < ·) → b.Pairwise (· < ·) → (∀ x, x ∈ a ↔ x ∈ b) → a = b
  | [], [], _, _, _ => rfl
  | [], y :: b, _, _, h => absurd ((h y).2 (by simp)) (by simp)
  | x :: a, [], _, _, h => absurd ((h x).1 (by simp)) (by simp)
  | x :: a, y :: b, h1, h2, h => by
    have a1 := List.pairwise_cons.1 h1
    have b1 := List.pairwise_cons.1 h2
    have e : x = y := by
      rcases List.mem_cons.1 ((h x).1 (by simp)) with e | m
      · exact e
      · rcases List.mem_cons.1 ((h y).2 (by simp)) with e | m2
        · exact e.symm
        · have := b1.1 x m; have := a1.1 y m2; omega
    subst e
    congr 1
    refine pw_ext a1.2 b1.2 fun z => ⟨fun hz => ?_, fun hz => ?_⟩
    · rcases List.mem_cons.1 ((h z).1 (by simp [hz])) with e | m
      · have := a1.1 z hz; omega
      · exact m
    · rcases List.mem_cons.1 ((h z).2 (by simp [hz])) with e | m
      · have := b1.1 z hz; omega
      · exact m
theorem filter_swap {a b : List Int} (h1 : a.Pairwise (· < ·)) (h2 : b.Pairwise (· < ·)) : (a.filter fun f => decide (f ∈ b)) = b.filter fun f => decide (f ∈ a) :=
  pw_ext (h1.filter _) (h2.filter _) fun x => by simp [and_comm]
end Go.Proofs.Ytgogcgkocjpgoaa
/- Elements: finding, lists of numbers. -/
namespace Go.Proofs.Ytgogcgkocjpgoaa
open Go.RowKit
theorem find1_f (x : Entry) (gb : Nat) (n : Int) (u : Value) (G : List Nat) : Fn Try.prog 82 [u, ptr gb 0 0] [.isv EEntry u x G, .cel gb 0 [.int .i64 n]] [] (fun (_ : Unit) => True) (fun _ => .bool (x.number == n)) (fun _ => []) := by
  refine enter Try.func82 rfl Try.ntmps82 fun w0 => ?_
  refine openEntry ?_
  rintro a1 c1 F1 rfl l1
  refine go ?_; intros
  refine ret () trivial ?_
  rfl
theorem Efind_f (e : Element) (n : Int) (v : Value) (F : List Nat) : Fn Try.prog 54 [v, .int .i64 n] [.isv EElement v e F] [] (fun (_ : Unit) => True) (fun _ => .int .i64 (fidx (fun x => x.number == n) e.entries)) (fun _ => []) := by
  refine enter Try.func54 rfl Try.ntmps54 fun w0 => ?_
  refine openElement ?_
  rintro a1 c1 F1 rfl l1
  refine go ?_; intros
  rename_i gb
  refine cb (fun w st => IndexFunc_Entry _ (body_of (by kernel_rfl)) #[ptr gb 0 0] _ e.entries _ (fun x => x.number == n) w (st.get (p := .sl EEntry (.slice a1 e.entries.length c1) e.entries F1) (by simp)).2 (fun k hk wr u G hB hu => (find1_f e.entries[k] gb n u G).val wr (hol2 hu ⟨by simp, row_range ((st.below hB).get (p := .row gb 3 0 [] [.int .i64 n] []) (by simp))⟩))) ?_
  refine go ?_; intros
  refine ret () trivial rfl
theorem l14Find_f (e : Element) (n : Int) (v : Value) (F : List Nat) : Fn Try.prog 57 [v, .int .i64 n] [.isv EElement v e F] [] (fun (_ : Unit) => True) (fun _ => .int .i64 (fidx (fun x => x.number == n) e.entries)) (fun _ => []) := by
  refine enter Try.func57 rfl Try.ntmps57 fun w0 => ?_
  refine openElement ?_
  rintro a1 c1 F1 rfl l1
  unfold maxLen at l1
  refine go ?_; intros
  refine c_loopR [1, 2, 4] (fun k : Nat => [(5, .int .i64 (k : Nat))]) (fun k => k ≤ e.entries.length ∧ ∀ j (_ : j < k) (hj : j < e.entries.length), (e.entries[j].number == n) = false) (fun k => e.entries.length - k) 0 ⟨Nat.zero_le _, fun j h => by omega⟩ fun k hk => ?_
  obtain ⟨hk1, hk2⟩ := hk
  refine go ?_; intros
  refine c_if rfl (fun h1 => ?_) (fun h1 => ?_)
  · have hh : k < e.entries.length := by omega
    refine go ?_; intros
    refine atEntry (xs := e.entries) k ?_
    rintro hi b o a3 c3 F3 e1 l3
    rw [e1]
    refine go ?_; intros
    refine c_if rfl (fun h2 => ?_) (fun h2 => ?_)
    · refine go ?_; intros
      refine ret () trivial ?_
      rw [fidx_hit hh hk2 (by simpa using h2)]; rfl
    · refine go ?_; intros
      refine n_lp (k + 1) ⟨hh, fun j hj hl => ?_⟩ (by omega)
      rcases Nat.lt_or_eq_of_le (Nat.lt_succ_iff.1 hj) with h | rfl
      · exact hk2 j h hl
      · simpa using h2
  · obtain rfl : k = e.entries.length := by omega
    refine go ?_; intros
    refine ret () trivial ?_
    rw [fidx_none (fun j hj => hk2 j hj hj)]; rfl
theorem l1Has_f (l : List Int) (n : Int) (a : Option Addr) (c : Nat) (F : List Nat) : Fn Try.prog 64 [.slice a l.length c, .int .i64 n] [.sl EInt (.slice a l.length c) l F] [] (fun (_ : Unit) => True) (fun _ => .bool (decide (n ∈ l))) (fun _ => []) := by
  refine enter Try.func64 rfl Try.ntmps64 fun w0 => ?_
  refine t_sl (xs := l) ?_
  rintro _ _ _ l2 l3
  refine go ?_; intros
  refine c_loopR [0, 1, 4] (fun k : Nat => [(5, .int .i64 (k : Nat))]) (fun k => k ≤ l.length ∧ n ∉ l.take k) (fun k => l.length - k) 0 ⟨Nat.zero_le _, by simp⟩ fun k hk => ?_
  obtain ⟨hk1, hk2⟩ := hk
  refine go ?_; intros
  refine c_if rfl (fun h1 => ?_) (fun h1 => ?_)
  · have hh : k < l.length := by omega
    refine go ?_; intros
    refine at_int (xs := l) k ?_
    rintro hi b o e1
    rw [e1]
    refine go ?_; intros
    refine c_if rfl (fun h2 => ?_) (fun h2 => ?_)
    · refine go ?_; intros
      refine ret () trivial ?_
      rw [decide_eq_true (h2 ▸ List.getElem_mem hh : n ∈ l)]; rfl
    · refine go ?_; intros
      refine n_lp (k + 1) ⟨hh, fun hm => ?_⟩ (by omega)
      rw [List.take_add_one, List.getElem?_eq_getElem hh] at hm
      rcases List.mem_append.1 hm with h | h
      · exact hk2 h
      · simp at h; exact h2 h.symm
  · obtain rfl : k = l.length := by omega
    rw [List.take_length] at hk2
    refine go ?_; intros
    refine ret () trivial ?_
    rw [decide_eq_false hk2]; rfl
end Go.Proofs.Ytgogcgkocjpgoaa
/- The first elements that satisfy a test: how many; plain. -/
namespace Go.Proofs.Ytgogcgkocjpgoaa
end Go.Proofs.Ytgogcgkocjpgoaa
/- Lists of numbers: searching, inserting, what is there. -/
namespace Go.Proofs.Ytgogcgkocjpgoaa
open Go.RowKit
theorem idxI_f (xs : List Int) (n : Int) (a : Option Addr) (c : Nat) (F : List Nat) : Fn Try.prog 85 [.slice a xs.length c, .int .i64 n] [.sl EInt (.slice a xs.length c) xs F] [] (fun (_ : Unit) => True) (fun _ => .int .i64 (fidx (fun x => x == n) xs)) (fun _ => []) := by
  refine enter Try.func85 rfl Try.ntmps85 fun w0 => ?_
  refine t_sl (xs := xs) ?_
  rintro _ _ - l2 l3
  refine go ?_; intros
  refine c_loopR [0, 1, 4, 7] (fun k : Nat => [(8, .int .i64 (k : Nat))]) (fun k => k ≤ xs.length ∧ ∀ j (_ : j < k) (hj : j < xs.length), (xs[j] == n) = false) (fun k => xs.length - k) 0 ⟨Nat.zero_le _, fun j h => by omega⟩ fun k hk => ?_
  obtain ⟨hk1, hk2⟩ := hk
  refine go ?_; intros
  refine c_if rfl (fun h1 => ?_) (fun h1 => ?_)
  · have hh : k < xs.length := by omega
    refine go ?_; intros
    refine at_int (xs := xs) k ?_
    rintro hi b o e1
    rw [e1]
    refine go ?_; intros
    refine c_if rfl (fun h2 => ?_) (fun h2 => ?_)
    · refine go ?_; intros
      refine ret () trivial ?_
      rw [fidx_hit hh hk2 (by simpa using h2.symm)]; rfl
    · refine go ?_; intros
      refine n_lp (k + 1) ⟨hh, fun j hj hl => ?_⟩ (by omega)
      rcases Nat.lt_or_eq_of_le (Nat.lt_succ_iff.1 hj) with h | rfl
      · exact hk2 j h hl
      · simpa using fun e => h2 e.symm
  · obtain rfl : k = xs.length := by omega
    refine go ?_; intros
    refine ret () trivial ?_
    rw [fidx_none (fun j hj => hk2 j hj hj)]; rfl
theorem any_mem (l : List Int) (n : Int) : (l.any fun x => x == n) = decide (n ∈ l) := by
  rw [Bool.eq_iff_iff, List.any_eq_true, decide_eq_true_eq]
  exact ⟨fun ⟨x, hx, h⟩ => by simp at h; exact h ▸ hx, fun h => ⟨n, h, by simp⟩⟩
theorem conI_f (xs : List Int) (n : Int) (a : Option Addr) (c : Nat) (F : List Nat) : Fn Try.prog 69 [.slice a xs.length c, .int .i64 n] [.sl EInt (.slice a xs.length c) xs F] [] (fun (_ : Unit) => True) (fun _ => .bool (decide (n ∈ xs))) (fun _ => []) := by
  refine enter Try.func69 rfl Try.ntmps69 fun w0 => ?_
  refine go ?_; intros
  refine cf (idxI_f xs n _ _ F) fun _ _ => ?_
  refine t_app ?_
  refine go ?_; intros
  refine ret () trivial ?_
  rw [fidx_any, any_mem]; rfl

end Go.Proofs.Ytgogcgkocjpgoaa
/- Elements: a number put to its place. -/
namespace Go.Proofs.Ytgogcgkocjpgoaa
open Go.RowKit
theorem rep_i (n : Int) (w : World) : Flat EInt w [.int .i64 n] [n] [] := ⟨_, [], [], [], by simp, by simp, ⟨rfl, rfl⟩, rfl, rfl⟩
structure PutS where
  a : Option Addr
  c : Nat
  F : List Nat
end Go.Proofs.Ytgogcgkocjpgoaa
/- Elements: requests and repairs of the reference. -/
namespace Go.Proofs.Ytgogcgkocjpgoaa
open Go.RowKit
/-- an owned element, its value aS it stands -/
theorem clOE {c : Cx} {fr : Fr} {H S : List Pc} {Φ : Gl} (x : Element) {a : Option Addr} {n cp : Nat} {F : List Nat} (hn : n = x.entries.length) (h : T c fr (.own OElement (.agg #[.int .i64 x.clock, .slice a n cp]) x F :: S) Φ) (hp : Pick H (.ow OEntry 74 (.slice a n cp) x.entries F) S := by (repeat (first | exact .here | apply Pick.there)); first | done | fail) : T c fr H Φ := by
  subst hn; exact closeOElement x h hp
def facS (e : Element) (n : Int) (below : List Int) : List Int := match e.entries[atE e n]? with
  | some x => below.filter fun f => decide (f ∈ x.faces)
  | none => if e.entries.length = 5 then below else []
theorem repE_yes {e : Element} {n : Int} (h : atE e n < e.entries.length) : repE e n = ⟨e.clock, e.entries.take (atE e n) ++ e.entries.drop (atE e n + 1)⟩ := by unfold repE; rw [List.getElem?_eq_getElem h]
theorem repE_no {e : Element} {n : Int} (h : e.entries[atE e n]? = none) : repE e n = e := by unfold repE; rw [h]
theorem facS_yes {e : Element} {n : Int} {l : List Int} (h : atE e n < e.entries.length) : facS e n l = l.filter fun f => decide (f ∈ e.entries[atE e n].faces) := by unfold facS; rw [List.getElem?_eq_getElem h]
theorem facS_no {e : Element} {n : Int} {l : List Int} (h : e.entries[atE e n]? = none) : facS e n l = if e.entries.length = 5 then l else [] := by unfold facS; rw [h]
structure FacS where
  k : Nat
  a : Option Addr
  c : Nat
  F : List Nat
structure RepS where
  v : Value
  F : List Nat
  a : Option Addr
  c : Nat
  G : List Nat
set_option maxRecDepth 100000 in
theorem l14Repair_f (e : Element) (n : Int) (below : List Int) (v : Value) (F : List Nat) (a0 : Option Addr) (c0 : Nat) (F0 : List Nat) (hl : e.entries.length ≤ 1000000) (hf : ∀ x ∈ e.entries, x.faces.length ≤ 1000000) (hb : below.length ≤ 1000000) : Fn Try.prog 34 [v, .int .i64 n, .slice a0 below.length c0] [.isv EElement v e F, .sl EInt (.slice a0 below.length c0) below F0] [] (fun (_ : RepS) => True) (fun s => .tuple #[s.v, .slice s.a (facS e n below).length s.c]) (fun s => [.own OElement s.v (repE e n) s.F, .ow EInt 3 (.slice s.a (facS e n below).length s.c) (facS e n below) s.G]) := by
  refine enter Try.func34 rfl Try.ntmps34 fun w0 => ?_
  refine openElement ?_
  rintro a1 c1 F1 rfl l1
  refine go ?_; intros
  refine cv (fun w st => l14Own_c _ e _ w (st.get (p := .isv EElement (.agg #[.int .i64 e.clock, .slice a1 e.entries.length c1]) e F) (by simp)) (by omega) (fun x hx => Nat.le_trans (hf x hx) (by decide))) fun u FU => ?_
  refine openOElement ?_
  rintro a2 c2 F2 rfl l2
  refine go ?_; intros
  refine cf (l14Find_f e n _ F) fun _ _ => ?_
  refine t_app ?_
  refine t_emp EInt ?_
  rcases findE_or e n with ⟨h, e1, e2, e3⟩ | ⟨e1, e2, e3, e4⟩
  · rw [e1, repE_yes h, facS_yes h]
    have hfx := hf e.entries[atE e n] (List.getElem_mem h)
    refine go ?_; intros
    refine atEntry (xs := e.entries) (atE e n) ?_
    rintro hi b o a5 c5 F5 e6 l5
    generalize atE e n = i at *
    generalize hx : e.entries[i] = x at *
    rw [e6]
    refine go ?_; intros
    refine c_loopS [2, 3, 6, 7, 8, 10] (fun s : FacS => [(11, .int .i64 (s.k : Nat)), (9, .slice s.a ((below.take s.k).filter fun f => decide (f ∈ x.faces)).length s.c)]) (fun s => [.ow EInt 3 (.slice s.a ((below.take s.k).filter fun f => decide (f ∈ x.faces)).length s.c) ((below.take s.k).filter fun f => decide (f ∈ x.faces)) s.F]) (fun s => s.k ≤ below.length) (fun s => below.length - s.k) ⟨0, _, _, _⟩ (Nat.zero_le _) fun s hs => ?_
    obtain ⟨k, a3, c3, F3⟩ := s
    dsimp only at hs ⊢
    refine go ?_; intros
    refine c_if rfl (fun h6 => ?_) (fun h6 => ?_)
    · have hk : k < below.length := by omega
      refine at_int (xs := below) k ?_
      rintro hi2 b2 o2 e7
      rw [e7]
      have ht : below.take (k + 1) = below.take k ++ [below[k]] := by rw [List.take_add_one, List.getElem?_eq_getElem hk]; rfl
      have hle : ((below.take k).filter fun f => decide (f ∈ x.faces)).length ≤ k := Nat.le_trans (List.length_filter_le _ _) (by simp; omega)
      refine go ?_; intros
      refine d_start [0, 2, 7] [] ?_
      refine dt 0 ?_
      refine dt 1 ?_
      refine dt 2 ?_
      refine dt 3 ?_
      refine dt 4 ?_
      refine dt 5 ?_
      refine dt 6 ?_
      refine dt 7 ?_
      refine dt 8 ?_
      refine dt 9 ?_
      refine dO 10 (by kernel_rfl) (by rw [List.getElem?_toArray]; rfl) ?_
      apply o_call; rfl; kernel_rfl; exact evsE
      refine cf (l1Has_f x.faces below[k] a5 c5 F5) fun _ _ => ?_
      refine t_app ?_
      refine dk ?_
      refine dd ?_
      refine go ?_; intros
      refine c_if rfl (fun h7 => ?_) (fun h7 => ?_)
      · have e8 : (below.take (k + 1)).filter (fun f => decide (f ∈ x.faces)) = ((below.take k).filter fun f => decide (f ∈ x.faces)) ++ [below[k]] := by rw [ht, List.filter_append]; simp [h7]
        refine go ?_; intros
        apply wO
        refine ap1 (rep_i _) one_EInt fun a6 c6 F6 => ?_
        rw [← e8]
        refine go ?_; intros
        refine n_lp (⟨k + 1, _, _, _⟩ : FacS) hk (by dsimp only; omega)
      · have e8 : (below.take (k + 1)).filter (fun f => decide (f ∈ x.faces)) = ((below.take k).filter fun f => decide (f ∈ x.faces)) := by rw [ht, List.filter_append]; simp [h7]
        refine go ?_; intros
        rw [← e8]
        refine n_lp (⟨k + 1, _, _, _⟩ : FacS) hk (by dsimp only; omega)
    · have hk : below.take k = below := List.take_of_length_le (by omega)
      rw [hk]
      refine go ?_; intros
      refine t_shal one_OEntry rfl fun ys Fy Gy hyl hym => ?_
      refine t_fcut i hi hyl hym fun G1 Gi G2 => ?_
      refine t_read (E := EC 3) (xs := ys) fun Fr => ?_
      refine t_stk (E := EC 3) (xs := ys) i (by omega) fun F6 hc1 hc2 => ?_
      refine d_start [8] [13] ?_
      refine dt 1 ?_
      refine dt 2 ?_
      refine dt 3 ?_
      refine dt 4 ?_ (hy := yd_slt (i := i) rfl rfl rfl (by omega) (by omega))
      refine dt 6 ?_
      refine dt 7 ?_
      refine dt 8 ?_
      refine dt 9 ?_
      refine dsld 10 (i + 1) fun a7 c7 F7 => ?_
      refine dO 0 (by kernel_rfl) (by rw [List.getElem?_toArray]; rfl) ?_
      apply o_bs0; rfl; intro _
      refine t_emp (EC 3) ?_
      refine dk ?_
      refine dO 5 (by kernel_rfl) (by rw [List.getElem?_toArray]; rfl) ?_
      refine aps (one_EC 3) (scal_EC 3) (fun a6 c6 F6 => ?_) (hn := by rw [List.length_take]; omega) (h63 := by simp only [List.length_take, List.length_nil]; omega) (hby := by simp only [List.length_take, List.length_nil]; omega)
      refine dk ?_
      refine dO 11 (by kernel_rfl) (by rw [List.getElem?_toArray]; rfl) ?_
      refine aps (one_EC 3) (scal_EC 3) (fun a8 c8 F8 => ?_) (h63 := by simp only [List.length_append, List.length_take, List.length_drop, List.length_nil]; omega) (hby := by simp only [List.length_append, List.length_take, List.length_drop, List.length_nil]; omega)
      refine dk ?_
      refine dt 12 ?_
      refine dO 13 (by kernel_rfl) (by rw [List.getElem?_toArray]; rfl) ?_
      apply o_st; rfl; rfl; rfl; (first | exact AggC.s | exact OneC.s); rfl; exact rplE; exact putE; rfl
      refine dkx ?_
      refine dd ?_
      refine t_fjoin (E := OEntry) ?_
      refine t_deep (E := OEntry) (m := 3) (ys := ([] ++ ys.take i) ++ ys.drop (i + 1)) (cs := (ys.take i).flatten ++ (ys.drop (i + 1)).flatten) (xs := e.entries.take i ++ e.entries.drop (i + 1)) ?_ rfl (by simp) (by simp [hyl])
      refine go ?_; intros
      refine clOE (n := (([] ++ ys.take i) ++ ys.drop (i + 1)).length) ⟨e.clock, e.entries.take i ++ e.entries.drop (i + 1)⟩ (by simp [hyl]) ?_
      refine ret ⟨_, _, _, _, _⟩ trivial rfl
  · rw [e1, repE_no e2, facS_no e2]
    refine go ?_; intros
    refine c_if rfl (fun h5 => ?_) (fun h5 => ?_)
    · rw [if_pos (by omega)]
      refine go ?_; intros
      apply wO
      refine aps one_EInt scal_EInt fun a4 c4 F4 => ?_
      refine go ?_; intros
      refine clOE e rfl ?_
      refine ret ⟨_, _, _, _, _⟩ trivial rfl
    · rw [if_neg (by omega)]
      refine go ?_; intros
      refine clOE e rfl ?_
      refine ret ⟨_, _, _, _, _⟩ trivial rfl
end Go.Proofs.Ytgogcgkocjpgoaa
/- Deleting in place: parts of a slice, a part put down further ahead in its own row. -/
namespace Go.Proofs.Ytgogcgkocjpgoaa
open Go.RowKit
section
variable {P : Program} {n : Nat} {fr : Fr} {H : List Pc} {ty : TypeId} {x y z u : Operand}
theorem yd_slw {t e m i g o len cp : Nat} {kd : IntKind} {q : Int} [hS : SlC P t e m] (hx : ev fr x = some (.slice (some ⟨g, o, none⟩) len cp)) (hy : ev fr y = some (.int kd q)) (hq : q = (i : Int)) (hi : i ≤ len) (hlc : len ≤ cp) : Yd P n fr H (.slice t x (some y) none none) ty (.slice (some ⟨g, if cp = i then o else o + i * m, none⟩) (len - i) (cp - i)) := .mk fun ac w d pos aft gd hA _ => by
  subst hq
  have he2 : P.elem t = e := by simp [Program.elem, hS.u]
  have h3 : (Instr.sliceAt t (.slice (some ⟨g, o, none⟩) len cp) (some (.int kd (i : Int))) none none).run P w = .ok (.slice (some ⟨g, if cp = i then o else o + i * m, none⟩) (len - i) (cp - i)) w := by
    rw [run_sliceAt_slice (h := by rw [he2]; exact hS.u), run_slice_l (ht := by rw [he2]; exact hS.u) (h0 := by omega) (h1 := by omega), he2, size_of hS.s]
    simp only [Result.andThen, sliced, Option.map_some, Addr.add_lit, Int.toNat_natCast]
    split <;> rfl
  simp only [execOp, Option.map_none, Option.map_some, hA.ev hx, hA.ev hy, Sem.run_bind, h3, Result.andThen_ok, Sem.run_pure]
theorem yd_slhv {t e m i j g o len cp : Nat} {kd kd2 : IntKind} {q r : Int} [hS : SlC P t e m] (hx : ev fr x = some (.slice (some ⟨g, o, none⟩) len cp)) (hy : ev fr y = some (.int kd q)) (hz : ev fr z = some (.int kd2 r)) (hq : q = (i : Int)) (hr : r = (j : Int)) (hi : i < cp) (hij : i ≤ j) (hj : j ≤ cp) : Yd P n fr H (.slice t x (some y) (some z) none) ty (.slice (some ⟨g, o + i * m, none⟩) (j - i) (cp - i)) := .mk fun ac w d pos aft gd hA _ => by
  subst hq hr
  have he2 : P.elem t = e := by simp [Program.elem, hS.u]
  have h3 : (Instr.sliceAt t (.slice (some ⟨g, o, none⟩) len cp) (some (.int kd (i : Int))) (some (.int kd2 (j : Int))) none).run P w = .ok (.slice (some ⟨g, o + i * m, none⟩) (j - i) (cp - i)) w := by
    rw [run_sliceAt_slice (h := by rw [he2]; exact hS.u), run_slice_lh (ht := by rw [he2]; exact hS.u) (h0 := by omega) (h1 := by omega) (h2 := by omega), he2, size_of hS.s]
    simp only [Result.andThen, sliced, Option.map_some, Addr.add_lit, Int.toNat_natCast]
    rw [if_neg (by omega)]
  simp only [execOp, Option.map_none, Option.map_some, hA.ev hx, hA.ev hy, hA.ev hz, Sem.run_bind, h3, Result.andThen_ok, Sem.run_pure]
end
section
variable {c : Cx} {fr : Fr} {H : List Pc} {k : List It} {Φ : Gl} {d : Nat} {ty : TypeId} {x y z u : Operand}
/-- a part of a slice that nobody looks at -/
theorem o_slany3 {t e m n cp i j l : Nat} {a : Option Addr} {q r s : Int} [hS : SlC c.P t e m] (hd : Nat.blt d c.n = true) (hx : ev fr x = some (.slice a n cp)) (hy : ev fr y = some (.int .i64 q)) (hz : ev fr z = some (.int .i64 r)) (hu : ev fr u = some (.int .i64 s)) (hq : q = (i : Int)) (hr : r = (j : Int)) (hs : s = (l : Int)) (hij : i ≤ j) (hjl : j ≤ l) (hl : l ≤ cp) (h : ∀ v, T c ((d, v) :: fr) H Φ) : On c fr H (some d) (.slice t x (some y) (some z) (some u)) ty Φ := ⟨fun _ _ _ => ef_of fun Q ac w st g => by
  subst hq hr hs
  have he2 := elem_of hS
  obtain ⟨v, h3⟩ : ∃ v, (Instr.sliceAt t (.slice a n cp) (some (.int .i64 (i : Int))) (some (.int .i64 (j : Int))) (some (.int .i64 (l : Int)))).run c.P w = .ok v w := by
    rw [run_sliceAt_slice (h := by rw [he2]; exact hS.u), run_slice_lhm (ht := by rw [he2]; exact hS.u) (h0 := by omega) (h1 := by omega) (h2 := by omega) (h3 := by omega), he2, size_of hS.s]
    exact ⟨_, rfl⟩
  have e1 : ∀ pos aft gd, (execOp ac.eval ⟨some d, .slice t x (some y) (some z) (some u), ty, pos, aft, gd⟩).run c.P w = .ok (.value v) w := by
    intro pos aft gd
    simp only [execOp, Option.map_none, Option.map_some, g.ev hx, g.ev hy, g.ev hz, g.ev hu, Sem.run_bind, h3, Result.andThen_ok, Sem.run_pure]
  rw [e1]
  exact (h v).h _ w st (g.put hd)⟩
/-- the elements from j on, put down from i on -/
theorem o_apin {α : Type} {E : Elem α} (sc : Scal E) (one : One E) {t e m b g n cp i j q c2 : Nat} {zv : Value} [hS : SlC c.P t e m] [hE : ElT c.P e zv m b] (hm : E.sz = m) {xs : List α} {F : List Nat} {S : List Pc}
    (hd : Nat.blt d c.n = true) (hx : ev fr x = some (.slice (some ⟨g, 0, none⟩) i cp)) (hy : ev fr y = some (.slice (some ⟨g, q, none⟩) (n - j) c2)) (hq : j < n → q = j * m) (hij : i ≤ j) (hj : j ≤ n) (hn : n = xs.length)
    (hp : Pick H (.ow E e (.slice (some ⟨g, 0, none⟩) n cp) xs F) S) (h : T c ((d, .slice (some ⟨g, 0, none⟩) (i + (n - j)) cp) :: fr) (.ow E e (.slice (some ⟨g, 0, none⟩) n cp) (xs.take i ++ xs.drop j ++ xs.drop (i + (n - j))) F :: S) Φ) :
    On c fr H (some d) (.call { callee := .builtin .append, args := #[x, y], argTypes := #[t, t] }) ty Φ := ⟨fun _ _ _ => ef_of fun Q a w s ag => by
  subst hm hn
  have s1 := s.pick hp
  obtain ⟨hnd, ho⟩ := s1.on (.ow E e (.slice (some ⟨g, 0, none⟩) xs.length cp) xs F) (by simp)
  have hF := ho.scal sc
  rcases ho with ⟨h1, -, -⟩ | ⟨g2, cap, cs, rest, G, h1, h2, h3, h4, h5, h6, h7⟩
  · cases h1
  cases h1
  have hG : G = [] := by rw [h7] at hF; simpa [Value.ownBlock] using hF
  subst hG h7
  obtain ⟨ti, hi, hiz⟩ := Option.map_eq_some_iff.1 hE.i
  simp only [Prod.mk.injEq] at hiz
  obtain ⟨-, i2, -⟩ := hiz
  have hl := h6.len
  have hle : i + (xs.length - j) ≤ xs.length := by omega
  have fi := (h6.cutL i (by omega)).1
  have fj := (h6.cutL j hj).2
  have fk := (h6.cutL (i + (xs.length - j)) hle).2
  have hd1 : (cs.take (i * E.sz)).length = i * E.sz := by have := fi.len; rw [List.length_take (l := xs), Nat.min_eq_left (by omega)] at this; exact this
  have hd2 : (cs.drop (j * E.sz)).length = (xs.length - j) * E.sz := by have := fj.len; rwa [List.length_drop (l := xs)] at this
  have h1c := h6.one' one
  have hsm : (i + (xs.length - j)) * E.sz ≤ xs.length * E.sz := Nat.mul_le_mul_right _ hle
  have hadd : (i + (xs.length - j)) * E.sz = i * E.sz + (xs.length - j) * E.sz := Nat.add_mul _ _ _
  have hsrc : ∀ r u, (cs.drop (j * E.sz))[r]? = some u → w.cell? ((⟨g, q, none⟩ : Addr).add r) = some u := fun r u hu => by
    have hr : r < (cs.drop (j * E.sz)).length := (List.getElem?_eq_some_iff.1 hu).1
    have hlt : j < xs.length := by
      rcases Nat.lt_or_ge j xs.length with h | h
      · exact h
      · rw [hd2, show xs.length - j = 0 by omega] at hr; simp at hr
    rw [hq hlt, Addr.add_lit, h2.cell, List.getElem?_append_left (by rw [List.length_drop] at hr; omega)]
    rw [List.getElem?_drop] at hu; exact hu
  have hr := fun ty => run_append_room_cells (P := c.P) w t ty e ti hS.u hi g 0 i cp ⟨g, q, none⟩ (xs.length - j) c2 (cs.drop (j * E.sz)) (by rw [hd2, i2]) hsrc (fun u hu => h1c u (List.mem_of_mem_drop hu)) (by omega)
    (fun r hr => by rw [i2, h2.cell, List.getElem?_eq_getElem (by rw [List.length_append]; omega)]; rfl) (fun r _ => h2.frozen _)
  have e1 : ∀ pos aft gd, (execOp a.eval ⟨some d, .call { callee := .builtin .append, args := #[x, y], argTypes := #[t, t] }, ty, pos, aft, gd⟩).run c.P w = .ok (.value (.slice (some ⟨g, 0, none⟩) (i + (xs.length - j)) cp)) (w.setCells g (0 + i * E.sz) (cs.drop (j * E.sz))) := by
    intro pos aft gd
    simp only [execOp, resolve, invoke, builtin, Sem.run_bind, Sem.run_pure, Result.andThen_ok, List.map_toArray, List.map_cons, List.map_nil, ag.ev hx, ag.ev hy, hr, i2]
  rw [e1]
  have R0 : Row w g e (cs.take (i * E.sz) ++ (cs.drop (i * E.sz)).take ((xs.length - j) * E.sz) ++ (cs.drop ((i + (xs.length - j)) * E.sz) ++ rest)) := by
    rw [hadd, ← List.drop_drop, List.append_assoc, ← List.append_assoc _ _ rest, List.take_append_drop, ← List.append_assoc, List.take_append_drop]; exact h2
  have R1 := Row.put (cs.drop (j * E.sz)) _ R0 (p := 0 + i * E.sz) (by omega) (by rw [hd2, List.length_take, List.length_drop]; omega)
  have hk := putCells_keep (g := g) (cs.drop (j * E.sz)) w (0 + i * E.sz)
  rw [putCells_eq w g] at R1 hk
  have hW : (Pc.ow E e (.slice (some ⟨g, 0, none⟩) xs.length cp) (xs.take i ++ xs.drop j ++ xs.drop (i + (xs.length - j))) [g]).P (w.setCells g (0 + i * E.sz) (cs.drop (j * E.sz))) := by
    have hll : (xs.take i ++ xs.drop j ++ xs.drop (i + (xs.length - j))).length = xs.length := by simp only [List.length_append, List.length_take, List.length_drop]; omega
    refine ⟨by simp, .inr ⟨g, cp, cs.take (i * E.sz) ++ cs.drop (j * E.sz) ++ cs.drop ((i + (xs.length - j)) * E.sz), rest, [], by rw [hll], by simpa [List.append_assoc] using R1, by rw [hll]; exact h3, h4, ?_, ?_, rfl⟩⟩
    · rw [List.length_append, List.length_append, hd1, hd2, List.length_drop, hl, ← h5]; omega
    · have := ((fi.all (w.setCells g (0 + i * E.sz) (cs.drop (j * E.sz)))).append (fj.all _)).append (fk.all _)
      simpa using this
  exact h.h _ _ (St.turn (M := [.ow E e (.slice (some ⟨g, 0, none⟩) xs.length cp) xs [g]]) (N := [.ow E e (.slice (some ⟨g, 0, none⟩) xs.length cp) (xs.take i ++ xs.drop j ++ xs.drop (i + (xs.length - j))) [g]]) s1 (by simpa [List.filter, Pc.mu, fp, Pc.F] using hk) (by intro q hq; rw [List.mem_singleton] at hq; subst hq; exact hW) ⟨by simp, trivial⟩ (by
      intro q hq b hb
      rw [List.mem_singleton] at hq; subst hq
      exact .inr (.inl ⟨_, List.mem_singleton.2 rfl, rfl, hb⟩))) (ag.put hd)⟩
end
end Go.Proofs.Ytgogcgkocjpgoaa
/- Deleting one entry, by its cells. -/
namespace Go.Proofs.Ytgogcgkocjpgoaa
open Go.RowKit
set_option maxRecDepth 100000 in
theorem DelE_f (xs : List (List Value)) (n i : Nat) (j : Int) (a : Option Addr) (c : Nat) (F : List Nat) (hn : n = xs.length) (hi : i < xs.length) (hj : j = (i : Int) + 1) (hl : xs.length ≤ 1000000) :
    Fn Try.prog 70 [.slice a n c, .int .i64 i, .int .i64 j] [] [.ow (EC 3) 74 (.slice a n c) xs F] (fun (_ : Option Addr × Nat × List Nat) => True)
      (fun z => .slice z.1 (xs.take i ++ xs.drop (i + 1)).length z.2.1) (fun z => [.ow (EC 3) 74 (.slice z.1 (xs.take i ++ xs.drop (i + 1)).length z.2.1) (xs.take i ++ xs.drop (i + 1)) z.2.2]) := by
  subst hn
  refine enter Try.func70 rfl Try.ntmps70 fun w0 => ?_
  refine t_head (xs := xs) (scal_EC 3) (by rintro rfl; simp at hi) ?_
  rintro g rfl rfl - hc1 hc2
  refine go ?_; intros
  apply wO
  refine o_slany3 (i := i) (j := i + 1) (l := xs.length) rfl rfl rfl rfl rfl rfl (by omega) rfl (by omega) (by omega) hc1 (fun _ => ?_)
  refine go ?_; intros
  refine c_if rfl (fun h => absurd h (by omega)) (fun _ => ?_)
  refine go ?_; intros
  refine d_start [] [] ?_
  refine dt 0 ?_
  refine dt 1 ?_
  refine dt 2 ?_ (hy := yd_slt (i := i) rfl rfl rfl (by omega) (by omega))
  refine dt 3 ?_
  refine dt 4 ?_
  refine dt 5 ?_ (hy := yd_slw (i := i + 1) rfl rfl (by omega) (by omega) hc1)
  refine dO 6 (by kernel_rfl) (by rw [List.getElem?_toArray]; rfl) ?_
  refine o_apin (m := 3) (i := i) (j := i + 1) (q := if c = i + 1 then 0 else 0 + (i + 1) * 3) (g := g) (cp := c) (n := xs.length) (scal_EC 3) (one_EC 3) rfl rfl rfl rfl (fun h => by rw [if_neg (by omega)]; omega) (by omega) (by omega) rfl (by repeat (first | exact .here | apply Pick.there)) ?_
  refine dk ?_
  refine dt 7 ?_
  refine dd ?_
  refine go ?_; intros
  apply wO; apply oc; rfl; exact yd_slhv (i := i + (xs.length - (i + 1))) (j := xs.length) rfl rfl rfl rfl rfl (by omega) (by omega) hc1
  refine go ?_; intros
  apply wO
  refine o_clr (xs := xs.take i ++ xs.drop (i + 1) ++ xs.drop (i + (xs.length - (i + 1)))) (z0 := [.int .i64 0, .slice none 0 0, .int .i64 0]) (n := xs.length) (cp := c) (i := i + (xs.length - (i + 1))) (g := g) (scal_EC 3) (fun w => ⟨rfl, ⟨rfl, by simp [Value.oneCell']⟩, rfl⟩) (by decide) rfl rfl (by omega) (by simp only [List.length_append, List.length_take, List.length_drop]; omega) (by repeat (first | exact .here | apply Pick.there)) ?_
  have hk : (xs.take i ++ xs.drop (i + 1)).length = i + (xs.length - (i + 1)) := by simp only [List.length_append, List.length_take, List.length_drop]; omega
  refine t_take (xs := (xs.take i ++ xs.drop (i + 1) ++ xs.drop (i + (xs.length - (i + 1)))).take (i + (xs.length - (i + 1))) ++ List.replicate (xs.length - (i + (xs.length - (i + 1)))) [.int .i64 0, .slice none 0 0, .int .i64 0]) (i + (xs.length - (i + 1))) (fun F2 => ?_) (by simp only [List.length_append, List.length_take, List.length_drop, List.length_replicate]; omega)
  rw [List.take_left' (by rw [List.take_left' hk, hk]), List.take_left' hk, ← hk]
  refine go ?_; intros
  refine ret (_, c, F2) trivial rfl
end Go.Proofs.Ytgogcgkocjpgoaa
/- Deleting out of lists of integers, by the engine. -/
namespace Go.Proofs.Ytgogcgkocjpgoaa
open Go.RowKit
set_option maxRecDepth 100000 in
theorem IdxInt_f (fid : FuncId) (bd caps : List Value) (A : List Pc) (hA : A.all (fun p => !p.mu) = true) (xs : List Int) (a : Option Addr) (c : Nat) (F : List Nat) (p : Int → Bool) (hb : bodyB Try.prog fid = true) (hl : xs.length ≤ 1000000000)
    (hp : ∀ x ∈ xs, ∀ w, Hol A w → Calls Try.prog fid (bd ++ [(.int .i64 x : Value)] ++ caps).toArray w fun e w' => e = .returned (.bool (p x)) ∧ Below w.heap.size w w') :
    Fn Try.prog 84 [.slice a xs.length c, .func (.func fid) bd.toArray caps.toArray] (.sl EInt (.slice a xs.length c) xs F :: A) [] (fun (_ : Unit) => True) (fun _ => .int .i64 (fidx p xs)) (fun _ => []) := by
  refine enter Try.func84 rfl Try.ntmps84 (fun w0 => ?_) rfl (by simpa [Pc.mu] using hA) .nil
  refine go ?_; intros
  refine c_loopR [0, 1, 4, 7] (fun k : Nat => [(8, .int .i64 (k : Nat))]) (fun k => k ≤ xs.length ∧ ∀ j (_ : j < k) (hj : j < xs.length), p xs[j] = false) (fun k => xs.length - k) 0 ⟨Nat.zero_le _, fun j h => by omega⟩ fun k hk => ?_
  obtain ⟨hk1, hk2⟩ := hk
  refine go ?_; intros
  refine c_if rfl (fun h5 => ?_) (fun h5 => ?_)
  · have hh : k < xs.length := by omega
    refine go ?_; intros
    refine at_int (xs := xs) k ?_
    rintro hi b o e
    rw [e]
    refine go ?_; intros
    apply wO
    refine o_callb rfl rfl hb evsE ?_
    refine cb (fun w st => hp xs[k] (List.getElem_mem hh) w (fun q hq => st.on q (by simp [hq]))) ?_
    cases hpk : p xs[k]
    · refine go ?_; intros
      refine t_drop ?_
      refine n_lp (hH := hsub_refl _) (k + 1) ⟨hh, fun j hj h => ?_⟩ (by omega)
      rcases Nat.lt_or_eq_of_le (Nat.lt_succ_iff.1 hj) with h2 | rfl
      · exact hk2 j h2 h
      · exact hpk
    · refine go ?_; intros
      refine ret () trivial ?_
      rw [fidx_hit hh hk2 hpk]; rfl
  · obtain rfl : k = xs.length := by omega
    refine go ?_; intros
    refine ret () trivial ?_
    rw [fidx_none (fun j hj => hk2 j hj hj)]; rfl
structure DfInt where
  i : Nat
  j : Nat
  zs : List Int
set_option maxRecDepth 100000 in
theorem DelInt_f (fid : FuncId) (bd caps : List Value) (A : List Pc) (hA : A.all (fun p => !p.mu) = true) (xs : List Int) (a : Option Addr) (c : Nat) (F : List Nat) (p : Int → Bool) (hb : bodyB Try.prog fid = true) (hl : xs.length ≤ 1000000000)
    (hp : ∀ x ∈ xs, ∀ w, Hol A w → Calls Try.prog fid (bd ++ [(.int .i64 x : Value)] ++ caps).toArray w fun e w' => e = .returned (.bool (p x)) ∧ Below w.heap.size w w') :
    Fn Try.prog 67 [.slice a xs.length c, .func (.func fid) bd.toArray caps.toArray] A [.ow EInt 3 (.slice a xs.length c) xs F] (fun (_ : Option Addr × Nat × List Nat) => True)
      (fun z => .slice z.1 (xs.filter fun x => !p x).length z.2.1) (fun z => [.ow EInt 3 (.slice z.1 (xs.filter fun x => !p x).length z.2.1) (xs.filter fun x => !p x) z.2.2]) := by
  refine enter Try.func67 rfl Try.ntmps67 (fun w0 => ?_) rfl (by simpa [Pc.mu] using hA) (.cons .nil)
  refine go ?_; intros
  refine cb (fun w st => by
    obtain ⟨Fw, -, hw⟩ := (st.get (p := .ow EInt 3 (.slice a xs.length c) xs F) (by simp)).2.read
    refine (IdxInt_f fid bd caps A hA xs a c Fw p hb hl hp).val w ?_ (by simpa [Pc.mu] using hA)
    intro q hq
    rcases List.mem_cons.1 hq with rfl | hq
    · exact ⟨by decide, hw⟩
    · exact st.on q (by simp [hq])) ?_
  by_cases hany : xs.any p = true
  · obtain ⟨i0, hi0, hfx, hpi, hfl⟩ := fidx_some hany
    rw [hfx]
    refine t_head (xs := xs) scal_EInt (by rintro rfl; simp at hi0) ?_
    rintro g rfl rfl - hc1 hc2
    refine go ?_; intros
    refine c_loopS [0, 1, 4] (fun s : DfInt => [(5, .int .i64 (s.i : Nat)), (6, .int .i64 (s.j : Nat))]) (fun s => [.ow EInt 3 (.slice (some ⟨g, 0, none⟩) xs.length c) s.zs [g]]) (fun s => s.zs.length = xs.length ∧ s.j ≤ xs.length ∧ s.i < s.j ∧ s.zs.take s.i = (xs.take s.j).filter (fun x => !p x) ∧ s.zs.drop s.j = xs.drop s.j) (fun s => xs.length - s.j) ⟨i0, i0 + 1, xs⟩ ⟨rfl, hi0, Nat.lt_succ_self _, by rw [filter_take_no hi0 (by simp [hpi]), hfl], rfl⟩ fun s hs => ?_
    obtain ⟨i, j, zs⟩ := s
    obtain ⟨h1, h2, h3, h4, h5⟩ := hs
    dsimp only at h1 h2 h3 h4 h5 ⊢
    refine go ?_; intros
    refine c_if rfl (fun h6 => ?_) (fun h6 => ?_)
    · have hj : j < xs.length := by omega
      have hjz : j < zs.length := by omega
      have hx : zs[j] = xs[j] := by
        have a1 := List.drop_eq_getElem_cons hjz
        have a2 := List.drop_eq_getElem_cons hj
        rw [h5, a2] at a1
        exact (List.cons.inj a1).1.symm
      have hdz : zs.drop (j + 1) = xs.drop (j + 1) := by
        rw [← List.drop_drop, h5, List.drop_drop]
      refine go ?_; intros
      refine focF (m := 1) scal_EInt j ?_ (by repeat (first | exact .here | apply Pick.there)) rfl hjz
      rintro _ g2 A2 cs2 B2 e1 e2 hc3 hh
      cases e1
      obtain ⟨rfl, -⟩ := hc3 w0
      refine go ?_; intros
      refine unfF zs[j] hh hc3 ?_
      rw [List.set_getElem_self, hx]
      apply wO
      refine o_callb rfl rfl hb evsE ?_
      refine cb (fun w st => hp xs[j] (List.getElem_mem hj) w (fun q hq => st.on q (by simp [hq]))) ?_
      cases hpj : p xs[j]
      · refine go ?_; intros
        refine focF (m := 1) scal_EInt i ?_ (by repeat (first | exact .here | apply Pick.there)) rfl (by omega)
        rintro _ g3 A3 cs3 B3 e1 e2 hc4 hh3
        cases e1
        obtain ⟨rfl, -⟩ := hc4 w0
        refine go ?_; intros
        refine unfF xs[j] hh3 (fun w => ⟨rfl, rfl⟩) ?_
        refine n_lp (hH := hsub_refl _) (⟨i + 1, j + 1, zs.set i xs[j]⟩ : DfInt) ⟨by simp [h1], hj, Nat.succ_lt_succ h3, ?_, ?_⟩ (by dsimp only; omega)
        · dsimp only
          rw [filter_take_yes hj (by simp [hpj]), ← h4, List.take_add_one, List.getElem?_set_self (by omega), List.take_set_of_le (Nat.le_refl _)]
          rfl
        · dsimp only
          rw [List.drop_set_of_lt (by omega), hdz]
      · refine go ?_; intros
        refine n_lp (hH := hsub_refl _) (⟨i, j + 1, zs⟩ : DfInt) ⟨h1, hj, Nat.lt_succ_of_lt h3, ?_, hdz⟩ (by dsimp only; omega)
        dsimp only
        rw [filter_take_no hj (by simp [hpj]), h4]
    · obtain rfl : j = xs.length := by omega
      have h4' : zs.take i = xs.filter fun x => !p x := by rw [h4, List.take_length]
      have hil : (xs.filter fun x => !p x).length = i := by rw [← h4', List.length_take]; omega
      refine go ?_; intros
      apply wO; apply oc; rfl; exact yd_slv (i := i) rfl rfl rfl (by omega) (by omega) (by omega)
      refine go ?_; intros
      apply wO
      refine o_clr (z0 := 0) (n := xs.length) (cp := c) (i := i) (g := g) scal_EInt (fun w => ⟨rfl, rfl⟩) (by decide) rfl rfl h3 h1.symm (by repeat (first | exact .here | apply Pick.there)) ?_
      refine go ?_; intros
      refine t_take (xs := zs.take i ++ List.replicate (xs.length - i) 0) i (fun F2 => ?_) (by rw [List.length_append, List.length_take, List.length_replicate]; omega)
      rw [List.take_left' (by rw [List.length_take]; omega), h4']
      apply wO; apply oc; rfl; exact yd_slt (i := i) rfl rfl rfl (by omega) (by omega)
      refine go ?_; intros
      subst hil
      refine ret (_, c, F2) trivial rfl
  · obtain ⟨hfx, hfl⟩ := fidx_all hany
    rw [hfx, hfl]
    refine go ?_; intros
    refine ret (a, c, F) trivial rfl
end Go.Proofs.Ytgogcgkocjpgoaa
/- Elements: requests and repairs in place. -/
namespace Go.Proofs.Ytgogcgkocjpgoaa
open Go.RowKit
theorem t_rocel {c : Cx} {fr : Fr} {H S : List Pc} {Φ : Gl} {g t : Nat} {cs : List Value} (h : T c fr (.cel g 0 cs :: S) Φ) (h0 : cs ≠ []) (hp : Pick H (.row g t 0 [] cs []) S := by (repeat (first | exact .here | apply Pick.there)); first | done | fail) : T c fr H Φ := .mk fun ac w s ag => by
  have s1 := s.pick hp
  exact h.h ac w (s1.conv rfl ⟨h0, row_range (s1.on (.row g t 0 [] cs []) (by simp))⟩ (fun b hb => hb)) ag
theorem repair1_f (x : Int) (gb : Nat) (l : List Int) (a : Option Addr) (c : Nat) (F : List Nat) : Fn Try.prog 68 [.int .i64 x, ptr gb 0 0] [.cel gb 0 [.slice a l.length c], .sl EInt (.slice a l.length c) l F] [] (fun (_ : Unit) => True) (fun _ => .bool (!decide (x ∈ l))) (fun _ => []) := by
  refine enter Try.func68 rfl Try.ntmps68 fun w0 => ?_
  refine go ?_; intros
  refine cf (conI_f l x _ _ F) fun _ _ => ?_
  refine t_app ?_
  refine go ?_; intros
  refine ret () trivial ?_
  rw [decide_not]; rfl
structure RpIS where
  a : Option Addr
  c : Nat
  F : List Nat
  a2 : Option Addr
  c2 : Nat
  F2 : List Nat
theorem facE_yes {e : Element} {n : Int} {l : List Int} (h : atE e n < e.entries.length) : facE e n l = e.entries[atE e n].faces.filter fun f => decide (f ∈ l) := by unfold facE; rw [List.getElem?_eq_getElem h]
theorem facE_no {e : Element} {n : Int} {l : List Int} (h : e.entries[atE e n]? = none) : facE e n l = if e.entries.length = 5 then l else [] := by unfold facE; rw [h]
set_option maxRecDepth 100000 in
set_option maxHeartbeats 1000000 in
theorem Erepair_f (e : Element) (n : Int) (below : List Int) (g t o : Nat) (A B : List Value) (a : Option Addr) (c : Nat) (F : List Nat) (a0 : Option Addr) (c0 : Nat) (F0 : List Nat) (hl : e.entries.length ≤ 1000000) (hf : ∀ x ∈ e.entries, x.faces.length ≤ 1000000) (hb : below.length ≤ 1000000) :
    Fn Try.prog 39 [ptr g o 0, .int .i64 n, .slice a0 below.length c0] [.sl EInt (.slice a0 below.length c0) below F0] [.row g t o A [.int .i64 e.clock, .slice a e.entries.length c] B, .ow OEntry 74 (.slice a e.entries.length c) e.entries F] (fun (_ : RpIS) => True) (fun s => .slice s.a2 (facE e n below).length s.c2) (fun s => [.row g t o A [.int .i64 (repE e n).clock, .slice s.a (repE e n).entries.length s.c] B, .ow OEntry 74 (.slice s.a (repE e n).entries.length s.c) (repE e n).entries s.F, .ow EInt 3 (.slice s.a2 (facE e n below).length s.c2) (facE e n below) s.F2]) := by
  refine enter Try.func39 rfl Try.ntmps39 fun w0 => ?_
  refine go ?_; intros
  rename_i gb
  refine cb (fun w st => by
    obtain ⟨F', -, hs⟩ := (st.get (p := .ow OEntry 74 (.slice a e.entries.length c) e.entries F) (by simp)).2.sl weak_Entry
    exact (Efind_f e n _ F').val w (hol1 ⟨_, rfl, _, rfl, hs⟩)) ?_
  refine t_rocel (cs := [.slice a0 below.length c0]) ?_ (by simp)
  rcases findE_or e n with ⟨h, e1, e2, e3⟩ | ⟨e1, e2, e3, e4⟩
  · rw [e1, repE_yes h, facE_yes h]
    have hfx := hf e.entries[atE e n] (List.getElem_mem h)
    refine go ?_; intros
    refine t_shal one_OEntry rfl fun ys Fy Gy hyl hym => ?_
    generalize atE e n = i at *
    generalize hx : e.entries[i] = x at *
    refine t_fcut i h hyl hym fun G1 Gi G2 => ?_
    rw [hx]
    refine openOEntry ?_
    rintro a5 c5 F5 ev l5
    have hyi : ys[i] = [.int .i64 x.number, .slice a5 x.faces.length c5, .int .i64 x.untl] := by simpa using ev
    refine focF (m := 3) (scal_EC 3) i ?_ (by repeat (first | exact .here | apply Pick.there)) rfl (by omega)
    rintro _ g2 A2 cs B2 rfl rfl hr hH
    obtain ⟨rfl, -⟩ := hr w0
    rw [hyi]
    refine go ?_; intros
    refine cf (DelInt_f 68 [] [ptr gb 0 0] [.cel gb 0 [.slice a0 below.length c0], .sl EInt (.slice a0 below.length c0) below F0] rfl x.faces a5 c5 F5 (fun z => !decide (z ∈ below)) (by kernel_rfl) (by omega) (fun z _ w hA => (repair1_f z gb below a0 c0 F0).val w hA)) fun z _ => ?_
    refine t_app ?_
    have e9 : (x.faces.filter fun z => !!decide (z ∈ below)) = x.faces.filter fun z => decide (z ∈ below) := by simp only [Bool.not_not]
    rw [e9]
    rw [← hyi]
    refine unfF ys[i] hH hr ?_
    rw [List.set_getElem_self]
    refine go ?_; intros
    refine cf (DelE_f ys e.entries.length i _ _ _ _ hyl.symm (by omega) rfl (by omega)) fun q _ => ?_
    refine t_app ?_
    refine go ?_; intros
    refine t_fjoin (E := OEntry) ?_
    refine t_deep (E := OEntry) (m := 3) (ys := ys.take i ++ ys.drop (i + 1)) (cs := (ys.take i).flatten ++ (ys.drop (i + 1)).flatten) (xs := e.entries.take i ++ e.entries.drop (i + 1)) ?_ rfl (by simp) (by simp [hyl])
    rw [show (ys.take i ++ ys.drop (i + 1)).length = (e.entries.take i ++ e.entries.drop (i + 1)).length by simp [hyl]]
    refine ret ⟨_, _, _, _, _, _⟩ trivial rfl
  · rw [e1, repE_no e2, facE_no e2]
    refine go ?_; intros
    refine c_if rfl (fun h5 => ?_) (fun h5 => ?_)
    · rw [if_pos (by omega)]
      refine go ?_; intros
      refine cn (fun w st => Clone_Int _ below F0 w (st.get (p := .sl EInt (.slice a0 below.length c0) below F0) (by simp)).2 (by omega)) fun a6 c6 F6 => ?_
      refine go ?_; intros
      refine ret ⟨_, _, _, _, _, _⟩ trivial rfl
    · rw [if_neg (by omega)]
      refine t_nilow EInt 3 ?_
      refine go ?_; intros
      refine ret ⟨_, _, _, _, _, _⟩ trivial rfl
end Go.Proofs.Ytgogcgkocjpgoaa
/- TakeRequest and TakeRepair, the program's and the reference's. -/
namespace Go.Proofs.Ytgogcgkocjpgoaa
open Go.RowKit
theorem faces_pw {e : Element} (h : goodElement e = true) {x : Entry} (hx : x ∈ e.entries) : x.faces.Pairwise (· < ·) := by
  unfold goodElement at h
  simp only [Bool.and_eq_true] at h
  obtain ⟨i, hi, rfl⟩ := List.getElem_of_mem hx
  have := allUpTo_get h.2 i hi
  rw [entAt_of hi] at this
  simp only [okEntry, Bool.and_eq_true] at this
  exact (rising_pw this.1.2.2.1).1
theorem facS_eq {e : Element} {n : Int} {l : List Int} (h : goodElement e = true) (h2 : rising 1 7 l = true) : facS e n l = facE e n l := by
  unfold facS facE
  cases hx : e.entries[atE e n]? with
  | none => rfl
  | some x => exact (filter_swap (faces_pw h (List.mem_of_getElem? hx)) (rising_pw h2).1).symm
set_option maxRecDepth 100000 in
set_option maxHeartbeats 400000 in
theorem specTakeRepair_f (e : Element) (n : Int) (below : List Int) (a0 : Option Addr) (c0 : Nat) (F0 : List Nat) (v : Value) (F : List Nat) : Fn Try.prog 7 [v, .int .i64 n, .slice a0 below.length c0] [.isv EElement v e F, .sl EInt (.slice a0 below.length c0) below F0] [] (fun (_ : RepS) => True) (fun s => .tuple #[s.v, .slice s.a (resTakeRepair e n below).2.1.length s.c, .bool (resTakeRepair e n below).2.2]) (fun s => [.own OElement s.v (resTakeRepair e n below).1 s.F, .ow EInt 3 (.slice s.a (resTakeRepair e n below).2.1.length s.c) (resTakeRepair e n below).2.1 s.G]) := by
  refine enter Try.func7 rfl Try.ntmps7 fun w0 => ?_
  refine t_nilow OEntry 74 ?_
  refine openElement ?_
  rintro a1 c1 F1 rfl l1
  refine go ?_; intros
  refine cb (fun w st => l14Good_c _ e _ w (st.get (p := .isv EElement (.agg #[.int .i64 e.clock, .slice a1 e.entries.length c1]) e F) (by simp))) ?_
  cases g1 : goodElement e
  · skip
    refine go ?_; intros
    refine t_emp EInt ?_
    rw [resTakeRepair_no (by unfold okTakeRepair; simp [g1])]
    refine clOE ⟨0, []⟩ rfl ?_
    refine ret ⟨_, _, _, _, _⟩ trivial rfl
  obtain ⟨hck, hl5, hf7⟩ := good_room g1
  obtain ⟨hc0, hc1⟩ := isClk_iff.1 hck
  refine go ?_; intros
  refine ce (fun w s => l2Good_c n _) ?_
  cases g2 : isSer n
  · skip
    refine go ?_; intros
    refine t_emp EInt ?_
    rw [resTakeRepair_no (by unfold okTakeRepair; simp [g1, g2])]
    refine clOE ⟨0, []⟩ rfl ?_
    refine ret ⟨_, _, _, _, _⟩ trivial rfl
  refine go ?_; intros
  refine cb (fun w st => l14Faces_c _ below F0 w (st.get (p := .sl EInt (.slice a0 below.length c0) below F0) (by simp)).2) ?_
  cases g3 : rising 1 7 below
  · skip
    refine go ?_; intros
    refine t_emp EInt ?_
    rw [resTakeRepair_no (by unfold okTakeRepair; simp [g1, g2, g3])]
    refine clOE ⟨0, []⟩ rfl ?_
    refine ret ⟨_, _, _, _, _⟩ trivial rfl
  have hb7 := rising_len g3
  have hb8 : below.length ≤ 1000 := by rcases hb7 with h | h; omega; rw [h]; decide
  rw [resTakeRepair_yes (by unfold okTakeRepair; simp [g1, g2, g3])]
  refine go ?_; intros
  refine cf (l14Repair_f e n below _ F a0 c0 F0 (by omega) (fun x hx => by have := hf7 x hx; omega) (by omega)) fun z _ => ?_
  refine t_app ?_
  rw [facS_eq g1 g3]
  refine openOElement ?_
  rintro a6 c6 F6 e6 l6
  rw [e6]
  refine go ?_; intros
  refine clOE (repE e n) rfl ?_
  refine ret ⟨_, _, _, _, _⟩ trivial rfl
set_option maxRecDepth 100000 in
set_option maxHeartbeats 400000 in
theorem TakeRepair_f (e : Element) (n : Int) (below : List Int) (a0 : Option Addr) (c0 : Nat) (F0 : List Nat) (v : Value) (F : List Nat) : Fn Try.prog 10 [v, .int .i64 n, .slice a0 below.length c0] [.isv EElement v e F, .sl EInt (.slice a0 below.length c0) below F0] [] (fun (_ : RepS) => True) (fun s => .tuple #[s.v, .slice s.a (resTakeRepair e n below).2.1.length s.c, .bool (resTakeRepair e n below).2.2]) (fun s => [.own OElement s.v (resTakeRepair e n below).1 s.F, .ow EInt 3 (.slice s.a (resTakeRepair e n below).2.1.length s.c) (resTakeRepair e n below).2.1 s.G]) := by
  refine enter Try.func10 rfl Try.ntmps10 fun w0 => ?_
  refine t_nilow OEntry 74 ?_
  refine t_nilow EInt 3 ?_
  refine openElement ?_
  rintro a1 c1 F1 rfl l1
  refine go ?_; intros
  refine cb (fun w st => IsValidElement_c _ e _ w (st.get (p := .isv EElement (.agg #[.int .i64 e.clock, .slice a1 e.entries.length c1]) e F) (by simp))) ?_
  cases g1 : goodElement e
  · skip
    refine go ?_; intros
    rw [resTakeRepair_no (by unfold okTakeRepair; simp [g1])]
    refine clOE ⟨0, []⟩ rfl ?_
    refine ret ⟨_, _, _, _, _⟩ trivial rfl
  obtain ⟨hck, hl5, hf7⟩ := good_room g1
  obtain ⟨hc0, hc1⟩ := isClk_iff.1 hck
  refine go ?_; intros
  refine ce (fun w s => IsSerial_c n _) ?_
  cases g2 : isSer n
  · skip
    refine go ?_; intros
    rw [resTakeRepair_no (by unfold okTakeRepair; simp [g1, g2])]
    refine clOE ⟨0, []⟩ rfl ?_
    refine ret ⟨_, _, _, _, _⟩ trivial rfl
  refine go ?_; intros
  refine ce (fun w st => areFaces_c _ below F0 w (st.get (p := .sl EInt (.slice a0 below.length c0) below F0) (by simp)).2) ?_
  cases g3 : rising 1 7 below
  · skip
    refine go ?_; intros
    rw [resTakeRepair_no (by unfold okTakeRepair; simp [g1, g2, g3])]
    refine clOE ⟨0, []⟩ rfl ?_
    refine ret ⟨_, _, _, _, _⟩ trivial rfl
  have hb7 := rising_len g3
  have hb8 : below.length ≤ 1000 := by rcases hb7 with h | h; omega; rw [h]; decide
  rw [resTakeRepair_yes (by unfold okTakeRepair; simp [g1, g2, g3])]
  refine go ?_; intros
  refine cv (fun w st => Element_clone_c _ e _ w (st.get (p := .isv EElement (.agg #[.int .i64 e.clock, .slice a1 e.entries.length c1]) e F) (by simp)) (by omega) (fun x hx => Nat.le_trans (hf7 x hx) (by decide))) fun u FU => ?_
  refine openOElement ?_
  rintro a6 c6 F6 rfl l6
  refine go ?_; intros
  refine cf (Erepair_f e n below _ _ _ _ _ a6 c6 F6 a0 c0 F0 (by omega) (fun x hx => by have := hf7 x hx; omega) (by omega)) fun z _ => ?_
  refine t_app ?_
  refine go ?_; intros
  refine clOE (repE e n) rfl ?_
  refine ret ⟨_, _, _, _, _⟩ trivial rfl
end Go.Proofs.Ytgogcgkocjpgoaa
/- Elements: bounds on marks; plain. -/
namespace Go.Proofs.Ytgogcgkocjpgoaa
open Go.RowKit
theorem isv_weak {α : Type} {O R : Elem α} (hW : Weak O R) {w : World} {v : Value} {x : α} {F : List Nat} (h : IsV O w v x F) : ∃ F', (∀ b ∈ F', b ∈ F) ∧ IsV R w v x F' := by
  obtain ⟨cs, hv, h⟩ := h
  obtain ⟨F', h1, h2⟩ := hW.rep h
  exact ⟨F', h1, cs, hv, h2⟩
theorem cntL_bd {α : Type} (f : α → Nat) (B : Nat) : ∀ xs : List α, (∀ x ∈ xs, f x ≤ B) → cntL f xs ≤ xs.length * B
  | [], _ => by simp [cntL]
  | x :: r, h => by
    have h1 := h x (by simp)
    have h2 := cntL_bd f B r fun y hy => h y (by simp [hy])
    have e : cntL f (x :: r) = f x + cntL f r := by simp [cntL]
    rw [e, List.length_cons, Nat.add_mul]; omega
theorem cvElem_le (M : Nat) (x : Element) (h1 : x.entries.length ≤ M) (h2 : ∀ y ∈ x.entries, y.faces.length ≤ M) (hM : M * (M + 2) ≤ 4294967296 := by decide) : cvElement x ≤ 4294967296 := by
  unfold cvElement
  refine Nat.le_trans (cntL_bd cntEntry (M + 2) x.entries fun y hy => ?_) (Nat.le_trans (Nat.mul_le_mul_right _ h1) hM)
  have := h2 y hy
  unfold cntEntry
  rw [cntL_int]
  simp only [cntI]; omega
end Go.Proofs.Ytgogcgkocjpgoaa
/- The contracts of TakeRepair in the form that the law takes, and a bound on the marks of its result. -/
namespace Go.Proofs.Ytgogcgkocjpgoaa
open Go.RowKit
def PS_TakeRepair : Element × (List Int) × Bool → World → Ending → World → Prop := fun (r0, r1, r2) w e w' => ∃ u0 G0 u1 G1, e = .returned (.tuple #[u0, u1, .bool r2]) ∧ IsV EElement w' u0 r0 G0 ∧ Sl EInt w' u1 r1 G1 ∧ Below w.heap.size w w'
def PI_TakeRepair : Element × (List Int) × Bool → World → Ending → World → Prop := fun (r0, r1, r2) w e w' => ∃ u0 G0 u1 G1, e = .returned (.tuple #[u0, u1, .bool r2]) ∧ IsV OElement w' u0 r0 G0 ∧ Ow EInt 3 w' u1 r1 G1 ∧ (G0 ++ G1).Nodup ∧ (∀ b ∈ G0 ++ G1, w.heap.size ≤ b) ∧ Below w.heap.size w w'
theorem specTakeRepair_c (v0 : Value) (x0 : Element) (F0 : List Nat) (x1 : Int) (v2 : Value) (x2 : List Int) (F2 : List Nat) (w : World) (h0 : IsV EElement w v0 x0 F0) (h2 : Sl EInt w v2 x2 F2) :
    Calls Try.prog 7 #[v0, .int .i64 x1, v2] w (PS_TakeRepair (resTakeRepair x0 x1 x2) w) := by
  obtain ⟨a0, c0, rfl⟩ := h2.slice
  refine ((specTakeRepair_f x0 x1 x2 a0 c0 F2 v0 F0).read w (hol2 h0 ⟨by decide, h2⟩)).mono ?_
  rintro e w' ⟨s, -, rfl, hH, hB⟩
  have a1 := hH (.own OElement s.v (resTakeRepair x0 x1 x2).1 s.F) (by simp)
  have a2 := hH (.ow EInt 3 (.slice s.a (resTakeRepair x0 x1 x2).2.1.length s.c) (resTakeRepair x0 x1 x2).2.1 s.G) (by simp)
  obtain ⟨F', -, hE⟩ := isv_weak weak_Element a1.2
  obtain ⟨G', -, hS⟩ := a2.2.read
  exact ⟨_, F', _, G', rfl, hE, hS, hB⟩
theorem TakeRepair_c (v0 : Value) (x0 : Element) (F0 : List Nat) (x1 : Int) (v2 : Value) (x2 : List Int) (F2 : List Nat) (w : World) (h0 : IsV EElement w v0 x0 F0) (h2 : Sl EInt w v2 x2 F2) :
    Calls Try.prog 10 #[v0, .int .i64 x1, v2] w (PI_TakeRepair (resTakeRepair x0 x1 x2) w) := by
  obtain ⟨a0, c0, rfl⟩ := h2.slice
  refine ((TakeRepair_f x0 x1 x2 a0 c0 F2 v0 F0).made w (hol2 h0 ⟨by decide, h2⟩) (fun _ => rfl)).mono ?_
  rintro e w' ⟨s, -, rfl, hH, hn, hF, hB⟩
  have a1 := hH (.own OElement s.v (resTakeRepair x0 x1 x2).1 s.F) (by simp)
  have a2 := hH (.ow EInt 3 (.slice s.a (resTakeRepair x0 x1 x2).2.1.length s.c) (resTakeRepair x0 x1 x2).2.1 s.G) (by simp)
  simp only [fp, Pc.F, List.append_nil] at hn hF
  exact ⟨_, s.F, _, s.G, rfl, a1.2, a2.2, hn, hF, hB⟩
theorem resTakeRepair_cv (x0 : Element) (x1 : Int) (x2 : List Int) (_h0 : wtElement x0 ≤ 1048576) (h2 : wtL (fun _ => 0) x2 ≤ 1048576) : cvElement ((resTakeRepair x0 x1 x2).1) ≤ 4294967296 ∧ cntL cntI ((resTakeRepair x0 x1 x2).2.1) ≤ 4294967296 := by
  unfold resTakeRepair
  split
  · rename_i h
    unfold okTakeRepair at h
    simp only [Bool.and_eq_true] at h
    obtain ⟨-, hl, hf⟩ := good_room h.1.1
    have hb : x2.length ≤ 1000 := by rcases rising_len h.2 with h | h; omega; rw [h]; decide
    refine ⟨cvElem_le 1000 _ ?_ ?_, ?_⟩
    · show (repE x0 x1).entries.length ≤ 1000
      unfold repE
      split
      · simp only [List.length_append, List.length_take, List.length_drop]; omega
      · omega
    · show ∀ x ∈ (repE x0 x1).entries, x.faces.length ≤ 1000
      unfold repE
      split
      · intro x hx
        have : x ∈ x0.entries := by
          rcases List.mem_append.1 hx with h | h
          · exact List.mem_of_mem_take h
          · exact List.mem_of_mem_drop h
        have := hf x this; omega
      · intro x hx; have := hf x hx; omega
    · show cntL cntI (facE x0 x1 x2) ≤ _
      rw [cntL_int]
      unfold facE
      split
      · rename_i y hy
        have := hf y (List.mem_of_getElem? hy)
        have := List.length_filter_le (fun f => decide (f ∈ x2)) y.faces
        omega
      · split
        · omega
        · decide
  · refine ⟨by decide, by decide⟩
end Go.Proofs.Ytgogcgkocjpgoaa
/- What every law's proof shares: the step from 'returns true, and nothing that was there has turned' to the row's post; how arguments read. -/
namespace Go.Proofs.Ytgogcgkocjpgoaa
open Go.ChangeShapes Go.WideShapes Go.ChangeAt Go.RowKit

theorem trodAll_below {H : Type} {enc : TypeId × Value → H} {P : Program} (hl : laidOutB P = true) {W W' : World} (hb : Below W.heap.size W W') :
    ∀ (ts : List TypeId) (vs : List Value) (ds : List (DataW H)) (ps : List MemPlace), (∀ t ∈ ts, P.readableRec t = true ∧ t < P.types.size) →
      DataW.TrodAll enc P W 0 (fun _ => true) true ts vs ds ps → (∀ x ∈ ps, x.block < W.heap.size) → DataW.TrodAll enc P W' 0 (fun b => decide (b < W.heap.size)) true ts vs ds ps
  | [], vs, ds, ps, _, h, _ => by obtain ⟨rfl, rfl, rfl⟩ := trodAll_nil h; exact rfl
  | t :: ts, vs, ds, ps, ht, h, hlt => by
    obtain ⟨v, vs', d, ds', p, q, rfl, rfl, rfl, h1, h2⟩ := trodAll_cons h
    have ⟨a, b⟩ := ht t (by simp)
    exact ⟨p, q, Below.trod hl a b h1 hb fun x hx => hlt x (by simp [hx]), trodAll_below hl hb ts vs' ds' q (fun t h => ht t (by simp [h])) h2 fun x hx => hlt x (by simp [hx]), rfl⟩

/-- A law returned true and left all that was there aS it was: the row's post. -/
theorem law_post {H : Type} {enc : TypeId × Value → H} {P : Program} {f : Func} {s : ChangeSpec} {tb : TypeId} (hl : laidOutB P = true) (hr : ∀ t ∈ f.params.toList, P.readableRec t = true ∧ t < P.types.size)
    (hb : P.underlying tb = some .bool) (hres : f.resultTypes = #[tb]) (hv : s.vars = []) {W W' : World} {args : Array Value} {ds gs : List (DataW H)} {before : List MemPlace}
    (hs : s.fn H ds = { results := [.lit (.bool true)], args := ds }) (hW : DataW.Whole enc P f.params.toList s.vars false W args.toList ds gs before) (hB : Below W.heap.size W W') :
    s.post enc P f false true false false W args (.bool true) W' := by
  have hlt := hW.lt
  have hW0 := hW
  obtain ⟨p, q, hA, hV, rfl, _, _⟩ := hW0
  rw [hv] at hV
  obtain ⟨rfl, rfl⟩ := trodVars_none hV
  refine ⟨ds, [], p ++ [], [], p, [], hW, ?_, ?_, ?_, hB.frame _, fun h => by cases h⟩
  · rw [List.append_nil, hs, hres]
    exact trodAll_mk1 (shut_bool hb true)
  · rw [List.append_nil, hs]
    exact trodAll_below hl hB _ _ _ _ hr hA fun x hx => hlt x (by simpa using hx)
  · rw [hv, List.append_nil, hs]; exact rfl

/-- what reads aS data at type t reads by E -/
def Reads (P : Program) {α : Type} (E : Elem α) (t : TypeId) : Prop :=
  ∀ {H : Type} {enc : TypeId × Value → H} {w : World} {fuel : Nat} {cs : List Value} {x : DataW H × List MemPlace}, DataW.trod enc P w 0 (fun _ => true) true fuel t cs = some x → ∃ y F, E.rep w cs y F

section
variable {P : Program}
theorem reads_int {t : TypeId} (ht : P.underlying t = some (.int .i64)) : Reads P EInt t := fun h => by
  obtain ⟨n, rfl, _, _⟩ := DataW.trod_int ht h; exact ⟨n, [], rfl, rfl⟩
theorem reads_cells {α : Type} {E : Elem α} {e : TypeId} (hsz : P.cellsOf e = E.sz) (he : Reads P E e) {H : Type} {enc : TypeId × Value → H} {w : World} {n b off : Nat} :
    ∀ (els : List (DataW H × List MemPlace)) (k : Nat), (∀ i, i < els.length → (w.cells? 0 ((⟨b, off, none⟩ : Addr).add ((k + i) * P.cellsOf e)) (P.cellsOf e)).bind (DataW.trod enc P w 0 (fun _ => true) true n e) = els[i]?) →
      ∃ ys F, ys.length = els.length ∧ Cells E w b (off + k * E.sz) ys F
  | [], _, _ => ⟨[], [], rfl, rfl⟩
  | x :: r, k, h => by
    have h0 := h 0 (by simp)
    simp only [Nat.add_zero, List.getElem?_cons_zero, Option.bind_eq_some_iff] at h0
    obtain ⟨cs, hc, hx⟩ := h0
    obtain ⟨y, F1, hy⟩ := he hx
    obtain ⟨ys, F2, hl, hys⟩ := reads_cells hsz he r (k + 1) fun i hi => by
      have := h (i + 1) (by simpa using hi)
      rw [show k + 1 + i = k + (i + 1) by omega]
      simpa using this
    refine ⟨y :: ys, F1 ++ F2, by simp [hl], cs, F1, F2, rfl, hy, fun j hj => ?_, by rwa [show off + k * E.sz + E.sz = off + (k + 1) * E.sz by rw [Nat.add_mul]; omega]⟩
    obtain ⟨_, hlen, hcell⟩ := World.cells?_some hc
    rw [← hcell j (by rw [hsz]; exact hj)]
    congr 1
    simp only [Addr.add, hsz]
    split <;> split <;> simp_all <;> omega
theorem reads_slice {α : Type} {E : Elem α} {t e : TypeId} (ht : P.underlying t = some (.slice e)) (hsz : P.cellsOf e = E.sz) (hz : 0 < E.sz) (he : Reads P E e) : Reads P (ESl E hz) t := fun h => by
  rcases DataW.trod_slice ht h with ⟨rfl, _⟩ | ⟨a, len, cap, elems, rest, n, rfl, rfl, _, _, hlc, hcm, hlen, hel, _, _⟩
  · exact ⟨[], [], _, rfl, none, 0, rfl, ⟨by simp, by simp⟩, .inl ⟨rfl, rfl, fun _ => rfl⟩⟩
  · by_cases h0 : len = 0
    · subst h0
      exact ⟨[], [], _, rfl, some a, cap, rfl, ⟨by simp, by omega⟩, .inl ⟨rfl, rfl, fun e => by cases e⟩⟩
    · have hs : a = ⟨a.block, a.off, none⟩ := by
        have := hel 0 (by omega)
        rw [List.getElem?_eq_getElem (by omega)] at this
        simp only [Option.bind_eq_some_iff] at this
        obtain ⟨cs, hc, _⟩ := this
        obtain ⟨_, hl2, hcell⟩ := World.cells?_some hc
        have h1 := hcell 0 (by omega)
        rw [List.getElem?_eq_getElem (by omega)] at h1
        simp [Addr.add, World.cell?] at h1
        split at h1 <;> simp_all
        cases a; simp_all
      obtain ⟨ys, F, hyl, hys⟩ := reads_cells hsz he elems 0 (n := n) (b := a.block) (off := a.off) (enc := _) (w := _) (by
        rw [← hs]; intro i hi; rw [Nat.zero_add]; exact hel i (by omega))
      refine ⟨ys, a.block :: F, _, rfl, some a, cap, by rw [hyl, hlen], ⟨by omega, by omega⟩, .inr ⟨a.block, a.off, F, by rw [← hs], ?_, rfl, by simpa using hys⟩⟩
      intro e; rw [e] at hyl; simp at hyl; omega
end

/-- the fields of a struct, one behind the other, each by its own reading -/
inductive FieldsOk (P : Program) : List Field → Nat → (α : Type) → Elem α → Prop
  | nil (off : Nat) : FieldsOk P [] off Unit EUnit
  | cons {f : Field} {r : List Field} {off : Nat} {α β : Type} {A : Elem α} {B : Elem β} (ho : f.offset = off) (hc : P.cellsOf f.type = A.sz) (hA : Reads P A f.type) (h : FieldsOk P r (off + A.sz) β B) : FieldsOk P (f :: r) off (α × β) (EProd A B)
theorem fields_read {P : Program} {H : Type} {enc : TypeId × Value → H} {w : World} {n : Nat} {cs : List Value} {fs : List Field} {off : Nat} {α : Type} {E : Elem α} (h : FieldsOk P fs off α E) :
    (∀ f ∈ fs, ∃ x, DataW.trod enc P w 0 (fun _ => true) true n f.type ((cs.drop f.offset).take (P.cellsOf f.type)) = some x) → off + E.sz = cs.length → ∃ y F, E.rep w (cs.drop off) y F := by
  induction h with
  | nil off => intro _ hl; exact ⟨(), [], List.drop_of_length_le (by simp [EUnit] at hl; omega), rfl⟩
  | @cons f r off α β A B ho hc hA _ ih =>
    intro hf hl
    obtain ⟨x, hx⟩ := hf f (by simp)
    obtain ⟨y, F1, hy⟩ := hA hx
    obtain ⟨y2, F2, hy2⟩ := ih (fun f h => hf f (by simp [h])) (by simp only [EProd] at hl; omega)
    subst ho
    exact ⟨(y, y2), F1 ++ F2, _, _, F1, F2, by rw [hc, ← List.drop_drop, List.take_append_drop], rfl, hy, hy2⟩
theorem reads_struct {P : Program} {t : TypeId} {fs : Array Field} {α : Type} {E : Elem α} (ht : P.underlying t = some (.struct fs)) (hC : P.cellsOf t = E.sz) (h : FieldsOk P fs.toList 0 α E) : Reads P E t := fun hh => by
  obtain ⟨xs, n, rfl, _, hcl, hxl, hx⟩ := DataW.trod_struct ht hh
  have := fields_read (enc := _) (w := _) (n := n) h (fun f hf => by
    obtain ⟨i, hi, rfl⟩ := List.getElem_of_mem hf
    have := hx i fs.toList[i] (by simp)
    rw [List.getElem?_eq_getElem (by simpa [hxl] using hi)] at this
    exact ⟨_, this⟩) (by rw [hcl, hC]; simp)
  simpa using this
end Go.Proofs.Ytgogcgkocjpgoaa
