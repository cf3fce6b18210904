/- Part 2 of the proof: 33 texts, one behind the other. -/
import Derived.Lib.Overlaps
import Derived.Lib.AppendZerosOnto
import Derived.Laws.IdiomCopy
import Derived.Deep.RegionLaw
import Derived.BigQuiet
import Derived.ArgAppend
import Derived.ProofKit
import Derived.OpenShut
import Derived.Test.YtgogcgkocjpgoaaM1
/- The type Entry of the exact laws: how it reads, how it is owned; the walks of its size, copy, equality, mark and held. Written by wip/gentypes.py. -/
namespace Go.Proofs.Ytgogcgkocjpgoaa
open Go.RowKit
structure Entry where
  number : Int
  faces : List Int
  untl : Int
/-- read -/
def EEntry : Elem Entry where
  sz := 3
  rep w cs x F := ∃ v1, cs = [.int .i64 x.number, v1, .int .i64 x.untl] ∧ Sl EInt w v1 x.faces F
  len h := by obtain ⟨v1, rfl, h1⟩ := h; rfl
  lt h := by obtain ⟨v1, rfl, h1⟩ := h; exact h1.lt (by decide)
  frame h hF := by obtain ⟨v1, rfl, h1⟩ := h; exact ⟨v1, rfl, h1.frame hF⟩
theorem one_EEntry : One EEntry := fun h u hu => by
  obtain ⟨v1, rfl, h1⟩ := h
  simp only [List.mem_cons, List.not_mem_nil, or_false] at hu
  rcases hu with rfl | rfl | rfl
  · rfl
  · exact h1.one
  · rfl
theorem info_Entry : (Try.prog.info? 74).map (fun i => (i.zero, i.size, i.bytes)) = some (some (.agg #[.int .i64 0, .slice none 0 0, .int .i64 0]), 3, 40) := by kernel_rfl
/-- owned -/
def OEntry : Elem Entry where
  sz := 3
  rep w cs x F := ∃ v1, cs = [.int .i64 x.number, v1, .int .i64 x.untl] ∧ Ow EInt 3 w v1 x.faces F
  len h := by obtain ⟨v1, rfl, h1⟩ := h; rfl
  lt h := by obtain ⟨v1, rfl, h1⟩ := h; exact h1.lt
  frame h hF := by obtain ⟨v1, rfl, h1⟩ := h; exact ⟨v1, rfl, h1.frame hF⟩
theorem one_OEntry : One OEntry := fun h u hu => by
  obtain ⟨v1, rfl, h1⟩ := h
  simp only [List.mem_cons, List.not_mem_nil, or_false] at hu
  rcases hu with rfl | rfl | rfl
  · rfl
  · exact h1.one
  · rfl
theorem weak_Entry : Weak OEntry EEntry := ⟨rfl, fun h => by
  obtain ⟨v1, rfl, h1⟩ := h
  obtain ⟨G1, g1, k1⟩ := h1.sl (Weak.refl _)
  exact ⟨G1, g1, v1, rfl, k1⟩⟩
def wtEntry (x : Entry) : Nat := wtL (fun _ => 0) x.faces
def cntEntry (x : Entry) : Nat := cntI x.number + (cntL cntI) x.faces + cntI x.untl
def mkEntry (k : Int) (x : Entry) : Entry := ⟨mkI (k) x.number, (markL mkI cntI) (k + cntI x.number) x.faces, mkI (k + cntI x.number + (cntL cntI) x.faces) x.untl⟩
theorem cntEntry_wt (x : Entry) : cntEntry x ≤ 2 * (1 + wtEntry x) := by
  have h0 := cntL_wt cntI (fun _ => 0) 1 (fun x => by simp [cntI]) x.faces
  simp only [cntEntry, wtEntry, cntI, cntB, cntS]
  omega
set_option maxHeartbeats 800000 in
theorem szEntry_c (v : Value) (x : Entry) (F : List Nat) (n : Int) (w : World) (h : IsV EEntry w v x F) (h0 : 0 ≤ n) (h1 : n ≤ 1048576) :
    Calls Try.prog 59 #[v, .int .i64 n] w fun e w' => e = .returned (.int .i64 (szr n (wtEntry x))) ∧ Below w.heap.size w w' := by
  obtain ⟨_, rfl, v1, rfl, h1⟩ := h
  have hB0 : ∀ A : Obj, Below w.heap.size w (w.alloc A) := fun A => (Below.refl _ _).alloc (Nat.le_refl _) _
  unfold wtEntry
  go_enter Try.func59, Try.ntmps59
  go_wp2_with fail
  refine (szIntS_c _ x.faces _ _ _ (h1.below (by decide) (hB0 _)) (by omega) (by omega)).mono ?_
  rintro e w1 ⟨rfl, hb1⟩
  have r0 := Row.below (g := w.heap.size) (t := 79) (cs := [.int .i64 x.number, v1, .int .i64 x.untl]) (by simp [row_alloc]) hb1
  have hB := tr (hB0 _) hb1 (Nat.le_refl _)
  have c0 := r0.cells
  clear hb1
  rcases szr_or (n) (wtL (fun _ => 0) x.faces) with ⟨e1, l1⟩ | ⟨e1, l1⟩
  · simp only [e1]
    have z1 := Lib.hid e1; clear e1
    go_wp2_with fail
    go_ret
    exact ⟨ret_int (szr_no (by omega)).symm, hB⟩
  simp only [e1]
  have z1 := Lib.hid e1; clear e1
  go_wp2_with fail
  go_ret
  exact ⟨ret_int (by rw [szr_yes (by omega)]; all_goals omega), hB⟩
set_option maxHeartbeats 800000 in
theorem szEntryS_c (v : Value) (xs : List Entry) (F : List Nat) (n : Int) (w : World) (h : Sl EEntry w v xs F) (h0 : 0 ≤ n) (h1 : n ≤ 1048576) :
    Calls Try.prog 30 #[v, .int .i64 n] w fun e w' => e = .returned (.int .i64 (szr n (wtL wtEntry xs))) ∧ Below w.heap.size w w' := by
  obtain ⟨a, cap, rfl⟩ := h.slice
  have hl := h.len
  unfold maxLen at hl
  go_enter Try.func30, Try.ntmps30
  by_cases hn : n < xs.length
  · go_wp2
    go_ret
    exact ⟨ret_int (szr_no (by have := wtL_le wtEntry xs 0; omega)).symm, Below.refl _ _⟩
  go_wp2
  go_loopw [1, 5] (fun l i wr => ∃ k : Nat, k ≤ xs.length ∧ i = .int .i64 k ∧ l = .int .i64 (n - xs.length - psum wtEntry xs k) ∧ (psum wtEntry xs k : Int) + xs.length ≤ n ∧ Below w.heap.size w wr) (fun _ i _ => xs.length - (intOf i).toNat)
  case atStart => exact ⟨0, Nat.zero_le _, rfl, by rw [psum_zero]; simp, by rw [psum_zero]; omega, Below.refl _ _⟩
  case round =>
    obtain ⟨k, hk, rfl, rfl, hle, hB⟩ := hrel
    by_cases hlt : k < xs.length
    · have hsn := psum_snoc wtEntry xs k hlt
      have hsl := wtL_le wtEntry xs (k + 1)
      obtain ⟨b, off, _, F1, rfl, hx, -, ja⟩ := (h.below (by decide) hB).at k hlt
      obtain ⟨v1, rfl, h1⟩ := id hx
      have a0 := ja 0 (by decide)
      have a1 := ja 1 (by decide)
      have a2 := ja 2 (by decide)
      simp only [show EEntry.sz = 3 from rfl, Nat.mul_one, Nat.add_zero, List.getElem?_cons_zero, List.getElem?_cons_succ] at a0 a1 a2
      clear ja
      have hS := Lib.hid hsn; clear hsn
      go_wp2_with fail
      refine (szEntry_c _ xs[k] _ _ _ ⟨_, rfl, hx⟩ (by omega) (by omega)).mono ?_
      rintro e w1 ⟨rfl, hb1⟩
      have hB := tr hB hb1 (Nat.le_refl _)
      rcases szr_or (n - xs.length - psum wtEntry xs k) (wtEntry xs[k]) with ⟨e1, l1⟩ | ⟨e1, l1⟩
      · simp only [e1]
        have z1 := Lib.hid e1; clear e1
        go_wp2_with fail
        go_ret
        exact ⟨ret_int (szr_no (by have := hS.out; omega)).symm, hB⟩
      · simp only [e1]
        have z1 := Lib.hid e1; clear e1
        go_wp2_with fail
        exact ⟨⟨k + 1, by omega, by go_num, congrArg (Value.int .i64) (by have := hS.out; omega), by have := hS.out; omega, hB⟩, by simp [intOf]; omega⟩
    · have hk : k = xs.length := by omega
      subst hk
      go_wp2_with fail
      go_ret
      exact ⟨ret_int (by rw [szr_yes (by rw [wtL_eq]; omega), wtL_eq]; all_goals omega), hB⟩
set_option maxHeartbeats 1600000 in
theorem toEntry_c (v : Value) (x : Entry) (F : List Nat) (w : World) (h : IsV EEntry w v x F) (hl : wtEntry x ≤ 1048576) :
    Calls Try.prog 65 #[v] w (RetV OEntry x w) := by
  obtain ⟨_, rfl, v1, rfl, h1⟩ := h
  unfold wtEntry at hl
  have hB0 : ∀ A B C : Obj, Below w.heap.size w (((w.alloc A).alloc B).alloc C) := fun A B C => (((Below.refl _ _).alloc (Nat.le_refl _) _).alloc (by simp) _).alloc (by simp <;> omega) _
  go_enter Try.func65, Try.ntmps65
  go_wp2_with fail
  refine (toIntS_c _ x.faces _ _ (h1.below (by decide) (hB0 _ _ _)) (by omega)).mono ?_
  rintro e w1 ⟨y1, K1, rfl, o1, n1, g1, hb1⟩
  obtain ⟨d1, p1, rfl⟩ := o1.slice
  have l1 : ∀ b ∈ K1, b < w1.heap.size := o1.lt
  have r0 := Row.below (g := w.heap.size) (t := 79) (cs := [.int .i64 x.number, v1, .int .i64 x.untl]) (by simp [row_alloc] <;> omega) hb1
  have r1 := Row.below (g := w.heap.size + 1) (t := 74) (cs := [.int .i64 0, .slice none 0 0, .int .i64 0]) (by simp [row_alloc] <;> omega) hb1
  have r2 := Row.below (g := w.heap.size + 1 + 1) (t := 74) (cs := [.int .i64 x.number, .slice none 0 0, .int .i64 0]) (by simp [row_alloc] <;> omega) hb1
  have hB := tr (hB0 _ _ _) hb1 (Nat.le_refl _)
  have hs1 := hb1.size
  simp only [World.size_alloc] at hs1 g1
  clear hb1
  have c0 := r0.cells; have c1 := r1.cells; have c2 := r2.cells; have f1 := r1.frozens; have f2 := r2.frozens
  have o1_ := Lib.hid o1
  go_wp2_with fail
  refine bodyPost_ret (v := .agg #[.int .i64 x.number, .slice d1 x.faces.length p1, .int .i64 x.untl]) ?_ rfl ?_
  · simp [results, Try.results65, go_sem, c0, c1, c2, f1, f2]
  · refine ⟨_, K1, rfl, ⟨_, rfl, _, rfl, ?_⟩, ?_, ?_, ?_⟩
    · repeat refine Ow.setFar ?_ (fun hm => by have := g1 _ hm; simp at this <;> omega) _
      exact o1
    · exact n1
    · intro b hb
      have := g1 b hb; omega
    · repeat refine Below.setCell ?_ (by simp <;> omega) _
      exact hB
set_option maxHeartbeats 1600000 in
theorem toEntryS_c (v : Value) (xs : List Entry) (F : List Nat) (w : World) (h : Sl EEntry w v xs F) (hl1 : wtL wtEntry xs ≤ 1048576) :
    Calls Try.prog 35 #[v] w (RetNew OEntry 74 xs w) := by
  obtain ⟨a, cap, rfl⟩ := h.slice
  have hl2 : xs.length ≤ 1048576 := by unfold wtL at hl1; omega
  have hmk := fun w => run_make_rows (P := Try.prog) 27 74 (.agg #[.int .i64 0, .slice none 0 0, .int .i64 0]) 3 40 Try.underlying27 info_Entry xs.length (by omega) (by omega) w
  have hm := Lib.hid (Ow.made (E := OEntry) (t := 74) w #[.int .i64 0, .slice none 0 0, .int .i64 0] xs.length (⟨0, [], 0⟩ : Entry) rfl (fun _ => ⟨_, rfl, .inl ⟨rfl, rfl, rfl⟩⟩) (by unfold maxLen; omega))
  go_enter Try.func35, Try.ntmps35
  go_wp2
  clear hmk
  go_loopw [4] (fun i wr => ∃ k : Nat, k ≤ xs.length ∧ i = .int .i64 k ∧ ∃ F, Ow OEntry 74 wr (.slice (some ⟨w.heap.size, 0, none⟩) xs.length xs.length) (xs.take k ++ List.replicate (xs.length - k) (⟨0, [], 0⟩ : Entry)) F ∧ F.Nodup ∧ (∀ b ∈ F, w.heap.size ≤ b) ∧ Below w.heap.size w wr) (fun i _ => xs.length - (intOf i).toNat)
  case atStart => exact ⟨0, Nat.zero_le _, rfl, _, by simpa [show OEntry.sz = 3 from rfl, Value.cells] using hm.out, by simp, by simp, (Below.refl _ _).alloc (Nat.le_refl _) _⟩
  case round =>
    obtain ⟨k, hk, rfl, F2, ho, hn, hF, hB⟩ := hrel
    by_cases hlt : k < xs.length
    · obtain ⟨b, off, _, F1, rfl, hx, -, ja⟩ := (h.below (by decide) hB).at k hlt
      obtain ⟨v1, rfl, h1⟩ := id hx
      have a0 := ja 0 (by decide)
      have a1 := ja 1 (by decide)
      have a2 := ja 2 (by decide)
      simp only [show EEntry.sz = 3 from rfl, Nat.mul_one, Nat.add_zero, List.getElem?_cons_zero, List.getElem?_cons_succ] at a0 a1 a2
      clear ja
      have hst := Lib.hid (set_take_rep xs (⟨0, [], 0⟩ : Entry) k xs.length rfl hlt xs[k] (by simp))
      have hws : wtEntry xs[k] ≤ 1048576 := by have := psum_snoc wtEntry xs k hlt; have := wtL_le wtEntry xs (k + 1); omega
      have HO0 := Lib.hid ho
      clear ho
      go_wp2_with fail
      refine (toEntry_c _ xs[k] _ _ ⟨_, rfl, hx⟩ hws).mono ?_
      rintro e w1 ⟨_, K, rfl, ⟨cs1, rfl, oo⟩, nn, gg, hb1⟩
      have ho := HO0.out.below hb1
      obtain ⟨hgF, hcell, hput⟩ := ho.put hn k (by simp; omega)
      have hlt2 := HO0.out.lt
      obtain ⟨F3, ho3, hn3, hs3⟩ := hput cs1 xs[k] K oo nn (fun b hb hc => by have := gg b hb; have := hlt2 b hc; omega)
      obtain ⟨y1, rfl, q1⟩ := id oo
      obtain ⟨d1, p1, rfl⟩ := q1.slice
      rw [hst.out] at ho3
      simp only [show OEntry.sz = 3 from rfl, Nat.mul_one, putCells] at ho3
      obtain ⟨⟨q0_, z0⟩, f0⟩ := hcell 0 (by decide)
      obtain ⟨⟨q1_, z1⟩, f1⟩ := hcell 1 (by decide)
      obtain ⟨⟨q2_, z2⟩, f2⟩ := hcell 2 (by decide)
      simp only [show OEntry.sz = 3 from rfl, Nat.mul_one, Nat.add_zero] at z0 f0 z1 f1 z2 f2
      have HO := Lib.hid ho3
      have hB1 := tr hB hb1 (Nat.le_refl _)
      have hF3 : ∀ b ∈ F3, w.heap.size ≤ b := fun b hb => by
        rcases hs3 b hb with hb | hb
        · exact hF b hb
        · have := gg b hb; have := hB.size; omega
      clear ho ho3 hput hcell HO0 oo
      go_wp2_with fail
      exact ⟨⟨k + 1, by omega, by go_num, F3, HO.out, hn3, hF3, by (repeat (refine Below.setCell ?_ (by simp) _)); exact hB1⟩, by simp [intOf]; omega⟩
    · have hk : k = xs.length := by omega
      subst hk
      have HO := Lib.hid ho
      clear ho
      go_wp2_with fail
      go_ret
      exact ⟨_, F2, rfl, by simpa using HO.out, hn, hF, hB⟩
set_option maxHeartbeats 1600000 in
theorem eqEntry_c (va vb : Value) (x : Entry) (Fa Fb : List Nat) (w : World) (ha : IsV EEntry w va x Fa) (hb : IsV EEntry w vb x Fb) :
    Calls Try.prog 71 #[va, vb] w fun e w' => e = .returned (.bool true) ∧ Below w.heap.size w w' := by
  obtain ⟨_, rfl, v1, rfl, h1⟩ := ha
  obtain ⟨_, rfl, u1, rfl, k1⟩ := hb
  have hB0 : ∀ A B : Obj, Below w.heap.size w ((w.alloc A).alloc B) := fun A B => ((Below.refl _ _).alloc (Nat.le_refl _) _).alloc (by simp) _
  have hE : ∀ z : Int, (z != z) = false := fun z => by simp
  go_enter Try.func71, Try.ntmps71
  go_wp2_with fail
  refine (eqIntS_c _ _ x.faces _ _ _ (h1.below (by decide) (hB0 _ _)) (k1.below (by decide) (hB0 _ _))).mono ?_
  rintro e w1 ⟨rfl, hb1⟩
  have r0 := Row.below (g := w.heap.size) (t := 74) (cs := [.int .i64 x.number, v1, .int .i64 x.untl]) (by simp [row_alloc] <;> omega) hb1
  have r1 := Row.below (g := w.heap.size + 1) (t := 74) (cs := [.int .i64 x.number, u1, .int .i64 x.untl]) (by simp [row_alloc] <;> omega) hb1
  have hB := tr (hB0 _ _) hb1 (Nat.le_refl _)
  clear hb1
  have c0 := r0.cells; have c1 := r1.cells
  go_wp2_with fail
  go_ret
  exact ⟨rfl, hB⟩
set_option maxHeartbeats 1600000 in
theorem eqEntryS_c (va vb : Value) (xs : List Entry) (Fa Fb : List Nat) (w : World) (ha : Sl EEntry w va xs Fa) (hb : Sl EEntry w vb xs Fb) :
    Calls Try.prog 40 #[va, vb] w fun e w' => e = .returned (.bool true) ∧ Below w.heap.size w w' := by
  obtain ⟨a, ca, rfl⟩ := ha.slice
  obtain ⟨b, cb, rfl⟩ := hb.slice
  have hl := ha.len
  unfold maxLen at hl
  go_enter Try.func40, Try.ntmps40
  go_wp2
  go_loopw [5] (fun i wr => ∃ k : Nat, k ≤ xs.length ∧ i = .int .i64 k ∧ Below w.heap.size w wr) (fun i _ => xs.length - (intOf i).toNat)
  case atStart => exact ⟨0, Nat.zero_le _, rfl, Below.refl _ _⟩
  case round =>
    obtain ⟨k, hk, rfl, hB⟩ := hrel
    by_cases hlt : k < xs.length
    · obtain ⟨ba, oa, _, F_, rfl, hx, -, ja⟩ := (ha.below (by decide) hB).at k hlt
      obtain ⟨bb, ob, _, G_, rfl, hy, -, jb⟩ := (hb.below (by decide) hB).at k hlt
      obtain ⟨v1, rfl, h1⟩ := id hx
      obtain ⟨u1, rfl, k1⟩ := id hy
      have a0 := ja 0 (by decide); have b0 := jb 0 (by decide)
      have a1 := ja 1 (by decide); have b1 := jb 1 (by decide)
      have a2 := ja 2 (by decide); have b2 := jb 2 (by decide)
      simp only [show EEntry.sz = 3 from rfl, Nat.mul_one, Nat.add_zero, List.getElem?_cons_zero, List.getElem?_cons_succ] at a0 b0 a1 b1 a2 b2
      clear ja jb
      go_wp2_with fail
      go_region_held3 (fun w' => w'.cell? ⟨ba, oa + k * 3, none⟩ = some (.int .i64 xs[k].number) ∧ w'.cell? ⟨ba, oa + k * 3 + 1, none⟩ = some (v1) ∧ w'.cell? ⟨ba, oa + k * 3 + 2, none⟩ = some (.int .i64 xs[k].untl) ∧ w'.cell? ⟨bb, ob + k * 3, none⟩ = some (.int .i64 xs[k].number) ∧ w'.cell? ⟨bb, ob + k * 3 + 1, none⟩ = some (u1) ∧ w'.cell? ⟨bb, ob + k * 3 + 2, none⟩ = some (.int .i64 xs[k].untl))
        (first | go_keep | (exact ⟨kc hb1 (by simpa using a0), kc hb1 (by simpa using a1), kc hb1 (by simpa using a2), kc hb1 (by simpa using b0), kc hb1 (by simpa using b1), kc hb1 (by simpa using b2)⟩))
        (first | (go_at_call 71; refine (eqEntry_c _ _ xs[k] _ _ wr.drew ⟨_, rfl, EEntry.frame hx (fun _ _ => rfl)⟩ ⟨_, rfl, EEntry.frame hy (fun _ _ => rfl)⟩).mono ?_; rintro e w1 ⟨rfl, hb1⟩))
      go_wp2_with fail
      exact ⟨⟨k + 1, by omega, by go_num, tr (belowDrewN hB 1) hb1 (Nat.le_refl _)⟩, by simp [intOf]; omega⟩
    · go_wp2_with fail
      go_ret
      exact ⟨rfl, hB⟩
set_option maxHeartbeats 1600000 in
theorem markEntryS_c (v : Value) (xs : List Entry) (F : List Nat) (k0 : Int) (w : World) (h : Ow OEntry 74 w v xs F) (hn : F.Nodup) (h0 : 0 ≤ k0) (h1 : k0 + cntL cntEntry xs ≤ 1099511627776) :
    Calls Try.prog 41 #[v, .int .i64 k0] w (RetMark OEntry 74 v (k0 + cntL cntEntry xs) (markL mkEntry cntEntry k0 xs) F w) := by
  obtain ⟨a, cap, rfl⟩ := h.slice
  have hl := h.len
  unfold maxLen at hl
  go_enter Try.func41, Try.ntmps41
  go_wp2
  go_loopw [1, 5] (fun kk i wr => ∃ k : Nat, k ≤ xs.length ∧ i = .int .i64 k ∧ kk = .int .i64 (k0 + psum cntEntry xs k) ∧ Ow OEntry 74 wr (.slice a xs.length cap) ((markL mkEntry cntEntry k0 xs).take k ++ xs.drop k) F ∧ Keep F w wr) (fun _ i _ => xs.length - (intOf i).toNat)
  case atStart => exact ⟨0, Nat.zero_le _, rfl, by rw [psum_zero]; simp, by simpa using h, Keep.refl _ _⟩
  case round =>
    obtain ⟨k, hk, rfl, rfl, ho, hK⟩ := hrel
    by_cases hlt : k < xs.length
    · have hln : k < ((markL mkEntry cntEntry k0 xs).take k ++ xs.drop k).length := by simp [markL_len]; omega
      have hsn := Lib.hid (psum_snoc cntEntry xs k hlt)
      have hsl : k0 + psum cntEntry xs k + cntEntry xs[k] ≤ 1099511627776 := by have := hsn.out; have := cntL_le cntEntry xs (k + 1); omega
      obtain ⟨g, rfl⟩ := ho.head k hln
      obtain ⟨A, c, B, Fi, hrow, hA, hcl, hx, hnF, hgF, hgm, hsub, back⟩ := ho.inPlace hn k hln
      rw [mid_get _ _ _ (markL_len ..) hlt] at hx
      simp only [show OEntry.sz = 3 from rfl] at hA
      have hst := Lib.hid (markL_step mkEntry cntEntry xs k0 k hlt)
      simp only [cntEntry, cntI] at hsl
      obtain ⟨v1, rfl, h1⟩ := hx
      have nF1 := hnF
      have gF1 := hgF
      have KK := Keep.refl (g :: Fi) wr
      clear ho
      have z0 := hrow.cellMid (p := k * 3) (j := 0) (by omega) (by simp)
      have z1 := hrow.cellMid (p := k * 3 + 1) (j := 1) (by omega) (by simp)
      have z2 := hrow.cellMid (p := k * 3 + 2) (j := 2) (by omega) (by simp)
      simp only [List.getElem?_cons_zero, List.getElem?_cons_succ] at z0 z1 z2
      have hfz := hrow.frozens
      have HBk := Lib.hid back; clear back
      go_wp2_with fail
      refine (markIntS_c _ xs[k].faces _ (k0 + psum cntEntry xs k + 1) _ (by (repeat (refine Ow.setFar ?_ gF1 _)); exact h1) nF1 (by omega) (by omega)).mono ?_
      rintro e w1 ⟨rfl, o1, kp1⟩
      have hrow : Row w1 g 74 (A ++ [.int .i64 (k0 + psum cntEntry xs k), v1, .int .i64 xs[k].untl] ++ B) := Row.keepK (by exact (Row.setMid hrow (p := k * 3) (j := 0) (by omega) (by simp) (.int .i64 (k0 + psum cntEntry xs k)))) kp1 gF1
      have KK := Keep.trans (F := g :: Fi) (a := wr) (by (repeat (refine Keep.setCell ?_ (by simp) _)); exact KK) (Keep.mono kp1 (fun b hb _ => by simp [hb]))
      clear kp1
      have z0 := hrow.cellMid (p := k * 3) (j := 0) (by omega) (by simp)
      have z1 := hrow.cellMid (p := k * 3 + 1) (j := 1) (by omega) (by simp)
      have z2 := hrow.cellMid (p := k * 3 + 2) (j := 2) (by omega) (by simp)
      simp only [List.getElem?_cons_zero, List.getElem?_cons_succ] at z0 z1 z2
      have hfz := hrow.frozens
      go_wp2_with fail
      have HB := HBk.out _ [.int .i64 (k0 + psum cntEntry xs k), v1, .int .i64 (k0 + psum cntEntry xs k + 1 + cntL cntI xs[k].faces)] (mkEntry (k0 + psum cntEntry xs k) xs[k]) (by exact (Row.setMid hrow (p := k * 3 + 2) (j := 2) (by omega) (by simp) (.int .i64 (k0 + psum cntEntry xs k + 1 + cntL cntI xs[k].faces)))) ⟨_, rfl, (by (repeat (refine Ow.setFar ?_ gF1 _)); exact o1)⟩ (by (repeat (refine Keep.setCell ?_ (by simp) _)); exact KK)
      rw [hst.out] at HB
      exact ⟨⟨k + 1, by omega, by go_num, congrArg (Value.int .i64) (by rw [hsn.out]; simp only [cntEntry, cntI]; omega), HB, by (repeat (refine Keep.setCell ?_ hgm _)); exact hK.trans (KK.mono (fun b hb _ => by rcases List.mem_cons.1 hb with rfl | hb; exact hgm; exact hsub b hb))⟩, by simp [intOf]; omega⟩
    · have hk : k = xs.length := by omega
      subst hk
      have HO := Lib.hid ho
      clear ho
      go_wp2
      go_ret
      exact ⟨ret_int (by rw [cntL_eq]), by simpa [markL_len, List.take_of_length_le] using HO.out, hK⟩
set_option maxHeartbeats 1600000 in
theorem heldEntryS_c (v : Value) (xs : List Entry) (F : List Nat) (k0 : Int) (w : World) (h : Sl EEntry w v (markL mkEntry cntEntry k0 xs) F) (h0 : 0 ≤ k0) (h1 : k0 + cntL cntEntry xs ≤ 1099511627776) :
    Calls Try.prog 42 #[v, .int .i64 k0] w fun e w' => e = .returned (.int .i64 (k0 + cntL cntEntry xs)) ∧ Below w.heap.size w w' := by
  obtain ⟨a, cap, rfl⟩ := h.slice
  have hl := h.len
  unfold maxLen at hl
  have hml := Lib.hid (markL_len mkEntry cntEntry xs k0)
  rw [hml.out] at hl
  rw [hml.out]
  have hE : ∀ z : Int, (z != z) = false := fun z => by simp
  go_enter Try.func42, Try.ntmps42
  go_wp2
  go_loopw [1, 5] (fun kk i wr => ∃ k : Nat, k ≤ xs.length ∧ i = .int .i64 k ∧ kk = .int .i64 (k0 + psum cntEntry xs k) ∧ Below w.heap.size w wr) (fun _ i _ => xs.length - (intOf i).toNat)
  case atStart => exact ⟨0, Nat.zero_le _, rfl, by rw [psum_zero]; simp, Below.refl _ _⟩
  case round =>
    obtain ⟨k, hk, rfl, rfl, hB⟩ := hrel
    by_cases hlt : k < xs.length
    · have hsn := Lib.hid (psum_snoc cntEntry xs k hlt)
      have hsl : k0 + psum cntEntry xs k + cntEntry xs[k] ≤ 1099511627776 := by have := hsn.out; have := cntL_le cntEntry xs (k + 1); omega
      obtain ⟨b, off, _, F1, hab, hx, -, ja⟩ := (h.below (by decide) hB).at k (by rw [hml.out]; exact hlt)
      rw [markL_get mkEntry cntEntry xs k0 k hlt] at hx
      rw [hml.out] at h
      subst hab
      simp only [cntEntry, cntI] at hsl
      obtain ⟨v1, rfl, k1⟩ := hx
      have a0 : wr.cell? ⟨b, off + k * 3, none⟩ = some (.int .i64 (k0 + psum cntEntry xs k)) := by have := ja 0 (by decide); simp only [show EEntry.sz = 3 from rfl, Nat.mul_one, Nat.add_zero, List.getElem?_cons_zero, List.getElem?_cons_succ] at this; exact this
      have a1 : wr.cell? ⟨b, off + k * 3 + 1, none⟩ = some (v1) := by have := ja 1 (by decide); simp only [show EEntry.sz = 3 from rfl, Nat.mul_one, Nat.add_zero, List.getElem?_cons_zero, List.getElem?_cons_succ] at this; exact this
      have a2 : wr.cell? ⟨b, off + k * 3 + 2, none⟩ = some (.int .i64 (k0 + psum cntEntry xs k + 1 + cntL cntI xs[k].faces)) := by have := ja 2 (by decide); simp only [show EEntry.sz = 3 from rfl, Nat.mul_one, Nat.add_zero, List.getElem?_cons_zero, List.getElem?_cons_succ] at this; exact this
      clear ja
      go_wp2_with fail
      refine (heldIntS_c _ xs[k].faces _ (k0 + psum cntEntry xs k + 1) _ (k1.below (by decide) (Below.refl _ _)) (by omega) (by omega)).mono ?_
      rintro e w1 ⟨rfl, hb1⟩
      have a0 := kc hb1 a0
      have a1 := kc hb1 a1
      have a2 := kc hb1 a2
      have hB := tr hB hb1 (Nat.le_refl _)
      have k1 := k1.below (by decide) hb1
      clear hb1
      go_wp2_with fail
      exact ⟨⟨k + 1, by omega, by go_num, congrArg (Value.int .i64) (by rw [hsn.out]; simp only [cntEntry, cntI]; omega), hB⟩, by simp [intOf]; omega⟩
    · have hk : k = xs.length := by omega
      subst hk
      go_wp2
      go_ret
      exact ⟨ret_int (by rw [cntL_eq]), hB⟩
end Go.Proofs.Ytgogcgkocjpgoaa
/- The type Element of the exact laws: how it reads, how it is owned; the walks of its size, copy, equality, mark and held. Written by wip/gentypes.py. -/
namespace Go.Proofs.Ytgogcgkocjpgoaa
open Go.RowKit
structure Element where
  clock : Int
  entries : List Entry
/-- read -/
def EElement : Elem Element where
  sz := 2
  rep w cs x F := ∃ v1, cs = [.int .i64 x.clock, v1] ∧ Sl EEntry w v1 x.entries F
  len h := by obtain ⟨v1, rfl, h1⟩ := h; rfl
  lt h := by obtain ⟨v1, rfl, h1⟩ := h; exact h1.lt (by decide)
  frame h hF := by obtain ⟨v1, rfl, h1⟩ := h; exact ⟨v1, rfl, h1.frame hF⟩
/-- owned -/
def OElement : Elem Element where
  sz := 2
  rep w cs x F := ∃ v1, cs = [.int .i64 x.clock, v1] ∧ Ow OEntry 74 w v1 x.entries F
  len h := by obtain ⟨v1, rfl, h1⟩ := h; rfl
  lt h := by obtain ⟨v1, rfl, h1⟩ := h; exact h1.lt
  frame h hF := by obtain ⟨v1, rfl, h1⟩ := h; exact ⟨v1, rfl, h1.frame hF⟩
theorem weak_Element : Weak OElement EElement := ⟨rfl, fun h => by
  obtain ⟨v1, rfl, h1⟩ := h
  obtain ⟨G1, g1, k1⟩ := h1.sl weak_Entry
  exact ⟨G1, g1, v1, rfl, k1⟩⟩
def wtElement (x : Element) : Nat := wtL wtEntry x.entries
/-- the marks of a value: its slices alone -/
def cvElement (x : Element) : Nat := (cntL cntEntry) x.entries
def mvElement (k : Int) (x : Element) : Element := ⟨x.clock, (markL mkEntry cntEntry) (k) x.entries⟩
theorem cvElement_wt (x : Element) (h : wtElement x ≤ 1048576) : cvElement x ≤ 4294967296 := by
  have h0 := cntL_wt cntEntry wtEntry 2 cntEntry_wt x.entries
  simp only [wtElement, cvElement] at h ⊢
  omega
set_option maxHeartbeats 800000 in
theorem szElement_c (v : Value) (x : Element) (F : List Nat) (n : Int) (w : World) (h : IsV EElement w v x F) (h0 : 0 ≤ n) (h1 : n ≤ 1048576) :
    Calls Try.prog 6 #[v, .int .i64 n] w fun e w' => e = .returned (.int .i64 (szr n (wtElement x))) ∧ Below w.heap.size w w' := by
  obtain ⟨_, rfl, v1, rfl, h1⟩ := h
  have hB0 : ∀ A : Obj, Below w.heap.size w (w.alloc A) := fun A => (Below.refl _ _).alloc (Nat.le_refl _) _
  unfold wtElement
  go_enter Try.func6, Try.ntmps6
  go_wp2_with fail
  refine (szEntryS_c _ x.entries _ _ _ (h1.below (by decide) (hB0 _)) (by omega) (by omega)).mono ?_
  rintro e w1 ⟨rfl, hb1⟩
  have r0 := Row.below (g := w.heap.size) (t := 24) (cs := [.int .i64 x.clock, v1]) (by simp [row_alloc]) hb1
  have hB := tr (hB0 _) hb1 (Nat.le_refl _)
  have c0 := r0.cells
  clear hb1
  rcases szr_or (n) (wtL wtEntry x.entries) with ⟨e1, l1⟩ | ⟨e1, l1⟩
  · simp only [e1]
    have z1 := Lib.hid e1; clear e1
    go_wp2_with fail
    go_ret
    exact ⟨ret_int (szr_no (by omega)).symm, hB⟩
  simp only [e1]
  have z1 := Lib.hid e1; clear e1
  go_wp2_with fail
  go_ret
  exact ⟨ret_int (by rw [szr_yes (by omega)]; all_goals omega), hB⟩
set_option maxHeartbeats 1600000 in
theorem toElement_c (v : Value) (x : Element) (F : List Nat) (w : World) (h : IsV EElement w v x F) (hl : wtElement x ≤ 1048576) :
    Calls Try.prog 8 #[v] w (RetV OElement x w) := by
  obtain ⟨_, rfl, v1, rfl, h1⟩ := h
  unfold wtElement at hl
  have hB0 : ∀ A B C : Obj, Below w.heap.size w (((w.alloc A).alloc B).alloc C) := fun A B C => (((Below.refl _ _).alloc (Nat.le_refl _) _).alloc (by simp) _).alloc (by simp <;> omega) _
  go_enter Try.func8, Try.ntmps8
  go_wp2_with fail
  refine (toEntryS_c _ x.entries _ _ (h1.below (by decide) (hB0 _ _ _)) (by omega)).mono ?_
  rintro e w1 ⟨y1, K1, rfl, o1, n1, g1, hb1⟩
  obtain ⟨d1, p1, rfl⟩ := o1.slice
  have l1 : ∀ b ∈ K1, b < w1.heap.size := o1.lt
  have r0 := Row.below (g := w.heap.size) (t := 24) (cs := [.int .i64 x.clock, v1]) (by simp [row_alloc] <;> omega) hb1
  have r1 := Row.below (g := w.heap.size + 1) (t := 29) (cs := [.int .i64 0, .slice none 0 0]) (by simp [row_alloc] <;> omega) hb1
  have r2 := Row.below (g := w.heap.size + 1 + 1) (t := 29) (cs := [.int .i64 x.clock, .slice none 0 0]) (by simp [row_alloc] <;> omega) hb1
  have hB := tr (hB0 _ _ _) hb1 (Nat.le_refl _)
  have hs1 := hb1.size
  simp only [World.size_alloc] at hs1 g1
  clear hb1
  have c0 := r0.cells; have c1 := r1.cells; have c2 := r2.cells; have f1 := r1.frozens; have f2 := r2.frozens
  have o1_ := Lib.hid o1
  go_wp2_with fail
  refine bodyPost_ret (v := .agg #[.int .i64 x.clock, .slice d1 x.entries.length p1]) ?_ rfl ?_
  · simp [results, Try.results8, go_sem, c0, c1, c2, f1, f2]
  · refine ⟨_, K1, rfl, ⟨_, rfl, _, rfl, ?_⟩, ?_, ?_, ?_⟩
    · repeat refine Ow.setFar ?_ (fun hm => by have := g1 _ hm; simp at this <;> omega) _
      exact o1
    · exact n1
    · intro b hb
      have := g1 b hb; omega
    · repeat refine Below.setCell ?_ (by simp <;> omega) _
      exact hB
set_option maxHeartbeats 1600000 in
theorem eqElement_c (va vb : Value) (x : Element) (Fa Fb : List Nat) (w : World) (ha : IsV EElement w va x Fa) (hb : IsV EElement w vb x Fb) :
    Calls Try.prog 11 #[va, vb] w fun e w' => e = .returned (.bool true) ∧ Below w.heap.size w w' := by
  obtain ⟨_, rfl, v1, rfl, h1⟩ := ha
  obtain ⟨_, rfl, u1, rfl, k1⟩ := hb
  have hB0 : ∀ A B : Obj, Below w.heap.size w ((w.alloc A).alloc B) := fun A B => ((Below.refl _ _).alloc (Nat.le_refl _) _).alloc (by simp) _
  have hE : ∀ z : Int, (z != z) = false := fun z => by simp
  go_enter Try.func11, Try.ntmps11
  go_wp2_with fail
  refine (eqEntryS_c _ _ x.entries _ _ _ (h1.below (by decide) (hB0 _ _)) (k1.below (by decide) (hB0 _ _))).mono ?_
  rintro e w1 ⟨rfl, hb1⟩
  have r0 := Row.below (g := w.heap.size) (t := 29) (cs := [.int .i64 x.clock, v1]) (by simp [row_alloc] <;> omega) hb1
  have r1 := Row.below (g := w.heap.size + 1) (t := 29) (cs := [.int .i64 x.clock, u1]) (by simp [row_alloc] <;> omega) hb1
  have hB := tr (hB0 _ _) hb1 (Nat.le_refl _)
  clear hb1
  have c0 := r0.cells; have c1 := r1.cells
  go_wp2_with fail
  go_ret
  exact ⟨rfl, hB⟩
set_option maxHeartbeats 1600000 in
theorem markElement_c (v : Value) (x : Element) (F : List Nat) (k0 : Int) (w : World) (h : IsV OElement w v x F) (hn : F.Nodup) (p0 : 0 ≤ k0) (p1 : k0 + cvElement x ≤ 1099511627776) :
    Calls Try.prog 13 #[v, .int .i64 k0] w (RetMarkV OElement v (k0 + cvElement x) (mvElement k0 x) F w) := by
  have hlt : ∀ b ∈ F, b < w.heap.size := by obtain ⟨cs, -, hx⟩ := h; exact OElement.lt hx
  obtain ⟨_, rfl, v1, rfl, h1⟩ := h
  unfold cvElement at p1 ⊢
  have hB0 : ∀ A : Obj, Below w.heap.size w (w.alloc A) := fun A => (Below.refl _ _).alloc (Nat.le_refl _) _
  have hw : w.heap.size ∉ F := fun e => by have := hlt _ e; omega
  have nF1 := hn
  have w1_ := hw
  go_enter Try.func13, Try.ntmps13
  go_wp2_with fail
  refine (markEntryS_c _ x.entries _ (k0) _ (h1.below (hB0 _)) nF1 (by omega) (by omega)).mono ?_
  rintro e w1 ⟨rfl, o1, kp1⟩
  have r0 := Row.keepK (g := w.heap.size) (t := 29) (cs := [.int .i64 x.clock, v1]) (by simp [row_alloc]) kp1 w1_
  have KK : Keep F w w1 := (Keep.ofBelow (hB0 _)).trans (kp1.mono (fun b hb _ => hb))
  clear kp1
  have c0 := r0.cells
  go_wp2_with fail
  go_ret
  exact ⟨ret_int (by omega), ⟨_, rfl, _, rfl, o1⟩, KK⟩
set_option maxHeartbeats 1600000 in
theorem heldElement_c (v : Value) (x : Element) (F : List Nat) (k0 : Int) (w : World) (h : IsV EElement w v (mvElement k0 x) F) (p0 : 0 ≤ k0) (p1 : k0 + cvElement x ≤ 1099511627776) :
    Calls Try.prog 15 #[v, .int .i64 k0] w fun e w' => e = .returned (.int .i64 (k0 + cvElement x)) ∧ Below w.heap.size w w' := by
  obtain ⟨_, rfl, v1, rfl, h1⟩ := h
  unfold cvElement at p1 ⊢
  have hB0 : ∀ A : Obj, Below w.heap.size w (w.alloc A) := fun A => (Below.refl _ _).alloc (Nat.le_refl _) _
  go_enter Try.func15, Try.ntmps15
  go_wp2_with fail
  refine (heldEntryS_c _ x.entries _ (k0) _ (h1.below (by decide) (hB0 _)) (by omega) (by omega)).mono ?_
  rintro e w1 ⟨rfl, hb1⟩
  have r0 := Row.below (g := w.heap.size) (t := 29) (cs := [.int .i64 x.clock, v1]) (by simp [row_alloc, mvElement]) hb1
  have hB := tr (hB0 _) hb1 (Nat.le_refl _)
  clear hb1
  have c0 := r0.cells
  go_wp2_with fail
  go_ret
  exact ⟨ret_int (by omega), hB⟩
end Go.Proofs.Ytgogcgkocjpgoaa
/- Structs of type Element in a walk's state: opened, closed. -/
namespace Go.Proofs.Ytgogcgkocjpgoaa
open Go.RowKit
section
variable {c : Cx} {fr : Fr} {H : List Pc} {Φ : Gl}
theorem openElement {v : Value} {x : Element} {F : List Nat} (h : ∀ (a1 : Option Addr) (c1 : Nat) (F1 : List Nat), v = .agg #[.int .i64 x.clock, .slice a1 x.entries.length c1] → x.entries.length ≤ maxLen → T c fr (.sl EEntry (.slice a1 x.entries.length c1) x.entries F1 :: H) Φ) (hm : .isv EElement v x F ∈ H := by (repeat (first | exact .head _ | apply List.Mem.tail)); first | done | fail) : T c fr H Φ := .mk fun a w s g => by
  obtain ⟨cs, rfl, v1, rfl, h1⟩ := s.get hm
  obtain ⟨a1, c1, rfl⟩ := h1.slice; have l1 := h1.len
  have t1 := s.ro (p := .sl EEntry (.slice a1 x.entries.length c1) x.entries F) hm rfl rfl ⟨by decide, h1⟩ fun b hb => hb
  exact (h a1 c1 F rfl  l1).h a w t1 g
theorem openOElement {v : Value} {x : Element} {F : List Nat} {S : List Pc} (h : ∀ (a1 : Option Addr) (c1 : Nat) (F1 : List Nat), v = .agg #[.int .i64 x.clock, .slice a1 x.entries.length c1] → x.entries.length ≤ maxLen → T c fr (.ow OEntry 74 (.slice a1 x.entries.length c1) x.entries F1 :: S) Φ) (hp : Pick H (.own OElement v x F) S := by (repeat (first | exact .here | apply Pick.there)); first | done | fail) : T c fr H Φ := .mk fun a w s g => by
  have z1 := s.pick hp
  obtain ⟨hn, cs, rfl, v1, rfl, h1⟩ := z1.on (.own OElement v x F) (by simp)
  obtain ⟨a1, c1, rfl⟩ := h1.slice; have l1 := h1.len
  refine (h a1 c1 F rfl  l1).h a w (St.turn (M := [.own OElement (.agg #[.int .i64 x.clock, .slice a1 x.entries.length c1]) x _]) (N := [.ow OEntry 74 (.slice a1 x.entries.length c1) x.entries F]) z1 (Keep.refl _ w) ?_ ?_ ?_) g
  · intro q hq; simp at hq; subst hq; exact ⟨hn, h1⟩
  · exact ⟨by simp, trivial⟩
  · intro q hq b hb; simp at hq; subst hq; exact .inr (.inl ⟨_, List.mem_singleton.2 rfl, rfl, hb⟩)
theorem closeOElement (x : Element) {a1 : Option Addr} {c1 : Nat} {F1 : List Nat} {S1 : List Pc}  (h : T c fr (.own OElement (.agg #[.int .i64 x.clock, .slice a1 x.entries.length c1]) x (F1) :: S1) Φ) (m1 : Pick H (.ow OEntry 74 (.slice a1 x.entries.length c1) x.entries F1) S1 := by (repeat (first | exact .here | apply Pick.there)); first | done | fail)  : T c fr H Φ := .mk fun a w s g => by
  have z1 : St c.G c.D c.w0 ([.ow OEntry 74 (.slice a1 x.entries.length c1) x.entries F1] ++ S1) w := by simpa using (show Picks H [.ow OEntry 74 (.slice a1 x.entries.length c1) x.entries F1] S1 from Picks.cons m1 (Picks.nil)).st (X := []) (by simpa using s)
  obtain ⟨n1, k1⟩ := z1.on (.ow OEntry 74 (.slice a1 x.entries.length c1) x.entries F1) (by simp)
  have hN := n1
  refine h.h a w (St.turn (M := [.ow OEntry 74 (.slice a1 x.entries.length c1) x.entries F1]) (N := [.own OElement (.agg #[.int .i64 x.clock, .slice a1 x.entries.length c1]) x (F1)]) z1 (Keep.refl _ w) (by intro q hq; simp at hq; subst hq; exact ⟨hN, _, rfl, _, rfl, k1⟩) ⟨by simp, trivial⟩ fun q hq b hb => ?_) g
  simp at hq; subst hq
  simp only [Pc.F, List.mem_append] at hb
  exact .inr (.inl ⟨_, List.mem_singleton.2 rfl, rfl, hb⟩)
end
end Go.Proofs.Ytgogcgkocjpgoaa
/- Structs of type Entry in a walk's state: opened, closed. -/
namespace Go.Proofs.Ytgogcgkocjpgoaa
open Go.RowKit
section
variable {c : Cx} {fr : Fr} {H : List Pc} {Φ : Gl}
theorem openEntry {v : Value} {x : Entry} {F : List Nat} (h : ∀ (a1 : Option Addr) (c1 : Nat) (F1 : List Nat), v = .agg #[.int .i64 x.number, .slice a1 x.faces.length c1, .int .i64 x.untl] → x.faces.length ≤ maxLen → T c fr (.sl EInt (.slice a1 x.faces.length c1) x.faces F1 :: H) Φ) (hm : .isv EEntry v x F ∈ H := by (repeat (first | exact .head _ | apply List.Mem.tail)); first | done | fail) : T c fr H Φ := .mk fun a w s g => by
  obtain ⟨cs, rfl, v1, rfl, h1⟩ := s.get hm
  obtain ⟨a1, c1, rfl⟩ := h1.slice; have l1 := h1.len
  have t1 := s.ro (p := .sl EInt (.slice a1 x.faces.length c1) x.faces F) hm rfl rfl ⟨by decide, h1⟩ fun b hb => hb
  exact (h a1 c1 F rfl  l1).h a w t1 g
theorem openOEntry {v : Value} {x : Entry} {F : List Nat} {S : List Pc} (h : ∀ (a1 : Option Addr) (c1 : Nat) (F1 : List Nat), v = .agg #[.int .i64 x.number, .slice a1 x.faces.length c1, .int .i64 x.untl] → x.faces.length ≤ maxLen → T c fr (.ow EInt 3 (.slice a1 x.faces.length c1) x.faces F1 :: S) Φ) (hp : Pick H (.own OEntry v x F) S := by (repeat (first | exact .here | apply Pick.there)); first | done | fail) : T c fr H Φ := .mk fun a w s g => by
  have z1 := s.pick hp
  obtain ⟨hn, cs, rfl, v1, rfl, h1⟩ := z1.on (.own OEntry v x F) (by simp)
  obtain ⟨a1, c1, rfl⟩ := h1.slice; have l1 := h1.len
  refine (h a1 c1 F rfl  l1).h a w (St.turn (M := [.own OEntry (.agg #[.int .i64 x.number, .slice a1 x.faces.length c1, .int .i64 x.untl]) x _]) (N := [.ow EInt 3 (.slice a1 x.faces.length c1) x.faces F]) z1 (Keep.refl _ w) ?_ ?_ ?_) g
  · intro q hq; simp at hq; subst hq; exact ⟨hn, h1⟩
  · exact ⟨by simp, trivial⟩
  · intro q hq b hb; simp at hq; subst hq; exact .inr (.inl ⟨_, List.mem_singleton.2 rfl, rfl, hb⟩)
theorem closeOEntry (x : Entry) {a1 : Option Addr} {c1 : Nat} {F1 : List Nat} {S1 : List Pc}  (h : T c fr (.own OEntry (.agg #[.int .i64 x.number, .slice a1 x.faces.length c1, .int .i64 x.untl]) x (F1) :: S1) Φ) (m1 : Pick H (.ow EInt 3 (.slice a1 x.faces.length c1) x.faces F1) S1 := by (repeat (first | exact .here | apply Pick.there)); first | done | fail)  : T c fr H Φ := .mk fun a w s g => by
  have z1 : St c.G c.D c.w0 ([.ow EInt 3 (.slice a1 x.faces.length c1) x.faces F1] ++ S1) w := by simpa using (show Picks H [.ow EInt 3 (.slice a1 x.faces.length c1) x.faces F1] S1 from Picks.cons m1 (Picks.nil)).st (X := []) (by simpa using s)
  obtain ⟨n1, k1⟩ := z1.on (.ow EInt 3 (.slice a1 x.faces.length c1) x.faces F1) (by simp)
  have hN := n1
  refine h.h a w (St.turn (M := [.ow EInt 3 (.slice a1 x.faces.length c1) x.faces F1]) (N := [.own OEntry (.agg #[.int .i64 x.number, .slice a1 x.faces.length c1, .int .i64 x.untl]) x (F1)]) z1 (Keep.refl _ w) (by intro q hq; simp at hq; subst hq; exact ⟨hN, _, rfl, _, rfl, k1⟩) ⟨by simp, trivial⟩ fun q hq b hb => ?_) g
  simp at hq; subst hq
  simp only [Pc.F, List.mem_append] at hb
  exact .inr (.inl ⟨_, List.mem_singleton.2 rfl, rfl, hb⟩)
theorem atEntry {a : Option Addr} {n cp : Nat} {xs : List Entry} {F : List Nat} (i : Nat) (h : ∀ (hi : i < xs.length) (b o : Nat) (a1 : Option Addr) (c1 : Nat) (F1 : List Nat), a = some ⟨b, o, none⟩ → xs[i].faces.length ≤ maxLen → T c fr (.cel b (o + i * 3) [.int .i64 xs[i].number, .slice a1 xs[i].faces.length c1, .int .i64 xs[i].untl] :: .sl EInt (.slice a1 xs[i].faces.length c1) xs[i].faces F1 :: H) Φ) (hm : .sl EEntry (.slice a n cp) xs F ∈ H := by (repeat (first | exact .head _ | apply List.Mem.tail)); first | done | fail) (hi : i < xs.length := by omega) : T c fr H Φ := .mk fun ac w s g => by
  obtain ⟨b, o, cs, G, ha, hrep, hG, hb, hne, hr⟩ := sl_at (s.get hm) i hi
  obtain ⟨v1, rfl, h1⟩ := hrep
  obtain ⟨a1, c1, rfl⟩ := h1.slice; have l1 := h1.len
  have t1 := s.ro (p := .sl EInt (.slice a1 xs[i].faces.length c1) xs[i].faces G) hm rfl rfl ⟨by decide, h1⟩ (by intro b hb; simp only [Pc.F] at hb ⊢; exact hG b (by simp [hb]))
  exact (h hi b o a1 c1 G ha  l1).h ac w (t1.ro (List.mem_cons_of_mem _ hm) rfl rfl ⟨hne, hr⟩ (by intro x hx; simp [Pc.F] at hx; subst hx; exact hb)) g
end
end Go.Proofs.Ytgogcgkocjpgoaa
/- Walks of the exact laws' helpers on slices of strings: size, copy, equality, mark, held; the text of a mark. -/
namespace Go.Proofs.Ytgogcgkocjpgoaa
open Go.RowKit

end Go.Proofs.Ytgogcgkocjpgoaa
/- A string as a row of one. -/
namespace Go.Proofs.Ytgogcgkocjpgoaa
open Go.RowKit
/-- a row of our own is an owned slice -/
theorem t_row {c : Cx} {fr : Fr} {H : List Pc} {Φ : Gl} {α : Type} {E : Elem α} {t g : Nat} {cs : List Value} {xs : List α} {S : List Pc} (hfl : ∀ w, Flat E w cs xs []) (h : T c fr (.ow E t (.slice (some ⟨g, 0, none⟩) xs.length xs.length) xs [g] :: S) Φ) (hl : xs.length ≤ 1000000) (hp : Pick H (.row g t 0 [] cs []) S := by (repeat (first | exact .here | apply Pick.there)); first | done | fail) : T c fr H Φ := .mk fun a w s g' => by
  have s1 := s.pick hp
  have hr := (s1.on (.row g t 0 [] cs []) (by simp)).2
  have hlen := (hfl w).len
  refine h.h a w (s1.conv rfl ⟨by simp, .inr ⟨g, xs.length, cs, [], [], rfl, by simpa using hr, Nat.le_refl _, by unfold maxLen; omega, by simpa using hlen, hfl w, rfl⟩⟩ (by simp [Pc.F])) g'
end Go.Proofs.Ytgogcgkocjpgoaa
/- More operations: parts of texts, slices made, functions called by their value; a part of a slice that reads. -/
namespace Go.Proofs.Ytgogcgkocjpgoaa
open Go.RowKit
section
variable {P : Program} {n : Nat} {fr : Fr} {H : List Pc} {ty : TypeId} {x y z : Operand}
end
section
variable {c : Cx} {fr : Fr} {H : List Pc} {k : List It} {Φ : Gl} {ops : Array Oper} {rest : List Oper} {d : Nat} {o : Op} {ty : TypeId} {v u : Value} {x y : Operand}
end
end Go.Proofs.Ytgogcgkocjpgoaa
/- Rows written as wholes: an owned slice as its row and back, copying, appending that grows, functions that are entries of the model, parts of a slice as values. -/
namespace Go.Proofs.Ytgogcgkocjpgoaa
open Go.RowKit
theorem hsub_refl : ∀ (H : List Pc), HSub H H
  | [] => .nil
  | _ :: R => .cons .here (hsub_refl R)
theorem Flat.all {α : Type} {E : Elem α} {w : World} {cs : List Value} {xs : List α} (h : Flat E w cs xs []) (w' : World) : Flat E w' cs xs [] := h.frame (by simp)
theorem Flat.cutL {α : Type} {E : Elem α} {w : World} {cs : List Value} {xs : List α} (h : Flat E w cs xs []) (i : Nat) (hi : i ≤ xs.length) : Flat E w (cs.take (i * E.sz)) (xs.take i) [] ∧ Flat E w (cs.drop (i * E.sz)) (xs.drop i) [] := by
  rw [← List.take_append_drop i xs] at h
  obtain ⟨c1, c2, G1, G2, rfl, hG, h1, h2⟩ := h.split
  obtain ⟨rfl, rfl⟩ := List.append_eq_nil_iff.1 hG.symm
  have hl := h1.len
  rw [List.length_take, Nat.min_eq_left hi] at hl
  rw [List.take_left' hl, List.drop_left' hl]
  exact ⟨h1, h2⟩
theorem Flat.insL {α : Type} {E : Elem α} {w : World} {cs c1 : List Value} {xs : List α} {x : α} (h : Flat E w cs xs []) (h1 : Flat E w c1 [x] []) (i : Nat) (hi : i ≤ xs.length) : Flat E w (cs.take (i * E.sz) ++ c1 ++ cs.drop (i * E.sz)) (xs.take i ++ x :: xs.drop i) [] := by
  obtain ⟨ha, hb⟩ := h.cutL i hi
  have := (ha.append h1).append hb
  simpa using this
section
variable {P : Program} {n : Nat} {fr : Fr} {H : List Pc} {ty : TypeId} {x y z : Operand}
/-- what stands from i on, aS a value -/
theorem yd_slv {t e m i g o len cp : Nat} {kd : IntKind} {q : Int} [hS : SlC P t e m] (hx : ev fr x = some (.slice (some ⟨g, o, none⟩) len cp)) (hy : ev fr y = some (.int kd q)) (hq : q = (i : Int)) (hi : i ≤ len) (hc : i < cp) (hlc : len ≤ cp) : Yd P n fr H (.slice t x (some y) none none) ty (.slice (some ⟨g, o + i * m, none⟩) (len - i) (cp - i)) := .mk fun ac w d pos aft gd hA _ => by
  subst hq
  have he2 : P.elem t = e := by simp [Program.elem, hS.u]
  have h3 : (Instr.sliceAt t (.slice (some ⟨g, o, none⟩) len cp) (some (.int kd (i : Int))) none none).run P w = .ok (.slice (some ⟨g, o + i * m, none⟩) (len - i) (cp - i)) w := by
    rw [run_sliceAt_slice (h := by rw [he2]; exact hS.u), run_slice_l (ht := by rw [he2]; exact hS.u) (h0 := by omega) (h1 := by omega), he2, size_of hS.s]
    have h0 : ¬ (cp - i = 0) := by omega
    have h0' : ¬ (cp = i) := by omega
    simp [Result.andThen, sliced, h0, h0', Addr.add_lit]
  simp only [execOp, Option.map_none, Option.map_some, hA.ev hx, hA.ev hy, Sem.run_bind, h3, Result.andThen_ok, Sem.run_pure]
theorem yd_cvu {k : IntKind} {a : Int} {s t : TypeId} [hS : IntC P s k] [hD : IntC P t .u64] (hx : ev fr x = some (.int k a)) (h0 : 0 ≤ a) (h1 : a ≤ 18446744073709551615) : Yd P n fr H (.convert s t x) ty (.int .u64 a) := .mk fun c w d pos aft gd hA _ => by
  simp [execOp, hA.ev hx, convert, run_underlying hS.u, run_underlying hD.u, Conv.intToInt, IntWalk.u64_in _ ⟨h0, h1⟩]
theorem yd_shr1 {a : Int} {t t' : TypeId} (hx : ev fr x = some (.int .u64 a)) : Yd P n fr H (.binOp .shr t x (.const (.int .u64 1)) t') ty (.int .u64 (a / 2)) := .mk fun c w d pos aft gd hA _ => by
  have e : Op.shift .shr .u64 a .u64 1 = pure (.int .u64 (a / 2)) := by rw [shift_shr .u64 .u64 a 1 (by decide) (by decide)]; rfl
  have e2 : binOp .shr t (.int .u64 a) (.int .u64 1) = Op.shift .shr .u64 a .u64 1 := rfl
  have e3 : c.eval (.const (.int .u64 1)) = .int .u64 1 := rfl
  simp only [execOp, hA.ev hx, e3, eqGuard_shr, e2, e, Sem.run_bind, Sem.run_pure, Result.andThen_ok]
theorem yd_cap {a : Option Addr} {len cp t e m : Nat} [hS : SlC P t e m] (hx : ev fr x = some (.slice a len cp)) : Yd P n fr H (.call { callee := .builtin .cap, args := #[x], argTypes := #[t] }) ty (.int .i64 cp) := .mk fun ac w d pos aft gd hA _ => by
  simp [execOp, hA.ev hx, resolve, invoke, builtin, Builtin.cap_, run_underlying hS.u, goInt]
end
section
variable {c : Cx} {fr : Fr} {H k' : List Pc} {k : List It} {Φ : Gl} {d : Nat} {o : Op} {ty : TypeId} {v u : Value} {x y : Operand}
/-- an owned slice is its row -/
theorem t_rowof {α : Type} {E : Elem α} (sc : Scal E) {t n cp : Nat} {a : Option Addr} {xs : List α} {F : List Nat} {S : List Pc} (h0 : xs ≠ [])
    (h : ∀ g cs rest, a = some ⟨g, 0, none⟩ → n = xs.length → xs.length ≤ cp → cp ≤ 9223372036854775807 → cs.length = xs.length * E.sz → cs.length + rest.length = cp * E.sz → (∀ w, Flat E w cs xs []) → T c fr (.row g t 0 [] (cs ++ rest) [] :: S) Φ)
    (hp : Pick H (.ow E t (.slice a n cp) xs F) S := by (repeat (first | exact .here | apply Pick.there)); first | done | fail) : T c fr H Φ := .mk fun ac w s g' => by
  have s1 := s.pick hp
  obtain ⟨hnd, ho⟩ := s1.on (.ow E t (.slice a n cp) xs F) (by simp)
  have hF := ho.scal sc
  rcases ho with ⟨-, h2, -⟩ | ⟨g, cap, cs, rest, G, h1, h2, h3, h4, h5, h6, h7⟩
  · exact absurd h2 h0
  · cases h1
    have hG : G = [] := by rw [h7] at hF; simpa [Value.ownBlock] using hF
    subst hG h7
    have hl := h6.len
    refine (h g cs rest rfl rfl h3 (by unfold maxLen at h4; omega) hl h5 (fun w' => h6.all w')).h ac w (s1.conv rfl ⟨rfl, by simpa using h2⟩ (by simp [Pc.F])) g'
/-- .. and back -/
theorem t_owof {α : Type} {E : Elem α} {t g : Nat} {L cs rest : List Value} {xs : List α} {S : List Pc} (cp : Nat) (hL : L = cs ++ rest) (hf : ∀ w, Flat E w cs xs []) (h1 : xs.length ≤ cp) (h2 : cp ≤ 9223372036854775807) (h3 : L.length = cp * E.sz)
    (h : T c fr (.ow E t (.slice (some ⟨g, 0, none⟩) xs.length cp) xs [g] :: S) Φ) (hp : Pick H (.row g t 0 [] L []) S := by (repeat (first | exact .here | apply Pick.there)); first | done | fail) : T c fr H Φ := .mk fun ac w s g' => by
  subst hL
  have s1 := s.pick hp
  have hr := (s1.on (.row g t 0 [] (cs ++ rest) []) (by simp)).2
  exact h.h ac w (s1.conv rfl ⟨by simp, .inr ⟨g, cp, cs, rest, [], rfl, by simpa using hr, h1, by unfold maxLen; omega, by simpa using h3, hf w, rfl⟩⟩ (by simp [Pc.F])) g'
/-- an entry of the model that yields a value -/
theorem o_ext {f : Nat} {aS : List Operand} {ts : Array TypeId} {vs : List Value} (hd : Nat.blt d c.n = true) (ha : Evs fr aS vs) (hv : ∀ w, St c.G c.D c.w0 H w → (callFunc f vs.toArray).run c.P w = .ok (.value v) w) (h : T c ((d, v) :: fr) H Φ) : On c fr H (some d) (.call { callee := .value (.func f), args := aS.toArray, argTypes := ts }) ty Φ := ⟨fun _ _ _ => ef_of fun Q a w s g => by
  have e : ∀ pos aft gd, (execOp a.eval ⟨some d, .call { callee := .value (.func f), args := aS.toArray, argTypes := ts }, ty, pos, aft, gd⟩).run c.P w = .ok (.value v) w := by
    intro pos aft gd
    simp [execOp, resolve, Deferred.ofValue, Act.eval, invoke, g.evs ha, hv w s]
  rw [e]
  exact h.h _ _ s (g.put hd)⟩
theorem shape_row {w : World} {g : Nat} {t : TypeId} {cs : List Value} (h : Row w g t cs) : w.shape? g = some (t, cs.length) := by
  unfold World.shape?; rw [show w.heap[g]? = _ from h]; simp
/-- two rows do not overlap -/
theorem ovl {f : Nat} {tS tR e m : Nat} [hS : SlC c.P tS e m] {g o g2 o2 la ca lb cb t1 t2 : Nat} {L L2 : List Value}
    (he : ∀ (args : Array Value) (w : World), (callFunc f args).run c.P w = ((Extern.SlicesOverlaps.overlaps #[tS, tS] #[tR] args).run c.P w).andThen fun v w => .ok (.value v) w)
    (h1 : Pick H (.row g t1 0 [] L []) k') (h2 : .row g2 t2 0 [] L2 [] ∈ k') (hL : L2 ≠ []) (w : World) (s : St c.G c.D c.w0 H w) :
    (callFunc f [Value.slice (some ⟨g, o, none⟩) la ca, .slice (some ⟨g2, o2, none⟩) lb cb].toArray).run c.P w = .ok (.value (.bool false)) w := by
  have s1 := s.pick h1
  have r1 := (s1.on (.row g t1 0 [] L []) (by simp)).2
  have r2 := (s1.on (.row g2 t2 0 [] L2 []) (by simp [h2])).2
  have hne : g ≠ g2 := fun e' => s1.sep.1 (.row g2 t2 0 [] L2 []) h2 (by simp [Pc.mu]) g (by simp [Pc.F]) (by simp [Pc.F, e'])
  simp only [List.nil_append, List.append_nil] at r1 r2
  rw [he, Lib.run_overlaps_apart w tS tR e hS.u m (fun w => size_of hS.s w) ⟨g, o, none⟩ ⟨g2, o2, none⟩ la ca lb cb hne t1 t2 L.length L2.length (shape_row r1) (shape_row r2) (by simpa using hL) (r1.frozen _) (r1.frozen _)]
  rfl
theorem cpyM {P M Q d L : List Value} {o : Nat} (hL : L = P ++ M ++ Q) (ho : o = P.length) (hd : M.length = d.length) : P ++ d ++ Q = L.take o ++ d ++ L.drop (o + d.length) := by
  subst hL ho
  rw [List.append_assoc P M Q, List.take_left, ← hd, ← List.append_assoc, ← List.length_append, List.drop_left]
theorem shiftL {B R : List Value} (m : Nat) (h : m ≤ R.length) : ∃ X Y, B ++ R = X ++ Y ++ R.drop m ∧ X.length = m ∧ Y.length = B.length := by
  refine ⟨(B ++ R).take m, ((B ++ R).drop m).take B.length, ?_, by simp; omega, by simp; omega⟩
  have : R.drop m = ((B ++ R).drop m).drop B.length := by rw [List.drop_drop, Nat.add_comm, ← List.drop_drop, List.drop_left]
  rw [this, List.append_assoc, List.take_append_drop, List.take_append_drop]
/-- the world says what a row holds -/
theorem src_row {g t o m : Nat} {L cs : List Value} (h1 : .row g t 0 [] L [] ∈ H) (hc : cs = (L.drop o).take m) (w : World) (s : St c.G c.D c.w0 H w) : ∀ j u, cs[j]? = some u → w.cell? ((⟨g, o, none⟩ : Addr).add j) = some u := fun j u hu => by
  subst hc
  have r1 := (s.on (.row g t 0 [] L []) h1).2
  simp only [List.nil_append, List.append_nil] at r1
  rw [Addr.add_lit, r1.cell]
  rw [List.getElem?_take] at hu
  split at hu
  · rw [List.getElem?_drop] at hu; exact hu
  · cases hu
theorem run_copyN {P : Program} (w : World) (dT sT ty elem m : TypeId) (b o dLen dCap : Nat) (a : Addr) (sLen sCap : Nat) (cs : List Value)
    (hu : P.underlying dT = some (.slice elem)) (hs : (P.info? elem).map (·.size) = some m) (hn : cs.length = Nat.min sLen dLen * m)
    (hsrc : ∀ j v, cs[j]? = some v → w.cell? (a.add j) = some v) (hc : ∀ j, j < cs.length → (w.cell? ⟨b, o + j, none⟩).isSome = true) (hf : ∀ j, j < cs.length → w.frozen? ⟨b, o + j, none⟩ = false) (h1 : ∀ v ∈ cs, v.oneCell' = true) :
    (Builtin.copy_ #[dT, sT] ty #[.slice (some ⟨b, o, none⟩) dLen dCap, .slice (some a) sLen sCap]).run P w = .ok (goInt (Nat.min sLen dLen : Nat)) (w.setCells b o cs) := by
  have hl := run_loadCells_list (P := P) w a cs hsrc
  have hst := run_storeCells_cells (P := P) b o cs 0 w (by simpa using hc) (by simpa using hf) h1
  cases hq : P.info? elem with
  | none => simp [hq] at hs
  | some i =>
    have hi : i.size = m := by simpa [hq] using hs
    simp [Builtin.copy_, run_underlying hu, Builtin.lenOf, Builtin.firstCells, sizeOf, typeInfo, hq, hi, ← hn, hl, hst]
/-- copying into a row -/
theorem o_cpy {dT sT e m g t oo dn dc sn sc : Nat} {ad : Addr} {L L' cs : List Value} {S : List Pc} [hS : SlC c.P dT e m] (hd : Nat.blt d c.n = true) (hx : ev fr x = some (.slice (some ⟨g, oo, none⟩) dn dc)) (hy : ev fr y = some (.slice (some ad) sn sc))
    (hsrc : ∀ w, St c.G c.D c.w0 H w → ∀ j u, cs[j]? = some u → w.cell? (ad.add j) = some u) (hr : Rpl H (.row g t 0 [] L []) (.row g t 0 [] L' []) S)
    (hL : L' = L.take oo ++ cs ++ L.drop (oo + cs.length)) (hn : cs.length = Nat.min sn dn * m) (hfit : oo + cs.length ≤ L.length) (h1 : ∀ v ∈ cs, v.oneCell' = true) (h : T c ((d, .int .i64 (Nat.min sn dn : Nat)) :: fr) S Φ) :
    On c fr H (some d) (.call { callee := .builtin .copy, args := #[x, y], argTypes := #[dT, sT] }) ty Φ := ⟨fun _ _ _ => ef_of fun Q a w s ag => by
  have hP : (Pc.row g t 0 [] L []).P w := by obtain ⟨R, h1, _⟩ := hr.picks; exact s.on _ h1.mem
  have r1 := hP.2
  simp only [List.nil_append, List.append_nil] at r1
  have hrun := fun ty => run_copyN (P := c.P) w dT sT ty e m g oo dn dc ad sn sc cs hS.u hS.s hn (hsrc w s) (fun j hj => by rw [r1.cell, List.getElem?_eq_getElem (by omega)]; rfl) (fun j hj => r1.frozen _) h1
  have e1 : ∀ pos aft gd, (execOp a.eval ⟨some d, .call { callee := .builtin .copy, args := #[x, y], argTypes := #[dT, sT] }, ty, pos, aft, gd⟩).run c.P w = .ok (.value (goInt (Nat.min sn dn : Nat))) (w.setCells g oo cs) := by
    intro pos aft gd
    simp only [execOp, resolve, invoke, builtin, Sem.run_bind, Sem.run_pure, Result.andThen_ok, List.map_toArray, List.map_cons, List.map_nil, ag.ev hx, ag.ev hy, hrun]
  rw [e1]
  have hsplit : L = L.take oo ++ (L.drop oo).take cs.length ++ L.drop (oo + cs.length) := by
    rw [← List.drop_drop, List.append_assoc, List.take_append_drop, List.take_append_drop]
  have r2 := r1
  rw [hsplit] at r2
  have r3 := Row.put cs _ r2 (p := oo) (by simp; omega) (by simp; omega)
  have hk := putCells_keep (g := g) cs w oo
  rw [putCells_eq w g cs w] at r3 hk
  rw [← hL] at r3
  refine h.h _ _ (s.rpl hr rfl (fun b hb => .inl hb) hk ⟨rfl, by simpa using r3⟩) (ag.put hd)⟩
/-- zeros appended that make a slice grow: to a part of a row -/
theorem o_apgz {t tn e m b g oo n cp k : Nat} {zv : Value} {olds : List Value} {q : Int} [hS : SlC c.P t e m] [hE : ElT c.P e zv m b] [hI : IntC c.P tn .i64] (hd : Nat.blt d c.n = true) (hx : ev fr x = some (.slice (some ⟨g, oo, none⟩) n cp)) (hy : ev fr y = some (.int .i64 q)) (hq : q = (k : Int))
    (hso : ∀ w, St c.G c.D c.w0 H w → ∀ j u, olds[j]? = some u → w.cell? ((⟨g, oo, none⟩ : Addr).add j) = some u)
    (hlo : olds.length = n * m) (hm : 0 < m) (hk : 0 < k) (hg : cp < n + k) (h63 : n + k ≤ 4294967296) (hby : (n + k) * b ≤ 140737488355328)
    (h : ∀ g' cp' Z rest, n + k ≤ cp' → cp' ≤ 9223372036854775807 → Z.length = k * m → (olds ++ Z ++ rest).length = cp' * m → T c ((d, .slice (some ⟨g', 0, none⟩) ((n + k : Nat)) cp') :: fr) (.row g' e 0 [] (olds ++ Z ++ rest) [] :: H) Φ) :
    On c fr H (some d) (.call { callee := .builtin .append, args := #[x, y], argTypes := #[t, tn] }) ty Φ := ⟨fun _ _ _ => ef_of fun Q a w s ag => by
  subst hq
  obtain ⟨i, hi, hiz⟩ := Option.map_eq_some_iff.1 hE.i
  simp only [Prod.mk.injEq] at hiz
  obtain ⟨i1, i2, i3⟩ := hiz
  subst i2 i3
  have hold : (Builtin.firstCells i.size n (.slice (some ⟨g, oo, none⟩) n cp)).run c.P w.drew = .ok olds.toArray w.drew := run_firstCells_some w.drew i.size n ⟨g, oo, none⟩ n cp olds hlo (fun j v hj => hso w s j v hj)
  have hr := fun ty => Lib.run_append_grow_zeros (P := c.P) w t tn ty e i zv .i64 .i64 hS.u hI.u hi i1 (some ⟨g, oo, none⟩) n cp olds hold k hk hm hg (by omega) (Nat.le_trans (Nat.mul_le_mul_right _ (by omega)) (Nat.le_trans hby (by decide))) (growslice_fits hg hby)
  have e1 : ∀ pos aft gd, (execOp a.eval ⟨some d, .call { callee := .builtin .append, args := #[x, y], argTypes := #[t, tn] }, ty, pos, aft, gd⟩).run c.P w = .ok (.value (.slice (some ⟨w.heap.size, 0, none⟩) (n + k) (grownCap w (n + k) cp e))) (w.drew.alloc (.cells (olds.toArray ++ Builtin.zeroCells zv.cells k ++ Builtin.zeroCells zv.cells (grownCap w (n + k) cp e - (n + k))) e)) := by
    intro pos aft gd
    simp only [execOp, resolve, invoke, builtin, Sem.run_bind, Sem.run_pure, Result.andThen_ok, List.map_toArray, List.map_cons, List.map_nil, ag.ev hx, ag.ev hy, hr]
  rw [e1]
  have hge := grownCap_ge w (n + k) cp e
  have hle := grownCap_le_maxLen w (n + k) cp e (by unfold maxLen; omega)
  have hBel : Below w.heap.size w (w.drew.alloc (.cells (olds.toArray ++ Builtin.zeroCells zv.cells k ++ Builtin.zeroCells zv.cells (grownCap w (n + k) cp e - (n + k))) e)) := (belowDrewN (Below.refl w.heap.size w) 1).alloc (Nat.le_refl _) _
  have hz : ∀ q, (Builtin.zeroCells zv.cells q).toList.length = q * i.size := fun q => by rw [zeroCells_len, hE.s]
  refine (h w.heap.size (grownCap w (n + k) cp e) (Builtin.zeroCells zv.cells k).toList (Builtin.zeroCells zv.cells (grownCap w (n + k) cp e - (n + k))).toList hge (by unfold maxLen at hle; omega) (hz k) ?_).h _ _ (s.add (N := [.row w.heap.size e 0 [] (olds ++ (Builtin.zeroCells zv.cells k).toList ++ (Builtin.zeroCells zv.cells (grownCap w (n + k) cp e - (n + k))).toList) []]) hBel ?_ ⟨by simp, trivial⟩ ?_) (ag.put hd)
  · rw [List.length_append, List.length_append, hz, hz, hlo, ← Nat.add_mul, ← Nat.add_mul]; congr 1; omega
  · intro p hp
    rw [List.mem_singleton] at hp; subst hp
    refine ⟨rfl, ?_⟩
    have := Row.made w.drew e (olds ++ (Builtin.zeroCells zv.cells k).toList ++ (Builtin.zeroCells zv.cells (grownCap w (n + k) cp e - (n + k))).toList)
    rw [List.nil_append, List.append_nil]
    have e2 : (olds ++ (Builtin.zeroCells zv.cells k).toList ++ (Builtin.zeroCells zv.cells (grownCap w (n + k) cp e - (n + k))).toList).toArray = olds.toArray ++ Builtin.zeroCells zv.cells k ++ Builtin.zeroCells zv.cells (grownCap w (n + k) cp e - (n + k)) := by apply Array.ext'; simp
    rw [e2] at this
    exact this
  · intro p hp b hb
    rw [List.mem_singleton] at hp; subst hp
    simp [Pc.F] at hb; subst hb
    exact .inl (Nat.le_refl _)⟩
/-- a part of a slice that nobody looks at -/
theorem o_slany {t e m n cp i : Nat} {a : Option Addr} {q : Int} [hS : SlC c.P t e m] (hd : Nat.blt d c.n = true) (hx : ev fr x = some (.slice a n cp)) (hy : ev fr y = some (.int .i64 q)) (hq : q = (i : Int)) (hi : i ≤ n) (h : ∀ v, T c ((d, v) :: fr) H Φ) (hlc : n ≤ cp := by omega) : On c fr H (some d) (.slice t x (some y) none none) ty Φ := ⟨fun _ _ _ => ef_of fun Q ac w s g => by
  subst hq
  have he2 := elem_of hS
  obtain ⟨v, h3⟩ : ∃ v, (Instr.sliceAt t (.slice a n cp) (some (.int .i64 (i : Int))) none none).run c.P w = .ok v w := by
    rw [run_sliceAt_slice (h := by rw [he2]; exact hS.u), run_slice_l (ht := by rw [he2]; exact hS.u) (h0 := by omega) (h1 := by omega), he2, size_of hS.s]
    exact ⟨_, rfl⟩
  have e1 : ∀ pos aft gd, (execOp ac.eval ⟨some d, .slice t x (some y) none none, ty, pos, aft, gd⟩).run c.P w = .ok (.value v) w := by
    intro pos aft gd
    simp only [execOp, Option.map_none, Option.map_some, g.ev hx, g.ev hy, Sem.run_bind, h3, Result.andThen_ok, Sem.run_pure]
  rw [e1]
  exact (h v).h _ w s (g.put hd)⟩
end
end Go.Proofs.Ytgogcgkocjpgoaa
/- Functions bound to a receiver, clearing, loops beside pieces that are not told. -/
namespace Go.Proofs.Ytgogcgkocjpgoaa
open Go.RowKit
section
variable {P : Program} {n : Nat} {fr : Fr} {H : List Pc} {ty : TypeId}
end
section
variable {c : Cx} {fr : Fr} {H : List Pc} {k : List It} {Φ : Gl} {d : Nat} {ty : TypeId} {x : Operand}
end
end Go.Proofs.Ytgogcgkocjpgoaa
/- Slices whose elements have blocks of their own: their cells and what stands behind them, told apart. Plain: no program in sight. -/
namespace Go.Proofs.Ytgogcgkocjpgoaa
open Go.RowKit
theorem lenE {p : Prop} (h : p := by first | omega | (simp only [List.length_append, List.length_take, List.length_drop, List.length_cons, List.length_nil, List.length_set, List.length_replicate]; omega)) : p := h
theorem sep_nd : ∀ {N : List Pc}, (fp N).Nodup → Sep N
  | [], _ => trivial
  | p :: N, h => ⟨fun q hq _ b hb hqb => nodup_apt h hb (mem_fp.2 ⟨q, hq, hqb⟩), sep_nd (List.nodup_append.1 h).2.1⟩
theorem St.swap {G D w0 H M N R w} (s : St G D w0 H w) (hM : Picks H M R) (hm : ∀ p ∈ M, p.mu = true) (hN : Hol N w) (hnd : (fp M).Nodup → (fp N).Nodup) (hF : ∀ b ∈ fp N, b ∈ fp M) : St G D w0 (N ++ R) w :=
  have s1 : St G D w0 (M ++ R) w := by simpa using hM.st (X := []) (by simpa using s)
  have sM : Sep M := by
    have : ∀ (M : List Pc), Sep (M ++ R) → Sep M := by
      intro M
      induction M with
      | nil => intro _; trivial
      | cons p M ih => intro h; exact ⟨fun q hq => h.1 q (by simp [hq]), ih h.2⟩
    exact this M s1.sep
  have hn : (fp M).Nodup := fp_nd (by simpa using hm) (fun p hp => s1.on p (by simp [hp])) sM
  St.turn (M := M) (N := N) s1 (Keep.refl _ w) hN (sep_nd (hnd hn)) fun p hp b hb => by
    obtain ⟨q, hq, hqb⟩ := mem_fp.1 (hF b (mem_fp.2 ⟨p, hp, hb⟩))
    exact .inr (.inl ⟨q, hq, hm q hq, hqb⟩)
section
variable {c : Cx} {fr : Fr} {H : List Pc} {Φ : Gl}
/-- one element of an owned slice that has blocks of its own: its cells, what stands behind it; what stands behind the others -/
def HoleO {α : Type} (E : Elem α) (t : TypeId) (g : Nat) (v : Value) (xs : List α) (i : Nat) (A B c1 c2 : List Value) : Prop :=
  ∀ w cs y G1 Gi G2, Row w g t (A ++ cs ++ B) → Flat E w c1 (xs.take i) G1 → E.rep w cs y Gi → Flat E w c2 (xs.drop (i + 1)) G2 → Ow E t w v (xs.set i y) (g :: (G1 ++ Gi ++ G2))
theorem focO {α : Type} {E : Elem α} {t : TypeId} {a : Option Addr} {n cp m : Nat} {xs : List α} {F : List Nat} {S : List Pc} (i : Nat)
    (h : ∀ (_ : i < xs.length) g A cs B c1 c2 G1 Gi G2, a = some ⟨g, 0, none⟩ → n = xs.length → n ≤ cp → HoleO E t g (.slice (some ⟨g, 0, none⟩) n cp) xs i A B c1 c2 → T c fr (.row g t (0 + i * m) A cs B :: .own E (.agg cs.toArray) xs[i] Gi :: .flat E c1 (xs.take i) G1 :: .flat E c2 (xs.drop (i + 1)) G2 :: S) Φ)
    (hm : E.sz = m) (hi : i < xs.length) (hp : Pick H (.ow E t (.slice a n cp) xs F) S := by (repeat (first | exact .here | apply Pick.there)); first | done | fail) : T c fr H Φ := .mk fun ac w s ag => by
  subst hm
  have s1 := s.pick hp
  obtain ⟨hnd, ho⟩ := s1.on (.ow E t (.slice a n cp) xs F) (by simp)
  rcases ho with ⟨-, rfl, -⟩ | ⟨g, cap, cs0, rest, G, h1, h2, h3, h4, h5, h6, rfl⟩
  · simp at hi
  cases h1
  obtain ⟨A, cs, B, G1, Gi, G2, rfl, rfl, hA, hc, f1, f2, f3⟩ := h6.focus i hi
  refine (h hi g A cs (B ++ rest) A B G1 Gi G2 rfl rfl h3 ?_).h ac w (s1.swap (M := [_]) (N := [.row g t (0 + i * E.sz) A cs (B ++ rest), .own E (.agg cs.toArray) xs[i] Gi, .flat E A (xs.take i) G1, .flat E B (xs.drop (i + 1)) G2]) (.cons .here .nil) (by intro p hp; simp at hp; subst hp; rfl) ?_ (fun hn => ?_) (fun b hb => ?_)) ag
  · intro w' cs' y G1' Gi' G2' hr k1 k2 k3
    have := Flat.build hi k1 k2 k3
    have hl := this.len
    exact .inr ⟨g, cp, A ++ cs' ++ B, rest, G1' ++ Gi' ++ G2', by simp, by simpa using hr, by simpa using h3, h4, by
      have e1 := E.len k2
      simp only [List.length_append] at h5 ⊢
      omega, this, rfl⟩
  · have hn1 := List.nodup_append.1 (List.nodup_cons.1 hnd).2
    have hn2 := List.nodup_append.1 hn1.1
    intro p hp
    simp only [List.mem_cons, List.not_mem_nil, or_false] at hp
    rcases hp with rfl | rfl | rfl | rfl
    · exact ⟨by omega, by simpa using h2⟩
    · exact ⟨hn2.2.1, _, rfl, f2⟩
    · exact ⟨hn2.1, f1⟩
    · exact ⟨hn1.2.1, f3⟩
  · have : (g :: (G1 ++ Gi ++ G2)).Perm ([g] ++ (Gi ++ (G1 ++ (G2 ++ [])))) := by
      simp only [List.singleton_append, List.append_nil, List.append_assoc]
      refine List.Perm.cons _ ?_
      rw [← List.append_assoc, ← List.append_assoc]
      exact (List.perm_append_comm).append_right _
    exact this.nodup_iff.1 (by simpa [fp, Pc.F] using hn)
  · simp only [fp, Pc.F, List.append_nil, List.mem_append, List.mem_cons, List.not_mem_nil, or_false] at hb ⊢
    grind
theorem unfO {α : Type} {E : Elem α} {t : TypeId} {g o i : Nat} {u v : Value} {xs : List α} {A cs B c1 c2 : List Value} {x1 x2 : List α} {G1 Gi G2 : List Nat} {S1 S2 S3 S4 : List Pc} (y : α) (hh : HoleO E t g u xs i A B c1 c2) (hv : v = .agg cs.toArray) (h : ∀ F', T c fr (.ow E t u (xs.set i y) F' :: S4) Φ) (e1 : x1 = xs.take i := by rfl) (e2 : x2 = xs.drop (i + 1) := by rfl)
    (hp1 : Pick H (.row g t o A cs B) S1 := by (repeat (first | exact .here | apply Pick.there)); first | done | fail) (hp2 : Pick S1 (.own E v y Gi) S2 := by (repeat (first | exact .here | apply Pick.there)); first | done | fail) (hp3 : Pick S2 (.flat E c1 x1 G1) S3 := by (repeat (first | exact .here | apply Pick.there)); first | done | fail) (hp4 : Pick S3 (.flat E c2 x2 G2) S4 := by (repeat (first | exact .here | apply Pick.there)); first | done | fail) : T c fr H Φ := .mk fun ac w s ag => by
  subst hv e1 e2
  have hP : Picks H [.row g t o A cs B, .own E (.agg cs.toArray) y Gi, .flat E c1 (xs.take i) G1, .flat E c2 (xs.drop (i + 1)) G2] S4 := .cons hp1 (.cons hp2 (.cons hp3 (.cons hp4 .nil)))
  have s1 : St c.G c.D c.w0 ([.row g t o A cs B, .own E (.agg cs.toArray) y Gi, .flat E c1 (xs.take i) G1, .flat E c2 (xs.drop (i + 1)) G2] ++ S4) w := by simpa using hP.st (X := []) (by simpa using s)
  obtain ⟨-, r⟩ := s1.on (.row g t o A cs B) (by simp)
  obtain ⟨-, cs', e, hr⟩ := s1.on (.own E (.agg cs.toArray) y Gi) (by simp)
  obtain rfl : cs = cs' := by simpa using e
  have f1 := (s1.on (.flat E c1 (xs.take i) G1) (by simp)).2
  have f3 := (s1.on (.flat E c2 (xs.drop (i + 1)) G2) (by simp)).2
  have hO := hh w cs y G1 Gi G2 r f1 hr f3
  have hpm : (g :: (G1 ++ Gi ++ G2)).Perm ([g] ++ (Gi ++ (G1 ++ (G2 ++ [])))) := by
    simp only [List.singleton_append, List.append_nil, List.append_assoc]
    refine List.Perm.cons _ ?_
    rw [← List.append_assoc, ← List.append_assoc]
    exact (List.perm_append_comm).append_right _
  have hmM : ∀ p ∈ [Pc.row g t o A cs B, .own E (.agg cs.toArray) y Gi, .flat E c1 (xs.take i) G1, .flat E c2 (xs.drop (i + 1)) G2], p.mu = true := by intro p hp; simp only [List.mem_cons, List.not_mem_nil, or_false] at hp; rcases hp with rfl | rfl | rfl | rfl <;> rfl
  have hndM : (fp [Pc.row g t o A cs B, .own E (.agg cs.toArray) y Gi, .flat E c1 (xs.take i) G1, .flat E c2 (xs.drop (i + 1)) G2]).Nodup := fp_nd (by simpa using hmM) (fun p hp => s1.on p (List.mem_append_left _ hp)) (by
    have sp := s1.sep
    exact ⟨fun q hq => sp.1 q (List.mem_append_left _ hq), fun q hq => sp.2.1 q (List.mem_append_left _ hq), fun q hq => sp.2.2.1 q (List.mem_append_left _ hq), fun q hq => sp.2.2.2.1 q (List.mem_append_left _ hq), trivial⟩)
  have hnd : (g :: (G1 ++ Gi ++ G2)).Nodup := hpm.nodup_iff.2 (by simpa [fp, Pc.F] using hndM)
  refine (h (g :: (G1 ++ Gi ++ G2))).h ac w (s.swap hP hmM (N := [.ow E t u (xs.set i y) (g :: (G1 ++ Gi ++ G2))]) (by intro p hp; rw [List.mem_singleton] at hp; subst hp; exact ⟨hnd, hO⟩) (fun _ => by simpa [fp, Pc.F] using hnd) (fun b hb => ?_)) ag
  simp only [fp, Pc.F, List.append_nil, List.mem_append, List.mem_cons, List.not_mem_nil, or_false] at hb ⊢
  grind
/-- a row of our own with what stands behind it is appended -/
theorem ap1o {α : Type} {E : Elem α} {t e m b : Nat} {z : Value} [hS : SlC c.P t e m] [hE : ElT c.P e z m b] {xs : List α} {F Fy : List Nat} {g tt : Nat} {cs : List Value} {u : Value} {R R2 S : List Pc} {d : Nat} {ty : TypeId} {v : Value} {x y : Operand} (one : One E) (ey : α) (hu : u = .agg cs.toArray)
    (h : ∀ a' c' F', T c ((d, .slice a' (xs ++ [ey]).length c') :: fr) (.ow E e (.slice a' (xs ++ [ey]).length c') (xs ++ [ey]) F' :: S) Φ)
    (hx : ev fr x = some v := by rfl) (hy : ev fr y = some (.slice (some ⟨g, 0, none⟩) 1 1) := by rfl) (hp : Pick H (.ow E e v xs F) R := by (repeat (first | exact .here | apply Pick.there)); first | done | fail) (hp2 : Pick R (.row g tt 0 [] cs []) R2 := by (repeat (first | exact .here | apply Pick.there)); first | done | fail) (hp3 : Pick R2 (.own E u ey Fy) S := by (repeat (first | exact .here | apply Pick.there)); first | done | fail) (hz : 0 < E.sz := by decide) (hm : E.sz = m := by rfl)
    (h63 : xs.length + 1 ≤ 9223372036854775807 := by omega) (hby : (xs.length + 1) * b ≤ 140737488355328 := by omega) (hd : Nat.blt d c.n = true := by rfl) :
    On c fr H (some d) (.call { callee := .builtin .append, args := #[x, y], argTypes := #[t, t] }) ty Φ := ⟨fun _ _ _ => by
  subst hu
  refine ap (ys := [ey]) (Fy := Fy) (S := S) one hz hm hp hx hy rfl (fun w s => ?_) (fun w v' F' s hF w' hk hv => ?_) (by unfold maxLen; exact h63) hby h hd
  · have hro := s.on (.row g tt 0 [] cs []) (by simp [hp2.mem])
    have how := s.on (.own E (.agg cs.toArray) ey Fy) (by simp [hp2.sub _ hp3.mem])
    obtain ⟨hnd, cs', e1, hrep⟩ := how
    obtain rfl : cs = cs' := by simpa using e1
    refine ⟨cs, Flat.one hrep, .inr ⟨_, rfl, fun j u hu => ?_⟩, fun b hb hbF => ?_, hnd⟩
    · have hr := hro.2
      have := hr.cell j
      simp only [List.nil_append, List.append_nil] at this
      rw [hu] at this
      unfold Addr.add
      split
      · rename_i e; subst e; exact this
      · simpa using this
    · exact s.sep.1 (.own E (.agg cs.toArray) ey Fy) (hp2.sub _ hp3.mem) rfl b hbF hb
  · have hP : Picks (.ow E e v xs F :: R) [.ow E e v xs F, .own E (.agg cs.toArray) ey Fy, .row g tt 0 [] cs []] S := .cons .here (by
      have : ∀ {R R2 S : List Pc} {p q : Pc}, Pick R p R2 → Pick R2 q S → Picks R [q, p] S := by
        intro R R2 S p q h1
        induction h1 generalizing S with
        | here => intro h2; exact .cons (.there h2) (.cons .here .nil)
        | @there x p R R' h ih =>
          intro h2
          cases h2 with
          | here => exact .cons .here (.cons h .nil)
          | there h3 =>
            cases ih h3 with
            | cons a1 a2 =>
              cases a2 with
              | cons b1 b2 => cases b2; exact .cons (.there a1) (.cons (.there b1) .nil)
      exact this hp2 hp3)
    have s1 : St c.G c.D c.w0 ([.ow E e v xs F, .own E (.agg cs.toArray) ey Fy] ++ S) w := by
      have s0 : St c.G c.D c.w0 ([.ow E e v xs F, .own E (.agg cs.toArray) ey Fy, .row g tt 0 [] cs []] ++ S) w := by simpa using hP.st (X := []) (by simpa using s)
      have sp := s0.sep
      have hm3 : ∀ q, q ∈ [Pc.ow E e v xs F, .own E (.agg cs.toArray) ey Fy] ++ S → q ∈ [Pc.ow E e v xs F, .own E (.agg cs.toArray) ey Fy, .row g tt 0 [] cs []] ++ S := fun q hq => by
        simp only [List.cons_append, List.nil_append, List.mem_cons] at hq ⊢
        rcases hq with h | h | h
        · exact .inl h
        · exact .inr (.inl h)
        · exact .inr (.inr (.inr h))
      exact ⟨s0.keep, fun q hq => s0.on q (hm3 q hq), ⟨fun q hq => sp.1 q (by
        rcases List.mem_cons.1 hq with h | h
        · simp [h]
        · exact List.mem_cons_of_mem _ (List.mem_cons_of_mem _ h)), fun q hq => sp.2.1 q (List.mem_cons_of_mem _ hq), sp.2.2.2⟩, fun q hq => s0.mine q (hm3 q hq)⟩
    refine St.turn (M := [.ow E e v xs F, .own E (.agg cs.toArray) ey Fy]) (N := [.ow E e v' (xs ++ [ey]) F']) s1 (hk.mono (fun b hb _ => by simp [List.filter, Pc.mu, fp, Pc.F, hb])) (by intro q hq; simp at hq; subst hq; exact hv) ⟨by simp, trivial⟩ ?_
    intro q hq b hb
    simp only [List.mem_cons, List.not_mem_nil, or_false] at hq; subst hq
    rcases hF b hb with h | h | h
    · exact .inr (.inl ⟨.ow E e v xs F, by simp, rfl, h⟩)
    · exact .inr (.inl ⟨.own E (.agg cs.toArray) ey Fy, by simp, rfl, h⟩)
    · exact .inl (by omega)⟩
/-- the first k of a slice that reads, beside it -/
theorem t_stk {α : Type} {E : Elem α} {a : Option Addr} {n cp : Nat} {xs : List α} {F : List Nat} (k : Nat) (hk : k ≤ xs.length) (h : ∀ F', n ≤ cp → cp ≤ 9223372036854775807 → T c fr (.sl E (.slice a k cp) (xs.take k) F' :: H) Φ) (hm : .sl E (.slice a n cp) xs F ∈ H := by (repeat (first | exact .head _ | apply List.Mem.tail)); first | done | fail) : T c fr H Φ := .mk fun ac w s g => by
  obtain ⟨hz, hs⟩ := s.get hm
  obtain ⟨rfl, hnc, hmx⟩ := hs.caps
  obtain ⟨F', hF, h2⟩ := hs.takeS k hk
  exact (h F' hnc (by unfold maxLen at hmx; omega)).h ac w (s.ro hm rfl rfl ⟨hz, h2⟩ hF) g
/-! the same for slices that read -/
end
end Go.Proofs.Ytgogcgkocjpgoaa
/- Walks of the small functions on elements: serials, clocks, faces. -/
namespace Go.Proofs.Ytgogcgkocjpgoaa
open Go.RowKit

def isSer (x : Int) : Bool := btw 0 x 65535
def isClk (x : Int) : Bool := btw 0 x 9999
def isFac (x : Int) : Bool := btw 1 x 7
theorem IsSerial_c (x : Int) (w : World) : Calls Try.prog 36 #[.int .i64 x] w fun e w' => e = .returned (.bool (isSer x)) ∧ w = w' := by
  go_enter Try.func36, Try.ntmps36
  go_wp2_with (go_at_call 50; refine (within_c _ _ _ _).mono ?_; rintro e w' ⟨rfl, rfl⟩)
  go_ret
  exact ⟨rfl, rfl⟩
theorem l2Good_c (x : Int) (w : World) : Calls Try.prog 32 #[.int .i64 x] w fun e w' => e = .returned (.bool (isSer x)) ∧ w = w' := by
  go_enter Try.func32, Try.ntmps32
  go_wp2_with (go_at_call 61; refine (l1In_c _ _ _ _).mono ?_; rintro e w' ⟨rfl, rfl⟩)
  go_ret
  exact ⟨rfl, rfl⟩
theorem isClock_c (x : Int) (w : World) : Calls Try.prog 53 #[.int .i64 x] w fun e w' => e = .returned (.bool (isClk x)) ∧ w = w' := by
  go_enter Try.func53, Try.ntmps53
  go_wp2_with (go_at_call 50; refine (within_c _ _ _ _).mono ?_; rintro e w' ⟨rfl, rfl⟩)
  go_ret
  exact ⟨rfl, rfl⟩
theorem l11Clock_c (x : Int) (w : World) : Calls Try.prog 60 #[.int .i64 x] w fun e w' => e = .returned (.bool (isClk x)) ∧ w = w' := by
  go_enter Try.func60, Try.ntmps60
  go_wp2_with (go_at_call 61; refine (l1In_c _ _ _ _).mono ?_; rintro e w' ⟨rfl, rfl⟩)
  go_ret
  exact ⟨rfl, rfl⟩
theorem isFace_c (x : Int) (w : World) : Calls Try.prog 45 #[.int .i64 x] w fun e w' => e = .returned (.bool (isFac x)) ∧ w = w' := by
  go_enter Try.func45, Try.ntmps45
  go_wp2_with (go_at_call 50; refine (within_c _ _ _ _).mono ?_; rintro e w' ⟨rfl, rfl⟩)
  go_ret
  exact ⟨rfl, rfl⟩

/-- number i of a list is within bounds, and greater than the one before it -/
def risAt (lo hi : Int) (zs : List Int) (i : Nat) : Bool := btw lo (zs.getD i 0) hi && (i == 0 || decide (zs.getD (i - 1) 0 < zs.getD i 0))
def rising (lo hi : Int) (zs : List Int) : Bool := allUpTo (risAt lo hi zs) zs.length
theorem risAt_zero {lo hi : Int} {zs : List Int} (h : 0 < zs.length) : risAt lo hi zs 0 = btw lo zs[0] hi := by simp [risAt, h]
theorem risAt_succ {lo hi : Int} {zs : List Int} {m : Nat} (h : m + 1 < zs.length) : risAt lo hi zs (m + 1) = (btw lo zs[m + 1] hi && decide (zs[m]'(by omega) < zs[m + 1])) := by
  simp [risAt, h, show m < zs.length by omega]
set_option maxHeartbeats 800000 in
theorem areFaces_c (v : Value) (zs : List Int) (F : List Nat) (w : World) (h : Sl EInt w v zs F) :
    Calls Try.prog 37 #[v] w fun e w' => e = .returned (.bool (rising 1 7 zs)) ∧ w = w' := by
  obtain ⟨a, cap, rfl⟩ := h.slice
  obtain ⟨-, hl, hc⟩ := h.int
  unfold maxLen at hl
  go_enter Try.func37, Try.ntmps37
  go_wp2
  go_loop [3, 4, 7] (fun _ _ i => ∃ k : Nat, k ≤ zs.length ∧ i = .int .i64 k ∧ Hid (∀ j, j < k → risAt 1 7 zs j = true)) (fun _ _ i => zs.length - (intOf i).toNat)
  case atStart => exact ⟨0, Nat.zero_le _, rfl, fun j hj => by omega⟩
  case round =>
    obtain ⟨k, hk, rfl, hz⟩ := hrel
    by_cases hlt : k < zs.length
    · obtain ⟨b, off, rfl, c0⟩ := hc k hlt
      rcases k with _ | m
      · have hr := Lib.hid (risAt_zero (lo := 1) (hi := 7) hlt)
        clear hc
        simp only [Nat.add_zero] at c0
        go_wp2_with (go_at_call 45; refine (isFace_c _ _).mono ?_; rintro e w' ⟨rfl, rfl⟩)
        · have t : btw 1 zs[0] 7 = true := by assumption
          exact ⟨⟨1, by omega, by go_num, upto_snoc hz.out (by rw [hr.out, t])⟩, by simp [intOf]; omega⟩
        · have t : ¬ btw 1 zs[0] 7 = true := by assumption
          go_ret
          exact ⟨ret_bool (allUpTo_no hlt (by rw [hr.out]; simpa using t)).symm, rfl⟩
      · obtain ⟨b', off', hb', c1⟩ := hc m (by omega)
        cases hb'
        have hr := Lib.hid (risAt_succ (lo := 1) (hi := 7) hlt)
        clear hc
        go_wp2_with (go_at_call 45; refine (isFace_c _ _).mono ?_; rintro e w' ⟨rfl, rfl⟩)
        · have t : zs[m + 1] ≤ zs[m] := by assumption
          go_ret
          exact ⟨ret_bool (allUpTo_no hlt (by rw [hr.out]; simp; omega)).symm, rfl⟩
        · have t : btw 1 zs[m + 1] 7 = true := by assumption
          have t2 : zs[m] < zs[m + 1] := by assumption
          exact ⟨⟨m + 2, by omega, by go_num, upto_snoc hz.out (by rw [hr.out, t]; simp; omega)⟩, by simp [intOf]; omega⟩
        · have t : ¬ btw 1 zs[m + 1] 7 = true := by assumption
          go_ret
          exact ⟨ret_bool (allUpTo_no hlt (by rw [hr.out]; simp [t])).symm, rfl⟩
    · go_wp2
      go_ret
      exact ⟨ret_bool (allUpTo_yes (fun i hi => hz.out i (by omega))).symm, rfl⟩
set_option maxHeartbeats 800000 in
theorem l1Rising_c (v : Value) (zs : List Int) (F : List Nat) (lo hi : Int) (w : World) (h : Sl EInt w v zs F) :
    Calls Try.prog 62 #[v, .int .i64 lo, .int .i64 hi] w fun e w' => e = .returned (.bool (rising lo hi zs)) ∧ Below w.heap.size w w' := by
  obtain ⟨a, cap, rfl⟩ := h.slice
  obtain ⟨-, hl, -⟩ := h.int
  unfold maxLen at hl
  go_enter Try.func62, Try.ntmps62
  go_wp2
  go_loopw [7] (fun i wr => ∃ k : Nat, k ≤ zs.length ∧ i = .int .i64 k ∧ Hid (∀ j, j < k → risAt lo hi zs j = true) ∧ Below w.heap.size w wr) (fun i _ => zs.length - (intOf i).toNat)
  case atStart => exact ⟨0, Nat.zero_le _, rfl, fun j hj => by omega, Below.refl _ _⟩
  case round =>
    obtain ⟨k, hk, rfl, hz, hB⟩ := hrel
    have hc := (h.below (by decide) hB).int.2.2
    by_cases hlt : k < zs.length
    · obtain ⟨b, off, rfl, c0⟩ := hc k hlt
      rcases k with _ | m
      · have hr := Lib.hid (risAt_zero (lo := lo) (hi := hi) hlt)
        clear hc
        simp only [Nat.add_zero] at c0
        cases t : btw lo zs[0] hi
        · go_wp2_with fail
          go_quiet ((go_at_call 61; exact quiet_eq (l1In_c _ _ _ _)))
          go_wp2_with fail
          go_ret
          exact ⟨ret_bool (allUpTo_no hlt (by rw [hr.out, t])).symm, belowDrewN hB _⟩
        · go_wp2_with fail
          go_quiet ((go_at_call 61; exact quiet_eq (l1In_c _ _ _ _)))
          go_wp2_with fail
          exact ⟨⟨1, by omega, by go_num, upto_snoc hz.out (by rw [hr.out, t]), belowDrewN hB _⟩, by simp [intOf]; omega⟩
      · obtain ⟨b', off', hb', c1⟩ := hc m (by omega)
        cases hb'
        have hr := Lib.hid (risAt_succ (lo := lo) (hi := hi) hlt)
        clear hc
        cases t : btw lo zs[m + 1] hi
        · go_wp2_with fail
          go_quiet ((go_at_call 61; exact quiet_eq (l1In_c _ _ _ _)))
          go_wp2_with fail
          go_ret
          exact ⟨ret_bool (allUpTo_no hlt (by rw [hr.out, t]; rfl)).symm, belowDrewN hB _⟩
        · by_cases t2 : zs[m] < zs[m + 1]
          · go_wp2_with fail
            go_quiet ((go_at_call 61; exact quiet_eq (l1In_c _ _ _ _)))
            go_wp2_with fail
            exact ⟨⟨m + 2, by omega, by go_num, upto_snoc hz.out (by rw [hr.out, t]; simpa using t2), belowDrewN hB _⟩, by simp [intOf]; omega⟩
          · have t3 : zs[m + 1] ≤ zs[m] := by omega
            go_wp2_with fail
            go_quiet ((go_at_call 61; exact quiet_eq (l1In_c _ _ _ _)))
            go_wp2_with fail
            go_ret
            exact ⟨ret_bool (allUpTo_no hlt (by rw [hr.out]; simp; omega)).symm, belowDrewN hB _⟩
    · go_wp2
      go_ret
      exact ⟨ret_bool (allUpTo_yes (fun i hi => hz.out i (by omega))).symm, hB⟩
theorem l14Faces_c (v : Value) (zs : List Int) (F : List Nat) (w : World) (h : Sl EInt w v zs F) :
    Calls Try.prog 33 #[v] w fun e w' => e = .returned (.bool (rising 1 7 zs)) ∧ Below w.heap.size w w' := by
  go_enter Try.func33, Try.ntmps33
  go_wp2_with (go_at_call 62; refine (l1Rising_c _ zs F _ _ _ h).mono ?_; rintro e w' ⟨rfl, hb1⟩)
  go_ret
  exact ⟨rfl, hb1⟩
end Go.Proofs.Ytgogcgkocjpgoaa
/- Walks of Go's generic library functions on slices of impl.Entry. Written by wip/genlib.py. -/
namespace Go.Proofs.Ytgogcgkocjpgoaa
open Go.RowKit
set_option maxHeartbeats 800000 in
theorem IndexFunc_Entry (fid : FuncId) (hbd : Body Try.prog fid) (caps : Array Value) (v : Value) (xs : List Entry) (F : List Nat) (p : Entry → Bool) (w : World) (h : Sl EEntry w v xs F)
    (hp : ∀ (k : Nat) (hk : k < xs.length) (wr : World) (u : Value) (G : List Nat), Below w.heap.size w wr → IsV EEntry wr u xs[k] G → Calls Try.prog fid (#[u] ++ caps) wr fun e w' => e = .returned (.bool (p xs[k])) ∧ Below wr.heap.size wr w') :
    Calls Try.prog 81 #[v, .func (.func fid) #[] caps] w fun e w' => e = .returned (.int .i64 (fidx p xs)) ∧ Below w.heap.size w w' := by
  obtain ⟨a, cap, rfl⟩ := h.slice
  have hl := h.len
  unfold maxLen at hl
  go_enter Try.func81, Try.ntmps81
  go_wp2
  go_loopw [5, 8] (fun _ i wr => ∃ k : Nat, k ≤ xs.length ∧ i = .int .i64 k ∧ Hid (∀ j, j < k → ∀ hj : j < xs.length, p xs[j] = false) ∧ Below w.heap.size w wr) (fun _ i _ => xs.length - (intOf i).toNat)
  case atStart => exact ⟨0, Nat.zero_le _, rfl, fun j hj => by omega, Below.refl _ _⟩
  case round =>
    obtain ⟨k, hk, rfl, hz, hB⟩ := hrel
    by_cases hlt : k < xs.length
    · have hz0 := hz; clear hz
      obtain ⟨b, off, _, F1, rfl, hx, -, ja⟩ := (h.below (by decide) hB).at k hlt
      obtain ⟨v1, rfl, h1⟩ := id hx
      have a0 := ja 0 (by decide)
      have a1 := ja 1 (by decide)
      have a2 := ja 2 (by decide)
      simp only [show EEntry.sz = 3 from rfl, Nat.mul_one, Nat.add_zero, List.getElem?_cons_zero, List.getElem?_cons_succ] at a0 a1 a2
      clear ja
      have hr := hp k hlt wr _ F1 hB ⟨_, rfl, hx⟩
      have hp := Lib.hid hp
      cases hpk : p xs[k]
      all_goals
        rw [hpk] at hr
        have hpk := Lib.hid hpk
        have hr := Lib.hid hr
        go_wp2_with fail
        refine hbd.upon hr.out ?_
        rintro e w1 ⟨rfl, hb1⟩
        refine ⟨_, rfl, ?_⟩
        have hB := tr hB hb1 (Nat.le_refl _)
        clear hb1
        go_wp2_with fail
      · exact ⟨⟨k + 1, by omega, by go_num, fun j hj hl => by rcases Nat.lt_or_eq_of_le (Nat.le_of_lt_succ hj) with h | h; exact hz0.out j h hl; subst h; exact hpk.out, hB⟩, by simp [intOf]; omega⟩
      · go_ret
        exact ⟨ret_int (fidx_hit hlt hz0.out hpk.out).symm, hB⟩
    · go_wp2
      go_ret
      exact ⟨ret_int (fidx_none (fun j hj => hz.out j (by omega) hj)).symm, hB⟩
theorem ContainsFunc_Entry (fid : FuncId) (hbd : Body Try.prog fid) (caps : Array Value) (v : Value) (xs : List Entry) (F : List Nat) (p : Entry → Bool) (w : World) (h : Sl EEntry w v xs F)
    (hp : ∀ (k : Nat) (hk : k < xs.length) (wr : World) (u : Value) (G : List Nat), Below w.heap.size w wr → IsV EEntry wr u xs[k] G → Calls Try.prog fid (#[u] ++ caps) wr fun e w' => e = .returned (.bool (p xs[k])) ∧ Below wr.heap.size wr w') :
    Calls Try.prog 51 #[v, .func (.func fid) #[] caps] w fun e w' => e = .returned (.bool (xs.any p)) ∧ Below w.heap.size w w' := by
  have hp := Lib.hid hp
  go_enter Try.func51, Try.ntmps51
  go_wp2_with fail
  refine (IndexFunc_Entry fid hbd caps v xs F p _ h hp.out).mono ?_
  rintro e w1 ⟨rfl, hb1⟩
  go_wp2_with fail
  go_ret
  exact ⟨ret_bool (fidx_any p xs), hb1⟩
theorem Clone_Entry (v : Value) (xs : List Entry) (F : List Nat) (w : World) (h : Sl EEntry w v xs F) (hm : xs.length ≤ 4294967296) :
    Calls Try.prog 66 #[v] w fun e w' => ∃ v' F', e = .returned v' ∧ Ow EEntry 74 w' v' xs F' ∧ Hd F' ∧ (∀ b, v'.ownBlock = some b → w.heap.size ≤ b) ∧ (∀ b ∈ F', v'.ownBlock = some b ∨ b ∈ F) ∧ Below w.heap.size w w' := by
  obtain ⟨ao, c, news, Fy, rfl, hl, hfy, hFy, hsrc⟩ := h.src
  have hFl := hfy.lt
  have he := fun w (a : Option Addr) (n c : Nat) => Lib.run_eql_slice_nil (P := Try.prog) w 27 _ a n c 0 0 Try.underlying27
  go_enter Try.func66, Try.ntmps66
  rcases hsrc with ⟨rfl, rfl, rfl⟩ | ⟨ad, rfl, hn⟩
  · go_wp2
    go_ret
    exact ⟨.slice none 0 0, [], rfl, .inl ⟨rfl, rfl, rfl⟩, Hd.nil, (fun b e => by simp [Value.ownBlock] at e), by simp, Below.refl _ _⟩
  · go_wp2_with (at_builtin; refine wpList_apd one_EEntry (by decide) (by rfl) _ _ _ (by rfl) 74 (.agg #[.int .i64 0, .slice none 0 0, .int .i64 0]) 40 Try.underlying27 info_Entry rfl (.slice (some ⟨w.heap.size, 0, none⟩) 0 0) [] [w.heap.size] (by rfl) (Ow.empty (Row.made _ _ _)) (Hd.one _) (some ad) xs c (by rfl) news Fy (hfy.frame fun b hb => Below.heap_alloc _ _ _ (hFl b hb)) (.inr ⟨ad, rfl, fun j u hu => kc ((Below.refl _ _).alloc (Nat.le_refl _) _) (hn j u hu)⟩) (fun b hb e => by have := hFl b hb; simp [Value.ownBlock] at e; omega) (by simpa using hl) (by unfold maxLen at hl; simp; omega) ?_)
    intro v2 w2 F2 hA
    go_wp2_with fail
    go_ret
    have hB : Below w.heap.size w w2 := ((Below.refl _ _).alloc (Nat.le_refl _) _).trans (hA.keep.below (by simp) (by simp))
    have hs : ∀ b, v2.ownBlock = some b → w.heap.size ≤ b := fun b hb => by rcases hA.same with e | e <;> rw [e] at hb <;> simp [Value.ownBlock] at hb <;> omega
    refine ⟨v2, F2, rfl, by simpa using hA.ow, hA.hd, hs, fun b hb => ?_, hB⟩
    rw [hA.form [] (by simp [Value.ownBlock])] at hb
    simp at hb
    rcases hb with hb | hb
    · exact .inl hb
    · exact .inr (hFy b hb)
end Go.Proofs.Ytgogcgkocjpgoaa
/- Walks: an element is valid. -/
namespace Go.Proofs.Ytgogcgkocjpgoaa
open Go.RowKit

def okEntry (c : Int) (x : Entry) : Bool := isSer x.number && (decide (0 < x.faces.length) && (rising 1 7 x.faces && btw (c + 1) x.untl (c + 6)))
/-- entry i is valid, and no earlier one has its number -/
def entAt (c : Int) (es : List Entry) (i : Nat) : Bool := match es[i]? with
  | none => true
  | some x => okEntry c x && !((es.take i).any fun o => o.number == x.number)
theorem entAt_of {c : Int} {es : List Entry} {i : Nat} (h : i < es.length) : entAt c es i = (okEntry c es[i] && !((es.take i).any fun o => o.number == es[i].number)) := by
  simp [entAt, h]
def goodElement (e : Element) : Bool := isClk e.clock && decide (e.entries.length ≤ 5) && allUpTo (entAt e.clock e.entries) e.entries.length
theorem isClk_iff {c : Int} : isClk c = true ↔ 0 ≤ c ∧ c ≤ 9999 := by unfold isClk btw; simp

theorem any_take {es : List Entry} {m k : Nat} {p : Entry → Bool} (h : m < es.length) (hk : m < k) (hp : p es[m] = true) : (es.take k).any p = true := by
  rw [List.any_eq_true]; exact ⟨es[m], List.mem_take_iff_getElem.2 ⟨m, by omega, rfl⟩, hp⟩
theorem any_take_no {es : List Entry} {k : Nat} {n : Int} (h : ∀ q, q < k → ∀ hq : q < es.length, es[q].number ≠ n) : ((es.take k).any fun o => o.number == n) = false := by
  rw [List.any_eq_false]; intro x hx
  obtain ⟨i, hi, rfl⟩ := List.mem_take_iff_getElem.1 hx
  simpa using h i (by omega) (by omega)
theorem wrap_clk {c d : Int} (h : isClk c = true) (h1 : 0 ≤ d) (h2 : d ≤ 100) : wrap64 (c + d) = c + d := by
  have := isClk_iff.1 h; unfold wrap64; omega
theorem good_no {e : Element} {k : Nat} (hk : k < e.entries.length) (h : isClk e.clock = true → entAt e.clock e.entries k = false) : goodElement e = false := by
  unfold goodElement
  cases hc : isClk e.clock
  · rfl
  · rw [allUpTo_no hk (h hc)]; simp
theorem IsValidElement_1_c (x : Entry) (num : Int) (b : Nat) (G : List Nat) (u : Value) (w : World) (h : IsV EEntry w u x G) (hc : w.cell? ⟨b, 0, none⟩ = some (.int .i64 num)) :
    Calls Try.prog 52 #[u, .pointer (some ⟨b, 0, none⟩)] w fun e w' => e = .returned (.bool (x.number == num)) ∧ Below w.heap.size w w' := by
  obtain ⟨_, rfl, v1, rfl, -⟩ := h
  have hc1 := fun o : Obj => kc ((Below.refl w.heap.size w).alloc (Nat.le_refl _) o) hc
  go_enter Try.func52, Try.ntmps52
  go_wp2
  go_ret
  exact ⟨ret_bool rfl, (Below.refl _ _).alloc (Nat.le_refl _) _⟩
set_option maxHeartbeats 1600000 in
theorem IsValidElement_c (v : Value) (e : Element) (F : List Nat) (w : World) (h : IsV EElement w v e F) :
    Calls Try.prog 22 #[v] w fun e' w' => e' = .returned (.bool (goodElement e)) ∧ Below w.heap.size w w' := by
  obtain ⟨_, rfl, v1, rfl, h1⟩ := h
  obtain ⟨a, cap, rfl⟩ := h1.slice
  have hl := h1.len
  unfold maxLen at hl
  have hB0 : ∀ A : Obj, Below w.heap.size w (w.alloc A) := fun A => (Below.refl _ _).alloc (Nat.le_refl _) _
  go_enter Try.func22, Try.ntmps22
  go_wp2
  go_loopw [3, 4, 8] (fun _ _ i wr => ∃ k : Nat, k ≤ e.entries.length ∧ i = .int .i64 k ∧ Hid (isClk e.clock = true → ∀ j, j < k → entAt e.clock e.entries j = true) ∧ Row wr w.heap.size 29 [.int .i64 e.clock, .slice a e.entries.length cap] ∧ Below w.heap.size w wr) (fun _ _ i _ => e.entries.length - (intOf i).toNat)
  case atStart => exact ⟨0, Nat.zero_le _, rfl, fun _ j hj => by omega, by simp [row_alloc], hB0 _⟩
  case round =>
    obtain ⟨k, hk, rfl, hz, hr, hB⟩ := hrel
    have c0 := hr.cells
    by_cases hlt : k < e.entries.length
    · have hz0 := hz; clear hz
      obtain ⟨b, off, _, F1, rfl, hx, -, ja⟩ := (h1.below (by decide) hB).at k hlt
      obtain ⟨u1, rfl, hf⟩ := id hx
      obtain ⟨fa, fc, rfl⟩ := hf.slice
      have a0 := ja 0 (by decide)
      have a1 := ja 1 (by decide)
      have a2 := ja 2 (by decide)
      simp only [show EEntry.sz = 3 from rfl, Nat.mul_one, Nat.add_zero, List.getElem?_cons_zero, List.getElem?_cons_succ] at a0 a1 a2
      clear ja
      have d0 := fun A => (hr.alloc A).cells
      have hf1 := fun A : Obj => hf.below (by decide) ((Below.refl wr.heap.size wr).alloc (Nat.le_refl _) A)
      have hB1 := fun A : Obj => tr hB ((Below.refl wr.heap.size wr).alloc (Nat.le_refl _) A) (Nat.le_refl _)
      have hcp := h1.caps
      by_cases hfe : e.entries[k].faces = []
      · have hE : ((e.entries[k].faces.length : Int) == 0) = true := by simp [hfe]
        have hno := Lib.hid (good_no hlt (fun _ => by rw [entAt_of hlt]; simp [okEntry, hfe]))
        go_wp2_with (first
          | (go_at_call 36; refine (IsSerial_c _ _).mono ?_; rintro e' w' ⟨rfl, rfl⟩)
          | (go_at_call 37; refine (areFaces_c _ _ _ _ (hf1 _)).mono ?_; rintro e' w' ⟨rfl, rfl⟩)
          | (go_at_call 50; refine (within_c _ _ _ _).mono ?_; rintro e' w' ⟨rfl, rfl⟩))
        all_goals go_ret
        all_goals exact ⟨ret_bool hno.out.symm, hB1 _⟩
      · have hE : ((e.entries[k].faces.length : Int) == 0) = false := by simp [hfe]
        have hfe := Lib.hid hfe
        go_wp2_with (first
          | (go_at_call 36; refine (IsSerial_c _ _).mono ?_; rintro e' w' ⟨rfl, rfl⟩)
          | (go_at_call 37; refine (areFaces_c _ _ _ _ (hf1 _)).mono ?_; rintro e' w' ⟨rfl, rfl⟩)
          | (go_at_call 50; refine (within_c _ _ _ _).mono ?_; rintro e' w' ⟨rfl, rfl⟩))
        · have t : (!btw (wrap64 (e.clock + 1)) e.entries[k].untl (wrap64 (e.clock + 6))) = true := by assumption
          go_ret
          refine ⟨ret_bool (good_no hlt fun hc => ?_).symm, hB1 _⟩
          rw [wrap_clk hc (by omega) (by omega), wrap_clk hc (by omega) (by omega)] at t
          rw [entAt_of hlt]; simp only [okEntry]; simp at t; simp [t]
        · have t1 : isSer e.entries[k].number = true := by assumption
          have t2 : rising 1 7 e.entries[k].faces = true := by assumption
          have t : (!btw (wrap64 (e.clock + 1)) e.entries[k].untl (wrap64 (e.clock + 6))) = false := by assumption
          obtain ⟨G, -, hs⟩ := h1.takeS k hk
          refine (ContainsFunc_Entry _ (.mk' Try.func52 rfl rfl) _ _ _ _ (fun o => o.number == e.entries[k].number) _ (hs.below (by decide) (hB1 _)) ?_).mono ?_
          · intro j hj w2 u G2 hb2 hu
            exact IsValidElement_1_c _ _ _ _ _ _ hu (kc hb2 (by simp))
          rintro e' w2 ⟨rfl, hb2⟩
          have hr2 := (hr.alloc _).below hb2
          have hB2 := tr (hB1 _) hb2 (Nat.le_refl _)
          have hc2 := hr2.cells
          have hAt := Lib.hid (entAt_of (c := e.clock) hlt)
          cases hany : (e.entries.take k).any fun o => o.number == e.entries[k].number
          · rw [hany] at hAt
            have hany := Lib.hid hany
            go_wp2_with fail
            refine ⟨⟨k + 1, by omega, by go_num, fun hc => upto_snoc (hz0.out hc) ?_, hr2, hB2⟩, by simp [intOf]; omega⟩
            rw [wrap_clk hc (by omega) (by omega), wrap_clk hc (by omega) (by omega)] at t
            rw [hAt.out]; simp only [okEntry, t1, t2]; simp at t; simp [t, List.length_pos_iff, hfe.out]
          · rw [hany] at hAt
            have hany := Lib.hid hany
            go_wp2_with fail
            go_ret
            exact ⟨ret_bool (good_no hlt fun _ => by rw [hAt.out]; simp).symm, hB2⟩
        · have t : ¬rising 1 7 e.entries[k].faces = true := by assumption
          go_ret
          refine ⟨ret_bool (good_no hlt fun hc => ?_).symm, hB1 _⟩
          rw [entAt_of hlt]; simp [okEntry, t]
        · have t : ¬isSer e.entries[k].number = true := by assumption
          go_ret
          refine ⟨ret_bool (good_no hlt fun hc => ?_).symm, hB1 _⟩
          rw [entAt_of hlt]; simp [okEntry, t]
    · have hk : k = e.entries.length := by omega
      subst hk
      have hz0 := hz; clear hz
      cases hck : isClk e.clock
      · have hn := Lib.hid (show goodElement e = false by unfold goodElement; rw [hck]; rfl)
        have hck := Lib.hid hck
        go_wp2_with (go_at_call 53; refine (isClock_c _ _).mono ?_; rintro e' w' ⟨rfl, rfl⟩; rw [hck.out])
        go_ret
        exact ⟨ret_bool hn.out.symm, hB⟩
      · have hn := Lib.hid (show goodElement e = decide ((e.entries.length : Int) ≤ 5) by unfold goodElement; rw [hck, allUpTo_yes (hz0.out hck)]; simp; omega)
        have hck := Lib.hid hck
        go_wp2_with (go_at_call 53; refine (isClock_c _ _).mono ?_; rintro e' w' ⟨rfl, rfl⟩; rw [hck.out])
        go_ret
        exact ⟨ret_bool hn.out.symm, hB⟩
set_option maxHeartbeats 1600000 in
theorem l14Good_c (v : Value) (e : Element) (F : List Nat) (w : World) (h : IsV EElement w v e F) :
    Calls Try.prog 31 #[v] w fun e' w' => e' = .returned (.bool (goodElement e)) ∧ Below w.heap.size w w' := by
  obtain ⟨_, rfl, v1, rfl, h1⟩ := h
  obtain ⟨a, cap, rfl⟩ := h1.slice
  have hl := h1.len
  unfold maxLen at hl
  have hB0 : ∀ A : Obj, Below w.heap.size w (w.alloc A) := fun A => (Below.refl _ _).alloc (Nat.le_refl _) _
  go_enter Try.func31, Try.ntmps31
  cases hck : isClk e.clock
  · have hn := Lib.hid (show goodElement e = false by unfold goodElement; rw [hck]; rfl)
    have hck := Lib.hid hck
    go_wp2_with (go_at_call 60; refine (l11Clock_c _ _).mono ?_; rintro e' w' ⟨rfl, rfl⟩; rw [hck.out])
    go_ret
    exact ⟨ret_bool hn.out.symm, hB0 _⟩
  by_cases h5 : ¬ (e.entries.length : Int) ≤ 5
  · have hn := Lib.hid (show goodElement e = false by unfold goodElement; rw [hck, decide_eq_false (by omega)]; rfl)
    have hck := Lib.hid hck
    go_wp2_with (go_at_call 60; refine (l11Clock_c _ _).mono ?_; rintro e' w' ⟨rfl, rfl⟩; rw [hck.out])
    go_ret
    exact ⟨ret_bool hn.out.symm, hB0 _⟩
  have h5 : (e.entries.length : Int) ≤ 5 := by omega
  have hcb := isClk_iff.1 hck
  have hgood := Lib.hid (show goodElement e = allUpTo (entAt e.clock e.entries) e.entries.length by unfold goodElement; rw [hck, decide_eq_true (by omega)]; rfl)
  have hck := Lib.hid hck
  go_wp2_with (go_at_call 60; refine (l11Clock_c _ _).mono ?_; rintro e' w' ⟨rfl, rfl⟩; rw [hck.out])
  go_loopw [3, 4, 5] (fun i _ _ wr => ∃ k : Nat, k ≤ e.entries.length ∧ i = .int .i64 k ∧ Hid (∀ j, j < k → entAt e.clock e.entries j = true) ∧ Row wr w.heap.size 29 [.int .i64 e.clock, .slice a e.entries.length cap] ∧ Below w.heap.size w wr) (fun i _ _ _ => e.entries.length - (intOf i).toNat)
  case atStart => exact ⟨0, Nat.zero_le _, rfl, fun j hj => by omega, by simp [row_alloc], hB0 _⟩
  case round =>
    obtain ⟨k, hk, rfl, hz, hr, hB⟩ := hrel
    have c0 := hr.cells
    by_cases hlt : k < e.entries.length
    · have hz0 := hz; clear hz
      obtain ⟨b, off, _, F1, rfl, hx, -, ja⟩ := (h1.below (by decide) hB).at k hlt
      obtain ⟨u1, rfl, hf⟩ := id hx
      obtain ⟨fa, fc, rfl⟩ := hf.slice
      have a0 := ja 0 (by decide)
      have a1 := ja 1 (by decide)
      have a2 := ja 2 (by decide)
      simp only [show EEntry.sz = 3 from rfl, Nat.add_zero, List.getElem?_cons_zero, List.getElem?_cons_succ] at a0 a1 a2
      clear ja
      have d0 := fun A => (hr.alloc A).cells
      have hf1 := fun A : Obj => hf.below (by decide) ((Below.refl wr.heap.size wr).alloc (Nat.le_refl _) A)
      have hB1 := fun A : Obj => tr hB ((Below.refl wr.heap.size wr).alloc (Nat.le_refl _) A) (Nat.le_refl _)
      by_cases hfe : e.entries[k].faces = []
      · have hE : ((e.entries[k].faces.length : Int) == 0) = true := by simp [hfe]
        have hno := Lib.hid (good_no hlt (fun _ => by rw [entAt_of hlt]; simp [okEntry, hfe]))
        go_wp2_with (go_at_call 32; refine (l2Good_c _ _).mono ?_; rintro e' w' ⟨rfl, rfl⟩)
        all_goals go_ret
        all_goals exact ⟨ret_bool hno.out.symm, hB1 _⟩
      · have hE : ((e.entries[k].faces.length : Int) == 0) = false := by simp [hfe]
        have hfe := Lib.hid hfe
        go_wp2_with (go_at_call 32; refine (l2Good_c _ _).mono ?_; rintro e' w' ⟨rfl, rfl⟩)
        · have t1 : isSer e.entries[k].number = true := by assumption
          refine (l14Faces_c _ _ _ _ (hf1 _)).mono ?_
          rintro e' w2 ⟨rfl, hb2⟩
          have hr2 := (hr.alloc _).below hb2
          have q2 := Row.below (g := wr.heap.size) (t := 74) (cs := [.int .i64 e.entries[k].number, .slice fa e.entries[k].faces.length fc, .int .i64 e.entries[k].untl]) (by simp [row_alloc]) hb2
          have hB2 := tr (hB1 _) hb2 (Nat.le_refl _)
          have c2 := hr2.cells; have d2 := q2.cells
          clear hb2
          cases t2 : rising 1 7 e.entries[k].faces
          · have hno := Lib.hid (good_no hlt (fun _ => by rw [entAt_of hlt]; simp [okEntry, t2]))
            go_wp2_with fail
            go_ret
            exact ⟨ret_bool hno.out.symm, hB2⟩
          cases t3 : btw (e.clock + 1) e.entries[k].untl (e.clock + 6)
          · have hno := Lib.hid (good_no hlt (fun _ => by rw [entAt_of hlt]; simp [okEntry, t3]))
            have t3 := Lib.hid t3
            go_wp2_with (go_at_call 61; refine (l1In_c _ _ _ _).mono ?_; rintro e' w' ⟨rfl, rfl⟩; rw [t3.out])
            go_ret
            exact ⟨ret_bool hno.out.symm, hB2⟩
          have hAt := Lib.hid (show entAt e.clock e.entries k = !((e.entries.take k).any fun o => o.number == e.entries[k].number) by rw [entAt_of hlt]; simp [okEntry, t1, t2, t3, List.length_pos_iff, hfe.out])
          have t3 := Lib.hid t3
          clear t1 t2 hE hf1 hx
          go_wp2_with (go_at_call 61; refine (l1In_c _ _ _ _).mono ?_; rintro e' w' ⟨rfl, rfl⟩; rw [t3.out])
          go_loopw [5] (fun j wr2 => ∃ m : Nat, m ≤ k ∧ j = .int .i64 m ∧ Hid (∀ q, q < m → ∀ hq : q < e.entries.length, e.entries[q].number ≠ e.entries[k].number) ∧ Row wr2 w.heap.size 29 [.int .i64 e.clock, .slice (some ⟨b, off, none⟩) e.entries.length cap] ∧ Row wr2 wr.heap.size 74 [.int .i64 e.entries[k].number, .slice fa e.entries[k].faces.length fc, .int .i64 e.entries[k].untl] ∧ Below w.heap.size w wr2) (fun j _ => k - (intOf j).toNat)
          case atStart => exact ⟨0, Nat.zero_le _, rfl, fun q hq => by omega, hr2, q2, hB2⟩
          case round =>
            obtain ⟨m, hm, rfl, hy, hr3, q3, hB3⟩ := hrel
            rename_i wr2
            have c3 := hr3.cells; have d3 := q3.cells
            by_cases hlm : m < k
            · have hy0 := hy; clear hy
              obtain ⟨bb, oo, _, F2, he, hx2, -, jb⟩ := (h1.below (by decide) hB3).at m (by omega)
              cases he
              obtain ⟨u2, rfl, -⟩ := hx2
              have b0 := jb 0 (by decide)
              simp only [show EEntry.sz = 3 from rfl, Nat.add_zero, List.getElem?_cons_zero] at b0
              clear jb
              have hmi : m < e.entries.length := by omega
              by_cases hnum : e.entries[m].number = e.entries[k].number
              · have hno := Lib.hid (good_no hlt fun _ => by rw [hAt.out, any_take hmi hlm (by simpa using hnum)]; rfl)
                have hEq : (e.entries[m].number == e.entries[k].number) = true := by simpa using hnum
                go_wp2_with fail
                go_quiet (fail)
                go_wp2_with fail
                go_ret
                exact ⟨ret_bool hno.out.symm, belowDrewN hB3 _⟩
              · have hEq : (e.entries[m].number == e.entries[k].number) = false := by simpa using hnum
                have hnum := Lib.hid hnum
                go_wp2_with fail
                go_quiet (fail)
                go_wp2_with fail
                exact ⟨⟨m + 1, by omega, by go_num, fun q hq hql => by rcases Nat.lt_or_eq_of_le (Nat.le_of_lt_succ hq) with h | h; exact hy0.out q h hql; subst h; exact hnum.out, hr3, q3, belowDrewN hB3 _⟩, by simp [intOf]; omega⟩
            · have hmk : m = k := by omega
              subst hmk
              have hat : entAt e.clock e.entries m = true := by
                rw [hAt.out, any_take_no hy.out]; rfl
              have hat := Lib.hid hat
              have hy0 := hy; clear hy
              go_wp2_with fail
              exact ⟨⟨m + 1, by omega, by go_num, upto_snoc hz0.out hat.out, hr3, hB3⟩, by simp [intOf]; omega⟩
        · have t : ¬isSer e.entries[k].number = true := by assumption
          go_ret
          refine ⟨ret_bool (good_no hlt fun hc => ?_).symm, hB1 _⟩
          rw [entAt_of hlt]; simp [okEntry, t]
    · have hk : k = e.entries.length := by omega
      subst hk
      have hn := Lib.hid (show goodElement e = true by rw [hgood.out, allUpTo_yes hz.out])
      have hz0 := hz; clear hz
      go_wp2_with fail
      go_ret
      exact ⟨ret_bool hn.out.symm, hB⟩
end Go.Proofs.Ytgogcgkocjpgoaa
/- Walks of Go's generic library functions on slices of int. Written by wip/genlib.py. -/
namespace Go.Proofs.Ytgogcgkocjpgoaa
open Go.RowKit
theorem Clone_Int (v : Value) (xs : List Int) (F : List Nat) (w : World) (h : Sl EInt w v xs F) (hm : xs.length ≤ 4294967296) :
    Calls Try.prog 55 #[v] w (RetNew EInt 3 xs w) := by
  obtain ⟨ao, c, news, Fy, rfl, hl, hfy, hFy, hsrc⟩ := h.src
  have hFl := hfy.lt
  have he := fun w (a : Option Addr) (n c : Nat) => Lib.run_eql_slice_nil (P := Try.prog) w 25 _ a n c 0 0 Try.underlying25
  go_enter Try.func55, Try.ntmps55
  rcases hsrc with ⟨rfl, rfl, rfl⟩ | ⟨ad, rfl, hn⟩
  · go_wp2
    go_ret
    exact ⟨.slice none 0 0, [], rfl, .inl ⟨rfl, rfl, rfl⟩, by simp, by simp, Below.refl _ _⟩
  · go_wp2_with (at_builtin; refine wpList_apd one_EInt (by decide) (by rfl) _ _ _ (by rfl) 3 (.int .i64 0) 8 Try.underlying25 info_int rfl (.slice (some ⟨w.heap.size, 0, none⟩) 0 0) [] [w.heap.size] (by rfl) (Ow.empty (Row.made _ _ _)) (Hd.one _) (some ad) xs c (by rfl) news Fy (hfy.frame fun b hb => Below.heap_alloc _ _ _ (hFl b hb)) (.inr ⟨ad, rfl, fun j u hu => kc ((Below.refl _ _).alloc (Nat.le_refl _) _) (hn j u hu)⟩) (fun b hb e => by have := hFl b hb; simp [Value.ownBlock] at e; omega) (by simpa using hl) (by unfold maxLen at hl; simp; omega) ?_)
    intro v2 w2 F2 hA
    go_wp2_with fail
    go_ret
    have hB : Below w.heap.size w w2 := ((Below.refl _ _).alloc (Nat.le_refl _) _).trans (hA.keep.below (by simp) (by simp))
    have hs : ∀ b, v2.ownBlock = some b → w.heap.size ≤ b := fun b hb => by rcases hA.same with e | e <;> rw [e] at hb <;> simp [Value.ownBlock] at hb <;> omega
    refine ⟨v2, F2, rfl, by simpa using hA.ow, hA.ow.scal scal_EInt ▸ ?_, fun b hb => ?_, hB⟩
    · cases v2.ownBlock <;> simp
    · rw [hA.ow.scal scal_EInt] at hb; exact hs b (by simpa using hb)

end Go.Proofs.Ytgogcgkocjpgoaa
/- Walks of the reference's small functions on slices of numbers. -/
namespace Go.Proofs.Ytgogcgkocjpgoaa
open Go.RowKit
theorem l1Own_c (v : Value) (xs : List Int) (F : List Nat) (w : World) (h : Sl EInt w v xs F) (hm : xs.length ≤ 4294967296) :
    Calls Try.prog 58 #[v] w (RetNew EInt 3 xs w) := by
  obtain ⟨ao, c, news, Fy, rfl, hl, hfy, hFy, hsrc⟩ := h.src
  have hFl := hfy.lt
  have hsrc2 : (ao = none ∧ c = 0 ∧ xs = []) ∨ ∃ ad, ao = some ad ∧ ∀ j u, news[j]? = some u → (w.alloc (.cells #[] 3)).cell? (ad.add j) = some u := by
    rcases hsrc with h | ⟨ad, h1, h2⟩
    · exact .inl h
    · exact .inr ⟨ad, h1, fun j u hu => kc ((Below.refl _ _).alloc (Nat.le_refl _) _) (h2 j u hu)⟩
  go_enter Try.func58, Try.ntmps58
  go_wp2_with (at_builtin; refine wpList_apd one_EInt (by decide) (by rfl) _ _ _ (by rfl) 3 (.int .i64 0) 8 Try.underlying25 info_int rfl (.slice (some ⟨w.heap.size, 0, none⟩) 0 0) [] [w.heap.size] (by rfl) (Ow.empty (Row.made _ _ _)) (Hd.one _) ao xs c (by rfl) news Fy (hfy.frame fun b hb => Below.heap_alloc _ _ _ (hFl b hb)) hsrc2 (fun b hb e => by have := hFl b hb; simp [Value.ownBlock] at e; omega) (by simpa using hl) (by unfold maxLen at hl; simp; omega) ?_)
  intro v2 w2 F2 hA
  go_wp2_with fail
  go_ret
  have hB : Below w.heap.size w w2 := ((Below.refl _ _).alloc (Nat.le_refl _) _).trans (hA.keep.below (by simp) (by simp))
  have hs : ∀ b, v2.ownBlock = some b → w.heap.size ≤ b := fun b hb => by rcases hA.same with e | e <;> rw [e] at hb <;> simp [Value.ownBlock] at hb <;> omega
  refine ⟨v2, F2, rfl, by simpa using hA.ow, hA.ow.scal scal_EInt ▸ ?_, fun b hb => ?_, hB⟩
  · cases v2.ownBlock <;> simp
  · rw [hA.ow.scal scal_EInt] at hb; exact hs b (by simpa using hb)
end Go.Proofs.Ytgogcgkocjpgoaa
/- Walks: copies of an element. -/
namespace Go.Proofs.Ytgogcgkocjpgoaa
open Go.RowKit
set_option maxHeartbeats 1600000 in
theorem Element_clone_c (v : Value) (e : Element) (F : List Nat) (w : World) (h : IsV EElement w v e F) (hm : e.entries.length ≤ 4294967296) (hm2 : ∀ x ∈ e.entries, x.faces.length ≤ 4294967296) :
    Calls Try.prog 38 #[v] w (RetV OElement e w) := by
  obtain ⟨_, rfl, v1, rfl, h1⟩ := h
  obtain ⟨a, cap, rfl⟩ := h1.slice
  have hl := h1.len
  unfold maxLen at hl
  have hB0 : ∀ A B : Obj, Below w.heap.size w ((w.alloc A).alloc B) := fun A B => ((Below.refl _ _).alloc (Nat.le_refl _) _).alloc (by simp) _
  have hFl := h1.lt (by decide)
  go_enter Try.func38, Try.ntmps38
  go_wp2_with fail
  refine (Clone_Entry _ e.entries F _ (h1.below (by decide) (hB0 _ _)) hm).mono ?_
  rintro e' w1 ⟨v2, F2, rfl, ho, hd, hs, hF2, hb1⟩
  obtain ⟨a2, cap2, rfl⟩ := ho.slice
  have r0 := Row.below (g := w.heap.size) (t := 29) (cs := [.int .i64 e.clock, .slice a e.entries.length cap]) (by simp [row_alloc] <;> omega) hb1
  have r1 := Row.below (g := w.heap.size + 1) (t := 29) (cs := [.int .i64 0, .slice none 0 0]) (by simp [row_alloc] <;> omega) hb1
  have hB := tr (hB0 _ _) hb1 (Nat.le_refl _)
  have hm1 := Lib.hid (Mix.start (O := OEntry) (R := EEntry) (B1 := w.heap.size) (B0 := w.heap.size + 2) rfl ho (by simpa using hs) (fun b hb => (hF2 b hb).imp id fun hb => hFl b hb) hd)
  have c0 := r0.cells; have f0 := r0.frozens
  have f1 := r1.frozens; have c1 := r1.cells
  clear hb1 ho hs hd hF2
  go_wp2_with fail
  have R0 := r0.set 1 (.slice a2 e.entries.length cap2)
  have R1 := r1.setOther (p := ⟨w.heap.size, 1, none⟩) (by simp) (.slice a2 e.entries.length cap2)
  have M1 := Lib.hid (hm1.out.setFar (p := ⟨w.heap.size, 1, none⟩) (Nat.le_refl _) (by simp) (.slice a2 e.entries.length cap2))
  clear hm1
  go_loopw [3, 11] (fun _ i wr => ∃ k : Nat, k ≤ e.entries.length ∧ i = .int .i64 k ∧ Hid (Mix OEntry EEntry 74 w.heap.size (w.heap.size + 2) wr (.slice a2 e.entries.length cap2) e.entries k) ∧ Row wr w.heap.size 29 [.int .i64 e.clock, .slice a2 e.entries.length cap2] ∧ Row wr (w.heap.size + 1) 29 [.int .i64 0, .slice none 0 0] ∧ Below w.heap.size w wr) (fun _ i _ => e.entries.length - (intOf i).toNat)
  case atStart => exact ⟨0, Nat.zero_le _, rfl, M1, by simpa using R0, R1, hB.setCell (Nat.le_refl _) _⟩
  case round =>
    obtain ⟨k, hk, rfl, hM, hr, hr1, hB⟩ := hrel
    have c0 := hr.cells; have f0 := hr.frozens
    have hsz := hr1.lt
    by_cases hlt : k < e.entries.length
    · obtain ⟨g, cap3, A, c, B, Fk, hv, hg, hrow, hA, hcl, hx, -, back⟩ := hM.out.at rfl hlt (by omega) (by omega)
      cases hv
      obtain ⟨u1, rfl, hf⟩ := id hx
      obtain ⟨fa, fc, rfl⟩ := hf.slice
      have a1 := hrow.cellMid (p := k * 3 + 1) (j := 1) (by rw [hA]; rfl) (by simp)
      simp only [List.getElem?_cons_zero, List.getElem?_cons_succ] at a1
      have hne : ¬ g = w.heap.size := by omega
      have hne2 : ¬ w.heap.size = g := by omega
      have hbk := Lib.hid back
      clear back
      have hfl := hm2 e.entries[k] (List.getElem_mem _)
      go_wp2_with fail
      go_region_law (first | (go_simp; go_at_call 55; refine (Clone_Int _ e.entries[k].faces Fk wr.drew (hf.frame fun _ _ => rfl) hfl).mono ?_; rintro e' w2 ⟨v3, F3, rfl, o3, n3, g3, hb2⟩; obtain ⟨d3, p3, rfl⟩ := o3.slice; have z3 := kc hb2 (show wr.drew.cell? ⟨w.heap.size, 1, none⟩ = some (.slice (some ⟨g, 0, none⟩) e.entries.length cap2) by simpa using c0 1); have z1 := kc hb2 (by simpa using a1); have zf := ((show Row wr.drew g 74 _ from hrow).below hb2).frozens (k * 3 + 1)))
      all_goals
        have hr2 := ((show Row wr.drew w.heap.size 29 _ from hr).below hb2).setOther (p := ⟨g, k * 3 + 1, none⟩) hne (.slice d3 e.entries[k].faces.length p3)
        have hr3 := ((show Row wr.drew (w.heap.size + 1) 29 _ from hr1).below hb2).setOther (p := ⟨g, k * 3 + 1, none⟩) (by simp; omega) (.slice d3 e.entries[k].faces.length p3)
        have hro := ((show Row wr.drew g 74 _ from hrow).below hb2).setMid (p := k * 3 + 1) (j := 1) (by rw [hA]; rfl) (by simp) (.slice d3 e.entries[k].faces.length p3)
        have hg3 : ∀ b ∈ F3, wr.heap.size ≤ b := g3
        have hgs := hrow.lt
        have hMk := Lib.hid (hbk.out _ _ F3 hro ⟨_, rfl, o3.setFar (fun hm => by have := hg3 _ hm; simp at this; omega) _⟩ n3 hg3 (fun b hb hbg => (Below.heap_setCell _ _ _ _ hbg).trans (hb2.block b hb)))
        have hB3 : Below w.heap.size w (w2.setCell ⟨g, k * 3 + 1, none⟩ (.slice d3 e.entries[k].faces.length p3)) := (tr (belowDrewN hB 1) hb2 (Nat.le_refl _)).setCell (by simp; omega) _
        go_wp2_with fail
        exact ⟨⟨k + 1, by omega, by go_num, hMk, hr2, hr3, hB3⟩, by simp [intOf]; omega⟩
    · have hk : k = e.entries.length := by omega
      subst hk
      obtain ⟨F4, o4, n4, g4⟩ := hM.out.done
      have O4 := Lib.hid o4
      clear hM o4
      have d1 := hr1.cells; have fd := hr1.frozens
      go_wp2_with fail
      refine bodyPost_ret (v := .agg #[.int .i64 e.clock, .slice a2 e.entries.length cap2]) ?_ rfl ?_
      · simp [results, Try.results38, go_sem, c0, d1, fd]
      · refine ⟨_, F4, rfl, ⟨_, rfl, _, rfl, ?_⟩, n4, fun b hb => by have := g4 b hb; omega, ?_⟩
        · repeat refine Ow.setFar ?_ (fun hm => by have := g4 _ hm; simp at this <;> omega) _
          exact O4.out
        · repeat refine Below.setCell ?_ (by simp <;> omega) _
          exact hB
end Go.Proofs.Ytgogcgkocjpgoaa
/- Walks: the reference's copy of an element. -/
namespace Go.Proofs.Ytgogcgkocjpgoaa
open Go.RowKit
set_option maxHeartbeats 1600000 in
theorem l14Own_c (v : Value) (e : Element) (F : List Nat) (w : World) (h : IsV EElement w v e F) (hm : e.entries.length ≤ 4294967296) (hm2 : ∀ x ∈ e.entries, x.faces.length ≤ 4294967296) :
    Calls Try.prog 63 #[v] w (RetV OElement e w) := by
  obtain ⟨_, rfl, v1, rfl, h1⟩ := h
  obtain ⟨a, cap, rfl⟩ := h1.slice
  have hl := h1.len
  unfold maxLen at hl
  have hB0 : ∀ A B C : Obj, Below w.heap.size w (((w.alloc A).alloc B).alloc C) := fun A B C => (((Below.refl _ _).alloc (Nat.le_refl _) _).alloc (by simp) _).alloc (by simp <;> omega) _
  go_enter Try.func63, Try.ntmps63
  go_wp2_with fail
  go_loopw [4, 5] (fun i _ wr => ∃ k : Nat, k ≤ e.entries.length ∧ i = .int .i64 k ∧ ∃ oa oc F, Hid (Ow OEntry 74 wr (.slice oa k oc) (e.entries.take k) F) ∧ F.Nodup ∧ (∀ b ∈ F, w.heap.size + 1 + 1 < b) ∧
    Row wr w.heap.size 29 [.int .i64 e.clock, .slice a e.entries.length cap] ∧ Row wr (w.heap.size + 1) 29 [.int .i64 0, .slice none 0 0] ∧ Row wr (w.heap.size + 1 + 1) 29 [.int .i64 e.clock, .slice oa k oc] ∧ Below w.heap.size w wr) (fun i _ _ => e.entries.length - (intOf i).toNat)
  case atStart => exact ⟨0, Nat.zero_le _, rfl, none, 0, [], Lib.hid (.inl ⟨rfl, by simp, rfl⟩), by simp, by simp, by simp [row_alloc] <;> omega, by simp [row_alloc] <;> omega, by simp [row_alloc] <;> omega, hB0 _ _ _⟩
  case round =>
    obtain ⟨k, hk, rfl, oa, oc, F2, ho, hn2, hF2, hr, hr1, hr2, hB⟩ := hrel
    have c0 := hr.cells
    have hsz := hr2.lt
    by_cases hlt : k < e.entries.length
    · obtain ⟨b, off, _, F1, rfl, hx, -, ja⟩ := (h1.below (by decide) hB).at k hlt
      obtain ⟨u1, rfl, hf⟩ := id hx
      obtain ⟨fa, fc, rfl⟩ := hf.slice
      have a0 := ja 0 (by decide)
      have a1 := ja 1 (by decide)
      have a2 := ja 2 (by decide)
      simp only [show EEntry.sz = 3 from rfl, Nat.add_zero, List.getElem?_cons_zero, List.getElem?_cons_succ] at a0 a1 a2
      clear ja
      have hfl := hm2 e.entries[k] (List.getElem_mem _)
      have hAl := fun A : Obj => (Below.refl wr.heap.size wr).alloc (Nat.le_refl _) A
      have hB1 := fun A : Obj => tr hB (hAl A) (Nat.le_refl _)
      have hlF := ho.out.lt
      go_wp2_with fail
      have H0 := hr.alloc (.cells #[.int .i64 e.entries[k].number, .slice fa e.entries[k].faces.length fc, .int .i64 e.entries[k].untl] 74)
      have H1 := hr1.alloc (.cells #[.int .i64 e.entries[k].number, .slice fa e.entries[k].faces.length fc, .int .i64 e.entries[k].untl] 74)
      have H2 := hr2.alloc (.cells #[.int .i64 e.entries[k].number, .slice fa e.entries[k].faces.length fc, .int .i64 e.entries[k].untl] 74)
      have Q := Row.made wr 74 [.int .i64 e.entries[k].number, .slice fa e.entries[k].faces.length fc, .int .i64 e.entries[k].untl]
      have O1 := Lib.hid (ho.out.below (hAl (.cells #[.int .i64 e.entries[k].number, .slice fa e.entries[k].faces.length fc, .int .i64 e.entries[k].untl] 74)))
      have hf1 := hf.below (by decide) (hAl (.cells #[.int .i64 e.entries[k].number, .slice fa e.entries[k].faces.length fc, .int .i64 e.entries[k].untl] 74))
      have hB2 := hB1 (.cells #[.int .i64 e.entries[k].number, .slice fa e.entries[k].faces.length fc, .int .i64 e.entries[k].untl] 74)
      have hs1 : wr.heap.size < (wr.alloc (.cells #[.int .i64 e.entries[k].number, .slice fa e.entries[k].faces.length fc, .int .i64 e.entries[k].untl] 74)).heap.size := by simp
      generalize wr.alloc (.cells #[.int .i64 e.entries[k].number, .slice fa e.entries[k].faces.length fc, .int .i64 e.entries[k].untl] 74) = w1 at *
      have q0 := Q.cells; have t1 := H2.cells 1
      simp only [List.getElem?_cons_zero, List.getElem?_cons_succ] at t1
      have hown := O1.out.own_mem
      have hne : ¬ wr.heap.size = w.heap.size + 1 + 1 := by omega
      have hne2 : ¬ w.heap.size + 1 + 1 = wr.heap.size := by omega
      have htl : (e.entries.take k).length = k := by simp; omega
      have hks : k + 1 ≤ 4294967296 := by omega
      clear hr hr1 hr2 hx hf ho hAl hB1 c0 a0 a1 a2
      have hS0 : (fun w' => w'.cell? ⟨wr.heap.size, 0, none⟩ = some (.int .i64 e.entries[k].number) ∧ w'.cell? ⟨wr.heap.size, 1, none⟩ = some (.slice fa e.entries[k].faces.length fc) ∧ w'.cell? ⟨wr.heap.size, 2, none⟩ = some (.int .i64 e.entries[k].untl) ∧ w'.cell? ⟨w.heap.size + 1 + 1, 1, none⟩ = some (.slice oa k oc)) w1.drew := ⟨by simpa using q0 0, by simpa using q0 1, by simpa using q0 2, t1⟩
      refine AnyX.start (S := (fun w' => w'.cell? ⟨wr.heap.size, 0, none⟩ = some (.int .i64 e.entries[k].number) ∧ w'.cell? ⟨wr.heap.size, 1, none⟩ = some (.slice fa e.entries[k].faces.length fc) ∧ w'.cell? ⟨wr.heap.size, 2, none⟩ = some (.int .i64 e.entries[k].untl) ∧ w'.cell? ⟨w.heap.size + 1 + 1, 1, none⟩ = some (.slice oa k oc))) (X := fun i => i == 13) (by kernel_rfl) ?_
      refine AnyX.take (i := 0) (oi := _) (v := ?_) rfl (by kernel_rfl) (by kernel_rfl) (by kernel_rfl) (by kernel_rfl) (by kernel_rfl) (fun _ _ _ h => h) (Or.inl ⟨by rfl, ?_⟩) (by assumption) ?_
      rotate_left
      · (intro wS hSw; (try dsimp only at hSw); go_simp; try with_reducible rfl)
      try simp only [Act.put, List.setIfInBounds_toArray, List.set_cons_zero, List.set_cons_succ]
      refine AnyX.take (i := 1) (oi := _) (v := ?_) rfl (by kernel_rfl) (by kernel_rfl) (by kernel_rfl) (by kernel_rfl) (by kernel_rfl) (fun _ _ _ h => h) (Or.inl ⟨by rfl, ?_⟩) (by assumption) ?_
      rotate_left
      · (intro wS hSw; (try dsimp only at hSw); go_simp; try with_reducible rfl)
      try simp only [Act.put, List.setIfInBounds_toArray, List.set_cons_zero, List.set_cons_succ]
      refine AnyX.take (i := 2) (oi := _) (v := ?_) rfl (by kernel_rfl) (by kernel_rfl) (by kernel_rfl) (by kernel_rfl) (by kernel_rfl) (fun _ _ _ h => h) (Or.inl ⟨by rfl, ?_⟩) (by assumption) ?_
      rotate_left
      · (intro wS hSw; (try dsimp only at hSw); go_simp; try with_reducible rfl)
      try simp only [Act.put, List.setIfInBounds_toArray, List.set_cons_zero, List.set_cons_succ]
      refine AnyX.take (i := 3) (oi := _) (v := ?_) rfl (by kernel_rfl) (by kernel_rfl) (by kernel_rfl) (by kernel_rfl) (by kernel_rfl) (fun _ _ _ h => h) (Or.inl ⟨by rfl, ?_⟩) (by assumption) ?_
      rotate_left
      · (intro wS hSw; (try dsimp only at hSw); go_simp; try with_reducible rfl)
      try simp only [Act.put, List.setIfInBounds_toArray, List.set_cons_zero, List.set_cons_succ]
      refine AnyX.take (i := 4) (oi := _) (v := ?_) rfl (by kernel_rfl) (by kernel_rfl) (by kernel_rfl) (by kernel_rfl) (by kernel_rfl) (fun _ _ _ h => h) (Or.inl ⟨by rfl, ?_⟩) (by assumption) ?_
      rotate_left
      · (intro wS hSw; (try dsimp only at hSw); go_simp; try with_reducible rfl)
      try simp only [Act.put, List.setIfInBounds_toArray, List.set_cons_zero, List.set_cons_succ]
      refine AnyX.take (i := 5) (oi := _) (v := ?_) rfl (by kernel_rfl) (by kernel_rfl) (by kernel_rfl) (by kernel_rfl) (by kernel_rfl) (fun _ _ _ h => h) (Or.inl ⟨by rfl, ?_⟩) (by assumption) ?_
      rotate_left
      · (intro wS hSw; (try dsimp only at hSw); go_simp; try with_reducible rfl)
      try simp only [Act.put, List.setIfInBounds_toArray, List.set_cons_zero, List.set_cons_succ]
      refine AnyX.take (i := 7) (oi := _) (v := ?_) rfl (by kernel_rfl) (by kernel_rfl) (by kernel_rfl) (by kernel_rfl) (by kernel_rfl) (fun _ _ _ h => h) (Or.inl ⟨by rfl, ?_⟩) (by assumption) ?_
      rotate_left
      · (intro wS hSw; (try dsimp only at hSw); go_simp; try with_reducible rfl)
      try simp only [Act.put, List.setIfInBounds_toArray, List.set_cons_zero, List.set_cons_succ]
      refine AnyX.take (i := 8) (oi := _) (v := ?_) rfl (by kernel_rfl) (by kernel_rfl) (by kernel_rfl) (by kernel_rfl) (by kernel_rfl) (fun _ _ _ h => h) (Or.inl ⟨by rfl, ?_⟩) (by assumption) ?_
      rotate_left
      · (intro wS hSw; (try dsimp only at hSw); go_simp; try with_reducible rfl)
      try simp only [Act.put, List.setIfInBounds_toArray, List.set_cons_zero, List.set_cons_succ]
      refine AnyX.only (i := 6) (o := _) (by kernel_rfl) rfl (fun K hK => ?_)
      go_simp
      go_at_call 58; refine (l1Own_c _ e.entries[k].faces F1 w1.drew (hf1.frame fun _ _ => rfl) hfl).mono ?_; rintro e' w2 ⟨v3, F3, rfl, o3, n3, g3, hb2⟩; obtain ⟨d3, p3, rfl⟩ := o3.slice; have H2b := (show Row w1.drew (w.heap.size + 1 + 1) 29 _ from H2).below hb2; have t2 := H2b.cells 1; have t3 := fun A => (H2b.alloc A).cells 1; have Q2 := (show Row w1.drew wr.heap.size 74 _ from Q).below hb2; simp only [List.getElem?_cons_zero, List.getElem?_cons_succ] at t2 t3
      refine hK.out _ _ (fun _ => ?_) ?_
      · exact ⟨kc hb2 (by simpa using q0 0), kc hb2 (by simpa using q0 1), kc hb2 (by simpa using q0 2), t2⟩
      clear hK K
      try simp only [Act.put, List.setIfInBounds_toArray, List.set_cons_zero, List.set_cons_succ]
      have hS2 : (fun w' => w'.cell? ⟨wr.heap.size, 0, none⟩ = some (.int .i64 e.entries[k].number) ∧ w'.cell? ⟨wr.heap.size, 1, none⟩ = some (.slice fa e.entries[k].faces.length fc) ∧ w'.cell? ⟨wr.heap.size, 2, none⟩ = some (.int .i64 e.entries[k].untl) ∧ w'.cell? ⟨w.heap.size + 1 + 1, 1, none⟩ = some (.slice oa k oc)) w2 := ⟨kc hb2 (by simpa using q0 0), kc hb2 (by simpa using q0 1), kc hb2 (by simpa using q0 2), t2⟩
      have q6 := fun A => (Q2.alloc A).cells
      refine AnyX.take (i := 9) (oi := _) (v := ?_) rfl (by kernel_rfl) (by kernel_rfl) (by kernel_rfl) (by kernel_rfl) (by kernel_rfl) (fun _ _ _ h => h) (Or.inl ⟨by rfl, ?_⟩) (by assumption) ?_
      rotate_left
      · (intro wS hSw; (try dsimp only at hSw); go_simp; try with_reducible rfl)
      try simp only [Act.put, List.setIfInBounds_toArray, List.set_cons_zero, List.set_cons_succ]
      refine AnyX.only (i := 10) (o := _) (by kernel_rfl) rfl (fun K hK => ?_)
      go_simp
      refine hK.out _ _ (fun _ => ?_) ?_
      · exact ⟨by simpa using q6 _ 0, by simpa using q6 _ 1, by simpa using q6 _ 2, t3 _⟩
      clear hK K
      try simp only [Act.put, List.setIfInBounds_toArray, List.set_cons_zero, List.set_cons_succ]
      refine AnyX.only (i := 11) (o := _) (by kernel_rfl) rfl (fun K hK => ?_)
      refine step_apd one_OEntry (by decide) (by rfl) _ _ _ (by rfl) 74 (.agg #[.int .i64 0, .slice none 0 0, .int .i64 0]) 40 Try.underlying27 info_Entry rfl (.slice oa k oc) (e.entries.take k) F2 (by rfl) ((O1.out.frame (w' := w1.drew) fun _ _ => rfl).below (hb2.alloc hb2.size _)) (Hd.of hn2) (some ⟨w2.heap.size, 0, none⟩) [e.entries[k]] 1 (by rfl) [.int .i64 e.entries[k].number, .slice d3 e.entries[k].faces.length p3, .int .i64 e.entries[k].untl] F3 (Flat.one ⟨_, rfl, o3.below ((Below.refl _ _).alloc (Nat.le_refl _) _)⟩) (.inr ⟨_, rfl, World.news_of_block (heap_alloc_new w2 _)⟩) (fun b hb he => by have h1 := hown b he; have h2 := O1.out.lt b h1; have h3 := g3 b hb; exact Nat.lt_irrefl _ (Nat.lt_of_lt_of_le h2 h3)) (by unfold maxLen; rw [htl]; simp; omega) (by rw [htl]; simp; omega) ?_
      intro v4 w4 F4 hA; obtain ⟨oa2, oc2, rfl⟩ := hA.val; rw [htl];  have H4 := (H2b.alloc (.cells #[.int .i64 e.entries[k].number, .slice d3 e.entries[k].faces.length p3, .int .i64 e.entries[k].untl] 74)).keepK hA.keep (fun hm => Nat.lt_irrefl _ (hF2 _ hm)); have q4 := ((Q2.alloc (.cells #[.int .i64 e.entries[k].number, .slice d3 e.entries[k].faces.length p3, .int .i64 e.entries[k].untl] 74)).keepK hA.keep (fun hm => by have := hlF _ hm; omega)).cells; have t4 := H4.cells 1; have f4 := H4.frozens 1; simp only [List.getElem?_cons_zero, List.getElem?_cons_succ] at t4
      refine hK.out _ _ (fun _ => ?_) ?_
      · exact ⟨by simpa using q4 0, by simpa using q4 1, by simpa using q4 2, t4⟩
      clear hK K
      try simp only [Act.put, List.setIfInBounds_toArray, List.set_cons_zero, List.set_cons_succ]
      have hS4 : (fun w' => w'.cell? ⟨wr.heap.size, 0, none⟩ = some (.int .i64 e.entries[k].number) ∧ w'.cell? ⟨wr.heap.size, 1, none⟩ = some (.slice fa e.entries[k].faces.length fc) ∧ w'.cell? ⟨wr.heap.size, 2, none⟩ = some (.int .i64 e.entries[k].untl) ∧ w'.cell? ⟨w.heap.size + 1 + 1, 1, none⟩ = some (.slice oa k oc)) w4 := ⟨by simpa using q4 0, by simpa using q4 1, by simpa using q4 2, t4⟩
      refine AnyX.take (i := 12) (oi := _) (v := ?_) rfl (by kernel_rfl) (by kernel_rfl) (by kernel_rfl) (by kernel_rfl) (by kernel_rfl) (fun _ _ _ h => h) (Or.inl ⟨by rfl, ?_⟩) (by assumption) ?_
      rotate_left
      · (intro wS hSw; (try dsimp only at hSw); go_simp; try with_reducible rfl)
      try simp only [Act.put, List.setIfInBounds_toArray, List.set_cons_zero, List.set_cons_succ]
      refine AnyX.only (i := 13) (o := _) (by kernel_rfl) rfl (fun K hK => ?_)
      go_simp
      refine hK.out _ _ (fun h => by cases h) ?_
      clear hK K
      try simp only [Act.put, List.setIfInBounds_toArray, List.set_cons_zero, List.set_cons_succ]
      refine AnyX.done (by kernel_rfl) ?_ _
      have hz2 : w1.heap.size ≤ w2.heap.size := hb2.size
      have hO4 := hA.ow
      rw [htl, ← List.take_succ_eq_append_getElem hlt] at hO4
      have hF4 : ∀ b ∈ F4, w.heap.size + 1 + 1 < b := fun b hb => by
        rcases hA.mem b hb with h | h | h
        · exact hF2 b h
        · have h3 : w1.heap.size ≤ b := g3 b h; omega
        · simp at h; omega
      have hO5 := Lib.hid (hO4.setFar (p := ⟨w.heap.size + 1 + 1, 1, none⟩) (fun hm => Nat.lt_irrefl _ (hF4 _ hm)) (.slice oa2 (k + 1) oc2))
      have hn4 := hA.nodup hn2 n3 (fun b hb hm => by have h2 := O1.out.lt b hm; have h3 := g3 b hb; exact Nat.lt_irrefl _ (Nat.lt_of_lt_of_le h2 h3))
      have G0 := (((show Row w1.drew w.heap.size 29 _ from H0).below hb2).alloc (.cells #[.int .i64 e.entries[k].number, .slice d3 e.entries[k].faces.length p3, .int .i64 e.entries[k].untl] 74)).keepK hA.keep (fun hm => by have := hF2 _ hm; omega)
      have G1 := (((show Row w1.drew (w.heap.size + 1) 29 _ from H1).below hb2).alloc (.cells #[.int .i64 e.entries[k].number, .slice d3 e.entries[k].faces.length p3, .int .i64 e.entries[k].untl] 74)).keepK hA.keep (fun hm => by have := hF2 _ hm; omega)
      have L0 := G0.setOther (p := ⟨w.heap.size + 1 + 1, 1, none⟩) (by simp; omega) (.slice oa2 (k + 1) oc2)
      have L1 := G1.setOther (p := ⟨w.heap.size + 1 + 1, 1, none⟩) (by simp) (.slice oa2 (k + 1) oc2)
      have L2 := H4.set 1 (.slice oa2 (k + 1) oc2)
      have hB5 : Below w.heap.size w (w4.setCell ⟨w.heap.size + 1 + 1, 1, none⟩ (.slice oa2 (k + 1) oc2)) :=
        Below.setCell (((tr (belowDrewN hB2 1) hb2 (Nat.le_refl _)).alloc (by omega) _).trans (hA.keep.below (by simp; omega) (fun b hb => by have := hF2 b hb; omega))) (by simp <;> omega) _
      clear hA hO4 G0 G1 H4
      go_wp2_with fail
      exact ⟨⟨k + 1, by omega, by go_num, oa2, oc2, F4, hO5, hn4, hF4, L0, L1, by simpa using L2, hB5⟩, by simp [intOf]; omega⟩
    · have hk : k = e.entries.length := by omega
      subst hk
      have hO := Lib.hid (show Ow OEntry 74 wr (.slice oa e.entries.length oc) e.entries F2 by simpa using ho.out)
      clear ho
      have c1 := hr1.cells; have c2 := hr2.cells; have f1 := hr1.frozens
      go_wp2_with fail
      refine bodyPost_ret (v := .agg #[.int .i64 e.clock, .slice oa e.entries.length oc]) ?_ rfl ?_
      · simp [results, Try.results63, go_sem, c1, c2, f1]
      · refine ⟨_, F2, rfl, ⟨_, rfl, _, rfl, ?_⟩, hn2, fun b hb => by have := hF2 b hb; omega, ?_⟩
        · repeat refine Ow.setFar ?_ (fun hm => by have := hF2 _ hm; simp at this <;> omega) _
          exact hO.out
        · repeat refine Below.setCell ?_ (by simp <;> omega) _
          exact hB
end Go.Proofs.Ytgogcgkocjpgoaa
/- Walks: a tick of an element. -/
namespace Go.Proofs.Ytgogcgkocjpgoaa
open Go.RowKit
end Go.Proofs.Ytgogcgkocjpgoaa
/- Walks: TickElement, the program's and the reference's. -/
namespace Go.Proofs.Ytgogcgkocjpgoaa
open Go.RowKit
theorem rising_len {lo hi : Int} {zs : List Int} (h : rising lo hi zs = true) : (zs.length : Int) ≤ hi - lo + 1 ∨ zs = [] := by
  by_cases h0 : zs = []
  · exact .inr h0
  · left
    have key : ∀ i (hi' : i < zs.length), lo + i ≤ zs[i] ∧ zs[i] ≤ hi := by
      intro i
      induction i with
      | zero =>
        intro hi'
        have := allUpTo_get h 0 hi'
        rw [risAt_zero hi'] at this
        simp [btw] at this
        simpa using this
      | succ i ih =>
        intro hi'
        have := allUpTo_get h (i + 1) hi'
        rw [risAt_succ hi'] at this
        have := ih (by omega)
        simp [btw] at *
        omega
    have hp := List.length_pos_iff.2 h0
    have := key (zs.length - 1) (by omega)
    omega
theorem good_room {e : Element} (h : goodElement e = true) : isClk e.clock = true ∧ e.entries.length ≤ 5 ∧ ∀ x ∈ e.entries, x.faces.length ≤ 7 := by
  unfold goodElement at h
  simp only [Bool.and_eq_true, decide_eq_true_eq] at h
  refine ⟨h.1.1, h.1.2, fun x hx => ?_⟩
  obtain ⟨i, hi, rfl⟩ := List.getElem_of_mem hx
  have := allUpTo_get h.2 i hi
  rw [entAt_of hi] at this
  simp [okEntry] at this
  rcases rising_len this.1.2.2.1 with h | h
  · omega
  · rw [h]; simp
end Go.Proofs.Ytgogcgkocjpgoaa
/- Elements: what requests and repairs bring; plain laws. -/
namespace Go.Proofs.Ytgogcgkocjpgoaa
open Go.RowKit
/-- the place of a number in a rising list -/
def placeI (l : List Int) (n : Int) : Nat := (l.takeWhile fun x => decide (x < n)).length
/-- a number put to its place, once -/
def putI (l : List Int) (n : Int) : List Int := if l[placeI l n]? = some n then l else l.take (placeI l n) ++ n :: l.drop (placeI l n)
/-- where the entry for a serial stands -/
def atE (e : Element) (n : Int) : Nat := e.entries.findIdx fun x => x.number == n
def reqE (e : Element) (n f : Int) : Element := match e.entries[atE e n]? with
  | some x => ⟨e.clock, e.entries.set (atE e n) ⟨x.number, putI x.faces f, x.untl⟩⟩
  | none => if e.entries.length < 5 then ⟨e.clock, e.entries ++ [⟨n, [f], e.clock + 6⟩]⟩ else e
def fwdE (e : Element) (n : Int) : Bool := !e.entries.any fun x => x.number == n
def okTakeRequest (e : Element) (n f : Int) : Bool := goodElement e && isSer n && isFac f
def resTakeRequest (e : Element) (n f : Int) : Element × Bool × Bool := if okTakeRequest e n f then (reqE e n f, fwdE e n, true) else (⟨0, []⟩, false, false)
theorem resTakeRequest_no {e : Element} {n f : Int} (h : okTakeRequest e n f = false) : resTakeRequest e n f = (⟨0, []⟩, false, false) := by unfold resTakeRequest; rw [h]; rfl
theorem resTakeRequest_yes {e : Element} {n f : Int} (h : okTakeRequest e n f = true) : resTakeRequest e n f = (reqE e n f, fwdE e n, true) := by unfold resTakeRequest; rw [h]; rfl
/-- there is an entry, or there is none -/
theorem findE_or (e : Element) (n : Int) : (∃ (h : atE e n < e.entries.length), fidx (fun x => x.number == n) e.entries = (atE e n : Nat) ∧ e.entries[atE e n].number = n ∧ fwdE e n = false) ∨ (fidx (fun x => x.number == n) e.entries = -1 ∧ e.entries[atE e n]? = none ∧ fwdE e n = true ∧ ∀ x ∈ e.entries, x.number ≠ n) := by
  cases h : e.entries.any fun x => x.number == n
  · right
    have h' := List.any_eq_false.1 h
    refine ⟨by unfold fidx; rw [h]; rfl, ?_, by simp [fwdE, h], fun x hx => by have := h' x hx; simpa using this⟩
    have : atE e n = e.entries.length := List.findIdx_eq_length.2 (fun x hx => by have := h' x hx; simpa using this)
    rw [this]; simp
  · left
    have h2 : atE e n < e.entries.length := by
      obtain ⟨x, hx, hp⟩ := List.any_eq_true.1 h
      exact List.findIdx_lt_length_of_exists ⟨x, hx, hp⟩
    refine ⟨h2, by unfold fidx; rw [h]; rfl, ?_, by simp [fwdE, h]⟩
    have : (e.entries[atE e n].number == n) = true := List.findIdx_getElem (p := fun x : Entry => x.number == n) (xs := e.entries) (w := h2)
    simpa using this
theorem rising_pw {lo hi : Int} {zs : List Int} (h : rising lo hi zs = true) : zs.Pairwise (· < ·) ∧ ∀ z ∈ zs, lo ≤ z ∧ z ≤ hi := by
  have hb : ∀ i (hi' : i < zs.length), lo ≤ zs[i] ∧ zs[i] ≤ hi := fun i hi' => by
    have := allUpTo_get h i hi'
    unfold risAt btw at this
    simp only [Bool.and_eq_true, decide_eq_true_eq] at this
    rw [List.getD_eq_getElem?_getD, List.getElem?_eq_getElem hi'] at this
    simpa using this.1
  refine ⟨?_, fun z hz => by obtain ⟨i, hi', rfl⟩ := List.getElem_of_mem hz; exact hb i hi'⟩
  have step : ∀ i (hi : i + 1 < zs.length), zs[i] < zs[i + 1] := fun i hi' => by
    have := allUpTo_get h (i + 1) hi'
    rw [risAt_succ hi'] at this
    simp only [Bool.and_eq_true, decide_eq_true_eq] at this
    exact this.2
  refine List.pairwise_iff_getElem.2 fun i j hi' hj hij => ?_
  obtain ⟨d, rfl⟩ : ∃ d, j = i + 1 + d := ⟨j - i - 1, by omega⟩
  clear hij
  induction d with
  | zero => exact step i hj
  | succ d ih => exact Int.lt_trans (ih (by omega)) (step (i + 1 + d) hj)
end Go.Proofs.Ytgogcgkocjpgoaa
/- Elements: finding, lists of numbers. -/
namespace Go.Proofs.Ytgogcgkocjpgoaa
open Go.RowKit
theorem find1_f (x : Entry) (gb : Nat) (n : Int) (u : Value) (G : List Nat) : Fn Try.prog 82 [u, ptr gb 0 0] [.isv EEntry u x G, .cel gb 0 [.int .i64 n]] [] (fun (_ : Unit) => True) (fun _ => .bool (x.number == n)) (fun _ => []) := by
  refine enter Try.func82 rfl Try.ntmps82 fun w0 => ?_
  refine openEntry ?_
  rintro a1 c1 F1 rfl l1
  refine go ?_; intros
  refine ret () trivial ?_
  rfl
theorem Efind_f (e : Element) (n : Int) (v : Value) (F : List Nat) : Fn Try.prog 54 [v, .int .i64 n] [.isv EElement v e F] [] (fun (_ : Unit) => True) (fun _ => .int .i64 (fidx (fun x => x.number == n) e.entries)) (fun _ => []) := by
  refine enter Try.func54 rfl Try.ntmps54 fun w0 => ?_
  refine openElement ?_
  rintro a1 c1 F1 rfl l1
  refine go ?_; intros
  rename_i gb
  refine cb (fun w st => IndexFunc_Entry _ (body_of (by kernel_rfl)) #[ptr gb 0 0] _ e.entries _ (fun x => x.number == n) w (st.get (p := .sl EEntry (.slice a1 e.entries.length c1) e.entries F1) (by simp)).2 (fun k hk wr u G hB hu => (find1_f e.entries[k] gb n u G).val wr (hol2 hu ⟨by simp, row_range ((st.below hB).get (p := .row gb 3 0 [] [.int .i64 n] []) (by simp))⟩))) ?_
  refine go ?_; intros
  refine ret () trivial rfl
theorem l14Find_f (e : Element) (n : Int) (v : Value) (F : List Nat) : Fn Try.prog 57 [v, .int .i64 n] [.isv EElement v e F] [] (fun (_ : Unit) => True) (fun _ => .int .i64 (fidx (fun x => x.number == n) e.entries)) (fun _ => []) := by
  refine enter Try.func57 rfl Try.ntmps57 fun w0 => ?_
  refine openElement ?_
  rintro a1 c1 F1 rfl l1
  unfold maxLen at l1
  refine go ?_; intros
  refine c_loopR [1, 2, 4] (fun k : Nat => [(5, .int .i64 (k : Nat))]) (fun k => k ≤ e.entries.length ∧ ∀ j (_ : j < k) (hj : j < e.entries.length), (e.entries[j].number == n) = false) (fun k => e.entries.length - k) 0 ⟨Nat.zero_le _, fun j h => by omega⟩ fun k hk => ?_
  obtain ⟨hk1, hk2⟩ := hk
  refine go ?_; intros
  refine c_if rfl (fun h1 => ?_) (fun h1 => ?_)
  · have hh : k < e.entries.length := by omega
    refine go ?_; intros
    refine atEntry (xs := e.entries) k ?_
    rintro hi b o a3 c3 F3 e1 l3
    rw [e1]
    refine go ?_; intros
    refine c_if rfl (fun h2 => ?_) (fun h2 => ?_)
    · refine go ?_; intros
      refine ret () trivial ?_
      rw [fidx_hit hh hk2 (by simpa using h2)]; rfl
    · refine go ?_; intros
      refine n_lp (k + 1) ⟨hh, fun j hj hl => ?_⟩ (by omega)
      rcases Nat.lt_or_eq_of_le (Nat.lt_succ_iff.1 hj) with h | rfl
      · exact hk2 j h hl
      · simpa using h2
  · obtain rfl : k = e.entries.length := by omega
    refine go ?_; intros
    refine ret () trivial ?_
    rw [fidx_none (fun j hj => hk2 j hj hj)]; rfl
end Go.Proofs.Ytgogcgkocjpgoaa
/- The first elements that satisfy a test: how many; plain. -/
namespace Go.Proofs.Ytgogcgkocjpgoaa
theorem tw_len {α : Type} {p : α → Bool} : ∀ {xs : List α} {k : Nat}, k ≤ xs.length → (∀ j (_ : j < k) (h : j < xs.length), p xs[j] = true) → (∀ h : k < xs.length, p xs[k] = false) → (xs.takeWhile p).length = k
  | [], k, hk, _, _ => by simp at hk; simp [hk]
  | x :: r, 0, _, _, h2 => by have := h2 (by simp); simp at this; simp [this]
  | x :: r, k + 1, hk, h1, h2 => by
    have hx : p x = true := h1 0 (by omega) (by simp)
    rw [List.takeWhile_cons_of_pos hx, List.length_cons, tw_len (xs := r) (k := k) (by simpa using hk) (fun j hj h => by have := h1 (j + 1) (by omega) (by simpa using h); simpa using this) (fun h => by have := h2 (by simpa using h); simpa using this)]
theorem tw_spec {α : Type} {p : α → Bool} : ∀ {xs : List α}, (xs.takeWhile p).length ≤ xs.length ∧ (∀ j (_ : j < (xs.takeWhile p).length) (h : j < xs.length), p xs[j] = true) ∧ ∀ h : (xs.takeWhile p).length < xs.length, p xs[(xs.takeWhile p).length] = false
  | [] => by simp
  | x :: r => by
    cases hx : p x
    · rw [List.takeWhile_cons_of_neg (by simp [hx])]; simp [hx]
    · rw [List.takeWhile_cons_of_pos hx]
      obtain ⟨h1, h2, h3⟩ := tw_spec (p := p) (xs := r)
      refine ⟨by simpa using h1, fun j hj h => ?_, fun h => ?_⟩
      · cases j with
        | zero => simpa using hx
        | succ j => simpa using h2 j (by simpa using hj) (by simpa using h)
      · simpa using h3 (by simpa using h)
end Go.Proofs.Ytgogcgkocjpgoaa
/- Lists of numbers: searching, inserting, what is there. -/
namespace Go.Proofs.Ytgogcgkocjpgoaa
open Go.RowKit
theorem cNaN_f (n : Int) : Fn Try.prog 90 [.int .i64 n] [] [] (fun (_ : Unit) => True) (fun _ => .bool false) (fun _ => []) := by
  refine enter Try.func90 rfl Try.ntmps90 fun w0 => ?_
  refine go ?_; intros
  refine ret () trivial ?_
  simp [tup]
theorem sNaN_f (n : Int) : Fn Try.prog 87 [.int .i64 n] [] [] (fun (_ : Unit) => True) (fun _ => .bool false) (fun _ => []) := by
  refine enter Try.func87 rfl Try.ntmps87 fun w0 => ?_
  refine go ?_; intros
  refine ret () trivial ?_
  simp [tup]

theorem cLess_f (a b : Int) : Fn Try.prog 86 [.int .i64 a, .int .i64 b] [] [] (fun (_ : Unit) => True) (fun _ => .bool (decide (a < b))) (fun _ => []) := by
  refine enter Try.func86 rfl Try.ntmps86 fun w0 => ?_
  refine go ?_; intros
  refine cf (cNaN_f a) fun _ _ => ?_
  refine t_app ?_
  refine go ?_; intros
  refine ret () trivial rfl
def atPl (l : List Int) (n : Int) : Bool := decide (l[placeI l n]? = some n)
theorem placeI_eq {l : List Int} {n : Int} {k : Nat} (h1 : k ≤ l.length) (h2 : ∀ j (_ : j < k) (h : j < l.length), l[j] < n) (h3 : ∀ h : k < l.length, ¬ l[k] < n) : placeI l n = k := tw_len h1 (fun j hj h => by simpa using h2 j hj h) (fun h => by simpa using h3 h)
set_option maxRecDepth 100000 in
theorem bsInt_f (xs : List Int) (n : Int) (a : Option Addr) (c : Nat) (F : List Nat) (hs : xs.Pairwise (· < ·)) (hl : xs.length ≤ 1000000) : Fn Try.prog 73 [.slice a xs.length c, .int .i64 n] [.sl EInt (.slice a xs.length c) xs F] [] (fun (_ : Unit) => True) (fun _ => .tuple #[.int .i64 (placeI xs n : Nat), .bool (atPl xs n)]) (fun _ => []) := by
  have hm := List.pairwise_iff_getElem.1 hs
  refine enter Try.func73 rfl Try.ntmps73 fun w0 => ?_
  refine go ?_; intros
  refine c_loopR [0, 1, 4, 5, 6] (fun s : Nat × Nat => [(7, .int .i64 (s.1 : Nat)), (8, .int .i64 (s.2 : Nat))]) (fun s => s.1 ≤ s.2 ∧ s.2 ≤ xs.length ∧ (∀ j (_ : j < s.1) (h : j < xs.length), xs[j] < n) ∧ (∀ j (_ : s.2 ≤ j) (h : j < xs.length), ¬ xs[j] < n)) (fun s => s.2 - s.1) (0, xs.length) ⟨Nat.zero_le _, Nat.le_refl _, fun j h => by omega, fun j h1 h2 => by omega⟩ fun s hs => ?_
  obtain ⟨i, j⟩ := s
  obtain ⟨h1, h2, h3, h4⟩ := hs
  dsimp only at h1 h2 h3 h4 ⊢
  refine go ?_; intros
  refine c_if rfl (fun h5 => ?_) (fun h5 => ?_)
  · have hh : (i + j) / 2 < xs.length := by omega
    have e2 : ((i : Int) + (j : Int)) / 2 = (((i + j) / 2 : Nat) : Int) := by omega
    refine go ?_; intros
    apply wO; apply oc; rfl; exact yd_cvu rfl (by omega) (by omega)
    refine go ?_; intros
    apply wO; apply oc; rfl; exact yd_shr1 rfl
    rw [e2]
    apply wO; apply oc; rfl; exact yd_cv rfl (by omega) (by omega)
    generalize hq : (i + j) / 2 = q at hh
    refine go ?_; intros
    refine at_int (xs := xs) q ?_
    rintro hi b o e
    rw [e]
    refine go ?_; intros
    refine cf (cLess_f _ _) fun _ _ => ?_
    refine t_app ?_
    refine go ?_; intros
    refine c_if rfl (fun h6 => ?_) (fun h6 => ?_)
    · refine go ?_; intros
      refine t_drop ?_
      refine n_lp (hH := hsub_refl _) (q + 1, j) ⟨by show q + 1 ≤ j; omega, h2, fun k hk h => ?_, h4⟩ (by show j - (q + 1) < j - i; omega)
      rcases Nat.lt_or_eq_of_le (Nat.lt_succ_iff.1 (show k < q + 1 from hk)) with hk | rfl
      · have := hm k q h hh hk; omega
      · exact h6
    · refine go ?_; intros
      refine t_drop ?_
      refine n_lp (hH := hsub_refl _) (i, q) ⟨by show i ≤ q; omega, by show q ≤ xs.length; omega, h3, fun k hk h hn => h6 ?_⟩ (by show q - i < j - i; omega)
      rcases Nat.lt_or_eq_of_le (show q ≤ k from hk) with hk | rfl
      · have := hm q k hh h hk; omega
      · exact hn
  · have hij : i = j := by omega
    subst hij
    have hk : placeI xs n = i := placeI_eq h2 h3 (fun h => h4 i (Nat.le_refl _) h)
    unfold atPl
    rw [hk]
    refine go ?_; intros
    refine wg_if rfl rfl (fun h6 => ?_) (fun h6 => ?_)
    · have hh : i < xs.length := by omega
      rw [List.getElem?_eq_getElem hh]
      refine go ?_; intros
      refine at_int (xs := xs) i ?_
      rintro hi b o e
      rw [e]
      refine go ?_; intros
      refine wg_if rfl rfl (fun h7 => ?_) (fun h7 => ?_)
      · refine go ?_; intros
        refine ret () trivial ?_
        rw [decide_eq_true (by simpa using h7)]; rfl
      · refine go ?_; intros
        refine cf (sNaN_f _) fun _ _ => ?_
        refine t_app ?_
        refine go ?_; intros
        refine ret () trivial ?_
        rw [decide_eq_false (by simpa using h7)]; rfl
    · refine go ?_; intros
      refine ret () trivial ?_
      rw [List.getElem?_eq_none (by omega)]; rfl
theorem rep1_Int (y : Int) (w : World) : Flat EInt w [.int .i64 y] [y] [] := ⟨_, [], [], [], by simp, by simp, ⟨rfl, rfl⟩, rfl, rfl⟩
set_option maxRecDepth 100000 in
set_option maxHeartbeats 1000000 in
theorem InsInt_f (xs : List Int) (y : Int) (i : Nat) (a : Option Addr) (c vb : Nat) (F : List Nat) (hi : i ≤ xs.length) (hl : xs.length ≤ 1000000) :
    Fn Try.prog 74 [.slice a xs.length c, .int .i64 i, .slice (some ⟨vb, 0, none⟩) 1 1] [] [.ow EInt 3 (.slice a xs.length c) xs F, .row vb 3 0 [] [.int .i64 y] []] (fun (_ : Option Addr × Nat × List Nat) => True)
      (fun z => .slice z.1 (xs.take i ++ y :: xs.drop i).length z.2.1) (fun z => [.ow EInt 3 (.slice z.1 (xs.take i ++ y :: xs.drop i).length z.2.1) (xs.take i ++ y :: xs.drop i) z.2.2]) := by
  have hone : ∀ w' : World, ∀ cs : List Value, Flat EInt w' cs xs [] → ∀ u ∈ cs, u.oneCell' = true := fun w' cs h => h.one' one_EInt
  have hy := rep1_Int y
  have h1y : ∀ u ∈ ([.int .i64 y] : List Value), u.oneCell' = true := by intro u hu; simp at hu; rcases hu with rfl | rfl | rfl | rfl <;> rfl
  refine enter Try.func74 rfl Try.ntmps74 fun w0 => ?_
  refine t_cap (E := EInt) fun hc1 hc2 => ?_
  refine go ?_; intros
  apply wO
  refine o_slany rfl rfl rfl rfl hi (fun _ => ?_) hc1
  refine go ?_; intros
  refine c_if rfl (fun h1 => ?_) (fun h1 => ?_)
  · have hin : i = xs.length := by omega
    subst hin
    have e : xs.take xs.length ++ y :: xs.drop xs.length = xs ++ [y] := by simp
    refine go ?_; intros
    apply wO
    refine ap1 hy one_EInt fun a2 c2 F2 => ?_
    rw [e]
    refine go ?_; intros
    refine ret (a2, c2, F2) trivial rfl
  · have hlt : i < xs.length := by omega
    refine t_rowof (xs := xs) scal_EInt (by rintro rfl; simp at hlt) ?_
    rintro g cs rest rfl - - - hcl hcr hfl
    rw [show EInt.sz = 1 from rfl] at hcl hcr
    have h1c := hone w0 cs (hfl w0)
    obtain ⟨A, B, hcs, hA, hB⟩ : ∃ A B, cs = A ++ B ∧ A = cs.take (i * 1) ∧ B = cs.drop (i * 1) := ⟨_, _, (List.take_append_drop _ _).symm, rfl, rfl⟩
    have hAl : A.length = i * 1 := by rw [hA, List.length_take]; omega
    have hBl : B.length = (xs.length - i) * 1 := by rw [hB, List.length_drop]; omega
    have hins : ∀ w, Flat EInt w (A ++ [.int .i64 y] ++ B) (xs.take i ++ y :: xs.drop i) [] := fun w => by rw [hA, hB]; exact (hfl w).insL (hy w) i hi
    have h1A : ∀ u ∈ A, u.oneCell' = true := fun u hu => h1c u (by rw [hcs]; simp [hu])
    have h1B : ∀ u ∈ B, u.oneCell' = true := fun u hu => h1c u (by rw [hcs]; simp [hu])
    have hlen : (xs.take i ++ y :: xs.drop i).length = xs.length + 1 := by simp; omega
    clear hA hB hfl hone
    subst hcs
    have eA : A = ((A ++ B ++ rest).drop 0).take (i * 1) := by rw [List.drop_zero, List.append_assoc, List.take_left' hAl]
    have eB : B = ((A ++ B ++ rest).drop (0 + i * 1)).take ((xs.length - i) * 1) := by rw [Nat.zero_add, List.append_assoc, List.drop_left' hAl, List.take_left' hBl]
    rw [hlen]
    refine go ?_; intros
    apply wO; apply oc; rfl; exact yd_cap rfl
    refine go ?_; intros
    refine c_if rfl (fun h2 => ?_) (fun h2 => ?_)
    · refine go ?_; intros
      apply wO; apply oc; rfl; exact yd_slt (i := i) rfl rfl rfl (by omega) (by omega)
      refine go ?_; intros
      apply wO
      refine o_apgz (k := xs.length + 1 - i) (olds := A) rfl rfl rfl (by omega) (src_row (m := i * 1) (.head _) eA) (by omega) (by decide) (by omega) (by omega) (by omega) (by omega) fun g' cp' Z rest' h3 h4 h5 h6 => ?_
      rw [show i + (xs.length + 1 - i) = xs.length + 1 by omega] at h3 ⊢
      obtain ⟨Z1, Z2, rfl, hZ1, hZ2⟩ : ∃ Z1 Z2, Z = Z1 ++ Z2 ∧ Z1.length = 1 ∧ Z2.length = B.length := ⟨Z.take 1, Z.drop 1, (List.take_append_drop _ _).symm, by rw [List.length_take]; omega, by rw [List.length_drop]; omega⟩
      refine go ?_; intros
      apply wO; apply oc; rfl; exact yd_slv (i := i) rfl rfl rfl (by omega) (by omega) (by omega)
      refine go ?_; intros
      apply wO
      refine o_cpy (cs := [.int .i64 y]) (L' := A ++ [.int .i64 y] ++ (Z2 ++ rest')) rfl rfl rfl (src_row (L := [.int .i64 y]) (o := 0) (m := 1) (by exact memE) rfl) .here (cpyM (M := Z1) (by simp [List.append_assoc]) (by omega) (by simpa using hZ1)) (by show 1 = min 1 (xs.length + 1 - i) * 1; omega) (by simp only [List.length_append, List.length_cons, List.length_nil]; omega) h1y ?_
      refine go ?_; intros
      refine d_start [] [] ?_
      refine dt 0 ?_
      refine dt 1 ?_
      refine dt 2 ?_
      refine dt 3 ?_
      refine dt 4 ?_ (hy := yd_slv (i := i + 1) rfl rfl (by omega) (by omega) (by omega) (by omega))
      refine dt 5 ?_
      refine dt 6 ?_
      refine dt 7 ?_ (hy := yd_slv (i := i) rfl rfl (by omega) (by omega) (by omega) (by omega))
      refine dO 8 (by kernel_rfl) (by rw [List.getElem?_toArray]; rfl) ?_
      refine o_cpy (cs := B) (L' := A ++ [.int .i64 y] ++ B ++ rest') rfl rfl rfl (src_row (by exact memE) eB) .here (cpyM (P := A ++ [.int .i64 y]) (M := Z2) (by simp [List.append_assoc]) (by simp only [List.length_append, List.length_cons, List.length_nil]; omega) hZ2) (by rw [hBl]; congr 1; show _ = min (xs.length - i) (xs.length + 1 - (i + 1)); omega) (by simp only [List.length_append, List.length_cons, List.length_nil]; omega) h1B ?_
      refine dk ?_
      refine dd ?_
      refine t_owof (cs := A ++ [.int .i64 y] ++ B) (rest := rest') (xs := xs.take i ++ y :: xs.drop i) cp' rfl hins (by omega) h4 (by rw [show EInt.sz = 1 from rfl]; simp only [List.length_append, List.length_cons, List.length_nil] at h6 ⊢; omega) ?_
      rw [hlen]
      refine go ?_; intros
      refine ret (_, cp', [g']) trivial rfl
    · have hcx : xs.length + 1 ≤ c := by omega
      obtain ⟨X, Y, hXY, hX, hY⟩ := shiftL (B := B) (R := rest) 1 (by omega)
      refine go ?_; intros
      apply wO; apply oc; rfl; exact yd_slt (i := xs.length + 1) rfl rfl (by omega) (by omega) (by omega)
      refine go ?_; intros
      apply wO; apply oc; rfl; exact yd_slv (i := i + 1) rfl rfl (by omega) (by omega) (by omega) (by omega)
      refine goN ?_; intros
      apply wO
      refine o_ext rfl evsE (ovl (tS := 25) (tR := 4) (run_callFunc_extern Try.func88 (by kernel_rfl) (by kernel_rfl) (by kernel_rfl) (e := Extern.SlicesOverlaps.overlaps #[25, 25] #[4]) (by kernel_rfl)) (.there .here) (.head _) (by intro e; have := congrArg List.length e; simp only [List.length_append, List.length_nil] at this; omega)) ?_
      refine go ?_; intros
      refine d_start [] [] ?_
      refine dt 0 ?_
      refine dt 1 ?_
      refine dt 2 ?_
      refine dt 3 ?_
      refine dt 4 ?_ (hy := yd_slv (i := i + 1) rfl rfl (by omega) (by omega) (by omega) (by omega))
      refine dt 5 ?_
      refine dt 6 ?_
      refine dt 7 ?_ (hy := yd_slv (i := i) rfl rfl (by omega) (by omega) (by omega) (by omega))
      refine dO 8 (by kernel_rfl) (by rw [List.getElem?_toArray]; rfl) ?_
      refine o_cpy (cs := B) (L' := A ++ X ++ B ++ rest.drop 1) rfl rfl rfl (src_row (by exact memE) eB) .here (cpyM (P := A ++ X) (M := Y) (by rw [List.append_assoc A B rest, hXY]; simp [List.append_assoc]) (by simp only [List.length_append]; omega) hY) (by rw [hBl]; congr 1; show _ = min (xs.length + 1 - i) (xs.length + 1 - (i + 1)); omega) (by simp only [List.length_append]; omega) h1B ?_
      refine dk ?_
      refine dd ?_
      refine go ?_; intros
      apply wO; apply oc; rfl; exact yd_slv (i := i) rfl rfl rfl (by omega) (by omega) (by omega)
      refine go ?_; intros
      apply wO
      refine o_cpy (cs := [.int .i64 y]) (L' := A ++ [.int .i64 y] ++ (B ++ rest.drop 1)) rfl rfl rfl (src_row (L := [.int .i64 y]) (o := 0) (m := 1) (by exact memE) rfl) .here (cpyM (M := X) (by simp [List.append_assoc]) (by omega) (by simpa using hX)) (by show 1 = min 1 (xs.length + 1 - i) * 1; omega) (by simp only [List.length_append, List.length_cons, List.length_nil]; omega) h1y ?_
      refine go ?_; intros
      refine t_owof (L := A ++ [.int .i64 y] ++ (B ++ rest.drop 1)) (cs := A ++ [.int .i64 y] ++ B) (rest := rest.drop 1) (xs := xs.take i ++ y :: xs.drop i) c (by simp [List.append_assoc]) hins (by omega) (by omega) (by rw [show EInt.sz = 1 from rfl]; simp only [List.length_append, List.length_cons, List.length_nil, List.length_drop]; omega) ?_
      rw [hlen]
      refine ret (_, c, [g]) trivial rfl
end Go.Proofs.Ytgogcgkocjpgoaa
/- Elements: a number put to its place. -/
namespace Go.Proofs.Ytgogcgkocjpgoaa
open Go.RowKit
theorem rep_i (n : Int) (w : World) : Flat EInt w [.int .i64 n] [n] [] := ⟨_, [], [], [], by simp, by simp, ⟨rfl, rfl⟩, rfl, rfl⟩
theorem placeI_le (l : List Int) (n : Int) : placeI l n ≤ l.length := (tw_spec (p := fun x => decide (x < n)) (xs := l)).1
structure PutS where
  a : Option Addr
  c : Nat
  F : List Nat
set_option maxRecDepth 100000 in
theorem l1Put_f (l : List Int) (n : Int) (a : Option Addr) (c : Nat) (F : List Nat) (hl : l.length ≤ 1000000) : Fn Try.prog 72 [.slice a l.length c, .int .i64 n] [] [.ow EInt 3 (.slice a l.length c) l F] (fun (_ : PutS) => True) (fun s => .slice s.a (putI l n).length s.c) (fun s => [.ow EInt 3 (.slice s.a (putI l n).length s.c) (putI l n) s.F]) := by
  refine enter Try.func72 rfl Try.ntmps72 fun w0 => ?_
  refine go ?_; intros
  refine c_loopR [0, 1, 4] (fun k : Nat => [(5, .int .i64 (k : Nat))]) (fun k => k ≤ l.length ∧ ∀ j (_ : j < k) (hj : j < l.length), l[j] < n) (fun k => l.length - k) 0 ⟨Nat.zero_le _, fun j h => by omega⟩ fun k hk => ?_
  obtain ⟨hk1, hk2⟩ := hk
  refine go ?_; intros
  refine wg_if rfl rfl (fun h1 => ?_) (fun h1 => ?_)
  · have hh : k < l.length := by omega
    refine go ?_; intros
    refine focF (m := 1) scal_EInt k ?_ (by repeat (first | exact .here | apply Pick.there)) rfl hh
    rintro _ g A cs B rfl rfl hr hH
    obtain ⟨rfl, -⟩ := hr w0
    refine go ?_; intros
    refine unfF l[k] hH hr ?_
    rw [List.set_getElem_self]
    refine c_if rfl (fun h2 => ?_) (fun h2 => ?_)
    · refine go ?_; intros
      refine n_lp (k + 1) ⟨hh, fun j hj hl => ?_⟩ (by omega)
      rcases Nat.lt_or_eq_of_le (Nat.lt_succ_iff.1 hj) with h | rfl
      · exact hk2 j h hl
      · exact h2
    · have hp : placeI l n = k := placeI_eq hk1 hk2 (fun _ => h2)
      refine go ?_; intros
      refine wg_if rfl rfl (fun h4 => ?_) (fun h4 => absurd h1 h4)
      refine go ?_; intros
      refine focF (m := 1) scal_EInt k ?_ (by repeat (first | exact .here | apply Pick.there)) rfl hh
      rintro _ g A cs B e1 - hr hH
      cases e1
      obtain ⟨rfl, -⟩ := hr w0
      refine go ?_; intros
      refine unfF l[k] hH hr ?_
      rw [List.set_getElem_self]
      refine c_if rfl (fun h3 => ?_) (fun h3 => ?_)
      · have e : putI l n = l := by unfold putI; rw [hp, List.getElem?_eq_getElem hh, if_pos (by rw [h3])]
        rw [e]
        refine go ?_; intros
        refine ret ⟨_, _, _⟩ trivial rfl
      · have e : putI l n = l.take k ++ [n] ++ l.drop k := by unfold putI; rw [hp, List.getElem?_eq_getElem hh, if_neg (by simpa using h3)]; simp
        refine go ?_; intros
        refine t_read fun F5 => ?_
        refine t_stk k (by omega) fun F6 hc1 hc2 => ?_
        refine d_start [] [] ?_
        refine dt 1 ?_
        refine dt 2 ?_
        refine dt 3 ?_ (hy := yd_slt (i := k) rfl rfl rfl (by omega) (by omega))
        refine dt 5 ?_
        refine dt 8 ?_
        refine dt 9 ?_
        refine dsld 10 k fun a6 c6 F6 => ?_
        refine dO2 0 6 (by kernel_rfl) (by rw [List.getElem?_toArray]; rfl) (by rw [List.getElem?_toArray]; rfl) ?_ ?_
        · apply o_bs0; rfl; intro _
          refine t_emp EInt ?_
          refine dk ?_
          refine dO2 4 6 (by kernel_rfl) (by rw [List.getElem?_toArray]; rfl) (by rw [List.getElem?_toArray]; rfl) ?_ ?_
          · refine aps one_EInt scal_EInt (fun a2 c2 F2 => ?_) (hn := by rw [List.length_take]; omega) (h63 := by exact lenE) (hby := by exact lenE)
            refine dk ?_
            refine dO 6 (by kernel_rfl) (by rw [List.getElem?_toArray]; rfl) ?_
            apply o_bs; rfl; rfl; rfl; rfl; exact rptE; exact filE; intro _
            refine dk ?_
            refine dO 7 (by kernel_rfl) (by rw [List.getElem?_toArray]; rfl) ?_
            refine ap1 (rep_i n) one_EInt (fun a3 c3 F3 => ?_) (h63 := by exact lenE) (hby := by exact lenE)
            refine dk ?_
            refine dO 11 (by kernel_rfl) (by rw [List.getElem?_toArray]; rfl) ?_
            refine aps one_EInt scal_EInt (fun a4 c4 F4 => ?_) (h63 := by exact lenE) (hby := by exact lenE)
            refine dk ?_
            refine dt 12 ?_
            refine dd ?_
            rw [e]
            refine go ?_; intros
            refine ret ⟨_, _, _⟩ trivial rfl
          · apply o_bs; rfl; rfl; rfl; rfl; exact rptE; exact filE; intro _
            refine dk ?_
            refine dO 4 (by kernel_rfl) (by rw [List.getElem?_toArray]; rfl) ?_
            refine aps one_EInt scal_EInt (fun a2 c2 F2 => ?_) (hn := by rw [List.length_take]; omega) (h63 := by exact lenE) (hby := by exact lenE)
            refine dk ?_
            refine dO 7 (by kernel_rfl) (by rw [List.getElem?_toArray]; rfl) ?_
            refine ap1 (rep_i n) one_EInt (fun a3 c3 F3 => ?_) (h63 := by exact lenE) (hby := by exact lenE)
            refine dk ?_
            refine dO 11 (by kernel_rfl) (by rw [List.getElem?_toArray]; rfl) ?_
            refine aps one_EInt scal_EInt (fun a4 c4 F4 => ?_) (h63 := by exact lenE) (hby := by exact lenE)
            refine dk ?_
            refine dt 12 ?_
            refine dd ?_
            rw [e]
            refine go ?_; intros
            refine ret ⟨_, _, _⟩ trivial rfl
        · apply o_bs; rfl; rfl; rfl; rfl; exact rptE; exact filE; intro _
          refine dk ?_
          refine dO 0 (by kernel_rfl) (by rw [List.getElem?_toArray]; rfl) ?_
          apply o_bs0; rfl; intro _
          refine t_emp EInt ?_
          refine dk ?_
          refine dO 4 (by kernel_rfl) (by rw [List.getElem?_toArray]; rfl) ?_
          refine aps one_EInt scal_EInt (fun a2 c2 F2 => ?_) (hn := by rw [List.length_take]; omega) (h63 := by exact lenE) (hby := by exact lenE)
          refine dk ?_
          refine dO 7 (by kernel_rfl) (by rw [List.getElem?_toArray]; rfl) ?_
          refine ap1 (rep_i n) one_EInt (fun a3 c3 F3 => ?_) (h63 := by exact lenE) (hby := by exact lenE)
          refine dk ?_
          refine dO 11 (by kernel_rfl) (by rw [List.getElem?_toArray]; rfl) ?_
          refine aps one_EInt scal_EInt (fun a4 c4 F4 => ?_) (h63 := by exact lenE) (hby := by exact lenE)
          refine dk ?_
          refine dt 12 ?_
          refine dd ?_
          rw [e]
          refine go ?_; intros
          refine ret ⟨_, _, _⟩ trivial rfl
  · have hp : placeI l n = k := placeI_eq hk1 hk2 (fun h => by omega)
    have e : putI l n = l.take k ++ [n] ++ l.drop k := by unfold putI; rw [hp, List.getElem?_eq_none (by omega)]; simp
    refine go ?_; intros
    refine wg_if rfl rfl (fun h4 => absurd h4 h1) (fun h4 => ?_)
    refine go ?_; intros
    refine t_read fun F5 => ?_
    refine t_stk k (by omega) fun F6 hc1 hc2 => ?_
    refine d_start [] [] ?_
    refine dt 1 ?_
    refine dt 2 ?_
    refine dt 3 ?_ (hy := yd_slt (i := k) rfl rfl rfl (by omega) (by omega))
    refine dt 5 ?_
    refine dt 8 ?_
    refine dt 9 ?_
    refine dsld 10 k fun a6 c6 F6 => ?_
    refine dO2 0 6 (by kernel_rfl) (by rw [List.getElem?_toArray]; rfl) (by rw [List.getElem?_toArray]; rfl) ?_ ?_
    · apply o_bs0; rfl; intro _
      refine t_emp EInt ?_
      refine dk ?_
      refine dO2 4 6 (by kernel_rfl) (by rw [List.getElem?_toArray]; rfl) (by rw [List.getElem?_toArray]; rfl) ?_ ?_
      · refine aps one_EInt scal_EInt (fun a2 c2 F2 => ?_) (hn := by rw [List.length_take]; omega) (h63 := by exact lenE) (hby := by exact lenE)
        refine dk ?_
        refine dO 6 (by kernel_rfl) (by rw [List.getElem?_toArray]; rfl) ?_
        apply o_bs; rfl; rfl; rfl; rfl; exact rptE; exact filE; intro _
        refine dk ?_
        refine dO 7 (by kernel_rfl) (by rw [List.getElem?_toArray]; rfl) ?_
        refine ap1 (rep_i n) one_EInt (fun a3 c3 F3 => ?_) (h63 := by exact lenE) (hby := by exact lenE)
        refine dk ?_
        refine dO 11 (by kernel_rfl) (by rw [List.getElem?_toArray]; rfl) ?_
        refine aps one_EInt scal_EInt (fun a4 c4 F4 => ?_) (h63 := by exact lenE) (hby := by exact lenE)
        refine dk ?_
        refine dt 12 ?_
        refine dd ?_
        rw [e]
        refine go ?_; intros
        refine ret ⟨_, _, _⟩ trivial rfl
      · apply o_bs; rfl; rfl; rfl; rfl; exact rptE; exact filE; intro _
        refine dk ?_
        refine dO 4 (by kernel_rfl) (by rw [List.getElem?_toArray]; rfl) ?_
        refine aps one_EInt scal_EInt (fun a2 c2 F2 => ?_) (hn := by rw [List.length_take]; omega) (h63 := by exact lenE) (hby := by exact lenE)
        refine dk ?_
        refine dO 7 (by kernel_rfl) (by rw [List.getElem?_toArray]; rfl) ?_
        refine ap1 (rep_i n) one_EInt (fun a3 c3 F3 => ?_) (h63 := by exact lenE) (hby := by exact lenE)
        refine dk ?_
        refine dO 11 (by kernel_rfl) (by rw [List.getElem?_toArray]; rfl) ?_
        refine aps one_EInt scal_EInt (fun a4 c4 F4 => ?_) (h63 := by exact lenE) (hby := by exact lenE)
        refine dk ?_
        refine dt 12 ?_
        refine dd ?_
        rw [e]
        refine go ?_; intros
        refine ret ⟨_, _, _⟩ trivial rfl
    · apply o_bs; rfl; rfl; rfl; rfl; exact rptE; exact filE; intro _
      refine dk ?_
      refine dO 0 (by kernel_rfl) (by rw [List.getElem?_toArray]; rfl) ?_
      apply o_bs0; rfl; intro _
      refine t_emp EInt ?_
      refine dk ?_
      refine dO 4 (by kernel_rfl) (by rw [List.getElem?_toArray]; rfl) ?_
      refine aps one_EInt scal_EInt (fun a2 c2 F2 => ?_) (hn := by rw [List.length_take]; omega) (h63 := by exact lenE) (hby := by exact lenE)
      refine dk ?_
      refine dO 7 (by kernel_rfl) (by rw [List.getElem?_toArray]; rfl) ?_
      refine ap1 (rep_i n) one_EInt (fun a3 c3 F3 => ?_) (h63 := by exact lenE) (hby := by exact lenE)
      refine dk ?_
      refine dO 11 (by kernel_rfl) (by rw [List.getElem?_toArray]; rfl) ?_
      refine aps one_EInt scal_EInt (fun a4 c4 F4 => ?_) (h63 := by exact lenE) (hby := by exact lenE)
      refine dk ?_
      refine dt 12 ?_
      refine dd ?_
      rw [e]
      refine go ?_; intros
      refine ret ⟨_, _, _⟩ trivial rfl
end Go.Proofs.Ytgogcgkocjpgoaa
/- Elements: requests and repairs of the reference. -/
namespace Go.Proofs.Ytgogcgkocjpgoaa
open Go.RowKit
/-- an owned element, its value aS it stands -/
theorem clOE {c : Cx} {fr : Fr} {H S : List Pc} {Φ : Gl} (x : Element) {a : Option Addr} {n cp : Nat} {F : List Nat} (hn : n = x.entries.length) (h : T c fr (.own OElement (.agg #[.int .i64 x.clock, .slice a n cp]) x F :: S) Φ) (hp : Pick H (.ow OEntry 74 (.slice a n cp) x.entries F) S := by (repeat (first | exact .here | apply Pick.there)); first | done | fail) : T c fr H Φ := by
  subst hn; exact closeOElement x h hp
theorem reqE_yes {e : Element} {n f : Int} (h : atE e n < e.entries.length) : reqE e n f = ⟨e.clock, e.entries.set (atE e n) ⟨e.entries[atE e n].number, putI e.entries[atE e n].faces f, e.entries[atE e n].untl⟩⟩ := by unfold reqE; rw [List.getElem?_eq_getElem h]
theorem reqE_new {e : Element} {n f : Int} (h : e.entries[atE e n]? = none) (hl : e.entries.length < 5) : reqE e n f = ⟨e.clock, e.entries ++ [⟨n, [f], e.clock + 6⟩]⟩ := by unfold reqE; rw [h]; simp [hl]
theorem reqE_full {e : Element} {n f : Int} (h : e.entries[atE e n]? = none) (hl : ¬ e.entries.length < 5) : reqE e n f = e := by unfold reqE; rw [h]; simp [hl]
set_option maxRecDepth 100000 in
theorem l14Request_f (e : Element) (n f : Int) (v : Value) (F : List Nat) (hl : e.entries.length ≤ 1000000) (hf : ∀ x ∈ e.entries, x.faces.length ≤ 1000000) (hc0 : -1000000 ≤ e.clock) (hc1 : e.clock ≤ 1000000) : Fn Try.prog 44 [v, .int .i64 n, .int .i64 f] [.isv EElement v e F] [] (fun (_ : Value × List Nat) => True) (fun s => .tuple #[s.1, .bool (fwdE e n)]) (fun s => [.own OElement s.1 (reqE e n f) s.2]) := by
  refine enter Try.func44 rfl Try.ntmps44 fun w0 => ?_
  refine openElement ?_
  rintro a1 c1 F1 rfl l1
  refine go ?_; intros
  refine cv (fun w st => l14Own_c _ e _ w (st.get (p := .isv EElement (.agg #[.int .i64 e.clock, .slice a1 e.entries.length c1]) e F) (by simp)) (by omega) (fun x hx => Nat.le_trans (hf x hx) (by decide))) fun u FU => ?_
  refine openOElement ?_
  rintro a2 c2 F2 rfl l2
  refine go ?_; intros
  refine cf (l14Find_f e n _ F) fun _ _ => ?_
  refine t_app ?_
  rcases findE_or e n with ⟨h, e1, e2, e3⟩ | ⟨e1, e2, e3, e4⟩
  · rw [e1, e3, reqE_yes h]
    have hfx := hf e.entries[atE e n] (List.getElem_mem h)
    refine go ?_; intros
    refine focO (m := 3) (atE e n) ?_ rfl h
    rintro _ g A cs B k1 k2 G1 Gi G2 rfl - hc hH
    refine openOEntry ?_
    rintro a5 c5 F5 ev l5
    obtain rfl : cs = [.int .i64 e.entries[atE e n].number, .slice a5 e.entries[atE e n].faces.length c5, .int .i64 e.entries[atE e n].untl] := by simpa using ev
    refine go ?_; intros
    refine cf (l1Put_f _ f a5 c5 F5 hfx) fun z _ => ?_
    refine t_app ?_
    refine go ?_; intros
    refine closeOEntry ⟨e.entries[atE e n].number, putI e.entries[atE e n].faces f, e.entries[atE e n].untl⟩ ?_
    refine unfO _ hH rfl fun F6 => ?_
    refine clOE ⟨e.clock, _⟩ List.length_set.symm ?_
    refine ret (_, _) trivial rfl
  · rw [e1, e3]
    refine go ?_; intros
    refine c_if rfl (fun h5 => ?_) (fun h5 => ?_)
    · rw [reqE_new e2 (by omega)]
      refine go ?_; intros
      refine t_row (E := EInt) (xs := [f]) (rep_i f) ?_ (by simp)
      refine closeOEntry ⟨n, [f], e.clock + 6⟩ ?_
      apply wO
      refine ap1o one_OEntry ⟨n, [f], e.clock + 6⟩ rfl fun a3 c3 F3 => ?_
      refine go ?_; intros
      refine clOE ⟨e.clock, _⟩ rfl ?_
      refine ret (_, _) trivial rfl
    · rw [reqE_full e2 (by omega)]
      refine go ?_; intros
      refine clOE e rfl ?_
      refine ret (_, _) trivial rfl
structure FacS where
  k : Nat
  a : Option Addr
  c : Nat
  F : List Nat
structure RepS where
  v : Value
  F : List Nat
  a : Option Addr
  c : Nat
  G : List Nat
end Go.Proofs.Ytgogcgkocjpgoaa
/- Deleting in place: parts of a slice, a part put down further ahead in its own row. -/
namespace Go.Proofs.Ytgogcgkocjpgoaa
open Go.RowKit
section
variable {P : Program} {n : Nat} {fr : Fr} {H : List Pc} {ty : TypeId} {x y z u : Operand}
end
section
variable {c : Cx} {fr : Fr} {H : List Pc} {k : List It} {Φ : Gl} {d : Nat} {ty : TypeId} {x y z u : Operand}
end
end Go.Proofs.Ytgogcgkocjpgoaa
/- Deleting one entry, by its cells. -/
namespace Go.Proofs.Ytgogcgkocjpgoaa
open Go.RowKit
end Go.Proofs.Ytgogcgkocjpgoaa
/- Deleting out of lists of integers, by the engine. -/
namespace Go.Proofs.Ytgogcgkocjpgoaa
open Go.RowKit
structure DfInt where
  i : Nat
  j : Nat
  zs : List Int
end Go.Proofs.Ytgogcgkocjpgoaa
/- Elements: requests and repairs in place. -/
namespace Go.Proofs.Ytgogcgkocjpgoaa
open Go.RowKit
set_option maxRecDepth 100000 in
theorem Erequest_f (e : Element) (n f : Int) (g t o : Nat) (A B : List Value) (a : Option Addr) (c : Nat) (F : List Nat) (hl : e.entries.length ≤ 1000000) (hf : ∀ x ∈ e.entries, x.faces.length ≤ 1000000 ∧ x.faces.Pairwise (· < ·)) (hc0 : -1000000 ≤ e.clock) (hc1 : e.clock ≤ 1000000) :
    Fn Try.prog 46 [ptr g o 0, .int .i64 n, .int .i64 f] [] [.row g t o A [.int .i64 e.clock, .slice a e.entries.length c] B, .ow OEntry 74 (.slice a e.entries.length c) e.entries F] (fun (_ : Option Addr × Nat × List Nat) => True) (fun _ => .bool (fwdE e n)) (fun s => [.row g t o A [.int .i64 (reqE e n f).clock, .slice s.1 (reqE e n f).entries.length s.2.1] B, .ow OEntry 74 (.slice s.1 (reqE e n f).entries.length s.2.1) (reqE e n f).entries s.2.2]) := by
  refine enter Try.func46 rfl Try.ntmps46 fun w0 => ?_
  refine go ?_; intros
  refine cb (fun w st => by
    obtain ⟨F', -, hs⟩ := (st.get (p := .ow OEntry 74 (.slice a e.entries.length c) e.entries F) (by simp)).2.sl weak_Entry
    exact (Efind_f e n _ F').val w (hol1 ⟨_, rfl, _, rfl, hs⟩)) ?_
  rcases findE_or e n with ⟨h, e1, e2, e3⟩ | ⟨e1, e2, e3, e4⟩
  · rw [e1, e3, reqE_yes h]
    obtain ⟨hfx, hpw⟩ := hf e.entries[atE e n] (List.getElem_mem h)
    have hsl : ∀ y, (e.entries.set (atE e n) y).length = e.entries.length := fun y => List.length_set
    refine go ?_; intros
    refine focO (m := 3) (atE e n) ?_ rfl h
    rintro _ g2 A2 cs B2 k1 k2 G1 Gi G2 rfl - hc hH
    refine openOEntry ?_
    rintro a5 c5 F5 ev l5
    obtain rfl : cs = [.int .i64 e.entries[atE e n].number, .slice a5 e.entries[atE e n].faces.length c5, .int .i64 e.entries[atE e n].untl] := by simpa using ev
    refine go ?_; intros
    refine cb (fun w st => by
      obtain ⟨F', -, hs⟩ := (st.get (p := .ow EInt 3 (.slice a5 e.entries[atE e n].faces.length c5) e.entries[atE e n].faces F5) (by simp)).2.read
      exact (bsInt_f _ f a5 c5 F' hpw hfx).val w (hol1 ⟨by decide, hs⟩)) ?_
    cases hq : atPl e.entries[atE e n].faces f
    · have ep : putI e.entries[atE e n].faces f = e.entries[atE e n].faces.take (placeI e.entries[atE e n].faces f) ++ f :: e.entries[atE e n].faces.drop (placeI e.entries[atE e n].faces f) := by unfold putI; rw [if_neg (by simpa [atPl] using hq)]
      refine go ?_; intros
      refine cf (InsInt_f e.entries[atE e n].faces f (placeI e.entries[atE e n].faces f) a5 c5 _ F5 (placeI_le _ _) hfx) fun z _ => ?_
      refine t_app ?_
      rw [← ep]
      refine go ?_; intros
      refine closeOEntry ⟨e.entries[atE e n].number, putI e.entries[atE e n].faces f, e.entries[atE e n].untl⟩ ?_
      refine unfO _ hH rfl fun F6 => ?_
      dsimp only
      rw [← hsl ⟨e.entries[atE e n].number, putI e.entries[atE e n].faces f, e.entries[atE e n].untl⟩]
      refine ret (_, _, _) trivial rfl
    · have ep : putI e.entries[atE e n].faces f = e.entries[atE e n].faces := by unfold putI; rw [if_pos (by simpa [atPl] using hq)]
      rw [ep]
      refine go ?_; intros
      refine closeOEntry ⟨e.entries[atE e n].number, e.entries[atE e n].faces, e.entries[atE e n].untl⟩ ?_
      refine unfO _ hH rfl fun F6 => ?_
      dsimp only
      rw [← hsl ⟨e.entries[atE e n].number, e.entries[atE e n].faces, e.entries[atE e n].untl⟩]
      refine ret (_, _, _) trivial rfl
  · rw [e1, e3]
    refine go ?_; intros
    refine c_if rfl (fun h5 => ?_) (fun h5 => ?_)
    · rw [reqE_new e2 (by omega)]
      refine go ?_; intros
      refine d_start [0] [18] ?_
      refine dt 0 ?_
      refine dt 1 ?_
      refine dt 2 ?_
      refine dt 3 ?_
      refine dt 4 ?_
      refine dt 5 ?_
      refine dt 6 ?_
      refine dt 8 ?_
      refine dt 9 ?_
      refine dt 10 ?_
      refine dt 11 ?_
      refine dt 12 ?_
      refine dO 7 (by kernel_rfl) (by rw [List.getElem?_toArray]; rfl) ?_
      apply o_bs; rfl; rfl; rfl; rfl; exact rptE; exact filE; intro _
      refine dk ?_
      refine dt 13 ?_
      refine dO 14 (by kernel_rfl) (by rw [List.getElem?_toArray]; rfl) ?_
      apply o_bs; rfl; rfl; rfl; rfl; exact rptE; exact filE; intro _
      refine t_row (E := EInt) (xs := [f]) (rep_i f) ?_ (by simp)
      refine closeOEntry ⟨n, [f], e.clock + 6⟩ ?_
      refine dk ?_
      refine dO 15 (by kernel_rfl) (by rw [List.getElem?_toArray]; rfl) ?_
      refine ap1o one_OEntry ⟨n, [f], e.clock + 6⟩ rfl fun a3 c3 F3 => ?_
      refine dk ?_
      refine dt 16 ?_
      refine dt 17 ?_
      refine dO 18 (by kernel_rfl) (by rw [List.getElem?_toArray]; rfl) ?_
      apply o_st; rfl; rfl; rfl; (first | exact AggC.s | exact OneC.s); rfl; exact rplE; exact putE; rfl
      refine dkx ?_
      refine dd ?_
      refine go ?_; intros
      refine ret (_, _, _) trivial rfl
    · rw [reqE_full e2 (by omega)]
      refine go ?_; intros
      refine ret (_, _, _) trivial rfl
structure RpIS where
  a : Option Addr
  c : Nat
  F : List Nat
  a2 : Option Addr
  c2 : Nat
  F2 : List Nat
end Go.Proofs.Ytgogcgkocjpgoaa
/- TakeRequest and TakeRepair, the program's and the reference's. -/
namespace Go.Proofs.Ytgogcgkocjpgoaa
open Go.RowKit
theorem faces_pw {e : Element} (h : goodElement e = true) {x : Entry} (hx : x ∈ e.entries) : x.faces.Pairwise (· < ·) := by
  unfold goodElement at h
  simp only [Bool.and_eq_true] at h
  obtain ⟨i, hi, rfl⟩ := List.getElem_of_mem hx
  have := allUpTo_get h.2 i hi
  rw [entAt_of hi] at this
  simp only [okEntry, Bool.and_eq_true] at this
  exact (rising_pw this.1.2.2.1).1
theorem l14Face_f (x : Int) : Fn Try.prog 43 [.int .i64 x] [] [] (fun (_ : Unit) => True) (fun _ => .bool (isFac x)) (fun _ => []) := by
  refine enter Try.func43 rfl Try.ntmps43 fun w0 => ?_
  refine go ?_; intros
  refine ce (fun w s => l1In_c _ _ _ _) ?_
  refine go ?_; intros
  refine ret () trivial rfl
set_option maxRecDepth 100000 in
set_option maxHeartbeats 400000 in
theorem specTakeRequest_f (e : Element) (n : Int) (f : Int) (v : Value) (F : List Nat) : Fn Try.prog 17 [v, .int .i64 n, .int .i64 f] [.isv EElement v e F] [] (fun (_ : Value × List Nat) => True) (fun s => .tuple #[s.1, .bool (resTakeRequest e n f).2.1, .bool (resTakeRequest e n f).2.2]) (fun s => [.own OElement s.1 (resTakeRequest e n f).1 s.2]) := by
  refine enter Try.func17 rfl Try.ntmps17 fun w0 => ?_
  refine t_nilow OEntry 74 ?_
  refine openElement ?_
  rintro a1 c1 F1 rfl l1
  refine go ?_; intros
  refine cb (fun w st => l14Good_c _ e _ w (st.get (p := .isv EElement (.agg #[.int .i64 e.clock, .slice a1 e.entries.length c1]) e F) (by simp))) ?_
  cases g1 : goodElement e
  · skip
    refine go ?_; intros
    rw [resTakeRequest_no (by unfold okTakeRequest; simp [g1])]
    refine clOE ⟨0, []⟩ rfl ?_
    refine ret (_, _) trivial rfl
  obtain ⟨hck, hl5, hf7⟩ := good_room g1
  obtain ⟨hc0, hc1⟩ := isClk_iff.1 hck
  refine go ?_; intros
  refine ce (fun w s => l2Good_c n _) ?_
  cases g2 : isSer n
  · skip
    refine go ?_; intros
    rw [resTakeRequest_no (by unfold okTakeRequest; simp [g1, g2])]
    refine clOE ⟨0, []⟩ rfl ?_
    refine ret (_, _) trivial rfl
  refine go ?_; intros
  refine cf (l14Face_f f) fun _ _ => ?_
  refine t_app ?_
  cases g3 : isFac f
  · skip
    refine go ?_; intros
    rw [resTakeRequest_no (by unfold okTakeRequest; simp [g1, g2, g3])]
    refine clOE ⟨0, []⟩ rfl ?_
    refine ret (_, _) trivial rfl
  rw [resTakeRequest_yes (by unfold okTakeRequest; simp [g1, g2, g3])]
  refine go ?_; intros
  refine cf (l14Request_f e n f _ F (by omega) (fun x hx => by have := hf7 x hx; omega) (by omega) (by omega)) fun z _ => ?_
  refine t_app ?_
  refine openOElement ?_
  rintro a6 c6 F6 e6 l6
  rw [e6]
  refine go ?_; intros
  refine clOE (reqE e n f) rfl ?_
  refine ret (_, _) trivial rfl
set_option maxRecDepth 100000 in
set_option maxHeartbeats 400000 in
theorem TakeRequest_f (e : Element) (n : Int) (f : Int) (v : Value) (F : List Nat) : Fn Try.prog 18 [v, .int .i64 n, .int .i64 f] [.isv EElement v e F] [] (fun (_ : Value × List Nat) => True) (fun s => .tuple #[s.1, .bool (resTakeRequest e n f).2.1, .bool (resTakeRequest e n f).2.2]) (fun s => [.own OElement s.1 (resTakeRequest e n f).1 s.2]) := by
  refine enter Try.func18 rfl Try.ntmps18 fun w0 => ?_
  refine t_nilow OEntry 74 ?_
  refine openElement ?_
  rintro a1 c1 F1 rfl l1
  refine go ?_; intros
  refine cb (fun w st => IsValidElement_c _ e _ w (st.get (p := .isv EElement (.agg #[.int .i64 e.clock, .slice a1 e.entries.length c1]) e F) (by simp))) ?_
  cases g1 : goodElement e
  · skip
    refine go ?_; intros
    rw [resTakeRequest_no (by unfold okTakeRequest; simp [g1])]
    refine clOE ⟨0, []⟩ rfl ?_
    refine ret (_, _) trivial rfl
  obtain ⟨hck, hl5, hf7⟩ := good_room g1
  obtain ⟨hc0, hc1⟩ := isClk_iff.1 hck
  refine go ?_; intros
  refine ce (fun w s => IsSerial_c n _) ?_
  cases g2 : isSer n
  · skip
    refine go ?_; intros
    rw [resTakeRequest_no (by unfold okTakeRequest; simp [g1, g2])]
    refine clOE ⟨0, []⟩ rfl ?_
    refine ret (_, _) trivial rfl
  refine go ?_; intros
  refine ce (fun w s => isFace_c f _) ?_
  cases g3 : isFac f
  · skip
    refine go ?_; intros
    rw [resTakeRequest_no (by unfold okTakeRequest; simp [g1, g2, g3])]
    refine clOE ⟨0, []⟩ rfl ?_
    refine ret (_, _) trivial rfl
  rw [resTakeRequest_yes (by unfold okTakeRequest; simp [g1, g2, g3])]
  refine go ?_; intros
  refine cv (fun w st => Element_clone_c _ e _ w (st.get (p := .isv EElement (.agg #[.int .i64 e.clock, .slice a1 e.entries.length c1]) e F) (by simp)) (by omega) (fun x hx => Nat.le_trans (hf7 x hx) (by decide))) fun u FU => ?_
  refine openOElement ?_
  rintro a6 c6 F6 rfl l6
  refine go ?_; intros
  refine cf (Erequest_f e n f _ _ _ _ _ a6 c6 F6 (by omega) (fun x hx => ⟨by have := hf7 x hx; omega, faces_pw g1 hx⟩) (by omega) (by omega)) fun z _ => ?_
  refine t_app ?_
  refine go ?_; intros
  refine clOE (reqE e n f) rfl ?_
  refine ret (_, _) trivial rfl
end Go.Proofs.Ytgogcgkocjpgoaa
/- Elements: bounds on marks; plain. -/
namespace Go.Proofs.Ytgogcgkocjpgoaa
open Go.RowKit
theorem isv_weak {α : Type} {O R : Elem α} (hW : Weak O R) {w : World} {v : Value} {x : α} {F : List Nat} (h : IsV O w v x F) : ∃ F', (∀ b ∈ F', b ∈ F) ∧ IsV R w v x F' := by
  obtain ⟨cs, hv, h⟩ := h
  obtain ⟨F', h1, h2⟩ := hW.rep h
  exact ⟨F', h1, cs, hv, h2⟩
theorem cntL_bd {α : Type} (f : α → Nat) (B : Nat) : ∀ xs : List α, (∀ x ∈ xs, f x ≤ B) → cntL f xs ≤ xs.length * B
  | [], _ => by simp [cntL]
  | x :: r, h => by
    have h1 := h x (by simp)
    have h2 := cntL_bd f B r fun y hy => h y (by simp [hy])
    have e : cntL f (x :: r) = f x + cntL f r := by simp [cntL]
    rw [e, List.length_cons, Nat.add_mul]; omega
theorem cvElem_le (M : Nat) (x : Element) (h1 : x.entries.length ≤ M) (h2 : ∀ y ∈ x.entries, y.faces.length ≤ M) (hM : M * (M + 2) ≤ 4294967296 := by decide) : cvElement x ≤ 4294967296 := by
  unfold cvElement
  refine Nat.le_trans (cntL_bd cntEntry (M + 2) x.entries fun y hy => ?_) (Nat.le_trans (Nat.mul_le_mul_right _ h1) hM)
  have := h2 y hy
  unfold cntEntry
  rw [cntL_int]
  simp only [cntI]; omega
theorem putI_len (l : List Int) (n : Int) : (putI l n).length ≤ l.length + 1 := by
  unfold putI
  split
  · omega
  · simp only [List.length_append, List.length_take, List.length_cons, List.length_drop]; omega
end Go.Proofs.Ytgogcgkocjpgoaa
/- The contracts of TakeRequest in the form that the law takes, and a bound on the marks of its result. -/
namespace Go.Proofs.Ytgogcgkocjpgoaa
open Go.RowKit
def PS_TakeRequest : Element × Bool × Bool → World → Ending → World → Prop := fun (r0, r1, r2) w e w' => ∃ u0 G0, e = .returned (.tuple #[u0, .bool r1, .bool r2]) ∧ IsV EElement w' u0 r0 G0 ∧ Below w.heap.size w w'
def PI_TakeRequest : Element × Bool × Bool → World → Ending → World → Prop := fun (r0, r1, r2) w e w' => ∃ u0 G0, e = .returned (.tuple #[u0, .bool r1, .bool r2]) ∧ IsV OElement w' u0 r0 G0 ∧ (G0).Nodup ∧ (∀ b ∈ G0, w.heap.size ≤ b) ∧ Below w.heap.size w w'
theorem specTakeRequest_c (v0 : Value) (x0 : Element) (F0 : List Nat) (x1 : Int) (x2 : Int) (w : World) (h0 : IsV EElement w v0 x0 F0) :
    Calls Try.prog 17 #[v0, .int .i64 x1, .int .i64 x2] w (PS_TakeRequest (resTakeRequest x0 x1 x2) w) := by
  refine ((specTakeRequest_f x0 x1 x2 v0 F0).read w (hol1 h0)).mono ?_
  rintro e w' ⟨s, -, rfl, hH, hB⟩
  have a1 := hH (.own OElement s.1 (resTakeRequest x0 x1 x2).1 s.2) (by simp)
  obtain ⟨F', -, hE⟩ := isv_weak weak_Element a1.2
  exact ⟨_, F', rfl, hE, hB⟩
theorem TakeRequest_c (v0 : Value) (x0 : Element) (F0 : List Nat) (x1 : Int) (x2 : Int) (w : World) (h0 : IsV EElement w v0 x0 F0) :
    Calls Try.prog 18 #[v0, .int .i64 x1, .int .i64 x2] w (PI_TakeRequest (resTakeRequest x0 x1 x2) w) := by
  refine ((TakeRequest_f x0 x1 x2 v0 F0).made w (hol1 h0) (fun _ => rfl)).mono ?_
  rintro e w' ⟨s, -, rfl, hH, hn, hF, hB⟩
  have a1 := hH _ (List.mem_cons_self ..)
  simp only [fp, Pc.F, List.append_nil] at hn hF
  exact ⟨_, s.2, rfl, a1.2, hn, hF, hB⟩
theorem resTakeRequest_cv (x0 : Element) (x1 : Int) (x2 : Int) (_h0 : wtElement x0 ≤ 1048576) : cvElement ((resTakeRequest x0 x1 x2).1) ≤ 4294967296 := by
  unfold resTakeRequest
  split
  · rename_i h
    unfold okTakeRequest at h
    simp only [Bool.and_eq_true] at h
    obtain ⟨-, hl, hf⟩ := good_room h.1.1
    refine cvElem_le 1000 _ ?_ ?_
    · show (reqE x0 x1 x2).entries.length ≤ 1000
      unfold reqE
      split
      · simp only [List.length_set]; omega
      · split
        · simp only [List.length_append, List.length_cons, List.length_nil]; omega
        · omega
    · show ∀ x ∈ (reqE x0 x1 x2).entries, x.faces.length ≤ 1000
      unfold reqE
      split
      · rename_i y hy
        intro x hx
        rcases List.mem_or_eq_of_mem_set hx with h | rfl
        · have := hf x h; omega
        · have := hf y (List.mem_of_getElem? hy)
          have := putI_len y.faces x2
          show (putI y.faces x2).length ≤ 1000
          omega
      · split
        · intro x hx
          rcases List.mem_append.1 hx with h | h
          · have := hf x h; omega
          · simp at h; subst h; simp
        · intro x hx; have := hf x hx; omega
  · decide
end Go.Proofs.Ytgogcgkocjpgoaa
/- What every law's proof shares: the step from 'returns true, and nothing that was there has turned' to the row's post; how arguments read. -/
namespace Go.Proofs.Ytgogcgkocjpgoaa
open Go.ChangeShapes Go.WideShapes Go.ChangeAt Go.RowKit

theorem trodAll_below {H : Type} {enc : TypeId × Value → H} {P : Program} (hl : laidOutB P = true) {W W' : World} (hb : Below W.heap.size W W') :
    ∀ (ts : List TypeId) (vs : List Value) (ds : List (DataW H)) (ps : List MemPlace), (∀ t ∈ ts, P.readableRec t = true ∧ t < P.types.size) →
      DataW.TrodAll enc P W 0 (fun _ => true) true ts vs ds ps → (∀ x ∈ ps, x.block < W.heap.size) → DataW.TrodAll enc P W' 0 (fun b => decide (b < W.heap.size)) true ts vs ds ps
  | [], vs, ds, ps, _, h, _ => by obtain ⟨rfl, rfl, rfl⟩ := trodAll_nil h; exact rfl
  | t :: ts, vs, ds, ps, ht, h, hlt => by
    obtain ⟨v, vs', d, ds', p, q, rfl, rfl, rfl, h1, h2⟩ := trodAll_cons h
    have ⟨a, b⟩ := ht t (by simp)
    exact ⟨p, q, Below.trod hl a b h1 hb fun x hx => hlt x (by simp [hx]), trodAll_below hl hb ts vs' ds' q (fun t h => ht t (by simp [h])) h2 fun x hx => hlt x (by simp [hx]), rfl⟩

/-- A law returned true and left all that was there aS it was: the row's post. -/
theorem law_post {H : Type} {enc : TypeId × Value → H} {P : Program} {f : Func} {s : ChangeSpec} {tb : TypeId} (hl : laidOutB P = true) (hr : ∀ t ∈ f.params.toList, P.readableRec t = true ∧ t < P.types.size)
    (hb : P.underlying tb = some .bool) (hres : f.resultTypes = #[tb]) (hv : s.vars = []) {W W' : World} {args : Array Value} {ds gs : List (DataW H)} {before : List MemPlace}
    (hs : s.fn H ds = { results := [.lit (.bool true)], args := ds }) (hW : DataW.Whole enc P f.params.toList s.vars false W args.toList ds gs before) (hB : Below W.heap.size W W') :
    s.post enc P f false true false false W args (.bool true) W' := by
  have hlt := hW.lt
  have hW0 := hW
  obtain ⟨p, q, hA, hV, rfl, _, _⟩ := hW0
  rw [hv] at hV
  obtain ⟨rfl, rfl⟩ := trodVars_none hV
  refine ⟨ds, [], p ++ [], [], p, [], hW, ?_, ?_, ?_, hB.frame _, fun h => by cases h⟩
  · rw [List.append_nil, hs, hres]
    exact trodAll_mk1 (shut_bool hb true)
  · rw [List.append_nil, hs]
    exact trodAll_below hl hB _ _ _ _ hr hA fun x hx => hlt x (by simpa using hx)
  · rw [hv, List.append_nil, hs]; exact rfl

/-- what reads aS data at type t reads by E -/
def Reads (P : Program) {α : Type} (E : Elem α) (t : TypeId) : Prop :=
  ∀ {H : Type} {enc : TypeId × Value → H} {w : World} {fuel : Nat} {cs : List Value} {x : DataW H × List MemPlace}, DataW.trod enc P w 0 (fun _ => true) true fuel t cs = some x → ∃ y F, E.rep w cs y F

section
variable {P : Program}
theorem reads_int {t : TypeId} (ht : P.underlying t = some (.int .i64)) : Reads P EInt t := fun h => by
  obtain ⟨n, rfl, _, _⟩ := DataW.trod_int ht h; exact ⟨n, [], rfl, rfl⟩
theorem reads_cells {α : Type} {E : Elem α} {e : TypeId} (hsz : P.cellsOf e = E.sz) (he : Reads P E e) {H : Type} {enc : TypeId × Value → H} {w : World} {n b off : Nat} :
    ∀ (els : List (DataW H × List MemPlace)) (k : Nat), (∀ i, i < els.length → (w.cells? 0 ((⟨b, off, none⟩ : Addr).add ((k + i) * P.cellsOf e)) (P.cellsOf e)).bind (DataW.trod enc P w 0 (fun _ => true) true n e) = els[i]?) →
      ∃ ys F, ys.length = els.length ∧ Cells E w b (off + k * E.sz) ys F
  | [], _, _ => ⟨[], [], rfl, rfl⟩
  | x :: r, k, h => by
    have h0 := h 0 (by simp)
    simp only [Nat.add_zero, List.getElem?_cons_zero, Option.bind_eq_some_iff] at h0
    obtain ⟨cs, hc, hx⟩ := h0
    obtain ⟨y, F1, hy⟩ := he hx
    obtain ⟨ys, F2, hl, hys⟩ := reads_cells hsz he r (k + 1) fun i hi => by
      have := h (i + 1) (by simpa using hi)
      rw [show k + 1 + i = k + (i + 1) by omega]
      simpa using this
    refine ⟨y :: ys, F1 ++ F2, by simp [hl], cs, F1, F2, rfl, hy, fun j hj => ?_, by rwa [show off + k * E.sz + E.sz = off + (k + 1) * E.sz by rw [Nat.add_mul]; omega]⟩
    obtain ⟨_, hlen, hcell⟩ := World.cells?_some hc
    rw [← hcell j (by rw [hsz]; exact hj)]
    congr 1
    simp only [Addr.add, hsz]
    split <;> split <;> simp_all <;> omega
theorem reads_slice {α : Type} {E : Elem α} {t e : TypeId} (ht : P.underlying t = some (.slice e)) (hsz : P.cellsOf e = E.sz) (hz : 0 < E.sz) (he : Reads P E e) : Reads P (ESl E hz) t := fun h => by
  rcases DataW.trod_slice ht h with ⟨rfl, _⟩ | ⟨a, len, cap, elems, rest, n, rfl, rfl, _, _, hlc, hcm, hlen, hel, _, _⟩
  · exact ⟨[], [], _, rfl, none, 0, rfl, ⟨by simp, by simp⟩, .inl ⟨rfl, rfl, fun _ => rfl⟩⟩
  · by_cases h0 : len = 0
    · subst h0
      exact ⟨[], [], _, rfl, some a, cap, rfl, ⟨by simp, by omega⟩, .inl ⟨rfl, rfl, fun e => by cases e⟩⟩
    · have hs : a = ⟨a.block, a.off, none⟩ := by
        have := hel 0 (by omega)
        rw [List.getElem?_eq_getElem (by omega)] at this
        simp only [Option.bind_eq_some_iff] at this
        obtain ⟨cs, hc, _⟩ := this
        obtain ⟨_, hl2, hcell⟩ := World.cells?_some hc
        have h1 := hcell 0 (by omega)
        rw [List.getElem?_eq_getElem (by omega)] at h1
        simp [Addr.add, World.cell?] at h1
        split at h1 <;> simp_all
        cases a; simp_all
      obtain ⟨ys, F, hyl, hys⟩ := reads_cells hsz he elems 0 (n := n) (b := a.block) (off := a.off) (enc := _) (w := _) (by
        rw [← hs]; intro i hi; rw [Nat.zero_add]; exact hel i (by omega))
      refine ⟨ys, a.block :: F, _, rfl, some a, cap, by rw [hyl, hlen], ⟨by omega, by omega⟩, .inr ⟨a.block, a.off, F, by rw [← hs], ?_, rfl, by simpa using hys⟩⟩
      intro e; rw [e] at hyl; simp at hyl; omega
end

/-- the fields of a struct, one behind the other, each by its own reading -/
inductive FieldsOk (P : Program) : List Field → Nat → (α : Type) → Elem α → Prop
  | nil (off : Nat) : FieldsOk P [] off Unit EUnit
  | cons {f : Field} {r : List Field} {off : Nat} {α β : Type} {A : Elem α} {B : Elem β} (ho : f.offset = off) (hc : P.cellsOf f.type = A.sz) (hA : Reads P A f.type) (h : FieldsOk P r (off + A.sz) β B) : FieldsOk P (f :: r) off (α × β) (EProd A B)
theorem fields_read {P : Program} {H : Type} {enc : TypeId × Value → H} {w : World} {n : Nat} {cs : List Value} {fs : List Field} {off : Nat} {α : Type} {E : Elem α} (h : FieldsOk P fs off α E) :
    (∀ f ∈ fs, ∃ x, DataW.trod enc P w 0 (fun _ => true) true n f.type ((cs.drop f.offset).take (P.cellsOf f.type)) = some x) → off + E.sz = cs.length → ∃ y F, E.rep w (cs.drop off) y F := by
  induction h with
  | nil off => intro _ hl; exact ⟨(), [], List.drop_of_length_le (by simp [EUnit] at hl; omega), rfl⟩
  | @cons f r off α β A B ho hc hA _ ih =>
    intro hf hl
    obtain ⟨x, hx⟩ := hf f (by simp)
    obtain ⟨y, F1, hy⟩ := hA hx
    obtain ⟨y2, F2, hy2⟩ := ih (fun f h => hf f (by simp [h])) (by simp only [EProd] at hl; omega)
    subst ho
    exact ⟨(y, y2), F1 ++ F2, _, _, F1, F2, by rw [hc, ← List.drop_drop, List.take_append_drop], rfl, hy, hy2⟩
theorem reads_struct {P : Program} {t : TypeId} {fs : Array Field} {α : Type} {E : Elem α} (ht : P.underlying t = some (.struct fs)) (hC : P.cellsOf t = E.sz) (h : FieldsOk P fs.toList 0 α E) : Reads P E t := fun hh => by
  obtain ⟨xs, n, rfl, _, hcl, hxl, hx⟩ := DataW.trod_struct ht hh
  have := fields_read (enc := _) (w := _) (n := n) h (fun f hf => by
    obtain ⟨i, hi, rfl⟩ := List.getElem_of_mem hf
    have := hx i fs.toList[i] (by simp)
    rw [List.getElem?_eq_getElem (by simpa [hxl] using hi)] at this
    exact ⟨_, this⟩) (by rw [hcl, hC]; simp)
  simpa using this
end Go.Proofs.Ytgogcgkocjpgoaa
