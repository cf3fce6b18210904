/- The type Slot of the exact laws: how it reads, how it is owned; the walks of its size, copy, equality, mark and held. Written by wip/gentypes.py. -/
import Derived.Test.YtkcajnpdmgafjaaDoorTInt
import Derived.Test.YtkcajnpdmgafjaaDoorTStr
namespace Go.Proofs.YtkcajnpdmgafjaaDoor
open Go.RowKit
structure Slot where
  hav : Bool
  item : ByteArray
/-- read -/
def ESlot : Elem Slot where
  sz := 2
  rep _ cs x F := cs = [.bool x.hav, .string x.item] ∧ x.item.size ≤ maxLen ∧ F = []
  len h := by obtain ⟨rfl, s1, rfl⟩ := h; rfl
  lt h := by obtain ⟨rfl, s1, rfl⟩ := h; simp
  frame h _ := h
theorem one_ESlot : One ESlot := fun h u hu => by
  obtain ⟨rfl, s1, rfl⟩ := h
  simp only [List.mem_cons, List.not_mem_nil, or_false] at hu
  rcases hu with rfl | rfl
  · rfl
  · rfl
theorem scal_ESlot : Scal ESlot := fun h => by obtain ⟨rfl, s1, rfl⟩ := h; rfl
theorem info_Slot : (Tryd.prog.info? 184).map (fun i => (i.zero, i.size, i.bytes)) = some (some (.agg #[.bool false, .string ⟨#[]⟩]), 2, 24) := by kernel_rfl
def wtSlot (x : Slot) : Nat := x.item.size
def cntSlot (x : Slot) : Nat := cntB x.hav + cntS x.item
def mkSlot (k : Int) (x : Slot) : Slot := ⟨mkB (k) x.hav, mkS (k + cntB x.hav) x.item⟩
theorem cntSlot_wt (x : Slot) : cntSlot x ≤ 2 * (1 + wtSlot x) := by
  simp only [cntSlot, wtSlot, cntI, cntB, cntS]
  omega
theorem cntSlotS_wt (xs : List Slot) (h : wtL wtSlot xs ≤ 1048576) : cntL cntSlot xs ≤ 4294967296 := by
  have := cntL_wt cntSlot wtSlot 2 cntSlot_wt xs; omega
set_option maxHeartbeats 800000 in
theorem szSlot_c (v : Value) (x : Slot) (F : List Nat) (n : Int) (w : World) (h : IsV ESlot w v x F) (h0 : 0 ≤ n) (h1 : n ≤ 1048576) :
    Calls Tryd.prog 218 #[v, .int .i64 n] w fun e w' => e = .returned (.int .i64 (szr n (wtSlot x))) ∧ Below w.heap.size w w' := by
  obtain ⟨_, rfl, rfl, s1, rfl⟩ := h
  have hB0 : ∀ A : Obj, Below w.heap.size w (w.alloc A) := fun A => (Below.refl _ _).alloc (Nat.le_refl _) _
  unfold maxLen at s1
  unfold wtSlot
  go_enter Tryd.func218, Tryd.ntmps218
  go_wp2
  all_goals go_ret
  all_goals exact ⟨ret_int (by unfold szr; split <;> omega), hB0 _⟩
set_option maxHeartbeats 800000 in
theorem szSlotS_c (v : Value) (xs : List Slot) (F : List Nat) (n : Int) (w : World) (h : Sl ESlot w v xs F) (h0 : 0 ≤ n) (h1 : n ≤ 1048576) :
    Calls Tryd.prog 137 #[v, .int .i64 n] w fun e w' => e = .returned (.int .i64 (szr n (wtL wtSlot xs))) ∧ Below w.heap.size w w' := by
  obtain ⟨a, cap, rfl⟩ := h.slice
  have hl := h.len
  unfold maxLen at hl
  go_enter Tryd.func137, Tryd.ntmps137
  by_cases hn : n < xs.length
  · go_wp2
    go_ret
    exact ⟨ret_int (szr_no (by have := wtL_le wtSlot xs 0; omega)).symm, Below.refl _ _⟩
  go_wp2
  go_loopw [1, 5] (fun l i wr => ∃ k : Nat, k ≤ xs.length ∧ i = .int .i64 k ∧ l = .int .i64 (n - xs.length - psum wtSlot xs k) ∧ (psum wtSlot xs k : Int) + xs.length ≤ n ∧ Below w.heap.size w wr) (fun _ i _ => xs.length - (intOf i).toNat)
  case atStart => exact ⟨0, Nat.zero_le _, rfl, by rw [psum_zero]; simp, by rw [psum_zero]; omega, Below.refl _ _⟩
  case round =>
    obtain ⟨k, hk, rfl, rfl, hle, hB⟩ := hrel
    by_cases hlt : k < xs.length
    · have hsn := psum_snoc wtSlot xs k hlt
      have hsl := wtL_le wtSlot xs (k + 1)
      obtain ⟨b, off, _, F1, rfl, hx, -, ja⟩ := (h.below (by decide) hB).at k hlt
      obtain ⟨rfl, s1, rfl⟩ := id hx
      have a0 := ja 0 (by decide)
      have a1 := ja 1 (by decide)
      simp only [show ESlot.sz = 2 from rfl, Nat.mul_one, Nat.add_zero, List.getElem?_cons_zero, List.getElem?_cons_succ] at a0 a1
      clear ja
      have hS := Lib.hid hsn; clear hsn
      go_wp2_with fail
      refine (szSlot_c _ xs[k] _ _ _ ⟨_, rfl, hx⟩ (by omega) (by omega)).mono ?_
      rintro e w1 ⟨rfl, hb1⟩
      have hB := tr hB hb1 (Nat.le_refl _)
      rcases szr_or (n - xs.length - psum wtSlot xs k) (wtSlot xs[k]) with ⟨e1, l1⟩ | ⟨e1, l1⟩
      · simp only [e1]
        have z1 := Lib.hid e1; clear e1
        go_wp2_with fail
        go_ret
        exact ⟨ret_int (szr_no (by have := hS.out; omega)).symm, hB⟩
      · simp only [e1]
        have z1 := Lib.hid e1; clear e1
        go_wp2_with fail
        exact ⟨⟨k + 1, by omega, by go_num, congrArg (Value.int .i64) (by have := hS.out; omega), by have := hS.out; omega, hB⟩, by simp [intOf]; omega⟩
    · have hk : k = xs.length := by omega
      subst hk
      go_wp2_with fail
      go_ret
      exact ⟨ret_int (by rw [szr_yes (by rw [wtL_eq]; omega), wtL_eq]; all_goals omega), hB⟩
set_option maxHeartbeats 1600000 in
theorem toSlot_c (v : Value) (x : Slot) (F : List Nat) (w : World) (h : IsV ESlot w v x F) (hl : wtSlot x ≤ 1048576) :
    Calls Tryd.prog 220 #[v] w (RetV ESlot x w) := by
  obtain ⟨_, rfl, rfl, s1, rfl⟩ := h
  have hB0 : ∀ A B C : Obj, Below w.heap.size w (((w.alloc A).alloc B).alloc C) := fun A B C => (((Below.refl _ _).alloc (Nat.le_refl _) _).alloc (by simp) _).alloc (by simp <;> omega) _
  go_enter Tryd.func220, Tryd.ntmps220
  go_wp2_with fail
  refine bodyPost_ret (v := .agg #[.bool x.hav, .string x.item]) ?_ rfl ?_
  · simp [results, Tryd.results220, go_sem]
  · exact ⟨_, [], rfl, ⟨_, rfl, rfl, s1, rfl⟩, by simp, by simp, by repeat (first | exact Below.refl _ _ | refine Below.setCell ?_ (by simp <;> omega) _ | refine Below.alloc ?_ (by simp <;> omega) _)⟩
set_option maxHeartbeats 1600000 in
theorem toSlotS_c (v : Value) (xs : List Slot) (F : List Nat) (w : World) (h : Sl ESlot w v xs F) (hl1 : wtL wtSlot xs ≤ 1048576) :
    Calls Tryd.prog 143 #[v] w (RetNew ESlot 184 xs w) := by
  obtain ⟨a, cap, rfl⟩ := h.slice
  have hl2 : xs.length ≤ 1048576 := by unfold wtL at hl1; omega
  have hmk := fun w => run_make_rows (P := Tryd.prog) 67 184 (.agg #[.bool false, .string ⟨#[]⟩]) 2 24 Tryd.underlying67 info_Slot xs.length (by omega) (by omega) w
  have hm := Lib.hid (Ow.made (E := ESlot) (t := 184) w #[.bool false, .string ⟨#[]⟩] xs.length (⟨false, ⟨#[]⟩⟩ : Slot) rfl (fun _ => ⟨rfl, (Nat.zero_le _), rfl⟩) (by unfold maxLen; omega))
  go_enter Tryd.func143, Tryd.ntmps143
  go_wp2
  clear hmk
  go_loopw [4] (fun i wr => ∃ k : Nat, k ≤ xs.length ∧ i = .int .i64 k ∧ ∃ F, Ow ESlot 184 wr (.slice (some ⟨w.heap.size, 0, none⟩) xs.length xs.length) (xs.take k ++ List.replicate (xs.length - k) (⟨false, ⟨#[]⟩⟩ : Slot)) F ∧ F.Nodup ∧ (∀ b ∈ F, w.heap.size ≤ b) ∧ Below w.heap.size w wr) (fun i _ => xs.length - (intOf i).toNat)
  case atStart => exact ⟨0, Nat.zero_le _, rfl, _, by simpa [show ESlot.sz = 2 from rfl, Value.cells] using hm.out, by simp, by simp, (Below.refl _ _).alloc (Nat.le_refl _) _⟩
  case round =>
    obtain ⟨k, hk, rfl, F2, ho, hn, hF, hB⟩ := hrel
    by_cases hlt : k < xs.length
    · obtain ⟨b, off, _, F1, rfl, hx, -, ja⟩ := (h.below (by decide) hB).at k hlt
      obtain ⟨rfl, s1, rfl⟩ := id hx
      have a0 := ja 0 (by decide)
      have a1 := ja 1 (by decide)
      simp only [show ESlot.sz = 2 from rfl, Nat.mul_one, Nat.add_zero, List.getElem?_cons_zero, List.getElem?_cons_succ] at a0 a1
      clear ja
      have hst := Lib.hid (set_take_rep xs (⟨false, ⟨#[]⟩⟩ : Slot) k xs.length rfl hlt xs[k] (by simp))
      have hws : wtSlot xs[k] ≤ 1048576 := by have := psum_snoc wtSlot xs k hlt; have := wtL_le wtSlot xs (k + 1); omega
      have HO0 := Lib.hid ho
      clear ho
      go_wp2_with fail
      refine (toSlot_c _ xs[k] _ _ ⟨_, rfl, hx⟩ hws).mono ?_
      rintro e w1 ⟨_, K, rfl, ⟨cs1, rfl, oo⟩, nn, gg, hb1⟩
      have ho := HO0.out.below hb1
      obtain ⟨hgF, hcell, hput⟩ := ho.put hn k (by simp; omega)
      have hlt2 := HO0.out.lt
      obtain ⟨F3, ho3, hn3, hs3⟩ := hput cs1 xs[k] K oo nn (fun b hb hc => by have := gg b hb; have := hlt2 b hc; omega)
      obtain ⟨rfl, -, rfl⟩ := id oo
      rw [hst.out] at ho3
      simp only [show ESlot.sz = 2 from rfl, Nat.mul_one, putCells] at ho3
      obtain ⟨⟨q0_, z0⟩, f0⟩ := hcell 0 (by decide)
      obtain ⟨⟨q1_, z1⟩, f1⟩ := hcell 1 (by decide)
      simp only [show ESlot.sz = 2 from rfl, Nat.mul_one, Nat.add_zero] at z0 f0 z1 f1
      have HO := Lib.hid ho3
      have hB1 := tr hB hb1 (Nat.le_refl _)
      have hF3 : ∀ b ∈ F3, w.heap.size ≤ b := fun b hb => by
        rcases hs3 b hb with hb | hb
        · exact hF b hb
        · have := gg b hb; have := hB.size; omega
      clear ho ho3 hput hcell HO0 oo
      go_wp2_with fail
      exact ⟨⟨k + 1, by omega, by go_num, F3, HO.out, hn3, hF3, by (repeat (refine Below.setCell ?_ (by simp) _)); exact hB1⟩, by simp [intOf]; omega⟩
    · have hk : k = xs.length := by omega
      subst hk
      have HO := Lib.hid ho
      clear ho
      go_wp2_with fail
      go_ret
      exact ⟨_, F2, rfl, by simpa using HO.out, hn, hF, hB⟩
set_option maxHeartbeats 1600000 in
theorem eqSlot_c (va vb : Value) (x : Slot) (Fa Fb : List Nat) (w : World) (ha : IsV ESlot w va x Fa) (hb : IsV ESlot w vb x Fb) :
    Calls Tryd.prog 224 #[va, vb] w fun e w' => e = .returned (.bool true) ∧ Below w.heap.size w w' := by
  obtain ⟨_, rfl, rfl, s1, rfl⟩ := ha
  obtain ⟨_, rfl, rfl, t1, rfl⟩ := hb
  have hB0 : ∀ A B : Obj, Below w.heap.size w ((w.alloc A).alloc B) := fun A B => ((Below.refl _ _).alloc (Nat.le_refl _) _).alloc (by simp) _
  have hE : ∀ z : Int, (z != z) = false := fun z => by simp
  go_enter Tryd.func224, Tryd.ntmps224
  go_wp2_with fail
  go_ret
  exact ⟨rfl, hB0 _ _⟩
set_option maxHeartbeats 1600000 in
theorem eqSlotS_c (va vb : Value) (xs : List Slot) (Fa Fb : List Nat) (w : World) (ha : Sl ESlot w va xs Fa) (hb : Sl ESlot w vb xs Fb) :
    Calls Tryd.prog 149 #[va, vb] w fun e w' => e = .returned (.bool true) ∧ Below w.heap.size w w' := by
  obtain ⟨a, ca, rfl⟩ := ha.slice
  obtain ⟨b, cb, rfl⟩ := hb.slice
  have hl := ha.len
  unfold maxLen at hl
  go_enter Tryd.func149, Tryd.ntmps149
  go_wp2
  go_loopw [5] (fun i wr => ∃ k : Nat, k ≤ xs.length ∧ i = .int .i64 k ∧ Below w.heap.size w wr) (fun i _ => xs.length - (intOf i).toNat)
  case atStart => exact ⟨0, Nat.zero_le _, rfl, Below.refl _ _⟩
  case round =>
    obtain ⟨k, hk, rfl, hB⟩ := hrel
    by_cases hlt : k < xs.length
    · obtain ⟨ba, oa, _, F_, rfl, hx, -, ja⟩ := (ha.below (by decide) hB).at k hlt
      obtain ⟨bb, ob, _, G_, rfl, hy, -, jb⟩ := (hb.below (by decide) hB).at k hlt
      obtain ⟨rfl, s1, rfl⟩ := id hx
      obtain ⟨rfl, t1, rfl⟩ := id hy
      have a0 := ja 0 (by decide); have b0 := jb 0 (by decide)
      have a1 := ja 1 (by decide); have b1 := jb 1 (by decide)
      simp only [show ESlot.sz = 2 from rfl, Nat.mul_one, Nat.add_zero, List.getElem?_cons_zero, List.getElem?_cons_succ] at a0 b0 a1 b1
      clear ja jb
      go_wp2_with fail
      go_region_held3 (fun w' => w'.cell? ⟨ba, oa + k * 2, none⟩ = some (.bool xs[k].hav) ∧ w'.cell? ⟨ba, oa + k * 2 + 1, none⟩ = some (.string xs[k].item) ∧ w'.cell? ⟨bb, ob + k * 2, none⟩ = some (.bool xs[k].hav) ∧ w'.cell? ⟨bb, ob + k * 2 + 1, none⟩ = some (.string xs[k].item))
        (first | go_keep | (exact ⟨kc hb1 (by simpa using a0), kc hb1 (by simpa using a1), kc hb1 (by simpa using b0), kc hb1 (by simpa using b1)⟩))
        (first | (go_at_call 224; refine (eqSlot_c _ _ xs[k] _ _ wr.drew ⟨_, rfl, ESlot.frame hx (fun _ _ => rfl)⟩ ⟨_, rfl, ESlot.frame hy (fun _ _ => rfl)⟩).mono ?_; rintro e w1 ⟨rfl, hb1⟩))
      go_wp2_with fail
      exact ⟨⟨k + 1, by omega, by go_num, tr (belowDrewN hB 1) hb1 (Nat.le_refl _)⟩, by simp [intOf]; omega⟩
    · go_wp2_with fail
      go_ret
      exact ⟨rfl, hB⟩
set_option maxHeartbeats 1600000 in
theorem markSlotS_c (v : Value) (xs : List Slot) (F : List Nat) (k0 : Int) (w : World) (h : Ow ESlot 184 w v xs F) (hn : F.Nodup) (h0 : 0 ≤ k0) (h1 : k0 + cntL cntSlot xs ≤ 1099511627776) :
    Calls Tryd.prog 150 #[v, .int .i64 k0] w (RetMark ESlot 184 v (k0 + cntL cntSlot xs) (markL mkSlot cntSlot k0 xs) F w) := by
  obtain ⟨a, cap, rfl⟩ := h.slice
  have hl := h.len
  unfold maxLen at hl
  go_enter Tryd.func150, Tryd.ntmps150
  go_wp2
  go_loopw [1, 5] (fun kk i wr => ∃ k : Nat, k ≤ xs.length ∧ i = .int .i64 k ∧ kk = .int .i64 (k0 + psum cntSlot xs k) ∧ Ow ESlot 184 wr (.slice a xs.length cap) ((markL mkSlot cntSlot k0 xs).take k ++ xs.drop k) F ∧ Keep F w wr) (fun _ i _ => xs.length - (intOf i).toNat)
  case atStart => exact ⟨0, Nat.zero_le _, rfl, by rw [psum_zero]; simp, by simpa using h, Keep.refl _ _⟩
  case round =>
    obtain ⟨k, hk, rfl, rfl, ho, hK⟩ := hrel
    by_cases hlt : k < xs.length
    · have hln : k < ((markL mkSlot cntSlot k0 xs).take k ++ xs.drop k).length := by simp [markL_len]; omega
      have hsn := Lib.hid (psum_snoc cntSlot xs k hlt)
      have hsl : k0 + psum cntSlot xs k + cntSlot xs[k] ≤ 1099511627776 := by have := hsn.out; have := cntL_le cntSlot xs (k + 1); omega
      obtain ⟨g, rfl⟩ := ho.head k hln
      obtain ⟨A, c, B, Fi, hrow, hA, hcl, hx, hnF, hgF, hgm, hsub, back⟩ := ho.inPlace hn k hln
      rw [mid_get _ _ _ (markL_len ..) hlt] at hx
      simp only [show ESlot.sz = 2 from rfl] at hA
      have hst := Lib.hid (markL_step mkSlot cntSlot xs k0 k hlt)
      simp only [cntB, cntS, cntSlot] at hsl
      obtain ⟨rfl, s1, rfl⟩ := hx
      have KK := Keep.refl (g :: []) wr
      clear ho
      have z0 := hrow.cellMid (p := k * 2) (j := 0) (by omega) (by simp)
      have z1 := hrow.cellMid (p := k * 2 + 1) (j := 1) (by omega) (by simp)
      simp only [List.getElem?_cons_zero, List.getElem?_cons_succ] at z0 z1
      have hfz := hrow.frozens
      have HBk := Lib.hid back; clear back
      go_wp2_with fail
      refine (markText_c (k0 + psum cntSlot xs k + 1) _ (by omega) (by omega)).mono ?_
      rintro e w1 ⟨rfl, hb1⟩
      have hrow : Row w1 g 184 (A ++ [.bool ((k0 + psum cntSlot xs k) % 3 == 0), .string xs[k].item] ++ B) := Row.keepK (by exact (Row.setMid hrow (p := k * 2) (j := 0) (by omega) (by simp) (.bool ((k0 + psum cntSlot xs k) % 3 == 0)))) (Keep.ofBelow (F := []) hb1) (by simp)
      have KK := Keep.trans (F := g :: []) (a := wr) (by (repeat (refine Keep.setCell ?_ (by simp) _)); exact KK) (Keep.mono (Keep.ofBelow (F := []) hb1) (fun b hb _ => by simp at hb))
      clear hb1
      have z0 := hrow.cellMid (p := k * 2) (j := 0) (by omega) (by simp)
      have z1 := hrow.cellMid (p := k * 2 + 1) (j := 1) (by omega) (by simp)
      simp only [List.getElem?_cons_zero, List.getElem?_cons_succ] at z0 z1
      have hfz := hrow.frozens
      go_wp2_with fail
      have HB := HBk.out _ [.bool ((k0 + psum cntSlot xs k) % 3 == 0), .string (mtext (k0 + psum cntSlot xs k + 1))] (mkSlot (k0 + psum cntSlot xs k) xs[k]) (by exact (Row.setMid hrow (p := k * 2 + 1) (j := 1) (by omega) (by simp) (.string (mtext (k0 + psum cntSlot xs k + 1))))) ⟨rfl, mtext_len _, rfl⟩ (by (repeat (refine Keep.setCell ?_ (by simp) _)); exact KK)
      rw [hst.out] at HB
      exact ⟨⟨k + 1, by omega, by go_num, congrArg (Value.int .i64) (by rw [hsn.out]; simp only [cntB, cntS, cntSlot]; omega), HB, by (repeat (refine Keep.setCell ?_ hgm _)); exact hK.trans (KK.mono (fun b hb _ => by rcases List.mem_cons.1 hb with rfl | hb; exact hgm; exact hsub b hb))⟩, by simp [intOf]; omega⟩
    · have hk : k = xs.length := by omega
      subst hk
      have HO := Lib.hid ho
      clear ho
      go_wp2
      go_ret
      exact ⟨ret_int (by rw [cntL_eq]), by simpa [markL_len, List.take_of_length_le] using HO.out, hK⟩
set_option maxHeartbeats 1600000 in
theorem heldSlotS_c (v : Value) (xs : List Slot) (F : List Nat) (k0 : Int) (w : World) (h : Sl ESlot w v (markL mkSlot cntSlot k0 xs) F) (h0 : 0 ≤ k0) (h1 : k0 + cntL cntSlot xs ≤ 1099511627776) :
    Calls Tryd.prog 151 #[v, .int .i64 k0] w fun e w' => e = .returned (.int .i64 (k0 + cntL cntSlot xs)) ∧ Below w.heap.size w w' := by
  obtain ⟨a, cap, rfl⟩ := h.slice
  have hl := h.len
  unfold maxLen at hl
  have hml := Lib.hid (markL_len mkSlot cntSlot xs k0)
  rw [hml.out] at hl
  rw [hml.out]
  have hE : ∀ z : Int, (z != z) = false := fun z => by simp
  go_enter Tryd.func151, Tryd.ntmps151
  go_wp2
  go_loopw [1, 5] (fun kk i wr => ∃ k : Nat, k ≤ xs.length ∧ i = .int .i64 k ∧ kk = .int .i64 (k0 + psum cntSlot xs k) ∧ Below w.heap.size w wr) (fun _ i _ => xs.length - (intOf i).toNat)
  case atStart => exact ⟨0, Nat.zero_le _, rfl, by rw [psum_zero]; simp, Below.refl _ _⟩
  case round =>
    obtain ⟨k, hk, rfl, rfl, hB⟩ := hrel
    by_cases hlt : k < xs.length
    · have hsn := Lib.hid (psum_snoc cntSlot xs k hlt)
      have hsl : k0 + psum cntSlot xs k + cntSlot xs[k] ≤ 1099511627776 := by have := hsn.out; have := cntL_le cntSlot xs (k + 1); omega
      obtain ⟨b, off, _, F1, hab, hx, -, ja⟩ := (h.below (by decide) hB).at k (by rw [hml.out]; exact hlt)
      rw [markL_get mkSlot cntSlot xs k0 k hlt] at hx
      rw [hml.out] at h
      subst hab
      simp only [cntB, cntS, cntSlot] at hsl
      obtain ⟨rfl, s1, rfl⟩ := hx
      have a0 : wr.cell? ⟨b, off + k * 2, none⟩ = some (.bool ((k0 + psum cntSlot xs k) % 3 == 0)) := by have := ja 0 (by decide); simp only [show ESlot.sz = 2 from rfl, Nat.mul_one, Nat.add_zero, List.getElem?_cons_zero, List.getElem?_cons_succ] at this; exact this
      have a1 : wr.cell? ⟨b, off + k * 2 + 1, none⟩ = some (.string (mtext (k0 + psum cntSlot xs k + 1))) := by have := ja 1 (by decide); simp only [show ESlot.sz = 2 from rfl, Nat.mul_one, Nat.add_zero, List.getElem?_cons_zero, List.getElem?_cons_succ] at this; exact this
      clear ja
      go_wp2_with fail
      go_region_held3 (fun w' => w'.cell? ⟨b, off + k * 2 + 1, none⟩ = some (.string (mtext (k0 + psum cntSlot xs k + 1)))) (first | go_keep | (exact kc hb1 a1) | (exact a1))
        (first | (go_at_call 121; refine (markText_c (k0 + psum cntSlot xs k + 1) wr.drew (by omega) (by omega)).mono ?_; rintro e w1 ⟨rfl, hb1⟩))
      have a0 := kc hb1 (show wr.drew.cell? _ = _ from a0)
      have a1 := kc hb1 (show wr.drew.cell? _ = _ from a1)
      have hB := tr (belowDrewN hB 1) hb1 (Nat.le_refl _)
      clear hb1
      go_wp2_with fail
      exact ⟨⟨k + 1, by omega, by go_num, congrArg (Value.int .i64) (by rw [hsn.out]; simp only [cntB, cntS, cntSlot]; omega), hB⟩, by simp [intOf]; omega⟩
    · have hk : k = xs.length := by omega
      subst hk
      go_wp2
      go_ret
      exact ⟨ret_int (by rw [cntL_eq]), hB⟩
end Go.Proofs.YtkcajnpdmgafjaaDoor
