/- The type Hold of the exact laws: how it reads, how it is owned; the walks of its size, copy, equality, mark and held. Written by wip/gentypes.py. -/
import Derived.Test.YtidephmobajikaaDoorTInt
namespace Go.Proofs.YtidephmobajikaaDoor
open Go.RowKit
structure Hold where
  number : Int
  untl : Int
/-- read -/
def EHold : Elem Hold where
  sz := 2
  rep _ cs x F := cs = [.int .i64 x.number, .int .i64 x.untl] ∧ F = []
  len h := by obtain ⟨rfl, rfl⟩ := h; rfl
  lt h := by obtain ⟨rfl, rfl⟩ := h; simp
  frame h _ := h
theorem one_EHold : One EHold := fun h u hu => by
  obtain ⟨rfl, rfl⟩ := h
  simp only [List.mem_cons, List.not_mem_nil, or_false] at hu
  rcases hu with rfl | rfl
  · rfl
  · rfl
theorem scal_EHold : Scal EHold := fun h => by obtain ⟨rfl, rfl⟩ := h; rfl
theorem info_Hold : (Tryd.prog.info? 195).map (fun i => (i.zero, i.size, i.bytes)) = some (some (.agg #[.int .i64 0, .int .i64 0]), 2, 16) := by kernel_rfl
def cntHold (x : Hold) : Nat := cntI x.number + cntI x.untl
def mkHold (k : Int) (x : Hold) : Hold := ⟨mkI (k) x.number, mkI (k + cntI x.number) x.untl⟩
theorem cntHold_wt (x : Hold) : cntHold x ≤ 2 * (1 + (fun _ => 0) x) := by
  simp only [cntHold, cntI, cntB, cntS]
  omega
theorem cntHoldS_wt (xs : List Hold) (h : wtL (fun _ => 0) xs ≤ 1048576) : cntL cntHold xs ≤ 4294967296 := by
  have := cntL_wt cntHold (fun _ => 0) 2 cntHold_wt xs; omega
set_option maxHeartbeats 800000 in
theorem szHoldS_c (v : Value) (xs : List Hold) (F : List Nat) (n : Int) (w : World) (h : Sl EHold w v xs F) (h0 : 0 ≤ n) (h1 : n ≤ 1048576) :
    Calls Tryd.prog 154 #[v, .int .i64 n] w fun e w' => e = .returned (.int .i64 (szr n (wtL (fun _ => 0) xs))) ∧ Below w.heap.size w w' := by
  obtain ⟨a, cap, rfl⟩ := h.slice
  have hl := h.len
  unfold maxLen at hl
  rw [wtL_zero]
  go_enter Tryd.func154, Tryd.ntmps154
  go_wp2
  all_goals go_ret
  all_goals exact ⟨ret_int (by unfold szr; split <;> omega), Below.refl _ _⟩
set_option maxHeartbeats 1600000 in
theorem toHold_c (v : Value) (x : Hold) (F : List Nat) (w : World) (h : IsV EHold w v x F)  :
    Calls Tryd.prog 201 #[v] w (RetV EHold x w) := by
  obtain ⟨_, rfl, rfl, rfl⟩ := h
  have hB0 : ∀ A B C : Obj, Below w.heap.size w (((w.alloc A).alloc B).alloc C) := fun A B C => (((Below.refl _ _).alloc (Nat.le_refl _) _).alloc (by simp) _).alloc (by simp <;> omega) _
  go_enter Tryd.func201, Tryd.ntmps201
  go_wp2_with fail
  refine bodyPost_ret (v := .agg #[.int .i64 x.number, .int .i64 x.untl]) ?_ rfl ?_
  · simp [results, Tryd.results201, go_sem]
  · exact ⟨_, [], rfl, ⟨_, rfl, rfl, rfl⟩, by simp, by simp, by repeat (first | exact Below.refl _ _ | refine Below.setCell ?_ (by simp <;> omega) _ | refine Below.alloc ?_ (by simp <;> omega) _)⟩
set_option maxHeartbeats 1600000 in
theorem toHoldS_c (v : Value) (xs : List Hold) (F : List Nat) (w : World) (h : Sl EHold w v xs F) (hl1 : wtL (fun _ => 0) xs ≤ 1048576) :
    Calls Tryd.prog 158 #[v] w (RetNew EHold 195 xs w) := by
  obtain ⟨a, cap, rfl⟩ := h.slice
  have hl2 : xs.length ≤ 1048576 := by unfold wtL at hl1; omega
  have hmk := fun w => run_make_rows (P := Tryd.prog) 98 195 (.agg #[.int .i64 0, .int .i64 0]) 2 16 Tryd.underlying98 info_Hold xs.length (by omega) (by omega) w
  have hm := Lib.hid (Ow.made (E := EHold) (t := 195) w #[.int .i64 0, .int .i64 0] xs.length (⟨0, 0⟩ : Hold) rfl (fun _ => ⟨rfl, rfl⟩) (by unfold maxLen; omega))
  go_enter Tryd.func158, Tryd.ntmps158
  go_wp2
  clear hmk
  go_loopw [4] (fun i wr => ∃ k : Nat, k ≤ xs.length ∧ i = .int .i64 k ∧ ∃ F, Ow EHold 195 wr (.slice (some ⟨w.heap.size, 0, none⟩) xs.length xs.length) (xs.take k ++ List.replicate (xs.length - k) (⟨0, 0⟩ : Hold)) F ∧ F.Nodup ∧ (∀ b ∈ F, w.heap.size ≤ b) ∧ Below w.heap.size w wr) (fun i _ => xs.length - (intOf i).toNat)
  case atStart => exact ⟨0, Nat.zero_le _, rfl, _, by simpa [show EHold.sz = 2 from rfl, Value.cells] using hm.out, by simp, by simp, (Below.refl _ _).alloc (Nat.le_refl _) _⟩
  case round =>
    obtain ⟨k, hk, rfl, F2, ho, hn, hF, hB⟩ := hrel
    by_cases hlt : k < xs.length
    · obtain ⟨b, off, _, F1, rfl, hx, -, ja⟩ := (h.below (by decide) hB).at k hlt
      obtain ⟨rfl, rfl⟩ := id hx
      have a0 := ja 0 (by decide)
      have a1 := ja 1 (by decide)
      simp only [show EHold.sz = 2 from rfl, Nat.mul_one, Nat.add_zero, List.getElem?_cons_zero, List.getElem?_cons_succ] at a0 a1
      clear ja
      have hst := Lib.hid (set_take_rep xs (⟨0, 0⟩ : Hold) k xs.length rfl hlt xs[k] (by simp))
      have HO0 := Lib.hid ho
      clear ho
      go_wp2_with fail
      refine (toHold_c _ xs[k] _ _ ⟨_, rfl, hx⟩).mono ?_
      rintro e w1 ⟨_, K, rfl, ⟨cs1, rfl, oo⟩, nn, gg, hb1⟩
      have ho := HO0.out.below hb1
      obtain ⟨hgF, hcell, hput⟩ := ho.put hn k (by simp; omega)
      have hlt2 := HO0.out.lt
      obtain ⟨F3, ho3, hn3, hs3⟩ := hput cs1 xs[k] K oo nn (fun b hb hc => by have := gg b hb; have := hlt2 b hc; omega)
      obtain ⟨rfl, rfl⟩ := id oo
      rw [hst.out] at ho3
      simp only [show EHold.sz = 2 from rfl, Nat.mul_one, putCells] at ho3
      obtain ⟨⟨q0_, z0⟩, f0⟩ := hcell 0 (by decide)
      obtain ⟨⟨q1_, z1⟩, f1⟩ := hcell 1 (by decide)
      simp only [show EHold.sz = 2 from rfl, Nat.mul_one, Nat.add_zero] at z0 f0 z1 f1
      have HO := Lib.hid ho3
      have hB1 := tr hB hb1 (Nat.le_refl _)
      have hF3 : ∀ b ∈ F3, w.heap.size ≤ b := fun b hb => by
        rcases hs3 b hb with hb | hb
        · exact hF b hb
        · have := gg b hb; have := hB.size; omega
      clear ho ho3 hput hcell HO0 oo
      go_wp2_with fail
      exact ⟨⟨k + 1, by omega, by go_num, F3, HO.out, hn3, hF3, by (repeat (refine Below.setCell ?_ (by simp) _)); exact hB1⟩, by simp [intOf]; omega⟩
    · have hk : k = xs.length := by omega
      subst hk
      have HO := Lib.hid ho
      clear ho
      go_wp2_with fail
      go_ret
      exact ⟨_, F2, rfl, by simpa using HO.out, hn, hF, hB⟩
set_option maxHeartbeats 1600000 in
theorem eqHold_c (va vb : Value) (x : Hold) (Fa Fb : List Nat) (w : World) (ha : IsV EHold w va x Fa) (hb : IsV EHold w vb x Fb) :
    Calls Tryd.prog 207 #[va, vb] w fun e w' => e = .returned (.bool true) ∧ Below w.heap.size w w' := by
  obtain ⟨_, rfl, rfl, rfl⟩ := ha
  obtain ⟨_, rfl, rfl, rfl⟩ := hb
  have hB0 : ∀ A B : Obj, Below w.heap.size w ((w.alloc A).alloc B) := fun A B => ((Below.refl _ _).alloc (Nat.le_refl _) _).alloc (by simp) _
  have hE : ∀ z : Int, (z != z) = false := fun z => by simp
  go_enter Tryd.func207, Tryd.ntmps207
  go_wp2_with fail
  go_ret
  exact ⟨rfl, hB0 _ _⟩
set_option maxHeartbeats 1600000 in
theorem eqHoldS_c (va vb : Value) (xs : List Hold) (Fa Fb : List Nat) (w : World) (ha : Sl EHold w va xs Fa) (hb : Sl EHold w vb xs Fb) :
    Calls Tryd.prog 163 #[va, vb] w fun e w' => e = .returned (.bool true) ∧ Below w.heap.size w w' := by
  obtain ⟨a, ca, rfl⟩ := ha.slice
  obtain ⟨b, cb, rfl⟩ := hb.slice
  have hl := ha.len
  unfold maxLen at hl
  go_enter Tryd.func163, Tryd.ntmps163
  go_wp2
  go_loopw [5] (fun i wr => ∃ k : Nat, k ≤ xs.length ∧ i = .int .i64 k ∧ Below w.heap.size w wr) (fun i _ => xs.length - (intOf i).toNat)
  case atStart => exact ⟨0, Nat.zero_le _, rfl, Below.refl _ _⟩
  case round =>
    obtain ⟨k, hk, rfl, hB⟩ := hrel
    by_cases hlt : k < xs.length
    · obtain ⟨ba, oa, _, F_, rfl, hx, -, ja⟩ := (ha.below (by decide) hB).at k hlt
      obtain ⟨bb, ob, _, G_, rfl, hy, -, jb⟩ := (hb.below (by decide) hB).at k hlt
      obtain ⟨rfl, rfl⟩ := id hx
      obtain ⟨rfl, rfl⟩ := id hy
      have a0 := ja 0 (by decide); have b0 := jb 0 (by decide)
      have a1 := ja 1 (by decide); have b1 := jb 1 (by decide)
      simp only [show EHold.sz = 2 from rfl, Nat.mul_one, Nat.add_zero, List.getElem?_cons_zero, List.getElem?_cons_succ] at a0 b0 a1 b1
      clear ja jb
      go_wp2_with fail
      go_region_held3 (fun w' => w'.cell? ⟨ba, oa + k * 2, none⟩ = some (.int .i64 xs[k].number) ∧ w'.cell? ⟨ba, oa + k * 2 + 1, none⟩ = some (.int .i64 xs[k].untl) ∧ w'.cell? ⟨bb, ob + k * 2, none⟩ = some (.int .i64 xs[k].number) ∧ w'.cell? ⟨bb, ob + k * 2 + 1, none⟩ = some (.int .i64 xs[k].untl))
        (first | go_keep | (exact ⟨kc hb1 (by simpa using a0), kc hb1 (by simpa using a1), kc hb1 (by simpa using b0), kc hb1 (by simpa using b1)⟩))
        (first | (go_at_call 207; refine (eqHold_c _ _ xs[k] _ _ wr.drew ⟨_, rfl, EHold.frame hx (fun _ _ => rfl)⟩ ⟨_, rfl, EHold.frame hy (fun _ _ => rfl)⟩).mono ?_; rintro e w1 ⟨rfl, hb1⟩))
      go_wp2_with fail
      exact ⟨⟨k + 1, by omega, by go_num, tr (belowDrewN hB 1) hb1 (Nat.le_refl _)⟩, by simp [intOf]; omega⟩
    · go_wp2_with fail
      go_ret
      exact ⟨rfl, hB⟩
set_option maxHeartbeats 1600000 in
theorem markHoldS_c (v : Value) (xs : List Hold) (F : List Nat) (k0 : Int) (w : World) (h : Ow EHold 195 w v xs F) (hn : F.Nodup) (h0 : 0 ≤ k0) (h1 : k0 + cntL cntHold xs ≤ 1099511627776) :
    Calls Tryd.prog 166 #[v, .int .i64 k0] w (RetMark EHold 195 v (k0 + cntL cntHold xs) (markL mkHold cntHold k0 xs) F w) := by
  obtain ⟨a, cap, rfl⟩ := h.slice
  have hl := h.len
  unfold maxLen at hl
  go_enter Tryd.func166, Tryd.ntmps166
  go_wp2
  go_loopw [1, 5] (fun kk i wr => ∃ k : Nat, k ≤ xs.length ∧ i = .int .i64 k ∧ kk = .int .i64 (k0 + psum cntHold xs k) ∧ Ow EHold 195 wr (.slice a xs.length cap) ((markL mkHold cntHold k0 xs).take k ++ xs.drop k) F ∧ Keep F w wr) (fun _ i _ => xs.length - (intOf i).toNat)
  case atStart => exact ⟨0, Nat.zero_le _, rfl, by rw [psum_zero]; simp, by simpa using h, Keep.refl _ _⟩
  case round =>
    obtain ⟨k, hk, rfl, rfl, ho, hK⟩ := hrel
    by_cases hlt : k < xs.length
    · have hln : k < ((markL mkHold cntHold k0 xs).take k ++ xs.drop k).length := by simp [markL_len]; omega
      have hsn := Lib.hid (psum_snoc cntHold xs k hlt)
      have hsl : k0 + psum cntHold xs k + cntHold xs[k] ≤ 1099511627776 := by have := hsn.out; have := cntL_le cntHold xs (k + 1); omega
      obtain ⟨g, rfl⟩ := ho.head k hln
      obtain ⟨A, c, B, Fi, hrow, hA, hcl, hx, hnF, hgF, hgm, hsub, back⟩ := ho.inPlace hn k hln
      rw [mid_get _ _ _ (markL_len ..) hlt] at hx
      simp only [show EHold.sz = 2 from rfl] at hA
      have hst := Lib.hid (markL_step mkHold cntHold xs k0 k hlt)
      simp only [cntHold, cntI] at hsl
      obtain ⟨rfl, rfl⟩ := hx
      have KK := Keep.refl (g :: []) wr
      clear ho
      have z0 := hrow.cellMid (p := k * 2) (j := 0) (by omega) (by simp)
      have z1 := hrow.cellMid (p := k * 2 + 1) (j := 1) (by omega) (by simp)
      simp only [List.getElem?_cons_zero, List.getElem?_cons_succ] at z0 z1
      have hfz := hrow.frozens
      have HBk := Lib.hid back; clear back
      go_wp2_with fail
      have HB := HBk.out _ [.int .i64 (k0 + psum cntHold xs k), .int .i64 (k0 + psum cntHold xs k + 1)] (mkHold (k0 + psum cntHold xs k) xs[k]) (by exact (Row.setMid (Row.setMid hrow (p := k * 2) (j := 0) (by omega) (by simp) (.int .i64 (k0 + psum cntHold xs k))) (p := k * 2 + 1) (j := 1) (by omega) (by simp) (.int .i64 (k0 + psum cntHold xs k + 1)))) ⟨rfl, rfl⟩ (by (repeat (refine Keep.setCell ?_ (by simp) _)); exact KK)
      rw [hst.out] at HB
      exact ⟨⟨k + 1, by omega, by go_num, congrArg (Value.int .i64) (by rw [hsn.out]; simp only [cntHold, cntI]; omega), HB, by (repeat (refine Keep.setCell ?_ hgm _)); exact hK.trans (KK.mono (fun b hb _ => by rcases List.mem_cons.1 hb with rfl | hb; exact hgm; exact hsub b hb))⟩, by simp [intOf]; omega⟩
    · have hk : k = xs.length := by omega
      subst hk
      have HO := Lib.hid ho
      clear ho
      go_wp2
      go_ret
      exact ⟨ret_int (by rw [cntL_eq]), by simpa [markL_len, List.take_of_length_le] using HO.out, hK⟩
set_option maxHeartbeats 1600000 in
theorem heldHoldS_c (v : Value) (xs : List Hold) (F : List Nat) (k0 : Int) (w : World) (h : Sl EHold w v (markL mkHold cntHold k0 xs) F) (h0 : 0 ≤ k0) (h1 : k0 + cntL cntHold xs ≤ 1099511627776) :
    Calls Tryd.prog 169 #[v, .int .i64 k0] w fun e w' => e = .returned (.int .i64 (k0 + cntL cntHold xs)) ∧ Below w.heap.size w w' := by
  obtain ⟨a, cap, rfl⟩ := h.slice
  have hl := h.len
  unfold maxLen at hl
  have hml := Lib.hid (markL_len mkHold cntHold xs k0)
  rw [hml.out] at hl
  rw [hml.out]
  have hE : ∀ z : Int, (z != z) = false := fun z => by simp
  go_enter Tryd.func169, Tryd.ntmps169
  go_wp2
  go_loopw [1, 5] (fun kk i wr => ∃ k : Nat, k ≤ xs.length ∧ i = .int .i64 k ∧ kk = .int .i64 (k0 + psum cntHold xs k) ∧ Below w.heap.size w wr) (fun _ i _ => xs.length - (intOf i).toNat)
  case atStart => exact ⟨0, Nat.zero_le _, rfl, by rw [psum_zero]; simp, Below.refl _ _⟩
  case round =>
    obtain ⟨k, hk, rfl, rfl, hB⟩ := hrel
    by_cases hlt : k < xs.length
    · have hsn := Lib.hid (psum_snoc cntHold xs k hlt)
      have hsl : k0 + psum cntHold xs k + cntHold xs[k] ≤ 1099511627776 := by have := hsn.out; have := cntL_le cntHold xs (k + 1); omega
      obtain ⟨b, off, _, F1, hab, hx, -, ja⟩ := (h.below (by decide) hB).at k (by rw [hml.out]; exact hlt)
      rw [markL_get mkHold cntHold xs k0 k hlt] at hx
      rw [hml.out] at h
      subst hab
      simp only [cntHold, cntI] at hsl
      obtain ⟨rfl, rfl⟩ := hx
      have a0 : wr.cell? ⟨b, off + k * 2, none⟩ = some (.int .i64 (k0 + psum cntHold xs k)) := by have := ja 0 (by decide); simp only [show EHold.sz = 2 from rfl, Nat.mul_one, Nat.add_zero, List.getElem?_cons_zero, List.getElem?_cons_succ] at this; exact this
      have a1 : wr.cell? ⟨b, off + k * 2 + 1, none⟩ = some (.int .i64 (k0 + psum cntHold xs k + 1)) := by have := ja 1 (by decide); simp only [show EHold.sz = 2 from rfl, Nat.mul_one, Nat.add_zero, List.getElem?_cons_zero, List.getElem?_cons_succ] at this; exact this
      clear ja
      go_wp2_with fail
      exact ⟨⟨k + 1, by omega, by go_num, congrArg (Value.int .i64) (by rw [hsn.out]; simp only [cntHold, cntI]; omega), hB⟩, by simp [intOf]; omega⟩
    · have hk : k = xs.length := by omega
      subst hk
      go_wp2
      go_ret
      exact ⟨ret_int (by rw [cntL_eq]), hB⟩
end Go.Proofs.YtidephmobajikaaDoor
