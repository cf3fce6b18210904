/- The type Packet of the exact laws: how it reads, how it is owned; the walks of its size, copy, equality, mark and held. Written by wip/gentypes.py. -/
import Derived.Test.YtidephmobajikaaDoorTInt
import Derived.Test.YtidephmobajikaaDoorTStr
namespace Go.Proofs.YtidephmobajikaaDoor
open Go.RowKit
structure Packet where
  kind : Int
  number : Int
  trail : Int
  lead : Int
  data : ByteArray
/-- read -/
def EPacket : Elem Packet where
  sz := 5
  rep _ cs x F := cs = [.int .i64 x.kind, .int .i64 x.number, .int .i64 x.trail, .int .i64 x.lead, .string x.data] ∧ x.data.size ≤ maxLen ∧ F = []
  len h := by obtain ⟨rfl, s1, rfl⟩ := h; rfl
  lt h := by obtain ⟨rfl, s1, rfl⟩ := h; simp
  frame h _ := h
theorem one_EPacket : One EPacket := fun h u hu => by
  obtain ⟨rfl, s1, rfl⟩ := h
  simp only [List.mem_cons, List.not_mem_nil, or_false] at hu
  rcases hu with rfl | rfl | rfl | rfl | rfl
  · rfl
  · rfl
  · rfl
  · rfl
  · rfl
theorem scal_EPacket : Scal EPacket := fun h => by obtain ⟨rfl, s1, rfl⟩ := h; rfl
theorem info_Packet : (Tryd.prog.info? 30).map (fun i => (i.zero, i.size, i.bytes)) = some (some (.agg #[.int .i64 0, .int .i64 0, .int .i64 0, .int .i64 0, .string ⟨#[]⟩]), 5, 48) := by kernel_rfl
def wtPacket (x : Packet) : Nat := x.data.size
def cntPacket (x : Packet) : Nat := cntI x.kind + cntI x.number + cntI x.trail + cntI x.lead + cntS x.data
def mkPacket (k : Int) (x : Packet) : Packet := ⟨mkI (k) x.kind, mkI (k + cntI x.kind) x.number, mkI (k + cntI x.kind + cntI x.number) x.trail, mkI (k + cntI x.kind + cntI x.number + cntI x.trail) x.lead, mkS (k + cntI x.kind + cntI x.number + cntI x.trail + cntI x.lead) x.data⟩
theorem cntPacket_wt (x : Packet) : cntPacket x ≤ 5 * (1 + wtPacket x) := by
  simp only [cntPacket, wtPacket, cntI, cntB, cntS]
  omega
theorem cntPacketS_wt (xs : List Packet) (h : wtL wtPacket xs ≤ 1048576) : cntL cntPacket xs ≤ 4294967296 := by
  have := cntL_wt cntPacket wtPacket 5 cntPacket_wt xs; omega
set_option maxHeartbeats 1600000 in
theorem eqPacket_c (va vb : Value) (x : Packet) (Fa Fb : List Nat) (w : World) (ha : IsV EPacket w va x Fa) (hb : IsV EPacket w vb x Fb) :
    Calls Tryd.prog 164 #[va, vb] w fun e w' => e = .returned (.bool true) ∧ Below w.heap.size w w' := by
  obtain ⟨_, rfl, rfl, s1, rfl⟩ := ha
  obtain ⟨_, rfl, rfl, t1, rfl⟩ := hb
  have hB0 : ∀ A B : Obj, Below w.heap.size w ((w.alloc A).alloc B) := fun A B => ((Below.refl _ _).alloc (Nat.le_refl _) _).alloc (by simp) _
  have hE : ∀ z : Int, (z != z) = false := fun z => by simp
  go_enter Tryd.func164, Tryd.ntmps164
  go_wp2_with fail
  go_ret
  exact ⟨rfl, hB0 _ _⟩
set_option maxHeartbeats 1600000 in
theorem eqPacketS_c (va vb : Value) (xs : List Packet) (Fa Fb : List Nat) (w : World) (ha : Sl EPacket w va xs Fa) (hb : Sl EPacket w vb xs Fb) :
    Calls Tryd.prog 76 #[va, vb] w fun e w' => e = .returned (.bool true) ∧ Below w.heap.size w w' := by
  obtain ⟨a, ca, rfl⟩ := ha.slice
  obtain ⟨b, cb, rfl⟩ := hb.slice
  have hl := ha.len
  unfold maxLen at hl
  go_enter Tryd.func76, Tryd.ntmps76
  go_wp2
  go_loopw [5] (fun i wr => ∃ k : Nat, k ≤ xs.length ∧ i = .int .i64 k ∧ Below w.heap.size w wr) (fun i _ => xs.length - (intOf i).toNat)
  case atStart => exact ⟨0, Nat.zero_le _, rfl, Below.refl _ _⟩
  case round =>
    obtain ⟨k, hk, rfl, hB⟩ := hrel
    by_cases hlt : k < xs.length
    · obtain ⟨ba, oa, _, F_, rfl, hx, -, ja⟩ := (ha.below (by decide) hB).at k hlt
      obtain ⟨bb, ob, _, G_, rfl, hy, -, jb⟩ := (hb.below (by decide) hB).at k hlt
      obtain ⟨rfl, s1, rfl⟩ := id hx
      obtain ⟨rfl, t1, rfl⟩ := id hy
      have a0 := ja 0 (by decide); have b0 := jb 0 (by decide)
      have a1 := ja 1 (by decide); have b1 := jb 1 (by decide)
      have a2 := ja 2 (by decide); have b2 := jb 2 (by decide)
      have a3 := ja 3 (by decide); have b3 := jb 3 (by decide)
      have a4 := ja 4 (by decide); have b4 := jb 4 (by decide)
      simp only [show EPacket.sz = 5 from rfl, Nat.mul_one, Nat.add_zero, List.getElem?_cons_zero, List.getElem?_cons_succ] at a0 b0 a1 b1 a2 b2 a3 b3 a4 b4
      clear ja jb
      go_wp2_with fail
      go_region_held3 (fun w' => w'.cell? ⟨ba, oa + k * 5, none⟩ = some (.int .i64 xs[k].kind) ∧ w'.cell? ⟨ba, oa + k * 5 + 1, none⟩ = some (.int .i64 xs[k].number) ∧ w'.cell? ⟨ba, oa + k * 5 + 2, none⟩ = some (.int .i64 xs[k].trail) ∧ w'.cell? ⟨ba, oa + k * 5 + 3, none⟩ = some (.int .i64 xs[k].lead) ∧ w'.cell? ⟨ba, oa + k * 5 + 4, none⟩ = some (.string xs[k].data) ∧ w'.cell? ⟨bb, ob + k * 5, none⟩ = some (.int .i64 xs[k].kind) ∧ w'.cell? ⟨bb, ob + k * 5 + 1, none⟩ = some (.int .i64 xs[k].number) ∧ w'.cell? ⟨bb, ob + k * 5 + 2, none⟩ = some (.int .i64 xs[k].trail) ∧ w'.cell? ⟨bb, ob + k * 5 + 3, none⟩ = some (.int .i64 xs[k].lead) ∧ w'.cell? ⟨bb, ob + k * 5 + 4, none⟩ = some (.string xs[k].data))
        (first | go_keep | (exact ⟨kc hb1 (by simpa using a0), kc hb1 (by simpa using a1), kc hb1 (by simpa using a2), kc hb1 (by simpa using a3), kc hb1 (by simpa using a4), kc hb1 (by simpa using b0), kc hb1 (by simpa using b1), kc hb1 (by simpa using b2), kc hb1 (by simpa using b3), kc hb1 (by simpa using b4)⟩))
        (first | (go_at_call 164; refine (eqPacket_c _ _ xs[k] _ _ wr.drew ⟨_, rfl, EPacket.frame hx (fun _ _ => rfl)⟩ ⟨_, rfl, EPacket.frame hy (fun _ _ => rfl)⟩).mono ?_; rintro e w1 ⟨rfl, hb1⟩))
      go_wp2_with fail
      exact ⟨⟨k + 1, by omega, by go_num, tr (belowDrewN hB 1) hb1 (Nat.le_refl _)⟩, by simp [intOf]; omega⟩
    · go_wp2_with fail
      go_ret
      exact ⟨rfl, hB⟩
set_option maxHeartbeats 1600000 in
theorem markPacketS_c (v : Value) (xs : List Packet) (F : List Nat) (k0 : Int) (w : World) (h : Ow EPacket 30 w v xs F) (hn : F.Nodup) (h0 : 0 ≤ k0) (h1 : k0 + cntL cntPacket xs ≤ 1099511627776) :
    Calls Tryd.prog 78 #[v, .int .i64 k0] w (RetMark EPacket 30 v (k0 + cntL cntPacket xs) (markL mkPacket cntPacket k0 xs) F w) := by
  obtain ⟨a, cap, rfl⟩ := h.slice
  have hl := h.len
  unfold maxLen at hl
  go_enter Tryd.func78, Tryd.ntmps78
  go_wp2
  go_loopw [1, 5] (fun kk i wr => ∃ k : Nat, k ≤ xs.length ∧ i = .int .i64 k ∧ kk = .int .i64 (k0 + psum cntPacket xs k) ∧ Ow EPacket 30 wr (.slice a xs.length cap) ((markL mkPacket cntPacket k0 xs).take k ++ xs.drop k) F ∧ Keep F w wr) (fun _ i _ => xs.length - (intOf i).toNat)
  case atStart => exact ⟨0, Nat.zero_le _, rfl, by rw [psum_zero]; simp, by simpa using h, Keep.refl _ _⟩
  case round =>
    obtain ⟨k, hk, rfl, rfl, ho, hK⟩ := hrel
    by_cases hlt : k < xs.length
    · have hln : k < ((markL mkPacket cntPacket k0 xs).take k ++ xs.drop k).length := by simp [markL_len]; omega
      have hsn := Lib.hid (psum_snoc cntPacket xs k hlt)
      have hsl : k0 + psum cntPacket xs k + cntPacket xs[k] ≤ 1099511627776 := by have := hsn.out; have := cntL_le cntPacket xs (k + 1); omega
      obtain ⟨g, rfl⟩ := ho.head k hln
      obtain ⟨A, c, B, Fi, hrow, hA, hcl, hx, hnF, hgF, hgm, hsub, back⟩ := ho.inPlace hn k hln
      rw [mid_get _ _ _ (markL_len ..) hlt] at hx
      simp only [show EPacket.sz = 5 from rfl] at hA
      have hst := Lib.hid (markL_step mkPacket cntPacket xs k0 k hlt)
      simp only [cntI, cntPacket, cntS] at hsl
      obtain ⟨rfl, s1, rfl⟩ := hx
      have KK := Keep.refl (g :: []) wr
      clear ho
      have z0 := hrow.cellMid (p := k * 5) (j := 0) (by omega) (by simp)
      have z1 := hrow.cellMid (p := k * 5 + 1) (j := 1) (by omega) (by simp)
      have z2 := hrow.cellMid (p := k * 5 + 2) (j := 2) (by omega) (by simp)
      have z3 := hrow.cellMid (p := k * 5 + 3) (j := 3) (by omega) (by simp)
      have z4 := hrow.cellMid (p := k * 5 + 4) (j := 4) (by omega) (by simp)
      simp only [List.getElem?_cons_zero, List.getElem?_cons_succ] at z0 z1 z2 z3 z4
      have hfz := hrow.frozens
      have HBk := Lib.hid back; clear back
      go_wp2_with fail
      refine (markText_c (k0 + psum cntPacket xs k + 1 + 1 + 1 + 1) _ (by omega) (by omega)).mono ?_
      rintro e w1 ⟨rfl, hb1⟩
      have hrow : Row w1 g 30 (A ++ [.int .i64 (k0 + psum cntPacket xs k), .int .i64 (k0 + psum cntPacket xs k + 1), .int .i64 (k0 + psum cntPacket xs k + 1 + 1), .int .i64 (k0 + psum cntPacket xs k + 1 + 1 + 1), .string xs[k].data] ++ B) := Row.keepK (by exact (Row.setMid (Row.setMid (Row.setMid (Row.setMid hrow (p := k * 5) (j := 0) (by omega) (by simp) (.int .i64 (k0 + psum cntPacket xs k))) (p := k * 5 + 1) (j := 1) (by omega) (by simp) (.int .i64 (k0 + psum cntPacket xs k + 1))) (p := k * 5 + 2) (j := 2) (by omega) (by simp) (.int .i64 (k0 + psum cntPacket xs k + 1 + 1))) (p := k * 5 + 3) (j := 3) (by omega) (by simp) (.int .i64 (k0 + psum cntPacket xs k + 1 + 1 + 1)))) (Keep.ofBelow (F := []) hb1) (by simp)
      have KK := Keep.trans (F := g :: []) (a := wr) (by (repeat (refine Keep.setCell ?_ (by simp) _)); exact KK) (Keep.mono (Keep.ofBelow (F := []) hb1) (fun b hb _ => by simp at hb))
      clear hb1
      have z0 := hrow.cellMid (p := k * 5) (j := 0) (by omega) (by simp)
      have z1 := hrow.cellMid (p := k * 5 + 1) (j := 1) (by omega) (by simp)
      have z2 := hrow.cellMid (p := k * 5 + 2) (j := 2) (by omega) (by simp)
      have z3 := hrow.cellMid (p := k * 5 + 3) (j := 3) (by omega) (by simp)
      have z4 := hrow.cellMid (p := k * 5 + 4) (j := 4) (by omega) (by simp)
      simp only [List.getElem?_cons_zero, List.getElem?_cons_succ] at z0 z1 z2 z3 z4
      have hfz := hrow.frozens
      go_wp2_with fail
      have HB := HBk.out _ [.int .i64 (k0 + psum cntPacket xs k), .int .i64 (k0 + psum cntPacket xs k + 1), .int .i64 (k0 + psum cntPacket xs k + 1 + 1), .int .i64 (k0 + psum cntPacket xs k + 1 + 1 + 1), .string (mtext (k0 + psum cntPacket xs k + 1 + 1 + 1 + 1))] (mkPacket (k0 + psum cntPacket xs k) xs[k]) (by exact (Row.setMid hrow (p := k * 5 + 4) (j := 4) (by omega) (by simp) (.string (mtext (k0 + psum cntPacket xs k + 1 + 1 + 1 + 1))))) ⟨rfl, mtext_len _, rfl⟩ (by (repeat (refine Keep.setCell ?_ (by simp) _)); exact KK)
      rw [hst.out] at HB
      exact ⟨⟨k + 1, by omega, by go_num, congrArg (Value.int .i64) (by rw [hsn.out]; simp only [cntI, cntPacket, cntS]; omega), HB, by (repeat (refine Keep.setCell ?_ hgm _)); exact hK.trans (KK.mono (fun b hb _ => by rcases List.mem_cons.1 hb with rfl | hb; exact hgm; exact hsub b hb))⟩, by simp [intOf]; omega⟩
    · have hk : k = xs.length := by omega
      subst hk
      have HO := Lib.hid ho
      clear ho
      go_wp2
      go_ret
      exact ⟨ret_int (by rw [cntL_eq]), by simpa [markL_len, List.take_of_length_le] using HO.out, hK⟩
set_option maxHeartbeats 1600000 in
theorem heldPacketS_c (v : Value) (xs : List Packet) (F : List Nat) (k0 : Int) (w : World) (h : Sl EPacket w v (markL mkPacket cntPacket k0 xs) F) (h0 : 0 ≤ k0) (h1 : k0 + cntL cntPacket xs ≤ 1099511627776) :
    Calls Tryd.prog 80 #[v, .int .i64 k0] w fun e w' => e = .returned (.int .i64 (k0 + cntL cntPacket xs)) ∧ Below w.heap.size w w' := by
  obtain ⟨a, cap, rfl⟩ := h.slice
  have hl := h.len
  unfold maxLen at hl
  have hml := Lib.hid (markL_len mkPacket cntPacket xs k0)
  rw [hml.out] at hl
  rw [hml.out]
  have hE : ∀ z : Int, (z != z) = false := fun z => by simp
  go_enter Tryd.func80, Tryd.ntmps80
  go_wp2
  go_loopw [1, 5] (fun kk i wr => ∃ k : Nat, k ≤ xs.length ∧ i = .int .i64 k ∧ kk = .int .i64 (k0 + psum cntPacket xs k) ∧ Below w.heap.size w wr) (fun _ i _ => xs.length - (intOf i).toNat)
  case atStart => exact ⟨0, Nat.zero_le _, rfl, by rw [psum_zero]; simp, Below.refl _ _⟩
  case round =>
    obtain ⟨k, hk, rfl, rfl, hB⟩ := hrel
    by_cases hlt : k < xs.length
    · have hsn := Lib.hid (psum_snoc cntPacket xs k hlt)
      have hsl : k0 + psum cntPacket xs k + cntPacket xs[k] ≤ 1099511627776 := by have := hsn.out; have := cntL_le cntPacket xs (k + 1); omega
      obtain ⟨b, off, _, F1, hab, hx, -, ja⟩ := (h.below (by decide) hB).at k (by rw [hml.out]; exact hlt)
      rw [markL_get mkPacket cntPacket xs k0 k hlt] at hx
      rw [hml.out] at h
      subst hab
      simp only [cntI, cntPacket, cntS] at hsl
      obtain ⟨rfl, s1, rfl⟩ := hx
      have a0 : wr.cell? ⟨b, off + k * 5, none⟩ = some (.int .i64 (k0 + psum cntPacket xs k)) := by have := ja 0 (by decide); simp only [show EPacket.sz = 5 from rfl, Nat.mul_one, Nat.add_zero, List.getElem?_cons_zero, List.getElem?_cons_succ] at this; exact this
      have a1 : wr.cell? ⟨b, off + k * 5 + 1, none⟩ = some (.int .i64 (k0 + psum cntPacket xs k + 1)) := by have := ja 1 (by decide); simp only [show EPacket.sz = 5 from rfl, Nat.mul_one, Nat.add_zero, List.getElem?_cons_zero, List.getElem?_cons_succ] at this; exact this
      have a2 : wr.cell? ⟨b, off + k * 5 + 2, none⟩ = some (.int .i64 (k0 + psum cntPacket xs k + 1 + 1)) := by have := ja 2 (by decide); simp only [show EPacket.sz = 5 from rfl, Nat.mul_one, Nat.add_zero, List.getElem?_cons_zero, List.getElem?_cons_succ] at this; exact this
      have a3 : wr.cell? ⟨b, off + k * 5 + 3, none⟩ = some (.int .i64 (k0 + psum cntPacket xs k + 1 + 1 + 1)) := by have := ja 3 (by decide); simp only [show EPacket.sz = 5 from rfl, Nat.mul_one, Nat.add_zero, List.getElem?_cons_zero, List.getElem?_cons_succ] at this; exact this
      have a4 : wr.cell? ⟨b, off + k * 5 + 4, none⟩ = some (.string (mtext (k0 + psum cntPacket xs k + 1 + 1 + 1 + 1))) := by have := ja 4 (by decide); simp only [show EPacket.sz = 5 from rfl, Nat.mul_one, Nat.add_zero, List.getElem?_cons_zero, List.getElem?_cons_succ] at this; exact this
      clear ja
      go_wp2_with fail
      go_region_held3 (fun w' => w'.cell? ⟨b, off + k * 5 + 4, none⟩ = some (.string (mtext (k0 + psum cntPacket xs k + 1 + 1 + 1 + 1)))) (first | go_keep | (exact kc hb1 a4) | (exact a4))
        (first | (go_at_call 167; refine (markText_c (k0 + psum cntPacket xs k + 1 + 1 + 1 + 1) wr.drew (by omega) (by omega)).mono ?_; rintro e w1 ⟨rfl, hb1⟩))
      have a0 := kc hb1 (show wr.drew.cell? _ = _ from a0)
      have a1 := kc hb1 (show wr.drew.cell? _ = _ from a1)
      have a2 := kc hb1 (show wr.drew.cell? _ = _ from a2)
      have a3 := kc hb1 (show wr.drew.cell? _ = _ from a3)
      have a4 := kc hb1 (show wr.drew.cell? _ = _ from a4)
      have hB := tr (belowDrewN hB 1) hb1 (Nat.le_refl _)
      clear hb1
      go_wp2_with fail
      exact ⟨⟨k + 1, by omega, by go_num, congrArg (Value.int .i64) (by rw [hsn.out]; simp only [cntI, cntPacket, cntS]; omega), hB⟩, by simp [intOf]; omega⟩
    · have hk : k = xs.length := by omega
      subst hk
      go_wp2
      go_ret
      exact ⟨ret_int (by rw [cntL_eq]), hB⟩
end Go.Proofs.YtidephmobajikaaDoor
