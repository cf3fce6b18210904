/- The type LogRecord of the exact laws: how it reads, how it is owned; the walks of its size, copy, equality, mark and held. Written by wip/gentypes.py. -/
import Derived.Test.YtnmgaponnfjciaaDoorTStr
namespace Go.Proofs.YtnmgaponnfjciaaDoor
open Go.RowKit
structure LogRecord where
  command : ByteArray
  reply : ByteArray
/-- read -/
def ELogRecord : Elem LogRecord where
  sz := 2
  rep _ cs x F := cs = [.string x.command, .string x.reply] ∧ x.command.size ≤ maxLen ∧ x.reply.size ≤ maxLen ∧ F = []
  len h := by obtain ⟨rfl, s1, s2, rfl⟩ := h; rfl
  lt h := by obtain ⟨rfl, s1, s2, rfl⟩ := h; simp
  frame h _ := h
theorem one_ELogRecord : One ELogRecord := fun h u hu => by
  obtain ⟨rfl, s1, s2, rfl⟩ := h
  simp only [List.mem_cons, List.not_mem_nil, or_false] at hu
  rcases hu with rfl | rfl
  · rfl
  · rfl
theorem scal_ELogRecord : Scal ELogRecord := fun h => by obtain ⟨rfl, s1, s2, rfl⟩ := h; rfl
theorem info_LogRecord : (Tryd.prog.info? 27).map (fun i => (i.zero, i.size, i.bytes)) = some (some (.agg #[.string ⟨#[]⟩, .string ⟨#[]⟩]), 2, 32) := by kernel_rfl
def wtLogRecord (x : LogRecord) : Nat := x.command.size + x.reply.size
def cntLogRecord (x : LogRecord) : Nat := cntS x.command + cntS x.reply
def mkLogRecord (k : Int) (x : LogRecord) : LogRecord := ⟨mkS (k) x.command, mkS (k + cntS x.command) x.reply⟩
theorem cntLogRecord_wt (x : LogRecord) : cntLogRecord x ≤ 2 * (1 + wtLogRecord x) := by
  simp only [cntLogRecord, wtLogRecord, cntI, cntB, cntS]
  omega
theorem cntLogRecordS_wt (xs : List LogRecord) (h : wtL wtLogRecord xs ≤ 1048576) : cntL cntLogRecord xs ≤ 4294967296 := by
  have := cntL_wt cntLogRecord wtLogRecord 2 cntLogRecord_wt xs; omega
set_option maxHeartbeats 800000 in
theorem szLogRecord_c (v : Value) (x : LogRecord) (F : List Nat) (n : Int) (w : World) (h : IsV ELogRecord w v x F) (h0 : 0 ≤ n) (h1 : n ≤ 1048576) :
    Calls Tryd.prog 13 #[v, .int .i64 n] w fun e w' => e = .returned (.int .i64 (szr n (wtLogRecord x))) ∧ Below w.heap.size w w' := by
  obtain ⟨_, rfl, rfl, s1, s2, rfl⟩ := h
  have hB0 : ∀ A : Obj, Below w.heap.size w (w.alloc A) := fun A => (Below.refl _ _).alloc (Nat.le_refl _) _
  unfold maxLen at s1 s2
  unfold wtLogRecord
  go_enter Tryd.func13, Tryd.ntmps13
  go_wp2
  all_goals go_ret
  all_goals exact ⟨ret_int (by unfold szr; split <;> omega), hB0 _⟩
set_option maxHeartbeats 1600000 in
theorem toLogRecord_c (v : Value) (x : LogRecord) (F : List Nat) (w : World) (h : IsV ELogRecord w v x F) (hl : wtLogRecord x ≤ 1048576) :
    Calls Tryd.prog 15 #[v] w (RetV ELogRecord x w) := by
  obtain ⟨_, rfl, rfl, s1, s2, rfl⟩ := h
  have hB0 : ∀ A B C : Obj, Below w.heap.size w (((w.alloc A).alloc B).alloc C) := fun A B C => (((Below.refl _ _).alloc (Nat.le_refl _) _).alloc (by simp) _).alloc (by simp <;> omega) _
  go_enter Tryd.func15, Tryd.ntmps15
  go_wp2_with fail
  refine bodyPost_ret (v := .agg #[.string x.command, .string x.reply]) ?_ rfl ?_
  · simp [results, Tryd.results15, go_sem]
  · exact ⟨_, [], rfl, ⟨_, rfl, rfl, s1, s2, rfl⟩, by simp, by simp, by repeat (first | exact Below.refl _ _ | refine Below.setCell ?_ (by simp <;> omega) _ | refine Below.alloc ?_ (by simp <;> omega) _)⟩
set_option maxHeartbeats 1600000 in
theorem eqLogRecord_c (va vb : Value) (x : LogRecord) (Fa Fb : List Nat) (w : World) (ha : IsV ELogRecord w va x Fa) (hb : IsV ELogRecord w vb x Fb) :
    Calls Tryd.prog 51 #[va, vb] w fun e w' => e = .returned (.bool true) ∧ Below w.heap.size w w' := by
  obtain ⟨_, rfl, rfl, s1, s2, rfl⟩ := ha
  obtain ⟨_, rfl, rfl, t1, t2, rfl⟩ := hb
  have hB0 : ∀ A B : Obj, Below w.heap.size w ((w.alloc A).alloc B) := fun A B => ((Below.refl _ _).alloc (Nat.le_refl _) _).alloc (by simp) _
  have hE : ∀ z : Int, (z != z) = false := fun z => by simp
  go_enter Tryd.func51, Tryd.ntmps51
  go_wp2_with fail
  go_ret
  exact ⟨rfl, hB0 _ _⟩
set_option maxHeartbeats 1600000 in
theorem eqLogRecordS_c (va vb : Value) (xs : List LogRecord) (Fa Fb : List Nat) (w : World) (ha : Sl ELogRecord w va xs Fa) (hb : Sl ELogRecord w vb xs Fb) :
    Calls Tryd.prog 32 #[va, vb] w fun e w' => e = .returned (.bool true) ∧ Below w.heap.size w w' := by
  obtain ⟨a, ca, rfl⟩ := ha.slice
  obtain ⟨b, cb, rfl⟩ := hb.slice
  have hl := ha.len
  unfold maxLen at hl
  go_enter Tryd.func32, Tryd.ntmps32
  go_wp2
  go_loopw [5] (fun i wr => ∃ k : Nat, k ≤ xs.length ∧ i = .int .i64 k ∧ Below w.heap.size w wr) (fun i _ => xs.length - (intOf i).toNat)
  case atStart => exact ⟨0, Nat.zero_le _, rfl, Below.refl _ _⟩
  case round =>
    obtain ⟨k, hk, rfl, hB⟩ := hrel
    by_cases hlt : k < xs.length
    · obtain ⟨ba, oa, _, F_, rfl, hx, -, ja⟩ := (ha.below (by decide) hB).at k hlt
      obtain ⟨bb, ob, _, G_, rfl, hy, -, jb⟩ := (hb.below (by decide) hB).at k hlt
      obtain ⟨rfl, s1, s2, rfl⟩ := id hx
      obtain ⟨rfl, t1, t2, rfl⟩ := id hy
      have a0 := ja 0 (by decide); have b0 := jb 0 (by decide)
      have a1 := ja 1 (by decide); have b1 := jb 1 (by decide)
      simp only [show ELogRecord.sz = 2 from rfl, Nat.mul_one, Nat.add_zero, List.getElem?_cons_zero, List.getElem?_cons_succ] at a0 b0 a1 b1
      clear ja jb
      go_wp2_with fail
      go_region_held3 (fun w' => w'.cell? ⟨ba, oa + k * 2, none⟩ = some (.string xs[k].command) ∧ w'.cell? ⟨ba, oa + k * 2 + 1, none⟩ = some (.string xs[k].reply) ∧ w'.cell? ⟨bb, ob + k * 2, none⟩ = some (.string xs[k].command) ∧ w'.cell? ⟨bb, ob + k * 2 + 1, none⟩ = some (.string xs[k].reply))
        (first | go_keep | (exact ⟨kc hb1 (by simpa using a0), kc hb1 (by simpa using a1), kc hb1 (by simpa using b0), kc hb1 (by simpa using b1)⟩))
        (first | (go_at_call 51; refine (eqLogRecord_c _ _ xs[k] _ _ wr.drew ⟨_, rfl, ELogRecord.frame hx (fun _ _ => rfl)⟩ ⟨_, rfl, ELogRecord.frame hy (fun _ _ => rfl)⟩).mono ?_; rintro e w1 ⟨rfl, hb1⟩))
      go_wp2_with fail
      exact ⟨⟨k + 1, by omega, by go_num, tr (belowDrewN hB 1) hb1 (Nat.le_refl _)⟩, by simp [intOf]; omega⟩
    · go_wp2_with fail
      go_ret
      exact ⟨rfl, hB⟩
set_option maxHeartbeats 1600000 in
theorem markLogRecordS_c (v : Value) (xs : List LogRecord) (F : List Nat) (k0 : Int) (w : World) (h : Ow ELogRecord 27 w v xs F) (hn : F.Nodup) (h0 : 0 ≤ k0) (h1 : k0 + cntL cntLogRecord xs ≤ 1099511627776) :
    Calls Tryd.prog 33 #[v, .int .i64 k0] w (RetMark ELogRecord 27 v (k0 + cntL cntLogRecord xs) (markL mkLogRecord cntLogRecord k0 xs) F w) := by
  obtain ⟨a, cap, rfl⟩ := h.slice
  have hl := h.len
  unfold maxLen at hl
  go_enter Tryd.func33, Tryd.ntmps33
  go_wp2
  go_loopw [1, 5] (fun kk i wr => ∃ k : Nat, k ≤ xs.length ∧ i = .int .i64 k ∧ kk = .int .i64 (k0 + psum cntLogRecord xs k) ∧ Ow ELogRecord 27 wr (.slice a xs.length cap) ((markL mkLogRecord cntLogRecord k0 xs).take k ++ xs.drop k) F ∧ Keep F w wr) (fun _ i _ => xs.length - (intOf i).toNat)
  case atStart => exact ⟨0, Nat.zero_le _, rfl, by rw [psum_zero]; simp, by simpa using h, Keep.refl _ _⟩
  case round =>
    obtain ⟨k, hk, rfl, rfl, ho, hK⟩ := hrel
    by_cases hlt : k < xs.length
    · have hln : k < ((markL mkLogRecord cntLogRecord k0 xs).take k ++ xs.drop k).length := by simp [markL_len]; omega
      have hsn := Lib.hid (psum_snoc cntLogRecord xs k hlt)
      have hsl : k0 + psum cntLogRecord xs k + cntLogRecord xs[k] ≤ 1099511627776 := by have := hsn.out; have := cntL_le cntLogRecord xs (k + 1); omega
      obtain ⟨g, rfl⟩ := ho.head k hln
      obtain ⟨A, c, B, Fi, hrow, hA, hcl, hx, hnF, hgF, hgm, hsub, back⟩ := ho.inPlace hn k hln
      rw [mid_get _ _ _ (markL_len ..) hlt] at hx
      simp only [show ELogRecord.sz = 2 from rfl] at hA
      have hst := Lib.hid (markL_step mkLogRecord cntLogRecord xs k0 k hlt)
      simp only [cntLogRecord, cntS] at hsl
      obtain ⟨rfl, s1, s2, rfl⟩ := hx
      have KK := Keep.refl (g :: []) wr
      clear ho
      have z0 := hrow.cellMid (p := k * 2) (j := 0) (by omega) (by simp)
      have z1 := hrow.cellMid (p := k * 2 + 1) (j := 1) (by omega) (by simp)
      simp only [List.getElem?_cons_zero, List.getElem?_cons_succ] at z0 z1
      have hfz := hrow.frozens
      have HBk := Lib.hid back; clear back
      go_wp2_with fail
      refine (markText_c (k0 + psum cntLogRecord xs k) _ (by omega) (by omega)).mono ?_
      rintro e w1 ⟨rfl, hb1⟩
      have hrow : Row w1 g 27 (A ++ [.string xs[k].command, .string xs[k].reply] ++ B) := Row.keepK (by exact hrow) (Keep.ofBelow (F := []) hb1) (by simp)
      have KK := Keep.trans (F := g :: []) (a := wr) (by (repeat (refine Keep.setCell ?_ (by simp) _)); exact KK) (Keep.mono (Keep.ofBelow (F := []) hb1) (fun b hb _ => by simp at hb))
      clear hb1
      have z0 := hrow.cellMid (p := k * 2) (j := 0) (by omega) (by simp)
      have z1 := hrow.cellMid (p := k * 2 + 1) (j := 1) (by omega) (by simp)
      simp only [List.getElem?_cons_zero, List.getElem?_cons_succ] at z0 z1
      have hfz := hrow.frozens
      go_wp2_with fail
      refine (markText_c (k0 + psum cntLogRecord xs k + 1) _ (by omega) (by omega)).mono ?_
      rintro e w2 ⟨rfl, hb2⟩
      have hrow : Row w2 g 27 (A ++ [.string (mtext (k0 + psum cntLogRecord xs k)), .string xs[k].reply] ++ B) := Row.keepK (by exact (Row.setMid hrow (p := k * 2) (j := 0) (by omega) (by simp) (.string (mtext (k0 + psum cntLogRecord xs k))))) (Keep.ofBelow (F := []) hb2) (by simp)
      have KK := Keep.trans (F := g :: []) (a := wr) (by (repeat (refine Keep.setCell ?_ (by simp) _)); exact KK) (Keep.mono (Keep.ofBelow (F := []) hb2) (fun b hb _ => by simp at hb))
      clear hb2
      have z0 := hrow.cellMid (p := k * 2) (j := 0) (by omega) (by simp)
      have z1 := hrow.cellMid (p := k * 2 + 1) (j := 1) (by omega) (by simp)
      simp only [List.getElem?_cons_zero, List.getElem?_cons_succ] at z0 z1
      have hfz := hrow.frozens
      go_wp2_with fail
      have HB := HBk.out _ [.string (mtext (k0 + psum cntLogRecord xs k)), .string (mtext (k0 + psum cntLogRecord xs k + 1))] (mkLogRecord (k0 + psum cntLogRecord xs k) xs[k]) (by exact (Row.setMid hrow (p := k * 2 + 1) (j := 1) (by omega) (by simp) (.string (mtext (k0 + psum cntLogRecord xs k + 1))))) ⟨rfl, mtext_len _, mtext_len _, rfl⟩ (by (repeat (refine Keep.setCell ?_ (by simp) _)); exact KK)
      rw [hst.out] at HB
      exact ⟨⟨k + 1, by omega, by go_num, congrArg (Value.int .i64) (by rw [hsn.out]; simp only [cntLogRecord, cntS]; omega), HB, by (repeat (refine Keep.setCell ?_ hgm _)); exact hK.trans (KK.mono (fun b hb _ => by rcases List.mem_cons.1 hb with rfl | hb; exact hgm; exact hsub b hb))⟩, by simp [intOf]; omega⟩
    · have hk : k = xs.length := by omega
      subst hk
      have HO := Lib.hid ho
      clear ho
      go_wp2
      go_ret
      exact ⟨ret_int (by rw [cntL_eq]), by simpa [markL_len, List.take_of_length_le] using HO.out, hK⟩
set_option maxHeartbeats 1600000 in
theorem heldLogRecordS_c (v : Value) (xs : List LogRecord) (F : List Nat) (k0 : Int) (w : World) (h : Sl ELogRecord w v (markL mkLogRecord cntLogRecord k0 xs) F) (h0 : 0 ≤ k0) (h1 : k0 + cntL cntLogRecord xs ≤ 1099511627776) :
    Calls Tryd.prog 34 #[v, .int .i64 k0] w fun e w' => e = .returned (.int .i64 (k0 + cntL cntLogRecord xs)) ∧ Below w.heap.size w w' := by
  obtain ⟨a, cap, rfl⟩ := h.slice
  have hl := h.len
  unfold maxLen at hl
  have hml := Lib.hid (markL_len mkLogRecord cntLogRecord xs k0)
  rw [hml.out] at hl
  rw [hml.out]
  have hE : ∀ z : Int, (z != z) = false := fun z => by simp
  go_enter Tryd.func34, Tryd.ntmps34
  go_wp2
  go_loopw [1, 5] (fun kk i wr => ∃ k : Nat, k ≤ xs.length ∧ i = .int .i64 k ∧ kk = .int .i64 (k0 + psum cntLogRecord xs k) ∧ Below w.heap.size w wr) (fun _ i _ => xs.length - (intOf i).toNat)
  case atStart => exact ⟨0, Nat.zero_le _, rfl, by rw [psum_zero]; simp, Below.refl _ _⟩
  case round =>
    obtain ⟨k, hk, rfl, rfl, hB⟩ := hrel
    by_cases hlt : k < xs.length
    · have hsn := Lib.hid (psum_snoc cntLogRecord xs k hlt)
      have hsl : k0 + psum cntLogRecord xs k + cntLogRecord xs[k] ≤ 1099511627776 := by have := hsn.out; have := cntL_le cntLogRecord xs (k + 1); omega
      obtain ⟨b, off, _, F1, hab, hx, -, ja⟩ := (h.below (by decide) hB).at k (by rw [hml.out]; exact hlt)
      rw [markL_get mkLogRecord cntLogRecord xs k0 k hlt] at hx
      rw [hml.out] at h
      subst hab
      simp only [cntLogRecord, cntS] at hsl
      obtain ⟨rfl, s1, s2, rfl⟩ := hx
      have a0 : wr.cell? ⟨b, off + k * 2, none⟩ = some (.string (mtext (k0 + psum cntLogRecord xs k))) := by have := ja 0 (by decide); simp only [show ELogRecord.sz = 2 from rfl, Nat.mul_one, Nat.add_zero, List.getElem?_cons_zero, List.getElem?_cons_succ] at this; exact this
      have a1 : wr.cell? ⟨b, off + k * 2 + 1, none⟩ = some (.string (mtext (k0 + psum cntLogRecord xs k + 1))) := by have := ja 1 (by decide); simp only [show ELogRecord.sz = 2 from rfl, Nat.mul_one, Nat.add_zero, List.getElem?_cons_zero, List.getElem?_cons_succ] at this; exact this
      clear ja
      go_wp2_with fail
      go_region_held3 (fun w' => w'.cell? ⟨b, off + k * 2, none⟩ = some (.string (mtext (k0 + psum cntLogRecord xs k)))) (first | go_keep | (exact kc hb1 a0) | (exact a0))
        (first | (go_at_call 52; refine (markText_c (k0 + psum cntLogRecord xs k) wr.drew (by omega) (by omega)).mono ?_; rintro e w1 ⟨rfl, hb1⟩))
      have a0 := kc hb1 (show wr.drew.cell? _ = _ from a0)
      have a1 := kc hb1 (show wr.drew.cell? _ = _ from a1)
      have hB := tr (belowDrewN hB 1) hb1 (Nat.le_refl _)
      clear hb1
      go_wp2_with fail
      go_region_held3 (fun w' => w'.cell? ⟨b, off + k * 2 + 1, none⟩ = some (.string (mtext (k0 + psum cntLogRecord xs k + 1)))) (first | go_keep | (exact kc hb2 a1) | (exact a1))
        (first | (go_at_call 52; refine (markText_c (k0 + psum cntLogRecord xs k + 1) w1.drew (by omega) (by omega)).mono ?_; rintro e w2 ⟨rfl, hb2⟩))
      have a0 := kc hb2 (show w1.drew.cell? _ = _ from a0)
      have a1 := kc hb2 (show w1.drew.cell? _ = _ from a1)
      have hB := tr (belowDrewN hB 1) hb2 (Nat.le_refl _)
      clear hb2
      go_wp2_with fail
      exact ⟨⟨k + 1, by omega, by go_num, congrArg (Value.int .i64) (by rw [hsn.out]; simp only [cntLogRecord, cntS]; omega), hB⟩, by simp [intOf]; omega⟩
    · have hk : k = xs.length := by omega
      subst hk
      go_wp2
      go_ret
      exact ⟨ret_int (by rw [cntL_eq]), hB⟩
end Go.Proofs.YtnmgaponnfjciaaDoor
