/- Walks: strings.Lines and its iterator. -/
import Derived.Test.YtnmgaponnfjciaaDoorLogRec
import Derived.Test.YtnmgaponnfjciaaDoorRangeBox
import Derived.Test.YtnmgaponnfjciaaDoorHeld
import Derived.LoopNIn
import Derived.LoopIn
import Derived.OwnWalkIn
namespace Go.Proofs.YtnmgaponnfjciaaDoor
open Go.RowKit
theorem IndexByte_c (s : ByteArray) (c : UInt8) (w : World) : Calls Tryd.prog 80 #[.string s, .int .u8 (c.toNat : Int)] w fun e w' => e = .returned (.int .i64 (Lib.indexByte s.data.toList c)) ∧ w = w' := by
  refine (Tryd.strings_IndexByte s c.toNat w).mono ?_
  rintro e w' ⟨rfl, rfl⟩
  exact ⟨by simp, rfl⟩
def linesB (s : ByteArray) : List ByteArray := (linesOf s.data.toList).map bs
theorem linesB_nil {s : ByteArray} (h : ¬ 0 < s.size) : linesB s = [] := by
  have : s.data.toList = [] := List.eq_nil_of_length_eq_zero (by rw [size_list]; omega)
  unfold linesB; rw [this]; rfl
theorem linesB_cut {s : ByteArray} (h : 10 ∈ s.data.toList) : linesB s = bs (upTo 10 s.data.toList ++ [10]) :: linesB (bs (behind 10 s.data.toList)) ∧
    s.extract 0 ((upTo 10 s.data.toList).length + 1) = bs (upTo 10 s.data.toList ++ [10]) ∧ s.extract ((upTo 10 s.data.toList).length + 1) s.size = bs (behind 10 s.data.toList) := by
  refine ⟨?_, ?_, (cut_yes h).2⟩
  · rcases split_at 10 s.data.toList with ⟨_, h2⟩ | ⟨h2, _⟩
    · unfold linesB; rw [bs_list]
      conv => lhs; rw [h2]
      rw [linesOf_nl _ upTo_mem]; rfl
    · exact absurd h h2
  · rcases split_at 10 s.data.toList with ⟨_, h2⟩ | ⟨h2, _⟩
    · rw [Lib.extract_eq]; unfold bs; congr 2
      rw [List.drop_zero, Nat.sub_zero]
      refine (congrArg (List.take _) h2).trans ?_
      rw [List.take_append, List.take_of_length_le (by omega)]; simp
    · exact absurd h h2
theorem linesB_last {s : ByteArray} (h0 : 0 < s.size) (h : 10 ∉ s.data.toList) : linesB s = [s] := by
  unfold linesB; rw [linesOf_last (fun e => by have := size_list s; rw [e] at this; simp at this; omega) (fun c hc e => h (by rw [← e]; exact hc))]
  simp [bs_of]
theorem behind_lt {s : ByteArray} (h : 10 ∈ s.data.toList) : (bs (behind 10 s.data.toList)).size < s.size := by
  rcases split_at 10 s.data.toList with ⟨_, h2⟩ | ⟨h2, _⟩
  · have := congrArg List.length h2
    rw [bs_size]; rw [size_list] at this; simp at this; omega
  · exact absurd h h2
def boxLeft (b : Nat) (w : World) : Nat := match w.cell? ⟨b, 0, none⟩ with
  | some (.string r) => r.size
  | _ => 0
theorem boxLeft_eq {b : Nat} {t : TypeId} {w : World} {r : ByteArray} (h : Row w b t [.string r]) : boxLeft b w = r.size := by
  unfold boxLeft; rw [h.cell]; rfl
theorem Lines_c (s : ByteArray) (w : World) : Calls Tryd.prog 70 #[.string s] w fun e w' => e = .returned (.func (.func 79) #[] #[.pointer (some ⟨w.heap.size, 0, none⟩)]) ∧ w' = w.alloc (.cells #[.string s] 9) := by
  go_enter Tryd.func70, Tryd.ntmps70
  go_wp2_with fail
  refine bodyPost_ret (v := .func (.func 79) #[] #[.pointer (some ⟨w.heap.size, 0, none⟩)]) ?_ rfl ⟨rfl, rfl⟩
  simp [results, Tryd.results70, go_sem]
set_option maxHeartbeats 1600000 in
set_option maxRecDepth 100000 in
theorem lines_seq (s : ByteArray) (b : Nat) (W0 : World) (hs : s.size ≤ 4294967296) (hr : Row W0 b 9 [.string s]) : SeqBox Tryd.prog 79 #[.pointer (some ⟨b, 0, none⟩)] b (linesB s) W0 := by
  intro n l J Jx hJ hJx hY h0
  refine callsIn_of_wp Tryd.func79 rfl trivial ?_ rfl
  simp only [Tryd.ntmps79, List.size_toArray, List.length_cons, List.length_nil, Nat.reduceAdd, Nat.reduceSub, Array.replicate_succ, Array.replicate_zero, List.push_toArray, List.append_toArray, List.cons_append, List.nil_append]
  have c0 := hr.cells
  gi_wp2
  gi_loopw [3] (fun _ wr => ∃ (pre : List ByteArray) (r : ByteArray), Hid (linesB s = pre ++ linesB r) ∧ r.size ≤ 4294967296 ∧ Row wr b 9 [.string r] ∧ J pre wr) (fun _ wr => boxLeft b wr)
  case atStart => exact ⟨[], s, rfl, hs, hr, h0⟩
  case round =>
    obtain ⟨pre, r, hx, hrs, hrow, hj⟩ := hrel
    have hm := Lib.hid (boxLeft_eq hrow)
    have hi := fun w => IndexByte_c r 10 w
    by_cases hz : 0 < r.size
    · by_cases hn : 10 ∈ r.data.toList
      · obtain ⟨hl, hx1, hx2⟩ := linesB_cut hn
        have hbl := behind_lt hn
        have hlt := upTo_lt hn
        rw [size_list] at hlt
        rw [(indexByte_at 10 _).1 hn] at hi
        generalize (upTo 10 r.data.toList).length = i at *
        generalize bs (upTo 10 r.data.toList ++ [10]) = x at *
        generalize bs (behind 10 r.data.toList) = rest at *
        have hx3 : Hid (linesB s = pre ++ x :: linesB rest) := by have := hx.out; rw [hl] at this; exact Lib.hid this
        replace hx1 := Lib.hid hx1; replace hx2 := Lib.hid hx2
        replace hi := Lib.hid hi
        replace hY := Lib.hid hY
        have hw := Lib.hid (show IntKind.i64.wrap ((i : Int) + 1) = (i : Int) + 1 from by rw [IntKind.wrap_i64]; omega)
        have hn1 := Lib.hid (show ((i : Int) + 1).toNat = i + 1 from by omega)
        clear hx hl hn
        have c1 := hrow.cells; have f1 := hrow.frozens
        gi_wp2_with (refine ⟨trivial, (fun e => by cases e), ?_⟩; refine (callsIn_wide.2 (hi.out _)).mono ?_; rintro e w' ⟨rfl, rfl⟩)
        refine wpIn_wide.2 ?_
        clear c1 f1
        refine AnyX.start (S := (fun w' => w'.cell? ⟨b, 0, none⟩ = some (.string r))) (X := (fun i => i == 9)) (by kernel_rfl) ?_
        have al : Below wr.heap.size wr wr.drew := belowDrewN (Below.refl _ _) 1
        have hs_w1 := al.size
        replace hrow := hrow.below al
        have hB := al
        generalize wr.drew = w1 at *
        clear al
        have hS : (fun w' => w'.cell? ⟨b, 0, none⟩ = some (.string r)) w1 := hrow.cells 0
        refine AnyX.take (i := 0) (oi := _) (v := ?_) (by rw [List.getElem?_toArray]; rfl) (by kernel_rfl) (by kernel_rfl) (by kernel_rfl) (by kernel_rfl) (by kernel_rfl) (by exact fun _ _ _ h => h) (Or.inl ⟨by rfl, ?_⟩) hS ?_
        rotate_left
        · (intro wS hSw; (try dsimp only at hSw); go_simp; try with_reducible rfl)
        try simp only [Act.put, List.setIfInBounds_toArray, List.set_cons_zero, List.set_cons_succ]
        refine AnyX.take (i := 1) (oi := _) (v := ?_) (by rw [List.getElem?_toArray]; rfl) (by kernel_rfl) (by kernel_rfl) (by kernel_rfl) (by kernel_rfl) (by kernel_rfl) (by exact fun _ _ _ h => h) (Or.inl ⟨by rfl, ?_⟩) hS ?_
        rotate_left
        · (intro wS hSw; (try dsimp only at hSw); go_simp; try with_reducible rfl)
        try simp only [Act.put, List.setIfInBounds_toArray, List.set_cons_zero, List.set_cons_succ]
        refine AnyX.take (i := 2) (oi := _) (v := ?_) (by rw [List.getElem?_toArray]; rfl) (by kernel_rfl) (by kernel_rfl) (by kernel_rfl) (by kernel_rfl) (by kernel_rfl) (by exact fun _ _ _ h => h) (Or.inl ⟨by rfl, ?_⟩) hS ?_
        rotate_left
        · (intro wS hSw; (try dsimp only at hSw); go_simp; rw [hw.out]; try with_reducible rfl)
        try simp only [Act.put, List.setIfInBounds_toArray, List.set_cons_zero, List.set_cons_succ]
        refine AnyX.take (i := 3) (oi := _) (v := ?_) (by rw [List.getElem?_toArray]; rfl) (by kernel_rfl) (by kernel_rfl) (by kernel_rfl) (by kernel_rfl) (by kernel_rfl) (by exact fun _ _ _ h => h) (Or.inl ⟨by rfl, ?_⟩) hS ?_
        rotate_left
        · (intro wS hSw; (try dsimp only at hSw); go_simp; rw [if_pos (by omega), hx1.out]; try with_reducible rfl)
        try simp only [Act.put, List.setIfInBounds_toArray, List.set_cons_zero, List.set_cons_succ]
        refine AnyX.take (i := 4) (oi := _) (v := ?_) (by rw [List.getElem?_toArray]; rfl) (by kernel_rfl) (by kernel_rfl) (by kernel_rfl) (by kernel_rfl) (by kernel_rfl) (by exact fun _ _ _ h => h) (Or.inl ⟨by rfl, ?_⟩) hS ?_
        rotate_left
        · (intro wS hSw; (try dsimp only at hSw); go_simp; try with_reducible rfl)
        try simp only [Act.put, List.setIfInBounds_toArray, List.set_cons_zero, List.set_cons_succ]
        refine AnyX.take (i := 5) (oi := _) (v := ?_) (by rw [List.getElem?_toArray]; rfl) (by kernel_rfl) (by kernel_rfl) (by kernel_rfl) (by kernel_rfl) (by kernel_rfl) (by exact fun _ _ _ h => h) (Or.inl ⟨by rfl, ?_⟩) hS ?_
        rotate_left
        · (intro wS hSw; (try dsimp only at hSw); go_simp; try with_reducible rfl)
        try simp only [Act.put, List.setIfInBounds_toArray, List.set_cons_zero, List.set_cons_succ]
        refine AnyX.take (i := 6) (oi := _) (v := ?_) (by rw [List.getElem?_toArray]; rfl) (by kernel_rfl) (by kernel_rfl) (by kernel_rfl) (by kernel_rfl) (by kernel_rfl) (by exact fun _ _ _ h => h) (Or.inl ⟨by rfl, ?_⟩) hS ?_
        rotate_left
        · (intro wS hSw; (try dsimp only at hSw); go_simp; rw [hw.out]; try with_reducible rfl)
        try simp only [Act.put, List.setIfInBounds_toArray, List.set_cons_zero, List.set_cons_succ]
        refine AnyX.take (i := 7) (oi := _) (v := ?_) (by rw [List.getElem?_toArray]; rfl) (by kernel_rfl) (by kernel_rfl) (by kernel_rfl) (by kernel_rfl) (by kernel_rfl) (by exact fun _ _ _ h => h) (Or.inl ⟨by rfl, ?_⟩) hS ?_
        rotate_left
        · (intro wS hSw; (try dsimp only at hSw); go_simp; rw [if_pos (by omega), hx2.out]; try with_reducible rfl)
        try simp only [Act.put, List.setIfInBounds_toArray, List.set_cons_zero, List.set_cons_succ]
        refine AnyX.only (i := 8) (o := _) (by kernel_rfl) (by rw [List.getElem?_toArray]; rfl) (fun K hK => ?_)
        try go_simp
        clear hS
        have hS : (fun w' => w'.cell? ⟨b, 0, none⟩ = some (.string r)) w1 := hrow.cells 0
        refine hK.out _ _ (fun _ => hS) ?_
        clear hK K
        try simp only [Act.put, List.setIfInBounds_toArray, List.set_cons_zero, List.set_cons_succ]
        refine AnyX.only (i := 9) (o := _) (by kernel_rfl) (by rw [List.getElem?_toArray]; rfl) (fun K hK => ?_)
        have c_hrow := hrow.cells; have f_hrow := hrow.frozens
        go_simp
        clear c_hrow f_hrow
        refine hK.out _ _ (fun h => by cases h) ?_
        clear hK K
        try simp only [Act.put, List.setIfInBounds_toArray, List.set_cons_zero, List.set_cons_succ]
        refine AnyX.done (by kernel_rfl) ?_ _
        (try clear hS)
        have hrow2 : Row (w1.setCell ⟨b, 0, none⟩ (.string rest)) b 9 [.string rest] := hrow.set 0 (.string rest)
        have hj2 : J pre (w1.setCell ⟨b, 0, none⟩ (.string rest)) := hJ _ _ _ hj ((Keep.ofBelow hB).setCell (by simp) _)
        clear hrow hj hB
        generalize (w1.setCell ⟨b, 0, none⟩ (.string rest)) = w9 at *
        obtain ⟨fn, tmps, assign, body, hy, hR⟩ := hY.out (n - 1) pre x (linesB rest) w9 hx3.out hj2
        replace hR := Lib.hid hR
        gi_wp2
        refine ⟨(fun e => by cases e), ?_⟩
        refine hR.out.mono ?_
        rintro e W3 (⟨rfl, hJ3, hk3⟩ | ⟨rfl, hJx3⟩)
        · have hrow3 := hrow2.keep hk3
          have hm3 := boxLeft_eq hrow3
          gi_wp2
          go_roundw
          case rel => exact ⟨pre ++ [x], rest, by refine Lib.hid ?_; rw [hx3.out]; simp, by omega, hrow3, hJ3⟩
          case measure => have := hm.out; omega
        · gi_wp2
          refine bodyPost_ret (results_none rfl _ _ _) rfl ?_
          exact ⟨⟨_, rfl⟩, .inr ⟨pre, x, linesB rest, hx3.out, hJx3⟩⟩
      · have hl := linesB_last hz hn
        rw [(indexByte_at 10 _).2 hn] at hi
        have hx3 : Hid (linesB s = pre ++ r :: []) := by have := hx.out; rw [hl] at this; exact Lib.hid this
        replace hi := Lib.hid hi
        have c1 := hrow.cells; have f1 := hrow.frozens
        have hrow2 : Row (wr.setCell ⟨b, 0, none⟩ (.string ⟨#[]⟩)) b 9 [.string ⟨#[]⟩] := hrow.set 0 (.string ⟨#[]⟩)
        have hj2 : J pre (wr.setCell ⟨b, 0, none⟩ (.string ⟨#[]⟩)) := hJ _ _ _ hj ((Keep.refl _ _).setCell (by simp) _)
        obtain ⟨fn, tmps, assign, body, hy, hR⟩ := hY (n - 1) pre r [] _ hx3.out hj2
        replace hR := Lib.hid hR
        replace hrow2 := Lib.hid hrow2
        clear hx hl hn hY
        gi_wp2_with (refine ⟨trivial, (fun e => by cases e), ?_⟩; refine (callsIn_wide.2 (hi.out _)).mono ?_; rintro e w' ⟨rfl, rfl⟩)
        refine ⟨(fun e => by cases e), ?_⟩
        refine hR.out.mono ?_
        rintro e W3 (⟨rfl, hJ3, hk3⟩ | ⟨rfl, hJx3⟩)
        · have hrow3 := hrow2.out.keep hk3
          have hm3 := boxLeft_eq hrow3
          gi_wp2
          go_roundw
          case rel => exact ⟨pre ++ [r], ⟨#[]⟩, by refine Lib.hid ?_; rw [hx3.out]; simp [linesB, linesOf], Nat.zero_le _, hrow3, hJ3⟩
          case measure => have h7 := hm.out; have h8 : (⟨#[]⟩ : ByteArray).size = 0 := rfl; omega
        · gi_wp2
          refine bodyPost_ret (results_none rfl _ _ _) rfl ?_
          exact ⟨⟨_, rfl⟩, .inr ⟨pre, r, [], hx3.out, hJx3⟩⟩
    · have c1 := hrow.cells; have f1 := hrow.frozens
      gi_wp2
      go_end0
      refine ⟨⟨_, rfl⟩, .inl ?_⟩
      have h1 := hx.out
      rw [linesB_nil hz, List.append_nil] at h1
      rw [h1]; exact hj
end Go.Proofs.YtnmgaponnfjciaaDoor
