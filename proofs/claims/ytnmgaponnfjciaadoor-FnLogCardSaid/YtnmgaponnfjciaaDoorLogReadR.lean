/- Walks: the reference's l27Read: a line of a log read. -/
import Derived.Test.YtnmgaponnfjciaaDoorLogSplit
import Derived.Test.YtnmgaponnfjciaaDoorLogEnc
namespace Go.Proofs.YtnmgaponnfjciaaDoor
open Go.RowKit
theorem split_first {t : TypeId} {w : World} {v : Value} {c : UInt8} {l : Bs} {F : List Nat} (h : Ow EStr t w v ((splitL c l).map bs) F) :
    ∃ g off n cap, v = .slice (some ⟨g, off, none⟩) n cap ∧ 0 < n ∧ n = (splitL c l).length ∧ w.cell? ⟨g, off, none⟩ = some (.string (bs (upTo c l))) := by
  obtain ⟨F', _, hs⟩ := h.read
  obtain ⟨a, cap, rfl⟩ := hs.slice
  obtain ⟨r, hr, _⟩ := splitL_head c l
  obtain ⟨-, -, hc⟩ := hs.str
  obtain ⟨-, b, off, rfl, h0⟩ := hc 0 (by rw [hr]; simp)
  refine ⟨b, off, _, cap, rfl, by rw [hr]; simp, by simp, ?_⟩
  rw [Nat.add_zero] at h0
  rw [h0]
  simp [hr]
theorem good_bs {a b : ByteArray} (h : goodRec a b = true) : Good a.data.toList b.data.toList := goodL_good (by rw [← goodRec_L]; exact h)
def PReadR (l : Bs) (k : Nat) (w : World) (e : Ending) (w' : World) : Prop := e = .returned (.tuple #[.agg #[.string (bs (readR l k).1.1), .string (bs (readR l k).1.2)], .bool (readR l k).2]) ∧ Below w.heap.size w w'
theorem readR_a {l : Bs} {k : Nat} (h : (upTo 35 l).length < (aheadL k).length ∨ (upTo 35 l).take (aheadL k).length ≠ aheadL k) : readR l k = (([], []), false) := by
  unfold readR; rw [if_pos h]
theorem readR_b {l : Bs} {k : Nat} {rest : Bs} (h : ¬ ((upTo 35 l).length < (aheadL k).length ∨ (upTo 35 l).take (aheadL k).length ≠ aheadL k)) (hr : rest = (upTo 35 l).drop (aheadL k).length) (h2 : (upTo 64 rest).length = rest.length) : readR l k = (([], []), false) := by
  subst hr; unfold readR; rw [if_neg h]; simp only []; rw [if_pos h2]
theorem readR_c {l : Bs} {k : Nat} {rest : Bs} (h : ¬ ((upTo 35 l).length < (aheadL k).length ∨ (upTo 35 l).take (aheadL k).length ≠ aheadL k)) (hr : rest = (upTo 35 l).drop (aheadL k).length) (h2 : ¬ (upTo 64 rest).length = rest.length) :
    readR l k = ((upTo 64 rest, rest.drop ((upTo 64 rest).length + 1)), goodL (upTo 64 rest) (rest.drop ((upTo 64 rest).length + 1)) && (lineL k (upTo 64 rest) (rest.drop ((upTo 64 rest).length + 1)) == l ++ [10])) := by
  subst hr; unfold readR; rw [if_neg h]; simp only []; rw [if_neg h2]
theorem ext_take (l : Bs) (n : Nat) : (bs l).extract 0 n = bs (l.take n) := by rw [ext_bs, bs_list]; simp
theorem ext_drop (l : Bs) (n : Nat) : (bs l).extract n (bs l).size = bs (l.drop n) := by rw [ext_end, bs_list]
theorem bs_beq (a b : Bs) : ((bs a).toList == (bs b).toList) = (a == b) := by rw [ByteArray.toList_eq, ByteArray.toList_eq, bs_list, bs_list]
set_option maxHeartbeats 3200000 in
set_option maxRecDepth 100000 in
theorem l27Read_c (s : ByteArray) (k : Nat) (w : World) (hk : k ≤ 59) (hs : s.size ≤ 16777216) :
    Calls Tryd.prog 69 #[.string s, .int .i64 (k : Int)] w (PReadR s.data.toList k w) := by
  have hI := Lib.hid (fun w => l1Num_c 1 k w (by omega) (by omega))
  have hah : bs (Lib.decDigits k) ++ ⟨#[32]⟩ = bs (aheadL k) := by rw [app_bs, bs_list]; rfl
  have hD : (bs (Lib.decDigits k)).size ≤ 2 := by rw [bs_size]; exact digit_len 1 _ (by omega)
  have hA : (bs (aheadL k)).size ≤ 3 := by have := digit_len 1 k (by omega); rw [bs_size]; simp [aheadL]; omega
  have hT0 : (bs (upTo 35 s.data.toList)).size ≤ 16777216 := by have := upTo_len 35 s.data.toList; rw [size_list] at this; rw [bs_size]; omega
  rw [← hah] at hA
  replace hah := Lib.hid hah
  generalize hdk : bs (Lib.decDigits k) = D at *
  clear hdk
  go_enter Tryd.func69, Tryd.ntmps69
  go_wp2_with fail
  have al : Below w.heap.size w (w.alloc (.cells #[.string ⟨#[]⟩, .string ⟨#[]⟩] 27)) := by
    repeat refine Below.alloc ?_ (by simp <;> omega) _
    exact Below.refl _ _
  have n_R0 := Row.made w 27 [.string ⟨#[]⟩, .string ⟨#[]⟩]
  have hs_w1 : w.heap.size < (w.alloc (.cells #[.string ⟨#[]⟩, .string ⟨#[]⟩] 27)).heap.size := by simp
  have hB := al
  generalize (w.alloc (.cells #[.string ⟨#[]⟩, .string ⟨#[]⟩] 27)) = w1 at *
  have R0 := n_R0; clear n_R0
  clear al
  go_wp2_with fail
  refine (hI.out _).mono ?_
  rintro e w2 ⟨rfl, j, hj⟩
  have hb : Below w1.heap.size w1 w2 := by rw [hj]; exact belowDrewN (Below.refl _ _) _
  clear hj
  have hs_w2 := hb.size
  replace R0 := R0.below hb
  replace hB := tr hB hb (Nat.le_refl _)
  clear hb
  clear hI
  go_wp2_with fail
  generalize hag : D ++ (⟨#[32]⟩ : ByteArray) = ah at *
  clear hag hD
  refine (l1Split_c s 35 _ hs).mono ?_
  rintro e w3 ⟨v2, F2, rfl, o2, -, -, hb⟩
  have hs_w3 := hb.size
  replace R0 := R0.below hb
  replace hB := tr hB hb (Nat.le_refl _)
  clear hb
  obtain ⟨g2, off2, m2, cap2, rfl, hm2, -, q2⟩ := split_first o2
  clear o2
  have e0 : ah.size = (aheadL k).length := by rw [hah.out, bs_size]
  have e1 := bs_size (upTo 35 s.data.toList)
  have e2 := ext_take (upTo 35 s.data.toList) ah.size
  have e3 := ext_drop (upTo 35 s.data.toList) ah.size
  have e4 : (((bs (upTo 35 s.data.toList)).extract 0 ah.size).toList == ah.toList) = ((upTo 35 s.data.toList).take (aheadL k).length == aheadL k) := by rw [e2, e0, hah.out, bs_beq]
  replace e0 := Lib.hid e0; replace e1 := Lib.hid e1; replace e3 := Lib.hid e3; replace e4 := Lib.hid e4
  clear e2
  generalize bs (upTo 35 s.data.toList) = tx at *
  by_cases hlt : tx.size < ah.size
  · have hno := readR_a (l := s.data.toList) (k := k) (.inl (by have := e0.out; have := e1.out; omega))
    replace hno := Lib.hid hno
    clear e3 e4
    have c_R0 := R0.cells; have f_R0 := R0.frozens
    go_wp2_with fail
    clear c_R0 f_R0
    refine bodyPost_ret (v := .tuple #[.agg #[.string ⟨#[]⟩, .string ⟨#[]⟩], .bool false]) ?_ rfl ⟨?_, ?_⟩
    · have c_R0 := R0.cells; have f_R0 := R0.frozens
      simp [results, Tryd.results69, go_sem, c_R0, f_R0]
    · rw [hno.out]; rfl
    · repeat refine Below.setCell ?_ (by simp <;> omega) _
      exact hB
  cases heq : ((tx.extract 0 ah.size).toList == ah.toList)
  · have hno := readR_a (l := s.data.toList) (k := k) (.inr (by have h9 := e4.out; rw [heq] at h9; intro e; rw [e] at h9; simp at h9))
    replace hno := Lib.hid hno
    clear e3 e4
    have c_R0 := R0.cells; have f_R0 := R0.frozens
    go_wp2_with fail
    clear c_R0 f_R0
    refine bodyPost_ret (v := .tuple #[.agg #[.string ⟨#[]⟩, .string ⟨#[]⟩], .bool false]) ?_ rfl ⟨?_, ?_⟩
    · have c_R0 := R0.cells; have f_R0 := R0.frozens
      simp [results, Tryd.results69, go_sem, c_R0, f_R0]
    · rw [hno.out]; rfl
    · repeat refine Below.setCell ?_ (by simp <;> omega) _
      exact hB
  have hyes : ¬ ((upTo 35 s.data.toList).length < (aheadL k).length ∨ (upTo 35 s.data.toList).take (aheadL k).length ≠ aheadL k) := by
    have h9 := e4.out; rw [heq] at h9
    have := e0.out; have := e1.out
    rintro (h | h)
    · omega
    · exact h (by simpa using h9.symm)
  replace hyes := Lib.hid hyes
  have hle : ah.size ≤ tx.size := by omega
  go_wp2_with fail
  clear q2 hm2 heq
  have hrs : (tx.extract ah.size tx.size).size ≤ 16777216 := by simp; omega
  generalize tx.extract ah.size tx.size = rs at *
  have e5 : rs.data.toList = (upTo 35 s.data.toList).drop (aheadL k).length := by rw [e3.out, bs_list, e0.out]
  replace e5 := Lib.hid e5
  clear e3 e4
  refine (l1Split_c rs 64 _ hrs).mono ?_
  rintro e w4 ⟨v2, F2, rfl, o2, -, -, hb⟩
  have hs_w4 := hb.size
  replace R0 := R0.below hb
  replace hB := tr hB hb (Nat.le_refl _)
  clear hb
  obtain ⟨g2, off2, m2, cap2, rfl, hm2, -, q2⟩ := split_first o2
  clear o2
  have e6 := bs_size (upTo 64 rs.data.toList)
  have e7 := upTo_len 64 rs.data.toList
  rw [size_list] at e7
  have e8 := ext_end rs ((upTo 64 rs.data.toList).length + 1)
  rw [← e6] at e8 e7
  have e9 := size_list rs
  have ea := bs_list (upTo 64 rs.data.toList)
  replace e6 := Lib.hid e6; replace e8 := Lib.hid e8; replace e9 := Lib.hid e9; replace ea := Lib.hid ea
  generalize bs (upTo 64 rs.data.toList) = ak at *
  by_cases hq : ak.size = rs.size
  · have hno := readR_b hyes.out e5.out (by have := e6.out; have := e9.out; omega)
    replace hno := Lib.hid hno
    clear e8 e9 e6 ea
    have c_R0 := R0.cells; have f_R0 := R0.frozens
    go_wp2_with fail
    clear c_R0 f_R0
    refine bodyPost_ret (v := .tuple #[.agg #[.string ⟨#[]⟩, .string ⟨#[]⟩], .bool false]) ?_ rfl ⟨?_, ?_⟩
    · have c_R0 := R0.cells; have f_R0 := R0.frozens
      simp [results, Tryd.results69, go_sem, c_R0, f_R0]
    · rw [hno.out]; rfl
    · repeat refine Below.setCell ?_ (by simp <;> omega) _
      exact hB
  have hno := readR_c hyes.out e5.out (by have := e6.out; have := e9.out; omega)
  replace hno := Lib.hid hno
  have hak : ak.size + 1 ≤ rs.size := by omega
  have hw := Lib.hid (show IntKind.i64.wrap ((ak.size : Int) + 1) = (ak.size : Int) + 1 from by rw [IntKind.wrap_i64]; omega)
  go_wp2_with fail
  have al : Below w4.heap.size w4 (w4.alloc (.cells #[.string ak, .string (rs.extract (ak.size + 1) rs.size)] 27)) := by
    repeat refine Below.alloc ?_ (by simp <;> omega) _
    exact Below.refl _ _
  have n_R9 := Row.made w4 27 [.string ak, .string (rs.extract (ak.size + 1) rs.size)]
  have hs_w5 : w4.heap.size < (w4.alloc (.cells #[.string ak, .string (rs.extract (ak.size + 1) rs.size)] 27)).heap.size := by simp
  replace R0 := R0.below al
  replace hB := tr hB al (Nat.le_refl _)
  generalize (w4.alloc (.cells #[.string ak, .string (rs.extract (ak.size + 1) rs.size)] 27)) = w5 at *
  have R9 := n_R9; clear n_R9
  clear al
  have hrp : (rs.extract (ak.size + 1) rs.size).size ≤ 16777216 := by simp; omega
  generalize rs.extract (ak.size + 1) rs.size = rp at *
  have p1 : rp.data.toList = rs.data.toList.drop ((upTo 64 rs.data.toList).length + 1) := by rw [← e6.out, e8.out, bs_list]
  have p2 := ea.out
  have h9 := hno.out
  rw [← p1, ← p2] at h9
  rw [← goodRec_L] at h9
  replace hno := Lib.hid h9
  clear h9 p1 p2 e5 e6 e8 e9 ea hyes
  have s1 : ak.size ≤ maxLen := by unfold maxLen; omega
  have s2 : rp.size ≤ maxLen := by unfold maxLen; omega
  have hG := fun w => l27Good_c ak rp w s1 s2
  cases hg : goodRec ak rp
  · rw [hg] at hG hno
    replace hG := Lib.hid hG; replace hno := Lib.hid hno.out
    refine AnyX.start (S := (fun w' => w'.cell? ⟨w4.heap.size, 0, none⟩ = some (.string ak) ∧ w'.cell? ⟨w4.heap.size, 1, none⟩ = some (.string rp))) (X := (fun _ => false)) (by kernel_rfl) ?_
    have al : Below w5.heap.size w5 w5.drew := belowDrewN (Below.refl _ _) 1
    have hs_w6 := al.size
    replace R0 := R0.below al
    replace R9 := R9.below al
    replace hB := tr hB al (Nat.le_refl _)
    generalize w5.drew = w6 at *
    clear al
    have hS : (fun w' => w'.cell? ⟨w4.heap.size, 0, none⟩ = some (.string ak) ∧ w'.cell? ⟨w4.heap.size, 1, none⟩ = some (.string rp)) w6 := ⟨R9.cells 0, R9.cells 1⟩
    refine AnyX.take (i := 0) (oi := _) (v := ?_) (by rw [List.getElem?_toArray]; rfl) (by kernel_rfl) (by kernel_rfl) (by kernel_rfl) (by kernel_rfl) (by kernel_rfl) (by exact fun _ _ _ h => h) (Or.inl ⟨by rfl, ?_⟩) hS ?_
    rotate_left
    · (intro wS hSw; (try dsimp only at hSw); go_simp; try with_reducible rfl)
    try simp only [Act.put, List.setIfInBounds_toArray, List.set_cons_zero, List.set_cons_succ]
    refine AnyX.take (i := 1) (oi := _) (v := ?_) (by rw [List.getElem?_toArray]; rfl) (by kernel_rfl) (by kernel_rfl) (by kernel_rfl) (by kernel_rfl) (by kernel_rfl) (by exact fun _ _ _ h => h) (Or.inl ⟨by rfl, ?_⟩) hS ?_
    rotate_left
    · (intro wS hSw; (try dsimp only at hSw); go_simp; try with_reducible rfl)
    try simp only [Act.put, List.setIfInBounds_toArray, List.set_cons_zero, List.set_cons_succ]
    refine AnyX.only (i := 2) (o := _) (by kernel_rfl) (by rw [List.getElem?_toArray]; rfl) (fun K hK => ?_)
    go_simp
    go_at_call 43
    refine (hG.out _).mono ?_
    rintro e w7 ⟨rfl, hb⟩
    have hs_w7 := hb.size
    replace R0 := R0.below hb
    replace R9 := R9.below hb
    replace hB := tr hB hb (Nat.le_refl _)
    clear hb
    clear hS
    have hS : (fun w' => w'.cell? ⟨w4.heap.size, 0, none⟩ = some (.string ak) ∧ w'.cell? ⟨w4.heap.size, 1, none⟩ = some (.string rp)) w7 := ⟨R9.cells 0, R9.cells 1⟩
    refine hK.out _ _ (fun _ => hS) ?_
    clear hK K
    try simp only [Act.put, List.setIfInBounds_toArray, List.set_cons_zero, List.set_cons_succ]
    refine AnyX.take (i := 3) (oi := _) (v := ?_) (by rw [List.getElem?_toArray]; rfl) (by kernel_rfl) (by kernel_rfl) (by kernel_rfl) (by kernel_rfl) (by kernel_rfl) (by exact fun _ _ _ h => h) (Or.inl ⟨by rfl, ?_⟩) hS ?_
    rotate_left
    · (intro wS hSw; (try dsimp only at hSw); go_simp; try with_reducible rfl)
    try simp only [Act.put, List.setIfInBounds_toArray, List.set_cons_zero, List.set_cons_succ]
    refine AnyX.take (i := 4) (oi := _) (v := undef) (by rw [List.getElem?_toArray]; rfl) (by kernel_rfl) (by kernel_rfl) (by kernel_rfl) (by kernel_rfl) (by kernel_rfl) (by exact fun _ _ _ h => h) (Or.inr ⟨by rfl, rfl⟩) hS ?_
    try simp only [Act.put, List.setIfInBounds_toArray, List.set_cons_zero, List.set_cons_succ]
    refine AnyX.take (i := 5) (oi := _) (v := undef) (by rw [List.getElem?_toArray]; rfl) (by kernel_rfl) (by kernel_rfl) (by kernel_rfl) (by kernel_rfl) (by kernel_rfl) (by exact fun _ _ _ h => h) (Or.inr ⟨by rfl, rfl⟩) hS ?_
    try simp only [Act.put, List.setIfInBounds_toArray, List.set_cons_zero, List.set_cons_succ]
    refine AnyX.take (i := 6) (oi := _) (v := undef) (by rw [List.getElem?_toArray]; rfl) (by kernel_rfl) (by kernel_rfl) (by kernel_rfl) (by kernel_rfl) (by kernel_rfl) (by exact fun _ _ _ h => h) (Or.inr ⟨by rfl, rfl⟩) hS ?_
    try simp only [Act.put, List.setIfInBounds_toArray, List.set_cons_zero, List.set_cons_succ]
    refine AnyX.take (i := 7) (oi := _) (v := undef) (by rw [List.getElem?_toArray]; rfl) (by kernel_rfl) (by kernel_rfl) (by kernel_rfl) (by kernel_rfl) (by kernel_rfl) (by exact fun _ _ _ h => h) (Or.inr ⟨by rfl, rfl⟩) hS ?_
    try simp only [Act.put, List.setIfInBounds_toArray, List.set_cons_zero, List.set_cons_succ]
    refine AnyX.take (i := 8) (oi := _) (v := undef) (by rw [List.getElem?_toArray]; rfl) (by kernel_rfl) (by kernel_rfl) (by kernel_rfl) (by kernel_rfl) (by kernel_rfl) (by exact fun _ _ _ h => h) (Or.inr ⟨by rfl, rfl⟩) hS ?_
    try simp only [Act.put, List.setIfInBounds_toArray, List.set_cons_zero, List.set_cons_succ]
    refine AnyX.take (i := 9) (oi := _) (v := undef) (by rw [List.getElem?_toArray]; rfl) (by kernel_rfl) (by kernel_rfl) (by kernel_rfl) (by kernel_rfl) (by kernel_rfl) (by exact fun _ _ _ h => h) (Or.inr ⟨by rfl, rfl⟩) hS ?_
    try simp only [Act.put, List.setIfInBounds_toArray, List.set_cons_zero, List.set_cons_succ]
    refine AnyX.take (i := 10) (oi := _) (v := ?_) (by rw [List.getElem?_toArray]; rfl) (by kernel_rfl) (by kernel_rfl) (by kernel_rfl) (by kernel_rfl) (by kernel_rfl) (by exact fun _ _ _ h => h) (Or.inl ⟨by rfl, ?_⟩) hS ?_
    rotate_left
    · (intro wS hSw; (try dsimp only at hSw); go_simp; try with_reducible rfl)
    try simp only [Act.put, List.setIfInBounds_toArray, List.set_cons_zero, List.set_cons_succ]
    refine AnyX.only (i := 11) (o := _) (by kernel_rfl) (by rw [List.getElem?_toArray]; rfl) (fun K hK => ?_)
    have c_R0 := R0.cells; have f_R0 := R0.frozens
    go_simp
    clear c_R0 f_R0
    have n_R9 := R9.keep (show ((w7.setCell ⟨w.heap.size, 0, none⟩ (.string ak)).setCell ⟨w.heap.size, 1, none⟩ (.string rp)).heap[_]? = _ from by repeat rw [Below.heap_setCell _ _ _ _ (by simp <;> omega)])
    have n_R0 : Row ((w7.setCell ⟨w.heap.size, 0, none⟩ (.string ak)).setCell ⟨w.heap.size, 1, none⟩ (.string rp)) (w.heap.size) 27 [.string ak, .string rp] := by simpa using ((R0.set 0 (.string ak)).set 1 (.string rp))
    have n_hB : Below w.heap.size w ((w7.setCell ⟨w.heap.size, 0, none⟩ (.string ak)).setCell ⟨w.heap.size, 1, none⟩ (.string rp)) := by
      repeat refine Below.setCell ?_ (by simp <;> omega) _
      exact hB
    clear hB R0 R9
    have hs_w8 : w7.heap.size ≤ ((w7.setCell ⟨w.heap.size, 0, none⟩ (.string ak)).setCell ⟨w.heap.size, 1, none⟩ (.string rp)).heap.size := by simp
    generalize ((w7.setCell ⟨w.heap.size, 0, none⟩ (.string ak)).setCell ⟨w.heap.size, 1, none⟩ (.string rp)) = w8 at *
    have hB := n_hB; clear n_hB
    have R0 := n_R0; clear n_R0
    have R9 := n_R9; clear n_R9
    clear hS
    have hS : (fun w' => w'.cell? ⟨w4.heap.size, 0, none⟩ = some (.string ak) ∧ w'.cell? ⟨w4.heap.size, 1, none⟩ = some (.string rp)) w8 := ⟨R9.cells 0, R9.cells 1⟩
    refine hK.out _ _ (fun _ => hS) ?_
    clear hK K
    try simp only [Act.put, List.setIfInBounds_toArray, List.set_cons_zero, List.set_cons_succ]
    refine AnyX.only (i := 12) (o := _) (by kernel_rfl) (by rw [List.getElem?_toArray]; rfl) (fun K hK => ?_)
    try go_simp
    clear hS
    have hS : (fun w' => w'.cell? ⟨w4.heap.size, 0, none⟩ = some (.string ak) ∧ w'.cell? ⟨w4.heap.size, 1, none⟩ = some (.string rp)) w8 := ⟨R9.cells 0, R9.cells 1⟩
    refine hK.out _ _ (fun _ => hS) ?_
    clear hK K
    try simp only [Act.put, List.setIfInBounds_toArray, List.set_cons_zero, List.set_cons_succ]
    refine AnyX.done (by kernel_rfl) ?_ _
    (try clear hS)
    have c_R0 := R0.cells; have f_R0 := R0.frozens
    go_wp2_with fail
    clear c_R0 f_R0
    refine bodyPost_ret (v := .tuple #[.agg #[.string ak, .string rp], .bool false]) ?_ rfl ⟨?_, hB⟩
    · have c_R0 := R0.cells; have f_R0 := R0.frozens
      simp [results, Tryd.results69, go_sem, c_R0, f_R0]
    · rw [hno.out]; simp only [bs_of, Bool.false_and]
  · have hL := Lib.hid (fun w => l27Line_c k ak rp w hk (good_bs hg))
    have hls : (bs (lineL k ak.data.toList rp.data.toList)).size ≤ 400 := by rw [bs_size]; have := lineL_len hk (good_bs hg); omega
    have hcmp := Lib.hid (show (true && (lineL k ak.data.toList rp.data.toList == s.data.toList ++ [10])) = ((bs (lineL k ak.data.toList rp.data.toList)).toList == (s ++ (⟨#[10]⟩ : ByteArray)).toList) from by rw [Bool.true_and, ByteArray.toList_eq, ByteArray.toList_eq, bs_list, app_list])
    rw [hg] at hG hno
    replace hG := Lib.hid hG; replace hno := Lib.hid hno.out
    refine AnyX.start (S := (fun w' => w'.cell? ⟨w4.heap.size, 0, none⟩ = some (.string ak) ∧ w'.cell? ⟨w4.heap.size, 1, none⟩ = some (.string rp))) (X := (fun _ => false)) (by kernel_rfl) ?_
    have al : Below w5.heap.size w5 w5.drew := belowDrewN (Below.refl _ _) 1
    have hs_w9 := al.size
    replace R0 := R0.below al
    replace R9 := R9.below al
    replace hB := tr hB al (Nat.le_refl _)
    generalize w5.drew = w9 at *
    clear al
    have hS : (fun w' => w'.cell? ⟨w4.heap.size, 0, none⟩ = some (.string ak) ∧ w'.cell? ⟨w4.heap.size, 1, none⟩ = some (.string rp)) w9 := ⟨R9.cells 0, R9.cells 1⟩
    refine AnyX.take (i := 0) (oi := _) (v := ?_) (by rw [List.getElem?_toArray]; rfl) (by kernel_rfl) (by kernel_rfl) (by kernel_rfl) (by kernel_rfl) (by kernel_rfl) (by exact fun _ _ _ h => h) (Or.inl ⟨by rfl, ?_⟩) hS ?_
    rotate_left
    · (intro wS hSw; (try dsimp only at hSw); go_simp; try with_reducible rfl)
    try simp only [Act.put, List.setIfInBounds_toArray, List.set_cons_zero, List.set_cons_succ]
    refine AnyX.take (i := 1) (oi := _) (v := ?_) (by rw [List.getElem?_toArray]; rfl) (by kernel_rfl) (by kernel_rfl) (by kernel_rfl) (by kernel_rfl) (by kernel_rfl) (by exact fun _ _ _ h => h) (Or.inl ⟨by rfl, ?_⟩) hS ?_
    rotate_left
    · (intro wS hSw; (try dsimp only at hSw); go_simp; try with_reducible rfl)
    try simp only [Act.put, List.setIfInBounds_toArray, List.set_cons_zero, List.set_cons_succ]
    refine AnyX.only (i := 2) (o := _) (by kernel_rfl) (by rw [List.getElem?_toArray]; rfl) (fun K hK => ?_)
    go_simp
    go_at_call 43
    refine (hG.out _).mono ?_
    rintro e w10 ⟨rfl, hb⟩
    have hs_w10 := hb.size
    replace R0 := R0.below hb
    replace R9 := R9.below hb
    replace hB := tr hB hb (Nat.le_refl _)
    clear hb
    clear hS
    have hS : (fun w' => w'.cell? ⟨w4.heap.size, 0, none⟩ = some (.string ak) ∧ w'.cell? ⟨w4.heap.size, 1, none⟩ = some (.string rp)) w10 := ⟨R9.cells 0, R9.cells 1⟩
    refine hK.out _ _ (fun _ => hS) ?_
    clear hK K
    try simp only [Act.put, List.setIfInBounds_toArray, List.set_cons_zero, List.set_cons_succ]
    refine AnyX.take (i := 3) (oi := _) (v := ?_) (by rw [List.getElem?_toArray]; rfl) (by kernel_rfl) (by kernel_rfl) (by kernel_rfl) (by kernel_rfl) (by kernel_rfl) (by exact fun _ _ _ h => h) (Or.inl ⟨by rfl, ?_⟩) hS ?_
    rotate_left
    · (intro wS hSw; (try dsimp only at hSw); go_simp; try with_reducible rfl)
    try simp only [Act.put, List.setIfInBounds_toArray, List.set_cons_zero, List.set_cons_succ]
    refine AnyX.take (i := 4) (oi := _) (v := ?_) (by rw [List.getElem?_toArray]; rfl) (by kernel_rfl) (by kernel_rfl) (by kernel_rfl) (by kernel_rfl) (by kernel_rfl) (by exact fun _ _ _ h => h) (Or.inl ⟨by rfl, ?_⟩) hS ?_
    rotate_left
    · (intro wS hSw; (try dsimp only at hSw); go_simp; try with_reducible rfl)
    try simp only [Act.put, List.setIfInBounds_toArray, List.set_cons_zero, List.set_cons_succ]
    refine AnyX.take (i := 5) (oi := _) (v := ?_) (by rw [List.getElem?_toArray]; rfl) (by kernel_rfl) (by kernel_rfl) (by kernel_rfl) (by kernel_rfl) (by kernel_rfl) (by exact fun _ _ _ h => h) (Or.inl ⟨by rfl, ?_⟩) hS ?_
    rotate_left
    · (intro wS hSw; (try dsimp only at hSw); go_simp; try with_reducible rfl)
    try simp only [Act.put, List.setIfInBounds_toArray, List.set_cons_zero, List.set_cons_succ]
    refine AnyX.take (i := 7) (oi := _) (v := ?_) (by rw [List.getElem?_toArray]; rfl) (by kernel_rfl) (by kernel_rfl) (by kernel_rfl) (by kernel_rfl) (by kernel_rfl) (by exact fun _ _ _ h => h) (Or.inl ⟨by rfl, ?_⟩) hS ?_
    rotate_left
    · (intro wS hSw; (try dsimp only at hSw); go_simp; try with_reducible rfl)
    try simp only [Act.put, List.setIfInBounds_toArray, List.set_cons_zero, List.set_cons_succ]
    refine AnyX.take (i := 8) (oi := _) (v := ?_) (by rw [List.getElem?_toArray]; rfl) (by kernel_rfl) (by kernel_rfl) (by kernel_rfl) (by kernel_rfl) (by kernel_rfl) (by exact fun _ _ _ h => h) (Or.inl ⟨by rfl, ?_⟩) hS ?_
    rotate_left
    · (intro wS hSw; (try dsimp only at hSw); go_simp; rw [if_neg (by simp; omega)]; try with_reducible rfl)
    try simp only [Act.put, List.setIfInBounds_toArray, List.set_cons_zero, List.set_cons_succ]
    refine AnyX.only (i := 6) (o := _) (by kernel_rfl) (by rw [List.getElem?_toArray]; rfl) (fun K hK => ?_)
    go_simp
    go_at_call 44
    refine (hL.out _).mono ?_
    rintro e w11 ⟨rfl, hb⟩
    have hs_w11 := hb.size
    replace R0 := R0.below hb
    replace R9 := R9.below hb
    replace hB := tr hB hb (Nat.le_refl _)
    clear hb
    clear hS
    have hS : (fun w' => w'.cell? ⟨w4.heap.size, 0, none⟩ = some (.string ak) ∧ w'.cell? ⟨w4.heap.size, 1, none⟩ = some (.string rp)) w11 := ⟨R9.cells 0, R9.cells 1⟩
    refine hK.out _ _ (fun _ => hS) ?_
    clear hK K
    try simp only [Act.put, List.setIfInBounds_toArray, List.set_cons_zero, List.set_cons_succ]
    refine AnyX.take (i := 9) (oi := _) (v := ?_) (by rw [List.getElem?_toArray]; rfl) (by kernel_rfl) (by kernel_rfl) (by kernel_rfl) (by kernel_rfl) (by kernel_rfl) (by exact fun _ _ _ h => h) (Or.inl ⟨by rfl, ?_⟩) hS ?_
    rotate_left
    · (intro wS hSw; (try dsimp only at hSw); go_simp; try with_reducible rfl)
    try simp only [Act.put, List.setIfInBounds_toArray, List.set_cons_zero, List.set_cons_succ]
    refine AnyX.take (i := 10) (oi := _) (v := ?_) (by rw [List.getElem?_toArray]; rfl) (by kernel_rfl) (by kernel_rfl) (by kernel_rfl) (by kernel_rfl) (by kernel_rfl) (by exact fun _ _ _ h => h) (Or.inl ⟨by rfl, ?_⟩) hS ?_
    rotate_left
    · (intro wS hSw; (try dsimp only at hSw); go_simp; try with_reducible rfl)
    try simp only [Act.put, List.setIfInBounds_toArray, List.set_cons_zero, List.set_cons_succ]
    refine AnyX.only (i := 11) (o := _) (by kernel_rfl) (by rw [List.getElem?_toArray]; rfl) (fun K hK => ?_)
    have c_R0 := R0.cells; have f_R0 := R0.frozens
    go_simp
    clear c_R0 f_R0
    have n_R9 := R9.keep (show ((w11.setCell ⟨w.heap.size, 0, none⟩ (.string ak)).setCell ⟨w.heap.size, 1, none⟩ (.string rp)).heap[_]? = _ from by repeat rw [Below.heap_setCell _ _ _ _ (by simp <;> omega)])
    have n_R0 : Row ((w11.setCell ⟨w.heap.size, 0, none⟩ (.string ak)).setCell ⟨w.heap.size, 1, none⟩ (.string rp)) (w.heap.size) 27 [.string ak, .string rp] := by simpa using ((R0.set 0 (.string ak)).set 1 (.string rp))
    have n_hB : Below w.heap.size w ((w11.setCell ⟨w.heap.size, 0, none⟩ (.string ak)).setCell ⟨w.heap.size, 1, none⟩ (.string rp)) := by
      repeat refine Below.setCell ?_ (by simp <;> omega) _
      exact hB
    clear hB R0 R9
    have hs_w12 : w11.heap.size ≤ ((w11.setCell ⟨w.heap.size, 0, none⟩ (.string ak)).setCell ⟨w.heap.size, 1, none⟩ (.string rp)).heap.size := by simp
    generalize ((w11.setCell ⟨w.heap.size, 0, none⟩ (.string ak)).setCell ⟨w.heap.size, 1, none⟩ (.string rp)) = w12 at *
    have hB := n_hB; clear n_hB
    have R0 := n_R0; clear n_R0
    have R9 := n_R9; clear n_R9
    clear hS
    have hS : (fun w' => w'.cell? ⟨w4.heap.size, 0, none⟩ = some (.string ak) ∧ w'.cell? ⟨w4.heap.size, 1, none⟩ = some (.string rp)) w12 := ⟨R9.cells 0, R9.cells 1⟩
    refine hK.out _ _ (fun _ => hS) ?_
    clear hK K
    try simp only [Act.put, List.setIfInBounds_toArray, List.set_cons_zero, List.set_cons_succ]
    refine AnyX.only (i := 12) (o := _) (by kernel_rfl) (by rw [List.getElem?_toArray]; rfl) (fun K hK => ?_)
    try go_simp
    clear hS
    have hS : (fun w' => w'.cell? ⟨w4.heap.size, 0, none⟩ = some (.string ak) ∧ w'.cell? ⟨w4.heap.size, 1, none⟩ = some (.string rp)) w12 := ⟨R9.cells 0, R9.cells 1⟩
    refine hK.out _ _ (fun _ => hS) ?_
    clear hK K
    try simp only [Act.put, List.setIfInBounds_toArray, List.set_cons_zero, List.set_cons_succ]
    refine AnyX.done (by kernel_rfl) ?_ _
    (try clear hS)
    have c_R0 := R0.cells; have f_R0 := R0.frozens
    go_wp2_with fail
    clear c_R0 f_R0
    refine bodyPost_ret (v := .tuple #[.agg #[.string ak, .string rp], .bool ((bs (lineL k ak.data.toList rp.data.toList)).toList == (s ++ (⟨#[10]⟩ : ByteArray)).toList)]) ?_ rfl ⟨?_, hB⟩
    · have c_R0 := R0.cells; have f_R0 := R0.frozens
      simp [results, Tryd.results69, go_sem, c_R0, f_R0]
    · rw [hno.out]; simp only [bs_of, hcmp.out]
end Go.Proofs.YtnmgaponnfjciaaDoor
