/- Walks: the reference's draws of a log that may be spoilt, and of the arguments of the log's laws. -/
import Derived.Test.YtnmgaponnfjciaaDoorDrawsLog
namespace Go.Proofs.YtnmgaponnfjciaaDoor
open Go.RowKit
def PAny (B g : Nat) (F : List Nat) (w : World) (e : Ending) (w' : World) : Prop := ∃ (d p : ByteArray) (q : Int), d.size ≤ 60000 ∧ p.size ≤ 60000 ∧ (-100 ≤ q ∧ q ≤ 100) ∧ e = .returned (.agg #[.string d, .string p, .int .i64 q]) ∧ Cur B w' g F ∧ Keep [g] w w'
set_option maxHeartbeats 3200000 in
set_option maxRecDepth 100000 in
theorem anyLog_c (B g : Nat) (F : List Nat) (w : World) (h : Cur B w g F) (hB0 : B ≤ 1099511600000) :
    Calls Tryd.prog 59 #[.pointer (some ⟨g, 0, none⟩)] w (PAny (B + 90) g F w) := by
  have lg := h.lt
  have hFg := h.far
  have hC := h
  have hKp := Keep.refl [g] w
  clear h
  go_enter Tryd.func59, Tryd.ntmps59
  go_wp2_with fail
  have al : Below w.heap.size w (w.alloc (.cells #[.string ⟨#[]⟩, .string ⟨#[]⟩, .int .i64 0] 31)) := by
    repeat refine Below.alloc ?_ (by simp <;> omega) _
    exact Below.refl _ _
  have n_RZ := Row.made w 31 [.string ⟨#[]⟩, .string ⟨#[]⟩, .int .i64 0]
  have hs_w1 : w.heap.size < (w.alloc (.cells #[.string ⟨#[]⟩, .string ⟨#[]⟩, .int .i64 0] 31)).heap.size := by simp
  replace hKp := hKp.trans (Keep.ofBelow (F := [g]) al)
  replace hC := hC.below al
  generalize (w.alloc (.cells #[.string ⟨#[]⟩, .string ⟨#[]⟩, .int .i64 0] 31)) = w1 at *
  have RZ := n_RZ; clear n_RZ
  clear al
  refine (log_c _ g F _ hC (by omega)).mono ?_
  rintro e w2 ⟨d, p, q, ok, rfl, hC', hk⟩
  have hs_w2 := hk.size
  replace RZ := RZ.keepK hk (by simp <;> omega)
  replace hC := hC'; clear hC'
  replace hKp := hKp.trans hk
  clear hk
  have hsm := ok.small
  have hct := ok.count
  dsimp only at hsm hct
  have c_RZ := RZ.cells; have f_RZ := RZ.frozens
  go_wp2_with fail
  clear c_RZ f_RZ
  have al : Below w2.heap.size w2 (w2.alloc (.cells #[.string d, .string p, .int .i64 q] 31)) := by
    repeat refine Below.alloc ?_ (by simp <;> omega) _
    exact Below.refl _ _
  have n_RL := Row.made w2 31 [.string d, .string p, .int .i64 q]
  have hs_w3 : w2.heap.size < (w2.alloc (.cells #[.string d, .string p, .int .i64 q] 31)).heap.size := by simp
  replace RZ := RZ.below al
  replace hKp := hKp.trans (Keep.ofBelow (F := [g]) al)
  replace hC := hC.below al
  generalize (w2.alloc (.cells #[.string d, .string p, .int .i64 q] 31)) = w3 at *
  have RL := n_RL; clear n_RL
  clear al
  refine (pick_c _ g F 24 _ hC (by omega) (by omega)).mono ?_
  rintro e w4 ⟨m, rfl, hm, hC', hk⟩
  have hs_w4 := hk.size
  replace RZ := RZ.keepK hk (by simp <;> omega)
  replace RL := RL.keepK hk (by simp <;> omega)
  replace hC := hC'; clear hC'
  replace hKp := hKp.trans hk
  clear hk
  by_cases h0 : m = 0
  · subst h0
    have c_RZ := RZ.cells; have f_RZ := RZ.frozens
    have c_RL := RL.cells; have f_RL := RL.frozens
    go_wp2_with fail
    refine bodyPost_ret (v := .agg #[.string d, .string p, .int .i64 (q + 1)]) ?_ rfl ?_
    · simp [results, Tryd.results59, go_sem, c_RZ, f_RZ, c_RL]
    · refine ⟨_, _, _, ?_, ?_, ?_, rfl, ?_, ?_⟩
      · (try simp only [ByteArray.size_append]); omega
      · omega
      · omega
      · repeat refine Cur.setFar ?_ (by dsimp only; omega) _
        exact hC.mono (by omega)
      · repeat refine Keep.setNew ?_ (by dsimp only; omega) _
        exact hKp
  · have e0 : ((m : Int) == 0) = false := by simp; omega
    by_cases h1 : m = 1
    · subst h1
      have c_RZ := RZ.cells; have f_RZ := RZ.frozens
      have c_RL := RL.cells; have f_RL := RL.frozens
      go_wp2_with fail
      clear c_RZ f_RZ c_RL f_RL
      refine (spoilt_c _ g F p ⟨#[35, 64, 10, 48, 49]⟩ _ hC (by omega) (by omega) (by decide) (by decide)).mono ?_
      rintro e w5 ⟨x, rfl, hx, hC', hk⟩
      have hs_w5 := hk.size
      replace RZ := RZ.keepK hk (by simp <;> omega)
      replace RL := RL.keepK hk (by simp <;> omega)
      replace hC := hC'; clear hC'
      replace hKp := hKp.trans hk
      clear hk
      have c_RZ := RZ.cells; have f_RZ := RZ.frozens
      have c_RL := RL.cells; have f_RL := RL.frozens
      go_wp2_with fail
      refine bodyPost_ret (v := .agg #[.string d, .string x, .int .i64 q]) ?_ rfl ?_
      · simp [results, Tryd.results59, go_sem, c_RZ, f_RZ, c_RL]
      · refine ⟨_, _, _, ?_, ?_, ?_, rfl, ?_, ?_⟩
        · (try simp only [ByteArray.size_append]); omega
        · omega
        · omega
        · repeat refine Cur.setFar ?_ (by dsimp only; omega) _
          exact hC.mono (by omega)
        · repeat refine Keep.setNew ?_ (by dsimp only; omega) _
          exact hKp
    · have e1 : ((m : Int) == 1) = false := by simp; omega
      by_cases h2 : m = 2
      · subst h2
        have c_RZ := RZ.cells; have f_RZ := RZ.frozens
        have c_RL := RL.cells; have f_RL := RL.frozens
        go_wp2_with fail
        refine bodyPost_ret (v := .agg #[.string (d ++ p), .string p, .int .i64 q]) ?_ rfl ?_
        · simp [results, Tryd.results59, go_sem, c_RZ, f_RZ, c_RL]
        · refine ⟨_, _, _, ?_, ?_, ?_, rfl, ?_, ?_⟩
          · (try simp only [ByteArray.size_append]); omega
          · omega
          · omega
          · repeat refine Cur.setFar ?_ (by dsimp only; omega) _
            exact hC.mono (by omega)
          · repeat refine Keep.setNew ?_ (by dsimp only; omega) _
            exact hKp
      · have e2 : ((m : Int) == 2) = false := by simp; omega
        have c_RZ := RZ.cells; have f_RZ := RZ.frozens
        have c_RL := RL.cells; have f_RL := RL.frozens
        go_wp2_with fail
        refine bodyPost_ret (v := .agg #[.string d, .string p, .int .i64 q]) ?_ rfl ?_
        · simp [results, Tryd.results59, go_sem, c_RZ, f_RZ, c_RL]
        · refine ⟨_, _, _, ?_, ?_, ?_, rfl, ?_, ?_⟩
          · (try simp only [ByteArray.size_append]); omega
          · omega
          · omega
          · repeat refine Cur.setFar ?_ (by dsimp only; omega) _
            exact hC.mono (by omega)
          · repeat refine Keep.setNew ?_ (by dsimp only; omega) _
            exact hKp
def PDrawApp (w : World) (e : Ending) (w' : World) : Prop := ∃ (d p : ByteArray) (q : Int) (c r : ByteArray), d.size ≤ 60000 ∧ p.size ≤ 60000 ∧ c.size ≤ 20 ∧ r.size ≤ 20 ∧ e = .returned (.tuple #[.agg #[.string d, .string p, .int .i64 q], .agg #[.string c, .string r]]) ∧ Below w.heap.size w w'
set_option maxHeartbeats 3200000 in
set_option maxRecDepth 100000 in
theorem DrawAppendRecord_c (v : Value) (code : List Int) (FC : List Nat) (w : World) (hv : Sl EByte w v code FC) :
    Calls Tryd.prog 38 #[v] w (PDrawApp w) := by
  obtain ⟨a, c, rfl⟩ := hv.slice
  have hFl := hv.lt (by decide)
  go_enter Tryd.func38, Tryd.ntmps38
  go_wp2_with fail
  have al : Below w.heap.size w (((w.alloc (.cells #[.string ⟨#[]⟩, .string ⟨#[]⟩, .int .i64 0] 31)).alloc (.cells #[.string ⟨#[]⟩, .string ⟨#[]⟩] 27)).alloc (.cells #[.slice a code.length c, .int .i64 0, .int .u64 0] 75)) := by
    repeat refine Below.alloc ?_ (by simp <;> omega) _
    exact Below.refl _ _
  have n_RZ : Row (((w.alloc (.cells #[.string ⟨#[]⟩, .string ⟨#[]⟩, .int .i64 0] 31)).alloc (.cells #[.string ⟨#[]⟩, .string ⟨#[]⟩] 27)).alloc (.cells #[.slice a code.length c, .int .i64 0, .int .u64 0] 75)) (w.heap.size) 31 [.string ⟨#[]⟩, .string ⟨#[]⟩, .int .i64 0] := by simp [row_alloc] <;> omega
  have n_RE : Row (((w.alloc (.cells #[.string ⟨#[]⟩, .string ⟨#[]⟩, .int .i64 0] 31)).alloc (.cells #[.string ⟨#[]⟩, .string ⟨#[]⟩] 27)).alloc (.cells #[.slice a code.length c, .int .i64 0, .int .u64 0] 75)) (w.heap.size + 1) 27 [.string ⟨#[]⟩, .string ⟨#[]⟩] := by simp [row_alloc] <;> omega
  have n_RC : Row (((w.alloc (.cells #[.string ⟨#[]⟩, .string ⟨#[]⟩, .int .i64 0] 31)).alloc (.cells #[.string ⟨#[]⟩, .string ⟨#[]⟩] 27)).alloc (.cells #[.slice a code.length c, .int .i64 0, .int .u64 0] 75)) (w.heap.size + 1 + 1) 75 [.slice a code.length c, .int .i64 0, .int .u64 0] := by simp [row_alloc] <;> omega
  have hs_w1 : w.heap.size + 1 + 1 < (((w.alloc (.cells #[.string ⟨#[]⟩, .string ⟨#[]⟩, .int .i64 0] 31)).alloc (.cells #[.string ⟨#[]⟩, .string ⟨#[]⟩] 27)).alloc (.cells #[.slice a code.length c, .int .i64 0, .int .u64 0] 75)).heap.size := by simp <;> omega
  replace hv := hv.below (by decide) al
  have hB := al
  generalize (((w.alloc (.cells #[.string ⟨#[]⟩, .string ⟨#[]⟩, .int .i64 0] 31)).alloc (.cells #[.string ⟨#[]⟩, .string ⟨#[]⟩] 27)).alloc (.cells #[.slice a code.length c, .int .i64 0, .int .u64 0] 75)) = w1 at *
  have RZ := n_RZ; clear n_RZ
  have RE := n_RE; clear n_RE
  have RC := n_RC; clear n_RC
  clear al
  have hC : Cur 0 w1 (w.heap.size + 1 + 1) FC := ⟨code, a, c, 0, 0, RC, hv, fun b hb => by have := hFl b hb; omega, by omega, by omega, by omega⟩
  clear RC hv
  have hFg := hFl
  have hKp : Keep [w.heap.size + 1 + 1] w w1 := Keep.ofBelow hB
  clear hB
  obtain ⟨g, hg⟩ : ∃ g, g = w.heap.size + 1 + 1 := ⟨_, rfl⟩
  rw [← hg] at hC hKp ⊢
  have hg1 : w.heap.size ≤ g := by omega
  have hg2 : g ≤ w.heap.size + 1 + 1 := by omega
  have hg3 : w.heap.size + 1 + 1 ≤ g := by omega
  replace hg := Lib.hid hg
  refine (anyLog_c _ g FC _ hC (by omega)).mono ?_
  rintro e w2 ⟨d, p, q, hd, hp, hq, rfl, hC', hk⟩
  have hs_w2 := hk.size
  replace RZ := RZ.keepK hk (by simp <;> omega)
  replace RE := RE.keepK hk (by simp <;> omega)
  replace hC := hC'; clear hC'
  replace hKp := hKp.trans hk
  clear hk
  clear hq
  have c_RZ := RZ.cells; have f_RZ := RZ.frozens
  have c_RE := RE.cells; have f_RE := RE.frozens
  go_wp2_with fail
  clear c_RZ f_RZ c_RE f_RE
  have al : Below w2.heap.size w2 (w2.alloc (.cells #[.string d, .string p, .int .i64 q] 31)) := by
    repeat refine Below.alloc ?_ (by simp <;> omega) _
    exact Below.refl _ _
  have n_RL := Row.made w2 31 [.string d, .string p, .int .i64 q]
  have hs_w3 : w2.heap.size < (w2.alloc (.cells #[.string d, .string p, .int .i64 q] 31)).heap.size := by simp
  replace RZ := RZ.below al
  replace RE := RE.below al
  replace hKp := hKp.trans (Keep.ofBelow (F := [g]) al)
  replace hC := hC.below al
  generalize (w2.alloc (.cells #[.string d, .string p, .int .i64 q] 31)) = w3 at *
  have RL := n_RL; clear n_RL
  clear al
  refine (one_c _ g FC 40 _ hC (by omega) (by omega)).mono ?_
  rintro e w4 ⟨b, rfl, hC', hk⟩
  have hs_w4 := hk.size
  replace RZ := RZ.keepK hk (by simp <;> omega)
  replace RE := RE.keepK hk (by simp <;> omega)
  replace RL := RL.keepK hk (by simp <;> omega)
  replace hC := hC'; clear hC'
  replace hKp := hKp.trans hk
  clear hk
  cases b
  · have c_RZ := RZ.cells; have f_RZ := RZ.frozens
    have c_RE := RE.cells; have f_RE := RE.frozens
    have c_RL := RL.cells; have f_RL := RL.frozens
    go_wp2_with fail
    clear c_RZ f_RZ c_RE f_RE c_RL f_RL
    rename_i K0 hK0
    refine AnyX.start (S := (fun w' => w'.cell? ⟨w2.heap.size, 0, none⟩ = some (.string d) ∧ w'.cell? ⟨w2.heap.size, 1, none⟩ = some (.string p) ∧ w'.cell? ⟨w2.heap.size, 2, none⟩ = some (.int .i64 q))) (X := (fun _ => false)) (by kernel_rfl) ?_
    have al : Below w4.heap.size w4 w4.drew := belowDrewN (Below.refl _ _) 1
    have hs_w5 := al.size
    replace RZ := RZ.below al
    replace RE := RE.below al
    replace RL := RL.below al
    replace hKp := hKp.trans (Keep.ofBelow (F := [g]) al)
    replace hC := hC.below al
    generalize w4.drew = w5 at *
    clear al
    have hS : (fun w' => w'.cell? ⟨w2.heap.size, 0, none⟩ = some (.string d) ∧ w'.cell? ⟨w2.heap.size, 1, none⟩ = some (.string p) ∧ w'.cell? ⟨w2.heap.size, 2, none⟩ = some (.int .i64 q)) w5 := ⟨RL.cells 0, RL.cells 1, RL.cells 2⟩
    refine AnyX.take (i := 0) (oi := _) (v := ?_) (by rw [List.getElem?_toArray]; rfl) (by kernel_rfl) (by kernel_rfl) (by kernel_rfl) (by kernel_rfl) (by kernel_rfl) (by exact fun _ _ _ h => h) (Or.inl ⟨by rfl, ?_⟩) hS ?_
    rotate_left
    · (intro wS hSw; (try dsimp only at hSw); go_simp; try with_reducible rfl)
    try simp only [Act.put, List.setIfInBounds_toArray, List.set_cons_zero, List.set_cons_succ]
    refine AnyX.take (i := 1) (oi := _) (v := ?_) (by rw [List.getElem?_toArray]; rfl) (by kernel_rfl) (by kernel_rfl) (by kernel_rfl) (by kernel_rfl) (by kernel_rfl) (by exact fun _ _ _ h => h) (Or.inl ⟨by rfl, ?_⟩) hS ?_
    rotate_left
    · (intro wS hSw; (try dsimp only at hSw); go_simp; try with_reducible rfl)
    try simp only [Act.put, List.setIfInBounds_toArray, List.set_cons_zero, List.set_cons_succ]
    refine AnyX.only (i := 2) (o := _) (by kernel_rfl) (by rw [List.getElem?_toArray]; rfl) (fun K hK => ?_)
    go_simp
    go_at_call 54
    refine (logRecord_c _ g FC _ hC (by omega)).mono ?_
    rintro e w6 ⟨cc, rr, rfl, hcc, hrr, hC', hk⟩
    have hs_w6 := hk.size
    replace RZ := RZ.keepK hk (by simp <;> omega)
    replace RE := RE.keepK hk (by simp <;> omega)
    replace RL := RL.keepK hk (by simp <;> omega)
    replace hC := hC'; clear hC'
    replace hKp := hKp.trans hk
    clear hk
    clear hS
    have hS : (fun w' => w'.cell? ⟨w2.heap.size, 0, none⟩ = some (.string d) ∧ w'.cell? ⟨w2.heap.size, 1, none⟩ = some (.string p) ∧ w'.cell? ⟨w2.heap.size, 2, none⟩ = some (.int .i64 q)) w6 := ⟨RL.cells 0, RL.cells 1, RL.cells 2⟩
    refine hK.out _ _ (fun _ => hS) ?_
    clear hK K
    try simp only [Act.put, List.setIfInBounds_toArray, List.set_cons_zero, List.set_cons_succ]
    refine AnyX.only (i := 3) (o := _) (by kernel_rfl) (by rw [List.getElem?_toArray]; rfl) (fun K hK => ?_)
    have c_RZ := RZ.cells; have f_RZ := RZ.frozens
    have c_RE := RE.cells; have f_RE := RE.frozens
    have c_RL := RL.cells; have f_RL := RL.frozens
    go_simp
    clear c_RZ f_RZ c_RE f_RE c_RL f_RL
    have n_RE := RE.keepK ((((Keep.refl [w.heap.size] w6).setCell (p := ⟨w.heap.size, 0, none⟩) (by simp) (.string d)).setCell (p := ⟨w.heap.size, 1, none⟩) (by simp) (.string p)).setCell (p := ⟨w.heap.size, 2, none⟩) (by simp) (.int .i64 q)) (by simp <;> omega)
    have n_RL := RL.keepK ((((Keep.refl [w.heap.size] w6).setCell (p := ⟨w.heap.size, 0, none⟩) (by simp) (.string d)).setCell (p := ⟨w.heap.size, 1, none⟩) (by simp) (.string p)).setCell (p := ⟨w.heap.size, 2, none⟩) (by simp) (.int .i64 q)) (by simp <;> omega)
    have n_RZ : Row (((w6.setCell ⟨w.heap.size, 0, none⟩ (.string d)).setCell ⟨w.heap.size, 1, none⟩ (.string p)).setCell ⟨w.heap.size, 2, none⟩ (.int .i64 q)) (w.heap.size) 31 [.string d, .string p, .int .i64 q] := by simpa using (((RZ.set 0 (.string d)).set 1 (.string p)).set 2 (.int .i64 q))
    have n_hC := hC.keep ((((Keep.refl [w.heap.size] w6).setCell (p := ⟨w.heap.size, 0, none⟩) (by simp) (.string d)).setCell (p := ⟨w.heap.size, 1, none⟩) (by simp) (.string p)).setCell (p := ⟨w.heap.size, 2, none⟩) (by simp) (.int .i64 q)) (by simp <;> omega) (fun b hb => by have := hFg b hb; simp; omega)
    have n_hKp := (((hKp.setNew (p := ⟨w.heap.size, 0, none⟩) (by dsimp only; omega) (.string d)).setNew (p := ⟨w.heap.size, 1, none⟩) (by dsimp only; omega) (.string p)).setNew (p := ⟨w.heap.size, 2, none⟩) (by dsimp only; omega) (.int .i64 q))
    have hs_ := ((((Keep.refl [w.heap.size] w6).setCell (p := ⟨w.heap.size, 0, none⟩) (by simp) (.string d)).setCell (p := ⟨w.heap.size, 1, none⟩) (by simp) (.string p)).setCell (p := ⟨w.heap.size, 2, none⟩) (by simp) (.int .i64 q)).size
    clear hC hKp RZ RE RL
    have hs_w7 := hs_; clear hs_
    generalize (((w6.setCell ⟨w.heap.size, 0, none⟩ (.string d)).setCell ⟨w.heap.size, 1, none⟩ (.string p)).setCell ⟨w.heap.size, 2, none⟩ (.int .i64 q)) = w7 at *
    have hC := n_hC; clear n_hC
    have hKp := n_hKp; clear n_hKp
    have RZ := n_RZ; clear n_RZ
    have RE := n_RE; clear n_RE
    have RL := n_RL; clear n_RL
    clear hS
    have hS : (fun w' => w'.cell? ⟨w2.heap.size, 0, none⟩ = some (.string d) ∧ w'.cell? ⟨w2.heap.size, 1, none⟩ = some (.string p) ∧ w'.cell? ⟨w2.heap.size, 2, none⟩ = some (.int .i64 q)) w7 := ⟨RL.cells 0, RL.cells 1, RL.cells 2⟩
    refine hK.out _ _ (fun _ => hS) ?_
    clear hK K
    try simp only [Act.put, List.setIfInBounds_toArray, List.set_cons_zero, List.set_cons_succ]
    refine AnyX.only (i := 4) (o := _) (by kernel_rfl) (by rw [List.getElem?_toArray]; rfl) (fun K hK => ?_)
    have c_RZ := RZ.cells; have f_RZ := RZ.frozens
    have c_RE := RE.cells; have f_RE := RE.frozens
    have c_RL := RL.cells; have f_RL := RL.frozens
    go_simp
    clear c_RZ f_RZ c_RE f_RE c_RL f_RL
    have n_RZ := RZ.keepK (((Keep.refl [w.heap.size + 1] w7).setCell (p := ⟨w.heap.size + 1, 0, none⟩) (by simp) (.string cc)).setCell (p := ⟨w.heap.size + 1, 1, none⟩) (by simp) (.string rr)) (by simp <;> omega)
    have n_RL := RL.keepK (((Keep.refl [w.heap.size + 1] w7).setCell (p := ⟨w.heap.size + 1, 0, none⟩) (by simp) (.string cc)).setCell (p := ⟨w.heap.size + 1, 1, none⟩) (by simp) (.string rr)) (by simp <;> omega)
    have n_RE : Row ((w7.setCell ⟨w.heap.size + 1, 0, none⟩ (.string cc)).setCell ⟨w.heap.size + 1, 1, none⟩ (.string rr)) (w.heap.size + 1) 27 [.string cc, .string rr] := by simpa using ((RE.set 0 (.string cc)).set 1 (.string rr))
    have n_hC := hC.keep (((Keep.refl [w.heap.size + 1] w7).setCell (p := ⟨w.heap.size + 1, 0, none⟩) (by simp) (.string cc)).setCell (p := ⟨w.heap.size + 1, 1, none⟩) (by simp) (.string rr)) (by simp <;> omega) (fun b hb => by have := hFg b hb; simp; omega)
    have n_hKp := ((hKp.setNew (p := ⟨w.heap.size + 1, 0, none⟩) (by dsimp only; omega) (.string cc)).setNew (p := ⟨w.heap.size + 1, 1, none⟩) (by dsimp only; omega) (.string rr))
    have hs_ := (((Keep.refl [w.heap.size + 1] w7).setCell (p := ⟨w.heap.size + 1, 0, none⟩) (by simp) (.string cc)).setCell (p := ⟨w.heap.size + 1, 1, none⟩) (by simp) (.string rr)).size
    clear hC hKp RZ RE RL
    have hs_w8 := hs_; clear hs_
    generalize ((w7.setCell ⟨w.heap.size + 1, 0, none⟩ (.string cc)).setCell ⟨w.heap.size + 1, 1, none⟩ (.string rr)) = w8 at *
    have hC := n_hC; clear n_hC
    have hKp := n_hKp; clear n_hKp
    have RZ := n_RZ; clear n_RZ
    have RE := n_RE; clear n_RE
    have RL := n_RL; clear n_RL
    clear hS
    have hS : (fun w' => w'.cell? ⟨w2.heap.size, 0, none⟩ = some (.string d) ∧ w'.cell? ⟨w2.heap.size, 1, none⟩ = some (.string p) ∧ w'.cell? ⟨w2.heap.size, 2, none⟩ = some (.int .i64 q)) w8 := ⟨RL.cells 0, RL.cells 1, RL.cells 2⟩
    refine hK.out _ _ (fun _ => hS) ?_
    clear hK K
    try simp only [Act.put, List.setIfInBounds_toArray, List.set_cons_zero, List.set_cons_succ]
    refine AnyX.done (by kernel_rfl) ?_ _
    (try clear hS)
    refine hK0 _ _ ?_
    clear hK0 K0
    have c_RZ := RZ.cells; have f_RZ := RZ.frozens
    have c_RE := RE.cells; have f_RE := RE.frozens
    have c_RL := RL.cells; have f_RL := RL.frozens
    go_wp2_with fail
    refine bodyPost_ret (v := .tuple #[.agg #[.string d, .string p, .int .i64 q], .agg #[.string cc, .string rr]]) ?_ rfl ?_
    · simp [results, Tryd.results38, go_sem, c_RZ, f_RZ, c_RE, f_RE]
    · exact ⟨_, _, _, _, _, by omega, by omega, hcc, hrr, rfl, hKp.below (B := w.heap.size) (Nat.le_refl _) (fun b hb => by simp at hb; omega)⟩
  · have c_RZ := RZ.cells; have f_RZ := RZ.frozens
    have c_RE := RE.cells; have f_RE := RE.frozens
    have c_RL := RL.cells; have f_RL := RL.frozens
    go_wp2_with fail
    clear c_RZ f_RZ c_RE f_RE c_RL f_RL
    have n_RZ := RZ.keepK ((((Keep.refl [w2.heap.size] w4).setCell (p := ⟨w2.heap.size, 0, none⟩) (by simp) (.string ⟨#[]⟩)).setCell (p := ⟨w2.heap.size, 1, none⟩) (by simp) (.string ⟨#[]⟩)).setCell (p := ⟨w2.heap.size, 2, none⟩) (by simp) (.int .i64 0)) (by simp <;> omega)
    have n_RE := RE.keepK ((((Keep.refl [w2.heap.size] w4).setCell (p := ⟨w2.heap.size, 0, none⟩) (by simp) (.string ⟨#[]⟩)).setCell (p := ⟨w2.heap.size, 1, none⟩) (by simp) (.string ⟨#[]⟩)).setCell (p := ⟨w2.heap.size, 2, none⟩) (by simp) (.int .i64 0)) (by simp <;> omega)
    have n_RL : Row (((w4.setCell ⟨w2.heap.size, 0, none⟩ (.string ⟨#[]⟩)).setCell ⟨w2.heap.size, 1, none⟩ (.string ⟨#[]⟩)).setCell ⟨w2.heap.size, 2, none⟩ (.int .i64 0)) (w2.heap.size) 31 [.string ⟨#[]⟩, .string ⟨#[]⟩, .int .i64 0] := by simpa using (((RL.set 0 (.string ⟨#[]⟩)).set 1 (.string ⟨#[]⟩)).set 2 (.int .i64 0))
    have n_hC := hC.keep ((((Keep.refl [w2.heap.size] w4).setCell (p := ⟨w2.heap.size, 0, none⟩) (by simp) (.string ⟨#[]⟩)).setCell (p := ⟨w2.heap.size, 1, none⟩) (by simp) (.string ⟨#[]⟩)).setCell (p := ⟨w2.heap.size, 2, none⟩) (by simp) (.int .i64 0)) (by simp <;> omega) (fun b hb => by have := hFg b hb; simp; omega)
    have n_hKp := (((hKp.setNew (p := ⟨w2.heap.size, 0, none⟩) (by dsimp only; omega) (.string ⟨#[]⟩)).setNew (p := ⟨w2.heap.size, 1, none⟩) (by dsimp only; omega) (.string ⟨#[]⟩)).setNew (p := ⟨w2.heap.size, 2, none⟩) (by dsimp only; omega) (.int .i64 0))
    have hs_ := ((((Keep.refl [w2.heap.size] w4).setCell (p := ⟨w2.heap.size, 0, none⟩) (by simp) (.string ⟨#[]⟩)).setCell (p := ⟨w2.heap.size, 1, none⟩) (by simp) (.string ⟨#[]⟩)).setCell (p := ⟨w2.heap.size, 2, none⟩) (by simp) (.int .i64 0)).size
    clear hC hKp RZ RE RL
    have hs_w9 := hs_; clear hs_
    generalize (((w4.setCell ⟨w2.heap.size, 0, none⟩ (.string ⟨#[]⟩)).setCell ⟨w2.heap.size, 1, none⟩ (.string ⟨#[]⟩)).setCell ⟨w2.heap.size, 2, none⟩ (.int .i64 0)) = w9 at *
    have hC := n_hC; clear n_hC
    have hKp := n_hKp; clear n_hKp
    have RZ := n_RZ; clear n_RZ
    have RE := n_RE; clear n_RE
    have RL := n_RL; clear n_RL
    refine (pick_c _ g FC 2 _ hC (by omega) (by omega)).mono ?_
    rintro e w10 ⟨m, rfl, hm, hC', hk⟩
    have hs_w10 := hk.size
    replace RZ := RZ.keepK hk (by simp <;> omega)
    replace RE := RE.keepK hk (by simp <;> omega)
    replace RL := RL.keepK hk (by simp <;> omega)
    replace hC := hC'; clear hC'
    replace hKp := hKp.trans hk
    clear hk
    have hm1 : m ≤ 1 := by omega
    clear hm hd hp
    have ok0 := okLog.zero
    have c_RZ := RZ.cells; have f_RZ := RZ.frozens
    have c_RE := RE.cells; have f_RE := RE.frozens
    have c_RL := RL.cells; have f_RL := RL.frozens
    go_wp2_with fail
    clear c_RZ f_RZ c_RE f_RE c_RL f_RL
    go_loopw [6] (fun n wr => ∃ (j : Nat) (d p : ByteArray) (q : Int), n = .int .i64 j ∧ j ≤ 60 ∧ Hid (okLog ⟨d, p, q⟩) ∧ Row wr w.heap.size 31 [.string ⟨#[]⟩, .string ⟨#[]⟩, .int .i64 0] ∧ Row wr (w.heap.size + 1) 27 [.string ⟨#[]⟩, .string ⟨#[]⟩] ∧ Row wr w2.heap.size 31 [.string d, .string p, .int .i64 q] ∧ Cur 200 wr g FC ∧ Keep [g] w wr) (fun n _ => (intOf n).toNat)
    case atStart => exact ⟨59 + m, _, _, _, by go_num, by omega, Lib.hid ok0, RZ, RE, RL, hC.mono (by omega), hKp⟩
    case round =>
      clear RZ RE RL hC hKp
      obtain ⟨j, d, p, q, rfl, hj, ok, RZ, RE, RL, hC, hKp⟩ := hrel
      have hwr := RL.lt
      have hsm := ok.out.small
      dsimp only at hsm
      by_cases hj0 : 0 < j
      · have c_RZ := RZ.cells; have f_RZ := RZ.frozens
        have c_RE := RE.cells; have f_RE := RE.frozens
        have c_RL := RL.cells; have f_RL := RL.frozens
        go_wp2_with fail
        clear c_RZ f_RZ c_RE f_RE c_RL f_RL
        refine (specApp_ok d p q ⟨#[120]⟩ ⟨#[]⟩ _ ok.out (by decide) (by decide)).mono ?_
        rintro e w11 ⟨d2, p2, q2, k2, ok2, rfl, hb⟩
        have hs_w11 := hb.size
        replace RZ := RZ.below hb
        replace RE := RE.below hb
        replace RL := RL.below hb
        replace hKp := hKp.trans (Keep.ofBelow (F := [g]) hb)
        replace hC := hC.below hb
        clear hb
        replace ok := Lib.hid ok2; clear ok2
        have c_RZ := RZ.cells; have f_RZ := RZ.frozens
        have c_RE := RE.cells; have f_RE := RE.frozens
        have c_RL := RL.cells; have f_RL := RL.frozens
        go_wp2_with fail
        clear c_RZ f_RZ c_RE f_RE c_RL f_RL
        have n_RZ := RZ.keepK ((((Keep.refl [w2.heap.size] w11).setCell (p := ⟨w2.heap.size, 0, none⟩) (by simp) (.string d2)).setCell (p := ⟨w2.heap.size, 1, none⟩) (by simp) (.string p2)).setCell (p := ⟨w2.heap.size, 2, none⟩) (by simp) (.int .i64 q2)) (by simp <;> omega)
        have n_RE := RE.keepK ((((Keep.refl [w2.heap.size] w11).setCell (p := ⟨w2.heap.size, 0, none⟩) (by simp) (.string d2)).setCell (p := ⟨w2.heap.size, 1, none⟩) (by simp) (.string p2)).setCell (p := ⟨w2.heap.size, 2, none⟩) (by simp) (.int .i64 q2)) (by simp <;> omega)
        have n_RL : Row (((w11.setCell ⟨w2.heap.size, 0, none⟩ (.string d2)).setCell ⟨w2.heap.size, 1, none⟩ (.string p2)).setCell ⟨w2.heap.size, 2, none⟩ (.int .i64 q2)) (w2.heap.size) 31 [.string d2, .string p2, .int .i64 q2] := by simpa using (((RL.set 0 (.string d2)).set 1 (.string p2)).set 2 (.int .i64 q2))
        have n_hC := hC.keep ((((Keep.refl [w2.heap.size] w11).setCell (p := ⟨w2.heap.size, 0, none⟩) (by simp) (.string d2)).setCell (p := ⟨w2.heap.size, 1, none⟩) (by simp) (.string p2)).setCell (p := ⟨w2.heap.size, 2, none⟩) (by simp) (.int .i64 q2)) (by simp <;> omega) (fun b hb => by have := hFg b hb; simp; omega)
        have n_hKp := (((hKp.setNew (p := ⟨w2.heap.size, 0, none⟩) (by dsimp only; omega) (.string d2)).setNew (p := ⟨w2.heap.size, 1, none⟩) (by dsimp only; omega) (.string p2)).setNew (p := ⟨w2.heap.size, 2, none⟩) (by dsimp only; omega) (.int .i64 q2))
        have hs_ := ((((Keep.refl [w2.heap.size] w11).setCell (p := ⟨w2.heap.size, 0, none⟩) (by simp) (.string d2)).setCell (p := ⟨w2.heap.size, 1, none⟩) (by simp) (.string p2)).setCell (p := ⟨w2.heap.size, 2, none⟩) (by simp) (.int .i64 q2)).size
        clear hC hKp RZ RE RL
        have hs_w12 := hs_; clear hs_
        generalize (((w11.setCell ⟨w2.heap.size, 0, none⟩ (.string d2)).setCell ⟨w2.heap.size, 1, none⟩ (.string p2)).setCell ⟨w2.heap.size, 2, none⟩ (.int .i64 q2)) = w12 at *
        have hC := n_hC; clear n_hC
        have hKp := n_hKp; clear n_hKp
        have RZ := n_RZ; clear n_RZ
        have RE := n_RE; clear n_RE
        have RL := n_RL; clear n_RL
        exact ⟨⟨j - 1, _, _, _, by go_num, by omega, ok, RZ, RE, RL, hC, hKp⟩, by simp [intOf] <;> omega⟩
      · have c_RZ := RZ.cells; have f_RZ := RZ.frozens
        have c_RE := RE.cells; have f_RE := RE.frozens
        have c_RL := RL.cells; have f_RL := RL.frozens
        go_wp2_with fail
        clear c_RZ f_RZ c_RE f_RE c_RL f_RL
        rename_i K0 hK0
        refine AnyX.start (S := (fun w' => w'.cell? ⟨w2.heap.size, 0, none⟩ = some (.string d) ∧ w'.cell? ⟨w2.heap.size, 1, none⟩ = some (.string p) ∧ w'.cell? ⟨w2.heap.size, 2, none⟩ = some (.int .i64 q))) (X := (fun _ => false)) (by kernel_rfl) ?_
        have al : Below wr.heap.size wr wr.drew := belowDrewN (Below.refl _ _) 1
        have hs_w13 := al.size
        replace RZ := RZ.below al
        replace RE := RE.below al
        replace RL := RL.below al
        replace hKp := hKp.trans (Keep.ofBelow (F := [g]) al)
        replace hC := hC.below al
        generalize wr.drew = w13 at *
        clear al
        have hS : (fun w' => w'.cell? ⟨w2.heap.size, 0, none⟩ = some (.string d) ∧ w'.cell? ⟨w2.heap.size, 1, none⟩ = some (.string p) ∧ w'.cell? ⟨w2.heap.size, 2, none⟩ = some (.int .i64 q)) w13 := ⟨RL.cells 0, RL.cells 1, RL.cells 2⟩
        refine AnyX.take (i := 0) (oi := _) (v := ?_) (by rw [List.getElem?_toArray]; rfl) (by kernel_rfl) (by kernel_rfl) (by kernel_rfl) (by kernel_rfl) (by kernel_rfl) (by exact fun _ _ _ h => h) (Or.inl ⟨by rfl, ?_⟩) hS ?_
        rotate_left
        · (intro wS hSw; (try dsimp only at hSw); go_simp; try with_reducible rfl)
        try simp only [Act.put, List.setIfInBounds_toArray, List.set_cons_zero, List.set_cons_succ]
        refine AnyX.take (i := 1) (oi := _) (v := ?_) (by rw [List.getElem?_toArray]; rfl) (by kernel_rfl) (by kernel_rfl) (by kernel_rfl) (by kernel_rfl) (by kernel_rfl) (by exact fun _ _ _ h => h) (Or.inl ⟨by rfl, ?_⟩) hS ?_
        rotate_left
        · (intro wS hSw; (try dsimp only at hSw); go_simp; try with_reducible rfl)
        try simp only [Act.put, List.setIfInBounds_toArray, List.set_cons_zero, List.set_cons_succ]
        refine AnyX.only (i := 2) (o := _) (by kernel_rfl) (by rw [List.getElem?_toArray]; rfl) (fun K hK => ?_)
        go_simp
        go_at_call 54
        refine (logRecord_c _ g FC _ hC (by omega)).mono ?_
        rintro e w14 ⟨cc, rr, rfl, hcc, hrr, hC', hk⟩
        have hs_w14 := hk.size
        replace RZ := RZ.keepK hk (by simp <;> omega)
        replace RE := RE.keepK hk (by simp <;> omega)
        replace RL := RL.keepK hk (by simp <;> omega)
        replace hC := hC'; clear hC'
        replace hKp := hKp.trans hk
        clear hk
        clear hS
        have hS : (fun w' => w'.cell? ⟨w2.heap.size, 0, none⟩ = some (.string d) ∧ w'.cell? ⟨w2.heap.size, 1, none⟩ = some (.string p) ∧ w'.cell? ⟨w2.heap.size, 2, none⟩ = some (.int .i64 q)) w14 := ⟨RL.cells 0, RL.cells 1, RL.cells 2⟩
        refine hK.out _ _ (fun _ => hS) ?_
        clear hK K
        try simp only [Act.put, List.setIfInBounds_toArray, List.set_cons_zero, List.set_cons_succ]
        refine AnyX.only (i := 3) (o := _) (by kernel_rfl) (by rw [List.getElem?_toArray]; rfl) (fun K hK => ?_)
        have c_RZ := RZ.cells; have f_RZ := RZ.frozens
        have c_RE := RE.cells; have f_RE := RE.frozens
        have c_RL := RL.cells; have f_RL := RL.frozens
        go_simp
        clear c_RZ f_RZ c_RE f_RE c_RL f_RL
        have n_RE := RE.keepK ((((Keep.refl [w.heap.size] w14).setCell (p := ⟨w.heap.size, 0, none⟩) (by simp) (.string d)).setCell (p := ⟨w.heap.size, 1, none⟩) (by simp) (.string p)).setCell (p := ⟨w.heap.size, 2, none⟩) (by simp) (.int .i64 q)) (by simp <;> omega)
        have n_RL := RL.keepK ((((Keep.refl [w.heap.size] w14).setCell (p := ⟨w.heap.size, 0, none⟩) (by simp) (.string d)).setCell (p := ⟨w.heap.size, 1, none⟩) (by simp) (.string p)).setCell (p := ⟨w.heap.size, 2, none⟩) (by simp) (.int .i64 q)) (by simp <;> omega)
        have n_RZ : Row (((w14.setCell ⟨w.heap.size, 0, none⟩ (.string d)).setCell ⟨w.heap.size, 1, none⟩ (.string p)).setCell ⟨w.heap.size, 2, none⟩ (.int .i64 q)) (w.heap.size) 31 [.string d, .string p, .int .i64 q] := by simpa using (((RZ.set 0 (.string d)).set 1 (.string p)).set 2 (.int .i64 q))
        have n_hC := hC.keep ((((Keep.refl [w.heap.size] w14).setCell (p := ⟨w.heap.size, 0, none⟩) (by simp) (.string d)).setCell (p := ⟨w.heap.size, 1, none⟩) (by simp) (.string p)).setCell (p := ⟨w.heap.size, 2, none⟩) (by simp) (.int .i64 q)) (by simp <;> omega) (fun b hb => by have := hFg b hb; simp; omega)
        have n_hKp := (((hKp.setNew (p := ⟨w.heap.size, 0, none⟩) (by dsimp only; omega) (.string d)).setNew (p := ⟨w.heap.size, 1, none⟩) (by dsimp only; omega) (.string p)).setNew (p := ⟨w.heap.size, 2, none⟩) (by dsimp only; omega) (.int .i64 q))
        have hs_ := ((((Keep.refl [w.heap.size] w14).setCell (p := ⟨w.heap.size, 0, none⟩) (by simp) (.string d)).setCell (p := ⟨w.heap.size, 1, none⟩) (by simp) (.string p)).setCell (p := ⟨w.heap.size, 2, none⟩) (by simp) (.int .i64 q)).size
        clear hC hKp RZ RE RL
        have hs_w15 := hs_; clear hs_
        generalize (((w14.setCell ⟨w.heap.size, 0, none⟩ (.string d)).setCell ⟨w.heap.size, 1, none⟩ (.string p)).setCell ⟨w.heap.size, 2, none⟩ (.int .i64 q)) = w15 at *
        have hC := n_hC; clear n_hC
        have hKp := n_hKp; clear n_hKp
        have RZ := n_RZ; clear n_RZ
        have RE := n_RE; clear n_RE
        have RL := n_RL; clear n_RL
        clear hS
        have hS : (fun w' => w'.cell? ⟨w2.heap.size, 0, none⟩ = some (.string d) ∧ w'.cell? ⟨w2.heap.size, 1, none⟩ = some (.string p) ∧ w'.cell? ⟨w2.heap.size, 2, none⟩ = some (.int .i64 q)) w15 := ⟨RL.cells 0, RL.cells 1, RL.cells 2⟩
        refine hK.out _ _ (fun _ => hS) ?_
        clear hK K
        try simp only [Act.put, List.setIfInBounds_toArray, List.set_cons_zero, List.set_cons_succ]
        refine AnyX.only (i := 4) (o := _) (by kernel_rfl) (by rw [List.getElem?_toArray]; rfl) (fun K hK => ?_)
        have c_RZ := RZ.cells; have f_RZ := RZ.frozens
        have c_RE := RE.cells; have f_RE := RE.frozens
        have c_RL := RL.cells; have f_RL := RL.frozens
        go_simp
        clear c_RZ f_RZ c_RE f_RE c_RL f_RL
        have n_RZ := RZ.keepK (((Keep.refl [w.heap.size + 1] w15).setCell (p := ⟨w.heap.size + 1, 0, none⟩) (by simp) (.string cc)).setCell (p := ⟨w.heap.size + 1, 1, none⟩) (by simp) (.string rr)) (by simp <;> omega)
        have n_RL := RL.keepK (((Keep.refl [w.heap.size + 1] w15).setCell (p := ⟨w.heap.size + 1, 0, none⟩) (by simp) (.string cc)).setCell (p := ⟨w.heap.size + 1, 1, none⟩) (by simp) (.string rr)) (by simp <;> omega)
        have n_RE : Row ((w15.setCell ⟨w.heap.size + 1, 0, none⟩ (.string cc)).setCell ⟨w.heap.size + 1, 1, none⟩ (.string rr)) (w.heap.size + 1) 27 [.string cc, .string rr] := by simpa using ((RE.set 0 (.string cc)).set 1 (.string rr))
        have n_hC := hC.keep (((Keep.refl [w.heap.size + 1] w15).setCell (p := ⟨w.heap.size + 1, 0, none⟩) (by simp) (.string cc)).setCell (p := ⟨w.heap.size + 1, 1, none⟩) (by simp) (.string rr)) (by simp <;> omega) (fun b hb => by have := hFg b hb; simp; omega)
        have n_hKp := ((hKp.setNew (p := ⟨w.heap.size + 1, 0, none⟩) (by dsimp only; omega) (.string cc)).setNew (p := ⟨w.heap.size + 1, 1, none⟩) (by dsimp only; omega) (.string rr))
        have hs_ := (((Keep.refl [w.heap.size + 1] w15).setCell (p := ⟨w.heap.size + 1, 0, none⟩) (by simp) (.string cc)).setCell (p := ⟨w.heap.size + 1, 1, none⟩) (by simp) (.string rr)).size
        clear hC hKp RZ RE RL
        have hs_w16 := hs_; clear hs_
        generalize ((w15.setCell ⟨w.heap.size + 1, 0, none⟩ (.string cc)).setCell ⟨w.heap.size + 1, 1, none⟩ (.string rr)) = w16 at *
        have hC := n_hC; clear n_hC
        have hKp := n_hKp; clear n_hKp
        have RZ := n_RZ; clear n_RZ
        have RE := n_RE; clear n_RE
        have RL := n_RL; clear n_RL
        clear hS
        have hS : (fun w' => w'.cell? ⟨w2.heap.size, 0, none⟩ = some (.string d) ∧ w'.cell? ⟨w2.heap.size, 1, none⟩ = some (.string p) ∧ w'.cell? ⟨w2.heap.size, 2, none⟩ = some (.int .i64 q)) w16 := ⟨RL.cells 0, RL.cells 1, RL.cells 2⟩
        refine hK.out _ _ (fun _ => hS) ?_
        clear hK K
        try simp only [Act.put, List.setIfInBounds_toArray, List.set_cons_zero, List.set_cons_succ]
        refine AnyX.done (by kernel_rfl) ?_ _
        (try clear hS)
        refine hK0 _ _ ?_
        clear hK0 K0
        have c_RZ := RZ.cells; have f_RZ := RZ.frozens
        have c_RE := RE.cells; have f_RE := RE.frozens
        have c_RL := RL.cells; have f_RL := RL.frozens
        go_wp2_with fail
        refine bodyPost_ret (v := .tuple #[.agg #[.string d, .string p, .int .i64 q], .agg #[.string cc, .string rr]]) ?_ rfl ?_
        · simp [results, Tryd.results38, go_sem, c_RZ, f_RZ, c_RE, f_RE]
        · exact ⟨_, _, _, _, _, by omega, by omega, hcc, hrr, rfl, hKp.below (B := w.heap.size) (Nat.le_refl _) (fun b hb => by simp at hb; omega)⟩
def PDrawCrash (w : World) (e : Ending) (w' : World) : Prop := ∃ (d p : ByteArray) (q : Int) (k : Int) (t : Bool), d.size ≤ 60000 ∧ p.size ≤ 60000 ∧ e = .returned (.tuple #[.agg #[.string d, .string p, .int .i64 q], .int .i64 k, .bool t]) ∧ Below w.heap.size w w'
set_option maxHeartbeats 3200000 in
set_option maxRecDepth 100000 in
theorem DrawCrashLog_c (v : Value) (code : List Int) (FC : List Nat) (w : World) (hv : Sl EByte w v code FC) :
    Calls Tryd.prog 41 #[v] w (PDrawCrash w) := by
  obtain ⟨a, c, rfl⟩ := hv.slice
  have hFl := hv.lt (by decide)
  go_enter Tryd.func41, Tryd.ntmps41
  go_wp2_with fail
  have al : Below w.heap.size w ((w.alloc (.cells #[.string ⟨#[]⟩, .string ⟨#[]⟩, .int .i64 0] 31)).alloc (.cells #[.slice a code.length c, .int .i64 0, .int .u64 0] 75)) := by
    repeat refine Below.alloc ?_ (by simp <;> omega) _
    exact Below.refl _ _
  have n_RZ : Row ((w.alloc (.cells #[.string ⟨#[]⟩, .string ⟨#[]⟩, .int .i64 0] 31)).alloc (.cells #[.slice a code.length c, .int .i64 0, .int .u64 0] 75)) (w.heap.size) 31 [.string ⟨#[]⟩, .string ⟨#[]⟩, .int .i64 0] := by simp [row_alloc] <;> omega
  have n_RC : Row ((w.alloc (.cells #[.string ⟨#[]⟩, .string ⟨#[]⟩, .int .i64 0] 31)).alloc (.cells #[.slice a code.length c, .int .i64 0, .int .u64 0] 75)) (w.heap.size + 1) 75 [.slice a code.length c, .int .i64 0, .int .u64 0] := by simp [row_alloc] <;> omega
  have hs_w1 : w.heap.size + 1 < ((w.alloc (.cells #[.string ⟨#[]⟩, .string ⟨#[]⟩, .int .i64 0] 31)).alloc (.cells #[.slice a code.length c, .int .i64 0, .int .u64 0] 75)).heap.size := by simp <;> omega
  replace hv := hv.below (by decide) al
  have hB := al
  generalize ((w.alloc (.cells #[.string ⟨#[]⟩, .string ⟨#[]⟩, .int .i64 0] 31)).alloc (.cells #[.slice a code.length c, .int .i64 0, .int .u64 0] 75)) = w1 at *
  have RZ := n_RZ; clear n_RZ
  have RC := n_RC; clear n_RC
  clear al
  have hC : Cur 0 w1 (w.heap.size + 1) FC := ⟨code, a, c, 0, 0, RC, hv, fun b hb => by have := hFl b hb; omega, by omega, by omega, by omega⟩
  clear RC hv
  have hFg := hFl
  have hKp : Keep [w.heap.size + 1] w w1 := Keep.ofBelow hB
  clear hB
  obtain ⟨g, hg⟩ : ∃ g, g = w.heap.size + 1 := ⟨_, rfl⟩
  rw [← hg] at hC hKp ⊢
  have hg1 : w.heap.size ≤ g := by omega
  have hg2 : g ≤ w.heap.size + 1 := by omega
  have hg3 : w.heap.size + 1 ≤ g := by omega
  replace hg := Lib.hid hg
  refine (anyLog_c _ g FC _ hC (by omega)).mono ?_
  rintro e w2 ⟨d, p, q, hd, hp, hq, rfl, hC', hk⟩
  have hs_w2 := hk.size
  replace RZ := RZ.keepK hk (by simp <;> omega)
  replace hC := hC'; clear hC'
  replace hKp := hKp.trans hk
  clear hk
  clear hq
  have c_RZ := RZ.cells; have f_RZ := RZ.frozens
  go_wp2_with fail
  clear c_RZ f_RZ
  have al : Below w2.heap.size w2 (w2.alloc (.cells #[.string d, .string p, .int .i64 q] 31)) := by
    repeat refine Below.alloc ?_ (by simp <;> omega) _
    exact Below.refl _ _
  have n_RL := Row.made w2 31 [.string d, .string p, .int .i64 q]
  have hs_w3 : w2.heap.size < (w2.alloc (.cells #[.string d, .string p, .int .i64 q] 31)).heap.size := by simp
  replace RZ := RZ.below al
  replace hKp := hKp.trans (Keep.ofBelow (F := [g]) al)
  replace hC := hC.below al
  generalize (w2.alloc (.cells #[.string d, .string p, .int .i64 q] 31)) = w3 at *
  have RL := n_RL; clear n_RL
  clear al
  refine (pick_c _ g FC ((p.size : Int) + 3) _ hC (by omega) (by omega)).mono ?_
  rintro e w4 ⟨m, rfl, hm, hC', hk⟩
  have hs_w4 := hk.size
  replace RZ := RZ.keepK hk (by simp <;> omega)
  replace RL := RL.keepK hk (by simp <;> omega)
  replace hC := hC'; clear hC'
  replace hKp := hKp.trans hk
  clear hk
  have hm2 : m ≤ 60010 := by omega
  clear hm
  have c_RZ := RZ.cells; have f_RZ := RZ.frozens
  have c_RL := RL.cells; have f_RL := RL.frozens
  go_wp2_with fail
  clear c_RZ f_RZ c_RL f_RL
  rename_i K0 hK0
  refine AnyX.start (S := (fun w' => w'.cell? ⟨w2.heap.size, 0, none⟩ = some (.string d) ∧ w'.cell? ⟨w2.heap.size, 1, none⟩ = some (.string p) ∧ w'.cell? ⟨w2.heap.size, 2, none⟩ = some (.int .i64 q))) (X := (fun _ => false)) (by kernel_rfl) ?_
  have al : Below w4.heap.size w4 w4.drew := belowDrewN (Below.refl _ _) 1
  have hs_w5 := al.size
  replace RZ := RZ.below al
  replace RL := RL.below al
  replace hKp := hKp.trans (Keep.ofBelow (F := [g]) al)
  replace hC := hC.below al
  generalize w4.drew = w5 at *
  clear al
  have hS : (fun w' => w'.cell? ⟨w2.heap.size, 0, none⟩ = some (.string d) ∧ w'.cell? ⟨w2.heap.size, 1, none⟩ = some (.string p) ∧ w'.cell? ⟨w2.heap.size, 2, none⟩ = some (.int .i64 q)) w5 := ⟨RL.cells 0, RL.cells 1, RL.cells 2⟩
  refine AnyX.take (i := 0) (oi := _) (v := ?_) (by rw [List.getElem?_toArray]; rfl) (by kernel_rfl) (by kernel_rfl) (by kernel_rfl) (by kernel_rfl) (by kernel_rfl) (by exact fun _ _ _ h => h) (Or.inl ⟨by rfl, ?_⟩) hS ?_
  rotate_left
  · (intro wS hSw; (try dsimp only at hSw); go_simp; try with_reducible rfl)
  try simp only [Act.put, List.setIfInBounds_toArray, List.set_cons_zero, List.set_cons_succ]
  refine AnyX.take (i := 1) (oi := _) (v := ?_) (by rw [List.getElem?_toArray]; rfl) (by kernel_rfl) (by kernel_rfl) (by kernel_rfl) (by kernel_rfl) (by kernel_rfl) (by exact fun _ _ _ h => h) (Or.inl ⟨by rfl, ?_⟩) hS ?_
  rotate_left
  · (intro wS hSw; (try dsimp only at hSw); go_simp; try with_reducible rfl)
  try simp only [Act.put, List.setIfInBounds_toArray, List.set_cons_zero, List.set_cons_succ]
  refine AnyX.take (i := 2) (oi := _) (v := ?_) (by rw [List.getElem?_toArray]; rfl) (by kernel_rfl) (by kernel_rfl) (by kernel_rfl) (by kernel_rfl) (by kernel_rfl) (by exact fun _ _ _ h => h) (Or.inl ⟨by rfl, ?_⟩) hS ?_
  rotate_left
  · (intro wS hSw; (try dsimp only at hSw); go_simp; try with_reducible rfl)
  try simp only [Act.put, List.setIfInBounds_toArray, List.set_cons_zero, List.set_cons_succ]
  refine AnyX.only (i := 3) (o := _) (by kernel_rfl) (by rw [List.getElem?_toArray]; rfl) (fun K hK => ?_)
  go_simp
  go_at_call 58
  refine (one_c _ g FC 2 _ hC (by omega) (by omega)).mono ?_
  rintro e w6 ⟨t, rfl, hC', hk⟩
  have hs_w6 := hk.size
  replace RZ := RZ.keepK hk (by simp <;> omega)
  replace RL := RL.keepK hk (by simp <;> omega)
  replace hC := hC'; clear hC'
  replace hKp := hKp.trans hk
  clear hk
  clear hS
  have hS : (fun w' => w'.cell? ⟨w2.heap.size, 0, none⟩ = some (.string d) ∧ w'.cell? ⟨w2.heap.size, 1, none⟩ = some (.string p) ∧ w'.cell? ⟨w2.heap.size, 2, none⟩ = some (.int .i64 q)) w6 := ⟨RL.cells 0, RL.cells 1, RL.cells 2⟩
  refine hK.out _ _ (fun _ => hS) ?_
  clear hK K
  try simp only [Act.put, List.setIfInBounds_toArray, List.set_cons_zero, List.set_cons_succ]
  refine AnyX.only (i := 4) (o := _) (by kernel_rfl) (by rw [List.getElem?_toArray]; rfl) (fun K hK => ?_)
  have c_RZ := RZ.cells; have f_RZ := RZ.frozens
  have c_RL := RL.cells; have f_RL := RL.frozens
  go_simp
  clear c_RZ f_RZ c_RL f_RL
  have n_RL := RL.keepK ((((Keep.refl [w.heap.size] w6).setCell (p := ⟨w.heap.size, 0, none⟩) (by simp) (.string d)).setCell (p := ⟨w.heap.size, 1, none⟩) (by simp) (.string p)).setCell (p := ⟨w.heap.size, 2, none⟩) (by simp) (.int .i64 q)) (by simp <;> omega)
  have n_RZ : Row (((w6.setCell ⟨w.heap.size, 0, none⟩ (.string d)).setCell ⟨w.heap.size, 1, none⟩ (.string p)).setCell ⟨w.heap.size, 2, none⟩ (.int .i64 q)) (w.heap.size) 31 [.string d, .string p, .int .i64 q] := by simpa using (((RZ.set 0 (.string d)).set 1 (.string p)).set 2 (.int .i64 q))
  have n_hC := hC.keep ((((Keep.refl [w.heap.size] w6).setCell (p := ⟨w.heap.size, 0, none⟩) (by simp) (.string d)).setCell (p := ⟨w.heap.size, 1, none⟩) (by simp) (.string p)).setCell (p := ⟨w.heap.size, 2, none⟩) (by simp) (.int .i64 q)) (by simp <;> omega) (fun b hb => by have := hFg b hb; simp; omega)
  have n_hKp := (((hKp.setNew (p := ⟨w.heap.size, 0, none⟩) (by dsimp only; omega) (.string d)).setNew (p := ⟨w.heap.size, 1, none⟩) (by dsimp only; omega) (.string p)).setNew (p := ⟨w.heap.size, 2, none⟩) (by dsimp only; omega) (.int .i64 q))
  have hs_ := ((((Keep.refl [w.heap.size] w6).setCell (p := ⟨w.heap.size, 0, none⟩) (by simp) (.string d)).setCell (p := ⟨w.heap.size, 1, none⟩) (by simp) (.string p)).setCell (p := ⟨w.heap.size, 2, none⟩) (by simp) (.int .i64 q)).size
  clear hC hKp RZ RL
  have hs_w7 := hs_; clear hs_
  generalize (((w6.setCell ⟨w.heap.size, 0, none⟩ (.string d)).setCell ⟨w.heap.size, 1, none⟩ (.string p)).setCell ⟨w.heap.size, 2, none⟩ (.int .i64 q)) = w7 at *
  have hC := n_hC; clear n_hC
  have hKp := n_hKp; clear n_hKp
  have RZ := n_RZ; clear n_RZ
  have RL := n_RL; clear n_RL
  clear hS
  have hS : (fun w' => w'.cell? ⟨w2.heap.size, 0, none⟩ = some (.string d) ∧ w'.cell? ⟨w2.heap.size, 1, none⟩ = some (.string p) ∧ w'.cell? ⟨w2.heap.size, 2, none⟩ = some (.int .i64 q)) w7 := ⟨RL.cells 0, RL.cells 1, RL.cells 2⟩
  refine hK.out _ _ (fun _ => hS) ?_
  clear hK K
  try simp only [Act.put, List.setIfInBounds_toArray, List.set_cons_zero, List.set_cons_succ]
  refine AnyX.only (i := 5) (o := _) (by kernel_rfl) (by rw [List.getElem?_toArray]; rfl) (fun K hK => ?_)
  try go_simp
  clear hS
  have hS : (fun w' => w'.cell? ⟨w2.heap.size, 0, none⟩ = some (.string d) ∧ w'.cell? ⟨w2.heap.size, 1, none⟩ = some (.string p) ∧ w'.cell? ⟨w2.heap.size, 2, none⟩ = some (.int .i64 q)) w7 := ⟨RL.cells 0, RL.cells 1, RL.cells 2⟩
  refine hK.out _ _ (fun _ => hS) ?_
  clear hK K
  try simp only [Act.put, List.setIfInBounds_toArray, List.set_cons_zero, List.set_cons_succ]
  refine AnyX.only (i := 6) (o := _) (by kernel_rfl) (by rw [List.getElem?_toArray]; rfl) (fun K hK => ?_)
  try go_simp
  clear hS
  have hS : (fun w' => w'.cell? ⟨w2.heap.size, 0, none⟩ = some (.string d) ∧ w'.cell? ⟨w2.heap.size, 1, none⟩ = some (.string p) ∧ w'.cell? ⟨w2.heap.size, 2, none⟩ = some (.int .i64 q)) w7 := ⟨RL.cells 0, RL.cells 1, RL.cells 2⟩
  refine hK.out _ _ (fun _ => hS) ?_
  clear hK K
  try simp only [Act.put, List.setIfInBounds_toArray, List.set_cons_zero, List.set_cons_succ]
  refine AnyX.done (by kernel_rfl) ?_ _
  (try clear hS)
  refine hK0 _ _ ?_
  clear hK0 K0
  have c_RZ := RZ.cells; have f_RZ := RZ.frozens
  have c_RL := RL.cells; have f_RL := RL.frozens
  go_wp2_with fail
  refine bodyPost_ret (v := .tuple #[.agg #[.string d, .string p, .int .i64 q], .int .i64 ((m : Int) - 1), .bool t]) ?_ rfl ?_
  · simp [results, Tryd.results41, go_sem, c_RZ, f_RZ]
  · exact ⟨_, _, _, _, _, hd, hp, rfl, hKp.below (B := w.heap.size) (Nat.le_refl _) (fun b hb => by simp at hb; omega)⟩
def PLn (w : World) (e : Ending) (w' : World) : Prop := ∃ x : ByteArray, e = .returned (.string x) ∧ x.size ≤ 3000 ∧ Below w.heap.size w w'
set_option maxHeartbeats 3200000 in
set_option maxRecDepth 100000 in
theorem l27Line_sz (k : Nat) (c r : ByteArray) (w : World) (hk : k ≤ 59) (hc1 : c.size ≤ 1000) (hr1 : r.size ≤ 1000) :
    Calls Tryd.prog 44 #[.int .i64 (k : Int), .agg #[.string c, .string r]] w (PLn w) := by
  have hb0 : (bodyL k c.data.toList r.data.toList).length ≤ 2010 := by have := digit_len 1 k (by omega); have h1 := size_list c; have h2 := size_list r; simp only [bodyL, List.length_append, List.length_cons]; omega
  have hX := app_body k c r
  have hD : (bs (Lib.decDigits k)).size ≤ 2 := by rw [bs_size]; exact digit_len 1 _ (by omega)
  have hE : (bs (sealL (bodyL k c.data.toList r.data.toList))).size ≤ 2400 := by rw [bs_size]; have := sealL_len (bodyL k c.data.toList r.data.toList); omega
  have hN := Lib.hid (app_nl (sealL (bodyL k c.data.toList r.data.toList)))
  have hI := Lib.hid (fun w => l1Num_c 1 k w (by omega) (by omega))
  have hA := fun w => l1Seal_c (bs (bodyL k c.data.toList r.data.toList)) w (by rw [bs_size]; omega)
  rw [bs_list, ← hX] at hA
  replace hA := Lib.hid hA
  clear hX hb0
  generalize hl : bs (Lib.decDigits k) = D at *
  generalize bs (sealL (bodyL k c.data.toList r.data.toList)) = E at *
  clear hl
  skip
  go_enter Tryd.func44, Tryd.ntmps44
  go_wp2_with fail
  have al : Below w.heap.size w (w.alloc (.cells #[.string c, .string r] 27)) := by
    repeat refine Below.alloc ?_ (by simp <;> omega) _
    exact Below.refl _ _
  have n_R := Row.made w 27 [.string c, .string r]
  have hs_w1 : w.heap.size < (w.alloc (.cells #[.string c, .string r] 27)).heap.size := by simp
  have hB := al
  generalize (w.alloc (.cells #[.string c, .string r] 27)) = w1 at *
  have R := n_R; clear n_R
  clear al
  refine AnyX.start (S := (fun w' => w'.cell? ⟨w.heap.size, 0, none⟩ = some (.string c) ∧ w'.cell? ⟨w.heap.size, 1, none⟩ = some (.string r))) (X := (fun _ => false)) (by kernel_rfl) ?_
  have al : Below w1.heap.size w1 w1.drew := belowDrewN (Below.refl _ _) 1
  have hs_w2 := al.size
  replace R := R.below al
  replace hB := tr hB al (Nat.le_refl _)
  generalize w1.drew = w2 at *
  clear al
  have hS : (fun w' => w'.cell? ⟨w.heap.size, 0, none⟩ = some (.string c) ∧ w'.cell? ⟨w.heap.size, 1, none⟩ = some (.string r)) w2 := ⟨R.cells 0, R.cells 1⟩
  refine AnyX.take (i := 0) (oi := _) (v := ?_) (by rw [List.getElem?_toArray]; rfl) (by kernel_rfl) (by kernel_rfl) (by kernel_rfl) (by kernel_rfl) (by kernel_rfl) (by exact fun _ _ _ h => h) (Or.inl ⟨by rfl, ?_⟩) hS ?_
  rotate_left
  · (intro wS hSw; (try dsimp only at hSw); go_simp; try with_reducible rfl)
  try simp only [Act.put, List.setIfInBounds_toArray, List.set_cons_zero, List.set_cons_succ]
  refine AnyX.take (i := 3) (oi := _) (v := ?_) (by rw [List.getElem?_toArray]; rfl) (by kernel_rfl) (by kernel_rfl) (by kernel_rfl) (by kernel_rfl) (by kernel_rfl) (by exact fun _ _ _ h => h) (Or.inl ⟨by rfl, ?_⟩) hS ?_
  rotate_left
  · (intro wS hSw; (try dsimp only at hSw); go_simp; try with_reducible rfl)
  try simp only [Act.put, List.setIfInBounds_toArray, List.set_cons_zero, List.set_cons_succ]
  refine AnyX.take (i := 4) (oi := _) (v := ?_) (by rw [List.getElem?_toArray]; rfl) (by kernel_rfl) (by kernel_rfl) (by kernel_rfl) (by kernel_rfl) (by kernel_rfl) (by exact fun _ _ _ h => h) (Or.inl ⟨by rfl, ?_⟩) hS ?_
  rotate_left
  · (intro wS hSw; (try dsimp only at hSw); go_simp; try with_reducible rfl)
  try simp only [Act.put, List.setIfInBounds_toArray, List.set_cons_zero, List.set_cons_succ]
  refine AnyX.take (i := 7) (oi := _) (v := ?_) (by rw [List.getElem?_toArray]; rfl) (by kernel_rfl) (by kernel_rfl) (by kernel_rfl) (by kernel_rfl) (by kernel_rfl) (by exact fun _ _ _ h => h) (Or.inl ⟨by rfl, ?_⟩) hS ?_
  rotate_left
  · (intro wS hSw; (try dsimp only at hSw); go_simp; try with_reducible rfl)
  try simp only [Act.put, List.setIfInBounds_toArray, List.set_cons_zero, List.set_cons_succ]
  refine AnyX.take (i := 8) (oi := _) (v := ?_) (by rw [List.getElem?_toArray]; rfl) (by kernel_rfl) (by kernel_rfl) (by kernel_rfl) (by kernel_rfl) (by kernel_rfl) (by exact fun _ _ _ h => h) (Or.inl ⟨by rfl, ?_⟩) hS ?_
  rotate_left
  · (intro wS hSw; (try dsimp only at hSw); go_simp; try with_reducible rfl)
  try simp only [Act.put, List.setIfInBounds_toArray, List.set_cons_zero, List.set_cons_succ]
  refine AnyX.only (i := 1) (o := _) (by kernel_rfl) (by rw [List.getElem?_toArray]; rfl) (fun K hK => ?_)
  go_simp
  go_at_call 65
  refine (hI.out _).mono ?_
  rintro e w3 ⟨rfl, j, hj⟩
  have hb : Below w2.heap.size w2 w3 := by rw [hj]; exact belowDrewN (Below.refl _ _) _
  clear hj
  have hs_w3 := hb.size
  replace R := R.below hb
  replace hB := tr hB hb (Nat.le_refl _)
  clear hb
  clear hS
  have hS : (fun w' => w'.cell? ⟨w.heap.size, 0, none⟩ = some (.string c) ∧ w'.cell? ⟨w.heap.size, 1, none⟩ = some (.string r)) w3 := ⟨R.cells 0, R.cells 1⟩
  refine hK.out _ _ (fun _ => hS) ?_
  clear hK K
  try simp only [Act.put, List.setIfInBounds_toArray, List.set_cons_zero, List.set_cons_succ]
  refine AnyX.take (i := 2) (oi := _) (v := ?_) (by rw [List.getElem?_toArray]; rfl) (by kernel_rfl) (by kernel_rfl) (by kernel_rfl) (by kernel_rfl) (by kernel_rfl) (by exact fun _ _ _ h => h) (Or.inl ⟨by rfl, ?_⟩) hS ?_
  rotate_left
  · (intro wS hSw; (try dsimp only at hSw); go_simp; rw [if_neg (by simp; omega)]; try with_reducible rfl)
  try simp only [Act.put, List.setIfInBounds_toArray, List.set_cons_zero, List.set_cons_succ]
  refine AnyX.take (i := 5) (oi := _) (v := ?_) (by rw [List.getElem?_toArray]; rfl) (by kernel_rfl) (by kernel_rfl) (by kernel_rfl) (by kernel_rfl) (by kernel_rfl) (by exact fun _ _ _ h => h) (Or.inl ⟨by rfl, ?_⟩) hS ?_
  rotate_left
  · (intro wS hSw; (try dsimp only at hSw); go_simp; rw [if_neg (by simp; omega)]; try with_reducible rfl)
  try simp only [Act.put, List.setIfInBounds_toArray, List.set_cons_zero, List.set_cons_succ]
  refine AnyX.take (i := 6) (oi := _) (v := ?_) (by rw [List.getElem?_toArray]; rfl) (by kernel_rfl) (by kernel_rfl) (by kernel_rfl) (by kernel_rfl) (by kernel_rfl) (by exact fun _ _ _ h => h) (Or.inl ⟨by rfl, ?_⟩) hS ?_
  rotate_left
  · (intro wS hSw; (try dsimp only at hSw); go_simp; rw [if_neg (by simp; omega)]; try with_reducible rfl)
  try simp only [Act.put, List.setIfInBounds_toArray, List.set_cons_zero, List.set_cons_succ]
  refine AnyX.take (i := 9) (oi := _) (v := ?_) (by rw [List.getElem?_toArray]; rfl) (by kernel_rfl) (by kernel_rfl) (by kernel_rfl) (by kernel_rfl) (by kernel_rfl) (by exact fun _ _ _ h => h) (Or.inl ⟨by rfl, ?_⟩) hS ?_
  rotate_left
  · (intro wS hSw; (try dsimp only at hSw); go_simp; rw [if_neg (by simp; omega)]; try with_reducible rfl)
  try simp only [Act.put, List.setIfInBounds_toArray, List.set_cons_zero, List.set_cons_succ]
  refine AnyX.only (i := 10) (o := _) (by kernel_rfl) (by rw [List.getElem?_toArray]; rfl) (fun K hK => ?_)
  go_simp
  go_at_call 64
  refine (hA.out _).mono ?_
  rintro e w4 ⟨rfl, j, hj⟩
  have hb : Below w3.heap.size w3 w4 := by rw [hj]; exact belowDrewN (Below.refl _ _) _
  clear hj
  have hs_w4 := hb.size
  replace R := R.below hb
  replace hB := tr hB hb (Nat.le_refl _)
  clear hb
  clear hS
  have hS : (fun w' => w'.cell? ⟨w.heap.size, 0, none⟩ = some (.string c) ∧ w'.cell? ⟨w.heap.size, 1, none⟩ = some (.string r)) w4 := ⟨R.cells 0, R.cells 1⟩
  refine hK.out _ _ (fun _ => hS) ?_
  clear hK K
  try simp only [Act.put, List.setIfInBounds_toArray, List.set_cons_zero, List.set_cons_succ]
  refine AnyX.take (i := 11) (oi := _) (v := ?_) (by rw [List.getElem?_toArray]; rfl) (by kernel_rfl) (by kernel_rfl) (by kernel_rfl) (by kernel_rfl) (by kernel_rfl) (by exact fun _ _ _ h => h) (Or.inl ⟨by rfl, ?_⟩) hS ?_
  rotate_left
  · (intro wS hSw; (try dsimp only at hSw); go_simp; rw [if_neg (by simp; omega)]; try with_reducible rfl)
  try simp only [Act.put, List.setIfInBounds_toArray, List.set_cons_zero, List.set_cons_succ]
  refine AnyX.only (i := 12) (o := _) (by kernel_rfl) (by rw [List.getElem?_toArray]; rfl) (fun K hK => ?_)
  try go_simp
  clear hS
  have hS : (fun w' => w'.cell? ⟨w.heap.size, 0, none⟩ = some (.string c) ∧ w'.cell? ⟨w.heap.size, 1, none⟩ = some (.string r)) w4 := ⟨R.cells 0, R.cells 1⟩
  refine hK.out _ _ (fun _ => hS) ?_
  clear hK K
  try simp only [Act.put, List.setIfInBounds_toArray, List.set_cons_zero, List.set_cons_succ]
  refine AnyX.done (by kernel_rfl) ?_ _
  (try clear hS)
  have c_R := R.cells; have f_R := R.frozens
  go_wp2_with fail
  clear c_R f_R
  go_ret
  exact ⟨_, rfl, by simp only [ByteArray.size_append]; have : (⟨#[10]⟩ : ByteArray).size = 1 := rfl; omega, hB⟩
def PDrawRec (w : World) (e : Ending) (w' : World) : Prop := ∃ x : ByteArray, x.size ≤ 100000 ∧ e = .returned (.string x) ∧ Below w.heap.size w w'
set_option maxHeartbeats 3200000 in
set_option maxRecDepth 100000 in
theorem DrawRecoverLog_c (v : Value) (code : List Int) (FC : List Nat) (w : World) (hv : Sl EByte w v code FC) :
    Calls Tryd.prog 37 #[v] w (PDrawRec w) := by
  obtain ⟨a, c, rfl⟩ := hv.slice
  have hFl := hv.lt (by decide)
  go_enter Tryd.func37, Tryd.ntmps37
  go_wp2_with fail
  have al : Below w.heap.size w (w.alloc (.cells #[.slice a code.length c, .int .i64 0, .int .u64 0] 75)) := by
    repeat refine Below.alloc ?_ (by simp <;> omega) _
    exact Below.refl _ _
  have n_RC := Row.made w 75 [.slice a code.length c, .int .i64 0, .int .u64 0]
  have hs_w1 : w.heap.size < (w.alloc (.cells #[.slice a code.length c, .int .i64 0, .int .u64 0] 75)).heap.size := by simp
  replace hv := hv.below (by decide) al
  have hB := al
  generalize (w.alloc (.cells #[.slice a code.length c, .int .i64 0, .int .u64 0] 75)) = w1 at *
  have RC := n_RC; clear n_RC
  clear al
  have hC : Cur 0 w1 (w.heap.size) FC := ⟨code, a, c, 0, 0, RC, hv, fun b hb => by have := hFl b hb; omega, by omega, by omega, by omega⟩
  clear RC hv
  have hFg := hFl
  have hKp : Keep [w.heap.size] w w1 := Keep.ofBelow hB
  clear hB
  obtain ⟨g, hg⟩ : ∃ g, g = w.heap.size := ⟨_, rfl⟩
  rw [← hg] at hC hKp ⊢
  have hg1 : w.heap.size ≤ g := by omega
  have hg2 : g ≤ w.heap.size := by omega
  have hg3 : w.heap.size ≤ g := by omega
  replace hg := Lib.hid hg
  refine (log_c _ g FC _ hC (by omega)).mono ?_
  rintro e w2 ⟨d, p, q, ok, rfl, hC', hk⟩
  have hs_w2 := hk.size
  replace hC := hC'; clear hC'
  replace hKp := hKp.trans hk
  clear hk
  have hsm := ok.small
  dsimp only at hsm
  clear ok
  go_wp2_with fail
  have al : Below w2.heap.size w2 (w2.alloc (.cells #[.string d, .string p, .int .i64 q] 31)) := by
    repeat refine Below.alloc ?_ (by simp <;> omega) _
    exact Below.refl _ _
  have n_RL := Row.made w2 31 [.string d, .string p, .int .i64 q]
  have hs_w3 : w2.heap.size < (w2.alloc (.cells #[.string d, .string p, .int .i64 q] 31)).heap.size := by simp
  replace hKp := hKp.trans (Keep.ofBelow (F := [g]) al)
  replace hC := hC.below al
  generalize (w2.alloc (.cells #[.string d, .string p, .int .i64 q] 31)) = w3 at *
  have RL := n_RL; clear n_RL
  clear al
  have c_RL := RL.cells; have f_RL := RL.frozens
  go_wp2_with fail
  clear c_RL f_RL
  have hs : (d ++ p).size ≤ 30000 := by simp only [ByteArray.size_append]; omega
  generalize d ++ p = s at *
  refine (pick_c _ g FC 4 _ hC (by omega) (by omega)).mono ?_
  rintro e w4 ⟨m, rfl, hm, hC', hk⟩
  have hs_w4 := hk.size
  replace RL := RL.keepK hk (by simp <;> omega)
  replace hC := hC'; clear hC'
  replace hKp := hKp.trans hk
  clear hk
  by_cases h0 : m = 0
  · subst h0
    have c_RL := RL.cells; have f_RL := RL.frozens
    go_wp2_with fail
    clear c_RL f_RL
    refine (spoilt_c _ g FC s ⟨#[35, 64, 10, 48, 49]⟩ _ hC (by omega) (by omega) (by decide) (by decide)).mono ?_
    rintro e w5 ⟨x, rfl, hx, hC', hk⟩
    have hs_w5 := hk.size
    replace RL := RL.keepK hk (by simp <;> omega)
    replace hC := hC'; clear hC'
    replace hKp := hKp.trans hk
    clear hk
    have c_RL := RL.cells; have f_RL := RL.frozens
    go_wp2_with fail
    clear c_RL f_RL
    refine (one_c _ g FC 40 _ hC (by omega) (by omega)).mono ?_
    rintro e w6 ⟨b, rfl, hC', hk⟩
    have hs_w6 := hk.size
    replace RL := RL.keepK hk (by simp <;> omega)
    replace hC := hC'; clear hC'
    replace hKp := hKp.trans hk
    clear hk
    cases b
    · have c_RL := RL.cells; have f_RL := RL.frozens
      go_wp2_with fail
      refine bodyPost_ret (v := .string x) ?_ rfl ?_
      · simp [results, Tryd.results37, go_sem]
      · exact ⟨_, by omega, rfl, hKp.below (B := w.heap.size) (Nat.le_refl _) (fun b hb => by simp at hb; omega)⟩
    · have c_RL := RL.cells; have f_RL := RL.frozens
      go_wp2_with fail
      clear c_RL f_RL
      refine (pick_c _ g FC 2 _ hC (by omega) (by omega)).mono ?_
      rintro e w7 ⟨n, rfl, hn, hC', hk⟩
      have hs_w7 := hk.size
      replace RL := RL.keepK hk (by simp <;> omega)
      replace hC := hC'; clear hC'
      replace hKp := hKp.trans hk
      clear hk
      have hn1 : n ≤ 1 := by omega
      clear hn
      obtain ⟨O, z, hmk, hcv, hz⟩ := make_bytes (30000 + n) (30000 + (n : Int)) (by omega) w7 (by omega)
      have al : Below w7.heap.size w7 (w7.alloc O) := (Below.refl _ _).alloc (Nat.le_refl _) _
      have hs_w8 := al.size
      replace RL := RL.below al
      replace hKp := hKp.trans (Keep.ofBelow (F := [g]) al)
      replace hC := hC.below al
      generalize w7.alloc O = w8 at *
      clear al
      have c_RL := RL.cells; have f_RL := RL.frozens
      go_wp2_with fail
      refine bodyPost_ret (v := .string z) ?_ rfl ?_
      · simp [results, Tryd.results37, go_sem]
      · exact ⟨_, by omega, rfl, hKp.below (B := w.heap.size) (Nat.le_refl _) (fun b hb => by simp at hb; omega)⟩
  · have e0 : ((m : Int) == 0) = false := by simp; omega
    by_cases h1 : m = 1
    · subst h1
      have c_RL := RL.cells; have f_RL := RL.frozens
      go_wp2_with fail
      clear c_RL f_RL
      refine (pick_c _ g FC ((s.size : Int) + 1) _ hC (by omega) (by omega)).mono ?_
      rintro e w9 ⟨i, rfl, hi, hC', hk⟩
      have hs_w9 := hk.size
      replace RL := RL.keepK hk (by simp <;> omega)
      replace hC := hC'; clear hC'
      replace hKp := hKp.trans hk
      clear hk
      have hi2 : i ≤ s.size := by omega
      clear hi
      have c_RL := RL.cells; have f_RL := RL.frozens
      go_wp2_with fail
      clear c_RL f_RL
      have hx : (s.extract 0 i).size ≤ 30000 := by simp; omega
      generalize s.extract 0 i = x at *
      refine (one_c _ g FC 40 _ hC (by omega) (by omega)).mono ?_
      rintro e w10 ⟨b, rfl, hC', hk⟩
      have hs_w10 := hk.size
      replace RL := RL.keepK hk (by simp <;> omega)
      replace hC := hC'; clear hC'
      replace hKp := hKp.trans hk
      clear hk
      cases b
      · have c_RL := RL.cells; have f_RL := RL.frozens
        go_wp2_with fail
        refine bodyPost_ret (v := .string x) ?_ rfl ?_
        · simp [results, Tryd.results37, go_sem]
        · exact ⟨_, by omega, rfl, hKp.below (B := w.heap.size) (Nat.le_refl _) (fun b hb => by simp at hb; omega)⟩
      · have c_RL := RL.cells; have f_RL := RL.frozens
        go_wp2_with fail
        clear c_RL f_RL
        refine (pick_c _ g FC 2 _ hC (by omega) (by omega)).mono ?_
        rintro e w11 ⟨n, rfl, hn, hC', hk⟩
        have hs_w11 := hk.size
        replace RL := RL.keepK hk (by simp <;> omega)
        replace hC := hC'; clear hC'
        replace hKp := hKp.trans hk
        clear hk
        have hn1 : n ≤ 1 := by omega
        clear hn
        obtain ⟨O, z, hmk, hcv, hz⟩ := make_bytes (30000 + n) (30000 + (n : Int)) (by omega) w11 (by omega)
        have al : Below w11.heap.size w11 (w11.alloc O) := (Below.refl _ _).alloc (Nat.le_refl _) _
        have hs_w12 := al.size
        replace RL := RL.below al
        replace hKp := hKp.trans (Keep.ofBelow (F := [g]) al)
        replace hC := hC.below al
        generalize w11.alloc O = w12 at *
        clear al
        have c_RL := RL.cells; have f_RL := RL.frozens
        go_wp2_with fail
        refine bodyPost_ret (v := .string z) ?_ rfl ?_
        · simp [results, Tryd.results37, go_sem]
        · exact ⟨_, by omega, rfl, hKp.below (B := w.heap.size) (Nat.le_refl _) (fun b hb => by simp at hb; omega)⟩
    · have e1 : ((m : Int) == 1) = false := by simp; omega
      by_cases h2 : m = 2
      · subst h2
        have c_RL := RL.cells; have f_RL := RL.frozens
        go_wp2_with fail
        clear c_RL f_RL
        refine (pick_c _ g FC 4 _ hC (by omega) (by omega)).mono ?_
        rintro e w13 ⟨i, rfl, hi, hC', hk⟩
        have hs_w13 := hk.size
        replace RL := RL.keepK hk (by simp <;> omega)
        replace hC := hC'; clear hC'
        replace hKp := hKp.trans hk
        clear hk
        have hi2 : i ≤ 3 := by omega
        clear hi
        have c_RL := RL.cells; have f_RL := RL.frozens
        go_wp2_with fail
        clear c_RL f_RL
        refine (logRecord_c _ g FC _ hC (by omega)).mono ?_
        rintro e w14 ⟨cc, rr, rfl, hcc, hrr, hC', hk⟩
        have hs_w14 := hk.size
        replace RL := RL.keepK hk (by simp <;> omega)
        replace hC := hC'; clear hC'
        replace hKp := hKp.trans hk
        clear hk
        have c_RL := RL.cells; have f_RL := RL.frozens
        go_wp2_with fail
        clear c_RL f_RL
        refine (l27Line_sz i cc rr _ (by omega) (by omega) (by omega)).mono ?_
        rintro e w15 ⟨y, rfl, hy, hb⟩
        have hs_w15 := hb.size
        replace RL := RL.below hb
        replace hKp := hKp.trans (Keep.ofBelow (F := [g]) hb)
        replace hC := hC.below hb
        clear hb
        have c_RL := RL.cells; have f_RL := RL.frozens
        go_wp2_with fail
        clear c_RL f_RL
        have hx : (s ++ y).size ≤ 34000 := by simp only [ByteArray.size_append]; omega
        generalize s ++ y = x at *
        refine (one_c _ g FC 40 _ hC (by omega) (by omega)).mono ?_
        rintro e w16 ⟨b, rfl, hC', hk⟩
        have hs_w16 := hk.size
        replace RL := RL.keepK hk (by simp <;> omega)
        replace hC := hC'; clear hC'
        replace hKp := hKp.trans hk
        clear hk
        cases b
        · have c_RL := RL.cells; have f_RL := RL.frozens
          go_wp2_with fail
          refine bodyPost_ret (v := .string x) ?_ rfl ?_
          · simp [results, Tryd.results37, go_sem]
          · exact ⟨_, by omega, rfl, hKp.below (B := w.heap.size) (Nat.le_refl _) (fun b hb => by simp at hb; omega)⟩
        · have c_RL := RL.cells; have f_RL := RL.frozens
          go_wp2_with fail
          clear c_RL f_RL
          refine (pick_c _ g FC 2 _ hC (by omega) (by omega)).mono ?_
          rintro e w17 ⟨n, rfl, hn, hC', hk⟩
          have hs_w17 := hk.size
          replace RL := RL.keepK hk (by simp <;> omega)
          replace hC := hC'; clear hC'
          replace hKp := hKp.trans hk
          clear hk
          have hn1 : n ≤ 1 := by omega
          clear hn
          obtain ⟨O, z, hmk, hcv, hz⟩ := make_bytes (30000 + n) (30000 + (n : Int)) (by omega) w17 (by omega)
          have al : Below w17.heap.size w17 (w17.alloc O) := (Below.refl _ _).alloc (Nat.le_refl _) _
          have hs_w18 := al.size
          replace RL := RL.below al
          replace hKp := hKp.trans (Keep.ofBelow (F := [g]) al)
          replace hC := hC.below al
          generalize w17.alloc O = w18 at *
          clear al
          have c_RL := RL.cells; have f_RL := RL.frozens
          go_wp2_with fail
          refine bodyPost_ret (v := .string z) ?_ rfl ?_
          · simp [results, Tryd.results37, go_sem]
          · exact ⟨_, by omega, rfl, hKp.below (B := w.heap.size) (Nat.le_refl _) (fun b hb => by simp at hb; omega)⟩
      · have e2 : ((m : Int) == 2) = false := by simp; omega
        have c_RL := RL.cells; have f_RL := RL.frozens
        go_wp2_with fail
        clear c_RL f_RL
        refine (one_c _ g FC 40 _ hC (by omega) (by omega)).mono ?_
        rintro e w19 ⟨b, rfl, hC', hk⟩
        have hs_w19 := hk.size
        replace RL := RL.keepK hk (by simp <;> omega)
        replace hC := hC'; clear hC'
        replace hKp := hKp.trans hk
        clear hk
        cases b
        · have c_RL := RL.cells; have f_RL := RL.frozens
          go_wp2_with fail
          refine bodyPost_ret (v := .string s) ?_ rfl ?_
          · simp [results, Tryd.results37, go_sem]
          · exact ⟨_, by omega, rfl, hKp.below (B := w.heap.size) (Nat.le_refl _) (fun b hb => by simp at hb; omega)⟩
        · have c_RL := RL.cells; have f_RL := RL.frozens
          go_wp2_with fail
          clear c_RL f_RL
          refine (pick_c _ g FC 2 _ hC (by omega) (by omega)).mono ?_
          rintro e w20 ⟨n, rfl, hn, hC', hk⟩
          have hs_w20 := hk.size
          replace RL := RL.keepK hk (by simp <;> omega)
          replace hC := hC'; clear hC'
          replace hKp := hKp.trans hk
          clear hk
          have hn1 : n ≤ 1 := by omega
          clear hn
          obtain ⟨O, z, hmk, hcv, hz⟩ := make_bytes (30000 + n) (30000 + (n : Int)) (by omega) w20 (by omega)
          have al : Below w20.heap.size w20 (w20.alloc O) := (Below.refl _ _).alloc (Nat.le_refl _) _
          have hs_w21 := al.size
          replace RL := RL.below al
          replace hKp := hKp.trans (Keep.ofBelow (F := [g]) al)
          replace hC := hC.below al
          generalize w20.alloc O = w21 at *
          clear al
          have c_RL := RL.cells; have f_RL := RL.frozens
          go_wp2_with fail
          refine bodyPost_ret (v := .string z) ?_ rfl ?_
          · simp [results, Tryd.results37, go_sem]
          · exact ⟨_, by omega, rfl, hKp.below (B := w.heap.size) (Nat.le_refl _) (fun b hb => by simp at hb; omega)⟩
end Go.Proofs.YtnmgaponnfjciaaDoor
