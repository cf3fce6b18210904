/- Send windows: what is pushed, held, answered, dropped; plain laws. -/
import Derived.Test.YtidephmobajikaaDoorSF1
import Derived.Test.YtidephmobajikaaDoorWinSize
namespace Go.Proofs.YtidephmobajikaaDoor
open Go.RowKit
def leadW (x : SendWindow) : Int := aft x.trail x.items.length
def itemAt (x : SendWindow) (n : Int) : ByteArray := x.items.getD (gp x.trail n).toNat ⟨#[]⟩
def resLead (x : SendWindow) : Int × Bool := if goodWin x then (leadW x, true) else (0, false)
def okHeld (x : SendWindow) (n : Int) : Bool := goodWin x && isSer n && heldB x n
def resHeld (x : SendWindow) (n : Int) : ByteArray × Bool := if okHeld x n then (itemAt x n, true) else (⟨#[]⟩, false)
def spanL (t : Int) (k : Nat) : List Int := (List.range k).map fun i => aft t (i : Nat)
def resSerials (x : SendWindow) : List Int × Bool := if goodWin x then (spanL x.trail x.items.length, true) else ([], false)
def statP (x : SendWindow) : Packet := ⟨5, x.trail, x.trail, leadW x, ⟨#[]⟩⟩
def resStatus (x : SendWindow) : Packet × Bool := if goodWin x then (statP x, true) else (zPk, false)
def goodPk (p : Packet) : Bool := btw 1 p.kind 5 && isSer p.number && isSer p.trail && isSer p.lead && itm p.data && decide (gp p.trail p.lead ≤ 32767) && (decide (p.data = ⟨#[]⟩) || decide (p.kind = 1) || decide (p.kind = 2))
def okAnswer (x : SendWindow) (p : Packet) : Bool := goodWin x && goodPk p && decide (p.kind = 3) && heldB x p.number
def ansP (x : SendWindow) (n : Int) : Packet := ⟨2, n, x.trail, leadW x, itemAt x n⟩
def resAnswer (x : SendWindow) (p : Packet) : Packet × Bool := if okAnswer x p then (ansP x p.number, true) else (zPk, false)
theorem leadW_bd (x : SendWindow) : 0 ≤ leadW x ∧ leadW x ≤ 65535 := aft_bd _ _
theorem roomed_lead {x : SendWindow} (h1 : 1 ≤ x.size) : leadW (roomed x) = leadW x := by
  unfold roomed
  split
  · rename_i h
    unfold leadW
    simp only [List.length_drop]
    unfold aft
    omega
  · rfl
theorem pushed_law {x : SendWindow} {s : ByteArray} (h : okPushItem x s = true) : goodWin x = true ∧ goodWin (pushedW x s) = true ∧ okHeld (pushedW x s) (pushedP x s).number = true ∧ itemAt (pushedW x s) (pushedP x s).number = s ∧ (pushedP x s).number = leadW x ∧ gp (leadW x) (leadW (pushedW x s)) = 1 ∧ (pushedP x s).lead = leadW (pushedW x s) ∧ (pushedP x s).trail = (pushedW x s).trail := by
  unfold okPushItem at h
  simp only [Bool.and_eq_true] at h
  obtain ⟨hg, hs⟩ := h
  obtain ⟨⟨t0, t1⟩, ⟨z0, z1⟩, hl, hi⟩ := goodWin_iff.1 hg
  have hr : 0 ≤ (roomed x).trail ∧ (roomed x).trail ≤ 65535 := roomed_bd t0 t1
  have hn : ((roomed x).items.length : Int) + 1 ≤ x.size ∧ (roomed x).items.all itm = true := by
    unfold roomed
    split
    · rename_i h
      refine ⟨by simp only [List.length_drop]; omega, ?_⟩
      rw [List.all_eq_true] at hi ⊢
      exact fun z hz => hi z (List.mem_of_mem_drop hz)
    · exact ⟨by omega, hi⟩
  have hlead := roomed_lead (x := x) z0
  have hgo : goodWin (pushedW x s) = true := by
    refine goodWin_iff.2 ⟨hr, ⟨z0, z1⟩, ?_, ?_⟩
    · show (((roomed x).items ++ [s]).length : Int) ≤ x.size
      simp only [List.length_append, List.length_cons, List.length_nil]; omega
    · show ((roomed x).items ++ [s]).all itm = true
      simp [hn.2, hs]
  have hnum : (pushedP x s).number = leadW x := rfl
  have hgap : gp (pushedW x s).trail (leadW x) = ((roomed x).items.length : Nat) := by
    rw [← hlead]
    show gp (roomed x).trail (leadW (roomed x)) = _
    unfold leadW gp aft
    omega
  have b := leadW_bd x
  refine ⟨hg, hgo, ?_, ?_, rfl, ?_, ?_, rfl⟩
  · unfold okHeld
    rw [hgo, hnum, isSer_iff.2 b, heldB, hgap]
    show decide (((roomed x).items.length : Int) < (((roomed x).items ++ [s]).length : Nat)) = true
    simp only [List.length_append, List.length_cons, List.length_nil, decide_eq_true_eq]
    omega
  · unfold itemAt
    rw [hnum, hgap]
    show ((roomed x).items ++ [s]).getD _ _ = s
    simp
  · rw [← hlead]
    show gp (leadW (roomed x)) (aft (roomed x).trail (((roomed x).items ++ [s]).length : Nat)) = 1
    unfold leadW gp aft
    simp only [List.length_append, List.length_cons, List.length_nil]
    omega
  · show aft (roomed x).trail (((roomed x).items.length : Nat) + 1) = aft (roomed x).trail ((((roomed x).items ++ [s]).length : Nat))
    simp
theorem spanL_mem {x : SendWindow} (hg : goodWin x = true) (n : Int) : (spanL x.trail x.items.length).contains n = (isSer n && heldB x n) := by
  obtain ⟨⟨t0, t1⟩, ⟨z0, z1⟩, hl, -⟩ := goodWin_iff.1 hg
  rw [Bool.eq_iff_iff]
  simp only [List.contains_iff_mem, Bool.and_eq_true, spanL, List.mem_map, List.mem_range, heldB, decide_eq_true_eq]
  constructor
  · rintro ⟨i, hi, rfl⟩
    refine ⟨isSer_iff.2 (aft_bd _ _), ?_⟩
    have : gp x.trail (aft x.trail (i : Nat)) = i := by unfold gp aft; omega
    omega
  · rintro ⟨h1, h2⟩
    obtain ⟨n0, n1⟩ := isSer_iff.1 h1
    have b := gp_bd x.trail n
    refine ⟨(gp x.trail n).toNat, by omega, ?_⟩
    have : (((gp x.trail n).toNat : Nat) : Int) = gp x.trail n := by omega
    rw [this]
    unfold aft gp
    omega
theorem answer_law {x : SendWindow} {p : Packet} (h : okAnswer x p = true) : okHeld x p.number = true ∧ goodPk (ansP x p.number) = true := by
  unfold okAnswer goodPk at h
  simp only [Bool.and_eq_true, decide_eq_true_eq] at h
  obtain ⟨⟨⟨hg, ⟨⟨⟨⟨⟨⟨-, hn⟩, -⟩, -⟩, -⟩, -⟩, -⟩⟩, -⟩, hh⟩ := h
  obtain ⟨⟨t0, t1⟩, ⟨z0, z1⟩, hl, hi⟩ := goodWin_iff.1 hg
  refine ⟨by unfold okHeld; rw [hg, hn, hh]; rfl, ?_⟩
  have hh' : gp x.trail p.number < (x.items.length : Int) := by simpa [heldB] using hh
  have b := gp_bd x.trail p.number
  have hlt : (gp x.trail p.number).toNat < x.items.length := by omega
  have hit : itm (itemAt x p.number) = true := by
    unfold itemAt
    rw [List.getD_eq_getElem?_getD, List.getElem?_eq_getElem hlt]
    exact List.all_eq_true.1 hi _ (List.getElem_mem hlt)
  have hgp : gp x.trail (leadW x) = (x.items.length : Nat) := by unfold leadW gp aft; omega
  unfold goodPk ansP
  dsimp only
  rw [hn, isSer_iff.2 ⟨t0, t1⟩, isSer_iff.2 (leadW_bd x), hit, hgp, decide_eq_true (by omega)]
  simp [btw]
theorem drop_law {x : SendWindow} {n : Int} (h : okDropItems x n = true) : goodWin x = true ∧ goodWin (resDropItems x n).1 = true ∧ leadW (resDropItems x n).1 = leadW x ∧ (resDropItems x n).1.trail = n ∧ ((resDropItems x n).1.items.length : Int) + (resDropItems x n).2.1 = x.items.length := by
  have h' := h
  unfold okDropItems at h
  simp only [Bool.and_eq_true, decide_eq_true_eq] at h
  obtain ⟨⟨hg, hn⟩, hle⟩ := h
  obtain ⟨⟨t0, t1⟩, ⟨z0, z1⟩, hl, hi⟩ := goodWin_iff.1 hg
  obtain ⟨n0, n1⟩ := isSer_iff.1 hn
  have b := gp_bd x.trail n
  have e : aft x.trail (gp x.trail n) = n := by unfold aft gp; omega
  unfold resDropItems
  rw [h']
  simp only [if_true]
  refine ⟨hg, ?_, ?_, e, ?_⟩
  · refine goodWin_iff.2 ⟨by dsimp only; rw [e]; exact ⟨n0, n1⟩, ⟨z0, z1⟩, by simp only [List.length_drop]; omega, ?_⟩
    dsimp only
    rw [List.all_eq_true] at hi ⊢
    exact fun z hz => hi z (List.mem_of_mem_drop hz)
  · unfold leadW
    simp only [List.length_drop]
    rw [e]
    unfold aft gp at *
    omega
  · simp only [List.length_drop]; omega
theorem resize_law {x : SendWindow} {n : Int} (h : okResizeWindow x n = true) : goodWin x = true ∧ goodWin (resResizeWindow x n).1 = true ∧ leadW (resResizeWindow x n).1 = leadW x ∧ ((resResizeWindow x n).1.items.length : Int) ≤ n := by
  have h' := h
  unfold okResizeWindow at h
  simp only [Bool.and_eq_true] at h
  obtain ⟨hg, hn⟩ := h
  obtain ⟨⟨t0, t1⟩, ⟨z0, z1⟩, hl, hi⟩ := goodWin_iff.1 hg
  have hn2 : 1 ≤ n ∧ n ≤ 6 := by simpa [btw] using hn
  have ht : (tooMany x n : Int) = max 0 ((x.items.length : Int) - n) := by unfold tooMany; omega
  unfold resResizeWindow
  rw [h']
  simp only [if_true]
  refine ⟨hg, ?_, ?_, ?_⟩
  · refine goodWin_iff.2 ⟨aft_bd _ _, hn2, by simp only [List.length_drop]; omega, ?_⟩
    dsimp only
    rw [List.all_eq_true] at hi ⊢
    exact fun z hz => hi z (List.mem_of_mem_drop hz)
  · unfold leadW
    simp only [List.length_drop]
    unfold aft
    omega
  · simp only [List.length_drop]; omega
end Go.Proofs.YtidephmobajikaaDoor
