/- Sources: TrimSource of the program. -/
import Derived.Test.YtidephmobajikaaDoorSR3
namespace Go.Proofs.YtidephmobajikaaDoor
open Go.RowKit
/-- out of a contract that makes a value -/
theorem fn_made {P : Program} {f : FuncId} {args : List Value} {A : List Pc} {σ : Type} {C : σ → Prop} {v : σ → Value} {N : σ → Pc}
    (h : ∀ w, Hol A w → Calls P f args.toArray w fun e w' => ∃ s, C s ∧ e = .returned (v s) ∧ (N s).P w' ∧ (∀ b ∈ (N s).F, w.heap.size ≤ b) ∧ Below w.heap.size w w') : Fn P f args A [] C v (fun s => [N s]) := fun w hA _ => by
  refine (h w (by simpa using hA)).mono ?_
  rintro e w' ⟨s, hC, he, hN, hF, hB⟩
  refine ⟨s, hC, he, hol1 hN, ⟨by simp, trivial⟩, Keep.ofBelow hB, fun p hp b hb => ?_⟩
  simp at hp
  subst hp
  exact .inl (hF b hb)
structure SrcS where
  a : Option Addr
  c : Nat
  a2 : Option Addr
  c2 : Nat
  F : List Nat
def zSrc : Source := ⟨⟨0, 0, []⟩, 0, 0, []⟩
def withW (x : Source) (W : SendWindow) : Source := ⟨W, x.clock, x.quiet, keepH W x.holds⟩
def okTrimSource (x : Source) (n : Int) : Bool := goodSrc x && okDropItems x.window n
def resTrimSource (x : Source) (n : Int) : Source × Int × Bool := if okTrimSource x n then (withW x (resDropItems x.window n).1, (resDropItems x.window n).2.1, true) else (zSrc, 0, false)
theorem resTrim_no {x : Source} {n : Int} (h : okTrimSource x n = false) : resTrimSource x n = (zSrc, 0, false) := by unfold resTrimSource; rw [h]; rfl
structure GoodS (x : Source) : Prop where
  w : goodWin x.window = true
  l : x.window.items.length ≤ 6
  t0 : 0 ≤ x.window.trail
  t1 : x.window.trail ≤ 65535
  k0 : 0 ≤ x.clock
  k1 : x.clock ≤ 9999
  m : x.holds.length ≤ 6
  n : ∀ h ∈ x.holds, isSer h.number = true
  u : ∀ h ∈ x.holds, x.clock + 1 ≤ h.untl
  b : ∀ h ∈ x.holds, h.untl ≤ x.clock + 3
theorem goodS_of {x : Source} (h : goodSrc x = true) : GoodS x := by
  unfold goodSrc at h
  simp only [Bool.and_eq_true] at h
  obtain ⟨⟨⟨h1, h2⟩, h3⟩, h4⟩ := h
  obtain ⟨⟨t0, t1⟩, ⟨s0, s1⟩, s2, -⟩ := goodWin_iff.1 h1
  obtain ⟨k0, k1⟩ := clk_bd h2
  have hc : ∀ h ∈ x.holds, isSer h.number = true ∧ x.clock + 1 ≤ h.untl ∧ h.untl ≤ x.clock + 3 := fun h hh => by
    obtain ⟨i, hi, rfl⟩ := List.getElem_of_mem hh
    have := List.all_eq_true.1 h4 i (by simpa using hi)
    rw [chkH_at hi] at this
    simp only [Bool.and_eq_true, btw, decide_eq_true_eq] at this
    exact ⟨this.1.1.1, this.1.2.1, this.1.2.2⟩
  have hg : ∀ i, (hi : i < x.holds.length) → (i : Int) ≤ gp x.window.trail x.holds[i].number ∧ gp x.window.trail x.holds[i].number < 6 := by
    intro i
    induction i with
    | zero =>
      intro hi
      have := List.all_eq_true.1 h4 0 (by simpa using hi)
      rw [chkH_at hi] at this
      simp only [Bool.and_eq_true, heldB, decide_eq_true_eq] at this
      have b := gp_bd x.window.trail x.holds[0].number
      exact ⟨by omega, by have := this.1.1.2; omega⟩
    | succ i ih =>
      intro hi
      have p := ih (by omega)
      have := List.all_eq_true.1 h4 (i + 1) (by simpa using hi)
      rw [chkH_at hi] at this
      simp only [Bool.and_eq_true, heldB, decide_eq_true_eq, Bool.or_eq_true, Bool.not_eq_true', decide_eq_false_iff_not] at this
      have q := this.2
      have q2 := this.1.1.2
      simp only [Nat.add_sub_cancel] at q
      rcases q with q | q
      · omega
      · exact ⟨by omega, by omega⟩
  have hm : x.holds.length ≤ 6 := by
    by_cases h0 : x.holds.length ≤ 6
    · exact h0
    · have := hg 6 (by omega); omega
  exact ⟨h1, by omega, t0, t1, k0, k1, hm, fun h hh => (hc h hh).1, fun h hh => (hc h hh).2.1, fun h hh => (hc h hh).2.2⟩
theorem drop_yes {x : SendWindow} {n : Int} (h : okDropItems x n = true) (t0 : 0 ≤ x.trail) (t1 : x.trail ≤ 65535) : ∃ W k, resDropItems x n = (W, k, true) ∧ 0 ≤ W.trail ∧ W.trail ≤ 65535 := by
  unfold resDropItems
  rw [h]
  exact ⟨_, _, rfl, (aft_bd _ _).1, (aft_bd _ _).2⟩
theorem drop_no {x : SendWindow} {n : Int} (h : okDropItems x n = false) : resDropItems x n = (⟨0, 0, []⟩, 0, false) := by unfold resDropItems; rw [h]; rfl
def PS_TrimSource : Source × Int × Bool → World → Ending → World → Prop := fun (r0, r1, r2) w e w' => ∃ u0 G0, e = .returned (.tuple #[u0, .int .i64 r1, .bool r2]) ∧ IsV ESource w' u0 r0 G0 ∧ Below w.heap.size w w'
def PI_TrimSource : Source × Int × Bool → World → Ending → World → Prop := fun (r0, r1, r2) w e w' => ∃ u0 G0, e = .returned (.tuple #[u0, .int .i64 r1, .bool r2]) ∧ IsV OSource w' u0 r0 G0 ∧ (G0).Nodup ∧ (∀ b ∈ G0, w.heap.size ≤ b) ∧ Below w.heap.size w w'
theorem DropItems_f (x : SendWindow) (n : Int) (v : Value) (F : List Nat) : Fn Tryd.prog 31 [v, .int .i64 n] [.isv ESendWindow v x F] [] (fun (_ : Value × List Nat) => True)
    (fun s => .tuple #[s.1, .int .i64 (resDropItems x n).2.1, .bool (resDropItems x n).2.2]) (fun s => [.own OSendWindow s.1 (resDropItems x n).1 s.2]) :=
  fn_made fun w hA => (DropItems_c v x F n w (hA (.isv ESendWindow v x F) (by simp))).mono fun e w' ⟨u, G, he, h1, h2, h3, h4⟩ => ⟨(u, G), trivial, he, ⟨h2, h1⟩, h3, h4⟩
end Go.Proofs.YtidephmobajikaaDoor
