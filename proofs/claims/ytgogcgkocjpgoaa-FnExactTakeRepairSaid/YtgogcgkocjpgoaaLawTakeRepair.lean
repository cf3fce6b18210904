/- The law FnExactTakeRepair: the walk of the law itself out of the contracts of the two functions. No condition beyond the form's own reach. Written by wip/genlaw.py. -/
import Derived.Test.YtgogcgkocjpgoaaM2
namespace Go.Proofs.Ytgogcgkocjpgoaa
open Go.RowKit Go.ChangeShapes Go.WideShapes Go.ChangeAt
set_option maxHeartbeats 8000000 in
set_option maxRecDepth 100000 in
theorem law_TakeRepair (v0 : Value) (x0 : Element) (F0 : List Nat) (x1 : Int) (v2 : Value) (x2 : List Int) (F2 : List Nat) (w : World) (h0 : IsV EElement w v0 x0 F0) (h2 : Sl EInt w v2 x2 F2) :
    Calls Try.prog 3 #[v0, .int .i64 x1, v2] w fun e' w' => e' = .returned (.bool true) ∧ Below w.heap.size w w' := by
  have hS := fun v0 F0 v2 F2 (w : World) (h0 : IsV EElement w v0 x0 F0) (h2 : Sl EInt w v2 x2 F2) => specTakeRepair_c v0 x0 F0 x1 v2 x2 F2 w h0 h2
  have hI := fun v0 F0 v2 F2 (w : World) (h0 : IsV EElement w v0 x0 F0) (h2 : Sl EInt w v2 x2 F2) => TakeRepair_c v0 x0 F0 x1 v2 x2 F2 w h0 h2
  have hV := resTakeRepair_cv x0 x1 x2
  generalize resTakeRepair x0 x1 x2 = r at *
  obtain ⟨r0, r1, r2⟩ := r
  try dsimp only at hS hI hV
  replace hS := Lib.hid hS; replace hI := Lib.hid hI; replace hV := Lib.hid hV
  have A0 := h0
  have lA0 := h0.lt
  clear h0
  have A0' := A0
  obtain ⟨_, rfl, p0v1, rfl, p0h1⟩ := A0'
  obtain ⟨p0a1, p0c1, rfl⟩ := p0h1.slice
  clear p0h1
  have A2 := h2
  have lA2 := h2.lt (by decide)
  clear h2
  obtain ⟨p2a1, p2c1, rfl⟩ := A2.slice
  by_cases hz2 : 1048576 < x2.length
  · go_enter Try.func3, Try.ntmps3
    go_wp2
    go_ret
    exact ⟨rfl, by repeat (first | exact Below.refl _ _ | refine Below.alloc ?_ (by simp <;> omega) _)⟩
  go_enter Try.func3, Try.ntmps3
  go_wp2_with fail
  have al : Below w.heap.size w (w.alloc (.cells #[.int .i64 x0.clock, .slice p0a1 x0.entries.length p0c1] 24)) := by
    repeat refine Below.alloc ?_ (by simp <;> omega) _
    exact Below.refl _ _
  have P0 := Row.made w 24 [.int .i64 x0.clock, .slice p0a1 x0.entries.length p0c1]
  have hs_w1 : w.heap.size < (w.alloc (.cells #[.int .i64 x0.clock, .slice p0a1 x0.entries.length p0c1] 24)).heap.size := by simp
  replace A0 := A0.below al
  replace A2 := A2.below (by decide) al
  have hB := al
  generalize (w.alloc (.cells #[.int .i64 x0.clock, .slice p0a1 x0.entries.length p0c1] 24)) = w1 at *
  clear al
  have c_P0 := P0.cells
  refine (szElement_c _ x0 F0 (1048576) _ A0 (by omega) (by omega)).mono ?_
  rintro e' w2 ⟨rfl, hb⟩
  have hs_w2 := hb.size
  replace P0 := P0.below hb
  replace A0 := A0.below hb
  replace A2 := A2.below (by decide) hb
  replace hB := tr hB hb (Nat.le_refl _)
  clear hb
  replace c_P0 := P0.cells
  rcases szr_or (1048576) (wtElement x0) with ⟨e1, l1⟩ | ⟨e1, l1⟩
  · simp only [e1]
    have z1 := Lib.hid e1; clear e1
    go_wp2_with fail
    go_ret
    exact ⟨rfl, hB⟩
  simp only [e1]
  have z0 := Lib.hid e1; clear e1
  have hw0 : wtElement x0 ≤ 1048576 := by omega
  go_wp2_with fail
  have hw2 : wtL (fun _ => 0) x2 ≤ 1048576 := by rw [wtL_zero]; omega
  obtain ⟨hV0, hV1⟩ := hV.out hw0 hw2
  clear hV
  -- the reference
  refine (toElement_c _ x0 F0 _ A0 hw0).mono ?_
  rintro e' w3 ⟨y0v, Ky0, rfl, y0, -, -, hb⟩
  have hs_w3 := hb.size
  replace P0 := P0.below hb
  replace A0 := A0.below hb
  replace A2 := A2.below (by decide) hb
  replace hB := tr hB hb (Nat.le_refl _)
  clear hb
  replace c_P0 := P0.cells
  obtain ⟨Ky0', hKy0, y0⟩ := y0.weak weak_Element
  go_wp2_with fail
  refine (toIntS_c _ x2 F2 _ A2 hw2).mono ?_
  rintro e' w4 ⟨y2v, Ky2, rfl, y2, -, -, hb⟩
  have hs_w4 := hb.size
  replace P0 := P0.below hb
  replace A0 := A0.below hb
  replace A2 := A2.below (by decide) hb
  replace y0 := y0.below hb
  replace hB := tr hB hb (Nat.le_refl _)
  clear hb
  replace c_P0 := P0.cells
  obtain ⟨Ky2', hKy2, y2⟩ := y2.sl (Weak.refl _)
  go_wp2_with fail
  refine (hS.out _ Ky0' _ Ky2' _ y0 y2).mono ?_
  rintro e' w5 ⟨u0, GU0, u1, GU1, rfl, U0, U1, hb⟩
  have hs_w5 := hb.size
  replace P0 := P0.below hb
  replace A0 := A0.below hb
  replace A2 := A2.below (by decide) hb
  replace y0 := y0.below hb
  replace y2 := y2.below (by decide) hb
  replace hB := tr hB hb (Nat.le_refl _)
  clear hb
  replace c_P0 := P0.cells
  clear y0
  clear y2
  have lU0 := U0.lt
  have U0' := U0
  obtain ⟨_, rfl, u0v1, rfl, u0h1⟩ := U0'
  obtain ⟨u0a1, u0c1, rfl⟩ := u0h1.slice
  clear u0h1
  have lU1 := U1.lt (by decide)
  obtain ⟨u1a1, u1c1, rfl⟩ := U1.slice
  have d_P0 := fun o => (P0.alloc o).cells
  go_wp2_with fail
  clear d_P0
  have al : Below w5.heap.size w5 (w5.alloc (.cells #[.int .i64 r0.clock, .slice u0a1 r0.entries.length u0c1] 29)) := by
    repeat refine Below.alloc ?_ (by simp <;> omega) _
    exact Below.refl _ _
  have W0 := Row.made w5 29 [.int .i64 r0.clock, .slice u0a1 r0.entries.length u0c1]
  have hs_w6 : w5.heap.size < (w5.alloc (.cells #[.int .i64 r0.clock, .slice u0a1 r0.entries.length u0c1] 29)).heap.size := by simp
  replace P0 := P0.below al
  replace A0 := A0.below al
  replace A2 := A2.below (by decide) al
  replace U0 := U0.below al
  replace U1 := U1.below (by decide) al
  replace hB := tr hB al (Nat.le_refl _)
  generalize (w5.alloc (.cells #[.int .i64 r0.clock, .slice u0a1 r0.entries.length u0c1] 29)) = w6 at *
  clear al
  replace c_P0 := P0.cells
  have c_W0 := W0.cells
  refine (toElement_c _ x0 F0 _ A0 hw0).mono ?_
  rintro e' w7 ⟨x0v, FX0, rfl, X0_, nX0, fX0, hb⟩
  have hs_w7 := hb.size
  replace P0 := P0.below hb
  replace W0 := W0.below hb
  replace A0 := A0.below hb
  replace A2 := A2.below (by decide) hb
  replace U0 := U0.below hb
  replace U1 := U1.below (by decide) hb
  replace hB := tr hB hb (Nat.le_refl _)
  clear hb
  replace c_P0 := P0.cells
  replace c_W0 := W0.cells
  have lX0 := X0_.lt
  have X0_' := X0_
  obtain ⟨_, rfl, x0v1, rfl, x0h1⟩ := X0_'
  obtain ⟨x0a1, x0c1, rfl⟩ := x0h1.slice
  clear x0h1
  have d_P0 := fun o => (P0.alloc o).cells
  have d_W0 := fun o => (W0.alloc o).cells
  go_wp2_with fail
  clear d_P0 d_W0
  have al : Below w7.heap.size w7 (w7.alloc (.cells #[.int .i64 x0.clock, .slice x0a1 x0.entries.length x0c1] 29)) := by
    repeat refine Below.alloc ?_ (by simp <;> omega) _
    exact Below.refl _ _
  have X0 := Row.made w7 29 [.int .i64 x0.clock, .slice x0a1 x0.entries.length x0c1]
  have hs_w8 : w7.heap.size < (w7.alloc (.cells #[.int .i64 x0.clock, .slice x0a1 x0.entries.length x0c1] 29)).heap.size := by simp
  replace P0 := P0.below al
  replace W0 := W0.below al
  replace A0 := A0.below al
  replace A2 := A2.below (by decide) al
  replace U0 := U0.below al
  replace U1 := U1.below (by decide) al
  replace X0_ := X0_.below al
  replace hB := tr hB al (Nat.le_refl _)
  generalize (w7.alloc (.cells #[.int .i64 x0.clock, .slice x0a1 x0.entries.length x0c1] 29)) = w8 at *
  clear al
  replace c_P0 := P0.cells
  replace c_W0 := W0.cells
  have c_X0 := X0.cells
  refine (toIntS_c _ x2 F2 _ A2 hw2).mono ?_
  rintro e' w9 ⟨x2v, FX2, rfl, X2_, nX2, fX2, hb⟩
  have hs_w9 := hb.size
  replace P0 := P0.below hb
  replace W0 := W0.below hb
  replace X0 := X0.below hb
  replace A0 := A0.below hb
  replace A2 := A2.below (by decide) hb
  replace U0 := U0.below hb
  replace U1 := U1.below (by decide) hb
  replace X0_ := X0_.below hb
  replace hB := tr hB hb (Nat.le_refl _)
  clear hb
  replace c_P0 := P0.cells
  replace c_W0 := W0.cells
  replace c_X0 := X0.cells
  have lX2 := X2_.lt
  obtain ⟨x2a1, x2c1, rfl⟩ := X2_.slice
  go_wp2_with fail
  -- the program
  obtain ⟨FX0', hFX0, XR0⟩ := X0_.weak weak_Element
  obtain ⟨FX2', hFX2, XR2⟩ := X2_.sl (Weak.refl _)
  refine (hI.out _ FX0' _ FX2' _ XR0 XR2).mono ?_
  rintro e' w10 ⟨g0, FG0, g1, FG1, rfl, G0, G1, nG, fG, hb⟩
  have hs_w10 := hb.size
  replace P0 := P0.below hb
  replace W0 := W0.below hb
  replace X0 := X0.below hb
  replace A0 := A0.below hb
  replace A2 := A2.below (by decide) hb
  replace U0 := U0.below hb
  replace U1 := U1.below (by decide) hb
  replace X0_ := X0_.below hb
  replace X2_ := X2_.below hb
  replace XR0 := XR0.below hb
  replace XR2 := XR2.below (by decide) hb
  replace hB := tr hB hb (Nat.le_refl _)
  clear hb
  replace c_P0 := P0.cells
  replace c_W0 := W0.cells
  replace c_X0 := X0.cells
  have lG0 := G0.lt
  have fG0 : ∀ b ∈ FG0, w9.heap.size ≤ b := fun b hb => fG b (by simp [hb])
  have G0' := G0
  obtain ⟨_, rfl, g0v1, rfl, g0h1⟩ := G0'
  obtain ⟨g0a1, g0c1, rfl⟩ := g0h1.slice
  clear g0h1
  have lG1 := G1.lt
  have fG1 : ∀ b ∈ FG1, w9.heap.size ≤ b := fun b hb => fG b (by simp [hb])
  obtain ⟨g1a1, g1c1, rfl⟩ := G1.slice
  clear fG
  simp only [List.nodup_append] at nG
  obtain ⟨nG0, nG1, dG01⟩ := nG
  obtain ⟨FGR0, hFGR0, GR0⟩ := G0.weak weak_Element
  obtain ⟨FGR1, hFGR1, GR1⟩ := G1.sl (Weak.refl _)
  have hE2 : (r2 != r2) = false := by simp
  have d_P0 := fun o => (P0.alloc o).cells
  have d_W0 := fun o => (W0.alloc o).cells
  have d_X0 := fun o => (X0.alloc o).cells
  go_wp2_with fail
  clear d_P0 d_W0 d_X0
  have al : Below w10.heap.size w10 (w10.alloc (.cells #[.int .i64 r0.clock, .slice g0a1 r0.entries.length g0c1] 29)) := by
    repeat refine Below.alloc ?_ (by simp <;> omega) _
    exact Below.refl _ _
  have Q0 := Row.made w10 29 [.int .i64 r0.clock, .slice g0a1 r0.entries.length g0c1]
  have hs_w11 : w10.heap.size < (w10.alloc (.cells #[.int .i64 r0.clock, .slice g0a1 r0.entries.length g0c1] 29)).heap.size := by simp
  replace P0 := P0.below al
  replace W0 := W0.below al
  replace X0 := X0.below al
  replace A0 := A0.below al
  replace A2 := A2.below (by decide) al
  replace U0 := U0.below al
  replace U1 := U1.below (by decide) al
  replace X0_ := X0_.below al
  replace X2_ := X2_.below al
  replace XR0 := XR0.below al
  replace XR2 := XR2.below (by decide) al
  replace G0 := G0.below al
  replace G1 := G1.below al
  replace GR0 := GR0.below al
  replace GR1 := GR1.below (by decide) al
  replace hB := tr hB al (Nat.le_refl _)
  generalize (w10.alloc (.cells #[.int .i64 r0.clock, .slice g0a1 r0.entries.length g0c1] 29)) = w11 at *
  clear al
  replace c_P0 := P0.cells
  replace c_W0 := W0.cells
  replace c_X0 := X0.cells
  have c_Q0 := Q0.cells
  refine (eqElement_c _ _ r0 FGR0 GU0 _ GR0 U0).mono ?_
  rintro e' w12 ⟨rfl, hb⟩
  have hs_w12 := hb.size
  replace P0 := P0.below hb
  replace W0 := W0.below hb
  replace X0 := X0.below hb
  replace Q0 := Q0.below hb
  replace A0 := A0.below hb
  replace A2 := A2.below (by decide) hb
  replace U0 := U0.below hb
  replace U1 := U1.below (by decide) hb
  replace X0_ := X0_.below hb
  replace X2_ := X2_.below hb
  replace XR0 := XR0.below hb
  replace XR2 := XR2.below (by decide) hb
  replace G0 := G0.below hb
  replace G1 := G1.below hb
  replace GR0 := GR0.below hb
  replace GR1 := GR1.below (by decide) hb
  replace hB := tr hB hb (Nat.le_refl _)
  clear hb
  replace c_P0 := P0.cells
  replace c_W0 := W0.cells
  replace c_X0 := X0.cells
  replace c_Q0 := Q0.cells
  go_wp2_with fail
  refine (eqIntS_c _ _ r1 FGR1 GU1 _ GR1 U1).mono ?_
  rintro e' w13 ⟨rfl, hb⟩
  have hs_w13 := hb.size
  replace P0 := P0.below hb
  replace W0 := W0.below hb
  replace X0 := X0.below hb
  replace Q0 := Q0.below hb
  replace A0 := A0.below hb
  replace A2 := A2.below (by decide) hb
  replace U0 := U0.below hb
  replace U1 := U1.below (by decide) hb
  replace X0_ := X0_.below hb
  replace X2_ := X2_.below hb
  replace XR0 := XR0.below hb
  replace XR2 := XR2.below (by decide) hb
  replace G0 := G0.below hb
  replace G1 := G1.below hb
  replace GR0 := GR0.below hb
  replace GR1 := GR1.below (by decide) hb
  replace hB := tr hB hb (Nat.le_refl _)
  clear hb
  replace c_P0 := P0.cells
  replace c_W0 := W0.cells
  replace c_X0 := X0.cells
  replace c_Q0 := Q0.cells
  go_wp2_with fail
  -- a region that draws its order
  have q0 := X0.cells 0
  have q1 := X0.cells 1
  have q2 := P0.cells 0
  have q3 := P0.cells 1
  simp only [List.getElem?_cons_zero, List.getElem?_cons_succ] at q0 q1 q2 q3
  go_region_held3 (fun w' => w'.cell? ⟨w7.heap.size, 0, none⟩ = some (.int .i64 x0.clock) ∧ w'.cell? ⟨w7.heap.size, 1, none⟩ = some (.slice x0a1 x0.entries.length x0c1) ∧ w'.cell? ⟨w.heap.size, 0, none⟩ = some (.int .i64 x0.clock) ∧ w'.cell? ⟨w.heap.size, 1, none⟩ = some (.slice p0a1 x0.entries.length p0c1))
    (first | go_keep | (exact ⟨(kc hb1 (kc hb0 q0)), (kc hb1 (kc hb0 q1)), (kc hb1 (kc hb0 q2)), (kc hb1 (kc hb0 q3))⟩) | (exact ⟨(kc hb0 q0), (kc hb0 q1), (kc hb0 q2), (kc hb0 q3)⟩) | (exact ⟨q0, q1, q2, q3⟩))
    (first
      | (go_at_call 8; refine (toElement_c _ x0 F0 w13.drew (A0.drewN 1) hw0).mono ?_; rintro e' w14 ⟨t0v, KT0, rfl, T0, -, -, hb0⟩; obtain ⟨KT0', -, TR0⟩ := T0.weak weak_Element)
      | (go_at_call 11; refine (eqElement_c _ _ x0 FX0' KT0' w14 ((XR0.drewN 1).below hb0) TR0).mono ?_; rintro e' w15 ⟨rfl, hb1⟩)
    )
  have hb : Below w13.heap.size w13 w15 := (tr (tr (belowDrewN (Below.refl w13.heap.size w13) 1) hb0 (Nat.le_refl _)) hb1 (Nat.le_refl _))
  have hs_w15 := hb.size
  replace P0 := P0.below hb
  replace W0 := W0.below hb
  replace X0 := X0.below hb
  replace Q0 := Q0.below hb
  replace A0 := A0.below hb
  replace A2 := A2.below (by decide) hb
  replace U0 := U0.below hb
  replace U1 := U1.below (by decide) hb
  replace X0_ := X0_.below hb
  replace X2_ := X2_.below hb
  replace XR0 := XR0.below hb
  replace XR2 := XR2.below (by decide) hb
  replace G0 := G0.below hb
  replace G1 := G1.below hb
  replace GR0 := GR0.below hb
  replace GR1 := GR1.below (by decide) hb
  replace hB := tr hB hb (Nat.le_refl _)
  clear hb hb0 hb1
  replace c_P0 := P0.cells
  replace c_W0 := W0.cells
  replace c_X0 := X0.cells
  replace c_Q0 := Q0.cells
  go_wp2_with fail
  refine (toIntS_c _ x2 F2 _ A2 hw2).mono ?_
  rintro e' w16 ⟨t2v, KT2, rfl, T2, -, -, hb⟩
  have hs_w16 := hb.size
  replace P0 := P0.below hb
  replace W0 := W0.below hb
  replace X0 := X0.below hb
  replace Q0 := Q0.below hb
  replace A0 := A0.below hb
  replace A2 := A2.below (by decide) hb
  replace U0 := U0.below hb
  replace U1 := U1.below (by decide) hb
  replace X0_ := X0_.below hb
  replace X2_ := X2_.below hb
  replace XR0 := XR0.below hb
  replace XR2 := XR2.below (by decide) hb
  replace G0 := G0.below hb
  replace G1 := G1.below hb
  replace GR0 := GR0.below hb
  replace GR1 := GR1.below (by decide) hb
  replace hB := tr hB hb (Nat.le_refl _)
  clear hb
  replace c_P0 := P0.cells
  replace c_W0 := W0.cells
  replace c_X0 := X0.cells
  replace c_Q0 := Q0.cells
  obtain ⟨KT2', hKT2, T2⟩ := T2.sl (Weak.refl _)
  go_wp2_with fail
  refine (eqIntS_c _ _ x2 FX2' KT2' _ XR2 T2).mono ?_
  rintro e' w17 ⟨rfl, hb⟩
  have hs_w17 := hb.size
  replace P0 := P0.below hb
  replace W0 := W0.below hb
  replace X0 := X0.below hb
  replace Q0 := Q0.below hb
  replace A0 := A0.below hb
  replace A2 := A2.below (by decide) hb
  replace U0 := U0.below hb
  replace U1 := U1.below (by decide) hb
  replace X0_ := X0_.below hb
  replace X2_ := X2_.below hb
  replace XR0 := XR0.below hb
  replace XR2 := XR2.below (by decide) hb
  replace G0 := G0.below hb
  replace G1 := G1.below hb
  replace GR0 := GR0.below hb
  replace GR1 := GR1.below (by decide) hb
  replace T2 := T2.below (by decide) hb
  replace hB := tr hB hb (Nat.le_refl _)
  clear hb
  replace c_P0 := P0.cells
  replace c_W0 := W0.cells
  replace c_X0 := X0.cells
  replace c_Q0 := Q0.cells
  clear T2
  go_wp2_with fail
  clear XR0
  clear XR2
  have hc0 := cvElement_wt x0 hw0
  have hc2 := cntIntS_wt x2 hw2
  refine (markElement_c _ x0 FX0 (1) _ X0_ nX0 (by omega) (by omega)).mono ?_
  rintro e' w18 ⟨rfl, Xm, K⟩
  have hs_w18 := K.size
  have l_ := lX0; have f_ := fX0
  replace P0 := P0.keepK K (fun hm => by have h1 := l_ _ hm; have h2 := f_ _ hm; omega)
  replace W0 := W0.keepK K (fun hm => by have h1 := l_ _ hm; have h2 := f_ _ hm; omega)
  replace X0 := X0.keepK K (fun hm => by have h1 := l_ _ hm; have h2 := f_ _ hm; omega)
  replace Q0 := Q0.keepK K (fun hm => by have h1 := l_ _ hm; have h2 := f_ _ hm; omega)
  replace A0 := A0.keep K (fun b hb hm => by have h1 := l_ _ hm; have h2 := f_ _ hm; have h3 := lA0 b hb; omega)
  replace A2 := A2.keep K (fun b hb hm => by have h1 := l_ _ hm; have h2 := f_ _ hm; have h3 := lA2 b hb; omega)
  replace U0 := U0.keep K (fun b hb hm => by have h1 := l_ _ hm; have h2 := f_ _ hm; have h3 := lU0 b hb; omega)
  replace U1 := U1.keep K (fun b hb hm => by have h1 := l_ _ hm; have h2 := f_ _ hm; have h3 := lU1 b hb; omega)
  replace X2_ := X2_.keep K (fun b hb hm => by have h1 := l_ _ hm; have h2 := f_ _ hm; have h3 := fX2 b hb; have h4 := lX2 b hb; omega)
  replace G0 := G0.keep K (fun b hb hm => by have h1 := l_ _ hm; have h2 := f_ _ hm; have h3 := fG0 b hb; have h4 := lG0 b hb; omega)
  replace G1 := G1.keep K (fun b hb hm => by have h1 := l_ _ hm; have h2 := f_ _ hm; have h3 := fG1 b hb; have h4 := lG1 b hb; omega)
  replace GR0 := GR0.keep K (fun b hb hm => by have h1 := l_ _ hm; have h2 := f_ _ hm; have h3 := fG0 b (hFGR0 b hb); have h4 := lG0 b (hFGR0 b hb); omega)
  replace GR1 := GR1.keep K (fun b hb hm => by have h1 := l_ _ hm; have h2 := f_ _ hm; have h3 := fG1 b (hFGR1 b hb); have h4 := lG1 b (hFGR1 b hb); omega)
  replace hB := hB.trans (K.below (B := w.heap.size) (by omega) (fun b hb => by have h2 := f_ b hb; omega))
  clear K Xm X0_ l_ f_
  replace c_P0 := P0.cells
  replace c_W0 := W0.cells
  replace c_X0 := X0.cells
  replace c_Q0 := Q0.cells
  go_wp2_with fail
  refine (markIntS_c _ x2 FX2 (1 + cvElement x0) _ X2_ nX2 (by omega) (by omega)).mono ?_
  rintro e' w19 ⟨rfl, Xm, K⟩
  have hs_w19 := K.size
  have l_ := lX2; have f_ := fX2
  replace P0 := P0.keepK K (fun hm => by have h1 := l_ _ hm; have h2 := f_ _ hm; omega)
  replace W0 := W0.keepK K (fun hm => by have h1 := l_ _ hm; have h2 := f_ _ hm; omega)
  replace X0 := X0.keepK K (fun hm => by have h1 := l_ _ hm; have h2 := f_ _ hm; omega)
  replace Q0 := Q0.keepK K (fun hm => by have h1 := l_ _ hm; have h2 := f_ _ hm; omega)
  replace A0 := A0.keep K (fun b hb hm => by have h1 := l_ _ hm; have h2 := f_ _ hm; have h3 := lA0 b hb; omega)
  replace A2 := A2.keep K (fun b hb hm => by have h1 := l_ _ hm; have h2 := f_ _ hm; have h3 := lA2 b hb; omega)
  replace U0 := U0.keep K (fun b hb hm => by have h1 := l_ _ hm; have h2 := f_ _ hm; have h3 := lU0 b hb; omega)
  replace U1 := U1.keep K (fun b hb hm => by have h1 := l_ _ hm; have h2 := f_ _ hm; have h3 := lU1 b hb; omega)
  replace G0 := G0.keep K (fun b hb hm => by have h1 := l_ _ hm; have h2 := f_ _ hm; have h3 := fG0 b hb; have h4 := lG0 b hb; omega)
  replace G1 := G1.keep K (fun b hb hm => by have h1 := l_ _ hm; have h2 := f_ _ hm; have h3 := fG1 b hb; have h4 := lG1 b hb; omega)
  replace GR0 := GR0.keep K (fun b hb hm => by have h1 := l_ _ hm; have h2 := f_ _ hm; have h3 := fG0 b (hFGR0 b hb); have h4 := lG0 b (hFGR0 b hb); omega)
  replace GR1 := GR1.keep K (fun b hb hm => by have h1 := l_ _ hm; have h2 := f_ _ hm; have h3 := fG1 b (hFGR1 b hb); have h4 := lG1 b (hFGR1 b hb); omega)
  replace hB := hB.trans (K.below (B := w.heap.size) (by omega) (fun b hb => by have h2 := f_ b hb; omega))
  clear K Xm X2_ l_ f_
  replace c_P0 := P0.cells
  replace c_W0 := W0.cells
  replace c_X0 := X0.cells
  replace c_Q0 := Q0.cells
  have hk0 : ¬ (1 + ((cvElement x0 : Nat) : Int) + ((cntL cntI x2 : Nat) : Int)) < 0 := by omega
  go_wp2_with fail
  refine (eqElement_c _ _ r0 FGR0 GU0 _ GR0 U0).mono ?_
  rintro e' w20 ⟨rfl, hb⟩
  have hs_w20 := hb.size
  replace P0 := P0.below hb
  replace W0 := W0.below hb
  replace X0 := X0.below hb
  replace Q0 := Q0.below hb
  replace A0 := A0.below hb
  replace A2 := A2.below (by decide) hb
  replace U0 := U0.below hb
  replace U1 := U1.below (by decide) hb
  replace G0 := G0.below hb
  replace G1 := G1.below hb
  replace GR0 := GR0.below hb
  replace GR1 := GR1.below (by decide) hb
  replace hB := tr hB hb (Nat.le_refl _)
  clear hb
  replace c_P0 := P0.cells
  replace c_W0 := W0.cells
  replace c_X0 := X0.cells
  replace c_Q0 := Q0.cells
  go_wp2_with fail
  refine (eqIntS_c _ _ r1 FGR1 GU1 _ GR1 U1).mono ?_
  rintro e' w21 ⟨rfl, hb⟩
  have hs_w21 := hb.size
  replace P0 := P0.below hb
  replace W0 := W0.below hb
  replace X0 := X0.below hb
  replace Q0 := Q0.below hb
  replace A0 := A0.below hb
  replace A2 := A2.below (by decide) hb
  replace U0 := U0.below hb
  replace U1 := U1.below (by decide) hb
  replace G0 := G0.below hb
  replace G1 := G1.below hb
  replace GR0 := GR0.below hb
  replace GR1 := GR1.below (by decide) hb
  replace hB := tr hB hb (Nat.le_refl _)
  clear hb
  replace c_P0 := P0.cells
  replace c_W0 := W0.cells
  replace c_X0 := X0.cells
  replace c_Q0 := Q0.cells
  go_wp2_with fail
  clear GR0
  clear GR1
  refine (markElement_c _ r0 FG0 (1) _ G0 nG0 (by omega) (by omega)).mono ?_
  rintro e' w22 ⟨rfl, M0, K⟩
  have hs_w22 := K.size
  have l_ := lG0; have f_ := fG0
  replace P0 := P0.keepK K (fun hm => by have h1 := l_ _ hm; have h2 := f_ _ hm; omega)
  replace W0 := W0.keepK K (fun hm => by have h1 := l_ _ hm; have h2 := f_ _ hm; omega)
  replace X0 := X0.keepK K (fun hm => by have h1 := l_ _ hm; have h2 := f_ _ hm; omega)
  replace Q0 := Q0.keepK K (fun hm => by have h1 := l_ _ hm; have h2 := f_ _ hm; omega)
  replace A0 := A0.keep K (fun b hb hm => by have h1 := l_ _ hm; have h2 := f_ _ hm; have h3 := lA0 b hb; omega)
  replace A2 := A2.keep K (fun b hb hm => by have h1 := l_ _ hm; have h2 := f_ _ hm; have h3 := lA2 b hb; omega)
  replace U0 := U0.keep K (fun b hb hm => by have h1 := l_ _ hm; have h2 := f_ _ hm; have h3 := lU0 b hb; omega)
  replace U1 := U1.keep K (fun b hb hm => by have h1 := l_ _ hm; have h2 := f_ _ hm; have h3 := lU1 b hb; omega)
  replace G1 := G1.keep K (fun b hb hm => by have h1 := l_ _ hm; have h2 := f_ _ hm; have h3 := fG1 b hb; have h4 := lG1 b hb; exact dG01 b (hm) b (hb) rfl)
  replace hB := hB.trans (K.below (B := w.heap.size) (by omega) (fun b hb => by have h2 := f_ b hb; omega))
  clear K G0 l_ f_
  obtain ⟨FM0, hFM0, M0⟩ := M0.weak weak_Element
  replace c_P0 := P0.cells
  replace c_W0 := W0.cells
  replace c_X0 := X0.cells
  replace c_Q0 := Q0.cells
  go_wp2_with fail
  refine (markIntS_c _ r1 FG1 (1 + cvElement r0) _ G1 nG1 (by omega) (by omega)).mono ?_
  rintro e' w23 ⟨rfl, M1, K⟩
  have hs_w23 := K.size
  have l_ := lG1; have f_ := fG1
  replace P0 := P0.keepK K (fun hm => by have h1 := l_ _ hm; have h2 := f_ _ hm; omega)
  replace W0 := W0.keepK K (fun hm => by have h1 := l_ _ hm; have h2 := f_ _ hm; omega)
  replace X0 := X0.keepK K (fun hm => by have h1 := l_ _ hm; have h2 := f_ _ hm; omega)
  replace Q0 := Q0.keepK K (fun hm => by have h1 := l_ _ hm; have h2 := f_ _ hm; omega)
  replace A0 := A0.keep K (fun b hb hm => by have h1 := l_ _ hm; have h2 := f_ _ hm; have h3 := lA0 b hb; omega)
  replace A2 := A2.keep K (fun b hb hm => by have h1 := l_ _ hm; have h2 := f_ _ hm; have h3 := lA2 b hb; omega)
  replace U0 := U0.keep K (fun b hb hm => by have h1 := l_ _ hm; have h2 := f_ _ hm; have h3 := lU0 b hb; omega)
  replace U1 := U1.keep K (fun b hb hm => by have h1 := l_ _ hm; have h2 := f_ _ hm; have h3 := lU1 b hb; omega)
  replace M0 := M0.keep K (fun b hb hm => by have h1 := l_ _ hm; have h2 := f_ _ hm; have h3 := fG0 b (hFM0 b hb); have h4 := lG0 b (hFM0 b hb); exact dG01 b (hFM0 b hb) b (hm) rfl)
  replace hB := hB.trans (K.below (B := w.heap.size) (by omega) (fun b hb => by have h2 := f_ b hb; omega))
  clear K G1 l_ f_
  obtain ⟨FM1, hFM1, M1⟩ := M1.sl (Weak.refl _)
  replace c_P0 := P0.cells
  replace c_W0 := W0.cells
  replace c_X0 := X0.cells
  replace c_Q0 := Q0.cells
  go_wp2_with fail
  refine (heldElement_c _ r0 FM0 (1) _ M0 (by omega) (by omega)).mono ?_
  rintro e' w24 ⟨rfl, hb⟩
  have hs_w24 := hb.size
  replace P0 := P0.below hb
  replace W0 := W0.below hb
  replace X0 := X0.below hb
  replace Q0 := Q0.below hb
  replace A0 := A0.below hb
  replace A2 := A2.below (by decide) hb
  replace U0 := U0.below hb
  replace U1 := U1.below (by decide) hb
  replace M0 := M0.below hb
  replace M1 := M1.below (by decide) hb
  replace hB := tr hB hb (Nat.le_refl _)
  clear hb
  replace c_P0 := P0.cells
  replace c_W0 := W0.cells
  replace c_X0 := X0.cells
  replace c_Q0 := Q0.cells
  have hk1 : ¬ (1 + ((cvElement r0 : Nat) : Int)) < 0 := by omega
  go_wp2_with fail
  clear hk1
  refine (heldIntS_c _ r1 FM1 (1 + cvElement r0) _ M1 (by omega) (by omega)).mono ?_
  rintro e' w25 ⟨rfl, hb⟩
  have hs_w25 := hb.size
  replace P0 := P0.below hb
  replace W0 := W0.below hb
  replace X0 := X0.below hb
  replace Q0 := Q0.below hb
  replace A0 := A0.below hb
  replace A2 := A2.below (by decide) hb
  replace U0 := U0.below hb
  replace U1 := U1.below (by decide) hb
  replace M0 := M0.below hb
  replace M1 := M1.below (by decide) hb
  replace hB := tr hB hb (Nat.le_refl _)
  clear hb
  replace c_P0 := P0.cells
  replace c_W0 := W0.cells
  replace c_X0 := X0.cells
  replace c_Q0 := Q0.cells
  have hk1 : ¬ (1 + ((cvElement r0 : Nat) : Int) + ((cntL cntI r1 : Nat) : Int)) < 0 := by omega
  have hk2 : ((1 + ((cvElement r0 : Nat) : Int) + ((cntL cntI r1 : Nat) : Int)) != 1 + ((cvElement r0 : Nat) : Int) + ((cntL cntI r1 : Nat) : Int)) = false := by simp
  go_wp2_with fail
  clear hk1 hk2
  -- a second call of the program
  refine (toElement_c _ x0 F0 _ A0 hw0).mono ?_
  rintro e' w26 ⟨s0v, Ks0, rfl, s0, -, -, hb⟩
  have hs_w26 := hb.size
  replace P0 := P0.below hb
  replace W0 := W0.below hb
  replace X0 := X0.below hb
  replace Q0 := Q0.below hb
  replace A0 := A0.below hb
  replace A2 := A2.below (by decide) hb
  replace U0 := U0.below hb
  replace U1 := U1.below (by decide) hb
  replace M0 := M0.below hb
  replace M1 := M1.below (by decide) hb
  replace hB := tr hB hb (Nat.le_refl _)
  clear hb
  replace c_P0 := P0.cells
  replace c_W0 := W0.cells
  replace c_X0 := X0.cells
  replace c_Q0 := Q0.cells
  obtain ⟨Ks0', hKs0, s0⟩ := s0.weak weak_Element
  go_wp2_with fail
  refine (toIntS_c _ x2 F2 _ A2 hw2).mono ?_
  rintro e' w27 ⟨s2v, Ks2, rfl, s2, -, -, hb⟩
  have hs_w27 := hb.size
  replace P0 := P0.below hb
  replace W0 := W0.below hb
  replace X0 := X0.below hb
  replace Q0 := Q0.below hb
  replace A0 := A0.below hb
  replace A2 := A2.below (by decide) hb
  replace U0 := U0.below hb
  replace U1 := U1.below (by decide) hb
  replace M0 := M0.below hb
  replace M1 := M1.below (by decide) hb
  replace s0 := s0.below hb
  replace hB := tr hB hb (Nat.le_refl _)
  clear hb
  replace c_P0 := P0.cells
  replace c_W0 := W0.cells
  replace c_X0 := X0.cells
  replace c_Q0 := Q0.cells
  obtain ⟨Ks2', hKs2, s2⟩ := s2.sl (Weak.refl _)
  go_wp2_with fail
  refine (hI.out _ Ks0' _ Ks2' _ s0 s2).mono ?_
  rintro e' w28 ⟨h_0, FH0, h_1, FH1, rfl, H0, H1, -, -, hb⟩
  have hs_w28 := hb.size
  replace P0 := P0.below hb
  replace W0 := W0.below hb
  replace X0 := X0.below hb
  replace Q0 := Q0.below hb
  replace A0 := A0.below hb
  replace A2 := A2.below (by decide) hb
  replace U0 := U0.below hb
  replace U1 := U1.below (by decide) hb
  replace M0 := M0.below hb
  replace M1 := M1.below (by decide) hb
  replace s0 := s0.below hb
  replace s2 := s2.below (by decide) hb
  replace hB := tr hB hb (Nat.le_refl _)
  clear hb
  replace c_P0 := P0.cells
  replace c_W0 := W0.cells
  replace c_X0 := X0.cells
  replace c_Q0 := Q0.cells
  clear s0
  clear s2
  clear A0
  clear A2
  clear P0
  clear c_P0
  have H0' := H0
  obtain ⟨_, rfl, n0v1, rfl, n0h1⟩ := H0'
  obtain ⟨n0a1, n0c1, rfl⟩ := n0h1.slice
  clear n0h1
  obtain ⟨n1a1, n1c1, rfl⟩ := H1.slice
  obtain ⟨FHR0, hFHR0, HR0⟩ := H0.weak weak_Element
  obtain ⟨FHR1, hFHR1, HR1⟩ := H1.sl (Weak.refl _)
  clear H0
  clear H1
  have d_W0 := fun o => (W0.alloc o).cells
  have d_X0 := fun o => (X0.alloc o).cells
  have d_Q0 := fun o => (Q0.alloc o).cells
  go_wp2_with fail
  clear d_W0 d_X0 d_Q0
  have al : Below w28.heap.size w28 (w28.alloc (.cells #[.int .i64 r0.clock, .slice n0a1 r0.entries.length n0c1] 29)) := by
    repeat refine Below.alloc ?_ (by simp <;> omega) _
    exact Below.refl _ _
  have N0 := Row.made w28 29 [.int .i64 r0.clock, .slice n0a1 r0.entries.length n0c1]
  have hs_w29 : w28.heap.size < (w28.alloc (.cells #[.int .i64 r0.clock, .slice n0a1 r0.entries.length n0c1] 29)).heap.size := by simp
  replace W0 := W0.below al
  replace X0 := X0.below al
  replace Q0 := Q0.below al
  replace U0 := U0.below al
  replace U1 := U1.below (by decide) al
  replace M0 := M0.below al
  replace M1 := M1.below (by decide) al
  replace HR0 := HR0.below al
  replace HR1 := HR1.below (by decide) al
  replace hB := tr hB al (Nat.le_refl _)
  generalize (w28.alloc (.cells #[.int .i64 r0.clock, .slice n0a1 r0.entries.length n0c1] 29)) = w29 at *
  clear al
  replace c_W0 := W0.cells
  replace c_X0 := X0.cells
  replace c_Q0 := Q0.cells
  have c_N0 := N0.cells
  refine (eqElement_c _ _ r0 FHR0 GU0 _ HR0 U0).mono ?_
  rintro e' w30 ⟨rfl, hb⟩
  have hs_w30 := hb.size
  replace W0 := W0.below hb
  replace X0 := X0.below hb
  replace Q0 := Q0.below hb
  replace N0 := N0.below hb
  replace U0 := U0.below hb
  replace U1 := U1.below (by decide) hb
  replace M0 := M0.below hb
  replace M1 := M1.below (by decide) hb
  replace HR0 := HR0.below hb
  replace HR1 := HR1.below (by decide) hb
  replace hB := tr hB hb (Nat.le_refl _)
  clear hb
  replace c_W0 := W0.cells
  replace c_X0 := X0.cells
  replace c_Q0 := Q0.cells
  replace c_N0 := N0.cells
  go_wp2_with fail
  refine (eqIntS_c _ _ r1 FHR1 GU1 _ HR1 U1).mono ?_
  rintro e' w31 ⟨rfl, hb⟩
  have hs_w31 := hb.size
  replace W0 := W0.below hb
  replace X0 := X0.below hb
  replace Q0 := Q0.below hb
  replace N0 := N0.below hb
  replace U0 := U0.below hb
  replace U1 := U1.below (by decide) hb
  replace M0 := M0.below hb
  replace M1 := M1.below (by decide) hb
  replace HR0 := HR0.below hb
  replace HR1 := HR1.below (by decide) hb
  replace hB := tr hB hb (Nat.le_refl _)
  clear hb
  replace c_W0 := W0.cells
  replace c_X0 := X0.cells
  replace c_Q0 := Q0.cells
  replace c_N0 := N0.cells
  go_wp2_with fail
  clear HR0
  clear U0
  clear N0
  clear c_N0
  clear W0
  clear c_W0
  clear HR1
  clear U1
  refine (heldElement_c _ r0 FM0 (1) _ M0 (by omega) (by omega)).mono ?_
  rintro e' w32 ⟨rfl, hb⟩
  have hs_w32 := hb.size
  replace X0 := X0.below hb
  replace Q0 := Q0.below hb
  replace M0 := M0.below hb
  replace M1 := M1.below (by decide) hb
  replace hB := tr hB hb (Nat.le_refl _)
  clear hb
  replace c_X0 := X0.cells
  replace c_Q0 := Q0.cells
  have hk1 : ¬ (1 + ((cvElement r0 : Nat) : Int)) < 0 := by omega
  go_wp2_with fail
  clear hk1
  refine (heldIntS_c _ r1 FM1 (1 + cvElement r0) _ M1 (by omega) (by omega)).mono ?_
  rintro e' w33 ⟨rfl, hb⟩
  have hs_w33 := hb.size
  replace X0 := X0.below hb
  replace Q0 := Q0.below hb
  replace M0 := M0.below hb
  replace M1 := M1.below (by decide) hb
  replace hB := tr hB hb (Nat.le_refl _)
  clear hb
  replace c_X0 := X0.cells
  replace c_Q0 := Q0.cells
  have hk1 : ¬ (1 + ((cvElement r0 : Nat) : Int) + ((cntL cntI r1 : Nat) : Int)) < 0 := by omega
  have hk2 : ((1 + ((cvElement r0 : Nat) : Int) + ((cntL cntI r1 : Nat) : Int)) != 1 + ((cvElement r0 : Nat) : Int) + ((cntL cntI r1 : Nat) : Int)) = false := by simp
  go_wp2_with fail
  clear hk1 hk2
  go_ret
  exact ⟨rfl, hB⟩
theorem reads_Entry : Reads Try.prog EEntry 79 := fun hh => by
  obtain ⟨y, F, hy⟩ := reads_struct (E := (EProd EInt (EProd (ESl EInt (by decide)) (EProd EInt EUnit)))) Try.underlying79 (by kernel_rfl) (.cons rfl (by kernel_rfl) (reads_int Try.underlying3) (.cons rfl (by kernel_rfl) (reads_slice Try.underlying25 (by kernel_rfl) (by decide) (reads_int Try.underlying3)) (.cons rfl (by kernel_rfl) (reads_int Try.underlying3) (.nil _)))) hh
  obtain ⟨_, _, _, _, rfl, rfl, ⟨rfl, rfl⟩, ⟨_, _, _, _, rfl, rfl, ⟨u1, rfl, hs1⟩, ⟨_, _, _, _, rfl, rfl, ⟨rfl, rfl⟩, ⟨rfl, rfl⟩⟩⟩⟩ := hy
  exact ⟨⟨y.1, y.2.1, y.2.2.1⟩, _, u1, rfl, by simpa using hs1⟩
theorem reads_Element : Reads Try.prog EElement 24 := fun hh => by
  obtain ⟨y, F, hy⟩ := reads_struct (E := (EProd EInt (EProd (ESl EEntry (by decide)) EUnit))) Try.underlying24 (by kernel_rfl) (.cons rfl (by kernel_rfl) (reads_int Try.underlying3) (.cons rfl (by kernel_rfl) (reads_slice Try.underlying22 (by kernel_rfl) (by decide) reads_Entry) (.nil _))) hh
  obtain ⟨_, _, _, _, rfl, rfl, ⟨rfl, rfl⟩, ⟨_, _, _, _, rfl, rfl, ⟨u1, rfl, hs1⟩, ⟨rfl, rfl⟩⟩⟩ := hy
  exact ⟨⟨y.1, y.2.1⟩, _, u1, rfl, by simpa using hs1⟩
set_option maxRecDepth 100000 in
theorem lifted_TakeRepair (os : Os) (started : os.Started) (H : Type) (enc : TypeId × Value → H) :
    ReturnsInHanded {} Try.checked os 3 .any (Rows.fnExactTakeRepairSpec.pre6 enc Try.prog Try.f3 Rows.fnExactTakeRepairRow.domain false) (Rows.fnExactTakeRepairSpec.post enc Try.prog Try.f3 false true false false) := by
  refine returnsInHanded_of_change (C := Try.checked) (by kernel_rfl) started (by kernel_rfl) Try.func3
    (ChangeSpec.witness6 (enc := enc) (C := Try.checked) false ⟨#[], #[.agg #[.int .i64 0, .slice none 0 0], .int .i64 0, .slice none 0 0], []⟩ 8 (by kernel_rfl) (by kernel_rfl) (by kernel_rfl) (by kernel_rfl)) ?_
  intro W base args ds gs before hval0 hW _ _
  have hval : ∀ (j : Nat) t v, Try.f3.params[j]? = some t → args[j]? = some v → Value.okWide Try.prog W .any base t v := hval0
  have hW' := hW
  obtain ⟨p, q, hA0, hV, rfl, hfz, hnd⟩ := hW
  have hA : DataW.TrodAll enc Try.prog W 0 (fun _ => true) true Try.f3.params.toList args.toList ds p := hA0
  rw [Try.params3] at hA hval
  obtain ⟨v0, v1, v2, d0, d1, d2, p0, p1, p2, rfl, rfl, rfl, h0, h1, h2⟩ := trodAll_three hA
  obtain ⟨cs0, rfl, hsz0⟩ := okWide_struct Try.underlying24 (hval 0 24 v0 rfl rfl)
  obtain ⟨fuel0, hf0⟩ := h0
  obtain ⟨x0, F0, hx0⟩ := reads_Element hf0
  obtain ⟨c1, rfl⟩ := okWide_int Try.underlying3 (hval 1 3 v1 rfl rfl)
  obtain ⟨a2, l2, c2, rfl⟩ := okWide_slice Try.underlying25 (hval 2 25 v2 rfl rfl)
  obtain ⟨fuel2, hf2⟩ := h2
  obtain ⟨x2, F2, u2, hu2, hs2⟩ := (reads_slice Try.underlying25 (by kernel_rfl) (by decide) (reads_int Try.underlying3)) hf2
  obtain rfl : Value.slice a2 l2 c2 = u2 := by simpa [Value.cells] using hu2
  refine (law_TakeRepair _ x0 F0 c1 _ x2 F2 W ⟨cs0.toList, by simp, by simpa [Value.cells] using hx0⟩ hs2).mono fun e W' ⟨he, hB⟩ => ⟨_, he, law_post (tb := 4) (by kernel_rfl) ?_ Try.underlying4 (by kernel_rfl) rfl rfl hW' hB⟩
  rw [Try.params3]
  intro t ht
  simp only [List.mem_cons, List.not_mem_nil, or_false] at ht
  rcases ht with rfl | rfl | rfl <;> exact ⟨by kernel_rfl, of_decide_eq_true (by kernel_rfl)⟩
theorem holds_TakeRepair : Rows.FnExactTakeRepairSaid :=
  OpenClaim.holds_of_wide 3 Try.f3 rfl rfl rfl rfl rfl rfl rfl ⟨rfl, rfl, rfl, rfl, rfl⟩ rfl rfl rfl rfl rfl (by kernel_rfl) Try.func3 (by kernel_rfl)
    (of_decide_eq_true (by kernel_rfl)) (by unfold Func.isWrapper; first | (rw [if_pos (by decide +kernel)]; kernel_rfl) | (rw [if_neg (by decide +kernel)]; exact ⟨rfl, rfl⟩))
    (fun os started H enc _ => lifted_TakeRepair os started H enc)
end Go.Proofs.Ytgogcgkocjpgoaa
