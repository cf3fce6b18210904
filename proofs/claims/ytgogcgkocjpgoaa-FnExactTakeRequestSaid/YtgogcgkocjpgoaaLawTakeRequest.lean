/- The law FnExactTakeRequest: the walk of the law itself out of the contracts of the two functions. No condition beyond the form's own reach. Written by wip/genlaw.py. -/
import Derived.Test.YtgogcgkocjpgoaaM2
namespace Go.Proofs.Ytgogcgkocjpgoaa
open Go.RowKit Go.ChangeShapes Go.WideShapes Go.ChangeAt
set_option maxHeartbeats 8000000 in
set_option maxRecDepth 100000 in
theorem law_TakeRequest (v0 : Value) (x0 : Element) (F0 : List Nat) (x1 : Int) (x2 : Int) (w : World) (h0 : IsV EElement w v0 x0 F0) :
    Calls Try.prog 4 #[v0, .int .i64 x1, .int .i64 x2] w fun e' w' => e' = .returned (.bool true) ∧ Below w.heap.size w w' := by
  have hS := fun v0 F0 (w : World) (h0 : IsV EElement w v0 x0 F0) => specTakeRequest_c v0 x0 F0 x1 x2 w h0
  have hI := fun v0 F0 (w : World) (h0 : IsV EElement w v0 x0 F0) => TakeRequest_c v0 x0 F0 x1 x2 w h0
  have hV := resTakeRequest_cv x0 x1 x2
  generalize resTakeRequest x0 x1 x2 = r at *
  obtain ⟨r0, r1, r2⟩ := r
  try dsimp only at hS hI hV
  replace hS := Lib.hid hS; replace hI := Lib.hid hI; replace hV := Lib.hid hV
  have A0 := h0
  have lA0 := h0.lt
  clear h0
  have A0' := A0
  obtain ⟨_, rfl, p0v1, rfl, p0h1⟩ := A0'
  obtain ⟨p0a1, p0c1, rfl⟩ := p0h1.slice
  clear p0h1
  go_enter Try.func4, Try.ntmps4
  go_wp2_with fail
  have al : Below w.heap.size w (w.alloc (.cells #[.int .i64 x0.clock, .slice p0a1 x0.entries.length p0c1] 24)) := by
    repeat refine Below.alloc ?_ (by simp <;> omega) _
    exact Below.refl _ _
  have P0 := Row.made w 24 [.int .i64 x0.clock, .slice p0a1 x0.entries.length p0c1]
  have hs_w1 : w.heap.size < (w.alloc (.cells #[.int .i64 x0.clock, .slice p0a1 x0.entries.length p0c1] 24)).heap.size := by simp
  replace A0 := A0.below al
  have hB := al
  generalize (w.alloc (.cells #[.int .i64 x0.clock, .slice p0a1 x0.entries.length p0c1] 24)) = w1 at *
  clear al
  have c_P0 := P0.cells
  refine (szElement_c _ x0 F0 (1048576) _ A0 (by omega) (by omega)).mono ?_
  rintro e' w2 ⟨rfl, hb⟩
  have hs_w2 := hb.size
  replace P0 := P0.below hb
  replace A0 := A0.below hb
  replace hB := tr hB hb (Nat.le_refl _)
  clear hb
  replace c_P0 := P0.cells
  rcases szr_or (1048576) (wtElement x0) with ⟨e1, l1⟩ | ⟨e1, l1⟩
  · simp only [e1]
    have z1 := Lib.hid e1; clear e1
    go_wp2_with fail
    go_ret
    exact ⟨rfl, hB⟩
  simp only [e1]
  have z0 := Lib.hid e1; clear e1
  have hw0 : wtElement x0 ≤ 1048576 := by omega
  go_wp2_with fail
  have hV0 := hV.out hw0
  clear hV
  -- the reference
  refine (toElement_c _ x0 F0 _ A0 hw0).mono ?_
  rintro e' w3 ⟨y0v, Ky0, rfl, y0, -, -, hb⟩
  have hs_w3 := hb.size
  replace P0 := P0.below hb
  replace A0 := A0.below hb
  replace hB := tr hB hb (Nat.le_refl _)
  clear hb
  replace c_P0 := P0.cells
  obtain ⟨Ky0', hKy0, y0⟩ := y0.weak weak_Element
  go_wp2_with fail
  refine (hS.out _ Ky0' _ y0).mono ?_
  rintro e' w4 ⟨u0, GU0, rfl, U0, hb⟩
  have hs_w4 := hb.size
  replace P0 := P0.below hb
  replace A0 := A0.below hb
  replace y0 := y0.below hb
  replace hB := tr hB hb (Nat.le_refl _)
  clear hb
  replace c_P0 := P0.cells
  clear y0
  have lU0 := U0.lt
  have U0' := U0
  obtain ⟨_, rfl, u0v1, rfl, u0h1⟩ := U0'
  obtain ⟨u0a1, u0c1, rfl⟩ := u0h1.slice
  clear u0h1
  have d_P0 := fun o => (P0.alloc o).cells
  go_wp2_with fail
  clear d_P0
  have al : Below w4.heap.size w4 (w4.alloc (.cells #[.int .i64 r0.clock, .slice u0a1 r0.entries.length u0c1] 29)) := by
    repeat refine Below.alloc ?_ (by simp <;> omega) _
    exact Below.refl _ _
  have W0 := Row.made w4 29 [.int .i64 r0.clock, .slice u0a1 r0.entries.length u0c1]
  have hs_w5 : w4.heap.size < (w4.alloc (.cells #[.int .i64 r0.clock, .slice u0a1 r0.entries.length u0c1] 29)).heap.size := by simp
  replace P0 := P0.below al
  replace A0 := A0.below al
  replace U0 := U0.below al
  replace hB := tr hB al (Nat.le_refl _)
  generalize (w4.alloc (.cells #[.int .i64 r0.clock, .slice u0a1 r0.entries.length u0c1] 29)) = w5 at *
  clear al
  replace c_P0 := P0.cells
  have c_W0 := W0.cells
  refine (toElement_c _ x0 F0 _ A0 hw0).mono ?_
  rintro e' w6 ⟨x0v, FX0, rfl, X0_, nX0, fX0, hb⟩
  have hs_w6 := hb.size
  replace P0 := P0.below hb
  replace W0 := W0.below hb
  replace A0 := A0.below hb
  replace U0 := U0.below hb
  replace hB := tr hB hb (Nat.le_refl _)
  clear hb
  replace c_P0 := P0.cells
  replace c_W0 := W0.cells
  have lX0 := X0_.lt
  have X0_' := X0_
  obtain ⟨_, rfl, x0v1, rfl, x0h1⟩ := X0_'
  obtain ⟨x0a1, x0c1, rfl⟩ := x0h1.slice
  clear x0h1
  have d_P0 := fun o => (P0.alloc o).cells
  have d_W0 := fun o => (W0.alloc o).cells
  go_wp2_with fail
  clear d_P0 d_W0
  have al : Below w6.heap.size w6 (w6.alloc (.cells #[.int .i64 x0.clock, .slice x0a1 x0.entries.length x0c1] 29)) := by
    repeat refine Below.alloc ?_ (by simp <;> omega) _
    exact Below.refl _ _
  have X0 := Row.made w6 29 [.int .i64 x0.clock, .slice x0a1 x0.entries.length x0c1]
  have hs_w7 : w6.heap.size < (w6.alloc (.cells #[.int .i64 x0.clock, .slice x0a1 x0.entries.length x0c1] 29)).heap.size := by simp
  replace P0 := P0.below al
  replace W0 := W0.below al
  replace A0 := A0.below al
  replace U0 := U0.below al
  replace X0_ := X0_.below al
  replace hB := tr hB al (Nat.le_refl _)
  generalize (w6.alloc (.cells #[.int .i64 x0.clock, .slice x0a1 x0.entries.length x0c1] 29)) = w7 at *
  clear al
  replace c_P0 := P0.cells
  replace c_W0 := W0.cells
  have c_X0 := X0.cells
  -- the program
  obtain ⟨FX0', hFX0, XR0⟩ := X0_.weak weak_Element
  refine (hI.out _ FX0' _ XR0).mono ?_
  rintro e' w8 ⟨g0, FG0, rfl, G0, nG, fG, hb⟩
  have hs_w8 := hb.size
  replace P0 := P0.below hb
  replace W0 := W0.below hb
  replace X0 := X0.below hb
  replace A0 := A0.below hb
  replace U0 := U0.below hb
  replace X0_ := X0_.below hb
  replace XR0 := XR0.below hb
  replace hB := tr hB hb (Nat.le_refl _)
  clear hb
  replace c_P0 := P0.cells
  replace c_W0 := W0.cells
  replace c_X0 := X0.cells
  have lG0 := G0.lt
  have fG0 := fG
  have G0' := G0
  obtain ⟨_, rfl, g0v1, rfl, g0h1⟩ := G0'
  obtain ⟨g0a1, g0c1, rfl⟩ := g0h1.slice
  clear g0h1
  clear fG
  have nG0 := nG
  obtain ⟨FGR0, hFGR0, GR0⟩ := G0.weak weak_Element
  have hE1 : (r1 != r1) = false := by simp
  have hE2 : (r2 != r2) = false := by simp
  have d_P0 := fun o => (P0.alloc o).cells
  have d_W0 := fun o => (W0.alloc o).cells
  have d_X0 := fun o => (X0.alloc o).cells
  go_wp2_with fail
  clear d_P0 d_W0 d_X0
  have al : Below w8.heap.size w8 (w8.alloc (.cells #[.int .i64 r0.clock, .slice g0a1 r0.entries.length g0c1] 29)) := by
    repeat refine Below.alloc ?_ (by simp <;> omega) _
    exact Below.refl _ _
  have Q0 := Row.made w8 29 [.int .i64 r0.clock, .slice g0a1 r0.entries.length g0c1]
  have hs_w9 : w8.heap.size < (w8.alloc (.cells #[.int .i64 r0.clock, .slice g0a1 r0.entries.length g0c1] 29)).heap.size := by simp
  replace P0 := P0.below al
  replace W0 := W0.below al
  replace X0 := X0.below al
  replace A0 := A0.below al
  replace U0 := U0.below al
  replace X0_ := X0_.below al
  replace XR0 := XR0.below al
  replace G0 := G0.below al
  replace GR0 := GR0.below al
  replace hB := tr hB al (Nat.le_refl _)
  generalize (w8.alloc (.cells #[.int .i64 r0.clock, .slice g0a1 r0.entries.length g0c1] 29)) = w9 at *
  clear al
  replace c_P0 := P0.cells
  replace c_W0 := W0.cells
  replace c_X0 := X0.cells
  have c_Q0 := Q0.cells
  refine (eqElement_c _ _ r0 FGR0 GU0 _ GR0 U0).mono ?_
  rintro e' w10 ⟨rfl, hb⟩
  have hs_w10 := hb.size
  replace P0 := P0.below hb
  replace W0 := W0.below hb
  replace X0 := X0.below hb
  replace Q0 := Q0.below hb
  replace A0 := A0.below hb
  replace U0 := U0.below hb
  replace X0_ := X0_.below hb
  replace XR0 := XR0.below hb
  replace G0 := G0.below hb
  replace GR0 := GR0.below hb
  replace hB := tr hB hb (Nat.le_refl _)
  clear hb
  replace c_P0 := P0.cells
  replace c_W0 := W0.cells
  replace c_X0 := X0.cells
  replace c_Q0 := Q0.cells
  go_wp2_with fail
  -- a region that draws its order
  have q0 := X0.cells 0
  have q1 := X0.cells 1
  have q2 := P0.cells 0
  have q3 := P0.cells 1
  simp only [List.getElem?_cons_zero, List.getElem?_cons_succ] at q0 q1 q2 q3
  go_region_held3 (fun w' => w'.cell? ⟨w6.heap.size, 0, none⟩ = some (.int .i64 x0.clock) ∧ w'.cell? ⟨w6.heap.size, 1, none⟩ = some (.slice x0a1 x0.entries.length x0c1) ∧ w'.cell? ⟨w.heap.size, 0, none⟩ = some (.int .i64 x0.clock) ∧ w'.cell? ⟨w.heap.size, 1, none⟩ = some (.slice p0a1 x0.entries.length p0c1))
    (first | go_keep | (exact ⟨(kc hb1 (kc hb0 q0)), (kc hb1 (kc hb0 q1)), (kc hb1 (kc hb0 q2)), (kc hb1 (kc hb0 q3))⟩) | (exact ⟨(kc hb0 q0), (kc hb0 q1), (kc hb0 q2), (kc hb0 q3)⟩) | (exact ⟨q0, q1, q2, q3⟩))
    (first
      | (go_at_call 8; refine (toElement_c _ x0 F0 w10.drew (A0.drewN 1) hw0).mono ?_; rintro e' w11 ⟨t0v, KT0, rfl, T0, -, -, hb0⟩; obtain ⟨KT0', -, TR0⟩ := T0.weak weak_Element)
      | (go_at_call 11; refine (eqElement_c _ _ x0 FX0' KT0' w11 ((XR0.drewN 1).below hb0) TR0).mono ?_; rintro e' w12 ⟨rfl, hb1⟩)
    )
  have hb : Below w10.heap.size w10 w12 := (tr (tr (belowDrewN (Below.refl w10.heap.size w10) 1) hb0 (Nat.le_refl _)) hb1 (Nat.le_refl _))
  have hs_w12 := hb.size
  replace P0 := P0.below hb
  replace W0 := W0.below hb
  replace X0 := X0.below hb
  replace Q0 := Q0.below hb
  replace A0 := A0.below hb
  replace U0 := U0.below hb
  replace X0_ := X0_.below hb
  replace XR0 := XR0.below hb
  replace G0 := G0.below hb
  replace GR0 := GR0.below hb
  replace hB := tr hB hb (Nat.le_refl _)
  clear hb hb0 hb1
  replace c_P0 := P0.cells
  replace c_W0 := W0.cells
  replace c_X0 := X0.cells
  replace c_Q0 := Q0.cells
  go_wp2_with fail
  clear XR0
  have hc0 := cvElement_wt x0 hw0
  refine (markElement_c _ x0 FX0 (1) _ X0_ nX0 (by omega) (by omega)).mono ?_
  rintro e' w13 ⟨rfl, Xm, K⟩
  have hs_w13 := K.size
  have l_ := lX0; have f_ := fX0
  replace P0 := P0.keepK K (fun hm => by have h1 := l_ _ hm; have h2 := f_ _ hm; omega)
  replace W0 := W0.keepK K (fun hm => by have h1 := l_ _ hm; have h2 := f_ _ hm; omega)
  replace X0 := X0.keepK K (fun hm => by have h1 := l_ _ hm; have h2 := f_ _ hm; omega)
  replace Q0 := Q0.keepK K (fun hm => by have h1 := l_ _ hm; have h2 := f_ _ hm; omega)
  replace A0 := A0.keep K (fun b hb hm => by have h1 := l_ _ hm; have h2 := f_ _ hm; have h3 := lA0 b hb; omega)
  replace U0 := U0.keep K (fun b hb hm => by have h1 := l_ _ hm; have h2 := f_ _ hm; have h3 := lU0 b hb; omega)
  replace G0 := G0.keep K (fun b hb hm => by have h1 := l_ _ hm; have h2 := f_ _ hm; have h3 := fG0 b hb; have h4 := lG0 b hb; omega)
  replace GR0 := GR0.keep K (fun b hb hm => by have h1 := l_ _ hm; have h2 := f_ _ hm; have h3 := fG0 b (hFGR0 b hb); have h4 := lG0 b (hFGR0 b hb); omega)
  replace hB := hB.trans (K.below (B := w.heap.size) (by omega) (fun b hb => by have h2 := f_ b hb; omega))
  clear K Xm X0_ l_ f_
  replace c_P0 := P0.cells
  replace c_W0 := W0.cells
  replace c_X0 := X0.cells
  replace c_Q0 := Q0.cells
  have hk0 : ¬ (1 + ((cvElement x0 : Nat) : Int)) < 0 := by omega
  go_wp2_with fail
  refine (eqElement_c _ _ r0 FGR0 GU0 _ GR0 U0).mono ?_
  rintro e' w14 ⟨rfl, hb⟩
  have hs_w14 := hb.size
  replace P0 := P0.below hb
  replace W0 := W0.below hb
  replace X0 := X0.below hb
  replace Q0 := Q0.below hb
  replace A0 := A0.below hb
  replace U0 := U0.below hb
  replace G0 := G0.below hb
  replace GR0 := GR0.below hb
  replace hB := tr hB hb (Nat.le_refl _)
  clear hb
  replace c_P0 := P0.cells
  replace c_W0 := W0.cells
  replace c_X0 := X0.cells
  replace c_Q0 := Q0.cells
  go_wp2_with fail
  clear GR0
  refine (markElement_c _ r0 FG0 (1) _ G0 nG0 (by omega) (by omega)).mono ?_
  rintro e' w15 ⟨rfl, M0, K⟩
  have hs_w15 := K.size
  have l_ := lG0; have f_ := fG0
  replace P0 := P0.keepK K (fun hm => by have h1 := l_ _ hm; have h2 := f_ _ hm; omega)
  replace W0 := W0.keepK K (fun hm => by have h1 := l_ _ hm; have h2 := f_ _ hm; omega)
  replace X0 := X0.keepK K (fun hm => by have h1 := l_ _ hm; have h2 := f_ _ hm; omega)
  replace Q0 := Q0.keepK K (fun hm => by have h1 := l_ _ hm; have h2 := f_ _ hm; omega)
  replace A0 := A0.keep K (fun b hb hm => by have h1 := l_ _ hm; have h2 := f_ _ hm; have h3 := lA0 b hb; omega)
  replace U0 := U0.keep K (fun b hb hm => by have h1 := l_ _ hm; have h2 := f_ _ hm; have h3 := lU0 b hb; omega)
  replace hB := hB.trans (K.below (B := w.heap.size) (by omega) (fun b hb => by have h2 := f_ b hb; omega))
  clear K G0 l_ f_
  obtain ⟨FM0, hFM0, M0⟩ := M0.weak weak_Element
  replace c_P0 := P0.cells
  replace c_W0 := W0.cells
  replace c_X0 := X0.cells
  replace c_Q0 := Q0.cells
  go_wp2_with fail
  refine (heldElement_c _ r0 FM0 (1) _ M0 (by omega) (by omega)).mono ?_
  rintro e' w16 ⟨rfl, hb⟩
  have hs_w16 := hb.size
  replace P0 := P0.below hb
  replace W0 := W0.below hb
  replace X0 := X0.below hb
  replace Q0 := Q0.below hb
  replace A0 := A0.below hb
  replace U0 := U0.below hb
  replace M0 := M0.below hb
  replace hB := tr hB hb (Nat.le_refl _)
  clear hb
  replace c_P0 := P0.cells
  replace c_W0 := W0.cells
  replace c_X0 := X0.cells
  replace c_Q0 := Q0.cells
  have hk1 : ¬ (1 + ((cvElement r0 : Nat) : Int)) < 0 := by omega
  have hk2 : ((1 + ((cvElement r0 : Nat) : Int)) != 1 + ((cvElement r0 : Nat) : Int)) = false := by simp
  go_wp2_with fail
  clear hk1 hk2
  -- a second call of the program
  refine (toElement_c _ x0 F0 _ A0 hw0).mono ?_
  rintro e' w17 ⟨s0v, Ks0, rfl, s0, -, -, hb⟩
  have hs_w17 := hb.size
  replace P0 := P0.below hb
  replace W0 := W0.below hb
  replace X0 := X0.below hb
  replace Q0 := Q0.below hb
  replace A0 := A0.below hb
  replace U0 := U0.below hb
  replace M0 := M0.below hb
  replace hB := tr hB hb (Nat.le_refl _)
  clear hb
  replace c_P0 := P0.cells
  replace c_W0 := W0.cells
  replace c_X0 := X0.cells
  replace c_Q0 := Q0.cells
  obtain ⟨Ks0', hKs0, s0⟩ := s0.weak weak_Element
  go_wp2_with fail
  refine (hI.out _ Ks0' _ s0).mono ?_
  rintro e' w18 ⟨h_0, FH0, rfl, H0, -, -, hb⟩
  have hs_w18 := hb.size
  replace P0 := P0.below hb
  replace W0 := W0.below hb
  replace X0 := X0.below hb
  replace Q0 := Q0.below hb
  replace A0 := A0.below hb
  replace U0 := U0.below hb
  replace M0 := M0.below hb
  replace s0 := s0.below hb
  replace hB := tr hB hb (Nat.le_refl _)
  clear hb
  replace c_P0 := P0.cells
  replace c_W0 := W0.cells
  replace c_X0 := X0.cells
  replace c_Q0 := Q0.cells
  clear s0
  clear A0
  clear P0
  clear c_P0
  have H0' := H0
  obtain ⟨_, rfl, n0v1, rfl, n0h1⟩ := H0'
  obtain ⟨n0a1, n0c1, rfl⟩ := n0h1.slice
  clear n0h1
  obtain ⟨FHR0, hFHR0, HR0⟩ := H0.weak weak_Element
  clear H0
  have d_W0 := fun o => (W0.alloc o).cells
  have d_X0 := fun o => (X0.alloc o).cells
  have d_Q0 := fun o => (Q0.alloc o).cells
  go_wp2_with fail
  clear d_W0 d_X0 d_Q0
  have al : Below w18.heap.size w18 (w18.alloc (.cells #[.int .i64 r0.clock, .slice n0a1 r0.entries.length n0c1] 29)) := by
    repeat refine Below.alloc ?_ (by simp <;> omega) _
    exact Below.refl _ _
  have N0 := Row.made w18 29 [.int .i64 r0.clock, .slice n0a1 r0.entries.length n0c1]
  have hs_w19 : w18.heap.size < (w18.alloc (.cells #[.int .i64 r0.clock, .slice n0a1 r0.entries.length n0c1] 29)).heap.size := by simp
  replace W0 := W0.below al
  replace X0 := X0.below al
  replace Q0 := Q0.below al
  replace U0 := U0.below al
  replace M0 := M0.below al
  replace HR0 := HR0.below al
  replace hB := tr hB al (Nat.le_refl _)
  generalize (w18.alloc (.cells #[.int .i64 r0.clock, .slice n0a1 r0.entries.length n0c1] 29)) = w19 at *
  clear al
  replace c_W0 := W0.cells
  replace c_X0 := X0.cells
  replace c_Q0 := Q0.cells
  have c_N0 := N0.cells
  refine (eqElement_c _ _ r0 FHR0 GU0 _ HR0 U0).mono ?_
  rintro e' w20 ⟨rfl, hb⟩
  have hs_w20 := hb.size
  replace W0 := W0.below hb
  replace X0 := X0.below hb
  replace Q0 := Q0.below hb
  replace N0 := N0.below hb
  replace U0 := U0.below hb
  replace M0 := M0.below hb
  replace HR0 := HR0.below hb
  replace hB := tr hB hb (Nat.le_refl _)
  clear hb
  replace c_W0 := W0.cells
  replace c_X0 := X0.cells
  replace c_Q0 := Q0.cells
  replace c_N0 := N0.cells
  go_wp2_with fail
  clear HR0
  clear U0
  clear N0
  clear c_N0
  clear W0
  clear c_W0
  refine (heldElement_c _ r0 FM0 (1) _ M0 (by omega) (by omega)).mono ?_
  rintro e' w21 ⟨rfl, hb⟩
  have hs_w21 := hb.size
  replace X0 := X0.below hb
  replace Q0 := Q0.below hb
  replace M0 := M0.below hb
  replace hB := tr hB hb (Nat.le_refl _)
  clear hb
  replace c_X0 := X0.cells
  replace c_Q0 := Q0.cells
  have hk1 : ¬ (1 + ((cvElement r0 : Nat) : Int)) < 0 := by omega
  have hk2 : ((1 + ((cvElement r0 : Nat) : Int)) != 1 + ((cvElement r0 : Nat) : Int)) = false := by simp
  go_wp2_with fail
  clear hk1 hk2
  go_ret
  exact ⟨rfl, hB⟩
theorem reads_Entry : Reads Try.prog EEntry 79 := fun hh => by
  obtain ⟨y, F, hy⟩ := reads_struct (E := (EProd EInt (EProd (ESl EInt (by decide)) (EProd EInt EUnit)))) Try.underlying79 (by kernel_rfl) (.cons rfl (by kernel_rfl) (reads_int Try.underlying3) (.cons rfl (by kernel_rfl) (reads_slice Try.underlying25 (by kernel_rfl) (by decide) (reads_int Try.underlying3)) (.cons rfl (by kernel_rfl) (reads_int Try.underlying3) (.nil _)))) hh
  obtain ⟨_, _, _, _, rfl, rfl, ⟨rfl, rfl⟩, ⟨_, _, _, _, rfl, rfl, ⟨u1, rfl, hs1⟩, ⟨_, _, _, _, rfl, rfl, ⟨rfl, rfl⟩, ⟨rfl, rfl⟩⟩⟩⟩ := hy
  exact ⟨⟨y.1, y.2.1, y.2.2.1⟩, _, u1, rfl, by simpa using hs1⟩
theorem reads_Element : Reads Try.prog EElement 24 := fun hh => by
  obtain ⟨y, F, hy⟩ := reads_struct (E := (EProd EInt (EProd (ESl EEntry (by decide)) EUnit))) Try.underlying24 (by kernel_rfl) (.cons rfl (by kernel_rfl) (reads_int Try.underlying3) (.cons rfl (by kernel_rfl) (reads_slice Try.underlying22 (by kernel_rfl) (by decide) reads_Entry) (.nil _))) hh
  obtain ⟨_, _, _, _, rfl, rfl, ⟨rfl, rfl⟩, ⟨_, _, _, _, rfl, rfl, ⟨u1, rfl, hs1⟩, ⟨rfl, rfl⟩⟩⟩ := hy
  exact ⟨⟨y.1, y.2.1⟩, _, u1, rfl, by simpa using hs1⟩
set_option maxRecDepth 100000 in
theorem lifted_TakeRequest (os : Os) (started : os.Started) (H : Type) (enc : TypeId × Value → H) :
    ReturnsInHanded {} Try.checked os 4 .any (Rows.fnExactTakeRequestSpec.pre6 enc Try.prog Try.f4 Rows.fnExactTakeRequestRow.domain false) (Rows.fnExactTakeRequestSpec.post enc Try.prog Try.f4 false true false false) := by
  refine returnsInHanded_of_change (C := Try.checked) (by kernel_rfl) started (by kernel_rfl) Try.func4
    (ChangeSpec.witness6 (enc := enc) (C := Try.checked) false ⟨#[], #[.agg #[.int .i64 0, .slice none 0 0], .int .i64 0, .int .i64 0], []⟩ 8 (by kernel_rfl) (by kernel_rfl) (by kernel_rfl) (by kernel_rfl)) ?_
  intro W base args ds gs before hval0 hW _ _
  have hval : ∀ (j : Nat) t v, Try.f4.params[j]? = some t → args[j]? = some v → Value.okWide Try.prog W .any base t v := hval0
  have hW' := hW
  obtain ⟨p, q, hA0, hV, rfl, hfz, hnd⟩ := hW
  have hA : DataW.TrodAll enc Try.prog W 0 (fun _ => true) true Try.f4.params.toList args.toList ds p := hA0
  rw [Try.params4] at hA hval
  obtain ⟨v0, v1, v2, d0, d1, d2, p0, p1, p2, rfl, rfl, rfl, h0, h1, h2⟩ := trodAll_three hA
  obtain ⟨cs0, rfl, hsz0⟩ := okWide_struct Try.underlying24 (hval 0 24 v0 rfl rfl)
  obtain ⟨fuel0, hf0⟩ := h0
  obtain ⟨x0, F0, hx0⟩ := reads_Element hf0
  obtain ⟨c1, rfl⟩ := okWide_int Try.underlying3 (hval 1 3 v1 rfl rfl)
  obtain ⟨c2, rfl⟩ := okWide_int Try.underlying3 (hval 2 3 v2 rfl rfl)
  refine (law_TakeRequest _ x0 F0 c1 c2 W ⟨cs0.toList, by simp, by simpa [Value.cells] using hx0⟩).mono fun e W' ⟨he, hB⟩ => ⟨_, he, law_post (tb := 4) (by kernel_rfl) ?_ Try.underlying4 (by kernel_rfl) rfl rfl hW' hB⟩
  rw [Try.params4]
  intro t ht
  simp only [List.mem_cons, List.not_mem_nil, or_false] at ht
  rcases ht with rfl | rfl | rfl <;> exact ⟨by kernel_rfl, of_decide_eq_true (by kernel_rfl)⟩
theorem holds_TakeRequest : Rows.FnExactTakeRequestSaid :=
  OpenClaim.holds_of_wide 4 Try.f4 rfl rfl rfl rfl rfl rfl rfl ⟨rfl, rfl, rfl, rfl, rfl⟩ rfl rfl rfl rfl rfl (by kernel_rfl) Try.func4 (by kernel_rfl)
    (of_decide_eq_true (by kernel_rfl)) (by unfold Func.isWrapper; first | (rw [if_pos (by decide +kernel)]; kernel_rfl) | (rw [if_neg (by decide +kernel)]; exact ⟨rfl, rfl⟩))
    (fun os started H enc _ => lifted_TakeRequest os started H enc)
end Go.Proofs.Ytgogcgkocjpgoaa
