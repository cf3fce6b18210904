/- The law FnExactSendAll: the walk of the law itself out of the contracts of the two functions. No condition beyond the form's own reach. Written by wip/genlaw.py. -/
import Derived.Test.YtkcajnpdmgafjaaDoorCSendAll
import Derived.Test.YtkcajnpdmgafjaaDoorLaw
import Derived.Test.YtkcajnpdmgafjaaDoorCards
import Derived.Test.YtkcajnpdmgafjaaDoorTie
import Derived.LaidMore
import Derived.Lay
import Derived.SevenTiedAt
import Derived.Stop.Joined
import Derived.Test.YtkcajnpdmgafjaaDoorLaw2
namespace Go.Proofs.YtkcajnpdmgafjaaDoor
open Go.RowKit Go.ChangeShapes Go.WideShapes Go.ChangeAt
set_option maxHeartbeats 8000000 in
set_option maxRecDepth 100000 in
theorem law_SendAll (v0 : Value) (x0 : Link) (F0 : List Nat) (v1 : Value) (x1 : List ByteArray) (F1 : List Nat) (w : World) (h0 : IsV ELink w v0 x0 F0) (h1 : Sl EStr w v1 x1 F1) :
    Calls Tryd.prog 4 #[v0, v1] w fun e' w' => e' = .returned (.bool true) ∧ Below w.heap.size w w' := by
  have hS := fun v0 F0 v1 F1 (w : World) (h0 : IsV ELink w v0 x0 F0) (h1 : Sl EStr w v1 x1 F1) => specSendAll_c v0 x0 F0 v1 x1 F1 w h0 h1
  have hI := fun v0 F0 v1 F1 (w : World) (h0 : IsV ELink w v0 x0 F0) (h1 : Sl EStr w v1 x1 F1) => SendAll_c v0 x0 F0 v1 x1 F1 w h0 h1
  have hV := resSendAll_cv x0 x1
  generalize resSendAll x0 x1 = r at *
  obtain ⟨r0, r1, r2⟩ := r
  try dsimp only at hS hI hV
  replace hS := Lib.hid hS; replace hI := Lib.hid hI; replace hV := Lib.hid hV
  have A0 := h0
  have lA0 := h0.lt
  clear h0
  have A0' := A0
  obtain ⟨_, rfl, p0v1, rfl, -, p0h1⟩ := A0'
  obtain ⟨p0a1, p0c1, rfl⟩ := p0h1.slice
  clear p0h1
  have A1 := h1
  have lA1 := h1.lt (by decide)
  clear h1
  obtain ⟨p1a1, p1c1, rfl⟩ := A1.slice
  go_enter Tryd.func4, Tryd.ntmps4
  go_wp2_with fail
  have al : Below w.heap.size w (w.alloc (.cells #[.slice p0a1 x0.queue.length p0c1, .string x0.fates, .int .i64 x0.used] 24)) := by
    repeat refine Below.alloc ?_ (by simp <;> omega) _
    exact Below.refl _ _
  have P0 := Row.made w 24 [.slice p0a1 x0.queue.length p0c1, .string x0.fates, .int .i64 x0.used]
  have hs_w1 : w.heap.size < (w.alloc (.cells #[.slice p0a1 x0.queue.length p0c1, .string x0.fates, .int .i64 x0.used] 24)).heap.size := by simp
  replace A0 := A0.below al
  replace A1 := A1.below (by decide) al
  have hB := al
  generalize (w.alloc (.cells #[.slice p0a1 x0.queue.length p0c1, .string x0.fates, .int .i64 x0.used] 24)) = w1 at *
  clear al
  have c_P0 := P0.cells
  refine (szLink_c _ x0 F0 (1048576) _ A0 (by omega) (by omega)).mono ?_
  rintro e' w2 ⟨rfl, hb⟩
  have hs_w2 := hb.size
  replace P0 := P0.below hb
  replace A0 := A0.below hb
  replace A1 := A1.below (by decide) hb
  replace hB := tr hB hb (Nat.le_refl _)
  clear hb
  replace c_P0 := P0.cells
  rcases szr_or (1048576) (wtLink x0) with ⟨e1, l1⟩ | ⟨e1, l1⟩
  · simp only [e1]
    have z1 := Lib.hid e1; clear e1
    go_wp2_with fail
    go_ret
    exact ⟨rfl, hB⟩
  simp only [e1]
  have z0 := Lib.hid e1; clear e1
  have hw0 : wtLink x0 ≤ 1048576 := by omega
  go_wp2_with fail
  refine (szStringS_c _ x1 F1 (1048576 - (wtLink x0)) _ A1 (by omega) (by omega)).mono ?_
  rintro e' w3 ⟨rfl, hb⟩
  have hs_w3 := hb.size
  replace P0 := P0.below hb
  replace A0 := A0.below hb
  replace A1 := A1.below (by decide) hb
  replace hB := tr hB hb (Nat.le_refl _)
  clear hb
  replace c_P0 := P0.cells
  rcases szr_or (1048576 - (wtLink x0)) (wtL ByteArray.size x1) with ⟨e1, l1⟩ | ⟨e1, l1⟩
  · simp only [e1]
    have z1 := Lib.hid e1; clear e1
    go_wp2_with fail
    go_ret
    exact ⟨rfl, hB⟩
  simp only [e1]
  have z1 := Lib.hid e1; clear e1
  have hw1 : wtL ByteArray.size x1 ≤ 1048576 := by omega
  go_wp2_with fail
  have hV0 := hV.out hw0 hw1
  clear hV
  -- the reference
  refine (toLink_c _ x0 F0 _ A0 hw0).mono ?_
  rintro e' w4 ⟨y0v, Ky0, rfl, y0, -, -, hb⟩
  have hs_w4 := hb.size
  replace P0 := P0.below hb
  replace A0 := A0.below hb
  replace A1 := A1.below (by decide) hb
  replace hB := tr hB hb (Nat.le_refl _)
  clear hb
  replace c_P0 := P0.cells
  obtain ⟨Ky0', hKy0, y0⟩ := y0.weak weak_Link
  go_wp2_with fail
  refine (toStringS_c _ x1 F1 _ A1 hw1).mono ?_
  rintro e' w5 ⟨y1v, Ky1, rfl, y1, -, -, hb⟩
  have hs_w5 := hb.size
  replace P0 := P0.below hb
  replace A0 := A0.below hb
  replace A1 := A1.below (by decide) hb
  replace y0 := y0.below hb
  replace hB := tr hB hb (Nat.le_refl _)
  clear hb
  replace c_P0 := P0.cells
  obtain ⟨Ky1', hKy1, y1⟩ := y1.sl (Weak.refl _)
  go_wp2_with fail
  refine (hS.out _ Ky0' _ Ky1' _ y0 y1).mono ?_
  rintro e' w6 ⟨u0, GU0, rfl, U0, hb⟩
  have hs_w6 := hb.size
  replace P0 := P0.below hb
  replace A0 := A0.below hb
  replace A1 := A1.below (by decide) hb
  replace y0 := y0.below hb
  replace y1 := y1.below (by decide) hb
  replace hB := tr hB hb (Nat.le_refl _)
  clear hb
  replace c_P0 := P0.cells
  clear y0
  clear y1
  have lU0 := U0.lt
  have U0' := U0
  obtain ⟨_, rfl, u0v1, rfl, -, u0h1⟩ := U0'
  obtain ⟨u0a1, u0c1, rfl⟩ := u0h1.slice
  clear u0h1
  have d_P0 := fun o => (P0.alloc o).cells
  go_wp2_with fail
  clear d_P0
  have al : Below w6.heap.size w6 (w6.alloc (.cells #[.slice u0a1 r0.queue.length u0c1, .string r0.fates, .int .i64 r0.used] 26)) := by
    repeat refine Below.alloc ?_ (by simp <;> omega) _
    exact Below.refl _ _
  have W0 := Row.made w6 26 [.slice u0a1 r0.queue.length u0c1, .string r0.fates, .int .i64 r0.used]
  have hs_w7 : w6.heap.size < (w6.alloc (.cells #[.slice u0a1 r0.queue.length u0c1, .string r0.fates, .int .i64 r0.used] 26)).heap.size := by simp
  replace P0 := P0.below al
  replace A0 := A0.below al
  replace A1 := A1.below (by decide) al
  replace U0 := U0.below al
  replace hB := tr hB al (Nat.le_refl _)
  generalize (w6.alloc (.cells #[.slice u0a1 r0.queue.length u0c1, .string r0.fates, .int .i64 r0.used] 26)) = w7 at *
  clear al
  replace c_P0 := P0.cells
  have c_W0 := W0.cells
  refine (toLink_c _ x0 F0 _ A0 hw0).mono ?_
  rintro e' w8 ⟨x0v, FX0, rfl, X0_, nX0, fX0, hb⟩
  have hs_w8 := hb.size
  replace P0 := P0.below hb
  replace W0 := W0.below hb
  replace A0 := A0.below hb
  replace A1 := A1.below (by decide) hb
  replace U0 := U0.below hb
  replace hB := tr hB hb (Nat.le_refl _)
  clear hb
  replace c_P0 := P0.cells
  replace c_W0 := W0.cells
  have lX0 := X0_.lt
  have X0_' := X0_
  obtain ⟨_, rfl, x0v1, rfl, -, x0h1⟩ := X0_'
  obtain ⟨x0a1, x0c1, rfl⟩ := x0h1.slice
  clear x0h1
  have d_P0 := fun o => (P0.alloc o).cells
  have d_W0 := fun o => (W0.alloc o).cells
  go_wp2_with fail
  clear d_P0 d_W0
  have al : Below w8.heap.size w8 (w8.alloc (.cells #[.slice x0a1 x0.queue.length x0c1, .string x0.fates, .int .i64 x0.used] 26)) := by
    repeat refine Below.alloc ?_ (by simp <;> omega) _
    exact Below.refl _ _
  have X0 := Row.made w8 26 [.slice x0a1 x0.queue.length x0c1, .string x0.fates, .int .i64 x0.used]
  have hs_w9 : w8.heap.size < (w8.alloc (.cells #[.slice x0a1 x0.queue.length x0c1, .string x0.fates, .int .i64 x0.used] 26)).heap.size := by simp
  replace P0 := P0.below al
  replace W0 := W0.below al
  replace A0 := A0.below al
  replace A1 := A1.below (by decide) al
  replace U0 := U0.below al
  replace X0_ := X0_.below al
  replace hB := tr hB al (Nat.le_refl _)
  generalize (w8.alloc (.cells #[.slice x0a1 x0.queue.length x0c1, .string x0.fates, .int .i64 x0.used] 26)) = w9 at *
  clear al
  replace c_P0 := P0.cells
  replace c_W0 := W0.cells
  have c_X0 := X0.cells
  refine (toStringS_c _ x1 F1 _ A1 hw1).mono ?_
  rintro e' w10 ⟨x1v, FX1, rfl, X1_, nX1, fX1, hb⟩
  have hs_w10 := hb.size
  replace P0 := P0.below hb
  replace W0 := W0.below hb
  replace X0 := X0.below hb
  replace A0 := A0.below hb
  replace A1 := A1.below (by decide) hb
  replace U0 := U0.below hb
  replace X0_ := X0_.below hb
  replace hB := tr hB hb (Nat.le_refl _)
  clear hb
  replace c_P0 := P0.cells
  replace c_W0 := W0.cells
  replace c_X0 := X0.cells
  have lX1 := X1_.lt
  obtain ⟨x1a1, x1c1, rfl⟩ := X1_.slice
  go_wp2_with fail
  -- the program
  obtain ⟨FX0', hFX0, XR0⟩ := X0_.weak weak_Link
  obtain ⟨FX1', hFX1, XR1⟩ := X1_.sl (Weak.refl _)
  refine (hI.out _ FX0' _ FX1' _ XR0 XR1).mono ?_
  rintro e' w11 ⟨g0, FG0, rfl, G0, nG, fG, hb⟩
  have hs_w11 := hb.size
  replace P0 := P0.below hb
  replace W0 := W0.below hb
  replace X0 := X0.below hb
  replace A0 := A0.below hb
  replace A1 := A1.below (by decide) hb
  replace U0 := U0.below hb
  replace X0_ := X0_.below hb
  replace X1_ := X1_.below hb
  replace XR0 := XR0.below hb
  replace XR1 := XR1.below (by decide) hb
  replace hB := tr hB hb (Nat.le_refl _)
  clear hb
  replace c_P0 := P0.cells
  replace c_W0 := W0.cells
  replace c_X0 := X0.cells
  have lG0 := G0.lt
  have fG0 := fG
  have G0' := G0
  obtain ⟨_, rfl, g0v1, rfl, -, g0h1⟩ := G0'
  obtain ⟨g0a1, g0c1, rfl⟩ := g0h1.slice
  clear g0h1
  clear fG
  have nG0 := nG
  obtain ⟨FGR0, hFGR0, GR0⟩ := G0.weak weak_Link
  have hE1 : (r1 != r1) = false := by simp
  have hE2 : (r2 != r2) = false := by simp
  have d_P0 := fun o => (P0.alloc o).cells
  have d_W0 := fun o => (W0.alloc o).cells
  have d_X0 := fun o => (X0.alloc o).cells
  go_wp2_with fail
  clear d_P0 d_W0 d_X0
  have al : Below w11.heap.size w11 (w11.alloc (.cells #[.slice g0a1 r0.queue.length g0c1, .string r0.fates, .int .i64 r0.used] 26)) := by
    repeat refine Below.alloc ?_ (by simp <;> omega) _
    exact Below.refl _ _
  have Q0 := Row.made w11 26 [.slice g0a1 r0.queue.length g0c1, .string r0.fates, .int .i64 r0.used]
  have hs_w12 : w11.heap.size < (w11.alloc (.cells #[.slice g0a1 r0.queue.length g0c1, .string r0.fates, .int .i64 r0.used] 26)).heap.size := by simp
  replace P0 := P0.below al
  replace W0 := W0.below al
  replace X0 := X0.below al
  replace A0 := A0.below al
  replace A1 := A1.below (by decide) al
  replace U0 := U0.below al
  replace X0_ := X0_.below al
  replace X1_ := X1_.below al
  replace XR0 := XR0.below al
  replace XR1 := XR1.below (by decide) al
  replace G0 := G0.below al
  replace GR0 := GR0.below al
  replace hB := tr hB al (Nat.le_refl _)
  generalize (w11.alloc (.cells #[.slice g0a1 r0.queue.length g0c1, .string r0.fates, .int .i64 r0.used] 26)) = w12 at *
  clear al
  replace c_P0 := P0.cells
  replace c_W0 := W0.cells
  replace c_X0 := X0.cells
  have c_Q0 := Q0.cells
  refine (eqLink_c _ _ r0 FGR0 GU0 _ GR0 U0).mono ?_
  rintro e' w13 ⟨rfl, hb⟩
  have hs_w13 := hb.size
  replace P0 := P0.below hb
  replace W0 := W0.below hb
  replace X0 := X0.below hb
  replace Q0 := Q0.below hb
  replace A0 := A0.below hb
  replace A1 := A1.below (by decide) hb
  replace U0 := U0.below hb
  replace X0_ := X0_.below hb
  replace X1_ := X1_.below hb
  replace XR0 := XR0.below hb
  replace XR1 := XR1.below (by decide) hb
  replace G0 := G0.below hb
  replace GR0 := GR0.below hb
  replace hB := tr hB hb (Nat.le_refl _)
  clear hb
  replace c_P0 := P0.cells
  replace c_W0 := W0.cells
  replace c_X0 := X0.cells
  replace c_Q0 := Q0.cells
  go_wp2_with fail
  -- a region that draws its order
  have q0 := X0.cells 0
  have q1 := X0.cells 1
  have q2 := X0.cells 2
  have q3 := P0.cells 0
  have q4 := P0.cells 1
  have q5 := P0.cells 2
  simp only [List.getElem?_cons_zero, List.getElem?_cons_succ] at q0 q1 q2 q3 q4 q5
  go_region_held3 (fun w' => w'.cell? ⟨w8.heap.size, 0, none⟩ = some (.slice x0a1 x0.queue.length x0c1) ∧ w'.cell? ⟨w8.heap.size, 1, none⟩ = some (.string x0.fates) ∧ w'.cell? ⟨w8.heap.size, 2, none⟩ = some (.int .i64 x0.used) ∧ w'.cell? ⟨w.heap.size, 0, none⟩ = some (.slice p0a1 x0.queue.length p0c1) ∧ w'.cell? ⟨w.heap.size, 1, none⟩ = some (.string x0.fates) ∧ w'.cell? ⟨w.heap.size, 2, none⟩ = some (.int .i64 x0.used))
    (first | go_keep | (exact ⟨(kc hb1 (kc hb0 q0)), (kc hb1 (kc hb0 q1)), (kc hb1 (kc hb0 q2)), (kc hb1 (kc hb0 q3)), (kc hb1 (kc hb0 q4)), (kc hb1 (kc hb0 q5))⟩) | (exact ⟨(kc hb0 q0), (kc hb0 q1), (kc hb0 q2), (kc hb0 q3), (kc hb0 q4), (kc hb0 q5)⟩) | (exact ⟨q0, q1, q2, q3, q4, q5⟩))
    (first
      | (go_at_call 16; refine (toLink_c _ x0 F0 w13.drew (A0.drewN 1) hw0).mono ?_; rintro e' w14 ⟨t0v, KT0, rfl, T0, -, -, hb0⟩; obtain ⟨KT0', -, TR0⟩ := T0.weak weak_Link)
      | (go_at_call 18; refine (eqLink_c _ _ x0 FX0' KT0' w14 ((XR0.drewN 1).below hb0) TR0).mono ?_; rintro e' w15 ⟨rfl, hb1⟩)
    )
  have hb : Below w13.heap.size w13 w15 := (tr (tr (belowDrewN (Below.refl w13.heap.size w13) 1) hb0 (Nat.le_refl _)) hb1 (Nat.le_refl _))
  have hs_w15 := hb.size
  replace P0 := P0.below hb
  replace W0 := W0.below hb
  replace X0 := X0.below hb
  replace Q0 := Q0.below hb
  replace A0 := A0.below hb
  replace A1 := A1.below (by decide) hb
  replace U0 := U0.below hb
  replace X0_ := X0_.below hb
  replace X1_ := X1_.below hb
  replace XR0 := XR0.below hb
  replace XR1 := XR1.below (by decide) hb
  replace G0 := G0.below hb
  replace GR0 := GR0.below hb
  replace hB := tr hB hb (Nat.le_refl _)
  clear hb hb0 hb1
  replace c_P0 := P0.cells
  replace c_W0 := W0.cells
  replace c_X0 := X0.cells
  replace c_Q0 := Q0.cells
  go_wp2_with fail
  refine (toStringS_c _ x1 F1 _ A1 hw1).mono ?_
  rintro e' w16 ⟨t1v, KT1, rfl, T1, -, -, hb⟩
  have hs_w16 := hb.size
  replace P0 := P0.below hb
  replace W0 := W0.below hb
  replace X0 := X0.below hb
  replace Q0 := Q0.below hb
  replace A0 := A0.below hb
  replace A1 := A1.below (by decide) hb
  replace U0 := U0.below hb
  replace X0_ := X0_.below hb
  replace X1_ := X1_.below hb
  replace XR0 := XR0.below hb
  replace XR1 := XR1.below (by decide) hb
  replace G0 := G0.below hb
  replace GR0 := GR0.below hb
  replace hB := tr hB hb (Nat.le_refl _)
  clear hb
  replace c_P0 := P0.cells
  replace c_W0 := W0.cells
  replace c_X0 := X0.cells
  replace c_Q0 := Q0.cells
  obtain ⟨KT1', hKT1, T1⟩ := T1.sl (Weak.refl _)
  go_wp2_with fail
  refine (eqStringS_c _ _ x1 FX1' KT1' _ XR1 T1).mono ?_
  rintro e' w17 ⟨rfl, hb⟩
  have hs_w17 := hb.size
  replace P0 := P0.below hb
  replace W0 := W0.below hb
  replace X0 := X0.below hb
  replace Q0 := Q0.below hb
  replace A0 := A0.below hb
  replace A1 := A1.below (by decide) hb
  replace U0 := U0.below hb
  replace X0_ := X0_.below hb
  replace X1_ := X1_.below hb
  replace XR0 := XR0.below hb
  replace XR1 := XR1.below (by decide) hb
  replace G0 := G0.below hb
  replace GR0 := GR0.below hb
  replace T1 := T1.below (by decide) hb
  replace hB := tr hB hb (Nat.le_refl _)
  clear hb
  replace c_P0 := P0.cells
  replace c_W0 := W0.cells
  replace c_X0 := X0.cells
  replace c_Q0 := Q0.cells
  clear T1
  go_wp2_with fail
  clear XR0
  clear XR1
  have hc0 := cvLink_wt x0 hw0
  have hc1 := cntStringS_wt x1 hw1
  refine (markLink_c _ x0 FX0 (1) _ X0_ nX0 (by omega) (by omega)).mono ?_
  rintro e' w18 ⟨rfl, Xm, K⟩
  have hs_w18 := K.size
  have l_ := lX0; have f_ := fX0
  replace P0 := P0.keepK K (fun hm => by have h1 := l_ _ hm; have h2 := f_ _ hm; omega)
  replace W0 := W0.keepK K (fun hm => by have h1 := l_ _ hm; have h2 := f_ _ hm; omega)
  replace X0 := X0.keepK K (fun hm => by have h1 := l_ _ hm; have h2 := f_ _ hm; omega)
  replace Q0 := Q0.keepK K (fun hm => by have h1 := l_ _ hm; have h2 := f_ _ hm; omega)
  replace A0 := A0.keep K (fun b hb hm => by have h1 := l_ _ hm; have h2 := f_ _ hm; have h3 := lA0 b hb; omega)
  replace A1 := A1.keep K (fun b hb hm => by have h1 := l_ _ hm; have h2 := f_ _ hm; have h3 := lA1 b hb; omega)
  replace U0 := U0.keep K (fun b hb hm => by have h1 := l_ _ hm; have h2 := f_ _ hm; have h3 := lU0 b hb; omega)
  replace X1_ := X1_.keep K (fun b hb hm => by have h1 := l_ _ hm; have h2 := f_ _ hm; have h3 := fX1 b hb; have h4 := lX1 b hb; omega)
  replace G0 := G0.keep K (fun b hb hm => by have h1 := l_ _ hm; have h2 := f_ _ hm; have h3 := fG0 b hb; have h4 := lG0 b hb; omega)
  replace GR0 := GR0.keep K (fun b hb hm => by have h1 := l_ _ hm; have h2 := f_ _ hm; have h3 := fG0 b (hFGR0 b hb); have h4 := lG0 b (hFGR0 b hb); omega)
  replace hB := hB.trans (K.below (B := w.heap.size) (by omega) (fun b hb => by have h2 := f_ b hb; omega))
  clear K Xm X0_ l_ f_
  replace c_P0 := P0.cells
  replace c_W0 := W0.cells
  replace c_X0 := X0.cells
  replace c_Q0 := Q0.cells
  go_wp2_with fail
  refine (markStringS_c _ x1 FX1 (1 + cvLink x0) _ X1_ nX1 (by omega) (by omega)).mono ?_
  rintro e' w19 ⟨rfl, Xm, K⟩
  have hs_w19 := K.size
  have l_ := lX1; have f_ := fX1
  replace P0 := P0.keepK K (fun hm => by have h1 := l_ _ hm; have h2 := f_ _ hm; omega)
  replace W0 := W0.keepK K (fun hm => by have h1 := l_ _ hm; have h2 := f_ _ hm; omega)
  replace X0 := X0.keepK K (fun hm => by have h1 := l_ _ hm; have h2 := f_ _ hm; omega)
  replace Q0 := Q0.keepK K (fun hm => by have h1 := l_ _ hm; have h2 := f_ _ hm; omega)
  replace A0 := A0.keep K (fun b hb hm => by have h1 := l_ _ hm; have h2 := f_ _ hm; have h3 := lA0 b hb; omega)
  replace A1 := A1.keep K (fun b hb hm => by have h1 := l_ _ hm; have h2 := f_ _ hm; have h3 := lA1 b hb; omega)
  replace U0 := U0.keep K (fun b hb hm => by have h1 := l_ _ hm; have h2 := f_ _ hm; have h3 := lU0 b hb; omega)
  replace G0 := G0.keep K (fun b hb hm => by have h1 := l_ _ hm; have h2 := f_ _ hm; have h3 := fG0 b hb; have h4 := lG0 b hb; omega)
  replace GR0 := GR0.keep K (fun b hb hm => by have h1 := l_ _ hm; have h2 := f_ _ hm; have h3 := fG0 b (hFGR0 b hb); have h4 := lG0 b (hFGR0 b hb); omega)
  replace hB := hB.trans (K.below (B := w.heap.size) (by omega) (fun b hb => by have h2 := f_ b hb; omega))
  clear K Xm X1_ l_ f_
  replace c_P0 := P0.cells
  replace c_W0 := W0.cells
  replace c_X0 := X0.cells
  replace c_Q0 := Q0.cells
  have hk0 : ¬ (1 + ((cvLink x0 : Nat) : Int) + ((cntL cntS x1 : Nat) : Int)) < 0 := by omega
  go_wp2_with fail
  refine (eqLink_c _ _ r0 FGR0 GU0 _ GR0 U0).mono ?_
  rintro e' w20 ⟨rfl, hb⟩
  have hs_w20 := hb.size
  replace P0 := P0.below hb
  replace W0 := W0.below hb
  replace X0 := X0.below hb
  replace Q0 := Q0.below hb
  replace A0 := A0.below hb
  replace A1 := A1.below (by decide) hb
  replace U0 := U0.below hb
  replace G0 := G0.below hb
  replace GR0 := GR0.below hb
  replace hB := tr hB hb (Nat.le_refl _)
  clear hb
  replace c_P0 := P0.cells
  replace c_W0 := W0.cells
  replace c_X0 := X0.cells
  replace c_Q0 := Q0.cells
  go_wp2_with fail
  clear GR0
  refine (markLink_c _ r0 FG0 (1) _ G0 nG0 (by omega) (by omega)).mono ?_
  rintro e' w21 ⟨rfl, M0, K⟩
  have hs_w21 := K.size
  have l_ := lG0; have f_ := fG0
  replace P0 := P0.keepK K (fun hm => by have h1 := l_ _ hm; have h2 := f_ _ hm; omega)
  replace W0 := W0.keepK K (fun hm => by have h1 := l_ _ hm; have h2 := f_ _ hm; omega)
  replace X0 := X0.keepK K (fun hm => by have h1 := l_ _ hm; have h2 := f_ _ hm; omega)
  replace Q0 := Q0.keepK K (fun hm => by have h1 := l_ _ hm; have h2 := f_ _ hm; omega)
  replace A0 := A0.keep K (fun b hb hm => by have h1 := l_ _ hm; have h2 := f_ _ hm; have h3 := lA0 b hb; omega)
  replace A1 := A1.keep K (fun b hb hm => by have h1 := l_ _ hm; have h2 := f_ _ hm; have h3 := lA1 b hb; omega)
  replace U0 := U0.keep K (fun b hb hm => by have h1 := l_ _ hm; have h2 := f_ _ hm; have h3 := lU0 b hb; omega)
  replace hB := hB.trans (K.below (B := w.heap.size) (by omega) (fun b hb => by have h2 := f_ b hb; omega))
  clear K G0 l_ f_
  obtain ⟨FM0, hFM0, M0⟩ := M0.weak weak_Link
  replace c_P0 := P0.cells
  replace c_W0 := W0.cells
  replace c_X0 := X0.cells
  replace c_Q0 := Q0.cells
  go_wp2_with fail
  refine (heldLink_c _ r0 FM0 (1) _ M0 (by omega) (by omega)).mono ?_
  rintro e' w22 ⟨rfl, hb⟩
  have hs_w22 := hb.size
  replace P0 := P0.below hb
  replace W0 := W0.below hb
  replace X0 := X0.below hb
  replace Q0 := Q0.below hb
  replace A0 := A0.below hb
  replace A1 := A1.below (by decide) hb
  replace U0 := U0.below hb
  replace M0 := M0.below hb
  replace hB := tr hB hb (Nat.le_refl _)
  clear hb
  replace c_P0 := P0.cells
  replace c_W0 := W0.cells
  replace c_X0 := X0.cells
  replace c_Q0 := Q0.cells
  have hk1 : ¬ (1 + ((cvLink r0 : Nat) : Int)) < 0 := by omega
  have hk2 : ((1 + ((cvLink r0 : Nat) : Int)) != 1 + ((cvLink r0 : Nat) : Int)) = false := by simp
  go_wp2_with fail
  clear hk1 hk2
  -- a second call of the program
  refine (toLink_c _ x0 F0 _ A0 hw0).mono ?_
  rintro e' w23 ⟨s0v, Ks0, rfl, s0, -, -, hb⟩
  have hs_w23 := hb.size
  replace P0 := P0.below hb
  replace W0 := W0.below hb
  replace X0 := X0.below hb
  replace Q0 := Q0.below hb
  replace A0 := A0.below hb
  replace A1 := A1.below (by decide) hb
  replace U0 := U0.below hb
  replace M0 := M0.below hb
  replace hB := tr hB hb (Nat.le_refl _)
  clear hb
  replace c_P0 := P0.cells
  replace c_W0 := W0.cells
  replace c_X0 := X0.cells
  replace c_Q0 := Q0.cells
  obtain ⟨Ks0', hKs0, s0⟩ := s0.weak weak_Link
  go_wp2_with fail
  refine (toStringS_c _ x1 F1 _ A1 hw1).mono ?_
  rintro e' w24 ⟨s1v, Ks1, rfl, s1, -, -, hb⟩
  have hs_w24 := hb.size
  replace P0 := P0.below hb
  replace W0 := W0.below hb
  replace X0 := X0.below hb
  replace Q0 := Q0.below hb
  replace A0 := A0.below hb
  replace A1 := A1.below (by decide) hb
  replace U0 := U0.below hb
  replace M0 := M0.below hb
  replace s0 := s0.below hb
  replace hB := tr hB hb (Nat.le_refl _)
  clear hb
  replace c_P0 := P0.cells
  replace c_W0 := W0.cells
  replace c_X0 := X0.cells
  replace c_Q0 := Q0.cells
  obtain ⟨Ks1', hKs1, s1⟩ := s1.sl (Weak.refl _)
  go_wp2_with fail
  refine (hI.out _ Ks0' _ Ks1' _ s0 s1).mono ?_
  rintro e' w25 ⟨h_0, FH0, rfl, H0, -, -, hb⟩
  have hs_w25 := hb.size
  replace P0 := P0.below hb
  replace W0 := W0.below hb
  replace X0 := X0.below hb
  replace Q0 := Q0.below hb
  replace A0 := A0.below hb
  replace A1 := A1.below (by decide) hb
  replace U0 := U0.below hb
  replace M0 := M0.below hb
  replace s0 := s0.below hb
  replace s1 := s1.below (by decide) hb
  replace hB := tr hB hb (Nat.le_refl _)
  clear hb
  replace c_P0 := P0.cells
  replace c_W0 := W0.cells
  replace c_X0 := X0.cells
  replace c_Q0 := Q0.cells
  clear s0
  clear s1
  clear A0
  clear A1
  clear P0
  clear c_P0
  have H0' := H0
  obtain ⟨_, rfl, n0v1, rfl, -, n0h1⟩ := H0'
  obtain ⟨n0a1, n0c1, rfl⟩ := n0h1.slice
  clear n0h1
  obtain ⟨FHR0, hFHR0, HR0⟩ := H0.weak weak_Link
  clear H0
  have d_W0 := fun o => (W0.alloc o).cells
  have d_X0 := fun o => (X0.alloc o).cells
  have d_Q0 := fun o => (Q0.alloc o).cells
  go_wp2_with fail
  clear d_W0 d_X0 d_Q0
  have al : Below w25.heap.size w25 (w25.alloc (.cells #[.slice n0a1 r0.queue.length n0c1, .string r0.fates, .int .i64 r0.used] 26)) := by
    repeat refine Below.alloc ?_ (by simp <;> omega) _
    exact Below.refl _ _
  have N0 := Row.made w25 26 [.slice n0a1 r0.queue.length n0c1, .string r0.fates, .int .i64 r0.used]
  have hs_w26 : w25.heap.size < (w25.alloc (.cells #[.slice n0a1 r0.queue.length n0c1, .string r0.fates, .int .i64 r0.used] 26)).heap.size := by simp
  replace W0 := W0.below al
  replace X0 := X0.below al
  replace Q0 := Q0.below al
  replace U0 := U0.below al
  replace M0 := M0.below al
  replace HR0 := HR0.below al
  replace hB := tr hB al (Nat.le_refl _)
  generalize (w25.alloc (.cells #[.slice n0a1 r0.queue.length n0c1, .string r0.fates, .int .i64 r0.used] 26)) = w26 at *
  clear al
  replace c_W0 := W0.cells
  replace c_X0 := X0.cells
  replace c_Q0 := Q0.cells
  have c_N0 := N0.cells
  refine (eqLink_c _ _ r0 FHR0 GU0 _ HR0 U0).mono ?_
  rintro e' w27 ⟨rfl, hb⟩
  have hs_w27 := hb.size
  replace W0 := W0.below hb
  replace X0 := X0.below hb
  replace Q0 := Q0.below hb
  replace N0 := N0.below hb
  replace U0 := U0.below hb
  replace M0 := M0.below hb
  replace HR0 := HR0.below hb
  replace hB := tr hB hb (Nat.le_refl _)
  clear hb
  replace c_W0 := W0.cells
  replace c_X0 := X0.cells
  replace c_Q0 := Q0.cells
  replace c_N0 := N0.cells
  go_wp2_with fail
  clear HR0
  clear U0
  clear N0
  clear c_N0
  clear W0
  clear c_W0
  refine (heldLink_c _ r0 FM0 (1) _ M0 (by omega) (by omega)).mono ?_
  rintro e' w28 ⟨rfl, hb⟩
  have hs_w28 := hb.size
  replace X0 := X0.below hb
  replace Q0 := Q0.below hb
  replace M0 := M0.below hb
  replace hB := tr hB hb (Nat.le_refl _)
  clear hb
  replace c_X0 := X0.cells
  replace c_Q0 := Q0.cells
  have hk1 : ¬ (1 + ((cvLink r0 : Nat) : Int)) < 0 := by omega
  have hk2 : ((1 + ((cvLink r0 : Nat) : Int)) != 1 + ((cvLink r0 : Nat) : Int)) = false := by simp
  go_wp2_with fail
  clear hk1 hk2
  go_ret
  exact ⟨rfl, hB⟩
theorem reads_Link : Reads Tryd.prog ELink 24 := fun hh => by
  obtain ⟨y, F, hy⟩ := reads_struct (E := (EProd (ESl EStr (by decide)) (EProd EStr (EProd EInt EUnit)))) Tryd.underlying24 (by kernel_rfl) (.cons rfl (by kernel_rfl) (reads_slice Tryd.underlying22 (by kernel_rfl) (by decide) (reads_str Tryd.underlying9)) (.cons rfl (by kernel_rfl) (reads_str Tryd.underlying9) (.cons rfl (by kernel_rfl) (reads_int Tryd.underlying3) (.nil _)))) hh
  obtain ⟨_, _, _, _, rfl, rfl, ⟨u0, rfl, hs0⟩, ⟨_, _, _, _, rfl, rfl, ⟨rfl, s1, rfl⟩, ⟨_, _, _, _, rfl, rfl, ⟨rfl, rfl⟩, ⟨rfl, rfl⟩⟩⟩⟩ := hy
  exact ⟨⟨y.1, y.2.1, y.2.2.1⟩, _, u0, rfl, s1, by simpa using hs0⟩
set_option maxRecDepth 100000 in
theorem lifted_SendAll (os : Os) (started : os.Started) (H : Type) (enc : TypeId × Value → H) :
    ReturnsInHanded {} Tryd.checked os 4 .any (fun w args => (Rows.fnExactSendAllSpec.pre enc Tryd.prog Tryd.f4 Rows.fnExactSendAllRow.domain false w args ∧ laidMetH Tryd.prog Rows.fnExactSendAllRow.laid w) ∧ sizedMet enc Tryd.prog Tryd.f4 (OpenSpec.ofChange Rows.fnExactSendAllSpec) false w args)
      (Rows.fnExactSendAllSpec.post enc Tryd.prog Tryd.f4 false true false false) := by
  refine returnsInHanded_of_change_and (C := Tryd.checked) (X := fun w _ => laidMetH Tryd.prog Rows.fnExactSendAllRow.laid w) (fun _ _ _ hh h => h.of_heap hh) (by kernel_rfl) started (by kernel_rfl) Tryd.func4
    (ChangeSpec.witness_shaped (enc := enc) (C := Tryd.checked) (os := os) (X := fun w _ => laidMetH Tryd.prog Rows.fnExactSendAllRow.laid w) false (World.laidAll Tryd.prog os Rows.fnExactSendAllRow.laid) #[.agg #[.slice none 0 0, .string ⟨#[]⟩, .int .i64 0], .slice none 0 0] 8 (World.laidAll_os _ _ _)
      (World.shaped_of_ZipB (by kernel_rfl) (by kernel_rfl)) (by kernel_rfl) (by kernel_rfl) (by kernel_rfl)
      (by rw [MakeChecks.laidMetH_plain _ _ _ (by kernel_rfl)]; exact laidMet_laidAll _ (by kernel_rfl) (by kernel_rfl))) ?_
  intro W base args ds gs before hval0 hW hc_ _ hL _
  have hval : ∀ (j : Nat) t v, Tryd.f4.params[j]? = some t → args[j]? = some v → Value.okWide Tryd.prog W .any base t v := hval0
  have hW' := hW
  obtain ⟨p, q, hA0, hV, rfl, hfz, hnd⟩ := hW
  have hA : DataW.TrodAll enc Tryd.prog W 0 (fun _ => true) true Tryd.f4.params.toList args.toList ds p := hA0
  rw [Tryd.params4] at hA hval
  obtain ⟨v0, v1, d0, d1, p0, p1, rfl, rfl, rfl, h0, h1⟩ := trodAll_two hA
  obtain ⟨cs0, rfl, hsz0⟩ := okWide_struct Tryd.underlying24 (hval 0 24 v0 rfl rfl)
  obtain ⟨fuel0, hf0⟩ := h0
  obtain ⟨x0, F0, hx0⟩ := reads_Link hf0
  obtain ⟨a1, l1, c1, rfl⟩ := okWide_slice Tryd.underlying22 (hval 1 22 v1 rfl rfl)
  obtain ⟨fuel1, hf1⟩ := h1
  obtain ⟨x1, F1, u1, hu1, hs1⟩ := (reads_slice Tryd.underlying22 (by kernel_rfl) (by decide) (reads_str Tryd.underlying9)) hf1
  obtain rfl : Value.slice a1 l1 c1 = u1 := by simpa [Value.cells] using hu1
  refine (law_SendAll _ x0 F0 _ x1 F1 W ⟨cs0.toList, by simp, by simpa [Value.cells] using hx0⟩ hs1).mono fun e W' ⟨he, hB⟩ => ⟨_, he, law_post (tb := 4) (by kernel_rfl) ?_ Tryd.underlying4 (by kernel_rfl) rfl rfl hW' hB⟩
  rw [Tryd.params4]
  intro t ht
  simp only [List.mem_cons, List.not_mem_nil, or_false] at ht
  rcases ht with rfl | rfl <;> exact ⟨by kernel_rfl, of_decide_eq_true (by kernel_rfl)⟩
theorem holds_SendAll : Rows.FnExactSendAllSaid :=
  OpenClaim.holds_of_wide 4 Tryd.f4 rfl rfl rfl rfl rfl rfl rfl ⟨rfl, rfl, rfl, rfl, rfl⟩ rfl rfl rfl rfl rfl (by kernel_rfl) Tryd.func4 (by kernel_rfl)
    (of_decide_eq_true (by kernel_rfl)) (by unfold Func.isWrapper; first | (rw [if_pos (by decide +kernel)]; kernel_rfl) | (rw [if_neg (by decide +kernel)]; exact ⟨rfl, rfl⟩))
    (fun os started H enc _ => lifted_SendAll os started H enc)
/-- no parameter wants a stand-in; the looks are off -/
theorem plain_SendAll (f : FuncId) (fn : Func) (hf : Tryd.pinned.checked.prog.funcNamed "loop.example/g00840/laws.FnExactSendAll" = some f) (hfn : Tryd.pinned.checked.prog.funcs[f]? = some fn) :
    false = Tryd.pinned.checked.prog.looks [] ∧ ∀ (j : Nat) t, fn.params[j]? = some t → Tryd.pinned.checked.prog.wantsStandIn t = false := by
  obtain rfl : f = 4 := Option.some.inj ((show Tryd.prog.funcNamed "loop.example/g00840/laws.FnExactSendAll" = some 4 by kernel_rfl).symm.trans hf) |>.symm
  obtain rfl : fn = Tryd.f4 := (Option.some.inj (Tryd.func4.symm.trans hfn)).symm
  refine ⟨by kernel_rfl, fun j t ht => ?_⟩
  rw [Tryd.params4] at ht
  have hm : t ∈ [24, 22] := by simpa using Array.mem_of_getElem? ht
  have hall : ([24, 22].all fun u => !Tryd.prog.wantsStandIn u) = true := by kernel_rfl
  exact (show Tryd.prog.wantsStandIn t = false by simpa using List.all_eq_true.1 hall t hm)
theorem card_SendAll : Rows.FnExactSendAllCardSaid :=
  Claim7.holds_tied_plain_at .later [] _ _ _ _ holds_SendAll (fun _ h => by cases h) (by kernel_rfl) (fun _ h => by cases h) fnExactSendAll_row_tie rfl ⟨rfl, rfl⟩ (by kernel_rfl) rfl plain_SendAll (by kernel_rfl)
end Go.Proofs.YtkcajnpdmgafjaaDoor
