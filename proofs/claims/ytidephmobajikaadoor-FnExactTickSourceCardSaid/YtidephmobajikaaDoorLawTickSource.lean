/- The law FnExactTickSource: the walk of the law itself out of the contracts of the two functions. No condition beyond the form's own reach. Written by wip/genlaw.py. -/
import Derived.Test.YtidephmobajikaaDoorCTickSource
import Derived.Test.YtidephmobajikaaDoorLaw
import Derived.Test.YtidephmobajikaaDoorCards
import Derived.Test.YtidephmobajikaaDoorTie
import Derived.LaidMore
import Derived.Lay
import Derived.SevenTiedAt
import Derived.Stop.Joined
import Derived.Test.YtidephmobajikaaDoorLaw2
namespace Go.Proofs.YtidephmobajikaaDoor
open Go.RowKit Go.ChangeShapes Go.WideShapes Go.ChangeAt
set_option maxHeartbeats 8000000 in
set_option maxRecDepth 100000 in
theorem law_TickSource (v0 : Value) (x0 : Source) (F0 : List Nat) (w : World) (h0 : IsV ESource w v0 x0 F0) :
    Calls Tryd.prog 7 #[v0] w fun e' w' => e' = .returned (.bool true) ∧ Below w.heap.size w w' := by
  have hS := fun v0 F0 (w : World) (h0 : IsV ESource w v0 x0 F0) => specTickSource_c v0 x0 F0 w h0
  have hI := fun v0 F0 (w : World) (h0 : IsV ESource w v0 x0 F0) => TickSource_c v0 x0 F0 w h0
  have hV := resTickSource_cv x0
  generalize resTickSource x0 = r at *
  obtain ⟨r0, r1, r2⟩ := r
  try dsimp only at hS hI hV
  replace hS := Lib.hid hS; replace hI := Lib.hid hI; replace hV := Lib.hid hV
  have A0 := h0
  have lA0 := h0.lt
  clear h0
  have A0' := A0
  obtain ⟨_, rfl, p0v1, p0v2, _, _, rfl, p0h1, p0h2, -⟩ := A0'
  obtain ⟨p0a1, p0c1, rfl⟩ := p0h1.slice
  obtain ⟨p0a2, p0c2, rfl⟩ := p0h2.slice
  clear p0h1 p0h2
  go_enter Tryd.func7, Tryd.ntmps7
  go_wp2_with fail
  have al : Below w.heap.size w (w.alloc (.cells #[.int .i64 x0.window.trail, .int .i64 x0.window.size, .slice p0a1 x0.window.items.length p0c1, .int .i64 x0.clock, .int .i64 x0.quiet, .slice p0a2 x0.holds.length p0c2] 96)) := by
    repeat refine Below.alloc ?_ (by simp <;> omega) _
    exact Below.refl _ _
  have P0 := Row.made w 96 [.int .i64 x0.window.trail, .int .i64 x0.window.size, .slice p0a1 x0.window.items.length p0c1, .int .i64 x0.clock, .int .i64 x0.quiet, .slice p0a2 x0.holds.length p0c2]
  have hs_w1 : w.heap.size < (w.alloc (.cells #[.int .i64 x0.window.trail, .int .i64 x0.window.size, .slice p0a1 x0.window.items.length p0c1, .int .i64 x0.clock, .int .i64 x0.quiet, .slice p0a2 x0.holds.length p0c2] 96)).heap.size := by simp
  replace A0 := A0.below al
  have hB := al
  generalize (w.alloc (.cells #[.int .i64 x0.window.trail, .int .i64 x0.window.size, .slice p0a1 x0.window.items.length p0c1, .int .i64 x0.clock, .int .i64 x0.quiet, .slice p0a2 x0.holds.length p0c2] 96)) = w1 at *
  clear al
  have c_P0 := P0.cells
  refine (szSource_c _ x0 F0 (1048576) _ A0 (by omega) (by omega)).mono ?_
  rintro e' w2 ⟨rfl, hb⟩
  have hs_w2 := hb.size
  replace P0 := P0.below hb
  replace A0 := A0.below hb
  replace hB := tr hB hb (Nat.le_refl _)
  clear hb
  replace c_P0 := P0.cells
  rcases szr_or (1048576) (wtSource x0) with ⟨e1, l1⟩ | ⟨e1, l1⟩
  · simp only [e1]
    have z1 := Lib.hid e1; clear e1
    go_wp2_with fail
    go_ret
    exact ⟨rfl, hB⟩
  simp only [e1]
  have z0 := Lib.hid e1; clear e1
  have hw0 : wtSource x0 ≤ 1048576 := by omega
  go_wp2_with fail
  obtain ⟨hV0, hV1⟩ := hV.out hw0
  clear hV
  -- the reference
  refine (toSource_c _ x0 F0 _ A0 hw0).mono ?_
  rintro e' w3 ⟨y0v, Ky0, rfl, y0, -, -, hb⟩
  have hs_w3 := hb.size
  replace P0 := P0.below hb
  replace A0 := A0.below hb
  replace hB := tr hB hb (Nat.le_refl _)
  clear hb
  replace c_P0 := P0.cells
  obtain ⟨Ky0', hKy0, y0⟩ := y0.weak weak_Source
  go_wp2_with fail
  refine (hS.out _ Ky0' _ y0).mono ?_
  rintro e' w4 ⟨u0, GU0, u1, GU1, rfl, U0, U1, hb⟩
  have hs_w4 := hb.size
  replace P0 := P0.below hb
  replace A0 := A0.below hb
  replace y0 := y0.below hb
  replace hB := tr hB hb (Nat.le_refl _)
  clear hb
  replace c_P0 := P0.cells
  clear y0
  have lU0 := U0.lt
  have U0' := U0
  obtain ⟨_, rfl, u0v1, u0v2, _, _, rfl, u0h1, u0h2, -⟩ := U0'
  obtain ⟨u0a1, u0c1, rfl⟩ := u0h1.slice
  obtain ⟨u0a2, u0c2, rfl⟩ := u0h2.slice
  clear u0h1 u0h2
  have lU1 := U1.lt (by decide)
  obtain ⟨u1a1, u1c1, rfl⟩ := U1.slice
  have d_P0 := fun o => (P0.alloc o).cells
  go_wp2_with fail
  clear d_P0
  have al : Below w4.heap.size w4 (w4.alloc (.cells #[.int .i64 r0.window.trail, .int .i64 r0.window.size, .slice u0a1 r0.window.items.length u0c1, .int .i64 r0.clock, .int .i64 r0.quiet, .slice u0a2 r0.holds.length u0c2] 100)) := by
    repeat refine Below.alloc ?_ (by simp <;> omega) _
    exact Below.refl _ _
  have W0 := Row.made w4 100 [.int .i64 r0.window.trail, .int .i64 r0.window.size, .slice u0a1 r0.window.items.length u0c1, .int .i64 r0.clock, .int .i64 r0.quiet, .slice u0a2 r0.holds.length u0c2]
  have hs_w5 : w4.heap.size < (w4.alloc (.cells #[.int .i64 r0.window.trail, .int .i64 r0.window.size, .slice u0a1 r0.window.items.length u0c1, .int .i64 r0.clock, .int .i64 r0.quiet, .slice u0a2 r0.holds.length u0c2] 100)).heap.size := by simp
  replace P0 := P0.below al
  replace A0 := A0.below al
  replace U0 := U0.below al
  replace U1 := U1.below (by decide) al
  replace hB := tr hB al (Nat.le_refl _)
  generalize (w4.alloc (.cells #[.int .i64 r0.window.trail, .int .i64 r0.window.size, .slice u0a1 r0.window.items.length u0c1, .int .i64 r0.clock, .int .i64 r0.quiet, .slice u0a2 r0.holds.length u0c2] 100)) = w5 at *
  clear al
  replace c_P0 := P0.cells
  have c_W0 := W0.cells
  refine (toSource_c _ x0 F0 _ A0 hw0).mono ?_
  rintro e' w6 ⟨x0v, FX0, rfl, X0_, nX0, fX0, hb⟩
  have hs_w6 := hb.size
  replace P0 := P0.below hb
  replace W0 := W0.below hb
  replace A0 := A0.below hb
  replace U0 := U0.below hb
  replace U1 := U1.below (by decide) hb
  replace hB := tr hB hb (Nat.le_refl _)
  clear hb
  replace c_P0 := P0.cells
  replace c_W0 := W0.cells
  have lX0 := X0_.lt
  have X0_' := X0_
  obtain ⟨_, rfl, x0v1, x0v2, _, _, rfl, x0h1, x0h2, -⟩ := X0_'
  obtain ⟨x0a1, x0c1, rfl⟩ := x0h1.slice
  obtain ⟨x0a2, x0c2, rfl⟩ := x0h2.slice
  clear x0h1 x0h2
  have d_P0 := fun o => (P0.alloc o).cells
  have d_W0 := fun o => (W0.alloc o).cells
  go_wp2_with fail
  clear d_P0 d_W0
  have al : Below w6.heap.size w6 (w6.alloc (.cells #[.int .i64 x0.window.trail, .int .i64 x0.window.size, .slice x0a1 x0.window.items.length x0c1, .int .i64 x0.clock, .int .i64 x0.quiet, .slice x0a2 x0.holds.length x0c2] 100)) := by
    repeat refine Below.alloc ?_ (by simp <;> omega) _
    exact Below.refl _ _
  have X0 := Row.made w6 100 [.int .i64 x0.window.trail, .int .i64 x0.window.size, .slice x0a1 x0.window.items.length x0c1, .int .i64 x0.clock, .int .i64 x0.quiet, .slice x0a2 x0.holds.length x0c2]
  have hs_w7 : w6.heap.size < (w6.alloc (.cells #[.int .i64 x0.window.trail, .int .i64 x0.window.size, .slice x0a1 x0.window.items.length x0c1, .int .i64 x0.clock, .int .i64 x0.quiet, .slice x0a2 x0.holds.length x0c2] 100)).heap.size := by simp
  replace P0 := P0.below al
  replace W0 := W0.below al
  replace A0 := A0.below al
  replace U0 := U0.below al
  replace U1 := U1.below (by decide) al
  replace X0_ := X0_.below al
  replace hB := tr hB al (Nat.le_refl _)
  generalize (w6.alloc (.cells #[.int .i64 x0.window.trail, .int .i64 x0.window.size, .slice x0a1 x0.window.items.length x0c1, .int .i64 x0.clock, .int .i64 x0.quiet, .slice x0a2 x0.holds.length x0c2] 100)) = w7 at *
  clear al
  replace c_P0 := P0.cells
  replace c_W0 := W0.cells
  have c_X0 := X0.cells
  -- the program
  obtain ⟨FX0', hFX0, XR0⟩ := X0_.weak weak_Source
  refine (hI.out _ FX0' _ XR0).mono ?_
  rintro e' w8 ⟨g0, FG0, g1, FG1, rfl, G0, G1, nG, fG, hb⟩
  have hs_w8 := hb.size
  replace P0 := P0.below hb
  replace W0 := W0.below hb
  replace X0 := X0.below hb
  replace A0 := A0.below hb
  replace U0 := U0.below hb
  replace U1 := U1.below (by decide) hb
  replace X0_ := X0_.below hb
  replace XR0 := XR0.below hb
  replace hB := tr hB hb (Nat.le_refl _)
  clear hb
  replace c_P0 := P0.cells
  replace c_W0 := W0.cells
  replace c_X0 := X0.cells
  have lG0 := G0.lt
  have fG0 : ∀ b ∈ FG0, w7.heap.size ≤ b := fun b hb => fG b (by simp [hb])
  have G0' := G0
  obtain ⟨_, rfl, g0v1, g0v2, _, _, rfl, g0h1, g0h2, -⟩ := G0'
  obtain ⟨g0a1, g0c1, rfl⟩ := g0h1.slice
  obtain ⟨g0a2, g0c2, rfl⟩ := g0h2.slice
  clear g0h1 g0h2
  have lG1 := G1.lt
  have fG1 : ∀ b ∈ FG1, w7.heap.size ≤ b := fun b hb => fG b (by simp [hb])
  obtain ⟨g1a1, g1c1, rfl⟩ := G1.slice
  clear fG
  simp only [List.nodup_append] at nG
  obtain ⟨nG0, nG1, dG01⟩ := nG
  obtain ⟨FGR0, hFGR0, GR0⟩ := G0.weak weak_Source
  obtain ⟨FGR1, hFGR1, GR1⟩ := G1.sl (Weak.refl _)
  have hE2 : (r2 != r2) = false := by simp
  have d_P0 := fun o => (P0.alloc o).cells
  have d_W0 := fun o => (W0.alloc o).cells
  have d_X0 := fun o => (X0.alloc o).cells
  go_wp2_with fail
  clear d_P0 d_W0 d_X0
  have al : Below w8.heap.size w8 (w8.alloc (.cells #[.int .i64 r0.window.trail, .int .i64 r0.window.size, .slice g0a1 r0.window.items.length g0c1, .int .i64 r0.clock, .int .i64 r0.quiet, .slice g0a2 r0.holds.length g0c2] 100)) := by
    repeat refine Below.alloc ?_ (by simp <;> omega) _
    exact Below.refl _ _
  have Q0 := Row.made w8 100 [.int .i64 r0.window.trail, .int .i64 r0.window.size, .slice g0a1 r0.window.items.length g0c1, .int .i64 r0.clock, .int .i64 r0.quiet, .slice g0a2 r0.holds.length g0c2]
  have hs_w9 : w8.heap.size < (w8.alloc (.cells #[.int .i64 r0.window.trail, .int .i64 r0.window.size, .slice g0a1 r0.window.items.length g0c1, .int .i64 r0.clock, .int .i64 r0.quiet, .slice g0a2 r0.holds.length g0c2] 100)).heap.size := by simp
  replace P0 := P0.below al
  replace W0 := W0.below al
  replace X0 := X0.below al
  replace A0 := A0.below al
  replace U0 := U0.below al
  replace U1 := U1.below (by decide) al
  replace X0_ := X0_.below al
  replace XR0 := XR0.below al
  replace G0 := G0.below al
  replace G1 := G1.below al
  replace GR0 := GR0.below al
  replace GR1 := GR1.below (by decide) al
  replace hB := tr hB al (Nat.le_refl _)
  generalize (w8.alloc (.cells #[.int .i64 r0.window.trail, .int .i64 r0.window.size, .slice g0a1 r0.window.items.length g0c1, .int .i64 r0.clock, .int .i64 r0.quiet, .slice g0a2 r0.holds.length g0c2] 100)) = w9 at *
  clear al
  replace c_P0 := P0.cells
  replace c_W0 := W0.cells
  replace c_X0 := X0.cells
  have c_Q0 := Q0.cells
  refine (eqSource_c _ _ r0 FGR0 GU0 _ GR0 U0).mono ?_
  rintro e' w10 ⟨rfl, hb⟩
  have hs_w10 := hb.size
  replace P0 := P0.below hb
  replace W0 := W0.below hb
  replace X0 := X0.below hb
  replace Q0 := Q0.below hb
  replace A0 := A0.below hb
  replace U0 := U0.below hb
  replace U1 := U1.below (by decide) hb
  replace X0_ := X0_.below hb
  replace XR0 := XR0.below hb
  replace G0 := G0.below hb
  replace G1 := G1.below hb
  replace GR0 := GR0.below hb
  replace GR1 := GR1.below (by decide) hb
  replace hB := tr hB hb (Nat.le_refl _)
  clear hb
  replace c_P0 := P0.cells
  replace c_W0 := W0.cells
  replace c_X0 := X0.cells
  replace c_Q0 := Q0.cells
  go_wp2_with fail
  refine (eqPacketS_c _ _ r1 FGR1 GU1 _ GR1 U1).mono ?_
  rintro e' w11 ⟨rfl, hb⟩
  have hs_w11 := hb.size
  replace P0 := P0.below hb
  replace W0 := W0.below hb
  replace X0 := X0.below hb
  replace Q0 := Q0.below hb
  replace A0 := A0.below hb
  replace U0 := U0.below hb
  replace U1 := U1.below (by decide) hb
  replace X0_ := X0_.below hb
  replace XR0 := XR0.below hb
  replace G0 := G0.below hb
  replace G1 := G1.below hb
  replace GR0 := GR0.below hb
  replace GR1 := GR1.below (by decide) hb
  replace hB := tr hB hb (Nat.le_refl _)
  clear hb
  replace c_P0 := P0.cells
  replace c_W0 := W0.cells
  replace c_X0 := X0.cells
  replace c_Q0 := Q0.cells
  go_wp2_with fail
  -- a region that draws its order
  have q0 := X0.cells 0
  have q1 := X0.cells 1
  have q2 := X0.cells 2
  have q3 := X0.cells 3
  have q4 := X0.cells 4
  have q5 := X0.cells 5
  have q6 := P0.cells 0
  have q7 := P0.cells 1
  have q8 := P0.cells 2
  have q9 := P0.cells 3
  have q10 := P0.cells 4
  have q11 := P0.cells 5
  simp only [List.getElem?_cons_zero, List.getElem?_cons_succ] at q0 q1 q2 q3 q4 q5 q6 q7 q8 q9 q10 q11
  go_region_held3 (fun w' => w'.cell? ⟨w6.heap.size, 0, none⟩ = some (.int .i64 x0.window.trail) ∧ w'.cell? ⟨w6.heap.size, 1, none⟩ = some (.int .i64 x0.window.size) ∧ w'.cell? ⟨w6.heap.size, 2, none⟩ = some (.slice x0a1 x0.window.items.length x0c1) ∧ w'.cell? ⟨w6.heap.size, 3, none⟩ = some (.int .i64 x0.clock) ∧ w'.cell? ⟨w6.heap.size, 4, none⟩ = some (.int .i64 x0.quiet) ∧ w'.cell? ⟨w6.heap.size, 5, none⟩ = some (.slice x0a2 x0.holds.length x0c2) ∧ w'.cell? ⟨w.heap.size, 0, none⟩ = some (.int .i64 x0.window.trail) ∧ w'.cell? ⟨w.heap.size, 1, none⟩ = some (.int .i64 x0.window.size) ∧ w'.cell? ⟨w.heap.size, 2, none⟩ = some (.slice p0a1 x0.window.items.length p0c1) ∧ w'.cell? ⟨w.heap.size, 3, none⟩ = some (.int .i64 x0.clock) ∧ w'.cell? ⟨w.heap.size, 4, none⟩ = some (.int .i64 x0.quiet) ∧ w'.cell? ⟨w.heap.size, 5, none⟩ = some (.slice p0a2 x0.holds.length p0c2))
    (first | go_keep | (exact ⟨(kc hb1 (kc hb0 q0)), (kc hb1 (kc hb0 q1)), (kc hb1 (kc hb0 q2)), (kc hb1 (kc hb0 q3)), (kc hb1 (kc hb0 q4)), (kc hb1 (kc hb0 q5)), (kc hb1 (kc hb0 q6)), (kc hb1 (kc hb0 q7)), (kc hb1 (kc hb0 q8)), (kc hb1 (kc hb0 q9)), (kc hb1 (kc hb0 q10)), (kc hb1 (kc hb0 q11))⟩) | (exact ⟨(kc hb0 q0), (kc hb0 q1), (kc hb0 q2), (kc hb0 q3), (kc hb0 q4), (kc hb0 q5), (kc hb0 q6), (kc hb0 q7), (kc hb0 q8), (kc hb0 q9), (kc hb0 q10), (kc hb0 q11)⟩) | (exact ⟨q0, q1, q2, q3, q4, q5, q6, q7, q8, q9, q10, q11⟩))
    (first
      | (go_at_call 73; refine (toSource_c _ x0 F0 w11.drew (A0.drewN 1) hw0).mono ?_; rintro e' w12 ⟨t0v, KT0, rfl, T0, -, -, hb0⟩; obtain ⟨KT0', -, TR0⟩ := T0.weak weak_Source)
      | (go_at_call 75; refine (eqSource_c _ _ x0 FX0' KT0' w12 ((XR0.drewN 1).below hb0) TR0).mono ?_; rintro e' w13 ⟨rfl, hb1⟩)
    )
  have hb : Below w11.heap.size w11 w13 := (tr (tr (belowDrewN (Below.refl w11.heap.size w11) 1) hb0 (Nat.le_refl _)) hb1 (Nat.le_refl _))
  have hs_w13 := hb.size
  replace P0 := P0.below hb
  replace W0 := W0.below hb
  replace X0 := X0.below hb
  replace Q0 := Q0.below hb
  replace A0 := A0.below hb
  replace U0 := U0.below hb
  replace U1 := U1.below (by decide) hb
  replace X0_ := X0_.below hb
  replace XR0 := XR0.below hb
  replace G0 := G0.below hb
  replace G1 := G1.below hb
  replace GR0 := GR0.below hb
  replace GR1 := GR1.below (by decide) hb
  replace hB := tr hB hb (Nat.le_refl _)
  clear hb hb0 hb1
  replace c_P0 := P0.cells
  replace c_W0 := W0.cells
  replace c_X0 := X0.cells
  replace c_Q0 := Q0.cells
  go_wp2_with fail
  clear XR0
  have hc0 := cvSource_wt x0 hw0
  refine (markSource_c _ x0 FX0 (1) _ X0_ nX0 (by omega) (by omega)).mono ?_
  rintro e' w14 ⟨rfl, Xm, K⟩
  have hs_w14 := K.size
  have l_ := lX0; have f_ := fX0
  replace P0 := P0.keepK K (fun hm => by have h1 := l_ _ hm; have h2 := f_ _ hm; omega)
  replace W0 := W0.keepK K (fun hm => by have h1 := l_ _ hm; have h2 := f_ _ hm; omega)
  replace X0 := X0.keepK K (fun hm => by have h1 := l_ _ hm; have h2 := f_ _ hm; omega)
  replace Q0 := Q0.keepK K (fun hm => by have h1 := l_ _ hm; have h2 := f_ _ hm; omega)
  replace A0 := A0.keep K (fun b hb hm => by have h1 := l_ _ hm; have h2 := f_ _ hm; have h3 := lA0 b hb; omega)
  replace U0 := U0.keep K (fun b hb hm => by have h1 := l_ _ hm; have h2 := f_ _ hm; have h3 := lU0 b hb; omega)
  replace U1 := U1.keep K (fun b hb hm => by have h1 := l_ _ hm; have h2 := f_ _ hm; have h3 := lU1 b hb; omega)
  replace G0 := G0.keep K (fun b hb hm => by have h1 := l_ _ hm; have h2 := f_ _ hm; have h3 := fG0 b hb; have h4 := lG0 b hb; omega)
  replace G1 := G1.keep K (fun b hb hm => by have h1 := l_ _ hm; have h2 := f_ _ hm; have h3 := fG1 b hb; have h4 := lG1 b hb; omega)
  replace GR0 := GR0.keep K (fun b hb hm => by have h1 := l_ _ hm; have h2 := f_ _ hm; have h3 := fG0 b (hFGR0 b hb); have h4 := lG0 b (hFGR0 b hb); omega)
  replace GR1 := GR1.keep K (fun b hb hm => by have h1 := l_ _ hm; have h2 := f_ _ hm; have h3 := fG1 b (hFGR1 b hb); have h4 := lG1 b (hFGR1 b hb); omega)
  replace hB := hB.trans (K.below (B := w.heap.size) (by omega) (fun b hb => by have h2 := f_ b hb; omega))
  clear K Xm X0_ l_ f_
  replace c_P0 := P0.cells
  replace c_W0 := W0.cells
  replace c_X0 := X0.cells
  replace c_Q0 := Q0.cells
  have hk0 : ¬ (1 + ((cvSource x0 : Nat) : Int)) < 0 := by omega
  go_wp2_with fail
  refine (eqSource_c _ _ r0 FGR0 GU0 _ GR0 U0).mono ?_
  rintro e' w15 ⟨rfl, hb⟩
  have hs_w15 := hb.size
  replace P0 := P0.below hb
  replace W0 := W0.below hb
  replace X0 := X0.below hb
  replace Q0 := Q0.below hb
  replace A0 := A0.below hb
  replace U0 := U0.below hb
  replace U1 := U1.below (by decide) hb
  replace G0 := G0.below hb
  replace G1 := G1.below hb
  replace GR0 := GR0.below hb
  replace GR1 := GR1.below (by decide) hb
  replace hB := tr hB hb (Nat.le_refl _)
  clear hb
  replace c_P0 := P0.cells
  replace c_W0 := W0.cells
  replace c_X0 := X0.cells
  replace c_Q0 := Q0.cells
  go_wp2_with fail
  refine (eqPacketS_c _ _ r1 FGR1 GU1 _ GR1 U1).mono ?_
  rintro e' w16 ⟨rfl, hb⟩
  have hs_w16 := hb.size
  replace P0 := P0.below hb
  replace W0 := W0.below hb
  replace X0 := X0.below hb
  replace Q0 := Q0.below hb
  replace A0 := A0.below hb
  replace U0 := U0.below hb
  replace U1 := U1.below (by decide) hb
  replace G0 := G0.below hb
  replace G1 := G1.below hb
  replace GR0 := GR0.below hb
  replace GR1 := GR1.below (by decide) hb
  replace hB := tr hB hb (Nat.le_refl _)
  clear hb
  replace c_P0 := P0.cells
  replace c_W0 := W0.cells
  replace c_X0 := X0.cells
  replace c_Q0 := Q0.cells
  go_wp2_with fail
  clear GR0
  clear GR1
  refine (markSource_c _ r0 FG0 (1) _ G0 nG0 (by omega) (by omega)).mono ?_
  rintro e' w17 ⟨rfl, M0, K⟩
  have hs_w17 := K.size
  have l_ := lG0; have f_ := fG0
  replace P0 := P0.keepK K (fun hm => by have h1 := l_ _ hm; have h2 := f_ _ hm; omega)
  replace W0 := W0.keepK K (fun hm => by have h1 := l_ _ hm; have h2 := f_ _ hm; omega)
  replace X0 := X0.keepK K (fun hm => by have h1 := l_ _ hm; have h2 := f_ _ hm; omega)
  replace Q0 := Q0.keepK K (fun hm => by have h1 := l_ _ hm; have h2 := f_ _ hm; omega)
  replace A0 := A0.keep K (fun b hb hm => by have h1 := l_ _ hm; have h2 := f_ _ hm; have h3 := lA0 b hb; omega)
  replace U0 := U0.keep K (fun b hb hm => by have h1 := l_ _ hm; have h2 := f_ _ hm; have h3 := lU0 b hb; omega)
  replace U1 := U1.keep K (fun b hb hm => by have h1 := l_ _ hm; have h2 := f_ _ hm; have h3 := lU1 b hb; omega)
  replace G1 := G1.keep K (fun b hb hm => by have h1 := l_ _ hm; have h2 := f_ _ hm; have h3 := fG1 b hb; have h4 := lG1 b hb; exact dG01 b (hm) b (hb) rfl)
  replace hB := hB.trans (K.below (B := w.heap.size) (by omega) (fun b hb => by have h2 := f_ b hb; omega))
  clear K G0 l_ f_
  obtain ⟨FM0, hFM0, M0⟩ := M0.weak weak_Source
  replace c_P0 := P0.cells
  replace c_W0 := W0.cells
  replace c_X0 := X0.cells
  replace c_Q0 := Q0.cells
  go_wp2_with fail
  refine (markPacketS_c _ r1 FG1 (1 + cvSource r0) _ G1 nG1 (by omega) (by omega)).mono ?_
  rintro e' w18 ⟨rfl, M1, K⟩
  have hs_w18 := K.size
  have l_ := lG1; have f_ := fG1
  replace P0 := P0.keepK K (fun hm => by have h1 := l_ _ hm; have h2 := f_ _ hm; omega)
  replace W0 := W0.keepK K (fun hm => by have h1 := l_ _ hm; have h2 := f_ _ hm; omega)
  replace X0 := X0.keepK K (fun hm => by have h1 := l_ _ hm; have h2 := f_ _ hm; omega)
  replace Q0 := Q0.keepK K (fun hm => by have h1 := l_ _ hm; have h2 := f_ _ hm; omega)
  replace A0 := A0.keep K (fun b hb hm => by have h1 := l_ _ hm; have h2 := f_ _ hm; have h3 := lA0 b hb; omega)
  replace U0 := U0.keep K (fun b hb hm => by have h1 := l_ _ hm; have h2 := f_ _ hm; have h3 := lU0 b hb; omega)
  replace U1 := U1.keep K (fun b hb hm => by have h1 := l_ _ hm; have h2 := f_ _ hm; have h3 := lU1 b hb; omega)
  replace M0 := M0.keep K (fun b hb hm => by have h1 := l_ _ hm; have h2 := f_ _ hm; have h3 := fG0 b (hFM0 b hb); have h4 := lG0 b (hFM0 b hb); exact dG01 b (hFM0 b hb) b (hm) rfl)
  replace hB := hB.trans (K.below (B := w.heap.size) (by omega) (fun b hb => by have h2 := f_ b hb; omega))
  clear K G1 l_ f_
  obtain ⟨FM1, hFM1, M1⟩ := M1.sl (Weak.refl _)
  replace c_P0 := P0.cells
  replace c_W0 := W0.cells
  replace c_X0 := X0.cells
  replace c_Q0 := Q0.cells
  go_wp2_with fail
  refine (heldSource_c _ r0 FM0 (1) _ M0 (by omega) (by omega)).mono ?_
  rintro e' w19 ⟨rfl, hb⟩
  have hs_w19 := hb.size
  replace P0 := P0.below hb
  replace W0 := W0.below hb
  replace X0 := X0.below hb
  replace Q0 := Q0.below hb
  replace A0 := A0.below hb
  replace U0 := U0.below hb
  replace U1 := U1.below (by decide) hb
  replace M0 := M0.below hb
  replace M1 := M1.below (by decide) hb
  replace hB := tr hB hb (Nat.le_refl _)
  clear hb
  replace c_P0 := P0.cells
  replace c_W0 := W0.cells
  replace c_X0 := X0.cells
  replace c_Q0 := Q0.cells
  have hk1 : ¬ (1 + ((cvSource r0 : Nat) : Int)) < 0 := by omega
  go_wp2_with fail
  clear hk1
  refine (heldPacketS_c _ r1 FM1 (1 + cvSource r0) _ M1 (by omega) (by omega)).mono ?_
  rintro e' w20 ⟨rfl, hb⟩
  have hs_w20 := hb.size
  replace P0 := P0.below hb
  replace W0 := W0.below hb
  replace X0 := X0.below hb
  replace Q0 := Q0.below hb
  replace A0 := A0.below hb
  replace U0 := U0.below hb
  replace U1 := U1.below (by decide) hb
  replace M0 := M0.below hb
  replace M1 := M1.below (by decide) hb
  replace hB := tr hB hb (Nat.le_refl _)
  clear hb
  replace c_P0 := P0.cells
  replace c_W0 := W0.cells
  replace c_X0 := X0.cells
  replace c_Q0 := Q0.cells
  have hk1 : ¬ (1 + ((cvSource r0 : Nat) : Int) + ((cntL cntPacket r1 : Nat) : Int)) < 0 := by omega
  have hk2 : ((1 + ((cvSource r0 : Nat) : Int) + ((cntL cntPacket r1 : Nat) : Int)) != 1 + ((cvSource r0 : Nat) : Int) + ((cntL cntPacket r1 : Nat) : Int)) = false := by simp
  go_wp2_with fail
  clear hk1 hk2
  -- a second call of the program
  refine (toSource_c _ x0 F0 _ A0 hw0).mono ?_
  rintro e' w21 ⟨s0v, Ks0, rfl, s0, -, -, hb⟩
  have hs_w21 := hb.size
  replace P0 := P0.below hb
  replace W0 := W0.below hb
  replace X0 := X0.below hb
  replace Q0 := Q0.below hb
  replace A0 := A0.below hb
  replace U0 := U0.below hb
  replace U1 := U1.below (by decide) hb
  replace M0 := M0.below hb
  replace M1 := M1.below (by decide) hb
  replace hB := tr hB hb (Nat.le_refl _)
  clear hb
  replace c_P0 := P0.cells
  replace c_W0 := W0.cells
  replace c_X0 := X0.cells
  replace c_Q0 := Q0.cells
  obtain ⟨Ks0', hKs0, s0⟩ := s0.weak weak_Source
  go_wp2_with fail
  refine (hI.out _ Ks0' _ s0).mono ?_
  rintro e' w22 ⟨h_0, FH0, h_1, FH1, rfl, H0, H1, -, -, hb⟩
  have hs_w22 := hb.size
  replace P0 := P0.below hb
  replace W0 := W0.below hb
  replace X0 := X0.below hb
  replace Q0 := Q0.below hb
  replace A0 := A0.below hb
  replace U0 := U0.below hb
  replace U1 := U1.below (by decide) hb
  replace M0 := M0.below hb
  replace M1 := M1.below (by decide) hb
  replace s0 := s0.below hb
  replace hB := tr hB hb (Nat.le_refl _)
  clear hb
  replace c_P0 := P0.cells
  replace c_W0 := W0.cells
  replace c_X0 := X0.cells
  replace c_Q0 := Q0.cells
  clear s0
  clear A0
  clear P0
  clear c_P0
  have H0' := H0
  obtain ⟨_, rfl, n0v1, n0v2, _, _, rfl, n0h1, n0h2, -⟩ := H0'
  obtain ⟨n0a1, n0c1, rfl⟩ := n0h1.slice
  obtain ⟨n0a2, n0c2, rfl⟩ := n0h2.slice
  clear n0h1 n0h2
  obtain ⟨n1a1, n1c1, rfl⟩ := H1.slice
  obtain ⟨FHR0, hFHR0, HR0⟩ := H0.weak weak_Source
  obtain ⟨FHR1, hFHR1, HR1⟩ := H1.sl (Weak.refl _)
  clear H0
  clear H1
  have d_W0 := fun o => (W0.alloc o).cells
  have d_X0 := fun o => (X0.alloc o).cells
  have d_Q0 := fun o => (Q0.alloc o).cells
  go_wp2_with fail
  clear d_W0 d_X0 d_Q0
  have al : Below w22.heap.size w22 (w22.alloc (.cells #[.int .i64 r0.window.trail, .int .i64 r0.window.size, .slice n0a1 r0.window.items.length n0c1, .int .i64 r0.clock, .int .i64 r0.quiet, .slice n0a2 r0.holds.length n0c2] 100)) := by
    repeat refine Below.alloc ?_ (by simp <;> omega) _
    exact Below.refl _ _
  have N0 := Row.made w22 100 [.int .i64 r0.window.trail, .int .i64 r0.window.size, .slice n0a1 r0.window.items.length n0c1, .int .i64 r0.clock, .int .i64 r0.quiet, .slice n0a2 r0.holds.length n0c2]
  have hs_w23 : w22.heap.size < (w22.alloc (.cells #[.int .i64 r0.window.trail, .int .i64 r0.window.size, .slice n0a1 r0.window.items.length n0c1, .int .i64 r0.clock, .int .i64 r0.quiet, .slice n0a2 r0.holds.length n0c2] 100)).heap.size := by simp
  replace W0 := W0.below al
  replace X0 := X0.below al
  replace Q0 := Q0.below al
  replace U0 := U0.below al
  replace U1 := U1.below (by decide) al
  replace M0 := M0.below al
  replace M1 := M1.below (by decide) al
  replace HR0 := HR0.below al
  replace HR1 := HR1.below (by decide) al
  replace hB := tr hB al (Nat.le_refl _)
  generalize (w22.alloc (.cells #[.int .i64 r0.window.trail, .int .i64 r0.window.size, .slice n0a1 r0.window.items.length n0c1, .int .i64 r0.clock, .int .i64 r0.quiet, .slice n0a2 r0.holds.length n0c2] 100)) = w23 at *
  clear al
  replace c_W0 := W0.cells
  replace c_X0 := X0.cells
  replace c_Q0 := Q0.cells
  have c_N0 := N0.cells
  refine (eqSource_c _ _ r0 FHR0 GU0 _ HR0 U0).mono ?_
  rintro e' w24 ⟨rfl, hb⟩
  have hs_w24 := hb.size
  replace W0 := W0.below hb
  replace X0 := X0.below hb
  replace Q0 := Q0.below hb
  replace N0 := N0.below hb
  replace U0 := U0.below hb
  replace U1 := U1.below (by decide) hb
  replace M0 := M0.below hb
  replace M1 := M1.below (by decide) hb
  replace HR0 := HR0.below hb
  replace HR1 := HR1.below (by decide) hb
  replace hB := tr hB hb (Nat.le_refl _)
  clear hb
  replace c_W0 := W0.cells
  replace c_X0 := X0.cells
  replace c_Q0 := Q0.cells
  replace c_N0 := N0.cells
  go_wp2_with fail
  refine (eqPacketS_c _ _ r1 FHR1 GU1 _ HR1 U1).mono ?_
  rintro e' w25 ⟨rfl, hb⟩
  have hs_w25 := hb.size
  replace W0 := W0.below hb
  replace X0 := X0.below hb
  replace Q0 := Q0.below hb
  replace N0 := N0.below hb
  replace U0 := U0.below hb
  replace U1 := U1.below (by decide) hb
  replace M0 := M0.below hb
  replace M1 := M1.below (by decide) hb
  replace HR0 := HR0.below hb
  replace HR1 := HR1.below (by decide) hb
  replace hB := tr hB hb (Nat.le_refl _)
  clear hb
  replace c_W0 := W0.cells
  replace c_X0 := X0.cells
  replace c_Q0 := Q0.cells
  replace c_N0 := N0.cells
  go_wp2_with fail
  clear HR0
  clear U0
  clear N0
  clear c_N0
  clear W0
  clear c_W0
  clear HR1
  clear U1
  refine (heldSource_c _ r0 FM0 (1) _ M0 (by omega) (by omega)).mono ?_
  rintro e' w26 ⟨rfl, hb⟩
  have hs_w26 := hb.size
  replace X0 := X0.below hb
  replace Q0 := Q0.below hb
  replace M0 := M0.below hb
  replace M1 := M1.below (by decide) hb
  replace hB := tr hB hb (Nat.le_refl _)
  clear hb
  replace c_X0 := X0.cells
  replace c_Q0 := Q0.cells
  have hk1 : ¬ (1 + ((cvSource r0 : Nat) : Int)) < 0 := by omega
  go_wp2_with fail
  clear hk1
  refine (heldPacketS_c _ r1 FM1 (1 + cvSource r0) _ M1 (by omega) (by omega)).mono ?_
  rintro e' w27 ⟨rfl, hb⟩
  have hs_w27 := hb.size
  replace X0 := X0.below hb
  replace Q0 := Q0.below hb
  replace M0 := M0.below hb
  replace M1 := M1.below (by decide) hb
  replace hB := tr hB hb (Nat.le_refl _)
  clear hb
  replace c_X0 := X0.cells
  replace c_Q0 := Q0.cells
  have hk1 : ¬ (1 + ((cvSource r0 : Nat) : Int) + ((cntL cntPacket r1 : Nat) : Int)) < 0 := by omega
  have hk2 : ((1 + ((cvSource r0 : Nat) : Int) + ((cntL cntPacket r1 : Nat) : Int)) != 1 + ((cvSource r0 : Nat) : Int) + ((cntL cntPacket r1 : Nat) : Int)) = false := by simp
  go_wp2_with fail
  clear hk1 hk2
  go_ret
  exact ⟨rfl, hB⟩
theorem reads_SendWindow : Reads Tryd.prog ESendWindow 93 := fun hh => by
  obtain ⟨y, F, hy⟩ := reads_struct (E := (EProd EInt (EProd EInt (EProd (ESl EStr (by decide)) EUnit)))) Tryd.underlying93 (by kernel_rfl) (.cons rfl (by kernel_rfl) (reads_int Tryd.underlying3) (.cons rfl (by kernel_rfl) (reads_int Tryd.underlying3) (.cons rfl (by kernel_rfl) (reads_slice Tryd.underlying24 (by kernel_rfl) (by decide) (reads_str Tryd.underlying9)) (.nil _)))) hh
  obtain ⟨_, _, _, _, rfl, rfl, ⟨rfl, rfl⟩, ⟨_, _, _, _, rfl, rfl, ⟨rfl, rfl⟩, ⟨_, _, _, _, rfl, rfl, ⟨u2, rfl, hs2⟩, ⟨rfl, rfl⟩⟩⟩⟩ := hy
  exact ⟨⟨y.1, y.2.1, y.2.2.1⟩, _, u2, rfl, by simpa using hs2⟩
theorem reads_Hold : Reads Tryd.prog EHold 198 := fun hh => by
  obtain ⟨y, F, hy⟩ := reads_struct (E := (EProd EInt (EProd EInt EUnit))) Tryd.underlying198 (by kernel_rfl) (.cons rfl (by kernel_rfl) (reads_int Tryd.underlying3) (.cons rfl (by kernel_rfl) (reads_int Tryd.underlying3) (.nil _))) hh
  obtain ⟨_, _, _, _, rfl, rfl, ⟨rfl, rfl⟩, ⟨_, _, _, _, rfl, rfl, ⟨rfl, rfl⟩, ⟨rfl, rfl⟩⟩⟩ := hy
  exact ⟨⟨y.1, y.2.1⟩, [], rfl, rfl⟩
theorem reads_Source : Reads Tryd.prog ESource 96 := fun hh => by
  obtain ⟨y, F, hy⟩ := reads_struct (E := (EProd ESendWindow (EProd EInt (EProd EInt (EProd (ESl EHold (by decide)) EUnit))))) Tryd.underlying96 (by kernel_rfl) (.cons rfl (by kernel_rfl) reads_SendWindow (.cons rfl (by kernel_rfl) (reads_int Tryd.underlying3) (.cons rfl (by kernel_rfl) (reads_int Tryd.underlying3) (.cons rfl (by kernel_rfl) (reads_slice Tryd.underlying94 (by kernel_rfl) (by decide) reads_Hold) (.nil _))))) hh
  obtain ⟨_, _, _, _, rfl, rfl, ⟨u0_0, rfl, hs0_0⟩, ⟨_, _, _, _, rfl, rfl, ⟨rfl, rfl⟩, ⟨_, _, _, _, rfl, rfl, ⟨rfl, rfl⟩, ⟨_, _, _, _, rfl, rfl, ⟨u3, rfl, hs3⟩, ⟨rfl, rfl⟩⟩⟩⟩⟩ := hy
  exact ⟨⟨y.1, y.2.1, y.2.2.1, y.2.2.2.1⟩, _, u0_0, u3, _, _, rfl, hs0_0, hs3, rfl⟩
set_option maxRecDepth 100000 in
theorem lifted_TickSource (os : Os) (started : os.Started) (H : Type) (enc : TypeId × Value → H) :
    ReturnsInHanded {} Tryd.checked os 7 .any (fun w args => (Rows.fnExactTickSourceSpec.pre enc Tryd.prog Tryd.f7 Rows.fnExactTickSourceRow.domain false w args ∧ laidMetH Tryd.prog Rows.fnExactTickSourceRow.laid w) ∧ sizedMet enc Tryd.prog Tryd.f7 (OpenSpec.ofChange Rows.fnExactTickSourceSpec) false w args)
      (Rows.fnExactTickSourceSpec.post enc Tryd.prog Tryd.f7 false true false false) := by
  refine returnsInHanded_of_change_and (C := Tryd.checked) (X := fun w _ => laidMetH Tryd.prog Rows.fnExactTickSourceRow.laid w) (fun _ _ _ hh h => h.of_heap hh) (by kernel_rfl) started (by kernel_rfl) Tryd.func7
    (ChangeSpec.witness_shaped (enc := enc) (C := Tryd.checked) (os := os) (X := fun w _ => laidMetH Tryd.prog Rows.fnExactTickSourceRow.laid w) false (World.laidAll Tryd.prog os Rows.fnExactTickSourceRow.laid) #[.agg #[.int .i64 0, .int .i64 0, .slice none 0 0, .int .i64 0, .int .i64 0, .slice none 0 0]] 8 (World.laidAll_os _ _ _)
      (World.shaped_of_ZipB (by kernel_rfl) (by kernel_rfl)) (by kernel_rfl) (by kernel_rfl) (by kernel_rfl)
      (by rw [MakeChecks.laidMetH_plain _ _ _ (by kernel_rfl)]; exact laidMet_laidAll _ (by kernel_rfl) (by kernel_rfl))) ?_
  intro W base args ds gs before hval0 hW hc_ _ hL _
  have hval : ∀ (j : Nat) t v, Tryd.f7.params[j]? = some t → args[j]? = some v → Value.okWide Tryd.prog W .any base t v := hval0
  have hW' := hW
  obtain ⟨p, q, hA0, hV, rfl, hfz, hnd⟩ := hW
  have hA : DataW.TrodAll enc Tryd.prog W 0 (fun _ => true) true Tryd.f7.params.toList args.toList ds p := hA0
  rw [Tryd.params7] at hA hval
  obtain ⟨v0, d0, rfl, rfl, h0⟩ := trodAll_one hA
  obtain ⟨cs0, rfl, hsz0⟩ := okWide_struct Tryd.underlying96 (hval 0 96 v0 rfl rfl)
  obtain ⟨fuel0, hf0⟩ := h0
  obtain ⟨x0, F0, hx0⟩ := reads_Source hf0
  refine (law_TickSource _ x0 F0 W ⟨cs0.toList, by simp, by simpa [Value.cells] using hx0⟩).mono fun e W' ⟨he, hB⟩ => ⟨_, he, law_post (tb := 4) (by kernel_rfl) ?_ Tryd.underlying4 (by kernel_rfl) rfl rfl hW' hB⟩
  rw [Tryd.params7]
  simp only [List.mem_cons, List.not_mem_nil, or_false, forall_eq]
  exact ⟨by kernel_rfl, of_decide_eq_true (by kernel_rfl)⟩
theorem holds_TickSource : Rows.FnExactTickSourceSaid :=
  OpenClaim.holds_of_wide 7 Tryd.f7 rfl rfl rfl rfl rfl rfl rfl ⟨rfl, rfl, rfl, rfl, rfl⟩ rfl rfl rfl rfl rfl (by kernel_rfl) Tryd.func7 (by kernel_rfl)
    (of_decide_eq_true (by kernel_rfl)) (by unfold Func.isWrapper; first | (rw [if_pos (by decide +kernel)]; kernel_rfl) | (rw [if_neg (by decide +kernel)]; exact ⟨rfl, rfl⟩))
    (fun os started H enc _ => lifted_TickSource os started H enc)
/-- no parameter wants a stand-in; the looks are off -/
theorem plain_TickSource (f : FuncId) (fn : Func) (hf : Tryd.pinned.checked.prog.funcNamed "loop.example/g00840/laws.FnExactTickSource" = some f) (hfn : Tryd.pinned.checked.prog.funcs[f]? = some fn) :
    false = Tryd.pinned.checked.prog.looks [] ∧ ∀ (j : Nat) t, fn.params[j]? = some t → Tryd.pinned.checked.prog.wantsStandIn t = false := by
  obtain rfl : f = 7 := Option.some.inj ((show Tryd.prog.funcNamed "loop.example/g00840/laws.FnExactTickSource" = some 7 by kernel_rfl).symm.trans hf) |>.symm
  obtain rfl : fn = Tryd.f7 := (Option.some.inj (Tryd.func7.symm.trans hfn)).symm
  refine ⟨by kernel_rfl, fun j t ht => ?_⟩
  rw [Tryd.params7] at ht
  have hm : t ∈ [96] := by simpa using Array.mem_of_getElem? ht
  have hall : ([96].all fun u => !Tryd.prog.wantsStandIn u) = true := by kernel_rfl
  exact (show Tryd.prog.wantsStandIn t = false by simpa using List.all_eq_true.1 hall t hm)
theorem card_TickSource : Rows.FnExactTickSourceCardSaid :=
  Claim7.holds_tied_plain_at .later [] _ _ _ _ holds_TickSource (fun _ h => by cases h) (by kernel_rfl) (fun _ h => by cases h) fnExactTickSource_row_tie rfl ⟨rfl, rfl⟩ (by kernel_rfl) rfl plain_TickSource (by kernel_rfl)
end Go.Proofs.YtidephmobajikaaDoor
