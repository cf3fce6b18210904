/- The walk of the law FnExactSendFrom. Written by wip/genlaw.py. -/
import Derived.Test.YtkcajnpdmgafjaaDoorCSendFrom
import Derived.Test.YtkcajnpdmgafjaaDoorLaw
import Derived.Test.YtkcajnpdmgafjaaDoorLaw2
namespace Go.Proofs.YtkcajnpdmgafjaaDoor
open Go.RowKit Go.ChangeShapes Go.WideShapes Go.ChangeAt
set_option maxHeartbeats 8000000 in
set_option maxRecDepth 100000 in
theorem law_SendFrom (v0 : Value) (x0 : Source) (F0 : List Nat) (x1 : ByteArray) (w : World) (h0 : IsV ESource w v0 x0 F0) (h1 : x1.size ≤ maxLen) :
    Calls Tryd.prog 13 #[v0, .string x1] w fun e' w' => e' = .returned (.bool true) ∧ Below w.heap.size w w' := by
  have hS := fun v0 F0 (w : World) (h0 : IsV ESource w v0 x0 F0) => specSendFrom_c v0 x0 F0 x1 w h0 h1
  have hI := fun v0 F0 (w : World) (h0 : IsV ESource w v0 x0 F0) => SendFrom_c v0 x0 F0 x1 w h0 h1
  have hV := resSendFrom_cv x0 x1
  generalize resSendFrom x0 x1 = r at *
  obtain ⟨r0, r1, r2⟩ := r
  try dsimp only at hS hI hV
  replace hS := Lib.hid hS; replace hI := Lib.hid hI; replace hV := Lib.hid hV
  have A0 := h0
  have lA0 := h0.lt
  clear h0
  have A0' := A0
  obtain ⟨_, rfl, p0v1, p0v2, _, _, rfl, p0h1, p0h2, -⟩ := A0'
  obtain ⟨p0a1, p0c1, rfl⟩ := p0h1.slice
  obtain ⟨p0a2, p0c2, rfl⟩ := p0h2.slice
  clear p0h1 p0h2
  have hm1 := h1; unfold maxLen at hm1
  by_cases hz1 : 1048576 < x1.size
  · go_enter Tryd.func13, Tryd.ntmps13
    go_wp2
    go_ret
    exact ⟨rfl, by repeat (first | exact Below.refl _ _ | refine Below.alloc ?_ (by simp <;> omega) _)⟩
  go_enter Tryd.func13, Tryd.ntmps13
  go_wp2_with fail
  have al : Below w.heap.size w (w.alloc (.cells #[.int .i64 x0.window.trail, .int .i64 x0.window.size, .slice p0a1 x0.window.items.length p0c1, .int .i64 x0.clock, .int .i64 x0.quiet, .slice p0a2 x0.holds.length p0c2] 121)) := by
    repeat refine Below.alloc ?_ (by simp <;> omega) _
    exact Below.refl _ _
  have P0 := Row.made w 121 [.int .i64 x0.window.trail, .int .i64 x0.window.size, .slice p0a1 x0.window.items.length p0c1, .int .i64 x0.clock, .int .i64 x0.quiet, .slice p0a2 x0.holds.length p0c2]
  have hs_w1 : w.heap.size < (w.alloc (.cells #[.int .i64 x0.window.trail, .int .i64 x0.window.size, .slice p0a1 x0.window.items.length p0c1, .int .i64 x0.clock, .int .i64 x0.quiet, .slice p0a2 x0.holds.length p0c2] 121)).heap.size := by simp
  replace A0 := A0.below al
  have hB := al
  generalize (w.alloc (.cells #[.int .i64 x0.window.trail, .int .i64 x0.window.size, .slice p0a1 x0.window.items.length p0c1, .int .i64 x0.clock, .int .i64 x0.quiet, .slice p0a2 x0.holds.length p0c2] 121)) = w1 at *
  clear al
  have c_P0 := P0.cells
  refine (szSource_c _ x0 F0 (1048576) _ A0 (by omega) (by omega)).mono ?_
  rintro e' w2 ⟨rfl, hb⟩
  have hs_w2 := hb.size
  replace P0 := P0.below hb
  replace A0 := A0.below hb
  replace hB := tr hB hb (Nat.le_refl _)
  clear hb
  replace c_P0 := P0.cells
  rcases szr_or (1048576) (wtSource x0) with ⟨e1, l1⟩ | ⟨e1, l1⟩
  · simp only [e1]
    have z1 := Lib.hid e1; clear e1
    go_wp2_with fail
    go_ret
    exact ⟨rfl, hB⟩
  simp only [e1]
  have z0 := Lib.hid e1; clear e1
  have hw0 : wtSource x0 ≤ 1048576 := by omega
  go_wp2_with fail
  have hw1 : x1.size ≤ 1048576 := by omega
  have hV0 := hV.out hw0 hw1
  clear hV
  -- the reference
  refine (toSource_c _ x0 F0 _ A0 hw0).mono ?_
  rintro e' w3 ⟨y0v, Ky0, rfl, y0, -, -, hb⟩
  have hs_w3 := hb.size
  replace P0 := P0.below hb
  replace A0 := A0.below hb
  replace hB := tr hB hb (Nat.le_refl _)
  clear hb
  replace c_P0 := P0.cells
  obtain ⟨Ky0', hKy0, y0⟩ := y0.weak weak_Source
  go_wp2_with fail
  refine (hS.out _ Ky0' _ y0).mono ?_
  rintro e' w4 ⟨u0, GU0, u1, GU1, rfl, U0, U1, hb⟩
  have hs_w4 := hb.size
  replace P0 := P0.below hb
  replace A0 := A0.below hb
  replace y0 := y0.below hb
  replace hB := tr hB hb (Nat.le_refl _)
  clear hb
  replace c_P0 := P0.cells
  clear y0
  have lU0 := U0.lt
  have U0' := U0
  obtain ⟨_, rfl, u0v1, u0v2, _, _, rfl, u0h1, u0h2, -⟩ := U0'
  obtain ⟨u0a1, u0c1, rfl⟩ := u0h1.slice
  obtain ⟨u0a2, u0c2, rfl⟩ := u0h2.slice
  clear u0h1 u0h2
  have lU1 := U1.lt
  have U1' := U1
  obtain ⟨_, rfl, rfl, -, -⟩ := U1'
  have d_P0 := fun o => (P0.alloc o).cells
  have dd_P0 := fun o o' => ((P0.alloc o).alloc o').cells
  go_wp2_with fail
  clear d_P0 dd_P0
  have al : Below w4.heap.size w4 ((w4.alloc (.cells #[.int .i64 r0.window.trail, .int .i64 r0.window.size, .slice u0a1 r0.window.items.length u0c1, .int .i64 r0.clock, .int .i64 r0.quiet, .slice u0a2 r0.holds.length u0c2] 125)).alloc (.cells #[.int .i64 r1.kind, .int .i64 r1.number, .int .i64 r1.trail, .int .i64 r1.lead, .string r1.data] 83)) := by
    repeat refine Below.alloc ?_ (by simp <;> omega) _
    exact Below.refl _ _
  have W0 : Row ((w4.alloc (.cells #[.int .i64 r0.window.trail, .int .i64 r0.window.size, .slice u0a1 r0.window.items.length u0c1, .int .i64 r0.clock, .int .i64 r0.quiet, .slice u0a2 r0.holds.length u0c2] 125)).alloc (.cells #[.int .i64 r1.kind, .int .i64 r1.number, .int .i64 r1.trail, .int .i64 r1.lead, .string r1.data] 83)) (w4.heap.size) 125 [.int .i64 r0.window.trail, .int .i64 r0.window.size, .slice u0a1 r0.window.items.length u0c1, .int .i64 r0.clock, .int .i64 r0.quiet, .slice u0a2 r0.holds.length u0c2] := by simp [row_alloc] <;> omega
  have W1 : Row ((w4.alloc (.cells #[.int .i64 r0.window.trail, .int .i64 r0.window.size, .slice u0a1 r0.window.items.length u0c1, .int .i64 r0.clock, .int .i64 r0.quiet, .slice u0a2 r0.holds.length u0c2] 125)).alloc (.cells #[.int .i64 r1.kind, .int .i64 r1.number, .int .i64 r1.trail, .int .i64 r1.lead, .string r1.data] 83)) (w4.heap.size + 1) 83 [.int .i64 r1.kind, .int .i64 r1.number, .int .i64 r1.trail, .int .i64 r1.lead, .string r1.data] := by simp [row_alloc] <;> omega
  have hs_w5 : w4.heap.size + 1 < ((w4.alloc (.cells #[.int .i64 r0.window.trail, .int .i64 r0.window.size, .slice u0a1 r0.window.items.length u0c1, .int .i64 r0.clock, .int .i64 r0.quiet, .slice u0a2 r0.holds.length u0c2] 125)).alloc (.cells #[.int .i64 r1.kind, .int .i64 r1.number, .int .i64 r1.trail, .int .i64 r1.lead, .string r1.data] 83)).heap.size := by simp <;> omega
  replace P0 := P0.below al
  replace A0 := A0.below al
  replace U0 := U0.below al
  replace U1 := U1.below al
  replace hB := tr hB al (Nat.le_refl _)
  generalize ((w4.alloc (.cells #[.int .i64 r0.window.trail, .int .i64 r0.window.size, .slice u0a1 r0.window.items.length u0c1, .int .i64 r0.clock, .int .i64 r0.quiet, .slice u0a2 r0.holds.length u0c2] 125)).alloc (.cells #[.int .i64 r1.kind, .int .i64 r1.number, .int .i64 r1.trail, .int .i64 r1.lead, .string r1.data] 83)) = w5 at *
  clear al
  replace c_P0 := P0.cells
  have c_W0 := W0.cells
  have c_W1 := W1.cells
  refine (toSource_c _ x0 F0 _ A0 hw0).mono ?_
  rintro e' w6 ⟨x0v, FX0, rfl, X0_, nX0, fX0, hb⟩
  have hs_w6 := hb.size
  replace P0 := P0.below hb
  replace W0 := W0.below hb
  replace W1 := W1.below hb
  replace A0 := A0.below hb
  replace U0 := U0.below hb
  replace U1 := U1.below hb
  replace hB := tr hB hb (Nat.le_refl _)
  clear hb
  replace c_P0 := P0.cells
  replace c_W0 := W0.cells
  replace c_W1 := W1.cells
  have lX0 := X0_.lt
  have X0_' := X0_
  obtain ⟨_, rfl, x0v1, x0v2, _, _, rfl, x0h1, x0h2, -⟩ := X0_'
  obtain ⟨x0a1, x0c1, rfl⟩ := x0h1.slice
  obtain ⟨x0a2, x0c2, rfl⟩ := x0h2.slice
  clear x0h1 x0h2
  have d_P0 := fun o => (P0.alloc o).cells
  have d_W0 := fun o => (W0.alloc o).cells
  have d_W1 := fun o => (W1.alloc o).cells
  go_wp2_with fail
  clear d_P0 d_W0 d_W1
  have al : Below w6.heap.size w6 (w6.alloc (.cells #[.int .i64 x0.window.trail, .int .i64 x0.window.size, .slice x0a1 x0.window.items.length x0c1, .int .i64 x0.clock, .int .i64 x0.quiet, .slice x0a2 x0.holds.length x0c2] 125)) := by
    repeat refine Below.alloc ?_ (by simp <;> omega) _
    exact Below.refl _ _
  have X0 := Row.made w6 125 [.int .i64 x0.window.trail, .int .i64 x0.window.size, .slice x0a1 x0.window.items.length x0c1, .int .i64 x0.clock, .int .i64 x0.quiet, .slice x0a2 x0.holds.length x0c2]
  have hs_w7 : w6.heap.size < (w6.alloc (.cells #[.int .i64 x0.window.trail, .int .i64 x0.window.size, .slice x0a1 x0.window.items.length x0c1, .int .i64 x0.clock, .int .i64 x0.quiet, .slice x0a2 x0.holds.length x0c2] 125)).heap.size := by simp
  replace P0 := P0.below al
  replace W0 := W0.below al
  replace W1 := W1.below al
  replace A0 := A0.below al
  replace U0 := U0.below al
  replace U1 := U1.below al
  replace X0_ := X0_.below al
  replace hB := tr hB al (Nat.le_refl _)
  generalize (w6.alloc (.cells #[.int .i64 x0.window.trail, .int .i64 x0.window.size, .slice x0a1 x0.window.items.length x0c1, .int .i64 x0.clock, .int .i64 x0.quiet, .slice x0a2 x0.holds.length x0c2] 125)) = w7 at *
  clear al
  replace c_P0 := P0.cells
  replace c_W0 := W0.cells
  replace c_W1 := W1.cells
  have c_X0 := X0.cells
  -- the program
  obtain ⟨FX0', hFX0, XR0⟩ := X0_.weak weak_Source
  refine (hI.out _ FX0' _ XR0).mono ?_
  rintro e' w8 ⟨g0, FG0, g1, FG1, rfl, G0, G1, nG, fG, hb⟩
  have hs_w8 := hb.size
  replace P0 := P0.below hb
  replace W0 := W0.below hb
  replace W1 := W1.below hb
  replace X0 := X0.below hb
  replace A0 := A0.below hb
  replace U0 := U0.below hb
  replace U1 := U1.below hb
  replace X0_ := X0_.below hb
  replace XR0 := XR0.below hb
  replace hB := tr hB hb (Nat.le_refl _)
  clear hb
  replace c_P0 := P0.cells
  replace c_W0 := W0.cells
  replace c_W1 := W1.cells
  replace c_X0 := X0.cells
  have lG0 := G0.lt
  have fG0 : ∀ b ∈ FG0, w7.heap.size ≤ b := fun b hb => fG b (by simp [hb])
  have G0' := G0
  obtain ⟨_, rfl, g0v1, g0v2, _, _, rfl, g0h1, g0h2, -⟩ := G0'
  obtain ⟨g0a1, g0c1, rfl⟩ := g0h1.slice
  obtain ⟨g0a2, g0c2, rfl⟩ := g0h2.slice
  clear g0h1 g0h2
  have lG1 := G1.lt
  have fG1 : ∀ b ∈ FG1, w7.heap.size ≤ b := fun b hb => fG b (by simp [hb])
  have G1' := G1
  obtain ⟨_, rfl, rfl, -, -⟩ := G1'
  clear fG
  simp only [List.nodup_append] at nG
  obtain ⟨nG0, nG1, dG01⟩ := nG
  obtain ⟨FGR0, hFGR0, GR0⟩ := G0.weak weak_Source
  have GR1 := G1
  have hE2 : (r2 != r2) = false := by simp
  have d_P0 := fun o => (P0.alloc o).cells
  have d_W0 := fun o => (W0.alloc o).cells
  have d_W1 := fun o => (W1.alloc o).cells
  have d_X0 := fun o => (X0.alloc o).cells
  have dd_P0 := fun o o' => ((P0.alloc o).alloc o').cells
  have dd_W0 := fun o o' => ((W0.alloc o).alloc o').cells
  have dd_W1 := fun o o' => ((W1.alloc o).alloc o').cells
  have dd_X0 := fun o o' => ((X0.alloc o).alloc o').cells
  go_wp2_with fail
  clear d_P0 dd_P0 d_W0 dd_W0 d_W1 dd_W1 d_X0 dd_X0
  have al : Below w8.heap.size w8 ((w8.alloc (.cells #[.int .i64 r0.window.trail, .int .i64 r0.window.size, .slice g0a1 r0.window.items.length g0c1, .int .i64 r0.clock, .int .i64 r0.quiet, .slice g0a2 r0.holds.length g0c2] 125)).alloc (.cells #[.int .i64 r1.kind, .int .i64 r1.number, .int .i64 r1.trail, .int .i64 r1.lead, .string r1.data] 83)) := by
    repeat refine Below.alloc ?_ (by simp <;> omega) _
    exact Below.refl _ _
  have Q0 : Row ((w8.alloc (.cells #[.int .i64 r0.window.trail, .int .i64 r0.window.size, .slice g0a1 r0.window.items.length g0c1, .int .i64 r0.clock, .int .i64 r0.quiet, .slice g0a2 r0.holds.length g0c2] 125)).alloc (.cells #[.int .i64 r1.kind, .int .i64 r1.number, .int .i64 r1.trail, .int .i64 r1.lead, .string r1.data] 83)) (w8.heap.size) 125 [.int .i64 r0.window.trail, .int .i64 r0.window.size, .slice g0a1 r0.window.items.length g0c1, .int .i64 r0.clock, .int .i64 r0.quiet, .slice g0a2 r0.holds.length g0c2] := by simp [row_alloc] <;> omega
  have Q1 : Row ((w8.alloc (.cells #[.int .i64 r0.window.trail, .int .i64 r0.window.size, .slice g0a1 r0.window.items.length g0c1, .int .i64 r0.clock, .int .i64 r0.quiet, .slice g0a2 r0.holds.length g0c2] 125)).alloc (.cells #[.int .i64 r1.kind, .int .i64 r1.number, .int .i64 r1.trail, .int .i64 r1.lead, .string r1.data] 83)) (w8.heap.size + 1) 83 [.int .i64 r1.kind, .int .i64 r1.number, .int .i64 r1.trail, .int .i64 r1.lead, .string r1.data] := by simp [row_alloc] <;> omega
  have hs_w9 : w8.heap.size + 1 < ((w8.alloc (.cells #[.int .i64 r0.window.trail, .int .i64 r0.window.size, .slice g0a1 r0.window.items.length g0c1, .int .i64 r0.clock, .int .i64 r0.quiet, .slice g0a2 r0.holds.length g0c2] 125)).alloc (.cells #[.int .i64 r1.kind, .int .i64 r1.number, .int .i64 r1.trail, .int .i64 r1.lead, .string r1.data] 83)).heap.size := by simp <;> omega
  replace P0 := P0.below al
  replace W0 := W0.below al
  replace W1 := W1.below al
  replace X0 := X0.below al
  replace A0 := A0.below al
  replace U0 := U0.below al
  replace U1 := U1.below al
  replace X0_ := X0_.below al
  replace XR0 := XR0.below al
  replace G0 := G0.below al
  replace G1 := G1.below al
  replace GR0 := GR0.below al
  replace GR1 := GR1.below al
  replace hB := tr hB al (Nat.le_refl _)
  generalize ((w8.alloc (.cells #[.int .i64 r0.window.trail, .int .i64 r0.window.size, .slice g0a1 r0.window.items.length g0c1, .int .i64 r0.clock, .int .i64 r0.quiet, .slice g0a2 r0.holds.length g0c2] 125)).alloc (.cells #[.int .i64 r1.kind, .int .i64 r1.number, .int .i64 r1.trail, .int .i64 r1.lead, .string r1.data] 83)) = w9 at *
  clear al
  replace c_P0 := P0.cells
  replace c_W0 := W0.cells
  replace c_W1 := W1.cells
  replace c_X0 := X0.cells
  have c_Q0 := Q0.cells
  have c_Q1 := Q1.cells
  refine (eqSource_c _ _ r0 FGR0 GU0 _ GR0 U0).mono ?_
  rintro e' w10 ⟨rfl, hb⟩
  have hs_w10 := hb.size
  replace P0 := P0.below hb
  replace W0 := W0.below hb
  replace W1 := W1.below hb
  replace X0 := X0.below hb
  replace Q0 := Q0.below hb
  replace Q1 := Q1.below hb
  replace A0 := A0.below hb
  replace U0 := U0.below hb
  replace U1 := U1.below hb
  replace X0_ := X0_.below hb
  replace XR0 := XR0.below hb
  replace G0 := G0.below hb
  replace G1 := G1.below hb
  replace GR0 := GR0.below hb
  replace GR1 := GR1.below hb
  replace hB := tr hB hb (Nat.le_refl _)
  clear hb
  replace c_P0 := P0.cells
  replace c_W0 := W0.cells
  replace c_W1 := W1.cells
  replace c_X0 := X0.cells
  replace c_Q0 := Q0.cells
  replace c_Q1 := Q1.cells
  go_wp2_with fail
  refine (eqPacket_c _ _ r1 FG1 GU1 _ GR1 U1).mono ?_
  rintro e' w11 ⟨rfl, hb⟩
  have hs_w11 := hb.size
  replace P0 := P0.below hb
  replace W0 := W0.below hb
  replace W1 := W1.below hb
  replace X0 := X0.below hb
  replace Q0 := Q0.below hb
  replace Q1 := Q1.below hb
  replace A0 := A0.below hb
  replace U0 := U0.below hb
  replace U1 := U1.below hb
  replace X0_ := X0_.below hb
  replace XR0 := XR0.below hb
  replace G0 := G0.below hb
  replace G1 := G1.below hb
  replace GR0 := GR0.below hb
  replace GR1 := GR1.below hb
  replace hB := tr hB hb (Nat.le_refl _)
  clear hb
  replace c_P0 := P0.cells
  replace c_W0 := W0.cells
  replace c_W1 := W1.cells
  replace c_X0 := X0.cells
  replace c_Q0 := Q0.cells
  replace c_Q1 := Q1.cells
  go_wp2_with fail
  -- a region that draws its order
  have q0 := X0.cells 0
  have q1 := X0.cells 1
  have q2 := X0.cells 2
  have q3 := X0.cells 3
  have q4 := X0.cells 4
  have q5 := X0.cells 5
  have q6 := P0.cells 0
  have q7 := P0.cells 1
  have q8 := P0.cells 2
  have q9 := P0.cells 3
  have q10 := P0.cells 4
  have q11 := P0.cells 5
  simp only [List.getElem?_cons_zero, List.getElem?_cons_succ] at q0 q1 q2 q3 q4 q5 q6 q7 q8 q9 q10 q11
  go_region_held3 (fun w' => w'.cell? ⟨w6.heap.size, 0, none⟩ = some (.int .i64 x0.window.trail) ∧ w'.cell? ⟨w6.heap.size, 1, none⟩ = some (.int .i64 x0.window.size) ∧ w'.cell? ⟨w6.heap.size, 2, none⟩ = some (.slice x0a1 x0.window.items.length x0c1) ∧ w'.cell? ⟨w6.heap.size, 3, none⟩ = some (.int .i64 x0.clock) ∧ w'.cell? ⟨w6.heap.size, 4, none⟩ = some (.int .i64 x0.quiet) ∧ w'.cell? ⟨w6.heap.size, 5, none⟩ = some (.slice x0a2 x0.holds.length x0c2) ∧ w'.cell? ⟨w.heap.size, 0, none⟩ = some (.int .i64 x0.window.trail) ∧ w'.cell? ⟨w.heap.size, 1, none⟩ = some (.int .i64 x0.window.size) ∧ w'.cell? ⟨w.heap.size, 2, none⟩ = some (.slice p0a1 x0.window.items.length p0c1) ∧ w'.cell? ⟨w.heap.size, 3, none⟩ = some (.int .i64 x0.clock) ∧ w'.cell? ⟨w.heap.size, 4, none⟩ = some (.int .i64 x0.quiet) ∧ w'.cell? ⟨w.heap.size, 5, none⟩ = some (.slice p0a2 x0.holds.length p0c2))
    (first | go_keep | (exact ⟨(kc hb1 (kc hb0 q0)), (kc hb1 (kc hb0 q1)), (kc hb1 (kc hb0 q2)), (kc hb1 (kc hb0 q3)), (kc hb1 (kc hb0 q4)), (kc hb1 (kc hb0 q5)), (kc hb1 (kc hb0 q6)), (kc hb1 (kc hb0 q7)), (kc hb1 (kc hb0 q8)), (kc hb1 (kc hb0 q9)), (kc hb1 (kc hb0 q10)), (kc hb1 (kc hb0 q11))⟩) | (exact ⟨(kc hb0 q0), (kc hb0 q1), (kc hb0 q2), (kc hb0 q3), (kc hb0 q4), (kc hb0 q5), (kc hb0 q6), (kc hb0 q7), (kc hb0 q8), (kc hb0 q9), (kc hb0 q10), (kc hb0 q11)⟩) | (exact ⟨q0, q1, q2, q3, q4, q5, q6, q7, q8, q9, q10, q11⟩))
    (first
      | (go_at_call 107; refine (toSource_c _ x0 F0 w11.drew (A0.drewN 1) hw0).mono ?_; rintro e' w12 ⟨t0v, KT0, rfl, T0, -, -, hb0⟩; obtain ⟨KT0', -, TR0⟩ := T0.weak weak_Source)
      | (go_at_call 109; refine (eqSource_c _ _ x0 FX0' KT0' w12 ((XR0.drewN 1).below hb0) TR0).mono ?_; rintro e' w13 ⟨rfl, hb1⟩)
    )
  have hb : Below w11.heap.size w11 w13 := (tr (tr (belowDrewN (Below.refl w11.heap.size w11) 1) hb0 (Nat.le_refl _)) hb1 (Nat.le_refl _))
  have hs_w13 := hb.size
  replace P0 := P0.below hb
  replace W0 := W0.below hb
  replace W1 := W1.below hb
  replace X0 := X0.below hb
  replace Q0 := Q0.below hb
  replace Q1 := Q1.below hb
  replace A0 := A0.below hb
  replace U0 := U0.below hb
  replace U1 := U1.below hb
  replace X0_ := X0_.below hb
  replace XR0 := XR0.below hb
  replace G0 := G0.below hb
  replace G1 := G1.below hb
  replace GR0 := GR0.below hb
  replace GR1 := GR1.below hb
  replace hB := tr hB hb (Nat.le_refl _)
  clear hb hb0 hb1
  replace c_P0 := P0.cells
  replace c_W0 := W0.cells
  replace c_W1 := W1.cells
  replace c_X0 := X0.cells
  replace c_Q0 := Q0.cells
  replace c_Q1 := Q1.cells
  go_wp2_with fail
  clear XR0
  have hc0 := cvSource_wt x0 hw0
  refine (markSource_c _ x0 FX0 (1) _ X0_ nX0 (by omega) (by omega)).mono ?_
  rintro e' w14 ⟨rfl, Xm, K⟩
  have hs_w14 := K.size
  have l_ := lX0; have f_ := fX0
  replace P0 := P0.keepK K (fun hm => by have h1 := l_ _ hm; have h2 := f_ _ hm; omega)
  replace W0 := W0.keepK K (fun hm => by have h1 := l_ _ hm; have h2 := f_ _ hm; omega)
  replace W1 := W1.keepK K (fun hm => by have h1 := l_ _ hm; have h2 := f_ _ hm; omega)
  replace X0 := X0.keepK K (fun hm => by have h1 := l_ _ hm; have h2 := f_ _ hm; omega)
  replace Q0 := Q0.keepK K (fun hm => by have h1 := l_ _ hm; have h2 := f_ _ hm; omega)
  replace Q1 := Q1.keepK K (fun hm => by have h1 := l_ _ hm; have h2 := f_ _ hm; omega)
  replace A0 := A0.keep K (fun b hb hm => by have h1 := l_ _ hm; have h2 := f_ _ hm; have h3 := lA0 b hb; omega)
  replace U0 := U0.keep K (fun b hb hm => by have h1 := l_ _ hm; have h2 := f_ _ hm; have h3 := lU0 b hb; omega)
  replace U1 := U1.keep K (fun b hb hm => by have h1 := l_ _ hm; have h2 := f_ _ hm; have h3 := lU1 b hb; omega)
  replace G0 := G0.keep K (fun b hb hm => by have h1 := l_ _ hm; have h2 := f_ _ hm; have h3 := fG0 b hb; have h4 := lG0 b hb; omega)
  replace G1 := G1.keep K (fun b hb hm => by have h1 := l_ _ hm; have h2 := f_ _ hm; have h3 := fG1 b hb; have h4 := lG1 b hb; omega)
  replace GR0 := GR0.keep K (fun b hb hm => by have h1 := l_ _ hm; have h2 := f_ _ hm; have h3 := fG0 b (hFGR0 b hb); have h4 := lG0 b (hFGR0 b hb); omega)
  replace GR1 := GR1.keep K (fun b hb hm => by have h1 := l_ _ hm; have h2 := f_ _ hm; have h3 := fG1 b (hb); have h4 := lG1 b (hb); omega)
  replace hB := hB.trans (K.below (B := w.heap.size) (by omega) (fun b hb => by have h2 := f_ b hb; omega))
  clear K Xm X0_ l_ f_
  replace c_P0 := P0.cells
  replace c_W0 := W0.cells
  replace c_W1 := W1.cells
  replace c_X0 := X0.cells
  replace c_Q0 := Q0.cells
  replace c_Q1 := Q1.cells
  have hk0 : ¬ (1 + ((cvSource x0 : Nat) : Int)) < 0 := by omega
  go_wp2_with fail
  refine (eqSource_c _ _ r0 FGR0 GU0 _ GR0 U0).mono ?_
  rintro e' w15 ⟨rfl, hb⟩
  have hs_w15 := hb.size
  replace P0 := P0.below hb
  replace W0 := W0.below hb
  replace W1 := W1.below hb
  replace X0 := X0.below hb
  replace Q0 := Q0.below hb
  replace Q1 := Q1.below hb
  replace A0 := A0.below hb
  replace U0 := U0.below hb
  replace U1 := U1.below hb
  replace G0 := G0.below hb
  replace G1 := G1.below hb
  replace GR0 := GR0.below hb
  replace GR1 := GR1.below hb
  replace hB := tr hB hb (Nat.le_refl _)
  clear hb
  replace c_P0 := P0.cells
  replace c_W0 := W0.cells
  replace c_W1 := W1.cells
  replace c_X0 := X0.cells
  replace c_Q0 := Q0.cells
  replace c_Q1 := Q1.cells
  go_wp2_with fail
  refine (eqPacket_c _ _ r1 FG1 GU1 _ GR1 U1).mono ?_
  rintro e' w16 ⟨rfl, hb⟩
  have hs_w16 := hb.size
  replace P0 := P0.below hb
  replace W0 := W0.below hb
  replace W1 := W1.below hb
  replace X0 := X0.below hb
  replace Q0 := Q0.below hb
  replace Q1 := Q1.below hb
  replace A0 := A0.below hb
  replace U0 := U0.below hb
  replace U1 := U1.below hb
  replace G0 := G0.below hb
  replace G1 := G1.below hb
  replace GR0 := GR0.below hb
  replace GR1 := GR1.below hb
  replace hB := tr hB hb (Nat.le_refl _)
  clear hb
  replace c_P0 := P0.cells
  replace c_W0 := W0.cells
  replace c_W1 := W1.cells
  replace c_X0 := X0.cells
  replace c_Q0 := Q0.cells
  replace c_Q1 := Q1.cells
  go_wp2_with fail
  clear GR0
  clear GR1
  refine (markSource_c _ r0 FG0 (1) _ G0 nG0 (by omega) (by omega)).mono ?_
  rintro e' w17 ⟨rfl, M0, K⟩
  have hs_w17 := K.size
  have l_ := lG0; have f_ := fG0
  replace P0 := P0.keepK K (fun hm => by have h1 := l_ _ hm; have h2 := f_ _ hm; omega)
  replace W0 := W0.keepK K (fun hm => by have h1 := l_ _ hm; have h2 := f_ _ hm; omega)
  replace W1 := W1.keepK K (fun hm => by have h1 := l_ _ hm; have h2 := f_ _ hm; omega)
  replace X0 := X0.keepK K (fun hm => by have h1 := l_ _ hm; have h2 := f_ _ hm; omega)
  replace Q0 := Q0.keepK K (fun hm => by have h1 := l_ _ hm; have h2 := f_ _ hm; omega)
  replace Q1 := Q1.keepK K (fun hm => by have h1 := l_ _ hm; have h2 := f_ _ hm; omega)
  replace A0 := A0.keep K (fun b hb hm => by have h1 := l_ _ hm; have h2 := f_ _ hm; have h3 := lA0 b hb; omega)
  replace U0 := U0.keep K (fun b hb hm => by have h1 := l_ _ hm; have h2 := f_ _ hm; have h3 := lU0 b hb; omega)
  replace U1 := U1.keep K (fun b hb hm => by have h1 := l_ _ hm; have h2 := f_ _ hm; have h3 := lU1 b hb; omega)
  replace G1 := G1.keep K (fun b hb hm => by have h1 := l_ _ hm; have h2 := f_ _ hm; have h3 := fG1 b hb; have h4 := lG1 b hb; exact dG01 b (hm) b (hb) rfl)
  replace hB := hB.trans (K.below (B := w.heap.size) (by omega) (fun b hb => by have h2 := f_ b hb; omega))
  clear K G0 l_ f_
  obtain ⟨FM0, hFM0, M0⟩ := M0.weak weak_Source
  replace c_P0 := P0.cells
  replace c_W0 := W0.cells
  replace c_W1 := W1.cells
  replace c_X0 := X0.cells
  replace c_Q0 := Q0.cells
  replace c_Q1 := Q1.cells
  go_wp2_with fail
  clear G1
  refine (heldSource_c _ r0 FM0 (1) _ M0 (by omega) (by omega)).mono ?_
  rintro e' w18 ⟨rfl, hb⟩
  have hs_w18 := hb.size
  replace P0 := P0.below hb
  replace W0 := W0.below hb
  replace W1 := W1.below hb
  replace X0 := X0.below hb
  replace Q0 := Q0.below hb
  replace Q1 := Q1.below hb
  replace A0 := A0.below hb
  replace U0 := U0.below hb
  replace U1 := U1.below hb
  replace M0 := M0.below hb
  replace hB := tr hB hb (Nat.le_refl _)
  clear hb
  replace c_P0 := P0.cells
  replace c_W0 := W0.cells
  replace c_W1 := W1.cells
  replace c_X0 := X0.cells
  replace c_Q0 := Q0.cells
  replace c_Q1 := Q1.cells
  have hk1 : ¬ (1 + ((cvSource r0 : Nat) : Int)) < 0 := by omega
  have hk2 : ((1 + ((cvSource r0 : Nat) : Int)) != 1 + ((cvSource r0 : Nat) : Int)) = false := by simp
  go_wp2_with fail
  clear hk1 hk2
  -- a second call of the program
  refine (toSource_c _ x0 F0 _ A0 hw0).mono ?_
  rintro e' w19 ⟨s0v, Ks0, rfl, s0, -, -, hb⟩
  have hs_w19 := hb.size
  replace P0 := P0.below hb
  replace W0 := W0.below hb
  replace W1 := W1.below hb
  replace X0 := X0.below hb
  replace Q0 := Q0.below hb
  replace Q1 := Q1.below hb
  replace A0 := A0.below hb
  replace U0 := U0.below hb
  replace U1 := U1.below hb
  replace M0 := M0.below hb
  replace hB := tr hB hb (Nat.le_refl _)
  clear hb
  replace c_P0 := P0.cells
  replace c_W0 := W0.cells
  replace c_W1 := W1.cells
  replace c_X0 := X0.cells
  replace c_Q0 := Q0.cells
  replace c_Q1 := Q1.cells
  obtain ⟨Ks0', hKs0, s0⟩ := s0.weak weak_Source
  go_wp2_with fail
  refine (hI.out _ Ks0' _ s0).mono ?_
  rintro e' w20 ⟨h_0, FH0, h_1, FH1, rfl, H0, H1, -, -, hb⟩
  have hs_w20 := hb.size
  replace P0 := P0.below hb
  replace W0 := W0.below hb
  replace W1 := W1.below hb
  replace X0 := X0.below hb
  replace Q0 := Q0.below hb
  replace Q1 := Q1.below hb
  replace A0 := A0.below hb
  replace U0 := U0.below hb
  replace U1 := U1.below hb
  replace M0 := M0.below hb
  replace s0 := s0.below hb
  replace hB := tr hB hb (Nat.le_refl _)
  clear hb
  replace c_P0 := P0.cells
  replace c_W0 := W0.cells
  replace c_W1 := W1.cells
  replace c_X0 := X0.cells
  replace c_Q0 := Q0.cells
  replace c_Q1 := Q1.cells
  clear s0
  clear A0
  clear P0
  clear c_P0
  have H0' := H0
  obtain ⟨_, rfl, n0v1, n0v2, _, _, rfl, n0h1, n0h2, -⟩ := H0'
  obtain ⟨n0a1, n0c1, rfl⟩ := n0h1.slice
  obtain ⟨n0a2, n0c2, rfl⟩ := n0h2.slice
  clear n0h1 n0h2
  have H1' := H1
  obtain ⟨_, rfl, rfl, -, -⟩ := H1'
  obtain ⟨FHR0, hFHR0, HR0⟩ := H0.weak weak_Source
  have HR1 := H1
  clear H0
  clear H1
  have d_W0 := fun o => (W0.alloc o).cells
  have d_W1 := fun o => (W1.alloc o).cells
  have d_X0 := fun o => (X0.alloc o).cells
  have d_Q0 := fun o => (Q0.alloc o).cells
  have d_Q1 := fun o => (Q1.alloc o).cells
  have dd_W0 := fun o o' => ((W0.alloc o).alloc o').cells
  have dd_W1 := fun o o' => ((W1.alloc o).alloc o').cells
  have dd_X0 := fun o o' => ((X0.alloc o).alloc o').cells
  have dd_Q0 := fun o o' => ((Q0.alloc o).alloc o').cells
  have dd_Q1 := fun o o' => ((Q1.alloc o).alloc o').cells
  go_wp2_with fail
  clear d_W0 dd_W0 d_W1 dd_W1 d_X0 dd_X0 d_Q0 dd_Q0 d_Q1 dd_Q1
  have al : Below w20.heap.size w20 ((w20.alloc (.cells #[.int .i64 r0.window.trail, .int .i64 r0.window.size, .slice n0a1 r0.window.items.length n0c1, .int .i64 r0.clock, .int .i64 r0.quiet, .slice n0a2 r0.holds.length n0c2] 125)).alloc (.cells #[.int .i64 r1.kind, .int .i64 r1.number, .int .i64 r1.trail, .int .i64 r1.lead, .string r1.data] 83)) := by
    repeat refine Below.alloc ?_ (by simp <;> omega) _
    exact Below.refl _ _
  have N0 : Row ((w20.alloc (.cells #[.int .i64 r0.window.trail, .int .i64 r0.window.size, .slice n0a1 r0.window.items.length n0c1, .int .i64 r0.clock, .int .i64 r0.quiet, .slice n0a2 r0.holds.length n0c2] 125)).alloc (.cells #[.int .i64 r1.kind, .int .i64 r1.number, .int .i64 r1.trail, .int .i64 r1.lead, .string r1.data] 83)) (w20.heap.size) 125 [.int .i64 r0.window.trail, .int .i64 r0.window.size, .slice n0a1 r0.window.items.length n0c1, .int .i64 r0.clock, .int .i64 r0.quiet, .slice n0a2 r0.holds.length n0c2] := by simp [row_alloc] <;> omega
  have N1 : Row ((w20.alloc (.cells #[.int .i64 r0.window.trail, .int .i64 r0.window.size, .slice n0a1 r0.window.items.length n0c1, .int .i64 r0.clock, .int .i64 r0.quiet, .slice n0a2 r0.holds.length n0c2] 125)).alloc (.cells #[.int .i64 r1.kind, .int .i64 r1.number, .int .i64 r1.trail, .int .i64 r1.lead, .string r1.data] 83)) (w20.heap.size + 1) 83 [.int .i64 r1.kind, .int .i64 r1.number, .int .i64 r1.trail, .int .i64 r1.lead, .string r1.data] := by simp [row_alloc] <;> omega
  have hs_w21 : w20.heap.size + 1 < ((w20.alloc (.cells #[.int .i64 r0.window.trail, .int .i64 r0.window.size, .slice n0a1 r0.window.items.length n0c1, .int .i64 r0.clock, .int .i64 r0.quiet, .slice n0a2 r0.holds.length n0c2] 125)).alloc (.cells #[.int .i64 r1.kind, .int .i64 r1.number, .int .i64 r1.trail, .int .i64 r1.lead, .string r1.data] 83)).heap.size := by simp <;> omega
  replace W0 := W0.below al
  replace W1 := W1.below al
  replace X0 := X0.below al
  replace Q0 := Q0.below al
  replace Q1 := Q1.below al
  replace U0 := U0.below al
  replace U1 := U1.below al
  replace M0 := M0.below al
  replace HR0 := HR0.below al
  replace HR1 := HR1.below al
  replace hB := tr hB al (Nat.le_refl _)
  generalize ((w20.alloc (.cells #[.int .i64 r0.window.trail, .int .i64 r0.window.size, .slice n0a1 r0.window.items.length n0c1, .int .i64 r0.clock, .int .i64 r0.quiet, .slice n0a2 r0.holds.length n0c2] 125)).alloc (.cells #[.int .i64 r1.kind, .int .i64 r1.number, .int .i64 r1.trail, .int .i64 r1.lead, .string r1.data] 83)) = w21 at *
  clear al
  replace c_W0 := W0.cells
  replace c_W1 := W1.cells
  replace c_X0 := X0.cells
  replace c_Q0 := Q0.cells
  replace c_Q1 := Q1.cells
  have c_N0 := N0.cells
  have c_N1 := N1.cells
  refine (eqSource_c _ _ r0 FHR0 GU0 _ HR0 U0).mono ?_
  rintro e' w22 ⟨rfl, hb⟩
  have hs_w22 := hb.size
  replace W0 := W0.below hb
  replace W1 := W1.below hb
  replace X0 := X0.below hb
  replace Q0 := Q0.below hb
  replace Q1 := Q1.below hb
  replace N0 := N0.below hb
  replace N1 := N1.below hb
  replace U0 := U0.below hb
  replace U1 := U1.below hb
  replace M0 := M0.below hb
  replace HR0 := HR0.below hb
  replace HR1 := HR1.below hb
  replace hB := tr hB hb (Nat.le_refl _)
  clear hb
  replace c_W0 := W0.cells
  replace c_W1 := W1.cells
  replace c_X0 := X0.cells
  replace c_Q0 := Q0.cells
  replace c_Q1 := Q1.cells
  replace c_N0 := N0.cells
  replace c_N1 := N1.cells
  go_wp2_with fail
  refine (eqPacket_c _ _ r1 FH1 GU1 _ HR1 U1).mono ?_
  rintro e' w23 ⟨rfl, hb⟩
  have hs_w23 := hb.size
  replace W0 := W0.below hb
  replace W1 := W1.below hb
  replace X0 := X0.below hb
  replace Q0 := Q0.below hb
  replace Q1 := Q1.below hb
  replace N0 := N0.below hb
  replace N1 := N1.below hb
  replace U0 := U0.below hb
  replace U1 := U1.below hb
  replace M0 := M0.below hb
  replace HR0 := HR0.below hb
  replace HR1 := HR1.below hb
  replace hB := tr hB hb (Nat.le_refl _)
  clear hb
  replace c_W0 := W0.cells
  replace c_W1 := W1.cells
  replace c_X0 := X0.cells
  replace c_Q0 := Q0.cells
  replace c_Q1 := Q1.cells
  replace c_N0 := N0.cells
  replace c_N1 := N1.cells
  go_wp2_with fail
  clear HR0
  clear U0
  clear N0
  clear c_N0
  clear W0
  clear c_W0
  clear HR1
  clear U1
  clear N1
  clear c_N1
  clear W1
  clear c_W1
  refine (heldSource_c _ r0 FM0 (1) _ M0 (by omega) (by omega)).mono ?_
  rintro e' w24 ⟨rfl, hb⟩
  have hs_w24 := hb.size
  replace X0 := X0.below hb
  replace Q0 := Q0.below hb
  replace Q1 := Q1.below hb
  replace M0 := M0.below hb
  replace hB := tr hB hb (Nat.le_refl _)
  clear hb
  replace c_X0 := X0.cells
  replace c_Q0 := Q0.cells
  replace c_Q1 := Q1.cells
  have hk1 : ¬ (1 + ((cvSource r0 : Nat) : Int)) < 0 := by omega
  have hk2 : ((1 + ((cvSource r0 : Nat) : Int)) != 1 + ((cvSource r0 : Nat) : Int)) = false := by simp
  go_wp2_with fail
  clear hk1 hk2
  go_ret
  exact ⟨rfl, hB⟩
end Go.Proofs.YtkcajnpdmgafjaaDoor
