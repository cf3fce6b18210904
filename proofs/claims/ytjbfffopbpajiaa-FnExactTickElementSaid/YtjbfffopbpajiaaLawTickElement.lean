/- The law FnExactTickElement. -/
import Derived.Test.YtjbfffopbpajiaaElem6
import Derived.Test.YtjbfffopbpajiaaLaw
namespace Go.Proofs.Ytjbfffopbpajiaa
open Go.RowKit Go.ChangeShapes Go.WideShapes Go.ChangeAt
theorem IsV.keep {α : Type} {E : Elem α} {w w' : World} {v x F K} (h : IsV E w v x F) (hk : Keep K w w') (hd : ∀ b ∈ F, b ∉ K) : IsV E w' v x F := by
  obtain ⟨cs, hv, h⟩ := h; exact ⟨cs, hv, E.frame h fun b hb => hk.block b (E.lt h b hb) (hd b hb)⟩
theorem IsV.lt {α : Type} {E : Elem α} {w : World} {v x F} (h : IsV E w v x F) : ∀ b ∈ F, b < w.heap.size := by
  obtain ⟨cs, hv, h⟩ := h; exact E.lt h
theorem IsV.drewN {α : Type} {E : Elem α} {w : World} {v x F} (h : IsV E w v x F) (n : Nat) : IsV E (w.drewN n) v x F := by
  obtain ⟨cs, hv, h⟩ := h; exact ⟨cs, hv, E.frame h fun _ _ => rfl⟩
theorem cntL_wt {α : Type} (cnt wt : α → Nat) (C : Nat) (h : ∀ x, cnt x ≤ C * (1 + wt x)) : ∀ xs : List α, cntL cnt xs ≤ C * wtL wt xs
  | [] => by simp [cntL, wtL]
  | x :: r => by
    have := h x
    have := cntL_wt cnt wt C h r
    simp only [cntL, wtL, List.map_cons, List.sum_cons, List.length_cons, Nat.mul_add, Nat.mul_one] at *
    omega
theorem cntI_len (xs : List Int) : cntL cntI xs = xs.length := cntL_int xs
theorem cvElement_wt (x : Element) : cvElement x ≤ 2 * wtElement x := by
  unfold cvElement wtElement
  refine cntL_wt cntEntry wtEntry 2 (fun y => ?_) x.entries
  unfold cntEntry wtEntry
  rw [wtL_zero]
  simp only [cntI, cntL_int]; omega
theorem resTick_wt (e : Element) (h : wtElement e ≤ 1048576) : wtElement (resTick e) ≤ 1048576 := by
  unfold resTick
  split
  · unfold tickElement wtElement wtL at *
    have h1 := List.length_filter_le (fun x : Entry => !decide (x.untl ≤ e.clock + 1)) e.entries
    have h2 : ∀ (p : Entry → Bool) (xs : List Entry), ((xs.filter p).map wtEntry).sum ≤ (xs.map wtEntry).sum := fun p xs => by
      induction xs with
      | nil => simp
      | cons x r ih => rw [List.filter_cons]; split <;> simp <;> omega
    have h2 := h2 (fun x : Entry => !decide (x.untl ≤ e.clock + 1)) e.entries
    dsimp only at *
    omega
  · simp [wtElement, wtL]
set_option maxHeartbeats 4000000 in
theorem law_TickElement (v : Value) (e : Element) (F : List Nat) (w : World) (h : IsV EElement w v e F) :
    Calls Try.prog 4 #[v] w fun e' w' => e' = .returned (.bool true) ∧ Below w.heap.size w w' := by
  have A := h
  have hFA := h.lt
  obtain ⟨_, rfl, v1, rfl, h1⟩ := h
  obtain ⟨a, cap, rfl⟩ := h1.slice
  have hal := fun (W : World) (o : Obj) => (Below.refl W.heap.size W).alloc (Nat.le_refl _) o
  go_enter Try.func4, Try.ntmps4
  go_wp2_with fail
  refine (szElement_c _ e F _ _ (A.below (hal _ _)) (by omega) (by omega)).mono ?_
  rintro e' w1 ⟨rfl, hb1⟩
  have hB := tr (hal w _) hb1 (Nat.le_refl _)
  have R0 := Row.below (g := w.heap.size) (t := 31) (cs := [.int .i64 e.clock, .slice a e.entries.length cap]) (by simp [row_alloc]) hb1
  have A := A.below hB
  have c0 := R0.cells
  clear hb1 h1
  rcases szr_or 1048576 (wtElement e) with ⟨e1, l1⟩ | ⟨e1, l1⟩
  · simp only [e1]
    have z1 := Lib.hid e1; clear e1
    go_wp2_with fail
    go_ret
    exact ⟨rfl, hB⟩
  simp only [e1]
  have z1 := Lib.hid e1; clear e1
  have hwt : wtElement e ≤ 1048576 := by omega
  go_wp2_with fail
  -- w0, w1 := spec.TickElement(toElement(aE))
  refine (toElement_c _ e F _ A hwt).mono ?_
  rintro e' w2 ⟨y1, F1, rfl, Y1, -, -, hb2⟩
  have hB := tr hB hb2 (Nat.le_refl _)
  have R0 := R0.below hb2; have A := A.below hb2; have c0 := R0.cells
  clear hb2
  obtain ⟨F1', -, Y1⟩ := Y1.weak weak_Element
  go_wp2_with fail
  refine (specTickElement_c _ e F1' _ Y1).mono ?_
  rintro e' w3 ⟨u0, G0, rfl, U, hb3⟩
  have hB := tr hB hb3 (Nat.le_refl _)
  have R0 := R0.below hb3; have A := A.below hb3; have c0 := R0.cells
  have hU0 := U.lt
  have hs03 : w.heap.size < w3.heap.size := R0.lt
  clear hb3 Y1
  have U' := U
  obtain ⟨_, rfl, uv, rfl, us⟩ := U'
  obtain ⟨ua, uc, rfl⟩ := us.slice
  clear us
  have d0 := fun o => (R0.alloc o).cells
  go_wp2_with fail
  -- x0 := toElement(aE)
  refine (toElement_c _ e F _ (A.below (hal _ _)) hwt).mono ?_
  rintro e' w4 ⟨x0, FX, rfl, X, nX, fX, hb4⟩
  have hbb := tr (hal w3 _) hb4 (Nat.le_refl _)
  have R1 := Row.below (g := w3.heap.size) (t := 35) (cs := [.int .i64 (resTick e).clock, .slice ua (resTick e).entries.length uc]) (by simp [row_alloc]) hb4
  have hB := tr hB hbb (Nat.le_refl _)
  have R0 := R0.below hbb; have A := A.below hbb; have U := U.below hbb; have c0 := R0.cells; have c1 := R1.cells
  have hs34 : w3.heap.size < w4.heap.size := R1.lt
  clear hb4 hbb d0
  have X' := X
  obtain ⟨_, rfl, xv, rfl, xs⟩ := X'
  obtain ⟨xa, xc, rfl⟩ := xs.slice
  clear xs
  go_wp2_with fail
  -- g0, g1 := impl.TickElement(x0)
  obtain ⟨FX', hFX', Xr⟩ := X.weak weak_Element
  refine (TickElement_c _ e FX' _ (Xr.below (hal _ _))).mono ?_
  rintro e' w5 ⟨g0, FG, rfl, Gv, nG, fG, hb5⟩
  have hbb := tr (hal w4 _) hb5 (Nat.le_refl _)
  have R2 := Row.below (g := w4.heap.size) (t := 35) (cs := [.int .i64 e.clock, .slice xa e.entries.length xc]) (by simp [row_alloc]) hb5
  have hXl := X.lt
  have hs5 := hbb.size
  replace hB := tr hB hbb (Nat.le_refl _)
  replace R0 := R0.below hbb; replace A := A.below hbb; replace U := U.below hbb; replace R1 := R1.below hbb; replace X := X.below hbb; replace Xr := Xr.below hbb
  replace c0 := R0.cells; replace c1 := R1.cells; have c2 := R2.cells
  clear hb5 hbb
  have G' := Gv
  obtain ⟨_, rfl, gv, rfl, gs⟩ := G'
  obtain ⟨ga, gc, rfl⟩ := gs.slice
  clear gs
  obtain ⟨FG', hFG', Gr⟩ := Gv.weak weak_Element
  have d1 := fun o => (R1.alloc o).cells
  have hE : (okTick e != okTick e) = false := by simp
  go_wp2_with fail
  refine (eqElement_c _ _ (resTick e) FG' G0 _ (Gr.below (hal _ _)) (U.below (hal _ _))).mono ?_
  rintro e' w6 ⟨rfl, hb6⟩
  have hbb := tr (hal w5 _) hb6 (Nat.le_refl _)
  have R3 := Row.below (g := w5.heap.size) (t := 35) (cs := [.int .i64 (resTick e).clock, .slice ga (resTick e).entries.length gc]) (by simp [row_alloc]) hb6
  have hGl := Gv.lt
  have hs6 := hbb.size
  replace hB := tr hB hbb (Nat.le_refl _)
  replace R0 := R0.below hbb; replace A := A.below hbb; replace U := U.below hbb; replace R1 := R1.below hbb; replace X := X.below hbb; replace Xr := Xr.below hbb; replace R2 := R2.below hbb; replace Gv := Gv.below hbb; replace Gr := Gr.below hbb
  replace c0 := R0.cells; replace c1 := R1.cells; replace c2 := R2.cells; have c3 := R3.cells
  clear hb6 hbb d1
  go_wp2_with fail
  have q0 := R0.cells 0; have q1 := R0.cells 1; have q2 := R2.cells 0; have q3 := R2.cells 1
  simp only [List.getElem?_cons_zero, List.getElem?_cons_succ] at q0 q1 q2 q3
  go_region_held3 (fun w' => w'.cell? ⟨w.heap.size, 0, none⟩ = some (.int .i64 e.clock) ∧ w'.cell? ⟨w.heap.size, 1, none⟩ = some (.slice a e.entries.length cap) ∧ w'.cell? ⟨w4.heap.size, 0, none⟩ = some (.int .i64 e.clock) ∧ w'.cell? ⟨w4.heap.size, 1, none⟩ = some (.slice xa e.entries.length xc))
    (first | go_keep | (exact ⟨q0, q1, q2, q3⟩) | (exact ⟨kc hb8 (kc hb7 q0), kc hb8 (kc hb7 q1), kc hb8 (kc hb7 q2), kc hb8 (kc hb7 q3)⟩) | (exact ⟨kc hb7 q0, kc hb7 q1, kc hb7 q2, kc hb7 q3⟩))
    (first
      | (go_at_call 12; refine (toElement_c _ e F w6.drew (A.drewN 1) hwt).mono ?_; rintro e' w7 ⟨y2, F2, rfl, Y2, -, -, hb7⟩; obtain ⟨F2', -, Y2r⟩ := Y2.weak weak_Element)
      | (go_at_call 14; refine (eqElement_c _ _ e FX' F2' w7 ((Xr.drewN 1).below hb7) Y2r).mono ?_; rintro e' w8 ⟨rfl, hb8⟩))
  have hbb : Below w6.heap.size w6 w8 := tr (tr (belowDrewN (Below.refl w6.heap.size w6) 1) hb7 (Nat.le_refl _)) hb8 (Nat.le_refl _)
  replace hB := tr hB hbb (Nat.le_refl _)
  have hs8 := hbb.size
  replace R0 := R0.below hbb; replace A := A.below hbb; replace U := U.below hbb; replace R1 := R1.below hbb; replace X := X.below hbb; replace R2 := R2.below hbb; replace Gv := Gv.below hbb; replace Gr := Gr.below hbb; replace R3 := R3.below hbb
  clear hb7 hb8 hbb q0 q1 q2 q3 Xr Y2r
  replace c0 := R0.cells; replace c1 := R1.cells; replace c2 := R2.cells; replace c3 := R3.cells
  have hcv := cvElement_wt e
  have hcr := cvElement_wt (resTick e)
  have hrw := resTick_wt e hwt
  go_wp2_with fail
  -- k = markElement(x0, k)
  refine (markElement_c _ e FX 1 w8 X nX (by omega) (by omega)).mono ?_
  rintro e' w9 ⟨rfl, Xm, K⟩
  have hFXb : ∀ b ∈ FX, w3.heap.size + 1 ≤ b := fun b hb => by simpa using fX b hb
  have hFGb : ∀ b ∈ FG, w4.heap.size + 1 ≤ b := fun b hb => by simpa using fG b hb
  have hl4 : ∀ b ∈ FX, b < w4.heap.size := hXl
  have h34 : w3.heap.size < w4.heap.size := hs34
  have h03 : w.heap.size < w3.heap.size := hs03
  replace R0 := R0.keepK K (fun hm => by have := hFXb _ hm; omega)
  replace R1 := R1.keepK K (fun hm => by have := hFXb _ hm; omega)
  replace R2 := R2.keepK K (fun hm => by have := hl4 _ hm; omega)
  replace R3 := R3.keepK K (fun hm => by have := hl4 _ hm; omega)
  replace A := A.keep K (fun b hb hm => by have := hFXb _ hm; have := hFA b hb; omega)
  replace U := U.keep K (fun b hb hm => by have := hFXb _ hm; have := hU0 b hb; omega)
  replace Gv := Gv.keep K (fun b hb hm => by have := hl4 _ hm; have := hFGb b hb; omega)
  replace Gr := Gr.keep K (fun b hb hm => by have := hl4 _ hm; have := hFGb b (hFG' b hb); omega)
  replace hB := hB.trans (K.below (B := w.heap.size) (by omega) (fun b hb => by have := hFXb b hb; omega))
  have hs9 := K.size
  clear K Xm X
  replace c0 := R0.cells; replace c1 := R1.cells; replace c2 := R2.cells; replace c3 := R3.cells
  have hk0 : ¬ (1 + (cvElement e : Int)) < 0 := by omega
  go_wp2_with fail
  refine (eqElement_c _ _ (resTick e) FG' G0 _ Gr U).mono ?_
  rintro e' w10 ⟨rfl, hbb⟩
  replace hB := tr hB hbb (Nat.le_refl _)
  have hs10 := hbb.size
  replace R0 := R0.below hbb; replace A := A.below hbb; replace U := U.below hbb; replace R1 := R1.below hbb; replace Gv := Gv.below hbb; replace R3 := R3.below hbb
  clear Gr R2
  replace c0 := R0.cells; replace c1 := R1.cells; replace c3 := R3.cells
  clear hbb c2
  go_wp2_with fail
  -- m = markElement(g0, m)
  refine (markElement_c _ (resTick e) FG 1 w10 Gv nG (by omega) (by omega)).mono ?_
  rintro e' w11 ⟨rfl, Gm, K⟩
  have hl5 : ∀ b ∈ FG, b < w5.heap.size := hGl
  replace R0 := R0.keepK K (fun hm => by have := hFGb _ hm; omega)
  replace R1 := R1.keepK K (fun hm => by have := hFGb _ hm; omega)
  replace R3 := R3.keepK K (fun hm => by have := hl5 _ hm; omega)
  replace A := A.keep K (fun b hb hm => by have := hFGb _ hm; have := hFA b hb; omega)
  replace U := U.keep K (fun b hb hm => by have := hFGb _ hm; have := hU0 b hb; omega)
  replace hB := hB.trans (K.below (B := w.heap.size) (by omega) (fun b hb => by have := hFGb b hb; omega))
  clear K Gv
  obtain ⟨FM, -, Gm⟩ := Gm.weak weak_Element
  replace c0 := R0.cells; replace c1 := R1.cells; replace c3 := R3.cells
  go_wp2_with fail
  refine (heldElement_c _ (resTick e) FM 1 w11 Gm (by omega) (by omega)).mono ?_
  rintro e' w12 ⟨rfl, hbb⟩
  replace hB := tr hB hbb (Nat.le_refl _)
  replace R0 := R0.below hbb; replace A := A.below hbb; replace U := U.below hbb; replace R1 := R1.below hbb; replace Gm := Gm.below hbb; replace R3 := R3.below hbb
  replace c0 := R0.cells; replace c1 := R1.cells; replace c3 := R3.cells
  clear hbb
  have hm0 : ¬ (1 + (cvElement (resTick e) : Int)) < 0 := by omega
  have hm1 : ((1 + (cvElement (resTick e) : Int)) != 1 + (cvElement (resTick e) : Int)) = false := by simp
  go_wp2_with fail
  -- h0, h1 := impl.TickElement(toElement(aE))
  refine (toElement_c _ e F _ A hwt).mono ?_
  rintro e' w13 ⟨y3, F3, rfl, Y3, -, -, hbb⟩
  replace hB := tr hB hbb (Nat.le_refl _)
  replace U := U.below hbb; replace R1 := R1.below hbb; replace Gm := Gm.below hbb; replace R3 := R3.below hbb
  replace c1 := R1.cells; replace c3 := R3.cells
  clear hbb A R0 c0
  obtain ⟨F3', -, Y3⟩ := Y3.weak weak_Element
  go_wp2_with fail
  refine (TickElement_c _ e F3' _ Y3).mono ?_
  rintro e' w14 ⟨h0, FH, rfl, Hv, -, -, hbb⟩
  replace hB := tr hB hbb (Nat.le_refl _)
  replace U := U.below hbb; replace R1 := R1.below hbb; replace Gm := Gm.below hbb; replace R3 := R3.below hbb
  clear hbb Y3
  obtain ⟨FH', -, Hv⟩ := Hv.weak weak_Element
  have H' := Hv
  obtain ⟨_, rfl, hv, rfl, hs⟩ := H'
  obtain ⟨ha, hc, rfl⟩ := hs.slice
  clear hs
  replace c1 := R1.cells; replace c3 := R3.cells
  have d1 := fun o => (R1.alloc o).cells
  have d3 := fun o => (R3.alloc o).cells
  go_wp2_with fail
  refine (eqElement_c _ _ (resTick e) FH' G0 _ (Hv.below (hal _ _)) (U.below (hal _ _))).mono ?_
  rintro e' w15 ⟨rfl, hb15⟩
  have hbb := tr (hal w14 _) hb15 (Nat.le_refl _)
  replace hB := tr hB hbb (Nat.le_refl _)
  replace Gm := Gm.below hbb; replace R3 := R3.below hbb
  replace c3 := R3.cells
  clear hbb hb15 d1 d3 U R1 c1
  go_wp2_with fail
  refine (heldElement_c _ (resTick e) FM 1 w15 Gm (by omega) (by omega)).mono ?_
  rintro e' w16 ⟨rfl, hbb⟩
  replace hB := tr hB hbb (Nat.le_refl _)
  clear hbb
  go_wp2_with fail
  go_ret
  exact ⟨rfl, hB⟩
theorem reads_Ints : Reads Try.prog (ESl EInt (by decide)) 42 := reads_slice Try.underlying42 (by kernel_rfl) (by decide) (reads_int Try.underlying3)
theorem reads_Entry : Reads Try.prog EEntry 69 := fun hh => by
  obtain ⟨y, F, hy⟩ := reads_struct (E := EProd EInt (EProd (ESl EInt (by decide)) (EProd EInt EUnit))) Try.underlying69 (by kernel_rfl)
    (.cons rfl (by kernel_rfl) (reads_int Try.underlying3) (.cons rfl (by kernel_rfl) reads_Ints (.cons rfl (by kernel_rfl) (reads_int Try.underlying3) (.nil _)))) hh
  obtain ⟨_, _, _, _, rfl, rfl, ⟨rfl, rfl⟩, _, _, _, _, rfl, rfl, ⟨v, rfl, hs⟩, _, _, _, _, rfl, rfl, ⟨rfl, rfl⟩, rfl, rfl⟩ := hy
  exact ⟨⟨y.1, y.2.1, y.2.2.1⟩, _, v, rfl, by simpa using hs⟩
theorem reads_Element : Reads Try.prog EElement 31 := fun hh => by
  obtain ⟨y, F, hy⟩ := reads_struct (E := EProd EInt (EProd (ESl EEntry (by decide)) EUnit)) Try.underlying31 (by kernel_rfl)
    (.cons rfl (by kernel_rfl) (reads_int Try.underlying3) (.cons rfl (by kernel_rfl) (reads_slice Try.underlying29 (by kernel_rfl) (by decide) reads_Entry) (.nil _))) hh
  obtain ⟨_, _, _, _, rfl, rfl, ⟨rfl, rfl⟩, _, _, _, _, rfl, rfl, ⟨v, rfl, hs⟩, rfl, rfl⟩ := hy
  exact ⟨⟨y.1, y.2.1⟩, _, v, rfl, by simpa using hs⟩
set_option maxRecDepth 100000 in
theorem lifted_TickElement (os : Os) (started : os.Started) (H : Type) (enc : TypeId × Value → H) :
    ReturnsInHanded {} Try.checked os 4 .any (Rows.fnExactTickElementSpec.pre6 enc Try.prog Try.f4 Rows.fnExactTickElementRow.domain false) (Rows.fnExactTickElementSpec.post enc Try.prog Try.f4 false true false false) := by
  refine returnsInHanded_of_change (C := Try.checked) (by kernel_rfl) started (by kernel_rfl) Try.func4
    (ChangeSpec.witness6 (enc := enc) (C := Try.checked) false ⟨#[], #[.agg #[.int .i64 0, .slice none 0 0]], []⟩ 8 (by kernel_rfl) (by kernel_rfl) (by kernel_rfl) (by kernel_rfl)) ?_
  intro W base args ds gs before hval0 hW _ _
  have hval : ∀ (j : Nat) t v, Try.f4.params[j]? = some t → args[j]? = some v → Value.okWide Try.prog W .any base t v := hval0
  have hW' := hW
  obtain ⟨p, q, hA0, hV, rfl, hfz, hnd⟩ := hW
  have hA : DataW.TrodAll enc Try.prog W 0 (fun _ => true) true Try.f4.params.toList args.toList ds p := hA0
  rw [Try.params4] at hA hval
  obtain ⟨v0, d0, rfl, rfl, h0⟩ := trodAll_one hA
  obtain ⟨cs, rfl, hsz⟩ := okWide_struct Try.underlying31 (hval 0 31 v0 rfl rfl)
  obtain ⟨fuel, hf⟩ := h0
  obtain ⟨x, F, hx⟩ := reads_Element hf
  refine (law_TickElement _ x F W ⟨cs.toList, by simp, by simpa [Value.cells] using hx⟩).mono fun e W' ⟨he, hB⟩ => ⟨_, he, law_post (tb := 4) (by kernel_rfl) ?_ Try.underlying4 (by kernel_rfl) rfl rfl hW' hB⟩
  rw [Try.params4]
  simp only [List.mem_cons, List.not_mem_nil, or_false, forall_eq]
  exact ⟨by kernel_rfl, of_decide_eq_true (by kernel_rfl)⟩
theorem holds_TickElement : Rows.FnExactTickElementSaid :=
  OpenClaim.holds_of_wide 4 Try.f4 rfl rfl rfl rfl rfl rfl rfl ⟨rfl, rfl, rfl, rfl, rfl⟩ rfl rfl rfl rfl rfl (by kernel_rfl) Try.func4 (by kernel_rfl)
    (of_decide_eq_true (by kernel_rfl)) (by unfold Func.isWrapper; first | (rw [if_pos (by decide +kernel)]; kernel_rfl) | (rw [if_neg (by decide +kernel)]; exact ⟨rfl, rfl⟩))
    (fun os started H enc _ => lifted_TickElement os started H enc)
end Go.Proofs.Ytjbfffopbpajiaa
