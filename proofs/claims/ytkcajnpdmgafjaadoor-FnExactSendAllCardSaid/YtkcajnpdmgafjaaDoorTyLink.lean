/- The type Link of the exact laws: how it reads, how it is owned; the walks of its size, copy, equality, mark and held. Written by wip/gentypes.py. -/
import Derived.Test.YtkcajnpdmgafjaaDoorTStr
import Derived.Test.YtkcajnpdmgafjaaDoorTInt
namespace Go.Proofs.YtkcajnpdmgafjaaDoor
open Go.RowKit
structure Link where
  queue : List ByteArray
  fates : ByteArray
  used : Int
/-- read -/
def ELink : Elem Link where
  sz := 3
  rep w cs x F := ∃ v1, cs = [v1, .string x.fates, .int .i64 x.used] ∧ x.fates.size ≤ maxLen ∧ Sl EStr w v1 x.queue F
  len h := by obtain ⟨v1, rfl, s1, h1⟩ := h; rfl
  lt h := by obtain ⟨v1, rfl, s1, h1⟩ := h; exact h1.lt (by decide)
  frame h hF := by obtain ⟨v1, rfl, s1, h1⟩ := h; exact ⟨v1, rfl, s1, h1.frame hF⟩
theorem one_ELink : One ELink := fun h u hu => by
  obtain ⟨v1, rfl, s1, h1⟩ := h
  simp only [List.mem_cons, List.not_mem_nil, or_false] at hu
  rcases hu with rfl | rfl | rfl
  · exact h1.one
  · rfl
  · rfl
theorem info_Link : (Tryd.prog.info? 26).map (fun i => (i.zero, i.size, i.bytes)) = some (some (.agg #[.slice none 0 0, .string ⟨#[]⟩, .int .i64 0]), 3, 48) := by kernel_rfl
/-- owned -/
def OLink : Elem Link where
  sz := 3
  rep w cs x F := ∃ v1, cs = [v1, .string x.fates, .int .i64 x.used] ∧ x.fates.size ≤ maxLen ∧ Ow EStr 9 w v1 x.queue F
  len h := by obtain ⟨v1, rfl, s1, h1⟩ := h; rfl
  lt h := by obtain ⟨v1, rfl, s1, h1⟩ := h; exact h1.lt
  frame h hF := by obtain ⟨v1, rfl, s1, h1⟩ := h; exact ⟨v1, rfl, s1, h1.frame hF⟩
theorem one_OLink : One OLink := fun h u hu => by
  obtain ⟨v1, rfl, s1, h1⟩ := h
  simp only [List.mem_cons, List.not_mem_nil, or_false] at hu
  rcases hu with rfl | rfl | rfl
  · exact h1.one
  · rfl
  · rfl
theorem weak_Link : Weak OLink ELink := ⟨rfl, fun h => by
  obtain ⟨v1, rfl, s1, h1⟩ := h
  obtain ⟨G1, g1, k1⟩ := h1.sl (Weak.refl _)
  exact ⟨G1, g1, v1, rfl, s1, k1⟩⟩
def wtLink (x : Link) : Nat := wtL ByteArray.size x.queue + x.fates.size
def cntLink (x : Link) : Nat := (cntL cntS) x.queue + cntS x.fates + cntI x.used
def mkLink (k : Int) (x : Link) : Link := ⟨(markL mkS cntS) (k) x.queue, mkS (k + (cntL cntS) x.queue) x.fates, mkI (k + (cntL cntS) x.queue + cntS x.fates) x.used⟩
/-- the marks of a value: its slices alone -/
def cvLink (x : Link) : Nat := (cntL cntS) x.queue
def mvLink (k : Int) (x : Link) : Link := ⟨(markL mkS cntS) (k) x.queue, x.fates, x.used⟩
theorem cntLink_wt (x : Link) : cntLink x ≤ 2 * (1 + wtLink x) := by
  have h0 := cntL_wt cntS ByteArray.size 1 (fun x => by simp [cntS]) x.queue
  simp only [cntLink, wtLink, cntI, cntB, cntS]
  omega
theorem cvLink_wt (x : Link) (h : wtLink x ≤ 1048576) : cvLink x ≤ 4294967296 := by
  have h0 := cntL_wt cntS ByteArray.size 1 (fun x => by simp [cntS]) x.queue
  simp only [wtLink, cvLink] at h ⊢
  omega
theorem cntLinkS_wt (xs : List Link) (h : wtL wtLink xs ≤ 1048576) : cntL cntLink xs ≤ 4294967296 := by
  have := cntL_wt cntLink wtLink 2 cntLink_wt xs; omega
set_option maxHeartbeats 800000 in
theorem szLink_c (v : Value) (x : Link) (F : List Nat) (n : Int) (w : World) (h : IsV ELink w v x F) (h0 : 0 ≤ n) (h1 : n ≤ 1048576) :
    Calls Tryd.prog 14 #[v, .int .i64 n] w fun e w' => e = .returned (.int .i64 (szr n (wtLink x))) ∧ Below w.heap.size w w' := by
  obtain ⟨_, rfl, v1, rfl, s1, h1⟩ := h
  have hB0 : ∀ A : Obj, Below w.heap.size w (w.alloc A) := fun A => (Below.refl _ _).alloc (Nat.le_refl _) _
  unfold maxLen at s1
  unfold wtLink
  go_enter Tryd.func14, Tryd.ntmps14
  go_wp2_with fail
  refine (szStringS_c _ x.queue _ _ _ (h1.below (by decide) (hB0 _)) (by omega) (by omega)).mono ?_
  rintro e w1 ⟨rfl, hb1⟩
  have r0 := Row.below (g := w.heap.size) (t := 24) (cs := [v1, .string x.fates, .int .i64 x.used]) (by simp [row_alloc]) hb1
  have hB := tr (hB0 _) hb1 (Nat.le_refl _)
  have c0 := r0.cells
  clear hb1
  rcases szr_or (n) (wtL ByteArray.size x.queue) with ⟨e1, l1⟩ | ⟨e1, l1⟩
  · simp only [e1]
    have z1 := Lib.hid e1; clear e1
    go_wp2_with fail
    go_ret
    exact ⟨ret_int (szr_no (by omega)).symm, hB⟩
  simp only [e1]
  have z1 := Lib.hid e1; clear e1
  by_cases hr1 : n - (wtL ByteArray.size x.queue : Nat) < (x.fates.size : Nat)
  · have hq : n - (wtL ByteArray.size x.queue : Nat) - (x.fates.size : Nat) < 0 := by omega
    go_wp2_with fail
    go_ret
    exact ⟨ret_int (szr_no (by omega)).symm, hB⟩
  have hq1 : ¬ n - (wtL ByteArray.size x.queue : Nat) - (x.fates.size : Nat) < 0 := by omega
  go_wp2_with fail
  go_ret
  exact ⟨ret_int (by rw [szr_yes (by omega)]; all_goals omega), hB⟩
set_option maxHeartbeats 1600000 in
theorem toLink_c (v : Value) (x : Link) (F : List Nat) (w : World) (h : IsV ELink w v x F) (hl : wtLink x ≤ 1048576) :
    Calls Tryd.prog 16 #[v] w (RetV OLink x w) := by
  obtain ⟨_, rfl, v1, rfl, s1, h1⟩ := h
  unfold wtLink at hl
  have hB0 : ∀ A B C : Obj, Below w.heap.size w (((w.alloc A).alloc B).alloc C) := fun A B C => (((Below.refl _ _).alloc (Nat.le_refl _) _).alloc (by simp) _).alloc (by simp <;> omega) _
  go_enter Tryd.func16, Tryd.ntmps16
  go_wp2_with fail
  refine (toStringS_c _ x.queue _ _ (h1.below (by decide) (hB0 _ _ _)) (by omega)).mono ?_
  rintro e w1 ⟨y1, K1, rfl, o1, n1, g1, hb1⟩
  obtain ⟨d1, p1, rfl⟩ := o1.slice
  have l1 : ∀ b ∈ K1, b < w1.heap.size := o1.lt
  have r0 := Row.below (g := w.heap.size) (t := 24) (cs := [v1, .string x.fates, .int .i64 x.used]) (by simp [row_alloc] <;> omega) hb1
  have r1 := Row.below (g := w.heap.size + 1) (t := 26) (cs := [.slice none 0 0, .string ⟨#[]⟩, .int .i64 0]) (by simp [row_alloc] <;> omega) hb1
  have r2 := Row.below (g := w.heap.size + 1 + 1) (t := 26) (cs := [.slice none 0 0, .string ⟨#[]⟩, .int .i64 0]) (by simp [row_alloc] <;> omega) hb1
  have hB := tr (hB0 _ _ _) hb1 (Nat.le_refl _)
  have hs1 := hb1.size
  simp only [World.size_alloc] at hs1 g1
  clear hb1
  have c0 := r0.cells; have c1 := r1.cells; have c2 := r2.cells; have f1 := r1.frozens; have f2 := r2.frozens
  have o1_ := Lib.hid o1
  go_wp2_with fail
  refine bodyPost_ret (v := .agg #[.slice d1 x.queue.length p1, .string x.fates, .int .i64 x.used]) ?_ rfl ?_
  · simp [results, Tryd.results16, go_sem, c0, c1, c2, f1, f2]
  · refine ⟨_, K1, rfl, ⟨_, rfl, _, rfl, s1, ?_⟩, ?_, ?_, ?_⟩
    · repeat refine Ow.setFar ?_ (fun hm => by have := g1 _ hm; simp at this <;> omega) _
      exact o1
    · exact n1
    · intro b hb
      have := g1 b hb; omega
    · repeat refine Below.setCell ?_ (by simp <;> omega) _
      exact hB
set_option maxHeartbeats 1600000 in
theorem eqLink_c (va vb : Value) (x : Link) (Fa Fb : List Nat) (w : World) (ha : IsV ELink w va x Fa) (hb : IsV ELink w vb x Fb) :
    Calls Tryd.prog 18 #[va, vb] w fun e w' => e = .returned (.bool true) ∧ Below w.heap.size w w' := by
  obtain ⟨_, rfl, v1, rfl, s1, h1⟩ := ha
  obtain ⟨_, rfl, u1, rfl, t1, k1⟩ := hb
  have hB0 : ∀ A B : Obj, Below w.heap.size w ((w.alloc A).alloc B) := fun A B => ((Below.refl _ _).alloc (Nat.le_refl _) _).alloc (by simp) _
  have hE : ∀ z : Int, (z != z) = false := fun z => by simp
  go_enter Tryd.func18, Tryd.ntmps18
  go_wp2_with fail
  refine (eqStringS_c _ _ x.queue _ _ _ (h1.below (by decide) (hB0 _ _)) (k1.below (by decide) (hB0 _ _))).mono ?_
  rintro e w1 ⟨rfl, hb1⟩
  have r0 := Row.below (g := w.heap.size) (t := 26) (cs := [v1, .string x.fates, .int .i64 x.used]) (by simp [row_alloc] <;> omega) hb1
  have r1 := Row.below (g := w.heap.size + 1) (t := 26) (cs := [u1, .string x.fates, .int .i64 x.used]) (by simp [row_alloc] <;> omega) hb1
  have hB := tr (hB0 _ _) hb1 (Nat.le_refl _)
  clear hb1
  have c0 := r0.cells; have c1 := r1.cells
  go_wp2_with fail
  go_ret
  exact ⟨rfl, hB⟩
set_option maxHeartbeats 1600000 in
theorem markLink_c (v : Value) (x : Link) (F : List Nat) (k0 : Int) (w : World) (h : IsV OLink w v x F) (hn : F.Nodup) (p0 : 0 ≤ k0) (p1 : k0 + cvLink x ≤ 1099511627776) :
    Calls Tryd.prog 19 #[v, .int .i64 k0] w (RetMarkV OLink v (k0 + cvLink x) (mvLink k0 x) F w) := by
  have hlt : ∀ b ∈ F, b < w.heap.size := by obtain ⟨cs, -, hx⟩ := h; exact OLink.lt hx
  obtain ⟨_, rfl, v1, rfl, s1, h1⟩ := h
  unfold cvLink at p1 ⊢
  have hB0 : ∀ A : Obj, Below w.heap.size w (w.alloc A) := fun A => (Below.refl _ _).alloc (Nat.le_refl _) _
  have hw : w.heap.size ∉ F := fun e => by have := hlt _ e; omega
  have nF1 := hn
  have w1_ := hw
  go_enter Tryd.func19, Tryd.ntmps19
  go_wp2_with fail
  refine (markStringS_c _ x.queue _ (k0) _ (h1.below (hB0 _)) nF1 (by omega) (by omega)).mono ?_
  rintro e w1 ⟨rfl, o1, kp1⟩
  have r0 := Row.keepK (g := w.heap.size) (t := 26) (cs := [v1, .string x.fates, .int .i64 x.used]) (by simp [row_alloc]) kp1 w1_
  have KK : Keep F w w1 := (Keep.ofBelow (hB0 _)).trans (kp1.mono (fun b hb _ => hb))
  clear kp1
  have c0 := r0.cells
  go_wp2_with fail
  go_ret
  exact ⟨ret_int (by omega), ⟨_, rfl, _, rfl, s1, o1⟩, KK⟩
set_option maxHeartbeats 1600000 in
theorem heldLink_c (v : Value) (x : Link) (F : List Nat) (k0 : Int) (w : World) (h : IsV ELink w v (mvLink k0 x) F) (p0 : 0 ≤ k0) (p1 : k0 + cvLink x ≤ 1099511627776) :
    Calls Tryd.prog 20 #[v, .int .i64 k0] w fun e w' => e = .returned (.int .i64 (k0 + cvLink x)) ∧ Below w.heap.size w w' := by
  obtain ⟨_, rfl, v1, rfl, s1, h1⟩ := h
  unfold cvLink at p1 ⊢
  have hB0 : ∀ A : Obj, Below w.heap.size w (w.alloc A) := fun A => (Below.refl _ _).alloc (Nat.le_refl _) _
  go_enter Tryd.func20, Tryd.ntmps20
  go_wp2_with fail
  refine (heldStringS_c _ x.queue _ (k0) _ (h1.below (by decide) (hB0 _)) (by omega) (by omega)).mono ?_
  rintro e w1 ⟨rfl, hb1⟩
  have r0 := Row.below (g := w.heap.size) (t := 26) (cs := [v1, .string x.fates, .int .i64 x.used]) (by simp [row_alloc, mvLink]) hb1
  have hB := tr (hB0 _) hb1 (Nat.le_refl _)
  clear hb1
  have c0 := r0.cells
  go_wp2_with fail
  go_ret
  exact ⟨ret_int (by omega), hB⟩
end Go.Proofs.YtkcajnpdmgafjaaDoor
