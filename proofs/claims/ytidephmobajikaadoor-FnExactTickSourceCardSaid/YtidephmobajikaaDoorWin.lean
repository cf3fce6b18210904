/- Walks: the window of a source. -/
import Derived.Test.YtidephmobajikaaDoorItem
import Derived.Test.YtidephmobajikaaDoorTySendWindow
import Derived.Test.YtidephmobajikaaDoorLibString
import Derived.Test.YtidephmobajikaaDoorLaw2
import Derived.Test.YtidephmobajikaaDoorSub
namespace Go.Proofs.YtidephmobajikaaDoor
open Go.RowKit

def goodWin (x : SendWindow) : Bool := isSer x.trail && btw 1 x.size 6 && decide ((x.items.length : Int) ≤ x.size) && x.items.all itm
theorem goodWin_iff {x : SendWindow} : goodWin x = true ↔ (0 ≤ x.trail ∧ x.trail ≤ 65535) ∧ (1 ≤ x.size ∧ x.size ≤ 6) ∧ (x.items.length : Int) ≤ x.size ∧ x.items.all itm = true := by
  unfold goodWin
  simp only [Bool.and_eq_true, isSer_iff, btw, decide_eq_true_eq, and_assoc]
theorem areItems_1_c (s : ByteArray) (w : World) (hs : s.size ≤ maxLen) :
    Calls Tryd.prog 176 #[.string s] w fun e w' => e = .returned (.bool (!itm s)) ∧ Below w.heap.size w w' := by
  go_enter Tryd.func176, Tryd.ntmps176
  go_wp2_with fail
  refine (isItem_c s _ hs).mono ?_
  rintro e w1 ⟨rfl, hb⟩
  go_wp2_with fail
  go_ret
  exact ⟨rfl, hb⟩
theorem areItems_c (v : Value) (xs : List ByteArray) (F : List Nat) (w : World) (h : Sl EStr w v xs F) :
    Calls Tryd.prog 103 #[v] w fun e w' => e = .returned (.bool (xs.all itm)) ∧ Below w.heap.size w w' := by
  have hq : (!xs.any fun s => !itm s) = xs.all itm := by rw [List.not_any_eq_all_not]; simp
  replace hq := Lib.hid hq
  go_enter Tryd.func103, Tryd.ntmps103
  go_wp2_with fail
  refine (ContainsFunc_String _ (.mk' Tryd.func176 rfl rfl) _ _ xs F (fun s => !itm s) _ h ?_).mono ?_
  · rintro k hk wr u G hb ⟨_, rfl, hu⟩
    obtain ⟨hu, hsz, -⟩ := hu
    cases hu
    exact areItems_1_c _ _ hsz
  rintro e w1 ⟨rfl, hb⟩
  go_wp2_with fail
  go_ret
  exact ⟨ret_bool hq.out, hb⟩
set_option maxHeartbeats 800000 in
theorem IsValidSendWindow_c (v : Value) (x : SendWindow) (F : List Nat) (w : World) (h : IsV ESendWindow w v x F) :
    Calls Tryd.prog 14 #[v] w fun e w' => e = .returned (.bool (goodWin x)) ∧ Below w.heap.size w w' := by
  obtain ⟨_, rfl, v1, rfl, h1⟩ := h
  obtain ⟨a, c, rfl⟩ := h1.slice
  have hl := h1.len
  unfold maxLen at hl
  have hB0 : ∀ A : Obj, Below w.heap.size w (w.alloc A) := fun A => (Below.refl _ _).alloc (Nat.le_refl _) _
  go_enter Tryd.func14, Tryd.ntmps14
  go_wp2_with fail
  refine (IsSerial_c _ _).mono ?_
  rintro e w' ⟨rfl, rfl⟩
  cases g1 : isSer x.trail
  · go_wp2_with fail
    go_ret
    exact ⟨ret_bool (by simp [goodWin, g1]), hB0 _⟩
  go_wp2_with fail
  refine (within_c _ _ _ _).mono ?_
  rintro e w' ⟨rfl, rfl⟩
  cases g2 : btw 1 x.size 6
  · go_wp2_with fail
    go_ret
    exact ⟨ret_bool (by simp [goodWin, g2]), hB0 _⟩
  by_cases g3 : (x.items.length : Int) ≤ x.size
  · go_wp2_with fail
    refine (areItems_c _ x.items F _ (h1.below (by decide) (hB0 _))).mono ?_
    rintro e w1 ⟨rfl, hb⟩
    go_wp2_with fail
    go_ret
    exact ⟨ret_bool (by simp [goodWin, g1, g2, g3]), tr (hB0 _) hb (Nat.le_refl _)⟩
  · go_wp2_with fail
    go_ret
    exact ⟨ret_bool (by simp only [goodWin, decide_eq_false (show ¬ (x.items.length : Int) ≤ x.size by omega), Bool.and_false, Bool.false_and]), hB0 _⟩
set_option maxHeartbeats 800000 in
theorem SendWindow_clone_c (v : Value) (x : SendWindow) (F : List Nat) (w : World) (h : IsV ESendWindow w v x F) (hm : x.items.length ≤ 4294967296) :
    Calls Tryd.prog 96 #[v] w (RetV OSendWindow x w) := by
  obtain ⟨_, rfl, v1, rfl, h1⟩ := h
  obtain ⟨a, c, rfl⟩ := h1.slice
  have hB0 : ∀ A B : Obj, Below w.heap.size w ((w.alloc A).alloc B) := fun A B => ((Below.refl _ _).alloc (Nat.le_refl _) _).alloc (by simp) _
  go_enter Tryd.func96, Tryd.ntmps96
  go_wp2_with fail
  refine (Clone_String _ x.items F _ (h1.below (by decide) (hB0 _ _)) hm).mono ?_
  rintro e w1 ⟨v2, F2, rfl, o, n, g, hb⟩
  obtain ⟨a2, c2, rfl⟩ := o.slice
  have r0 := Row.below (g := w.heap.size) (t := 26) (cs := [.int .i64 x.trail, .int .i64 x.size, .slice a x.items.length c]) (by simp [row_alloc] <;> omega) hb
  have r1 := Row.below (g := w.heap.size + 1) (t := 26) (cs := [.int .i64 0, .int .i64 0, .slice none 0 0]) (by simp [row_alloc] <;> omega) hb
  have hB := tr (hB0 _ _) hb (Nat.le_refl _)
  have c0 := r0.cells; have f0 := r0.frozens
  have c1 := r1.cells; have f1 := r1.frozens
  clear hb
  replace o := Lib.hid o
  go_wp2_with fail
  refine bodyPost_ret (v := .agg #[.int .i64 x.trail, .int .i64 x.size, .slice a2 x.items.length c2]) ?_ rfl ?_
  · simp [results, Tryd.results96, go_sem, c0, c1, f1]
  · refine ⟨_, F2, rfl, ⟨_, rfl, _, rfl, ?_⟩, n, fun b hb => by have := g b hb; simp at this; omega, ?_⟩
    · repeat refine Ow.setFar ?_ (fun hm => by have := g _ hm; simp at this <;> omega) _
      exact o.out
    · repeat refine Below.setCell ?_ (by simp <;> omega) _
      exact hB
/-- a struct of some fields in a block: the cells from p on -/
def At {α : Type} (O : Elem α) (t : TypeId) (w : World) (g p : Nat) (A B : List Value) (x : α) (F : List Nat) : Prop :=
  ∃ c, Row w g t (A ++ c ++ B) ∧ A.length = p ∧ O.rep w c x F ∧ F.Nodup ∧ g ∉ F
/-- what a method leaves of the struct that its receiver points to: no result -/
def RetAt {α : Type} (O : Elem α) (t : TypeId) (g p : Nat) (A B : List Value) (x : α) (F : List Nat) (w : World) (e : Ending) (w' : World) : Prop :=
  (∃ u, e = .returned u) ∧ ∃ F', At O t w' g p A B x F' ∧ (∀ b ∈ F', b ∈ F ∨ w.heap.size ≤ b) ∧ Keep (g :: F) w w'
set_option maxHeartbeats 800000 in
theorem SendWindow_drop_c (x : SendWindow) (k : Nat) (t : TypeId) (g p : Nat) (A B : List Value) (F : List Nat) (w : World) (h : At OSendWindow t w g p A B x F) (hk : k ≤ x.items.length) (hm : x.items.length ≤ 4294967296) (ht : isSer x.trail = true) :
    Calls Tryd.prog 117 #[.pointer (some ⟨g, p, none⟩), .int .i64 k] w (RetAt OSendWindow t g p A B ⟨aft x.trail k, x.size, x.items.drop k⟩ F w) := by
  obtain ⟨_, hrow, hp, ⟨v1, rfl, ho⟩, hn, hg⟩ := h
  obtain ⟨a, c, rfl⟩ := ho.slice
  obtain ⟨F1, hF1, hs⟩ := ho.sl (Weak.refl _)
  have hs4 : ∀ W, (sizeOf (Tryd.prog.elem 24)).run Tryd.prog W = .ok 1 W := fun W => by kernel_rfl
  obtain ⟨a2, c2, F2, hsl, hF2, hs2⟩ := hs.dropS 24 (by kernel_rfl) k hk hs4
  have z0 := hrow.cellMid (p := p) (j := 0) (by omega) (by simp)
  have z2 := hrow.cellMid (p := p + 2) (j := 2) (by omega) (by simp)
  have zf := hrow.frozens
  simp only [List.getElem?_cons_zero, List.getElem?_cons_succ] at z0 z2
  have ht' := isSer_iff.1 ht
  go_enter Tryd.func117, Tryd.ntmps117
  go_wp2_with fail
  refine (Clone_String _ (x.items.drop k) F2 _ hs2 (by simp; omega)).mono ?_
  rintro e w1 ⟨v3, F3, rfl, o3, n3, g3, hb⟩
  obtain ⟨a3, c3, rfl⟩ := o3.slice
  have hrow1 := hrow.below hb
  have z0 := hrow1.cellMid (p := p) (j := 0) (by omega) (by simp)
  have z2 := hrow1.cellMid (p := p + 2) (j := 2) (by omega) (by simp)
  have zf := hrow1.frozens
  simp only [List.getElem?_cons_zero, List.getElem?_cons_succ] at z0 z2
  have hgl := hrow.lt
  have hlt := ho.lt
  replace o3 := Lib.hid o3
  have hK := Keep.ofBelow (F := g :: F) hb
  clear hb
  go_wp2_with fail
  refine (after_c _ _ _ (by omega) (by omega)).mono ?_
  rintro e w2 ⟨rfl, rfl⟩
  go_wp2_with fail
  have hR := (hrow1.setMid (p := p + 2) (j := 2) (by omega) (by simp) (.slice a3 (x.items.drop k).length c3)).setMid (p := p) (j := 0) (by omega) (by simp) (.int .i64 (aft x.trail k))
  go_end0
  refine ⟨⟨_, rfl⟩, F3, ⟨_, by simpa using hR, hp, ⟨_, rfl, ?_⟩, n3, fun hm => by have := g3 _ hm; omega⟩, fun b hb => .inr (g3 b hb), ?_⟩
  · repeat refine Ow.setFar ?_ (fun hm => by have := g3 _ hm; simp at this; omega) _
    simpa using o3.out
  · repeat refine Keep.setCell ?_ (by simp) _
    exact hK
set_option maxHeartbeats 1600000 in
set_option maxRecDepth 100000 in
theorem l9Drop_c (v : Value) (x : SendWindow) (F : List Nat) (k : Nat) (w : World) (h : IsV ESendWindow w v x F) (hk : k ≤ x.items.length) (hm : x.items.length ≤ 4294967296) (ht : isSer x.trail = true) :
    Calls Tryd.prog 118 #[v, .int .i64 k] w (RetV OSendWindow ⟨aft x.trail k, x.size, x.items.drop k⟩ w) := by
  obtain ⟨_, rfl, v1, rfl, h1⟩ := h
  obtain ⟨a, c, rfl⟩ := h1.slice
  have hB0 : ∀ A B : Obj, Below w.heap.size w ((w.alloc A).alloc B) := fun A B => ((Below.refl _ _).alloc (Nat.le_refl _) _).alloc (by simp) _
  have hs4 : ∀ W, (sizeOf (Tryd.prog.elem 24)).run Tryd.prog W = .ok 1 W := fun W => by kernel_rfl
  obtain ⟨a2, c2, F2, hsl, hF2, hs2⟩ := h1.dropS 24 (by kernel_rfl) k hk hs4
  have ht' := isSer_iff.1 ht
  go_enter Tryd.func118, Tryd.ntmps118
  go_wp2_with fail
  have r0 : Row ((w.alloc (.cells #[.int .i64 x.trail, .int .i64 x.size, .slice a x.items.length c] 26)).alloc (.cells #[.int .i64 0, .int .i64 0, .slice none 0 0] 26)) w.heap.size 26 [.int .i64 x.trail, .int .i64 x.size, .slice a x.items.length c] := by simp [row_alloc] <;> omega
  have r1 : Row ((w.alloc (.cells #[.int .i64 x.trail, .int .i64 x.size, .slice a x.items.length c] 26)).alloc (.cells #[.int .i64 0, .int .i64 0, .slice none 0 0] 26)) (w.heap.size + 1) 26 [.int .i64 0, .int .i64 0, .slice none 0 0] := by simp [row_alloc] <;> omega
  have hB := hB0 (.cells #[.int .i64 x.trail, .int .i64 x.size, .slice a x.items.length c] 26) (.cells #[.int .i64 0, .int .i64 0, .slice none 0 0] 26)
  have hsz : w.heap.size + 1 < ((w.alloc (.cells #[.int .i64 x.trail, .int .i64 x.size, .slice a x.items.length c] 26)).alloc (.cells #[.int .i64 0, .int .i64 0, .slice none 0 0] 26)).heap.size := by simp
  generalize ((w.alloc (.cells #[.int .i64 x.trail, .int .i64 x.size, .slice a x.items.length c] 26)).alloc (.cells #[.int .i64 0, .int .i64 0, .slice none 0 0] 26)) = w1 at *
  replace hs2 := hs2.below (by decide) hB
  obtain ⟨ao, cc, news, Fy, he, hl, hfy, hFy, hsrc⟩ := hs2.src
  simp only [Value.slice.injEq] at he
  obtain ⟨rfl, -, rfl⟩ := he
  have hFl := hfy.lt
  have hsrc2 : (a2 = none ∧ c2 = 0 ∧ x.items.drop k = []) ∨ ∃ ad, a2 = some ad ∧ ∀ j u, news[j]? = some u → (w1.drew.alloc (.cells #[] 9)).cell? (ad.add j) = some u := by
    rcases hsrc with h | ⟨ad, h1, h2⟩
    · exact .inl h
    · exact .inr ⟨ad, h1, fun j u hu => kc (w := w1.drew) ((Below.refl _ _).alloc (Nat.le_refl _) _) (h2 j u hu)⟩
  have q0 := r0.cells 0; have q1 := r0.cells 1; have q2 := r0.cells 2
  simp only [List.getElem?_cons_zero, List.getElem?_cons_succ] at q0 q1 q2
  go_region_held3 (fun w' => w'.cell? ⟨w.heap.size, 0, none⟩ = some (.int .i64 x.trail) ∧ w'.cell? ⟨w.heap.size, 1, none⟩ = some (.int .i64 x.size) ∧ w'.cell? ⟨w.heap.size, 2, none⟩ = some (.slice a x.items.length c))
    (first | go_keep | (exact ⟨R0.cells 0, R0.cells 1, R0.cells 2⟩) | (exact ⟨q0, q1, q2⟩))
    (first
      | ((go_at_call 112; refine (l2After_c _ _ _ (by omega) (by omega)).mono ?_; rintro e w' ⟨rfl, rfl⟩))
      | ((refine step_apd one_EStr (by decide) (by rfl) _ _ _ (by rfl) 9 (.string ⟨#[]⟩) 16 Tryd.underlying24 info_string rfl (.slice (some ⟨w1.heap.size, 0, none⟩) 0 0) [] [w1.heap.size] (by rfl) (Ow.empty (Row.made w1.drew _ _)) (Hd.one _) a2 (x.items.drop k) c2 (by show Value.slice a2 (x.items.length - k) c2 = Value.slice a2 (x.items.drop k).length c2; rw [List.length_drop]) news Fy (hfy.frame fun b hb => Below.heap_alloc _ _ _ (hFl b hb)) hsrc2 (fun b hb e => by have := hFl b hb; simp [Value.ownBlock] at e; omega) (by simpa using hl) (by simp; omega) ?_; intro v3 w3 F3 hA; have R0 := Row.keepK (show Row (w1.drew.alloc (.cells #[] 9)) _ _ _ from r0.alloc _) hA.keep (fun hm => by simp at hm; omega); have R1 := Row.keepK (show Row (w1.drew.alloc (.cells #[] 9)) _ _ _ from r1.alloc _) hA.keep (fun hm => by simp at hm; omega); obtain ⟨a3, c3, rfl⟩ := hA.val; have z1 := R1.cells; have f1 := R1.frozens)))
  all_goals
    have hBB : Below w.heap.size w w3 := (tr (belowDrewN hB 1) ((Below.refl _ _).alloc (Nat.le_refl _) _) (Nat.le_refl _)).trans (hA.keep.below (by have := hB.size; simp; omega) (fun b hb => by simp at hb; have := hB.size; omega))
    have hO := hA.ow
    rw [List.nil_append] at hO
    have hF3 : ∀ b ∈ F3, w.heap.size + 1 < b := fun b hb => by
      have := hA.ow.scal scal_EStr
      rw [this] at hb
      rcases hA.same with e | e <;> rw [e] at hb <;> simp [Value.ownBlock] at hb <;> omega
    have hn3 : F3.Nodup := by rw [hA.ow.scal scal_EStr]; cases (Value.slice a3 _ c3).ownBlock <;> simp
    replace hO := Lib.hid hO
    clear hA
    go_wp2_with fail
    refine bodyPost_ret (v := .agg #[.int .i64 (aft x.trail k), .int .i64 x.size, .slice a3 (x.items.length - k) c3]) ?_ rfl ?_
    · simp [results, Tryd.results118, go_sem, z1, f1]
    · refine ⟨_, F3, rfl, ⟨_, rfl, _, rfl, ?_⟩, hn3, fun b hb => by have := hF3 b hb; omega, ?_⟩
      · repeat refine Ow.setFar ?_ (fun hm => by have := hF3 _ hm; simp at this) _
        simpa using hO.out
      · repeat refine Below.setCell ?_ (by simp <;> omega) _
        exact hBB
end Go.Proofs.YtidephmobajikaaDoor
