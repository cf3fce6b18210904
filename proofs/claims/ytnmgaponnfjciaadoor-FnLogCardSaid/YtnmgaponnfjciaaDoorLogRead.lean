/- Walks: readRecords. -/
import Derived.Test.YtnmgaponnfjciaaDoorLogLines
import Derived.Test.YtnmgaponnfjciaaDoorCEncodeRecord
import Derived.Test.YtnmgaponnfjciaaDoorLogPlain2
import Derived.Test.YtnmgaponnfjciaaDoorHeld
namespace Go.Proofs.YtnmgaponnfjciaaDoor
open Go.RowKit
def recL (l : Bs) : LogRecord := ⟨bs (cmdL l), bs (repL l)⟩
def recOf (x : ByteArray) : LogRecord := recL x.data.toList
theorem recOf_cut (x : ByteArray) : recOf x = ⟨cutB 64 (cutA 32 (cutB 35 x)), cutA 64 (cutA 32 (cutB 35 x))⟩ := by
  simp only [recOf, recL, cutB, cutA, bs_list, cmdL, repL, tailL]
def listsOf (pre : List ByteArray) : List Bs := pre.map fun x => x.data.toList
theorem listsOf_snoc (pre : List ByteArray) (x : ByteArray) : listsOf (pre ++ [x]) = listsOf pre ++ [x.data.toList] := by simp [listsOf]
theorem listsOf_len (pre : List ByteArray) : (listsOf pre).length = pre.length := by simp [listsOf]
theorem listsOf_lines (s : ByteArray) : listsOf (linesB s) = linesOf s.data.toList := by
  unfold listsOf linesB; rw [List.map_map]
  have : (fun x : ByteArray => x.data.toList) ∘ bs = id := by funext l; simp [bs]
  rw [this, List.map_id]
def endsZ (pre : List ByteArray) : List Int := (endsL 0 (listsOf pre)).map Int.ofNat
theorem endsZ_len (pre : List ByteArray) : (endsZ pre).length = pre.length + 1 := by simp [endsZ, endsL_len, listsOf_len]
def total (pre : List ByteArray) : Nat := (listsOf pre).flatten.length
theorem endsZ_snoc (pre : List ByteArray) (x : ByteArray) : endsZ (pre ++ [x]) = endsZ pre ++ [(total pre : Int) + (x.size : Int)] := by
  unfold endsZ total; rw [listsOf_snoc, endsL_snoc]; simp
theorem endsZ_last (pre : List ByteArray) : (endsZ pre)[pre.length]? = some (total pre : Int) := by
  have h := endsL_last (n := 0) (xs := listsOf pre)
  have hl := endsZ_len pre
  rw [List.getLast?_eq_getElem?, endsL_len, listsOf_len] at h
  unfold endsZ; rw [List.getElem?_map, show pre.length = pre.length + 1 - 1 from rfl, h]
  simp [total]
theorem total_le {s : ByteArray} {pre post : List ByteArray} (h : linesB s = pre ++ post) : total pre ≤ s.size := by
  have h1 := congrArg (fun l => (listsOf l).flatten.length) h
  simp only [listsOf_lines, linesOf_flat] at h1
  rw [size_list] at h1
  have : listsOf (pre ++ post) = listsOf pre ++ listsOf post := by simp [listsOf]
  rw [this, List.flatten_append, List.length_append] at h1
  unfold total; omega
theorem count_le {s : ByteArray} {pre post : List ByteArray} (h : linesB s = pre ++ post) : pre.length ≤ s.size := by
  have h1 := total_le h
  have h2 : ∀ xs : List Bs, (∀ x ∈ xs, x ≠ []) → xs.length ≤ xs.flatten.length := by
    intro xs
    induction xs with
    | nil => simp
    | cons x xs ih =>
      intro hx
      have h3 := ih fun y hy => hx y (by simp [hy])
      have h4 : 1 ≤ x.length := by
        have := hx x (by simp)
        cases x with
        | nil => exact absurd rfl this
        | cons => simp
      simp only [List.length_cons, List.flatten_cons, List.length_append]; omega
  have h5 := h2 (listsOf pre) fun x hx => by
    refine linesOf_ne (l := s.data.toList) ?_
    rw [← listsOf_lines, h]; simp only [listsOf, List.map_append, List.mem_append]; exact .inl hx
  rw [listsOf_len] at h5
  unfold total at h1; omega
theorem line_le {s : ByteArray} {pre post : List ByteArray} {x : ByteArray} (h : linesB s = pre ++ x :: post) : total pre + x.size ≤ s.size := by
  have h1 : linesB s = (pre ++ [x]) ++ post := by rw [h]; simp
  have h2 := total_le h1
  unfold total at h2 ⊢
  rw [listsOf_snoc] at h2
  simp at h2 ⊢; omega
theorem AnyX.startIn {P : Program} {ops : Array Oper} {Q : Exit → Act → World → Prop} {S : World → Prop} {X : Nat → Bool} {l n id : Nat} {a : Act} {w : World} (hm : P.follows .mixedOrders = true) (hQ : ∀ a w, ¬ Q .outgrown a w) (hp : (ops.toList.all plainOp) = true)
    (h : AnyX P .any ops Q S X ops.size (Array.replicate ops.size false) a w.drew) : (Code.region id ops true).wpIn (Fence.wide.inRound l) n P Q a w :=
  wpIn_region_any hm (any_round hQ hp _ _ _ _ (AnyX.any _ _ _ _ h))
theorem cutB_size (c : UInt8) (s : ByteArray) : (cutB c s).size ≤ s.size := by
  unfold cutB; rw [bs_size]; have := upTo_len c s.data.toList; rw [size_list] at this; exact this
theorem cutA_size (c : UInt8) (s : ByteArray) : (cutA c s).size ≤ s.size := by
  unfold cutA; rw [bs_size]
  rcases split_at c s.data.toList with ⟨_, h2⟩ | ⟨_, _, h2⟩
  · have := congrArg List.length h2; rw [size_list] at this; simp at this; omega
  · rw [h2]; simp
theorem Row.news {w : World} {g : Nat} {t : TypeId} {cs : List Value} (h : Row w g t cs) : ∀ j u, cs[j]? = some u → w.cell? ((⟨g, 0, none⟩ : Addr).add j) = some u := fun j u hu => by
  rw [← hu, ← h.cell j]
  by_cases hj : j = 0
  · subst hj; rfl
  · simp [Addr.add, hj]
theorem ends_elem {w : World} {t : TypeId} {pre : List ByteArray} {gb off ec : Nat} {F : List Nat} (h : Ow EInt t w (.slice (some ⟨gb, off, none⟩) (pre.length + 1) ec) (endsZ pre) F) : w.cell? ⟨gb, off + pre.length, none⟩ = some (.int .i64 (total pre : Int)) := by
  obtain ⟨F', _, hs⟩ := h.read
  have hl := endsZ_len pre
  obtain ⟨b, o, e, hc⟩ := hs.int.2.2 pre.length (by omega)
  cases e
  rw [hc]
  have := endsZ_last pre
  rw [List.getElem?_eq_getElem (by omega)] at this
  rw [Option.some.inj this]
theorem ends_head {w : World} {t : TypeId} {pre : List ByteArray} {eo : Option Addr} {ec : Nat} {F : List Nat} (h : Ow EInt t w (.slice eo (pre.length + 1) ec) (endsZ pre) F) : ∃ gb off, eo = some ⟨gb, off, none⟩ := by
  obtain ⟨F', _, hs⟩ := h.read
  have hl := endsZ_len pre
  obtain ⟨b, o, e, hc⟩ := hs.int.2.2 pre.length (by omega)
  exact ⟨b, o, e⟩
/-- the block lies as it lay -/
def Same (k : Nat) (W0 W : World) : Prop := W.heap[k]? = W0.heap[k]? ∧ k < W.heap.size
theorem Same.below {k W0 W w'} (h : Same k W0 W) (hb : Below W.heap.size W w') : Same k W0 w' := ⟨(hb.block k h.2).trans h.1, Nat.lt_of_lt_of_le h.2 hb.size⟩
theorem Same.keepK {k W0 W w' F} (h : Same k W0 W) (hk : Keep F W w') (hn : k ∉ F) : Same k W0 w' := ⟨(hk.block k h.2 hn).trans h.1, Nat.lt_of_lt_of_le h.2 hk.size⟩
theorem Same.alloc {k W0 W} (h : Same k W0 W) (o : Obj) : Same k W0 (W.alloc o) := h.below ((Below.refl _ _).alloc (Nat.le_refl _) _)
theorem Same.keep {k W0 W w'} (h : Same k W0 W) (e : w'.heap[k]? = W.heap[k]?) : Same k W0 w' := by
  refine ⟨e.trans h.1, ?_⟩
  rw [Array.getElem?_eq_getElem h.2] at e
  exact (Array.getElem?_eq_some_iff.1 e).1
def RdI (w w1 : World) (FT : List Nat) (pre : List ByteArray) (W : World) : Prop :=
  ∃ lo lc F1 eo ec F2, Row W w.heap.size 48 [.slice lo pre.length lc] ∧ Row W (w.heap.size + 1 + 1) 66 [.slice eo (pre.length + 1) ec] ∧
    Ow ELogRecord 27 W (.slice lo pre.length lc) (pre.map recOf) F1 ∧ F1.Nodup ∧ Ow EInt 3 W (.slice eo (pre.length + 1) ec) (endsZ pre) F2 ∧ F2.Nodup ∧
    (∀ b ∈ F1, w1.heap.size + 1 < b) ∧ (∀ b ∈ F2, b = w.heap.size + 1 ∨ w1.heap.size + 1 < b) ∧ (∀ b ∈ F1, b ∉ F2) ∧ IsV ETab W (.agg #[]) () FT ∧ Below w.heap.size w W ∧
    Hid (acc 0 (listsOf pre) = listsOf pre)
theorem RdI.keep {w w1 : World} {FT : List Nat} {g4 : Nat} (h4 : w.heap.size + 1 + 1 < g4) (h5 : g4 < w1.heap.size) (hFT : ∀ b ∈ FT, b < w.heap.size) : AbB [g4, w1.heap.size + 1] (RdI w w1 FT) := by
  rintro pre W W' ⟨lo, lc, F1, eo, ec, F2, r1, r3, o1, n1, o2, n2, f1, f2, d, hT, hB, ha⟩ hk
  refine ⟨lo, lc, F1, eo, ec, F2, r1.keepK hk (by simp; omega), r3.keepK hk (by simp; omega), o1.keep hk (fun b hb hm => ?_), n1, o2.keep hk (fun b hb hm => ?_), n2, f1, f2, d, hT.keep hk (fun b hb hm => ?_), hB.trans (hk.below hB.size (fun b hb => ?_)), ha⟩
  · have := f1 b hb; simp at hm; omega
  · have := f2 b hb; simp at hm; omega
  · have := hFT b hb; simp at hm; omega
  · simp at hb; omega
def RdX (w w1 : World) (FT : List Nat) (c : Code) (ys : List ByteArray) (W : World) : Prop :=
  c = .exit 0 ∧ ∃ pre x, ys = pre ++ [x] ∧ RdI w w1 FT pre W ∧ okL pre.length x.data.toList = false
/-- what has been read, and where the records end -/
def PRead (s : ByteArray) (w : World) (e : Ending) (w' : World) : Prop :=
  ∃ u0 G0 u1 G1, e = .returned (.tuple #[u0, u1]) ∧ Ow ELogRecord 27 w' u0 ((opened s.data.toList).map recL) G0 ∧ G0.Nodup ∧ Ow EInt 3 w' u1 ((endsL 0 (opened s.data.toList)).map Int.ofNat) G1 ∧ G1.Nodup ∧
    (∀ b ∈ G0, w.heap.size ≤ b) ∧ (∀ b ∈ G1, w.heap.size ≤ b) ∧ (∀ b ∈ G0, b ∉ G1) ∧ Below w.heap.size w w'
theorem acc_snoc {k : Nat} {xs : List Bs} {x : Bs} (h : acc k xs = xs) (hx : okL (k + xs.length) x = true) : acc k (xs ++ [x]) = xs ++ [x] := by
  rw [acc_append k xs _ h]; simp [acc, hx]
theorem acc_stop {k : Nat} {xs : List Bs} {x : Bs} (post : List Bs) (h : acc k xs = xs) (hx : okL (k + xs.length) x = false) : acc k (xs ++ x :: post) = xs := by
  rw [acc_append k xs _ h]; simp [acc, hx]
theorem opened_all {s : ByteArray} (h : acc 0 (listsOf (linesB s)) = listsOf (linesB s)) : listsOf (linesB s) = opened s.data.toList := by
  rw [listsOf_lines] at h ⊢; exact h.symm
theorem opened_stop {s : ByteArray} {pre post : List ByteArray} {x : ByteArray} (hs : linesB s = pre ++ x :: post) (h : acc 0 (listsOf pre) = listsOf pre) (hx : okL pre.length x.data.toList = false) : listsOf pre = opened s.data.toList := by
  unfold opened; rw [← listsOf_lines, hs]
  have : listsOf (pre ++ x :: post) = listsOf pre ++ x.data.toList :: listsOf post := by simp [listsOf]
  rw [this, acc_stop _ h (by rw [listsOf_len, Nat.zero_add]; exact hx)]
theorem RdI.post {s : ByteArray} {w w1 : World} {FT : List Nat} {pre : List ByteArray} {W : World} (h1 : w.heap.size + 1 < w1.heap.size) (ho : listsOf pre = opened s.data.toList)
    (h : RdI w w1 FT pre W) : ∃ lo lc eo ec, Row W w.heap.size 48 [.slice lo pre.length lc] ∧ Row W (w.heap.size + 1 + 1) 66 [.slice eo (pre.length + 1) ec] ∧
      ∀ W', Keep [w1.heap.size] W W' → PRead s w (.returned (.tuple #[.slice lo pre.length lc, .slice eo (pre.length + 1) ec])) W' := by
  obtain ⟨lo, lc, F1, eo, ec, F2, r1, r3, o1, n1, o2, n2, f1, f2, d, hT, hB, ha⟩ := h
  refine ⟨lo, lc, eo, ec, r1, r3, fun W' hk => ⟨_, F1, _, F2, rfl, ?_, n1, ?_, n2, fun b hb => by have := f1 b hb; omega, fun b hb => by have := f2 b hb; omega, d, hB.trans (hk.below hB.size (fun b hb => by simp at hb; omega))⟩⟩
  · have e : (opened s.data.toList).map recL = pre.map recOf := by rw [← ho]; simp [listsOf, recOf]
    rw [e]; exact o1.keep hk (fun b hb hm => by have := f1 b hb; simp at hm; omega)
  · have e : (endsL 0 (opened s.data.toList)).map Int.ofNat = endsZ pre := by rw [← ho]; rfl
    rw [e]; exact o2.keep hk (fun b hb hm => by have := f2 b hb; simp at hm; omega)
theorem RdI.acc {w w1 : World} {FT : List Nat} {pre : List ByteArray} {W : World} (h : RdI w w1 FT pre W) : acc 0 (listsOf pre) = listsOf pre := by
  obtain ⟨_, _, _, _, _, _, _, _, _, _, _, _, _, _, _, _, _, h⟩ := h; exact h.out
set_option maxHeartbeats 3200000 in
set_option maxRecDepth 100000 in
theorem readRecords_c (s : ByteArray) (FT : List Nat) (w : World) (hs : s.size ≤ 16777216) (hT : IsV ETab w (.agg #[]) () FT) :
    Calls Tryd.prog 48 #[.string s] w (PRead s w) := by
  have hFT := hT.lt
  refine (callsIn_wide (n := 9)).1 (callsIn_of_wp_marks Tryd.func48 rfl trivial ?_ rfl)
  simp only [Tryd.ntmps48, List.size_toArray, List.length_cons, List.length_nil, Nat.reduceAdd, Nat.reduceSub, Array.replicate_succ, Array.replicate_zero, List.push_toArray, List.append_toArray, List.cons_append, List.nil_append]
  refine wpIn_wide.2 ?_
  go_wp2_with (go_at_call 70; refine (Lines_c _ _).mono ?_; rintro e w' ⟨rfl, rfl⟩)
  have al : Below w.heap.size w ((((w.alloc (.cells #[.slice none 0 0] 48)).alloc (.cells #[.int .i64 0] 3)).alloc (.cells #[.slice (some ⟨w.heap.size + 1, 0, none⟩) 1 1] 66)).alloc (.cells #[.string s] 9)) := by
    repeat refine Below.alloc ?_ (by simp <;> omega) _
    exact Below.refl _ _
  have n_R1 : Row ((((w.alloc (.cells #[.slice none 0 0] 48)).alloc (.cells #[.int .i64 0] 3)).alloc (.cells #[.slice (some ⟨w.heap.size + 1, 0, none⟩) 1 1] 66)).alloc (.cells #[.string s] 9)) (w.heap.size) 48 [.slice none 0 0] := by simp [row_alloc] <;> omega
  have n_R2 : Row ((((w.alloc (.cells #[.slice none 0 0] 48)).alloc (.cells #[.int .i64 0] 3)).alloc (.cells #[.slice (some ⟨w.heap.size + 1, 0, none⟩) 1 1] 66)).alloc (.cells #[.string s] 9)) (w.heap.size + 1) 3 [.int .i64 0] := by simp [row_alloc] <;> omega
  have n_R3 : Row ((((w.alloc (.cells #[.slice none 0 0] 48)).alloc (.cells #[.int .i64 0] 3)).alloc (.cells #[.slice (some ⟨w.heap.size + 1, 0, none⟩) 1 1] 66)).alloc (.cells #[.string s] 9)) (w.heap.size + 1 + 1) 66 [.slice (some ⟨w.heap.size + 1, 0, none⟩) 1 1] := by simp [row_alloc] <;> omega
  have n_R4 : Row ((((w.alloc (.cells #[.slice none 0 0] 48)).alloc (.cells #[.int .i64 0] 3)).alloc (.cells #[.slice (some ⟨w.heap.size + 1, 0, none⟩) 1 1] 66)).alloc (.cells #[.string s] 9)) (w.heap.size + 1 + 1 + 1) 9 [.string s] := by simp [row_alloc] <;> omega
  have hs_w1 : w.heap.size + 1 + 1 + 1 < ((((w.alloc (.cells #[.slice none 0 0] 48)).alloc (.cells #[.int .i64 0] 3)).alloc (.cells #[.slice (some ⟨w.heap.size + 1, 0, none⟩) 1 1] 66)).alloc (.cells #[.string s] 9)).heap.size := by simp <;> omega
  replace hT := hT.below al
  have hB := al
  generalize ((((w.alloc (.cells #[.slice none 0 0] 48)).alloc (.cells #[.int .i64 0] 3)).alloc (.cells #[.slice (some ⟨w.heap.size + 1, 0, none⟩) 1 1] 66)).alloc (.cells #[.string s] 9)) = w1 at *
  have R1 := n_R1; clear n_R1
  have R2 := n_R2; clear n_R2
  have R3 := n_R3; clear n_R3
  have R4 := n_R4; clear n_R4
  clear al
  have h0 : RdI w w1 FT [] w1 := by
    refine ⟨none, 0, [], some ⟨w.heap.size + 1, 0, none⟩, 1, [w.heap.size + 1], R1, R3, .inl ⟨rfl, rfl, rfl⟩, by simp, ?_, by simp, by simp, by simp, by simp, hT, hB, Lib.hid rfl⟩
    exact .inr ⟨w.heap.size + 1, 1, [.int .i64 0], [], [], rfl, by simpa using R2, by rw [endsZ_len]; simp, by unfold maxLen; omega, rfl, ⟨[.int .i64 0], [], [], [], rfl, rfl, ⟨rfl, rfl⟩, rfl, rfl⟩, rfl⟩
  refine (wpIn_wide (n := 9)).1 ?_
  apply wp_range_box (b := w.heap.size + 1 + 1 + 1) (xs := linesB s) (gf := 79) (lb := #[.pointer (some ⟨w.heap.size + 1 + 1 + 1, 0, none⟩)]) rfl (enters_of Tryd.func79 (by kernel_rfl) rfl) rfl (by omega)
    (fun W0 hW0 => lines_seq s _ W0 (by omega) (R4.keep hW0)) (RdI w w1 FT) (RdX w w1 FT) (RdI.keep (by omega) (by omega) hFT)
    (by
      rintro c ys W W' ⟨hc, pre, x, hy, hi, hk2⟩ hk
      exact ⟨hc, pre, x, hy, RdI.keep (by omega) (by omega) hFT _ _ _ hi hk, hk2⟩) h0
  case hassign =>
    intro m x W K hK
    refine region_round (fun _ _ h => h) (by kernel_rfl) ?_
    simp only [List.zip_toArray, List.foldl_toArray, List.zip_cons_cons, List.zip_nil_right, List.foldl_cons, List.foldl_nil, List.setIfInBounds_toArray, List.set_cons_zero, List.set_cons_succ]
    go_wp2_with fail
    exact hK
  case hbody =>
    intro m pre post x W hxs hsz hI
    clear R1 R2 R3 R4 hT hB h0
    have hxl := line_le hxs
    have hcl := count_le hxs
    have hends := endsZ_last pre
    have hel := endsZ_len pre
    have hT0 := hFT
    obtain ⟨lo, lc, F1, eo, ec, F2, G1, G3, o1, n1, o2, n2, f1, f2, dd, hT, hB, ha⟩ := hI
    have S4 : Same (w.heap.size + 1 + 1 + 1) W W := ⟨rfl, by omega⟩; have S5 : Same w1.heap.size W W := ⟨rfl, by omega⟩; have S6 : Same (w1.heap.size + 1) W W := ⟨rfl, by omega⟩
    have z1 := cutB_size 35 x; have z2 := cutA_size 32 (cutB 35 x); have z3 := cutB_size 64 (cutA 32 (cutB 35 x)); have z4 := cutA_size 64 (cutA 32 (cutB 35 x))
    have hk1 := Lib.hid (fun w => Cut_c x 35 w (by unfold maxLen; omega))
    have hk2 := Lib.hid (fun w => Cut_c (cutB 35 x) 32 w (by unfold maxLen; omega))
    have hk3 := Lib.hid (fun w => Cut_c (cutA 32 (cutB 35 x)) 64 w (by unfold maxLen; omega))
    have hrec := recOf_cut x
    have hcm : (cutB 64 (cutA 32 (cutB 35 x))).data.toList = cmdL x.data.toList := by simp only [cutB, cutA, bs_list, cmdL, tailL]
    have hrp : (cutA 64 (cutA 32 (cutB 35 x))).data.toList = repL x.data.toList := by simp only [cutB, cutA, bs_list, repL, tailL]
    generalize cutB 35 x = y1 at *
    generalize cutA 32 y1 = y2 at *
    generalize cutB 64 y2 = cc at *
    generalize cutA 64 y2 = rr at *
    generalize hy1f : cutA 35 x = y3 at *
    generalize hy2f : cutB 32 y1 = y4 at *
    clear hy1f hy2f
    have sc : cc.size ≤ maxLen := by unfold maxLen; omega
    have sr : rr.size ≤ maxLen := by unfold maxLen; omega
    have hE := Lib.hid (fun w v hv hT => EncodeRecord_c (pre.length : Int) v ⟨cc, rr⟩ [] FT w hv hT)
    have hres : resEncodeRecord (pre.length : Int) ⟨cc, rr⟩ = (bs ((encL (pre.length : Int) (cmdL x.data.toList) (repL x.data.toList)).getD []), (encL (pre.length : Int) (cmdL x.data.toList) (repL x.data.toList)).isSome) := by unfold resEncodeRecord; rw [hcm, hrp]
    replace hres := Lib.hid hres
    replace hrec := Lib.hid hrec
    replace hends := Lib.hid hends
    replace hel := Lib.hid hel
    replace hxs := Lib.hid hxs
    clear hcm hrp
    refine wpIn_block ?_
    refine wpIn_seq_k (fun _ _ => ?_)
    refine region_round (fun _ _ h => h) (by kernel_rfl) ?_
    go_wp2_with fail
    refine (hk1.out _).mono ?_
    rintro e w21 ⟨rfl, j, hj⟩
    have hb : Below W.heap.size W w21 := by rw [hj]; exact belowDrewN (Below.refl _ _) _
    clear hj
    have hs_w21 := hb.size
    replace G1 := G1.below hb
    replace G3 := G3.below hb
    replace o1 := o1.below hb
    replace o2 := o2.below hb
    replace hT := hT.below hb
    replace S4 := S4.below hb
    replace S5 := S5.below hb
    replace S6 := S6.below hb
    replace hB := tr hB hb (Nat.le_refl _)
    clear hb
    go_wp2_with fail
    refine wpIn_seq_k (fun _ _ => ?_)
    refine region_round (fun _ _ h => h) (by kernel_rfl) ?_
    go_wp2_with fail
    refine (hk2.out _).mono ?_
    rintro e w22 ⟨rfl, j, hj⟩
    have hb : Below w21.heap.size w21 w22 := by rw [hj]; exact belowDrewN (Below.refl _ _) _
    clear hj
    have hs_w22 := hb.size
    replace G1 := G1.below hb
    replace G3 := G3.below hb
    replace o1 := o1.below hb
    replace o2 := o2.below hb
    replace hT := hT.below hb
    replace S4 := S4.below hb
    replace S5 := S5.below hb
    replace S6 := S6.below hb
    replace hB := tr hB hb (Nat.le_refl _)
    clear hb
    go_wp2_with fail
    refine wpIn_seq_k (fun _ _ => ?_)
    refine region_round (fun _ _ h => h) (by kernel_rfl) ?_
    go_wp2_with fail
    refine (hk3.out _).mono ?_
    rintro e w23 ⟨rfl, j, hj⟩
    have hb : Below w22.heap.size w22 w23 := by rw [hj]; exact belowDrewN (Below.refl _ _) _
    clear hj
    have hs_w23 := hb.size
    replace G1 := G1.below hb
    replace G3 := G3.below hb
    replace o1 := o1.below hb
    replace o2 := o2.below hb
    replace hT := hT.below hb
    replace S4 := S4.below hb
    replace S5 := S5.below hb
    replace S6 := S6.below hb
    replace hB := tr hB hb (Nat.le_refl _)
    clear hb
    go_wp2_with fail
    clear hk1 hk2 hk3
    refine wpIn_seq_k (fun _ _ => ?_)
    refine region_round (fun _ _ h => h) (by kernel_rfl) ?_
    go_wp2_with fail
    have al : Below w23.heap.size w23 (w23.alloc (.cells #[.string cc, .string rr] 27)) := by
      repeat refine Below.alloc ?_ (by simp <;> omega) _
      exact Below.refl _ _
    have n_R8 := Row.made w23 27 [.string cc, .string rr]
    have hs_w24 : w23.heap.size < (w23.alloc (.cells #[.string cc, .string rr] 27)).heap.size := by simp
    replace G1 := G1.below al
    replace G3 := G3.below al
    replace o1 := o1.below al
    replace o2 := o2.below al
    replace hT := hT.below al
    replace S4 := S4.below al
    replace S5 := S5.below al
    replace S6 := S6.below al
    replace hB := tr hB al (Nat.le_refl _)
    generalize (w23.alloc (.cells #[.string cc, .string rr] 27)) = w24 at *
    have R8 := n_R8; clear n_R8
    clear al
    cases henc : encL (pre.length : Int) (cmdL x.data.toList) (repL x.data.toList) with
    | none =>
      have hno : okL pre.length x.data.toList = false := by unfold okL; rw [henc]; rfl
      have hE2 := hE.out
      rw [hres.out, henc] at hE2
      replace hE2 := Lib.hid hE2
      refine wpIn_seq_k (fun _ _ => ?_)
      refine wpIn_seq_k (fun _ _ => ?_)
      refine region_round (fun _ _ h => h) (by kernel_rfl) ?_
      have c_G1 := G1.cells; have f_G1 := G1.frozens
      have c_R8 := R8.cells; have f_R8 := R8.frozens
      go_wp2_with fail
      clear c_G1 f_G1 c_R8 f_R8
      refine (hE2.out _ _ ⟨_, rfl, rfl, sc, sr, rfl⟩ hT).mono ?_
      rintro e w25 ⟨rfl, hb⟩
      have hs_w25 := hb.size
      clear hE hE2
      replace G1 := G1.below hb
      replace G3 := G3.below hb
      replace R8 := R8.below hb
      replace o1 := o1.below hb
      replace o2 := o2.below hb
      replace hT := hT.below hb
      replace S4 := S4.below hb
      replace S5 := S5.below hb
      replace S6 := S6.below hb
      replace hB := tr hB hb (Nat.le_refl _)
      clear hb
      go_wp2_with fail
      refine wpIn_seq_k (fun _ _ => ?_)
      refine region_round (fun _ _ h => h) (by kernel_rfl) ?_
      go_wp2_with fail
      refine wpIn_cond_true rfl ?_
      refine wpIn_exit ?_
      refine ⟨fun k hk => ?_, rfl, pre, x, rfl, ⟨lo, lc, F1, eo, ec, F2, G1, G3, o1, n1, o2, n2, f1, f2, dd, hT, hB, ha⟩, hno⟩
      simp only [List.mem_cons, List.not_mem_nil, or_false] at hk
      rcases hk with rfl | rfl | rfl
      · exact S4.1
      · exact S5.1
      · exact S6.1
    | some y =>
      by_cases hyx : y = x.data.toList
      · have hok : okL pre.length x.data.toList = true := by unfold okL; rw [henc, hyx]; simp
        rw [hyx] at henc
        have hE2 := hE.out
        rw [hres.out, henc] at hE2
        simp only [Option.getD_some, bs_of, Option.isSome_some] at hE2
        replace hE2 := Lib.hid hE2
        refine wpIn_seq_k (fun _ _ => ?_)
        refine wpIn_seq_k (fun _ _ => ?_)
        refine region_round (fun _ _ h => h) (by kernel_rfl) ?_
        have c_G1 := G1.cells; have f_G1 := G1.frozens
        have c_R8 := R8.cells; have f_R8 := R8.frozens
        go_wp2_with fail
        clear c_G1 f_G1 c_R8 f_R8
        refine (hE2.out _ _ ⟨_, rfl, rfl, sc, sr, rfl⟩ hT).mono ?_
        rintro e w26 ⟨rfl, hb⟩
        have hs_w26 := hb.size
        clear hE hE2
        replace G1 := G1.below hb
        replace G3 := G3.below hb
        replace R8 := R8.below hb
        replace o1 := o1.below hb
        replace o2 := o2.below hb
        replace hT := hT.below hb
        replace S4 := S4.below hb
        replace S5 := S5.below hb
        replace S6 := S6.below hb
        replace hB := tr hB hb (Nat.le_refl _)
        clear hb
        go_wp2_with fail
        refine wpIn_seq_k (fun _ _ => ?_)
        refine region_round (fun _ _ h => h) (by kernel_rfl) ?_
        go_wp2_with fail
        refine wpIn_cond_false rfl ?_
        refine wpIn_skip ?_
        go_wp2_with fail
        have lF1 := o1.lt; have lF2 := o2.lt
        have hnd : ∀ b ∈ FT, b < w.heap.size := hT0
        clear henc hres
        refine wpIn_seq_k (fun _ _ => ?_)
        refine region_round (fun _ _ h => h) (by kernel_rfl) ?_
        have c_G1 := G1.cells; have f_G1 := G1.frozens; have d_G1 := fun o => (G1.alloc o).cells; have e_G1 := fun o => (G1.alloc o).frozens
        have c_R8 := R8.cells; have f_R8 := R8.frozens; have d_R8 := fun o => (R8.alloc o).cells; have e_R8 := fun o => (R8.alloc o).frozens
        go_wp2_with (at_builtin; refine wpList_apd one_ELogRecord (by decide) (by rfl) _ _ _ (by rfl) 27 (.agg #[.string ⟨#[]⟩, .string ⟨#[]⟩]) 32 Tryd.underlying48 info_LogRecord rfl (.slice lo pre.length lc) (pre.map recOf) F1 (by rfl) (o1.below ((Below.refl _ _).alloc (Nat.le_refl _) _)) (Hd.of n1) (some ⟨w26.heap.size, 0, none⟩) [⟨cc, rr⟩] 1 (by rfl) [.string cc, .string rr] [] (Flat.one ⟨rfl, sc, sr, rfl⟩) (.inr ⟨_, rfl, World.news_of_block (heap_alloc_new w26 _)⟩) (by simp) (by simp; unfold maxLen; omega) (by simp; omega) ?_)
        clear c_G1 f_G1 d_G1 e_G1 c_R8 f_R8 d_R8 e_R8
        intro v6 w27 F6 hA
        have o6 := hA.ow; have n6 := hA.nodup n1 (by simp) (by simp); have m6 := hA.mem; have K6 := hA.keep
        obtain ⟨a6, c6, hv6⟩ := hA.val
        clear hA
        have hv7 : v6 = .slice a6 (pre.length + 1) c6 := by simpa using hv6
        subst hv7
        clear hv6
        have al := (Below.refl w26.heap.size w26).alloc (Nat.le_refl _) (.cells #[.string cc, .string rr] 27)
        have hs_w27 : w26.heap.size + 1 ≤ w27.heap.size := by have := K6.size; simpa using this
        have f6 : ∀ b ∈ F6, w1.heap.size + 1 < b := fun b hb => by
          rcases m6 b hb with h7 | h7 | h7
          · exact f1 b h7
          · simp at h7
          · simp at h7; omega
        have d6 : ∀ b ∈ F6, b ∉ F2 := fun b hb hm => by
          rcases m6 b hb with h7 | h7 | h7
          · exact dd b h7 hm
          · simp at h7
          · have := lF2 b hm; simp at h7; omega
        replace G1 := (G1.below al).keepK K6 (fun hm => by have := f1 _ hm; omega)
        replace G3 := (G3.below al).keepK K6 (fun hm => by have := f1 _ hm; omega)
        replace o2 := (o2.below al).keep K6 (fun b hb hm => dd b hm hb)
        replace hT := (hT.below al).keep K6 (fun b hb hm => by have := f1 b hm; have := hnd b hb; omega)
        replace S4 := (S4.below al).keepK K6 (fun hm => by have := f1 _ hm; omega)
        replace S5 := (S5.below al).keepK K6 (fun hm => by have := f1 _ hm; omega)
        replace S6 := (S6.below al).keepK K6 (fun hm => by have := f1 _ hm; omega)
        replace hB := (tr hB al (Nat.le_refl _)).trans (K6.below (B := w.heap.size) (by have := hB.size; simp; omega) (fun b hb => by have := f1 b hb; omega))
        clear K6 m6 al o1 n1 dd lF1 lF2 R8
        have c_G1 := G1.cells; have f_G1 := G1.frozens
        go_wp2_with fail
        clear c_G1 f_G1
        have K7 : Keep [w.heap.size] w27 (w27.setCell ⟨w.heap.size, 0, none⟩ (.slice a6 (pre.length + 1) c6)) := (Keep.refl _ _).setCell (by simp) _
        have G1b : Row (w27.setCell ⟨w.heap.size, 0, none⟩ (.slice a6 (pre.length + 1) c6)) w.heap.size 48 [(.slice a6 (pre.length + 1) c6)] := G1.set 0 (.slice a6 (pre.length + 1) c6)
        replace G3 := G3.keepK K7 (by simp; omega)
        replace o2 := o2.keep K7 (fun b hb hm => by have := f2 b hb; simp at hm; omega)
        replace o6 := o6.keep K7 (fun b hb hm => by have := f6 b hb; simp at hm; omega)
        replace hT := hT.keep K7 (fun b hb hm => by have := hnd b hb; simp at hm; omega)
        replace S4 := S4.keepK K7 (by simp; omega)
        replace S5 := S5.keepK K7 (by simp; omega)
        replace S6 := S6.keepK K7 (by simp; omega)
        replace hB := hB.trans (K7.below (B := w.heap.size) (by have := hB.size; omega) (fun b hb => by simp at hb; omega))
        have hs_w28 : w27.heap.size ≤ (w27.setCell ⟨w.heap.size, 0, none⟩ (.slice a6 (pre.length + 1) c6)).heap.size := K7.size
        clear K7 G1
        generalize (w27.setCell ⟨w.heap.size, 0, none⟩ (.slice a6 (pre.length + 1) c6)) = w28 at *
        have G1 := G1b; clear G1b
        obtain ⟨gb, off, rfl⟩ := ends_head o2
        have hw4 := Lib.hid (show IntKind.i64.wrap (pre.length : Int) = (pre.length : Int) from by rw [IntKind.wrap_i64]; omega)
        have hw9 := Lib.hid (show IntKind.i64.wrap ((total pre : Int) + (x.size : Int)) = (total pre : Int) + (x.size : Int) from by rw [IntKind.wrap_i64]; omega)
        refine AnyX.startIn (S := (fun w' => w'.cell? ⟨w.heap.size + 1 + 1, 0, none⟩ = some (.slice (some ⟨gb, off, none⟩) (pre.length + 1) ec) ∧ w'.cell? ⟨gb, off + pre.length, none⟩ = some (.int .i64 (total pre : Int)))) (X := (fun i => i == 11 || i == 12)) (by kernel_rfl) (fun _ _ h => h) (by kernel_rfl) ?_
        have al : Below w28.heap.size w28 w28.drew := belowDrewN (Below.refl _ _) 1
        have hs_w29 := al.size
        replace G1 := G1.below al
        replace G3 := G3.below al
        replace o2 := o2.below al
        replace hT := hT.below al
        replace S4 := S4.below al
        replace S5 := S5.below al
        replace S6 := S6.below al
        replace o6 := o6.below al
        replace hB := tr hB al (Nat.le_refl _)
        generalize w28.drew = w29 at *
        clear al
        have hS : (fun w' => w'.cell? ⟨w.heap.size + 1 + 1, 0, none⟩ = some (.slice (some ⟨gb, off, none⟩) (pre.length + 1) ec) ∧ w'.cell? ⟨gb, off + pre.length, none⟩ = some (.int .i64 (total pre : Int))) w29 := ⟨G3.cells 0, ends_elem o2⟩
        refine AnyX.take (i := 0) (oi := _) (v := ?_) (by rw [List.getElem?_toArray]; rfl) (by kernel_rfl) (by kernel_rfl) (by kernel_rfl) (by kernel_rfl) (by kernel_rfl) (by exact fun _ _ _ h => h) (Or.inl ⟨by rfl, ?_⟩) hS ?_
        rotate_left
        · (intro wS hSw; (try dsimp only at hSw); go_simp; try with_reducible rfl)
        try simp only [Act.put, List.setIfInBounds_toArray, List.set_cons_zero, List.set_cons_succ]
        refine AnyX.take (i := 1) (oi := _) (v := ?_) (by rw [List.getElem?_toArray]; rfl) (by kernel_rfl) (by kernel_rfl) (by kernel_rfl) (by kernel_rfl) (by kernel_rfl) (by exact fun _ _ _ h => h) (Or.inl ⟨by rfl, ?_⟩) hS ?_
        rotate_left
        · (intro wS hSw; (try dsimp only at hSw); go_simp; try with_reducible rfl)
        try simp only [Act.put, List.setIfInBounds_toArray, List.set_cons_zero, List.set_cons_succ]
        refine AnyX.take (i := 2) (oi := _) (v := ?_) (by rw [List.getElem?_toArray]; rfl) (by kernel_rfl) (by kernel_rfl) (by kernel_rfl) (by kernel_rfl) (by kernel_rfl) (by exact fun _ _ _ h => h) (Or.inl ⟨by rfl, ?_⟩) hS ?_
        rotate_left
        · (intro wS hSw; (try dsimp only at hSw); go_simp; try with_reducible rfl)
        try simp only [Act.put, List.setIfInBounds_toArray, List.set_cons_zero, List.set_cons_succ]
        refine AnyX.take (i := 3) (oi := _) (v := ?_) (by rw [List.getElem?_toArray]; rfl) (by kernel_rfl) (by kernel_rfl) (by kernel_rfl) (by kernel_rfl) (by kernel_rfl) (by exact fun _ _ _ h => h) (Or.inl ⟨by rfl, ?_⟩) hS ?_
        rotate_left
        · (intro wS hSw; (try dsimp only at hSw); go_simp; try with_reducible rfl)
        try simp only [Act.put, List.setIfInBounds_toArray, List.set_cons_zero, List.set_cons_succ]
        refine AnyX.take (i := 4) (oi := _) (v := ?_) (by rw [List.getElem?_toArray]; rfl) (by kernel_rfl) (by kernel_rfl) (by kernel_rfl) (by kernel_rfl) (by kernel_rfl) (by exact fun _ _ _ h => h) (Or.inl ⟨by rfl, ?_⟩) hS ?_
        rotate_left
        · (intro wS hSw; (try dsimp only at hSw); go_simp; rw [hw4.out]; try with_reducible rfl)
        try simp only [Act.put, List.setIfInBounds_toArray, List.set_cons_zero, List.set_cons_succ]
        refine AnyX.take (i := 5) (oi := _) (v := ?_) (by rw [List.getElem?_toArray]; rfl) (by kernel_rfl) (by kernel_rfl) (by kernel_rfl) (by kernel_rfl) (by kernel_rfl) (by exact fun _ _ _ h => h) (Or.inl ⟨by rfl, ?_⟩) hS ?_
        rotate_left
        · (intro wS hSw; (try dsimp only at hSw); go_simp; rw [if_pos (by omega)]; try with_reducible rfl)
        try simp only [Act.put, List.setIfInBounds_toArray, List.set_cons_zero, List.set_cons_succ]
        refine AnyX.take (i := 6) (oi := _) (v := ?_) (by rw [List.getElem?_toArray]; rfl) (by kernel_rfl) (by kernel_rfl) (by kernel_rfl) (by kernel_rfl) (by kernel_rfl) (by exact fun _ _ _ h => h) (Or.inl ⟨by rfl, ?_⟩) hS ?_
        rotate_left
        · (intro wS hSw; (try dsimp only at hSw); go_simp; try with_reducible rfl)
        try simp only [Act.put, List.setIfInBounds_toArray, List.set_cons_zero, List.set_cons_succ]
        refine AnyX.take (i := 7) (oi := _) (v := ?_) (by rw [List.getElem?_toArray]; rfl) (by kernel_rfl) (by kernel_rfl) (by kernel_rfl) (by kernel_rfl) (by kernel_rfl) (by exact fun _ _ _ h => h) (Or.inl ⟨by rfl, ?_⟩) hS ?_
        rotate_left
        · (intro wS hSw; (try dsimp only at hSw); go_simp; try with_reducible rfl)
        try simp only [Act.put, List.setIfInBounds_toArray, List.set_cons_zero, List.set_cons_succ]
        refine AnyX.take (i := 8) (oi := _) (v := ?_) (by rw [List.getElem?_toArray]; rfl) (by kernel_rfl) (by kernel_rfl) (by kernel_rfl) (by kernel_rfl) (by kernel_rfl) (by exact fun _ _ _ h => h) (Or.inl ⟨by rfl, ?_⟩) hS ?_
        rotate_left
        · (intro wS hSw; (try dsimp only at hSw); go_simp; try with_reducible rfl)
        try simp only [Act.put, List.setIfInBounds_toArray, List.set_cons_zero, List.set_cons_succ]
        refine AnyX.take (i := 9) (oi := _) (v := ?_) (by rw [List.getElem?_toArray]; rfl) (by kernel_rfl) (by kernel_rfl) (by kernel_rfl) (by kernel_rfl) (by kernel_rfl) (by exact fun _ _ _ h => h) (Or.inl ⟨by rfl, ?_⟩) hS ?_
        rotate_left
        · (intro wS hSw; (try dsimp only at hSw); go_simp; rw [hw9.out]; try with_reducible rfl)
        try simp only [Act.put, List.setIfInBounds_toArray, List.set_cons_zero, List.set_cons_succ]
        refine AnyX.only (i := 10) (o := _) (by kernel_rfl) (by rw [List.getElem?_toArray]; rfl) (fun K hK => ?_)
        go_simp
        have al : Below w29.heap.size w29 (w29.alloc (.cells #[.int .i64 ((total pre : Int) + (x.size : Int))] 3)) := by
          repeat refine Below.alloc ?_ (by simp <;> omega) _
          exact Below.refl _ _
        have n_R9 := Row.made w29 3 [.int .i64 ((total pre : Int) + (x.size : Int))]
        have hs_w30 : w29.heap.size < (w29.alloc (.cells #[.int .i64 ((total pre : Int) + (x.size : Int))] 3)).heap.size := by simp
        replace G1 := G1.below al
        replace G3 := G3.below al
        replace o2 := o2.below al
        replace hT := hT.below al
        replace S4 := S4.below al
        replace S5 := S5.below al
        replace S6 := S6.below al
        replace o6 := o6.below al
        replace hB := tr hB al (Nat.le_refl _)
        generalize (w29.alloc (.cells #[.int .i64 ((total pre : Int) + (x.size : Int))] 3)) = w30 at *
        have R9 := n_R9; clear n_R9
        clear al
        clear hS
        have hS : (fun w' => w'.cell? ⟨w.heap.size + 1 + 1, 0, none⟩ = some (.slice (some ⟨gb, off, none⟩) (pre.length + 1) ec) ∧ w'.cell? ⟨gb, off + pre.length, none⟩ = some (.int .i64 (total pre : Int))) w30 := ⟨G3.cells 0, ends_elem o2⟩
        refine hK.out _ _ (fun _ => hS) ?_
        clear hK K
        try simp only [Act.put, List.setIfInBounds_toArray, List.set_cons_zero, List.set_cons_succ]
        refine AnyX.only (i := 11) (o := _) (by kernel_rfl) (by rw [List.getElem?_toArray]; rfl) (fun K hK => ?_)
        have lF2 := o2.lt; have lF6 := o6.lt
        refine step_apd one_EInt (by decide) (by rfl) _ _ _ (by rfl) 3 (.int .i64 0) 8 Tryd.underlying66 info_int rfl (.slice (some ⟨gb, off, none⟩) (pre.length + 1) ec) (endsZ pre) F2 (by rfl) o2 (Hd.of n2) (some ⟨w29.heap.size, 0, none⟩) [(total pre : Int) + (x.size : Int)] 1 (by rfl) [.int .i64 ((total pre : Int) + (x.size : Int))] [] (Flat.one ⟨rfl, rfl⟩) (.inr ⟨_, rfl, R9.news⟩) (by simp) (by have := hel.out; simp; unfold maxLen; omega) (by have := hel.out; simp; omega) ?_
        intro v8 w31 F8 hA
        have o8 := hA.ow; have n8 := hA.nodup n2 (by simp) (by simp); have m8 := hA.mem; have K8 := hA.keep
        obtain ⟨a8, c8, hv8⟩ := hA.val
        clear hA
        have hv9 : v8 = .slice a8 (pre.length + 1 + 1) c8 := by rw [hv8, hel.out]; rfl
        subst hv9
        clear hv8
        have hs_w31 := K8.size
        have f8 : ∀ b ∈ F8, b = w.heap.size + 1 ∨ w1.heap.size + 1 < b := fun b hb => by
          rcases m8 b hb with h7 | h7 | h7
          · exact f2 b h7
          · simp at h7
          · omega
        have d8 : ∀ b ∈ F6, b ∉ F8 := fun b hb hm => by
          rcases m8 b hm with h7 | h7 | h7
          · exact d6 b hb h7
          · simp at h7
          · have := lF6 b hb; omega
        replace G1 := G1.keepK K8 (fun hm => by have := f2 _ hm; omega)
        replace G3 := G3.keepK K8 (fun hm => by have := f2 _ hm; omega)
        replace o6 := o6.keep K8 (fun b hb hm => d6 b hb hm)
        replace hT := hT.keep K8 (fun b hb hm => by have := f2 b hm; have := hnd b hb; omega)
        replace S4 := S4.keepK K8 (fun hm => by have := f2 _ hm; omega)
        replace S5 := S5.keepK K8 (fun hm => by have := f2 _ hm; omega)
        replace S6 := S6.keepK K8 (fun hm => by have := f2 _ hm; omega)
        replace hB := hB.trans (K8.below (B := w.heap.size) (by have := hB.size; omega) (fun b hb => by have := f2 b hb; omega))
        clear K8 m8 lF2 lF6 R9 o2
        refine hK.out _ _ (fun h => by cases h) ?_
        clear hK K
        try simp only [Act.put, List.setIfInBounds_toArray, List.set_cons_zero, List.set_cons_succ]
        refine AnyX.only (i := 12) (o := _) (by kernel_rfl) (by rw [List.getElem?_toArray]; rfl) (fun K hK => ?_)
        have c_G3 := G3.cells; have f_G3 := G3.frozens
        go_simp
        clear c_G3 f_G3
        refine hK.out _ _ (fun h => by cases h) ?_
        clear hK K
        try simp only [Act.put, List.setIfInBounds_toArray, List.set_cons_zero, List.set_cons_succ]
        refine AnyX.done (by kernel_rfl) ?_ _
        (try clear hS)
        have K9 : Keep [w.heap.size + 1 + 1] w31 (w31.setCell ⟨w.heap.size + 1 + 1, 0, none⟩ (.slice a8 (pre.length + 1 + 1) c8)) := (Keep.refl _ _).setCell (by simp) _
        have G3b : Row (w31.setCell ⟨w.heap.size + 1 + 1, 0, none⟩ (.slice a8 (pre.length + 1 + 1) c8)) (w.heap.size + 1 + 1) 66 [(.slice a8 (pre.length + 1 + 1) c8)] := G3.set 0 (.slice a8 (pre.length + 1 + 1) c8)
        replace G1 := G1.keepK K9 (by simp <;> omega)
        replace o6 := o6.keep K9 (fun b hb hm => by have := f6 b hb; simp at hm; omega)
        replace o8 := o8.keep K9 (fun b hb hm => by have := f8 b hb; simp at hm; omega)
        replace hT := hT.keep K9 (fun b hb hm => by have := hnd b hb; simp at hm; omega)
        replace S4 := S4.keepK K9 (by simp <;> omega)
        replace S5 := S5.keepK K9 (by simp <;> omega)
        replace S6 := S6.keepK K9 (by simp <;> omega)
        replace hB := hB.trans (K9.below (B := w.heap.size) (by have := hB.size; omega) (fun b hb => by simp at hb; omega))
        have hlen : (pre ++ [x]).length = pre.length + 1 := by simp
        have hmap : (pre ++ [x]).map recOf = pre.map recOf ++ [⟨cc, rr⟩] := by rw [List.map_append, ← hrec.out]; rfl
        refine ⟨fun k hk => ?_, ?_⟩
        · simp only [List.mem_cons, List.not_mem_nil, or_false] at hk
          rcases hk with rfl | rfl | rfl
          · exact S4.1
          · exact S5.1
          · exact S6.1
        · unfold RdI
          rw [hlen, hmap, endsZ_snoc, listsOf_snoc]
          exact ⟨a6, c6, F6, a8, c8, F8, G1, G3b, o6, n6, o8, n8, f6, f8, d8, hT, hB, Lib.hid (acc_snoc ha.out (by rw [listsOf_len, Nat.zero_add]; exact hok))⟩
      · have hno : okL pre.length x.data.toList = false := by unfold okL; rw [henc]; simpa using hyx
        have hne : ((bs y).toList == x.toList) = false := by rw [ByteArray.toList_eq, ByteArray.toList_eq, bs_list]; simpa using hyx
        have hE2 := hE.out
        rw [hres.out, henc] at hE2
        replace hE2 := Lib.hid hE2
        refine wpIn_seq_k (fun _ _ => ?_)
        refine wpIn_seq_k (fun _ _ => ?_)
        refine region_round (fun _ _ h => h) (by kernel_rfl) ?_
        have c_G1 := G1.cells; have f_G1 := G1.frozens
        have c_R8 := R8.cells; have f_R8 := R8.frozens
        go_wp2_with fail
        clear c_G1 f_G1 c_R8 f_R8
        refine (hE2.out _ _ ⟨_, rfl, rfl, sc, sr, rfl⟩ hT).mono ?_
        rintro e w32 ⟨rfl, hb⟩
        have hs_w32 := hb.size
        clear hE hE2
        replace G1 := G1.below hb
        replace G3 := G3.below hb
        replace R8 := R8.below hb
        replace o1 := o1.below hb
        replace o2 := o2.below hb
        replace hT := hT.below hb
        replace S4 := S4.below hb
        replace S5 := S5.below hb
        replace S6 := S6.below hb
        replace hB := tr hB hb (Nat.le_refl _)
        clear hb
        go_wp2_with fail
        refine wpIn_seq_k (fun _ _ => ?_)
        refine region_round (fun _ _ h => h) (by kernel_rfl) ?_
        go_wp2_with fail
        refine wpIn_cond_true rfl ?_
        refine wpIn_exit ?_
        refine ⟨fun k hk => ?_, rfl, pre, x, rfl, ⟨lo, lc, F1, eo, ec, F2, G1, G3, o1, n1, o2, n2, f1, f2, dd, hT, hB, ha⟩, hno⟩
        simp only [List.mem_cons, List.not_mem_nil, or_false] at hk
        rcases hk with rfl | rfl | rfl
        · exact S4.1
        · exact S5.1
        · exact S6.1
  case hdone =>
    intro W hi hD
    obtain ⟨lo, lc, eo, ec, r1, r3, hp⟩ := RdI.post (s := s) (by omega) (opened_all hi.acc) hi
    replace hp := Lib.hid hp
    clear R1 R2 R3 R4 hT hB h0 hi
    have c1 := r1.cells; have c3 := r3.cells
    go_wp2_with fail
    go_quiet (fail)
    go_wp2_with fail
    refine ⟨by simp, .inl ⟨_, _, rfl, run_takeDeferred (show (World.drewN W nq).heap[w1.heap.size]? = _ from hD), ?_⟩⟩
    refine ⟨_, ?_, hp.out _ ⟨rfl, rfl, rfl, by simp [World.drewN], fun k hk hm => World.putObj_heap_other (by simpa using hm)⟩⟩
    simp [results, Tryd.results48, go_sem]
  case hstop =>
    intro c pre post x W hxs hix hD
    obtain ⟨rfl, pre', x', hy, hi, hok⟩ := hix
    obtain ⟨rfl, hxx⟩ := List.append_inj' hy rfl
    simp only [List.cons.injEq, and_true] at hxx
    subst hxx
    obtain ⟨lo, lc, eo, ec, r1, r3, hp⟩ := RdI.post (s := s) (by omega) (opened_stop hxs hi.acc hok) hi
    replace hp := Lib.hid hp
    clear R1 R2 R3 R4 hT hB h0 hi hxs hy
    refine wpIn_exit ?_
    have c1 := r1.cells; have c3 := r3.cells
    go_wp2_with fail
    go_quiet (fail)
    go_wp2_with fail
    refine ⟨by simp, .inl ⟨_, _, rfl, run_takeDeferred (show (World.drewN W nq).heap[w1.heap.size]? = _ from hD), ?_⟩⟩
    refine ⟨_, ?_, hp.out _ ⟨rfl, rfl, rfl, by simp [World.drewN], fun k hk hm => World.putObj_heap_other (by simpa using hm)⟩⟩
    simp [results, Tryd.results48, go_sem]
end Go.Proofs.YtnmgaponnfjciaaDoor
