/- Part 3 of the proof: 30 texts, one behind the other. -/
import Derived.Lib.SliceRun
import Derived.Laws.IdiomStrings
import Derived.Laws.Bits64b
import Derived.Test.YtgogcgkocjpgoaaGreatDoorM2
/- The type Receiver of the exact laws: how it reads, how it is owned; the walks of its size, copy, equality, mark and held. Written by wip/gentypes.py. -/
namespace Go.Proofs.YtgogcgkocjpgoaaGreatDoor
open Go.RowKit
structure Receiver where
  started : Bool
  clock : Int
  window : ReceiveWindow
  requests : List Request
/-- read -/
def EReceiver : Elem Receiver where
  sz := 5
  rep w cs x F := ∃ v1 v2 F1 F2, cs = [.bool x.started, .int .i64 x.clock, .int .i64 x.window.next, v1, v2] ∧ Sl ESlot w v1 x.window.slots F1 ∧ Sl ERequest w v2 x.requests F2 ∧ F = F1 ++ F2
  len h := by obtain ⟨v1, v2, F1, F2, rfl, h1, h2, rfl⟩ := h; rfl
  lt h := by
    obtain ⟨v1, v2, F1, F2, rfl, h1, h2, rfl⟩ := h
    intro b hb
    simp only [List.mem_append] at hb
    rcases hb with hb | hb
    · exact h1.lt (by decide) b hb
    · exact h2.lt (by decide) b hb
  frame h hF := by obtain ⟨v1, v2, F1, F2, rfl, h1, h2, rfl⟩ := h; exact ⟨v1, v2, F1, F2, rfl, h1.frame fun b hb => hF b (by simp [hb]), h2.frame fun b hb => hF b (by simp [hb]), rfl⟩
theorem one_EReceiver : One EReceiver := fun h u hu => by
  obtain ⟨v1, v2, F1, F2, rfl, h1, h2, rfl⟩ := h
  simp only [List.mem_cons, List.not_mem_nil, or_false] at hu
  rcases hu with rfl | rfl | rfl | rfl | rfl
  · rfl
  · rfl
  · rfl
  · exact h1.one
  · exact h2.one
/-- owned -/
def OReceiver : Elem Receiver where
  sz := 5
  rep w cs x F := ∃ v1 v2 F1 F2, cs = [.bool x.started, .int .i64 x.clock, .int .i64 x.window.next, v1, v2] ∧ Ow ESlot 213 w v1 x.window.slots F1 ∧ Ow ERequest 152 w v2 x.requests F2 ∧ F = F1 ++ F2
  len h := by obtain ⟨v1, v2, F1, F2, rfl, h1, h2, rfl⟩ := h; rfl
  lt h := by
    obtain ⟨v1, v2, F1, F2, rfl, h1, h2, rfl⟩ := h
    intro b hb
    simp only [List.mem_append] at hb
    rcases hb with hb | hb
    · exact h1.lt b hb
    · exact h2.lt b hb
  frame h hF := by obtain ⟨v1, v2, F1, F2, rfl, h1, h2, rfl⟩ := h; exact ⟨v1, v2, F1, F2, rfl, h1.frame fun b hb => hF b (by simp [hb]), h2.frame fun b hb => hF b (by simp [hb]), rfl⟩
theorem one_OReceiver : One OReceiver := fun h u hu => by
  obtain ⟨v1, v2, F1, F2, rfl, h1, h2, rfl⟩ := h
  simp only [List.mem_cons, List.not_mem_nil, or_false] at hu
  rcases hu with rfl | rfl | rfl | rfl | rfl
  · rfl
  · rfl
  · rfl
  · exact h1.one
  · exact h2.one
theorem weak_Receiver : Weak OReceiver EReceiver := ⟨rfl, fun h => by
  obtain ⟨v1, v2, F1, F2, rfl, h1, h2, rfl⟩ := h
  obtain ⟨G1, g1, k1⟩ := h1.sl (Weak.refl _)
  obtain ⟨G2, g2, k2⟩ := h2.sl (Weak.refl _)
  refine ⟨G1 ++ G2, ?_, v1, v2, G1, G2, rfl, k1, k2, rfl⟩
  intro b hb
  simp only [List.mem_append] at hb ⊢
  rcases hb with hb | hb
  · simp [g1 b hb]
  · simp [g2 b hb]⟩
def wtReceiver (x : Receiver) : Nat := wtReceiveWindow x.window + wtL (fun _ => 0) x.requests
/-- the marks of a value: its slices alone -/
def cvReceiver (x : Receiver) : Nat := cvReceiveWindow x.window + (cntL cntRequest) x.requests
def mvReceiver (k : Int) (x : Receiver) : Receiver := ⟨x.started, x.clock, mvReceiveWindow (k) x.window, (markL mkRequest cntRequest) (k + cvReceiveWindow x.window) x.requests⟩
theorem cvReceiver_wt (x : Receiver) (h : wtReceiver x ≤ 1048576) : cvReceiver x ≤ 4294967296 := by
  have h0 := cntL_wt cntSlot wtSlot 2 cntSlot_wt x.window.slots
  have h1 := cntL_wt cntRequest (fun _ => 0) 4 cntRequest_wt x.requests
  simp only [wtReceiver, wtReceiveWindow, cvReceiver, cvReceiveWindow] at h ⊢
  omega
set_option maxHeartbeats 800000 in
theorem szReceiver_c (v : Value) (x : Receiver) (F : List Nat) (n : Int) (w : World) (h : IsV EReceiver w v x F) (h0 : 0 ≤ n) (h1 : n ≤ 1048576) :
    Calls Tryz.prog 24 #[v, .int .i64 n] w fun e w' => e = .returned (.int .i64 (szr n (wtReceiver x))) ∧ Below w.heap.size w w' := by
  obtain ⟨_, rfl, v1, v2, F1, F2, rfl, h1, h2, rfl⟩ := h
  have hB0 : ∀ A : Obj, Below w.heap.size w (w.alloc A) := fun A => (Below.refl _ _).alloc (Nat.le_refl _) _
  unfold wtReceiver
  go_enter Tryz.func24, Tryz.ntmps24
  go_wp2_with fail
  refine (szReceiveWindow_c _ x.window _ _ _ ⟨_, rfl, _, rfl, h1.below (by decide) (hB0 _)⟩ (by omega) (by omega)).mono ?_
  rintro e w1 ⟨rfl, hb1⟩
  have r0 := Row.below (g := w.heap.size) (t := 42) (cs := [.bool x.started, .int .i64 x.clock, .int .i64 x.window.next, v1, v2]) (by simp [row_alloc]) hb1
  have hB := tr (hB0 _) hb1 (Nat.le_refl _)
  have c0 := r0.cells
  clear hb1
  rcases szr_or (n) (wtReceiveWindow x.window) with ⟨e1, l1⟩ | ⟨e1, l1⟩
  · simp only [e1]
    have z1 := Lib.hid e1; clear e1
    go_wp2_with fail
    go_ret
    exact ⟨ret_int (szr_no (by omega)).symm, hB⟩
  simp only [e1]
  have z1 := Lib.hid e1; clear e1
  go_wp2_with fail
  refine (szRequestS_c _ x.requests _ _ _ (h2.below (by decide) hB) (by omega) (by omega)).mono ?_
  rintro e w2 ⟨rfl, hb2⟩
  have r0 := r0.below hb2
  have hB := tr hB hb2 (Nat.le_refl _)
  have c0 := r0.cells
  clear hb2
  rcases szr_or (n - (wtReceiveWindow x.window : Nat)) (wtL (fun _ => 0) x.requests) with ⟨e2, l2⟩ | ⟨e2, l2⟩
  · simp only [e2]
    have z2 := Lib.hid e2; clear e2
    go_wp2_with fail
    go_ret
    exact ⟨ret_int (szr_no (by omega)).symm, hB⟩
  simp only [e2]
  have z2 := Lib.hid e2; clear e2
  go_wp2_with fail
  go_ret
  exact ⟨ret_int (by rw [szr_yes (by omega)]; all_goals omega), hB⟩
set_option maxHeartbeats 1600000 in
theorem toReceiver_c (v : Value) (x : Receiver) (F : List Nat) (w : World) (h : IsV EReceiver w v x F) (hl : wtReceiver x ≤ 1048576) :
    Calls Tryz.prog 26 #[v] w (RetV OReceiver x w) := by
  obtain ⟨_, rfl, v1, v2, F1, F2, rfl, h1, h2, rfl⟩ := h
  unfold wtReceiver at hl
  have hB0 : ∀ A B C : Obj, Below w.heap.size w (((w.alloc A).alloc B).alloc C) := fun A B C => (((Below.refl _ _).alloc (Nat.le_refl _) _).alloc (by simp) _).alloc (by simp <;> omega) _
  go_enter Tryz.func26, Tryz.ntmps26
  go_wp2_with fail
  refine (toReceiveWindow_c _ x.window _ _ ⟨_, rfl, _, rfl, h1.below (by decide) (hB0 _ _ _)⟩ (by omega)).mono ?_
  rintro e w1 ⟨_, K1, rfl, ⟨_, rfl, y1_1, rfl, o1_1⟩, n1, g1, hb1⟩
  obtain ⟨d1_1, p1_1, rfl⟩ := o1_1.slice
  have l1 : ∀ b ∈ K1, b < w1.heap.size := o1_1.lt
  have r0 := Row.below (g := w.heap.size) (t := 42) (cs := [.bool x.started, .int .i64 x.clock, .int .i64 x.window.next, v1, v2]) (by simp [row_alloc] <;> omega) hb1
  have r1 := Row.below (g := w.heap.size + 1) (t := 49) (cs := [.bool false, .int .i64 0, .int .i64 0, .slice none 0 0, .slice none 0 0]) (by simp [row_alloc] <;> omega) hb1
  have r2 := Row.below (g := w.heap.size + 1 + 1) (t := 49) (cs := [.bool x.started, .int .i64 x.clock, .int .i64 0, .slice none 0 0, .slice none 0 0]) (by simp [row_alloc] <;> omega) hb1
  have hB := tr (hB0 _ _ _) hb1 (Nat.le_refl _)
  have hs1 := hb1.size
  simp only [World.size_alloc] at hs1 g1
  clear hb1
  have c0 := r0.cells; have c1 := r1.cells; have c2 := r2.cells; have f1 := r1.frozens; have f2 := r2.frozens
  have o1_1_ := Lib.hid o1_1
  go_wp2_with fail
  refine (toRequestS_c _ x.requests _ _ (h2.below (by decide) (by (repeat (refine Below.setCell ?_ (by simp <;> omega) _)); exact hB)) (by omega)).mono ?_
  rintro e w2 ⟨y2, K2, rfl, o2, n2, g2, hb2⟩
  obtain ⟨d2, p2, rfl⟩ := o2.slice
  have l2 : ∀ b ∈ K2, b < w2.heap.size := o2.lt
  have r0 := Row.below (g := w.heap.size) (t := 42) (cs := [.bool x.started, .int .i64 x.clock, .int .i64 x.window.next, v1, v2]) (by (repeat (refine Row.setOther ?_ (by simp <;> omega) _)); exact r0) hb2
  have r1 := Row.below (g := w.heap.size + 1) (t := 49) (cs := [.bool false, .int .i64 0, .int .i64 0, .slice none 0 0, .slice none 0 0]) (by (repeat (refine Row.setOther ?_ (by simp <;> omega) _)); exact r1) hb2
  have r2 := Row.below (g := w.heap.size + 1 + 1) (t := 49) (cs := [.bool x.started, .int .i64 x.clock, .int .i64 x.window.next, .slice d1_1 x.window.slots.length p1_1, .slice none 0 0]) (by exact (Row.set (Row.set r2 2 (.int .i64 x.window.next)) 3 (.slice d1_1 x.window.slots.length p1_1))) hb2
  have o1_1 := Ow.below (E := ESlot) (t := 213) (v := .slice d1_1 x.window.slots.length p1_1) (xs := x.window.slots) (F := K1) (by (repeat (refine Ow.setFar ?_ (fun hm => by have := g1 _ hm; simp at this <;> omega) _)); exact o1_1) hb2
  have hB := tr (B := w.heap.size) (w := w) (by (repeat (refine Below.setCell ?_ (by simp <;> omega) _)); exact hB) hb2 (Nat.le_refl _)
  have hs2 := hb2.size
  simp only [World.size_setCell] at hs2 g2
  clear hb2
  have c0 := r0.cells; have c1 := r1.cells; have c2 := r2.cells; have f1 := r1.frozens; have f2 := r2.frozens
  have o2_ := Lib.hid o2
  go_wp2_with fail
  refine bodyPost_ret (v := .agg #[.bool x.started, .int .i64 x.clock, .int .i64 x.window.next, .slice d1_1 x.window.slots.length p1_1, .slice d2 x.requests.length p2]) ?_ rfl ?_
  · simp [results, Tryz.results26, go_sem, c0, c1, c2, f1, f2]
  · refine ⟨_, K1 ++ K2, rfl, ⟨_, rfl, _, _, K1, K2, rfl, ?_, ?_, rfl⟩, ?_, ?_, ?_⟩
    · repeat refine Ow.setFar ?_ (fun hm => by have := g1 _ hm; simp at this <;> omega) _
      exact o1_1
    · repeat refine Ow.setFar ?_ (fun hm => by have := g2 _ hm; simp at this <;> omega) _
      exact o2
    · simpa only [List.append_assoc] using (nodup_up n1 n2 (fun b hb => by have := l1 b hb; omega) g2)
    · intro b hb
      simp only [List.mem_append] at hb
      rcases hb with hb | hb
      · have := g1 b hb; omega
      · have := g2 b hb; omega
    · repeat refine Below.setCell ?_ (by simp <;> omega) _
      exact hB
set_option maxHeartbeats 1600000 in
theorem eqReceiver_c (va vb : Value) (x : Receiver) (Fa Fb : List Nat) (w : World) (ha : IsV EReceiver w va x Fa) (hb : IsV EReceiver w vb x Fb) :
    Calls Tryz.prog 28 #[va, vb] w fun e w' => e = .returned (.bool true) ∧ Below w.heap.size w w' := by
  obtain ⟨_, rfl, v1, v2, F1, F2, rfl, h1, h2, rfl⟩ := ha
  obtain ⟨_, rfl, u1, u2, G1, G2, rfl, k1, k2, rfl⟩ := hb
  have hB0 : ∀ A B : Obj, Below w.heap.size w ((w.alloc A).alloc B) := fun A B => ((Below.refl _ _).alloc (Nat.le_refl _) _).alloc (by simp) _
  have hE : ∀ z : Int, (z != z) = false := fun z => by simp
  go_enter Tryz.func28, Tryz.ntmps28
  go_wp2_with fail
  refine (eqReceiveWindow_c _ _ x.window _ _ _ ⟨_, rfl, _, rfl, h1.below (by decide) (hB0 _ _)⟩ ⟨_, rfl, _, rfl, k1.below (by decide) (hB0 _ _)⟩).mono ?_
  rintro e w1 ⟨rfl, hb1⟩
  have r0 := Row.below (g := w.heap.size) (t := 49) (cs := [.bool x.started, .int .i64 x.clock, .int .i64 x.window.next, v1, v2]) (by simp [row_alloc] <;> omega) hb1
  have r1 := Row.below (g := w.heap.size + 1) (t := 49) (cs := [.bool x.started, .int .i64 x.clock, .int .i64 x.window.next, u1, u2]) (by simp [row_alloc] <;> omega) hb1
  have hB := tr (hB0 _ _) hb1 (Nat.le_refl _)
  clear hb1
  have c0 := r0.cells; have c1 := r1.cells
  go_wp2_with fail
  refine (eqRequestS_c _ _ x.requests _ _ _ (h2.below (by decide) hB) (k2.below (by decide) hB)).mono ?_
  rintro e w2 ⟨rfl, hb2⟩
  have r0 := r0.below hb2; have r1 := r1.below hb2; have hB := tr hB hb2 (Nat.le_refl _)
  clear hb2
  have c0 := r0.cells; have c1 := r1.cells
  go_wp2_with fail
  go_ret
  exact ⟨rfl, hB⟩
set_option maxHeartbeats 1600000 in
theorem markReceiver_c (v : Value) (x : Receiver) (F : List Nat) (k0 : Int) (w : World) (h : IsV OReceiver w v x F) (hn : F.Nodup) (p0 : 0 ≤ k0) (p1 : k0 + cvReceiver x ≤ 1099511627776) :
    Calls Tryz.prog 31 #[v, .int .i64 k0] w (RetMarkV OReceiver v (k0 + cvReceiver x) (mvReceiver k0 x) F w) := by
  have hlt : ∀ b ∈ F, b < w.heap.size := by obtain ⟨cs, -, hx⟩ := h; exact OReceiver.lt hx
  obtain ⟨_, rfl, v1, v2, F1, F2, rfl, h1, h2, rfl⟩ := h
  unfold cvReceiver at p1 ⊢
  have hB0 : ∀ A : Obj, Below w.heap.size w (w.alloc A) := fun A => (Below.refl _ _).alloc (Nat.le_refl _) _
  have hw : w.heap.size ∉ F1 ++ F2 := fun e => by have := hlt _ e; omega
  obtain ⟨nF1, nF2, dF2⟩ := nodup_apart hn
  have w1_ : w.heap.size ∉ F1 := fun e => hw (by simp [e])
  have w2_ : w.heap.size ∉ F2 := fun e => hw (by simp [e])
  go_enter Tryz.func31, Tryz.ntmps31
  go_wp2_with fail
  refine (markReceiveWindow_c _ x.window F1 (k0) _ ⟨_, rfl, _, rfl, h1.below (hB0 _)⟩ nF1 (by omega) (by omega)).mono ?_
  rintro e w1 ⟨rfl, ⟨cs_, hcs_, hx_⟩, kp1⟩
  obtain ⟨q1_, rfl, o1⟩ := hx_
  obtain rfl : v1 = q1_ := by have := congrArg Value.cells hcs_; simp [Value.cells] at this; first | exact this | exact this.1 | exact this.2 | exact this.2.1 | exact this.2.2
  have r0 := Row.keepK (g := w.heap.size) (t := 49) (cs := [.bool x.started, .int .i64 x.clock, .int .i64 x.window.next, v1, v2]) (by simp [row_alloc]) kp1 w1_
  have h2 := Ow.keep (h2.below (hB0 _)) kp1 (fun b hb hc => dF2 b (by simp [hc]) hb)
  have KK : Keep (F1 ++ F2) w w1 := (Keep.ofBelow (hB0 _)).trans (kp1.mono (fun b hb _ => by simp [hb]))
  clear kp1
  have c0 := r0.cells
  go_wp2_with fail
  refine (markRequestS_c _ x.requests _ (k0 + cvReceiveWindow x.window) _ h2 nF2 (by omega) (by omega)).mono ?_
  rintro e w2 ⟨rfl, o2, kp2⟩
  have r0 := r0.keepK kp2 w2_
  have o1 := Ow.keep o1 kp2 (fun b hb => dF2 b (by simp [hb]))
  have KK := KK.trans (kp2.mono (fun b hb _ => by simp [hb]))
  clear kp2
  have c0 := r0.cells
  go_wp2_with fail
  go_ret
  exact ⟨ret_int (by omega), ⟨_, rfl, _, _, F1, F2, rfl, o1, o2, rfl⟩, KK⟩
set_option maxHeartbeats 1600000 in
theorem heldReceiver_c (v : Value) (x : Receiver) (F : List Nat) (k0 : Int) (w : World) (h : IsV EReceiver w v (mvReceiver k0 x) F) (p0 : 0 ≤ k0) (p1 : k0 + cvReceiver x ≤ 1099511627776) :
    Calls Tryz.prog 34 #[v, .int .i64 k0] w fun e w' => e = .returned (.int .i64 (k0 + cvReceiver x)) ∧ Below w.heap.size w w' := by
  obtain ⟨_, rfl, v1, v2, F1, F2, rfl, h1, h2, rfl⟩ := h
  unfold cvReceiver at p1 ⊢
  have hB0 : ∀ A : Obj, Below w.heap.size w (w.alloc A) := fun A => (Below.refl _ _).alloc (Nat.le_refl _) _
  go_enter Tryz.func34, Tryz.ntmps34
  go_wp2_with fail
  refine (heldReceiveWindow_c _ x.window _ (k0) _ ⟨_, rfl, _, rfl, h1.below (by decide) (hB0 _)⟩ (by omega) (by omega)).mono ?_
  rintro e w1 ⟨rfl, hb1⟩
  have r0 := Row.below (g := w.heap.size) (t := 49) (cs := [.bool x.started, .int .i64 x.clock, .int .i64 x.window.next, v1, v2]) (by simp [row_alloc, mvReceiver, mvReceiveWindow]) hb1
  have hB := tr (hB0 _) hb1 (Nat.le_refl _)
  clear hb1
  have c0 := r0.cells
  go_wp2_with fail
  refine (heldRequestS_c _ x.requests _ (k0 + cvReceiveWindow x.window) _ (h2.below (by decide) hB) (by omega) (by omega)).mono ?_
  rintro e w2 ⟨rfl, hb2⟩
  have r0 := r0.below hb2; have hB := tr hB hb2 (Nat.le_refl _)
  clear hb2
  have c0 := r0.cells
  go_wp2_with fail
  go_ret
  exact ⟨ret_int (by omega), hB⟩
end Go.Proofs.YtgogcgkocjpgoaaGreatDoor
/- The type Packet of the exact laws: how it reads, how it is owned; the walks of its size, copy, equality, mark and held. Written by wip/gentypes.py. -/
namespace Go.Proofs.YtgogcgkocjpgoaaGreatDoor
open Go.RowKit
structure Packet where
  kind : Int
  number : Int
  trail : Int
  lead : Int
  data : ByteArray
/-- read -/
def EPacket : Elem Packet where
  sz := 5
  rep _ cs x F := cs = [.int .i64 x.kind, .int .i64 x.number, .int .i64 x.trail, .int .i64 x.lead, .string x.data] ∧ x.data.size ≤ maxLen ∧ F = []
  len h := by obtain ⟨rfl, s1, rfl⟩ := h; rfl
  lt h := by obtain ⟨rfl, s1, rfl⟩ := h; simp
  frame h _ := h
theorem info_Packet : (Tryz.prog.info? 67).map (fun i => (i.zero, i.size, i.bytes)) = some (some (.agg #[.int .i64 0, .int .i64 0, .int .i64 0, .int .i64 0, .string ⟨#[]⟩]), 5, 48) := by kernel_rfl
def wtPacket (x : Packet) : Nat := x.data.size
def cntPacket (x : Packet) : Nat := cntI x.kind + cntI x.number + cntI x.trail + cntI x.lead + cntS x.data
def mkPacket (k : Int) (x : Packet) : Packet := ⟨mkI (k) x.kind, mkI (k + cntI x.kind) x.number, mkI (k + cntI x.kind + cntI x.number) x.trail, mkI (k + cntI x.kind + cntI x.number + cntI x.trail) x.lead, mkS (k + cntI x.kind + cntI x.number + cntI x.trail + cntI x.lead) x.data⟩
theorem cntPacket_wt (x : Packet) : cntPacket x ≤ 5 * (1 + wtPacket x) := by
  simp only [cntPacket, wtPacket, cntI, cntB, cntS]
  omega
theorem cntPacketS_wt (xs : List Packet) (h : wtL wtPacket xs ≤ 1048576) : cntL cntPacket xs ≤ 4294967296 := by
  have := cntL_wt cntPacket wtPacket 5 cntPacket_wt xs; omega
set_option maxHeartbeats 800000 in
theorem szPacket_c (v : Value) (x : Packet) (F : List Nat) (n : Int) (w : World) (h : IsV EPacket w v x F) (h0 : 0 ≤ n) (h1 : n ≤ 1048576) :
    Calls Tryz.prog 37 #[v, .int .i64 n] w fun e w' => e = .returned (.int .i64 (szr n (wtPacket x))) ∧ Below w.heap.size w w' := by
  obtain ⟨_, rfl, rfl, s1, rfl⟩ := h
  have hB0 : ∀ A : Obj, Below w.heap.size w (w.alloc A) := fun A => (Below.refl _ _).alloc (Nat.le_refl _) _
  unfold maxLen at s1
  unfold wtPacket
  go_enter Tryz.func37, Tryz.ntmps37
  go_wp2
  all_goals go_ret
  all_goals exact ⟨ret_int (by unfold szr; split <;> omega), hB0 _⟩
set_option maxHeartbeats 800000 in
theorem szPacketS_c (v : Value) (xs : List Packet) (F : List Nat) (n : Int) (w : World) (h : Sl EPacket w v xs F) (h0 : 0 ≤ n) (h1 : n ≤ 1048576) :
    Calls Tryz.prog 41 #[v, .int .i64 n] w fun e w' => e = .returned (.int .i64 (szr n (wtL wtPacket xs))) ∧ Below w.heap.size w w' := by
  obtain ⟨a, cap, rfl⟩ := h.slice
  have hl := h.len
  unfold maxLen at hl
  go_enter Tryz.func41, Tryz.ntmps41
  by_cases hn : n < xs.length
  · go_wp2
    go_ret
    exact ⟨ret_int (szr_no (by have := wtL_le wtPacket xs 0; omega)).symm, Below.refl _ _⟩
  go_wp2
  go_loopw [1, 5] (fun l i wr => ∃ k : Nat, k ≤ xs.length ∧ i = .int .i64 k ∧ l = .int .i64 (n - xs.length - psum wtPacket xs k) ∧ (psum wtPacket xs k : Int) + xs.length ≤ n ∧ Below w.heap.size w wr) (fun _ i _ => xs.length - (intOf i).toNat)
  case atStart => exact ⟨0, Nat.zero_le _, rfl, by rw [psum_zero]; simp, by rw [psum_zero]; omega, Below.refl _ _⟩
  case round =>
    obtain ⟨k, hk, rfl, rfl, hle, hB⟩ := hrel
    by_cases hlt : k < xs.length
    · have hsn := psum_snoc wtPacket xs k hlt
      have hsl := wtL_le wtPacket xs (k + 1)
      obtain ⟨b, off, _, F1, rfl, hx, -, ja⟩ := (h.below (by decide) hB).at k hlt
      obtain ⟨rfl, s1, rfl⟩ := id hx
      have a0 := ja 0 (by decide)
      have a1 := ja 1 (by decide)
      have a2 := ja 2 (by decide)
      have a3 := ja 3 (by decide)
      have a4 := ja 4 (by decide)
      simp only [show EPacket.sz = 5 from rfl, Nat.mul_one, Nat.add_zero, List.getElem?_cons_zero, List.getElem?_cons_succ] at a0 a1 a2 a3 a4
      clear ja
      have hS := Lib.hid hsn; clear hsn
      go_wp2_with fail
      refine (szPacket_c _ xs[k] _ _ _ ⟨_, rfl, hx⟩ (by omega) (by omega)).mono ?_
      rintro e w1 ⟨rfl, hb1⟩
      have hB := tr hB hb1 (Nat.le_refl _)
      rcases szr_or (n - xs.length - psum wtPacket xs k) (wtPacket xs[k]) with ⟨e1, l1⟩ | ⟨e1, l1⟩
      · simp only [e1]
        have z1 := Lib.hid e1; clear e1
        go_wp2_with fail
        go_ret
        exact ⟨ret_int (szr_no (by have := hS.out; omega)).symm, hB⟩
      · simp only [e1]
        have z1 := Lib.hid e1; clear e1
        go_wp2_with fail
        exact ⟨⟨k + 1, by omega, by go_num, congrArg (Value.int .i64) (by have := hS.out; omega), by have := hS.out; omega, hB⟩, by simp [intOf]; omega⟩
    · have hk : k = xs.length := by omega
      subst hk
      go_wp2_with fail
      go_ret
      exact ⟨ret_int (by rw [szr_yes (by rw [wtL_eq]; omega), wtL_eq]; all_goals omega), hB⟩
set_option maxHeartbeats 1600000 in
theorem toPacket_c (v : Value) (x : Packet) (F : List Nat) (w : World) (h : IsV EPacket w v x F) (hl : wtPacket x ≤ 1048576) :
    Calls Tryz.prog 39 #[v] w (RetV EPacket x w) := by
  obtain ⟨_, rfl, rfl, s1, rfl⟩ := h
  have hB0 : ∀ A B C : Obj, Below w.heap.size w (((w.alloc A).alloc B).alloc C) := fun A B C => (((Below.refl _ _).alloc (Nat.le_refl _) _).alloc (by simp) _).alloc (by simp <;> omega) _
  go_enter Tryz.func39, Tryz.ntmps39
  go_wp2_with fail
  refine bodyPost_ret (v := .agg #[.int .i64 x.kind, .int .i64 x.number, .int .i64 x.trail, .int .i64 x.lead, .string x.data]) ?_ rfl ?_
  · simp [results, Tryz.results39, go_sem]
  · exact ⟨_, [], rfl, ⟨_, rfl, rfl, s1, rfl⟩, by simp, by simp, by repeat (first | exact Below.refl _ _ | refine Below.setCell ?_ (by simp <;> omega) _ | refine Below.alloc ?_ (by simp <;> omega) _)⟩
set_option maxHeartbeats 1600000 in
theorem toPacketS_c (v : Value) (xs : List Packet) (F : List Nat) (w : World) (h : Sl EPacket w v xs F) (hl1 : wtL wtPacket xs ≤ 1048576) :
    Calls Tryz.prog 43 #[v] w (RetNew EPacket 67 xs w) := by
  obtain ⟨a, cap, rfl⟩ := h.slice
  have hl2 : xs.length ≤ 1048576 := by unfold wtL at hl1; omega
  have hmk := fun w => run_make_rows (P := Tryz.prog) 50 67 (.agg #[.int .i64 0, .int .i64 0, .int .i64 0, .int .i64 0, .string ⟨#[]⟩]) 5 48 Tryz.underlying50 info_Packet xs.length (by omega) (by omega) w
  have hm := Lib.hid (Ow.made (E := EPacket) (t := 67) w #[.int .i64 0, .int .i64 0, .int .i64 0, .int .i64 0, .string ⟨#[]⟩] xs.length (⟨0, 0, 0, 0, ⟨#[]⟩⟩ : Packet) rfl (fun _ => ⟨rfl, (Nat.zero_le _), rfl⟩) (by unfold maxLen; omega))
  go_enter Tryz.func43, Tryz.ntmps43
  go_wp2
  clear hmk
  go_loopw [4] (fun i wr => ∃ k : Nat, k ≤ xs.length ∧ i = .int .i64 k ∧ ∃ F, Ow EPacket 67 wr (.slice (some ⟨w.heap.size, 0, none⟩) xs.length xs.length) (xs.take k ++ List.replicate (xs.length - k) (⟨0, 0, 0, 0, ⟨#[]⟩⟩ : Packet)) F ∧ F.Nodup ∧ (∀ b ∈ F, w.heap.size ≤ b) ∧ Below w.heap.size w wr) (fun i _ => xs.length - (intOf i).toNat)
  case atStart => exact ⟨0, Nat.zero_le _, rfl, _, by simpa [show EPacket.sz = 5 from rfl, Value.cells] using hm.out, by simp, by simp, (Below.refl _ _).alloc (Nat.le_refl _) _⟩
  case round =>
    obtain ⟨k, hk, rfl, F2, ho, hn, hF, hB⟩ := hrel
    by_cases hlt : k < xs.length
    · obtain ⟨b, off, _, F1, rfl, hx, -, ja⟩ := (h.below (by decide) hB).at k hlt
      obtain ⟨rfl, s1, rfl⟩ := id hx
      have a0 := ja 0 (by decide)
      have a1 := ja 1 (by decide)
      have a2 := ja 2 (by decide)
      have a3 := ja 3 (by decide)
      have a4 := ja 4 (by decide)
      simp only [show EPacket.sz = 5 from rfl, Nat.mul_one, Nat.add_zero, List.getElem?_cons_zero, List.getElem?_cons_succ] at a0 a1 a2 a3 a4
      clear ja
      have hst := Lib.hid (set_take_rep xs (⟨0, 0, 0, 0, ⟨#[]⟩⟩ : Packet) k xs.length rfl hlt xs[k] (by simp))
      have hws : wtPacket xs[k] ≤ 1048576 := by have := psum_snoc wtPacket xs k hlt; have := wtL_le wtPacket xs (k + 1); omega
      have HO0 := Lib.hid ho
      clear ho
      go_wp2_with fail
      refine (toPacket_c _ xs[k] _ _ ⟨_, rfl, hx⟩ hws).mono ?_
      rintro e w1 ⟨_, K, rfl, ⟨cs1, rfl, oo⟩, nn, gg, hb1⟩
      have ho := HO0.out.below hb1
      obtain ⟨hgF, hcell, hput⟩ := ho.put hn k (by simp; omega)
      have hlt2 := HO0.out.lt
      obtain ⟨F3, ho3, hn3, hs3⟩ := hput cs1 xs[k] K oo nn (fun b hb hc => by have := gg b hb; have := hlt2 b hc; omega)
      obtain ⟨rfl, -, rfl⟩ := id oo
      rw [hst.out] at ho3
      simp only [show EPacket.sz = 5 from rfl, Nat.mul_one, putCells] at ho3
      obtain ⟨⟨q0_, z0⟩, f0⟩ := hcell 0 (by decide)
      obtain ⟨⟨q1_, z1⟩, f1⟩ := hcell 1 (by decide)
      obtain ⟨⟨q2_, z2⟩, f2⟩ := hcell 2 (by decide)
      obtain ⟨⟨q3_, z3⟩, f3⟩ := hcell 3 (by decide)
      obtain ⟨⟨q4_, z4⟩, f4⟩ := hcell 4 (by decide)
      simp only [show EPacket.sz = 5 from rfl, Nat.mul_one, Nat.add_zero] at z0 f0 z1 f1 z2 f2 z3 f3 z4 f4
      have HO := Lib.hid ho3
      have hB1 := tr hB hb1 (Nat.le_refl _)
      have hF3 : ∀ b ∈ F3, w.heap.size ≤ b := fun b hb => by
        rcases hs3 b hb with hb | hb
        · exact hF b hb
        · have := gg b hb; have := hB.size; omega
      clear ho ho3 hput hcell HO0 oo
      go_wp2_with fail
      exact ⟨⟨k + 1, by omega, by go_num, F3, HO.out, hn3, hF3, by (repeat (refine Below.setCell ?_ (by simp) _)); exact hB1⟩, by simp [intOf]; omega⟩
    · have hk : k = xs.length := by omega
      subst hk
      have HO := Lib.hid ho
      clear ho
      go_wp2_with fail
      go_ret
      exact ⟨_, F2, rfl, by simpa using HO.out, hn, hF, hB⟩
set_option maxHeartbeats 1600000 in
theorem eqPacket_c (va vb : Value) (x : Packet) (Fa Fb : List Nat) (w : World) (ha : IsV EPacket w va x Fa) (hb : IsV EPacket w vb x Fb) :
    Calls Tryz.prog 112 #[va, vb] w fun e w' => e = .returned (.bool true) ∧ Below w.heap.size w w' := by
  obtain ⟨_, rfl, rfl, s1, rfl⟩ := ha
  obtain ⟨_, rfl, rfl, t1, rfl⟩ := hb
  have hB0 : ∀ A B : Obj, Below w.heap.size w ((w.alloc A).alloc B) := fun A B => ((Below.refl _ _).alloc (Nat.le_refl _) _).alloc (by simp) _
  have hE : ∀ z : Int, (z != z) = false := fun z => by simp
  go_enter Tryz.func112, Tryz.ntmps112
  go_wp2_with fail
  go_ret
  exact ⟨rfl, hB0 _ _⟩
set_option maxHeartbeats 1600000 in
theorem eqPacketS_c (va vb : Value) (xs : List Packet) (Fa Fb : List Nat) (w : World) (ha : Sl EPacket w va xs Fa) (hb : Sl EPacket w vb xs Fb) :
    Calls Tryz.prog 29 #[va, vb] w fun e w' => e = .returned (.bool true) ∧ Below w.heap.size w w' := by
  obtain ⟨a, ca, rfl⟩ := ha.slice
  obtain ⟨b, cb, rfl⟩ := hb.slice
  have hl := ha.len
  unfold maxLen at hl
  go_enter Tryz.func29, Tryz.ntmps29
  go_wp2
  go_loopw [5] (fun i wr => ∃ k : Nat, k ≤ xs.length ∧ i = .int .i64 k ∧ Below w.heap.size w wr) (fun i _ => xs.length - (intOf i).toNat)
  case atStart => exact ⟨0, Nat.zero_le _, rfl, Below.refl _ _⟩
  case round =>
    obtain ⟨k, hk, rfl, hB⟩ := hrel
    by_cases hlt : k < xs.length
    · obtain ⟨ba, oa, _, F_, rfl, hx, -, ja⟩ := (ha.below (by decide) hB).at k hlt
      obtain ⟨bb, ob, _, G_, rfl, hy, -, jb⟩ := (hb.below (by decide) hB).at k hlt
      obtain ⟨rfl, s1, rfl⟩ := id hx
      obtain ⟨rfl, t1, rfl⟩ := id hy
      have a0 := ja 0 (by decide); have b0 := jb 0 (by decide)
      have a1 := ja 1 (by decide); have b1 := jb 1 (by decide)
      have a2 := ja 2 (by decide); have b2 := jb 2 (by decide)
      have a3 := ja 3 (by decide); have b3 := jb 3 (by decide)
      have a4 := ja 4 (by decide); have b4 := jb 4 (by decide)
      simp only [show EPacket.sz = 5 from rfl, Nat.mul_one, Nat.add_zero, List.getElem?_cons_zero, List.getElem?_cons_succ] at a0 b0 a1 b1 a2 b2 a3 b3 a4 b4
      clear ja jb
      go_wp2_with fail
      go_region_held3 (fun w' => w'.cell? ⟨ba, oa + k * 5, none⟩ = some (.int .i64 xs[k].kind) ∧ w'.cell? ⟨ba, oa + k * 5 + 1, none⟩ = some (.int .i64 xs[k].number) ∧ w'.cell? ⟨ba, oa + k * 5 + 2, none⟩ = some (.int .i64 xs[k].trail) ∧ w'.cell? ⟨ba, oa + k * 5 + 3, none⟩ = some (.int .i64 xs[k].lead) ∧ w'.cell? ⟨ba, oa + k * 5 + 4, none⟩ = some (.string xs[k].data) ∧ w'.cell? ⟨bb, ob + k * 5, none⟩ = some (.int .i64 xs[k].kind) ∧ w'.cell? ⟨bb, ob + k * 5 + 1, none⟩ = some (.int .i64 xs[k].number) ∧ w'.cell? ⟨bb, ob + k * 5 + 2, none⟩ = some (.int .i64 xs[k].trail) ∧ w'.cell? ⟨bb, ob + k * 5 + 3, none⟩ = some (.int .i64 xs[k].lead) ∧ w'.cell? ⟨bb, ob + k * 5 + 4, none⟩ = some (.string xs[k].data))
        (first | go_keep | (exact ⟨kc hb1 (by simpa using a0), kc hb1 (by simpa using a1), kc hb1 (by simpa using a2), kc hb1 (by simpa using a3), kc hb1 (by simpa using a4), kc hb1 (by simpa using b0), kc hb1 (by simpa using b1), kc hb1 (by simpa using b2), kc hb1 (by simpa using b3), kc hb1 (by simpa using b4)⟩))
        (first | (go_at_call 112; refine (eqPacket_c _ _ xs[k] _ _ wr.drew ⟨_, rfl, EPacket.frame hx (fun _ _ => rfl)⟩ ⟨_, rfl, EPacket.frame hy (fun _ _ => rfl)⟩).mono ?_; rintro e w1 ⟨rfl, hb1⟩))
      go_wp2_with fail
      exact ⟨⟨k + 1, by omega, by go_num, tr (belowDrewN hB 1) hb1 (Nat.le_refl _)⟩, by simp [intOf]; omega⟩
    · go_wp2_with fail
      go_ret
      exact ⟨rfl, hB⟩
set_option maxHeartbeats 1600000 in
theorem markPacketS_c (v : Value) (xs : List Packet) (F : List Nat) (k0 : Int) (w : World) (h : Ow EPacket 67 w v xs F) (hn : F.Nodup) (h0 : 0 ≤ k0) (h1 : k0 + cntL cntPacket xs ≤ 1099511627776) :
    Calls Tryz.prog 32 #[v, .int .i64 k0] w (RetMark EPacket 67 v (k0 + cntL cntPacket xs) (markL mkPacket cntPacket k0 xs) F w) := by
  obtain ⟨a, cap, rfl⟩ := h.slice
  have hl := h.len
  unfold maxLen at hl
  go_enter Tryz.func32, Tryz.ntmps32
  go_wp2
  go_loopw [1, 5] (fun kk i wr => ∃ k : Nat, k ≤ xs.length ∧ i = .int .i64 k ∧ kk = .int .i64 (k0 + psum cntPacket xs k) ∧ Ow EPacket 67 wr (.slice a xs.length cap) ((markL mkPacket cntPacket k0 xs).take k ++ xs.drop k) F ∧ Keep F w wr) (fun _ i _ => xs.length - (intOf i).toNat)
  case atStart => exact ⟨0, Nat.zero_le _, rfl, by rw [psum_zero]; simp, by simpa using h, Keep.refl _ _⟩
  case round =>
    obtain ⟨k, hk, rfl, rfl, ho, hK⟩ := hrel
    by_cases hlt : k < xs.length
    · have hln : k < ((markL mkPacket cntPacket k0 xs).take k ++ xs.drop k).length := by simp [markL_len]; omega
      have hsn := Lib.hid (psum_snoc cntPacket xs k hlt)
      have hsl : k0 + psum cntPacket xs k + cntPacket xs[k] ≤ 1099511627776 := by have := hsn.out; have := cntL_le cntPacket xs (k + 1); omega
      obtain ⟨g, rfl⟩ := ho.head k hln
      obtain ⟨A, c, B, Fi, hrow, hA, hcl, hx, hnF, hgF, hgm, hsub, back⟩ := ho.inPlace hn k hln
      rw [mid_get _ _ _ (markL_len ..) hlt] at hx
      simp only [show EPacket.sz = 5 from rfl] at hA
      have hst := Lib.hid (markL_step mkPacket cntPacket xs k0 k hlt)
      simp only [cntI, cntPacket, cntS] at hsl
      obtain ⟨rfl, s1, rfl⟩ := hx
      have KK := Keep.refl (g :: []) wr
      clear ho
      have z0 := hrow.cellMid (p := k * 5) (j := 0) (by omega) (by simp)
      have z1 := hrow.cellMid (p := k * 5 + 1) (j := 1) (by omega) (by simp)
      have z2 := hrow.cellMid (p := k * 5 + 2) (j := 2) (by omega) (by simp)
      have z3 := hrow.cellMid (p := k * 5 + 3) (j := 3) (by omega) (by simp)
      have z4 := hrow.cellMid (p := k * 5 + 4) (j := 4) (by omega) (by simp)
      simp only [List.getElem?_cons_zero, List.getElem?_cons_succ] at z0 z1 z2 z3 z4
      have hfz := hrow.frozens
      have HBk := Lib.hid back; clear back
      go_wp2_with fail
      refine (markText_c (k0 + psum cntPacket xs k + 1 + 1 + 1 + 1) _ (by omega) (by omega)).mono ?_
      rintro e w1 ⟨rfl, hb1⟩
      have hrow : Row w1 g 67 (A ++ [.int .i64 (k0 + psum cntPacket xs k), .int .i64 (k0 + psum cntPacket xs k + 1), .int .i64 (k0 + psum cntPacket xs k + 1 + 1), .int .i64 (k0 + psum cntPacket xs k + 1 + 1 + 1), .string xs[k].data] ++ B) := Row.keepK (by exact (Row.setMid (Row.setMid (Row.setMid (Row.setMid hrow (p := k * 5) (j := 0) (by omega) (by simp) (.int .i64 (k0 + psum cntPacket xs k))) (p := k * 5 + 1) (j := 1) (by omega) (by simp) (.int .i64 (k0 + psum cntPacket xs k + 1))) (p := k * 5 + 2) (j := 2) (by omega) (by simp) (.int .i64 (k0 + psum cntPacket xs k + 1 + 1))) (p := k * 5 + 3) (j := 3) (by omega) (by simp) (.int .i64 (k0 + psum cntPacket xs k + 1 + 1 + 1)))) (Keep.ofBelow (F := []) hb1) (by simp)
      have KK := Keep.trans (F := g :: []) (a := wr) (by (repeat (refine Keep.setCell ?_ (by simp) _)); exact KK) (Keep.mono (Keep.ofBelow (F := []) hb1) (fun b hb _ => by simp at hb))
      clear hb1
      have z0 := hrow.cellMid (p := k * 5) (j := 0) (by omega) (by simp)
      have z1 := hrow.cellMid (p := k * 5 + 1) (j := 1) (by omega) (by simp)
      have z2 := hrow.cellMid (p := k * 5 + 2) (j := 2) (by omega) (by simp)
      have z3 := hrow.cellMid (p := k * 5 + 3) (j := 3) (by omega) (by simp)
      have z4 := hrow.cellMid (p := k * 5 + 4) (j := 4) (by omega) (by simp)
      simp only [List.getElem?_cons_zero, List.getElem?_cons_succ] at z0 z1 z2 z3 z4
      have hfz := hrow.frozens
      go_wp2_with fail
      have HB := HBk.out _ [.int .i64 (k0 + psum cntPacket xs k), .int .i64 (k0 + psum cntPacket xs k + 1), .int .i64 (k0 + psum cntPacket xs k + 1 + 1), .int .i64 (k0 + psum cntPacket xs k + 1 + 1 + 1), .string (mtext (k0 + psum cntPacket xs k + 1 + 1 + 1 + 1))] (mkPacket (k0 + psum cntPacket xs k) xs[k]) (by exact (Row.setMid hrow (p := k * 5 + 4) (j := 4) (by omega) (by simp) (.string (mtext (k0 + psum cntPacket xs k + 1 + 1 + 1 + 1))))) ⟨rfl, mtext_len _, rfl⟩ (by (repeat (refine Keep.setCell ?_ (by simp) _)); exact KK)
      rw [hst.out] at HB
      exact ⟨⟨k + 1, by omega, by go_num, congrArg (Value.int .i64) (by rw [hsn.out]; simp only [cntI, cntPacket, cntS]; omega), HB, by (repeat (refine Keep.setCell ?_ hgm _)); exact hK.trans (KK.mono (fun b hb _ => by rcases List.mem_cons.1 hb with rfl | hb; exact hgm; exact hsub b hb))⟩, by simp [intOf]; omega⟩
    · have hk : k = xs.length := by omega
      subst hk
      have HO := Lib.hid ho
      clear ho
      go_wp2
      go_ret
      exact ⟨ret_int (by rw [cntL_eq]), by simpa [markL_len, List.take_of_length_le] using HO.out, hK⟩
end Go.Proofs.YtgogcgkocjpgoaaGreatDoor
/- Receivers: what is valid, what a tick brings; plain laws. -/
namespace Go.Proofs.YtgogcgkocjpgoaaGreatDoor
open Go.RowKit
def isDel (d : Int) : Bool := btw 1 d 8
def okReq (base : Int) (r : Request) : Bool := isSer r.number && decide (gp base r.number < 8) && btw 1 r.state 3 && btw 0 r.untl 10007 && btw 0 r.tries 3
def chkQ (l : List Request) (base : Int) (i : Nat) : Bool := match l[i]? with
  | none => true
  | some r => okReq base r && (decide (i = 0) || match l[i - 1]? with | none => true | some p => !decide (gp base r.number ≤ gp base p.number))
theorem chkQ_at {l : List Request} {base : Int} {i : Nat} (h : i < l.length) : chkQ l base i = (okReq base l[i] && (decide (i = 0) || !decide (gp base l[i].number ≤ gp base (l[i - 1]'(by omega)).number))) := by
  unfold chkQ
  rw [List.getElem?_eq_getElem h, List.getElem?_eq_getElem (show i - 1 < l.length by omega)]
def areQ (l : List Request) (base : Int) : Bool := isSer base && decide ((l.length : Int) ≤ 8) && (List.range l.length).all (chkQ l base)
theorem areQ_no {l : List Request} {base : Int} {i : Nat} (h : i < l.length) (hc : chkQ l base i = false) : areQ l base = false := by
  have : (List.range l.length).all (chkQ l base) = false := List.all_eq_false.2 ⟨i, by simpa using h, by simp [hc]⟩
  simp [areQ, this]
theorem areQ_yes {l : List Request} {base : Int} (h1 : isSer base = true) (h2 : (l.length : Int) ≤ 8) (h : ∀ j, j < l.length → chkQ l base j = true) : areQ l base = true := by
  unfold areQ
  rw [h1, decide_eq_true h2, List.all_eq_true.2 fun j hj => h j (by simpa using hj)]; rfl
/-- what valid requests are -/
theorem areQ_iff {l : List Request} {base : Int} : areQ l base = true ↔ isSer base = true ∧ l.length ≤ 8 ∧ (∀ r ∈ l, okReq base r = true) ∧ l.Pairwise fun a b => gp base a.number < gp base b.number := by
  unfold areQ
  simp only [Bool.and_eq_true, List.all_eq_true, List.mem_range, decide_eq_true_eq]
  constructor
  · rintro ⟨⟨h1, h2⟩, h4⟩
    refine ⟨h1, by omega, fun r hr => ?_, ?_⟩
    · obtain ⟨i, hi, rfl⟩ := List.getElem_of_mem hr
      have := h4 i hi
      rw [chkQ_at hi] at this
      simp only [Bool.and_eq_true] at this
      exact this.1
    · have step : ∀ i (hi : i + 1 < l.length), gp base l[i].number < gp base l[i + 1].number := fun i hi => by
        have := h4 (i + 1) hi
        rw [chkQ_at hi] at this
        simp only [Bool.and_eq_true, Bool.or_eq_true, decide_eq_true_eq, Bool.not_eq_true', decide_eq_false_iff_not] at this
        have h := this.2
        rcases h with h | h
        · omega
        · simpa using h
      refine List.pairwise_iff_getElem.2 fun i j hi hj hij => ?_
      obtain ⟨d, rfl⟩ : ∃ d, j = i + 1 + d := ⟨j - i - 1, by omega⟩
      clear hij
      induction d with
      | zero => exact step i hj
      | succ d ih => exact Int.lt_trans (ih (by omega)) (step (i + 1 + d) hj)
  · rintro ⟨h1, h2, h4, h5⟩
    refine ⟨⟨h1, by omega⟩, fun i hi => ?_⟩
    rw [chkQ_at hi, h4 l[i] (List.getElem_mem hi)]
    simp only [Bool.true_and, Bool.or_eq_true, decide_eq_true_eq, Bool.not_eq_true', decide_eq_false_iff_not]
    rcases Nat.eq_zero_or_pos i with h0 | h0
    · exact .inl h0
    · have := List.pairwise_iff_getElem.1 h5 (i - 1) i (by omega) hi (by omega)
      right; omega
structure OkReq (base : Int) (r : Request) : Prop where
  n : isSer r.number = true
  g : gp base r.number < 8
  s0 : 1 ≤ r.state
  s1 : r.state ≤ 3
  u0 : 0 ≤ r.untl
  u1 : r.untl ≤ 10007
  t0 : 0 ≤ r.tries
  t1 : r.tries ≤ 3
theorem okReq_iff {base : Int} {r : Request} : okReq base r = true ↔ OkReq base r := by
  unfold okReq btw
  simp only [Bool.and_eq_true, decide_eq_true_eq]
  exact ⟨fun ⟨⟨⟨⟨a, b⟩, c, d⟩, e, f⟩, g, h⟩ => ⟨a, b, c, d, e, f, g, h⟩, fun ⟨a, b, c, d, e, f, g, h⟩ => ⟨⟨⟨⟨a, b⟩, c, d⟩, e, f⟩, g, h⟩⟩
def zeroRec (r : Receiver) : Bool := decide (r.window.next = 0) && decide (r.window.slots.length = 0) && decide (r.requests.length = 0)
def freeQ (r : Receiver) : Bool := r.requests.all fun q => !hasB r.window q.number
def goodRec (r : Receiver) : Bool := isClk r.clock && (if r.started then goodRW r.window && areQ r.requests r.window.next && freeQ r else zeroRec r)
def movedW (w : ReceiveWindow) (t : Int) : ReceiveWindow := relW (giveW (stepsN w.next t) w)
def movedE (w : ReceiveWindow) (t : Int) : List ByteArray := giveE (stepsN w.next t) w ++ relE (giveW (stepsN w.next t) w)
def needed (l : List Request) (w : ReceiveWindow) : List Request := l.filter fun q => !(bef q.number w.next || hasB w q.number) && decide (gp w.next q.number < 8)
def zRec : Receiver := ⟨false, 0, ⟨0, []⟩, []⟩
structure GoodR (r : Receiver) : Prop where
  k0 : 0 ≤ r.clock
  k1 : r.clock ≤ 9999
  w : goodRW r.window = true
  q : areQ r.requests r.window.next = true
  f : ∀ z ∈ r.requests, hasB r.window z.number = false
  z : r.started = false → r.window = ⟨0, []⟩ ∧ r.requests = []
theorem goodR_iff {r : Receiver} : goodRec r = true ↔ GoodR r := by
  have hc : isClk r.clock = true ↔ 0 ≤ r.clock ∧ r.clock ≤ 9999 := by unfold isClk btw; simp
  have hf : freeQ r = true ↔ ∀ z ∈ r.requests, hasB r.window z.number = false := by unfold freeQ; simp
  have hz : zeroRec r = true ↔ r.window = ⟨0, []⟩ ∧ r.requests = [] := by
    unfold zeroRec
    obtain ⟨st, ck, ⟨n, s⟩, q⟩ := r
    simp [and_assoc]
  unfold goodRec
  constructor
  · intro h
    rw [Bool.and_eq_true, hc] at h
    obtain ⟨⟨c0, c1⟩, h⟩ := h
    cases hs : r.started
    · rw [hs] at h
      obtain ⟨e1, e2⟩ := hz.1 (by simpa using h)
      refine ⟨c0, c1, by rw [e1]; decide, by rw [e1, e2]; decide, by rw [e2]; simp, fun _ => ⟨e1, e2⟩⟩
    · rw [hs] at h
      simp only [if_true, Bool.and_eq_true] at h
      exact ⟨c0, c1, h.1.1, h.1.2, hf.1 h.2, fun h' => by rw [hs] at h'; cases h'⟩
  · rintro ⟨c0, c1, h1, h2, h3, h4⟩
    rw [Bool.and_eq_true, hc]
    refine ⟨⟨c0, c1⟩, ?_⟩
    cases hs : r.started
    · simpa using hz.2 (h4 hs)
    · simp [h1, h2, hf.2 h3]
end Go.Proofs.YtgogcgkocjpgoaaGreatDoor
/- Receivers: what stands when a window has moved; plain laws. -/
namespace Go.Proofs.YtgogcgkocjpgoaaGreatDoor
open Go.RowKit
theorem stepsN_gp {a t : Int} : stepsN a t ≤ (gp a t).toNat := by unfold stepsN; split <;> omega
/-- how far a window moves -/
theorem moved_at {w : ReceiveWindow} {t : Int} (hg : goodRW w = true) : (movedW w t).next = aft w.next ((movedE w t).length : Nat) ∧ (movedW w t).slots = w.slots.drop (movedE w t).length ∧ (movedE w t).length ≤ stepsN w.next t + 8 ∧ stepsN w.next t ≤ (movedE w t).length := by
  obtain ⟨h0, h1⟩ : 0 ≤ w.next ∧ w.next ≤ 65535 := by
    unfold goodRW at hg
    simp only [Bool.and_eq_true] at hg
    exact isSer_iff.1 hg.1.1.1
  have hl : w.slots.length ≤ 8 := by
    unfold goodRW at hg
    simp only [Bool.and_eq_true, decide_eq_true_eq] at hg
    have := hg.1.1.2; omega
  have e1 : ∀ k (x : ReceiveWindow), (giveE k x).length = k := by
    intro k
    induction k with
    | zero => intro x; rfl
    | succ k ih => intro x; simp [giveE, ih]
  have h2 := giveUp_next (stepsN w.next t) w h0 h1
  have h3 := rel_drop (giveW (stepsN w.next t) w).slots (giveW (stepsN w.next t) w).next
  have h4 := giveW_drop (stepsN w.next t) w
  have h5 := relE_le (giveW (stepsN w.next t) w)
  rw [h4, List.length_drop] at h5
  refine ⟨h2, ?_, ?_, ?_⟩
  · have e : (movedW w t).slots = (giveW (stepsN w.next t) w).slots.drop (relE (giveW (stepsN w.next t) w)).length := h3.1
    rw [e, h4, List.drop_drop]
    unfold movedE
    rw [List.length_append, e1]
  · unfold movedE
    rw [List.length_append, e1]; omega
  · unfold movedE
    rw [List.length_append, e1]; omega
theorem req_at {r : Receiver} (hg : GoodR r) {q : Request} (hq : q ∈ r.requests) : isSer q.number = true ∧ gp r.window.next q.number < 8 ∧ hasB r.window q.number = false := by
  obtain ⟨-, -, h3, -⟩ := areQ_iff.1 hg.q
  have := okReq_iff.1 (h3 q hq)
  exact ⟨this.n, this.g, hg.f q hq⟩
theorem next_ser {w : ReceiveWindow} (hg : goodRW w = true) : 0 ≤ w.next ∧ w.next ≤ 65535 := by
  unfold goodRW at hg
  simp only [Bool.and_eq_true] at hg
  exact isSer_iff.1 hg.1.1.1
end Go.Proofs.YtgogcgkocjpgoaaGreatDoor
/- The first elements that satisfy a test: how many; plain. -/
namespace Go.Proofs.YtgogcgkocjpgoaaGreatDoor
theorem tw_len {α : Type} {p : α → Bool} : ∀ {xs : List α} {k : Nat}, k ≤ xs.length → (∀ j (_ : j < k) (h : j < xs.length), p xs[j] = true) → (∀ h : k < xs.length, p xs[k] = false) → (xs.takeWhile p).length = k
  | [], k, hk, _, _ => by simp at hk; simp [hk]
  | x :: r, 0, _, _, h2 => by have := h2 (by simp); simp at this; simp [this]
  | x :: r, k + 1, hk, h1, h2 => by
    have hx : p x = true := h1 0 (by omega) (by simp)
    rw [List.takeWhile_cons_of_pos hx, List.length_cons, tw_len (xs := r) (k := k) (by simpa using hk) (fun j hj h => by have := h1 (j + 1) (by omega) (by simpa using h); simpa using this) (fun h => by have := h2 (by simpa using h); simpa using this)]
theorem tw_spec {α : Type} {p : α → Bool} : ∀ {xs : List α}, (xs.takeWhile p).length ≤ xs.length ∧ (∀ j (_ : j < (xs.takeWhile p).length) (h : j < xs.length), p xs[j] = true) ∧ ∀ h : (xs.takeWhile p).length < xs.length, p xs[(xs.takeWhile p).length] = false
  | [] => by simp
  | x :: r => by
    cases hx : p x
    · rw [List.takeWhile_cons_of_neg (by simp [hx])]; simp [hx]
    · rw [List.takeWhile_cons_of_pos hx]
      obtain ⟨h1, h2, h3⟩ := tw_spec (p := p) (xs := r)
      refine ⟨by simpa using h1, fun j hj h => ?_, fun h => ?_⟩
      · cases j with
        | zero => simpa using hx
        | succ j => simpa using h2 j (by simpa using hj) (by simpa using h)
      · simpa using h3 (by simpa using h)
def hitB {α : Type} (f : α → Int) : Option α → Bool
  | some x => decide (f x = 0)
  | none => false
end Go.Proofs.YtgogcgkocjpgoaaGreatDoor
/- What a valid packet is; plain. -/
namespace Go.Proofs.YtgogcgkocjpgoaaGreatDoor
open Go.RowKit
def goodPk (p : Packet) : Bool := btw 1 p.kind 5 && isSer p.number && isSer p.trail && isSer p.lead && itm p.data && decide (gp p.trail p.lead ≤ 32767) && (decide (p.data = ⟨#[]⟩) || decide (p.kind = 1) || decide (p.kind = 2))
theorem goodPk_num {p : Packet} (h : goodPk p = true) : 0 ≤ p.number ∧ p.number ≤ 65535 := by
  unfold goodPk at h
  simp only [Bool.and_eq_true] at h
  exact isSer_iff.1 h.1.1.1.1.1.2
end Go.Proofs.YtgogcgkocjpgoaaGreatDoor
/- Hearing: what a packet changes in a receiver; plain laws. -/
namespace Go.Proofs.YtgogcgkocjpgoaaGreatDoor
open Go.RowKit
theorem gpInj {t a b : Int} (ha : isSer a = true) (hb : isSer b = true) (h : gp t a = gp t b) : a = b := by
  obtain ⟨a0, a1⟩ := isSer_iff.1 ha
  obtain ⟨b0, b1⟩ := isSer_iff.1 hb
  unfold gp at h; omega
def askAt (base : Int) (l : List Request) (n : Int) : Nat := (l.takeWhile fun r => decide (gp base r.number < gp base n)).length
def askOn (base : Int) (l : List Request) (n : Int) : Bool := match l[askAt base l n]? with | some r => decide (r.number = n) | none => false
def newQ (n u : Int) : Request := ⟨n, 1, u, 0⟩
def insQ (base : Int) (l : List Request) (n u : Int) : List Request := l.take (askAt base l n) ++ newQ n u :: l.drop (askAt base l n)
def addQ (base : Int) (l : List Request) (n u : Int) : List Request := if askOn base l n || !decide (gp base n < 8) then l else insQ base l n u
def confQ (base : Int) (l : List Request) (n u : Int) : List Request := match l[askAt base l n]? with | some r => if r.number = n then l.set (askAt base l n) ⟨n, 3, u, r.tries⟩ else l | none => l
theorem askAt_le (base : Int) (l : List Request) (n : Int) : askAt base l n ≤ l.length := tw_spec.1
theorem askOn_at {base : Int} {l : List Request} {n : Int} (h : askAt base l n < l.length) : askOn base l n = decide (l[askAt base l n].number = n) := by unfold askOn; rw [List.getElem?_eq_getElem h]
theorem askOn_end {base : Int} {l : List Request} {n : Int} (h : ¬ askAt base l n < l.length) : askOn base l n = false := by unfold askOn; rw [List.getElem?_eq_none (by omega)]
theorem askOn_lt {base : Int} {l : List Request} {n : Int} (h : askOn base l n = true) : askAt base l n < l.length := by
  by_cases h2 : askAt base l n < l.length
  · exact h2
  · rw [askOn_end h2] at h; cases h
theorem confQ_no {base : Int} {l : List Request} {n u : Int} (h : askOn base l n = false) : confQ base l n u = l := by
  unfold confQ
  unfold askOn at h
  cases hq : l[askAt base l n]? with
  | none => rfl
  | some r => rw [hq] at h; dsimp only at h ⊢; rw [if_neg (by simpa using h)]
theorem confQ_yes {base : Int} {l : List Request} {n u : Int} (h : askOn base l n = true) : confQ base l n u = l.set (askAt base l n) ⟨n, 3, u, (l[askAt base l n]'(askOn_lt h)).tries⟩ := by
  have h2 := askOn_lt h
  rw [askOn_at h2] at h
  unfold confQ
  rw [List.getElem?_eq_getElem h2]
  dsimp only
  rw [if_pos (by simpa using h)]
theorem confQ_len (base : Int) (l : List Request) (n u : Int) : (confQ base l n u).length = l.length := by
  cases h : askOn base l n
  · rw [confQ_no h]
  · rw [confQ_yes h, List.length_set]
/-- where a serial is put, none is that is not less -/
theorem ask_ne {base n : Int} {l : List Request} (hq : areQ l base = true) (hn : isSer n = true) (h : askOn base l n = false) : ∀ r ∈ l, gp base r.number ≠ gp base n := by
  obtain ⟨-, -, h3, h4⟩ := areQ_iff.1 hq
  obtain ⟨t1, t2, t3⟩ := tw_spec (p := fun r : Request => decide (gp base r.number < gp base n)) (xs := l)
  intro r hr e
  obtain ⟨i, hi, rfl⟩ := List.getElem_of_mem hr
  have e2 := gpInj (okReq_iff.1 (h3 _ hr)).n hn e
  have hk : askAt base l n = i := tw_len (by omega) (fun j hj h => by
    have := List.pairwise_iff_getElem.1 h4 j i h hi hj
    simp only [decide_eq_true_eq]; omega) (fun h => by simp only [decide_eq_false_iff_not]; omega)
  rw [askOn_at (by omega)] at h
  simp only [hk] at h
  simp [e2] at h
theorem pw_len {base : Int} {l : List Request} (hp : l.Pairwise fun a b => gp base a.number < gp base b.number) (h8 : ∀ q ∈ l, gp base q.number < 8) : l.length ≤ 8 := by
  have key : ∀ i (h : i < l.length), (i : Int) ≤ gp base l[i].number := by
    intro i
    induction i with
    | zero => intro h; exact (gp_bd _ _).1
    | succ i ih =>
      intro h
      have a := ih (by omega)
      have b := List.pairwise_iff_getElem.1 hp i (i + 1) (by omega) h (by omega)
      omega
  by_cases h : l.length ≤ 8
  · exact h
  · have a := key 8 (by omega)
    have b := h8 _ (List.getElem_mem (show 8 < l.length by omega))
    omega
theorem insQ_len (base : Int) (l : List Request) (n u : Int) : (insQ base l n u).length = l.length + 1 := by
  have := askAt_le base l n
  unfold insQ
  rw [List.length_append, List.length_cons, List.length_take, List.length_drop]; omega
theorem insQ_good {base n u : Int} {l : List Request} (hq : areQ l base = true) (hn : isSer n = true) (h8 : gp base n < 8) (u0 : 0 ≤ u) (u1 : u ≤ 10007) (h : askOn base l n = false) : areQ (insQ base l n u) base = true := by
  have hne := ask_ne hq hn h
  obtain ⟨h1, h2, h3, h4⟩ := areQ_iff.1 hq
  obtain ⟨t1, t2, t3⟩ := tw_spec (p := fun r : Request => decide (gp base r.number < gp base n)) (xs := l)
  have hle := askAt_le base l n
  have hok : ∀ r ∈ insQ base l n u, okReq base r = true := by
    intro r hr
    unfold insQ at hr
    rcases List.mem_append.1 hr with h | h
    · exact h3 r (List.mem_of_mem_take h)
    · rcases List.mem_cons.1 h with rfl | h
      · exact okReq_iff.2 ⟨hn, h8, by show (1 : Int) ≤ 1; decide, by show (1 : Int) ≤ 3; decide, u0, u1, by show (0 : Int) ≤ 0; decide, by show (0 : Int) ≤ 3; decide⟩
      · exact h3 r (List.mem_of_mem_drop h)
  have hpw : (insQ base l n u).Pairwise fun a b => gp base a.number < gp base b.number := by
    unfold insQ
    rw [List.pairwise_append]
    refine ⟨h4.sublist (List.take_sublist _ _), ?_, ?_⟩
    · rw [List.pairwise_cons]
      refine ⟨fun b hb => ?_, h4.sublist (List.drop_sublist _ _)⟩
      obtain ⟨j, hj, rfl⟩ := List.getElem_of_mem hb
      rw [List.getElem_drop]
      rw [List.length_drop] at hj
      have hk : askAt base l n < l.length := by omega
      have h0 := t3 hk
      simp only [decide_eq_false_iff_not, Int.not_lt] at h0
      have h00 : gp base n ≤ gp base (l[askAt base l n]'hk).number := h0
      have hd := hne _ (List.getElem_mem hk)
      show gp base n < _
      rcases Nat.eq_zero_or_pos j with e | e
      · subst e; simp only [Nat.add_zero]; omega
      · have h5 := List.pairwise_iff_getElem.1 h4 (askAt base l n) (askAt base l n + j) hk (by omega) (by omega)
        omega
    · intro a ha b hb
      obtain ⟨i, hi, rfl⟩ := List.getElem_of_mem ha
      rw [List.length_take] at hi
      rw [List.getElem_take]
      have ha2 := t2 i (by show i < askAt base l n; omega) (by omega)
      simp only [decide_eq_true_eq] at ha2
      rcases List.mem_cons.1 hb with rfl | hb
      · exact ha2
      · obtain ⟨j, hj, rfl⟩ := List.getElem_of_mem hb
        rw [List.getElem_drop]
        rw [List.length_drop] at hj
        exact List.pairwise_iff_getElem.1 h4 i (askAt base l n + j) (by omega) (by omega) (by omega)
  exact areQ_iff.2 ⟨h1, pw_len hpw fun q hq => (okReq_iff.1 (hok q hq)).g, hok, hpw⟩
theorem addQ_good {base n u : Int} {l : List Request} (hq : areQ l base = true) (hn : isSer n = true) (u0 : 0 ≤ u) (u1 : u ≤ 10007) : areQ (addQ base l n u) base = true := by
  unfold addQ
  split
  · exact hq
  · rename_i h
    simp only [Bool.or_eq_true, Bool.not_eq_true', not_or, Bool.not_eq_false, Bool.not_eq_true, decide_eq_true_eq] at h
    exact insQ_good hq hn h.2 u0 u1 h.1
theorem mem_addQ {base n u : Int} {l : List Request} {q : Request} (h : q ∈ addQ base l n u) : q ∈ l ∨ q.number = n := by
  unfold addQ insQ at h
  split at h
  · exact .inl h
  · rcases List.mem_append.1 h with h | h
    · exact .inl (List.mem_of_mem_take h)
    · rcases List.mem_cons.1 h with rfl | h
      · exact .inr rfl
      · exact .inl (List.mem_of_mem_drop h)
theorem confQ_good {base n u : Int} {l : List Request} (hq : areQ l base = true) (u0 : 0 ≤ u) (u1 : u ≤ 10007) : areQ (confQ base l n u) base = true := by
  cases h : askOn base l n
  · rw [confQ_no h]; exact hq
  obtain ⟨h1, h2, h3, h4⟩ := areQ_iff.1 hq
  have hk := askOn_lt h
  have hn : l[askAt base l n].number = n := by rw [askOn_at hk] at h; simpa using h
  have ho := okReq_iff.1 (h3 _ (List.getElem_mem hk))
  rw [confQ_yes h]
  have hnum : ∀ i (h : i < (l.set (askAt base l n) ⟨n, 3, u, l[askAt base l n].tries⟩).length), (l.set (askAt base l n) ⟨n, 3, u, l[askAt base l n].tries⟩)[i].number = (l[i]'(by simpa using h)).number := fun i h => by
    rw [List.getElem_set]
    split
    · rename_i e; subst e; exact hn.symm
    · rfl
  refine areQ_iff.2 ⟨h1, by simpa using h2, fun r hr => ?_, ?_⟩
  · have gn := ho.n
    have gg := ho.g
    rw [hn] at gn gg
    rcases List.mem_or_eq_of_mem_set hr with h | rfl
    · exact h3 r h
    · exact okReq_iff.2 ⟨gn, gg, by show (1 : Int) ≤ 3; decide, by show (3 : Int) ≤ 3; decide, u0, u1, ho.t0, ho.t1⟩
  · refine List.pairwise_iff_getElem.2 fun i j hi hj hij => ?_
    rw [hnum i hi, hnum j hj]
    exact List.pairwise_iff_getElem.1 h4 i j _ _ hij
theorem mem_confQ {base n u : Int} {l : List Request} {q : Request} (h : q ∈ confQ base l n u) : ∃ r ∈ l, r.number = q.number := by
  cases h2 : askOn base l n
  · rw [confQ_no h2] at h; exact ⟨q, h, rfl⟩
  have hk := askOn_lt h2
  have hn : l[askAt base l n].number = n := by rw [askOn_at hk] at h2; simpa using h2
  rw [confQ_yes h2] at h
  rcases List.mem_or_eq_of_mem_set h with h | rfl
  · exact ⟨q, h, rfl⟩
  · exact ⟨_, List.getElem_mem hk, hn⟩
/-- what news change -/
def startW (r : Receiver) (p : Packet) : ReceiveWindow := if r.started then r.window else ⟨if p.kind = 5 then p.lead else p.number, r.window.slots⟩
def takenW (r : Receiver) (p : Packet) : ReceiveWindow := if p.kind = 5 then startW r p else takeW (startW r p) p.number p.data
def takenE (r : Receiver) (p : Packet) : List ByteArray := if p.kind = 5 then [] else takeE (startW r p) p.number p.data
def skipW (w : ReceiveWindow) (t : Int) : ReceiveWindow := if bef w.next t then (if gp w.next t ≤ 8 then movedW w t else ⟨t, []⟩) else w
def skipE (w : ReceiveWindow) (t : Int) : List ByteArray := if bef w.next t then (if gp w.next t ≤ 8 then movedE w t else [⟨#[33]⟩]) else []
def newsW (r : Receiver) (p : Packet) : ReceiveWindow := skipW (takenW r p) p.trail
def newsE (r : Receiver) (p : Packet) : List ByteArray := takenE r p ++ skipE (takenW r p) p.trail
def addAll (base u : Int) (l : List Request) (ns : List Int) : List Request := ns.foldl (fun l n => addQ base l n u) l
def awaitN (w : ReceiveWindow) (lead : Int) : Nat := (min (gp w.next lead) 8).toNat
def awaitQ (w : ReceiveWindow) (l : List Request) (lead u : Int) : List Request := if bef w.next lead then addAll w.next u l (missL w (awaitN w lead)) else l
def newsR (r : Receiver) (p : Packet) (d : Int) : Receiver := ⟨true, r.clock, newsW r p, awaitQ (newsW r p) (needed r.requests (newsW r p)) p.lead (r.clock + d)⟩
def isNews (p : Packet) : Bool := decide (p.kind = 1) || decide (p.kind = 2) || decide (p.kind = 5)
def confR (r : Receiver) (p : Packet) : Receiver := ⟨r.started, r.clock, r.window, confQ r.window.next r.requests p.number (r.clock + 4)⟩
def hearR (r : Receiver) (p : Packet) (d : Int) : Receiver := if isNews p then newsR r p d else if decide (p.kind = 4) && r.started then confR r p else r
def hearE (r : Receiver) (p : Packet) : List ByteArray := if isNews p then newsE r p else []
theorem take_good {w : ReceiveWindow} {n : Int} {s : ByteArray} (hg : goodRW w = true) (hn : isSer n = true) (hs : itm s = true) : goodRW (takeW w n s) = true ∧ (∃ m : Nat, m ≤ 8 ∧ (takeW w n s).next = aft w.next m) ∧ (takeE w n s).length ≤ 8 := by
  obtain ⟨w0, w1⟩ := next_ser hg
  cases ht : takeOk w n
  · have e : (takeNo w n || !decide (gp w.next n < 8)) = true := by unfold takeOk at ht; simp only [Bool.or_eq_false_iff] at ht; rw [ht.1, ht.2]; rfl
    have e1 : takeW w n s = w := by unfold takeW; rw [if_pos e]
    have e2 : takeE w n s = [] := by unfold takeE; rw [if_pos e]
    rw [e1, e2]
    exact ⟨hg, ⟨0, by omega, (aft_zeroN w0 w1).symm⟩, by simp⟩
  · have hok : okTakeItem w n s = true := by unfold okTakeItem; rw [hg, hn, hs, ht]; rfl
    have h := law_take w n s (by unfold resTakeItem; rw [hok]; rfl)
    rw [show resTakeItem w n s = (takeW w n s, takeE w n s, true) by unfold resTakeItem; rw [hok]; rfl] at h
    obtain ⟨-, -, h3, h4, -, -, h7, -⟩ := h
    dsimp only at h3 h4 h7
    refine ⟨h3, ⟨_, h7, ?_⟩, h7⟩
    obtain ⟨v0, v1⟩ := next_ser h3
    rw [← h4]
    unfold aft gp at *; omega
theorem start_good {r : Receiver} {p : Packet} (hg : GoodR r) (hp : goodPk p = true) : goodRW (startW r p) = true ∧ (r.started = true → startW r p = r.window) := by
  unfold startW
  unfold goodPk at hp
  simp only [Bool.and_eq_true] at hp
  cases hs : r.started
  · refine ⟨?_, fun h => by cases h⟩
    rw [(hg.z hs).1]
    simp only [Bool.false_eq_true, if_false]
    unfold goodRW
    split
    · rw [hp.1.1.1.2]; rfl
    · rw [hp.1.1.1.1.1.2]; rfl
  · exact ⟨hg.w, fun _ => rfl⟩
theorem taken_good {r : Receiver} {p : Packet} (hg : GoodR r) (hp : goodPk p = true) : goodRW (takenW r p) = true ∧ (∃ m : Nat, m ≤ 8 ∧ (takenW r p).next = aft (startW r p).next m) ∧ (takenE r p).length ≤ 8 := by
  have h1 := (start_good hg hp).1
  obtain ⟨w0, w1⟩ := next_ser h1
  unfold takenW takenE
  split
  · exact ⟨h1, ⟨0, by omega, (aft_zeroN w0 w1).symm⟩, by simp⟩
  · unfold goodPk at hp
    simp only [Bool.and_eq_true] at hp
    exact take_good h1 hp.1.1.1.1.1.2 hp.1.1.2
theorem skip_good {w : ReceiveWindow} {t : Int} (hg : goodRW w = true) (ht : isSer t = true) : goodRW (skipW w t) = true ∧ (∃ m : Nat, m ≤ 32767 ∧ (skipW w t).next = aft w.next m) ∧ (skipE w t).length ≤ 16 := by
  obtain ⟨w0, w1⟩ := next_ser hg
  obtain ⟨t0, t1⟩ := isSer_iff.1 ht
  unfold skipW skipE
  cases hb : bef w.next t
  · exact ⟨hg, ⟨0, by omega, (aft_zeroN w0 w1).symm⟩, by simp⟩
  · simp only [if_true]
    split
    · obtain ⟨e1, e2, e3, e4⟩ := moved_at (t := t) hg
      have := @stepsN_gp w.next t
      exact ⟨giveUp_good _ _ hg, ⟨_, by omega, e1⟩, by omega⟩
    · refine ⟨by unfold goodRW; rw [ht]; rfl, ⟨(gp w.next t).toNat, ?_, ?_⟩, by simp⟩
      · unfold bef btw at hb; simp only [Bool.and_eq_true, decide_eq_true_eq] at hb; omega
      · have := gp_bd w.next t
        show t = _
        unfold aft gp at *; omega
theorem needed_good {l : List Request} {b : Int} {w : ReceiveWindow} {m : Nat} (hm : m ≤ 65528) (hq : areQ l b = true) (hw : goodRW w = true) (e : w.next = aft b m) : areQ (needed l w) w.next = true := by
  obtain ⟨h1, h2, h3, h4⟩ := areQ_iff.1 hq
  obtain ⟨b0, b1⟩ := isSer_iff.1 h1
  have key : ∀ q ∈ l, gp w.next q.number < 8 → gp w.next q.number = gp b q.number - m := fun q hq h => by
    have ho := okReq_iff.1 (h3 q hq)
    obtain ⟨n0, n1⟩ := isSer_iff.1 ho.n
    have := ho.g
    rw [e] at h ⊢
    unfold gp aft at *; omega
  have hin : ∀ q ∈ needed l w, q ∈ l ∧ gp w.next q.number < 8 := fun q hq => by
    unfold needed at hq
    rw [List.mem_filter] at hq
    simp only [Bool.and_eq_true, decide_eq_true_eq] at hq
    exact ⟨hq.1, hq.2.2⟩
  refine areQ_iff.2 ⟨isSer_iff.2 (next_ser hw), Nat.le_trans (List.length_filter_le _ _) h2, fun q hq => ?_, ?_⟩
  · obtain ⟨a, c⟩ := hin q hq
    have ho := okReq_iff.1 (h3 q a)
    exact okReq_iff.2 ⟨ho.n, c, ho.s0, ho.s1, ho.u0, ho.u1, ho.t0, ho.t1⟩
  · have h5 : (needed l w).Pairwise fun a b' => gp b a.number < gp b b'.number := h4.sublist List.filter_sublist
    refine h5.imp_of_mem fun ha hb h => ?_
    rw [key _ (hin _ ha).1 (hin _ ha).2, key _ (hin _ hb).1 (hin _ hb).2]; omega
theorem needed_free {l : List Request} {w : ReceiveWindow} : ∀ q ∈ needed l w, hasB w q.number = false := fun q hq => by
  unfold needed at hq
  rw [List.mem_filter] at hq
  simp only [Bool.and_eq_true, Bool.not_eq_true', Bool.or_eq_false_iff] at hq
  exact hq.2.1.2
theorem missL_at {w : ReceiveWindow} {k : Nat} (hk : k ≤ 8) {n : Int} (h : n ∈ missL w k) : isSer n = true ∧ gp w.next n < 8 ∧ hasB w n = false := by
  unfold missL spanL at h
  obtain ⟨h1, h2⟩ := List.mem_filter.1 h
  obtain ⟨i, hi, rfl⟩ := List.mem_map.1 h1
  rw [List.mem_range] at hi
  refine ⟨aft_ser _ _, ?_, by simpa using h2⟩
  unfold gp aft; omega
theorem addAll_good {w : ReceiveWindow} {u : Int} (u0 : 0 ≤ u) (u1 : u ≤ 10007) : ∀ (ns : List Int) (l : List Request), (∀ n ∈ ns, isSer n = true ∧ hasB w n = false) → areQ l w.next = true → (∀ q ∈ l, hasB w q.number = false) → areQ (addAll w.next u l ns) w.next = true ∧ ∀ q ∈ addAll w.next u l ns, hasB w q.number = false
  | [], l, _, h2, h3 => ⟨h2, h3⟩
  | n :: ns, l, h1, h2, h3 => by
    obtain ⟨a, b⟩ := h1 n (by simp)
    refine addAll_good u0 u1 ns (addQ w.next l n u) (fun n hn => h1 n (by simp [hn])) (addQ_good h2 a u0 u1) fun q hq => ?_
    rcases mem_addQ hq with h | h
    · exact h3 q h
    · rw [h]; exact b
theorem addAll_succ {base u : Int} {l : List Request} {ns : List Int} {k : Nat} (h : k < ns.length) : addAll base u l (ns.take (k + 1)) = addQ base (addAll base u l (ns.take k)) ns[k] u := by
  unfold addAll
  rw [List.take_add_one, List.getElem?_eq_getElem h, List.foldl_append]; rfl
theorem awaitN_le (w : ReceiveWindow) (t : Int) : awaitN w t ≤ 8 := by unfold awaitN; omega
theorem news_good {r : Receiver} {p : Packet} {d : Int} (hg : GoodR r) (hp : goodPk p = true) (d0 : 1 ≤ d) (d1 : d ≤ 8) (hk : r.clock + d ≤ 10007) : goodRW (newsW r p) = true ∧ areQ (needed r.requests (newsW r p)) (newsW r p).next = true ∧ GoodR (newsR r p d) ∧ (newsE r p).length ≤ 24 := by
  obtain ⟨a1, a2⟩ := start_good hg hp
  obtain ⟨b1, ⟨m, hm, em⟩, b3⟩ := taken_good hg hp
  have htr : isSer p.trail = true := by unfold goodPk at hp; simp only [Bool.and_eq_true] at hp; exact hp.1.1.1.1.2
  obtain ⟨c1, ⟨k, hk2, ek⟩, c3⟩ := skip_good b1 htr
  have hk0 := hg.k0
  have hq : areQ (needed r.requests (newsW r p)) (newsW r p).next = true := by
    cases hs : r.started
    · rw [(hg.z hs).2]
      exact (areQ_iff (l := [])).2 ⟨isSer_iff.2 (next_ser c1), Nat.zero_le 8, fun r hr => (by cases hr), List.Pairwise.nil⟩
    · refine needed_good (m := m + k) (by omega) hg.q c1 ?_
      show (newsW r p).next = _
      rw [show (newsW r p).next = aft (takenW r p).next k from ek, em, a2 hs, aft_add]
  have hn : newsW r p = skipW (takenW r p) p.trail := rfl
  refine ⟨c1, hq, ⟨hg.k0, hg.k1, c1, ?_, ?_, fun h => by cases h⟩, by unfold newsE; rw [List.length_append]; omega⟩
  · show areQ (awaitQ (newsW r p) (needed r.requests (newsW r p)) p.lead (r.clock + d)) (newsW r p).next = true
    unfold awaitQ
    split
    · exact (addAll_good (by omega) (by omega) _ _ (fun n hn => ⟨(missL_at (awaitN_le _ _) hn).1, (missL_at (awaitN_le _ _) hn).2.2⟩) hq needed_free).1
    · exact hq
  · show ∀ q ∈ awaitQ (newsW r p) (needed r.requests (newsW r p)) p.lead (r.clock + d), hasB (newsW r p) q.number = false
    unfold awaitQ
    split
    · exact (addAll_good (by omega) (by omega) _ _ (fun n hn => ⟨(missL_at (awaitN_le _ _) hn).1, (missL_at (awaitN_le _ _) hn).2.2⟩) hq needed_free).2
    · exact needed_free
theorem hear_good {r : Receiver} {p : Packet} {d : Int} (hg : GoodR r) (hp : goodPk p = true) (d0 : 1 ≤ d) (d1 : d ≤ 8) : GoodR (hearR r p d) ∧ (hearE r p).length ≤ 24 := by
  have hk1 := hg.k1
  have hk0 := hg.k0
  unfold hearR hearE
  split
  · exact ⟨(news_good hg hp d0 d1 (by omega)).2.2.1, (news_good hg hp d0 d1 (by omega)).2.2.2⟩
  · refine ⟨?_, by simp⟩
    split
    · rename_i h
      simp only [Bool.and_eq_true, decide_eq_true_eq] at h
      refine ⟨hk0, hk1, hg.w, confQ_good hg.q (by omega) (by omega), fun q hq => ?_, fun hs => ?_⟩
      · obtain ⟨r', hr, e⟩ := mem_confQ hq
        show hasB r.window q.number = false
        rw [← e]; exact hg.f r' hr
      · have : r.started = false := hs
        rw [h.2] at this; cases this
    · exact hg
/-- packets, one after the other -/
def hearsR (d : Int) (r : Receiver) (l : List Packet) : Receiver := l.foldl (fun r p => hearR r p d) r
def hearsE (d : Int) : Receiver → List Packet → List ByteArray
  | _, [] => []
  | r, p :: l => hearE r p ++ hearsE d (hearR r p d) l
theorem hearsE_append (d : Int) : ∀ (a : List Packet) (r : Receiver) (b : List Packet), hearsE d r (a ++ b) = hearsE d r a ++ hearsE d (hearsR d r a) b
  | [], r, b => rfl
  | p :: a, r, b => by
    show hearE r p ++ hearsE d (hearR r p d) (a ++ b) = _
    rw [hearsE_append d a]
    show _ = (hearE r p ++ hearsE d (hearR r p d) a) ++ _
    rw [List.append_assoc]; rfl
theorem hearsR_succ {d : Int} {r : Receiver} {l : List Packet} {k : Nat} (h : k < l.length) : hearsR d r (l.take (k + 1)) = hearR (hearsR d r (l.take k)) l[k] d := by
  unfold hearsR
  rw [List.take_add_one, List.getElem?_eq_getElem h, List.foldl_append]; rfl
theorem hearsE_succ {d : Int} {r : Receiver} {l : List Packet} {k : Nat} (h : k < l.length) : hearsE d r (l.take (k + 1)) = hearsE d r (l.take k) ++ hearE (hearsR d r (l.take k)) l[k] := by
  rw [List.take_add_one, List.getElem?_eq_getElem h, hearsE_append]
  show _ = _
  simp [hearsE]
theorem hears_good {d : Int} (d0 : 1 ≤ d) (d1 : d ≤ 8) : ∀ (l : List Packet) (r : Receiver), GoodR r → (∀ p ∈ l, goodPk p = true) → GoodR (hearsR d r l) ∧ (hearsE d r l).length ≤ 24 * l.length
  | [], r, hg, _ => ⟨hg, by simp [hearsE]⟩
  | p :: l, r, hg, h => by
    obtain ⟨a, b⟩ := hear_good hg (h p (by simp)) d0 d1
    obtain ⟨c, e⟩ := hears_good d0 d1 l (hearR r p d) a fun q hq => h q (by simp [hq])
    refine ⟨c, ?_⟩
    show (hearE r p ++ hearsE d (hearR r p d) l).length ≤ _
    rw [List.length_append, List.length_cons]; omega
def okHearAll (r : Receiver) (l : List Packet) (d : Int) : Bool := goodRec r && isDel d && decide ((l.length : Int) ≤ 10) && l.all goodPk
def resHearAll (r : Receiver) (l : List Packet) (d : Int) : Receiver × List ByteArray × Bool := if okHearAll r l d then (hearsR d r l, hearsE d r l, true) else (zRec, [], false)
theorem resHA_no {r : Receiver} {l : List Packet} {d : Int} (h : okHearAll r l d = false) : resHearAll r l d = (zRec, [], false) := by unfold resHearAll; rw [h]; rfl
theorem resHA_yes {r : Receiver} {l : List Packet} {d : Int} (h : okHearAll r l d = true) : resHearAll r l d = (hearsR d r l, hearsE d r l, true) := by unfold resHearAll; rw [h]; rfl
end Go.Proofs.YtgogcgkocjpgoaaGreatDoor
/- Structs of type Request in a walk's state: opened, closed. -/
namespace Go.Proofs.YtgogcgkocjpgoaaGreatDoor
open Go.RowKit
section
variable {c : Cx} {fr : Fr} {H : List Pc} {Φ : Gl}
theorem atRequest {a : Option Addr} {n cp : Nat} {xs : List Request} {F : List Nat} (i : Nat) (h : ∀ (hi : i < xs.length) (b o : Nat), a = some ⟨b, o, none⟩ → T c fr (.cel b (o + i * 4) [.int .i64 xs[i].number, .int .i64 xs[i].state, .int .i64 xs[i].untl, .int .i64 xs[i].tries] :: H) Φ) (hm : .sl ERequest (.slice a n cp) xs F ∈ H := by (repeat (first | exact .head _ | apply List.Mem.tail)); first | done | fail) (hi : i < xs.length := by omega) : T c fr H Φ := .mk fun ac w s g => by
  obtain ⟨b, o, cs, G, ha, hrep, hG, hb, hne, hr⟩ := sl_at (s.get hm) i hi
  obtain ⟨rfl, rfl⟩ := hrep
  exact (h hi b o  ha  ).h ac w (s.ro hm rfl rfl ⟨hne, hr⟩ (by intro x hx; simp [Pc.F] at hx; subst hx; exact hb)) g
theorem focRequest {t : TypeId} {a : Option Addr} {n cp : Nat} {xs : List Request} {F : List Nat} {S : List Pc} (i : Nat) (h : ∀ (_ : i < xs.length) g A B, a = some ⟨g, 0, none⟩ → F = [g] → Hole ERequest t g (.slice (some ⟨g, 0, none⟩) n cp) xs i A B → T c fr (.row g t (0 + i * 4) A [.int .i64 xs[i].number, .int .i64 xs[i].state, .int .i64 xs[i].untl, .int .i64 xs[i].tries] B :: S) Φ) (hp : Pick H (.ow ERequest t (.slice a n cp) xs F) S := by (repeat (first | exact .here | apply Pick.there)); first | done | fail) (hi : i < xs.length := by omega) : T c fr H Φ :=
  focF scal_ERequest i (fun hi g A cs B ha hF hr hh => by obtain ⟨rfl, -⟩ := hr default; exact h hi g A B ha hF  hh) hp rfl hi
theorem flatRequest (x : Request)  (w : World) : Flat ERequest w [.int .i64 x.number, .int .i64 x.state, .int .i64 x.untl, .int .i64 x.tries] [x] [] := ⟨_, [], [], [], by simp, by simp, ⟨rfl, rfl⟩, rfl, rfl⟩
end
end Go.Proofs.YtgogcgkocjpgoaaGreatDoor
/- Requests: the checks. -/
namespace Go.Proofs.YtgogcgkocjpgoaaGreatDoor
open Go.RowKit
/-- a slice, its value by parts -/
theorem t_fnsl {P : Program} {f : FuncId} {α : Type} {E : Elem α} {v : Value} {xs : List α} {F : List Nat} {rest : List Value} {A M : List Pc} {σ : Type} {C : σ → Prop} {w : σ → Value} {N : σ → List Pc} (h : ∀ a c, Fn P f (.slice a xs.length c :: rest) (.sl E (.slice a xs.length c) xs F :: A) M C w N) : Fn P f (v :: rest) (.sl E v xs F :: A) M C w N := fun w0 hH hS => by
  obtain ⟨-, hs⟩ := hH (.sl E v xs F) (by simp)
  obtain ⟨a, c, rfl⟩ := hs.slice
  exact h a c w0 hH hS
theorem isDelay_f (d : Int) : Fn Tryz.prog 107 [.int .i64 d] [] [] (fun (_ : Unit) => True) (fun _ => .bool (isDel d)) (fun _ => []) := by
  refine enter Tryz.func107 rfl Tryz.ntmps107 fun w0 => ?_
  refine go ?_; intros
  refine ce (fun w s => within_c _ _ _ _) ?_
  refine go ?_; intros
  refine ret () trivial rfl
theorem l12Delay_f (d : Int) : Fn Tryz.prog 103 [.int .i64 d] [] [] (fun (_ : Unit) => True) (fun _ => .bool (isDel d)) (fun _ => []) := by
  refine enter Tryz.func103 rfl Tryz.ntmps103 fun w0 => ?_
  refine go ?_; intros
  refine ce (fun w s => l1In_c _ _ _ _) ?_
  refine go ?_; intros
  refine ret () trivial rfl
theorem isRequest_f (r : Request) (base : Int) (b0 : 0 ≤ base) (b1 : base ≤ 65535) : Fn Tryz.prog 218 [.agg #[.int .i64 r.number, .int .i64 r.state, .int .i64 r.untl, .int .i64 r.tries], .int .i64 base] [] [] (fun (_ : Unit) => True) (fun _ => .bool (okReq base r)) (fun _ => []) := by
  refine enter Tryz.func218 rfl Tryz.ntmps218 fun w0 => ?_
  refine go ?_; intros
  refine ce (fun w s => IsSerial_c _ _) ?_
  cases g1 : isSer r.number
  · refine go ?_; intros
    refine ret () trivial ?_
    simp [okReq, g1, tup]
  obtain ⟨n0, n1⟩ := isSer_iff.1 g1
  refine go ?_; intros
  refine ce (fun w s => gap_c _ _ _ (by omega) (by omega) (by omega) (by omega)) ?_
  refine go ?_; intros
  refine wg_if rfl rfl (fun g2 => ?_) (fun g2 => ?_)
  rotate_left
  · refine go ?_; intros
    refine ret () trivial ?_
    simp [okReq, g2, tup]
  refine go ?_; intros
  refine ce (fun w s => within_c _ _ _ _) ?_
  cases g3 : btw 1 r.state 3
  · refine go ?_; intros
    refine ret () trivial ?_
    simp [okReq, g3, tup]
  refine go ?_; intros
  refine ce (fun w s => within_c _ _ _ _) ?_
  cases g4 : btw 0 r.untl 10007
  · refine go ?_; intros
    refine ret () trivial ?_
    simp [okReq, g4, tup]
  refine go ?_; intros
  refine ce (fun w s => within_c _ _ _ _) ?_
  refine go ?_; intros
  refine ret () trivial ?_
  simp [okReq, g1, g2, g3, g4, tup]
set_option maxRecDepth 100000 in
theorem AreRequests_f (l : List Request) (base : Int) (v : Value) (F : List Nat) : Fn Tryz.prog 134 [v, .int .i64 base] [.sl ERequest v l F] [] (fun (_ : Unit) => True) (fun _ => .bool (areQ l base)) (fun _ => []) := by
  refine t_fnsl (fun a c => ?_)
  refine enter Tryz.func134 rfl Tryz.ntmps134 fun w0 => ?_
  refine go ?_; intros
  refine ce (fun w s => IsSerial_c _ _) ?_
  cases g1 : isSer base
  · refine go ?_; intros
    refine ret () trivial ?_
    simp [areQ, g1, tup]
  obtain ⟨b0, b1⟩ := isSer_iff.1 g1
  refine go ?_; intros
  refine c_if rfl (fun g2 => ?_) (fun g2 => ?_)
  · refine go ?_; intros
    refine ret () trivial ?_
    rw [show areQ l base = false by unfold areQ; rw [decide_eq_false (by omega)]; simp]; rfl
  refine go ?_; intros
  refine c_loopR [0, 1, 4, 15, 16] (fun k : Nat => [(17, .int .i64 (k : Nat))]) (fun k => k ≤ l.length ∧ ∀ j, j < k → chkQ l base j = true) (fun k => l.length - k) 0 ⟨Nat.zero_le _, fun j h => by omega⟩ fun k hk => ?_
  obtain ⟨hk1, hk2⟩ := hk
  refine go ?_; intros
  refine c_if rfl (fun h3 => ?_) (fun h3 => ?_)
  · have hk3 : k < l.length := by omega
    have bad : chkQ l base k = false → areQ l base = false := fun h => areQ_no hk3 h
    have hck := chkQ_at (base := base) hk3
    refine atRequest (xs := l) k ?_
    rintro hi b o e
    rw [e]
    have p4 : 0 < k → ∃ h : k - 1 < l.length, OkReq base l[k - 1] := fun h0 => by
      have hk4 : k - 1 < l.length := by omega
      have hp := hk2 (k - 1) (by omega)
      rw [chkQ_at hk4] at hp
      simp only [Bool.and_eq_true] at hp
      exact ⟨hk4, okReq_iff.1 hp.1⟩
    refine go ?_; intros
    cases g4 : okReq base l[k]
    · skip
      refine d_start [0] [] ?_
      refine dt 0 ?_
      refine dt 1 ?_
      refine dO 2 (by kernel_rfl) (by rw [List.getElem?_toArray]; rfl) ?_
      apply o_call; rfl; kernel_rfl; exact evsE
      refine cf (isRequest_f l[k] base b0 b1) fun _ _ => ?_
      refine t_app ?_
      rw [g4]
      refine dk ?_
      refine dt 3 ?_
      refine dt 4 ?_
      refine ds 5 ?_
      refine ds 6 ?_
      refine ds 7 ?_
      refine dsu 8 ?_
      refine dsu 9 ?_
      refine dsu 10 ?_
      refine dsu 11 ?_
      refine dsu 12 ?_
      refine dsu 13 ?_
      refine dsu 14 ?_
      refine dsu 15 ?_
      refine dsu 16 ?_
      refine dsu 17 ?_
      refine dsu 18 ?_
      refine dsu 19 ?_
      refine dsu 20 ?_
      refine ds 21 ?_
      refine dt 22 ?_
      refine dd ?_
      refine go ?_; intros
      refine ret () trivial ?_
      rw [bad (by rw [hck, g4]; rfl)]; rfl
    obtain ⟨q0, q1⟩ := isSer_iff.1 (okReq_iff.1 g4).n
    by_cases hk0 : 0 < k
    · obtain ⟨hk4, p5⟩ := p4 hk0
      obtain ⟨p0, p1⟩ := isSer_iff.1 p5.n
      rw [← e]
      refine atRequest (xs := l) (k - 1) ?_
      rintro hi5 b5 o5 e5
      rw [e5]
      refine d_start [0, 1] [] ?_
      refine dt 0 ?_
      refine dt 1 ?_
      refine dO 2 (by kernel_rfl) (by rw [List.getElem?_toArray]; rfl) ?_
      apply o_call; rfl; kernel_rfl; exact evsE
      refine cf (isRequest_f l[k] base b0 b1) fun _ _ => ?_
      refine t_app ?_
      rw [g4]
      refine dk ?_
      refine dt 3 ?_
      refine dt 4 ?_
      refine dtg 5 ?_
      refine dtg 6 ?_
      rw [decide_eq_true (show (0 : Int) < k by omega)]
      refine dtg 7 ?_
      refine dtg 8 ?_
      refine dtg 9 ?_
      refine dtg 10 ?_
      refine dtg 11 ?_
      rw [show (k : Int) - 1 = ((k - 1 : Nat) : Int) by omega]
      refine dtg 12 ?_
      refine dtg 13 ?_
      refine dtg 14 ?_
      refine dtg 16 ?_
      refine dtg 17 ?_
      refine dtg 18 ?_
      refine d1g 15 ?_
      apply On.h
      apply o_call; rfl; kernel_rfl; exact evsE
      refine ce (fun w s => gap_c _ _ _ (by omega) (by omega) (by omega) (by omega)) ?_
      refine dk ?_
      refine d1g 19 ?_
      apply On.h
      apply o_call; rfl; kernel_rfl; exact evsE
      refine ce (fun w s => gap_c _ _ _ (by omega) (by omega) (by omega) (by omega)) ?_
      refine dk ?_
      refine dtg 20 ?_
      refine dtg 21 ?_
      refine dt 22 ?_
      refine dd ?_
      refine go ?_; intros
      refine c_if rfl (fun h6 => ?_) (fun h6 => ?_)
      · refine go ?_; intros
        refine ret () trivial ?_
        rw [bad (by rw [hck, decide_eq_true h6, decide_eq_false (show ¬ k = 0 by omega)]; simp)]; rfl
      · refine go ?_; intros
        refine n_lp (k + 1) ⟨by omega, fun j hj => ?_⟩ (by omega)
        rcases Nat.lt_or_eq_of_le (Nat.lt_succ_iff.1 hj) with h | rfl
        · exact hk2 j h
        · rw [hck, g4, decide_eq_false h6]; simp
    · have hz : k = 0 := by omega
      refine d_start [0] [] ?_
      refine dt 0 ?_
      refine dt 1 ?_
      refine dO 2 (by kernel_rfl) (by rw [List.getElem?_toArray]; rfl) ?_
      apply o_call; rfl; kernel_rfl; exact evsE
      refine cf (isRequest_f l[k] base b0 b1) fun _ _ => ?_
      refine t_app ?_
      rw [g4]
      refine dk ?_
      refine dt 3 ?_
      refine dt 4 ?_
      refine dtg 5 ?_
      refine dtg 6 ?_
      rw [decide_eq_false (show ¬ (0 : Int) < k by omega)]
      refine dtg 7 ?_
      refine ds 8 ?_
      refine ds 9 ?_
      refine ds 10 ?_
      refine ds 11 ?_
      refine ds 12 ?_
      refine ds 13 ?_
      refine ds 14 ?_
      refine ds 15 ?_
      refine ds 16 ?_
      refine ds 17 ?_
      refine ds 18 ?_
      refine ds 19 ?_
      refine ds 20 ?_
      refine dtg 21 ?_
      refine dt 22 ?_
      refine dd ?_
      refine go ?_; intros
      refine n_lp (k + 1) ⟨by omega, fun j hj => ?_⟩ (by omega)
      rcases Nat.lt_or_eq_of_le (Nat.lt_succ_iff.1 hj) with h | rfl
      · exact hk2 j h
      · rw [hck, g4, decide_eq_true hz]; simp
  have hkl : k = l.length := by omega
  refine go ?_; intros
  refine ret () trivial ?_
  rw [areQ_yes g1 (by omega) (hkl ▸ hk2)]; rfl
set_option maxRecDepth 100000 in
theorem l12Good_f (l : List Request) (base : Int) (v : Value) (F : List Nat) : Fn Tryz.prog 190 [v, .int .i64 base] [.sl ERequest v l F] [] (fun (_ : Unit) => True) (fun _ => .bool (areQ l base)) (fun _ => []) := by
  refine t_fnsl (fun a c => ?_)
  refine enter Tryz.func190 rfl Tryz.ntmps190 fun w0 => ?_
  refine go ?_; intros
  refine ce (fun w s => l2Good_c _ _) ?_
  cases g1 : isSer base
  · refine go ?_; intros
    refine ret () trivial ?_
    simp [areQ, g1, tup]
  obtain ⟨b0, b1⟩ := isSer_iff.1 g1
  refine go ?_; intros
  refine c_if rfl (fun g2 => ?_) (fun g2 => ?_)
  · refine go ?_; intros
    refine ret () trivial ?_
    rw [show areQ l base = false by unfold areQ; rw [decide_eq_false (by omega)]; simp]; rfl
  refine go ?_; intros
  refine c_loopR [0, 1, 4] (fun k : Nat => [(5, .int .i64 (k : Nat))]) (fun k => k ≤ l.length ∧ ∀ j, j < k → chkQ l base j = true) (fun k => l.length - k) 0 ⟨Nat.zero_le _, fun j h => by omega⟩ fun k hk => ?_
  obtain ⟨hk1, hk2⟩ := hk
  refine go ?_; intros
  refine c_if rfl (fun h3 => ?_) (fun h3 => ?_)
  · have hk3 : k < l.length := by omega
    have bad : chkQ l base k = false → areQ l base = false := fun h => areQ_no hk3 h
    have hck := chkQ_at (base := base) hk3
    refine atRequest (xs := l) k ?_
    rintro hi b o e
    rw [e]
    have p4 : 0 < k → ∃ h : k - 1 < l.length, OkReq base l[k - 1] := fun h0 => by
      have hk4 : k - 1 < l.length := by omega
      have hp := hk2 (k - 1) (by omega)
      rw [chkQ_at hk4] at hp
      simp only [Bool.and_eq_true] at hp
      exact ⟨hk4, okReq_iff.1 hp.1⟩
    refine go ?_; intros
    refine ce (fun w s => l2Good_c _ _) ?_
    cases g5 : isSer l[k].number
    · refine go ?_; intros
      refine ret () trivial ?_
      rw [bad (by rw [hck, show okReq base l[k] = false by unfold okReq; simp [g5]]; rfl)]; rfl
    obtain ⟨q0, q1⟩ := isSer_iff.1 g5
    refine go ?_; intros
    refine ce (fun w s => l2Gap_c _ _ _ (by omega) (by omega)) ?_
    refine go ?_; intros
    refine wg_if rfl rfl (fun g6 => ?_) (fun g6 => ?_)
    · refine go ?_; intros
      refine ret () trivial ?_
      rw [bad (by rw [hck, show okReq base l[k] = false by unfold okReq; rw [decide_eq_false (by omega)]; simp]; rfl)]; rfl
    refine go ?_; intros
    refine ce (fun w s => l1In_c _ _ _ _) ?_
    cases g7 : btw 1 l[k].state 3
    · refine go ?_; intros
      refine ret () trivial ?_
      rw [bad (by rw [hck, show okReq base l[k] = false by unfold okReq; simp [g7]]; rfl)]; rfl
    refine go ?_; intros
    refine ce (fun w s => l1In_c _ _ _ _) ?_
    cases g8 : btw 0 l[k].untl 10007
    · refine go ?_; intros
      refine ret () trivial ?_
      rw [bad (by rw [hck, show okReq base l[k] = false by unfold okReq; simp [g8]]; rfl)]; rfl
    refine go ?_; intros
    refine ce (fun w s => l1In_c _ _ _ _) ?_
    cases g9 : btw 0 l[k].tries 3
    · refine go ?_; intros
      refine ret () trivial ?_
      rw [bad (by rw [hck, show okReq base l[k] = false by unfold okReq; simp [g9]]; rfl)]; rfl
    refine go ?_; intros
    have g4 : okReq base l[k] = true := by unfold okReq; rw [g5, g7, g8, g9, decide_eq_true (by omega)]; rfl
    by_cases hk0 : 0 < k
    · obtain ⟨hk4, p5⟩ := p4 hk0
      obtain ⟨p0, p1⟩ := isSer_iff.1 p5.n
      rw [← e]
      refine atRequest (xs := l) (k - 1) ?_
      rintro hi5 b5 o5 e5
      rw [e5]
      refine d_start [1, 0] [] ?_
      refine dt 0 ?_
      refine dt 1 ?_
      rw [decide_eq_true (show (0 : Int) < k by omega)]
      refine dt 2 ?_
      refine dtg 3 ?_
      refine dtg 4 ?_
      refine dtg 5 ?_
      refine dtg 6 ?_
      rw [show (k : Int) - 1 = ((k - 1 : Nat) : Int) by omega]
      refine dtg 7 ?_
      refine dtg 8 ?_
      refine dtg 9 ?_
      refine dtg 11 ?_
      refine dtg 12 ?_
      refine dtg 13 ?_
      refine d1g 10 ?_
      apply On.h
      apply o_call; rfl; kernel_rfl; exact evsE
      refine ce (fun w s => l2Gap_c _ _ _ (by omega) (by omega)) ?_
      refine dk ?_
      refine d1g 14 ?_
      apply On.h
      apply o_call; rfl; kernel_rfl; exact evsE
      refine ce (fun w s => l2Gap_c _ _ _ (by omega) (by omega)) ?_
      refine dk ?_
      refine dtg 15 ?_
      refine dt 16 ?_
      refine dd ?_
      refine go ?_; intros
      refine c_if rfl (fun h6 => ?_) (fun h6 => ?_)
      · refine go ?_; intros
        refine ret () trivial ?_
        rw [bad (by rw [hck, decide_eq_true h6, decide_eq_false (show ¬ k = 0 by omega)]; simp)]; rfl
      · refine go ?_; intros
        refine n_lp (k + 1) ⟨by omega, fun j hj => ?_⟩ (by omega)
        rcases Nat.lt_or_eq_of_le (Nat.lt_succ_iff.1 hj) with h | rfl
        · exact hk2 j h
        · rw [hck, g4, decide_eq_false h6]; simp
    · have hz : k = 0 := by omega
      refine d_start [0] [] ?_
      refine dt 0 ?_
      refine dt 1 ?_
      rw [decide_eq_false (show ¬ (0 : Int) < k by omega)]
      refine dt 2 ?_
      refine ds 3 ?_
      refine ds 4 ?_
      refine ds 5 ?_
      refine ds 6 ?_
      refine ds 7 ?_
      refine ds 8 ?_
      refine ds 9 ?_
      refine ds 10 ?_
      refine ds 11 ?_
      refine ds 12 ?_
      refine ds 13 ?_
      refine ds 14 ?_
      refine ds 15 ?_
      refine dt 16 ?_
      refine dd ?_
      refine go ?_; intros
      refine n_lp (k + 1) ⟨by omega, fun j hj => ?_⟩ (by omega)
      rcases Nat.lt_or_eq_of_le (Nat.lt_succ_iff.1 hj) with h | rfl
      · exact hk2 j h
      · rw [hck, g4, decide_eq_true hz]; simp
  have hkl : k = l.length := by omega
  refine go ?_; intros
  refine ret () trivial ?_
  rw [areQ_yes g1 (by omega) (hkl ▸ hk2)]; rfl
end Go.Proofs.YtgogcgkocjpgoaaGreatDoor
/- Copies of slices by the library. -/
namespace Go.Proofs.YtgogcgkocjpgoaaGreatDoor
open Go.RowKit
theorem yd_eqn {P : Program} {n : Nat} {fr : Fr} {H : List Pc} {ty t' : TypeId} {x : Operand} {t e m : Nat} [hS : SlC P t e m] {a : Option Addr} {l c : Nat} (hx : ev fr x = some (.slice a l c)) : Yd P n fr H (.binOp .eql t x (.const (.slice none 0 0)) t') ty (.bool a.isNone) := .mk fun ac w d pos aft gd hA _ => by
  have he : ac.eval (.const (.slice none 0 0)) = .slice none 0 0 := rfl
  have eg : eqGuard .eql t x (.const (.slice none 0 0)) (.slice a l c) (.slice none 0 0) = pure () := by unfold eqGuard; simp
  simp only [execOp, hA.ev hx, he, eg, Sem.run_bind, Sem.run_pure, Result.andThen_ok, Lib.run_eql_slice_nil w t e a l c 0 0 hS.u]
theorem t_none {c : Cx} {fr : Fr} {H : List Pc} {Φ : Gl} {α : Type} {E : Elem α} {n cp : Nat} {xs : List α} {F : List Nat} (h : xs = [] → T c fr H Φ) (hm : .sl E (.slice none n cp) xs F ∈ H := by (repeat (first | exact .head _ | apply List.Mem.tail)); first | done | fail) : T c fr H Φ := .mk fun ac w s g => by
  obtain ⟨-, a, cap, hv, -, ⟨rfl, -, -⟩ | ⟨b, off, F', rfl, -⟩⟩ := s.get hm
  · exact (h rfl).h ac w s g
  · cases hv

theorem ClRequest_f (xs : List Request) (a : Option Addr) (c : Nat) (F : List Nat) (hl : xs.length ≤ 1000000000) :
    Fn Tryz.prog 197 [.slice a xs.length c] [.sl ERequest (.slice a xs.length c) xs F] [] (fun (_ : Option Addr × Nat × List Nat) => True) (fun z => .slice z.1 xs.length z.2.1) (fun z => [.ow ERequest 152 (.slice z.1 xs.length z.2.1) xs z.2.2]) := by
  refine enter Tryz.func197 rfl Tryz.ntmps197 fun w0 => ?_
  refine go ?_; intros
  cases a with
  | none =>
    refine t_none (xs := xs) fun h0 => ?_
    subst h0
    apply wO; apply oc; rfl; exact yd_eqn rfl
    refine t_nilow ERequest 152 ?_
    refine go ?_; intros
    refine ret (none, 0, []) trivial rfl
  | some ad =>
    apply wO; apply oc; rfl; exact yd_eqn rfl
    refine go ?_; intros
    refine t_emp ERequest ?_
    apply wO
    refine aps one_ERequest scal_ERequest fun a2 c2 F2 => ?_
    rw [List.nil_append]
    refine go ?_; intros
    refine ret (a2, c2, F2) trivial rfl
end Go.Proofs.YtgogcgkocjpgoaaGreatDoor
/- Structs of type Receiver in a walk's state: opened, closed. -/
namespace Go.Proofs.YtgogcgkocjpgoaaGreatDoor
open Go.RowKit
section
variable {c : Cx} {fr : Fr} {H : List Pc} {Φ : Gl}
theorem openReceiver {v : Value} {x : Receiver} {F : List Nat} (h : ∀ (a1 : Option Addr) (c1 : Nat) (F1 : List Nat) (a2 : Option Addr) (c2 : Nat) (F2 : List Nat), v = .agg #[.bool x.started, .int .i64 x.clock, .int .i64 x.window.next, .slice a1 x.window.slots.length c1, .slice a2 x.requests.length c2] → x.window.slots.length ≤ maxLen → x.requests.length ≤ maxLen → T c fr (.sl ESlot (.slice a1 x.window.slots.length c1) x.window.slots F1 :: .sl ERequest (.slice a2 x.requests.length c2) x.requests F2 :: H) Φ) (hm : .isv EReceiver v x F ∈ H := by (repeat (first | exact .head _ | apply List.Mem.tail)); first | done | fail) : T c fr H Φ := .mk fun a w s g => by
  obtain ⟨cs, rfl, v1, v2, G1, G2, rfl, h1, h2, rfl⟩ := s.get hm
  obtain ⟨a1, c1, rfl⟩ := h1.slice; have l1 := h1.len
  obtain ⟨a2, c2, rfl⟩ := h2.slice; have l2 := h2.len
  have t2 := s.ro (p := .sl ERequest (.slice a2 x.requests.length c2) x.requests G2) hm rfl rfl ⟨by decide, h2⟩ (by intro b hb; simp only [Pc.F] at hb ⊢; simp [hb])
  have t1 := t2.ro (p := .sl ESlot (.slice a1 x.window.slots.length c1) x.window.slots G1) (List.mem_cons_of_mem _ hm) rfl rfl ⟨by decide, h1⟩ (by intro b hb; simp only [Pc.F] at hb ⊢; simp [hb])
  exact (h a1 c1 G1 a2 c2 G2 rfl  l1 l2).h a w t1 g
theorem closeReceiver (x : Receiver) {a1 : Option Addr} {c1 : Nat} {F1 : List Nat} {a2 : Option Addr} {c2 : Nat} {F2 : List Nat}  (h : T c fr (.isv EReceiver (.agg #[.bool x.started, .int .i64 x.clock, .int .i64 x.window.next, .slice a1 x.window.slots.length c1, .slice a2 x.requests.length c2]) x (F1 ++ F2) :: H) Φ) (m1 : .sl ESlot (.slice a1 x.window.slots.length c1) x.window.slots F1 ∈ H := by (repeat (first | exact .head _ | apply List.Mem.tail)); first | done | fail) (m2 : .sl ERequest (.slice a2 x.requests.length c2) x.requests F2 ∈ H := by (repeat (first | exact .head _ | apply List.Mem.tail)); first | done | fail) : T c fr H Φ := .mk fun a w s g => by
  have hP : IsV EReceiver w (.agg #[.bool x.started, .int .i64 x.clock, .int .i64 x.window.next, .slice a1 x.window.slots.length c1, .slice a2 x.requests.length c2]) x (F1 ++ F2) := ⟨_, rfl, _, _, _, _, rfl, (s.get m1).2, (s.get m2).2, rfl⟩
  refine h.h a w (s.add (N := [.isv EReceiver (.agg #[.bool x.started, .int .i64 x.clock, .int .i64 x.window.next, .slice a1 x.window.slots.length c1, .slice a2 x.requests.length c2]) x (F1 ++ F2)]) (Below.refl _ _) (by intro q hq; simp at hq; subst hq; exact hP) ⟨by simp, trivial⟩ fun q hq b hb => ?_) g
  simp at hq; subst hq
  simp only [Pc.F, List.mem_append] at hb
  rcases hb with hb | hb
  · exact .inr ⟨rfl, _, m1, rfl, hb⟩
  · exact .inr ⟨rfl, _, m2, rfl, hb⟩
theorem openOReceiver {v : Value} {x : Receiver} {F : List Nat} {S : List Pc} (h : ∀ (a1 : Option Addr) (c1 : Nat) (F1 : List Nat) (a2 : Option Addr) (c2 : Nat) (F2 : List Nat), v = .agg #[.bool x.started, .int .i64 x.clock, .int .i64 x.window.next, .slice a1 x.window.slots.length c1, .slice a2 x.requests.length c2] → x.window.slots.length ≤ maxLen → x.requests.length ≤ maxLen → T c fr (.ow ESlot 213 (.slice a1 x.window.slots.length c1) x.window.slots F1 :: .ow ERequest 152 (.slice a2 x.requests.length c2) x.requests F2 :: S) Φ) (hp : Pick H (.own OReceiver v x F) S := by (repeat (first | exact .here | apply Pick.there)); first | done | fail) : T c fr H Φ := .mk fun a w s g => by
  have z1 := s.pick hp
  obtain ⟨hn, cs, rfl, v1, v2, G1, G2, rfl, h1, h2, rfl⟩ := z1.on (.own OReceiver v x F) (by simp)
  obtain ⟨a1, c1, rfl⟩ := h1.slice; have l1 := h1.len
  obtain ⟨a2, c2, rfl⟩ := h2.slice; have l2 := h2.len
  have hn2 := hn; simp only [List.nodup_append, List.mem_append] at hn2
  refine (h a1 c1 G1 a2 c2 G2 rfl  l1 l2).h a w (St.turn (M := [.own OReceiver (.agg #[.bool x.started, .int .i64 x.clock, .int .i64 x.window.next, .slice a1 x.window.slots.length c1, .slice a2 x.requests.length c2]) x _]) (N := [.ow ESlot 213 (.slice a1 x.window.slots.length c1) x.window.slots G1, .ow ERequest 152 (.slice a2 x.requests.length c2) x.requests G2]) z1 (Keep.refl _ w) ?_ ?_ ?_) g
  · intro q hq; simp only [List.mem_cons, List.not_mem_nil, or_false] at hq
    rcases hq with rfl | rfl
    · exact ⟨(List.nodup_append.1 hn).1, h1⟩
    · exact ⟨(List.nodup_append.1 hn).2.1, h2⟩
  · refine ⟨?_, ⟨?_, trivial⟩⟩
    · intro q hq _ b hb hb2; simp only [List.mem_cons, List.not_mem_nil, or_false] at hq; rcases hq with rfl <;> simp only [Pc.F] at hb hb2 <;> exact nodup_apt hn hb hb2
    · intro q hq _ b hb hb2; simp at hq
  · intro q hq b hb; refine .inr (.inl ⟨_, List.mem_singleton.2 rfl, rfl, ?_⟩); simp only [List.mem_cons, List.not_mem_nil, or_false] at hq; rcases hq with rfl | rfl <;> simp only [Pc.F] at hb ⊢ <;> simp [hb]
theorem closeOReceiver (x : Receiver) {a1 : Option Addr} {c1 : Nat} {F1 : List Nat} {a2 : Option Addr} {c2 : Nat} {F2 : List Nat} {S1 S2 : List Pc}  (h : T c fr (.own OReceiver (.agg #[.bool x.started, .int .i64 x.clock, .int .i64 x.window.next, .slice a1 x.window.slots.length c1, .slice a2 x.requests.length c2]) x (F1 ++ F2) :: S2) Φ) (m1 : Pick H (.ow ESlot 213 (.slice a1 x.window.slots.length c1) x.window.slots F1) S1 := by (repeat (first | exact .here | apply Pick.there)); first | done | fail) (m2 : Pick S1 (.ow ERequest 152 (.slice a2 x.requests.length c2) x.requests F2) S2 := by (repeat (first | exact .here | apply Pick.there)); first | done | fail)  : T c fr H Φ := .mk fun a w s g => by
  have z1 : St c.G c.D c.w0 ([.ow ESlot 213 (.slice a1 x.window.slots.length c1) x.window.slots F1, .ow ERequest 152 (.slice a2 x.requests.length c2) x.requests F2] ++ S2) w := by simpa using (show Picks H [.ow ESlot 213 (.slice a1 x.window.slots.length c1) x.window.slots F1, .ow ERequest 152 (.slice a2 x.requests.length c2) x.requests F2] S2 from Picks.cons m1 (Picks.cons m2 (Picks.nil))).st (X := []) (by simpa using s)
  obtain ⟨n1, k1⟩ := z1.on (.ow ESlot 213 (.slice a1 x.window.slots.length c1) x.window.slots F1) (by simp)
  obtain ⟨n2, k2⟩ := z1.on (.ow ERequest 152 (.slice a2 x.requests.length c2) x.requests F2) (by simp)
  have hsp := z1.sep
  have p1_2 : ∀ b ∈ F1, b ∉ F2 := hsp.1 (.ow ERequest 152 (.slice a2 x.requests.length c2) x.requests F2) (by simp) rfl
  have hN : (F1 ++ F2).Nodup := by
    simp only [List.nodup_append, List.mem_append]
    grind
  refine h.h a w (St.turn (M := [.ow ESlot 213 (.slice a1 x.window.slots.length c1) x.window.slots F1, .ow ERequest 152 (.slice a2 x.requests.length c2) x.requests F2]) (N := [.own OReceiver (.agg #[.bool x.started, .int .i64 x.clock, .int .i64 x.window.next, .slice a1 x.window.slots.length c1, .slice a2 x.requests.length c2]) x (F1 ++ F2)]) z1 (Keep.refl _ w) (by intro q hq; simp at hq; subst hq; exact ⟨hN, _, rfl, _, _, _, _, rfl, k1, k2, rfl⟩) ⟨by simp, trivial⟩ fun q hq b hb => ?_) g
  simp at hq; subst hq
  simp only [Pc.F, List.mem_append] at hb
  rcases hb with hb | hb
  · exact .inr (.inl ⟨.ow ESlot 213 (.slice a1 x.window.slots.length c1) x.window.slots F1, by simp, rfl, hb⟩)
  · exact .inr (.inl ⟨.ow ERequest 152 (.slice a2 x.requests.length c2) x.requests F2, by simp, rfl, hb⟩)
end
end Go.Proofs.YtgogcgkocjpgoaaGreatDoor
/- A row of our own that is only read from here on. -/
namespace Go.Proofs.YtgogcgkocjpgoaaGreatDoor
open Go.RowKit
theorem t_rocel {c : Cx} {fr : Fr} {H S : List Pc} {Φ : Gl} {g t : Nat} {cs : List Value} (h : T c fr (.cel g 0 cs :: S) Φ) (h0 : cs ≠ []) (hp : Pick H (.row g t 0 [] cs []) S := by (repeat (first | exact .here | apply Pick.there)); first | done | fail) : T c fr H Φ := .mk fun ac w s ag => by
  have s1 := s.pick hp
  exact h.h ac w (s1.conv rfl ⟨h0, row_range (s1.on (.row g t 0 [] cs []) (by simp))⟩ (fun b hb => hb)) ag
/-- a part of a row, by itself; and back -/
theorem t_rin {c : Cx} {fr : Fr} {H S : List Pc} {Φ : Gl} {g t o k : Nat} {A B L : List Value} (X cs Y : List Value) (h : T c fr (.row g t (o + k) (A ++ X) cs (Y ++ B) :: S) Φ) (hL : L = X ++ cs ++ Y := by rfl) (hk : X.length = k := by rfl) (hp : Pick H (.row g t o A L B) S := by (repeat (first | exact .here | apply Pick.there)); first | done | fail) : T c fr H Φ := .mk fun ac w s ag => by
  subst hL hk
  have s1 := s.pick hp
  obtain ⟨hA, hr⟩ := s1.on (.row g t o A (X ++ cs ++ Y) B) (by simp)
  exact h.h ac w (s1.conv rfl ⟨by simp [hA], by simpa [List.append_assoc] using hr⟩ (fun b hb => hb)) ag
theorem t_rout {c : Cx} {fr : Fr} {H S : List Pc} {Φ : Gl} {g t o k : Nat} {A B L : List Value} (X cs Y : List Value) (h : T c fr (.row g t o A L B :: S) Φ) (hL : L = X ++ cs ++ Y := by rfl) (hk : X.length = k := by rfl) (hp : Pick H (.row g t (o + k) (A ++ X) cs (Y ++ B)) S := by (repeat (first | exact .here | apply Pick.there)); first | done | fail) : T c fr H Φ := .mk fun ac w s ag => by
  subst hL hk
  have s1 := s.pick hp
  obtain ⟨hA, hr⟩ := s1.on (.row g t (o + X.length) (A ++ X) cs (Y ++ B)) (by simp)
  exact h.h ac w (s1.conv rfl ⟨by simpa using hA, by simpa [List.append_assoc] using hr⟩ (fun b hb => hb)) ag
theorem hsub_skip {p : Pc} : ∀ (A : List Pc), HSub (p :: A) A
  | [] => .nil
  | _ :: r => .cons (.there .here) (hsub_skip r)
end Go.Proofs.YtgogcgkocjpgoaaGreatDoor
/- Receivers: the checks, copies. -/
namespace Go.Proofs.YtgogcgkocjpgoaaGreatDoor
open Go.RowKit
set_option maxRecDepth 100000 in
theorem IdxReq_f (fid : FuncId) (bd caps : List Value) (A : List Pc) (hA : A.all (fun p => !p.mu) = true) (xs : List Request) (a : Option Addr) (c : Nat) (F : List Nat) (p : Request → Bool) (hb : bodyB Tryz.prog fid = true) (hl : xs.length ≤ 1000000000)
    (hp : ∀ x ∈ xs, ∀ w, Hol A w → Calls Tryz.prog fid (bd ++ [(.agg #[.int .i64 (x).number, .int .i64 (x).state, .int .i64 (x).untl, .int .i64 (x).tries] : Value)] ++ caps).toArray w fun e w' => e = .returned (.bool (p x)) ∧ Below w.heap.size w w') :
    Fn Tryz.prog 219 [.slice a xs.length c, .func (.func fid) bd.toArray caps.toArray] (.sl ERequest (.slice a xs.length c) xs F :: A) [] (fun (_ : Unit) => True) (fun _ => .int .i64 (fidx p xs)) (fun _ => []) := by
  refine enter Tryz.func219 rfl Tryz.ntmps219 (fun w0 => ?_) rfl (by simpa [Pc.mu] using hA) .nil
  refine go ?_; intros
  refine c_loopR [0, 1, 4, 7] (fun k : Nat => [(8, .int .i64 (k : Nat))]) (fun k => k ≤ xs.length ∧ ∀ j (_ : j < k) (hj : j < xs.length), p xs[j] = false) (fun k => xs.length - k) 0 ⟨Nat.zero_le _, fun j h => by omega⟩ fun k hk => ?_
  obtain ⟨hk1, hk2⟩ := hk
  refine go ?_; intros
  refine c_if rfl (fun h5 => ?_) (fun h5 => ?_)
  · have hh : k < xs.length := by omega
    refine go ?_; intros
    refine atRequest (xs := xs) k ?_
    rintro hi b o e
    rw [e]
    refine go ?_; intros
    apply wO
    refine o_callb rfl rfl hb evsE ?_
    refine cb (fun w st => hp xs[k] (List.getElem_mem hh) w (fun q hq => st.on q (by simp [hq]))) ?_
    cases hpk : p xs[k]
    · refine go ?_; intros
      refine t_drop ?_
      refine n_lp (hH := hsub_refl _) (k + 1) ⟨hh, fun j hj h => ?_⟩ (by omega)
      rcases Nat.lt_or_eq_of_le (Nat.lt_succ_iff.1 hj) with h2 | rfl
      · exact hk2 j h2 h
      · exact hpk
    · refine go ?_; intros
      refine ret () trivial ?_
      rw [fidx_hit hh hk2 hpk]; rfl
  · obtain rfl : k = xs.length := by omega
    refine go ?_; intros
    refine ret () trivial ?_
    rw [fidx_none (fun j hj => hk2 j hj hj)]; rfl
structure DfReq where
  i : Nat
  j : Nat
  zs : List Request
set_option maxRecDepth 100000 in
theorem DelReq_f (fid : FuncId) (bd caps : List Value) (A : List Pc) (hA : A.all (fun p => !p.mu) = true) (xs : List Request) (a : Option Addr) (c : Nat) (F : List Nat) (p : Request → Bool) (hb : bodyB Tryz.prog fid = true) (hl : xs.length ≤ 1000000000)
    (hp : ∀ x ∈ xs, ∀ w, Hol A w → Calls Tryz.prog fid (bd ++ [(.agg #[.int .i64 (x).number, .int .i64 (x).state, .int .i64 (x).untl, .int .i64 (x).tries] : Value)] ++ caps).toArray w fun e w' => e = .returned (.bool (p x)) ∧ Below w.heap.size w w') :
    Fn Tryz.prog 255 [.slice a xs.length c, .func (.func fid) bd.toArray caps.toArray] A [.ow ERequest 152 (.slice a xs.length c) xs F] (fun (_ : Option Addr × Nat × List Nat) => True)
      (fun z => .slice z.1 (xs.filter fun x => !p x).length z.2.1) (fun z => [.ow ERequest 152 (.slice z.1 (xs.filter fun x => !p x).length z.2.1) (xs.filter fun x => !p x) z.2.2]) := by
  refine enter Tryz.func255 rfl Tryz.ntmps255 (fun w0 => ?_) rfl (by simpa [Pc.mu] using hA) (.cons .nil)
  refine go ?_; intros
  refine cb (fun w st => by
    obtain ⟨Fw, -, hw⟩ := (st.get (p := .ow ERequest 152 (.slice a xs.length c) xs F) (by simp)).2.read
    refine (IdxReq_f fid bd caps A hA xs a c Fw p hb hl hp).val w ?_ (by simpa [Pc.mu] using hA)
    intro q hq
    rcases List.mem_cons.1 hq with rfl | hq
    · exact ⟨by decide, hw⟩
    · exact st.on q (by simp [hq])) ?_
  by_cases hany : xs.any p = true
  · obtain ⟨i0, hi0, hfx, hpi, hfl⟩ := fidx_some hany
    rw [hfx]
    refine t_head (xs := xs) scal_ERequest (by rintro rfl; simp at hi0) ?_
    rintro g rfl rfl - hc1 hc2
    refine go ?_; intros
    refine c_loopS [0, 1, 4] (fun s : DfReq => [(5, .int .i64 (s.i : Nat)), (6, .int .i64 (s.j : Nat))]) (fun s => [.ow ERequest 152 (.slice (some ⟨g, 0, none⟩) xs.length c) s.zs [g]]) (fun s => s.zs.length = xs.length ∧ s.j ≤ xs.length ∧ s.i < s.j ∧ s.zs.take s.i = (xs.take s.j).filter (fun x => !p x) ∧ s.zs.drop s.j = xs.drop s.j) (fun s => xs.length - s.j) ⟨i0, i0 + 1, xs⟩ ⟨rfl, hi0, Nat.lt_succ_self _, by rw [filter_take_no hi0 (by simp [hpi]), hfl], rfl⟩ fun s hs => ?_
    obtain ⟨i, j, zs⟩ := s
    obtain ⟨h1, h2, h3, h4, h5⟩ := hs
    dsimp only at h1 h2 h3 h4 h5 ⊢
    refine go ?_; intros
    refine c_if rfl (fun h6 => ?_) (fun h6 => ?_)
    · have hj : j < xs.length := by omega
      have hjz : j < zs.length := by omega
      have hx : zs[j] = xs[j] := by
        have a1 := List.drop_eq_getElem_cons hjz
        have a2 := List.drop_eq_getElem_cons hj
        rw [h5, a2] at a1
        exact (List.cons.inj a1).1.symm
      have hdz : zs.drop (j + 1) = xs.drop (j + 1) := by
        rw [← List.drop_drop, h5, List.drop_drop]
      refine go ?_; intros
      refine focF (m := 4) scal_ERequest j ?_ (by repeat (first | exact .here | apply Pick.there)) rfl hjz
      rintro _ g2 A2 cs2 B2 e1 e2 hc3 hh
      cases e1
      obtain ⟨rfl, -⟩ := hc3 w0
      refine go ?_; intros
      refine unfF zs[j] hh hc3 ?_
      rw [List.set_getElem_self, hx]
      apply wO
      refine o_callb rfl rfl hb evsE ?_
      refine cb (fun w st => hp xs[j] (List.getElem_mem hj) w (fun q hq => st.on q (by simp [hq]))) ?_
      cases hpj : p xs[j]
      · refine go ?_; intros
        refine focF (m := 4) scal_ERequest i ?_ (by repeat (first | exact .here | apply Pick.there)) rfl (by omega)
        rintro _ g3 A3 cs3 B3 e1 e2 hc4 hh3
        cases e1
        obtain ⟨rfl, -⟩ := hc4 w0
        refine go ?_; intros
        refine unfF xs[j] hh3 (fun w => ⟨rfl, rfl⟩) ?_
        refine n_lp (hH := .cons .here (hsub_skip _)) (⟨i + 1, j + 1, zs.set i xs[j]⟩ : DfReq) ⟨by simp [h1], hj, Nat.succ_lt_succ h3, ?_, ?_⟩ (by dsimp only; omega)
        · dsimp only
          rw [filter_take_yes hj (by simp [hpj]), ← h4, List.take_add_one, List.getElem?_set_self (by omega), List.take_set_of_le (Nat.le_refl _)]
          rfl
        · dsimp only
          rw [List.drop_set_of_lt (by omega), hdz]
      · refine go ?_; intros
        refine n_lp (hH := .cons .here (hsub_skip _)) (⟨i, j + 1, zs⟩ : DfReq) ⟨h1, hj, Nat.lt_succ_of_lt h3, ?_, hdz⟩ (by dsimp only; omega)
        dsimp only
        rw [filter_take_no hj (by simp [hpj]), h4]
    · obtain rfl : j = xs.length := by omega
      have h4' : zs.take i = xs.filter fun x => !p x := by rw [h4, List.take_length]
      have hil : (xs.filter fun x => !p x).length = i := by rw [← h4', List.length_take]; omega
      refine go ?_; intros
      apply wO; apply oc; rfl; exact yd_slv (i := i) rfl rfl rfl (by omega) (by omega) (by omega)
      refine go ?_; intros
      apply wO
      refine o_clr (z0 := ⟨0, 0, 0, 0⟩) (n := xs.length) (cp := c) (i := i) (g := g) scal_ERequest (fun w => ⟨rfl, rfl⟩) (by decide) rfl rfl h3 h1.symm (by repeat (first | exact .here | apply Pick.there)) ?_
      refine go ?_; intros
      refine t_take (xs := zs.take i ++ List.replicate (xs.length - i) ⟨0, 0, 0, 0⟩) i (fun F2 => ?_) (by rw [List.length_append, List.length_take, List.length_replicate]; omega)
      rw [List.take_left' (by rw [List.length_take]; omega), h4']
      apply wO; apply oc; rfl; exact yd_slt (i := i) rfl rfl rfl (by omega) (by omega)
      refine go ?_; intros
      subst hil
      refine ret (_, c, F2) trivial rfl
  · obtain ⟨hfx, hfl⟩ := fidx_all hany
    rw [hfx, hfl]
    refine go ?_; intros
    refine ret (a, c, F) trivial rfl

theorem ConReq_f (fid : FuncId) (bd caps : List Value) (A : List Pc) (hA : A.all (fun p => !p.mu) = true) (xs : List Request) (a : Option Addr) (c : Nat) (F : List Nat) (p : Request → Bool) (hb : bodyB Tryz.prog fid = true) (hl : xs.length ≤ 1000000000)
    (hp : ∀ x ∈ xs, ∀ w, Hol A w → Calls Tryz.prog fid (bd ++ [(.agg #[.int .i64 (x).number, .int .i64 (x).state, .int .i64 (x).untl, .int .i64 (x).tries] : Value)] ++ caps).toArray w fun e w' => e = .returned (.bool (p x)) ∧ Below w.heap.size w w') :
    Fn Tryz.prog 135 [.slice a xs.length c, .func (.func fid) bd.toArray caps.toArray] (.sl ERequest (.slice a xs.length c) xs F :: A) [] (fun (_ : Unit) => True) (fun _ => .bool (xs.any p)) (fun _ => []) := by
  refine enter Tryz.func135 rfl Tryz.ntmps135 (fun w0 => ?_) rfl (by simpa [Pc.mu] using hA) .nil
  refine go ?_; intros
  refine cb (fun w st => (IdxReq_f fid bd caps A hA xs a c F p hb hl hp).val w (fun q hq => st.on q (by simpa using hq)) (by simpa [Pc.mu] using hA)) ?_
  refine go ?_; intros
  refine ret () trivial ?_
  rw [fidx_any]; rfl

theorem recv1_f (x : ReceiveWindow) (r : Request) (g : Nat) (b : Bool) (ck : Int) (q : Value) (a1 : Option Addr) (c1 : Nat) (F : List Nat) (h0 : 0 ≤ x.next) (h1 : x.next ≤ 65535) (n0 : 0 ≤ r.number) (n1 : r.number ≤ 65535) : Fn Tryz.prog 136 [.agg #[.int .i64 r.number, .int .i64 r.state, .int .i64 r.untl, .int .i64 r.tries], ptr g 0 0] [.cel g 0 [.bool b, .int .i64 ck, .int .i64 x.next, .slice a1 x.slots.length c1, q], .isv EReceiveWindow (.agg #[.int .i64 x.next, .slice a1 x.slots.length c1]) x F] [] (fun (_ : Unit) => True) (fun _ => .bool (hasB x r.number)) (fun _ => []) := by
  refine enter Tryz.func136 rfl Tryz.ntmps136 fun w0 => ?_
  refine go ?_; intros
  refine cf (RWhas_f x r.number _ F h0 h1 n0 n1) fun _ _ => ?_
  refine t_app ?_
  refine go ?_; intros
  refine ret () trivial rfl
set_option maxRecDepth 100000 in
theorem IsValidReceiver_f (x : Receiver) (v : Value) (F : List Nat) : Fn Tryz.prog 51 [v] [.isv EReceiver v x F] [] (fun (_ : Unit) => True) (fun _ => .bool (goodRec x)) (fun _ => []) := by
  refine enter Tryz.func51 rfl Tryz.ntmps51 fun w0 => ?_
  refine openReceiver ?_
  rintro a1 c1 F1 a2 c2 F2 rfl l1 l2
  unfold maxLen at l1 l2
  refine closeReceiveWindow x.window ?_
  generalize F1 = F3
  refine go ?_; intros
  refine ce (fun w s => isClock_c _ _) ?_
  cases g1 : isClk x.clock
  · refine go ?_; intros
    refine ret () trivial ?_
    simp [goodRec, g1, tup]
  refine go ?_; intros
  cases hs : x.started
  · have nog : zeroRec x = false → goodRec x = false := fun h => by unfold goodRec; rw [g1, hs]; simpa using h
    refine go ?_; intros
    refine wg_if rfl rfl (fun h1 => ?_) (fun h1 => ?_)
    rotate_left
    · refine go ?_; intros
      refine ret () trivial ?_
      rw [nog (by unfold zeroRec; rw [decide_eq_false h1]; rfl)]; rfl
    refine go ?_; intros
    refine wg_if rfl rfl (fun h2 => ?_) (fun h2 => ?_)
    rotate_left
    · refine go ?_; intros
      refine ret () trivial ?_
      rw [nog (by unfold zeroRec; rw [decide_eq_false (show ¬ x.window.slots.length = 0 by omega)]; simp)]; rfl
    refine go ?_; intros
    refine ret () trivial ?_
    rw [show goodRec x = decide ((x.requests.length : Int) = 0) by unfold goodRec; rw [g1, hs]; unfold zeroRec; rw [decide_eq_true h1, decide_eq_true (show x.window.slots.length = 0 by omega)]; simp]; rfl
  rename_i g
  refine t_rocel (cs := [.bool true, .int .i64 x.clock, .int .i64 x.window.next, .slice a1 x.window.slots.length c1, .slice a2 x.requests.length c2]) ?_ (by simp)
  refine go ?_; intros
  refine cf (RWgood_f x.window _ F3) fun _ _ => ?_
  refine t_app ?_
  cases g2 : goodRW x.window
  · refine go ?_; intros
    refine ret () trivial ?_
    simp [goodRec, g1, g2, hs, tup]
  obtain ⟨w0_, w1_⟩ := next_ser g2
  refine go ?_; intros
  refine cf (AreRequests_f x.requests x.window.next _ F2) fun _ _ => ?_
  refine t_app ?_
  cases g3 : areQ x.requests x.window.next
  · refine go ?_; intros
    refine ret () trivial ?_
    simp [goodRec, g1, g2, g3, hs, tup]
  obtain ⟨-, q1, q2, -⟩ := areQ_iff.1 g3
  refine go ?_; intros
  refine cb (fun w st => (ConReq_f 136 [] [ptr g 0 0] [.cel g 0 [.bool true, .int .i64 x.clock, .int .i64 x.window.next, .slice a1 x.window.slots.length c1, .slice a2 x.requests.length c2], .isv EReceiveWindow (.agg #[.int .i64 x.window.next, .slice a1 x.window.slots.length c1]) x.window F3] rfl x.requests a2 c2 F2 (fun z => hasB x.window z.number) (by kernel_rfl) (by omega) (fun z hz w hA => by
    obtain ⟨n0, n1⟩ := isSer_iff.1 (okReq_iff.1 (q2 z hz)).n
    exact (recv1_f x.window z g true x.clock _ a1 c1 F3 w0_ w1_ n0 n1).val w hA)).val w (fun q hq => by
      simp only [List.mem_cons, List.not_mem_nil, or_false] at hq
      rcases hq with rfl | rfl | rfl <;> exact st.get (by exact memE))) ?_
  refine go ?_; intros
  refine ret () trivial ?_
  rw [show goodRec x = !(x.requests.any fun z => hasB x.window z.number) by unfold goodRec freeQ; rw [g1, g2, g3, hs, List.not_any_eq_all_not]; simp]; rfl
theorem freeQ_no {x : Receiver} {k : Nat} (h : k < x.requests.length) (hh : hasB x.window x.requests[k].number = true) : freeQ x = false := List.all_eq_false.2 ⟨_, List.getElem_mem h, by simp [hh]⟩
theorem have_has {w : ReceiveWindow} {n : Int} (hw : goodRW w = true) (hn : isSer n = true) (h8 : gp w.next n < 8) : (bef n w.next || hasB w n) = hasB w n := by
  obtain ⟨w0, w1⟩ := next_ser hw
  obtain ⟨n0, n1⟩ := isSer_iff.1 hn
  have : bef n w.next = false := by
    have : ¬ (1 ≤ gp n w.next ∧ gp n w.next ≤ 32767) := by unfold gp at *; omega
    unfold bef btw
    simpa using this
  rw [this]; rfl
set_option maxRecDepth 100000 in
theorem l13Good_f (x : Receiver) (v : Value) (F : List Nat) : Fn Tryz.prog 102 [v] [.isv EReceiver v x F] [] (fun (_ : Unit) => True) (fun _ => .bool (goodRec x)) (fun _ => []) := by
  refine enter Tryz.func102 rfl Tryz.ntmps102 fun w0 => ?_
  refine openReceiver ?_
  rintro a1 c1 F1 a2 c2 F2 rfl l1 l2
  unfold maxLen at l1 l2
  refine closeReceiveWindow x.window ?_
  generalize F1 = F3
  refine go ?_; intros
  refine ce (fun w s => l11Clock_c _ _) ?_
  cases g1 : isClk x.clock
  · refine go ?_; intros
    refine ret () trivial ?_
    simp [goodRec, g1, tup]
  refine go ?_; intros
  refine cf (l10Good_f x.window _ F3) fun _ _ => ?_
  refine t_app ?_
  cases g2 : goodRW x.window
  · refine go ?_; intros
    refine ret () trivial ?_
    cases hg : goodRec x
    · rfl
    · rw [(goodR_iff.1 hg).w] at g2; cases g2
  obtain ⟨w0_, w1_⟩ := next_ser g2
  refine go ?_; intros
  refine cf (l12Good_f x.requests x.window.next _ F2) fun _ _ => ?_
  refine t_app ?_
  cases g3 : areQ x.requests x.window.next
  · refine go ?_; intros
    refine ret () trivial ?_
    cases hg : goodRec x
    · rfl
    · rw [(goodR_iff.1 hg).q] at g3; cases g3
  obtain ⟨-, q1, q2, -⟩ := areQ_iff.1 g3
  refine go ?_; intros
  cases hs : x.started
  · have nog : zeroRec x = false → goodRec x = false := fun h => by unfold goodRec; rw [g1, hs]; simpa using h
    refine go ?_; intros
    refine wg_if rfl rfl (fun h1 => ?_) (fun h1 => ?_)
    rotate_left
    · refine go ?_; intros
      refine ret () trivial ?_
      rw [nog (by unfold zeroRec; rw [decide_eq_false h1]; rfl)]; rfl
    refine go ?_; intros
    refine wg_if rfl rfl (fun h2 => ?_) (fun h2 => ?_)
    rotate_left
    · refine go ?_; intros
      refine ret () trivial ?_
      rw [nog (by unfold zeroRec; rw [decide_eq_false (show ¬ x.window.slots.length = 0 by omega)]; simp)]; rfl
    refine go ?_; intros
    refine ret () trivial ?_
    rw [show goodRec x = decide ((x.requests.length : Int) = 0) by unfold goodRec; rw [g1, hs]; unfold zeroRec; rw [decide_eq_true h1, decide_eq_true (show x.window.slots.length = 0 by omega)]; simp]; rfl
  refine go ?_; intros
  refine c_loopR [1, 2] (fun k : Nat => [(3, .int .i64 (k : Nat))]) (fun k => k ≤ x.requests.length ∧ ∀ j (_ : j < k) (h : j < x.requests.length), hasB x.window x.requests[j].number = false) (fun k => x.requests.length - k) 0 ⟨Nat.zero_le _, fun j h => by omega⟩ fun k hk => ?_
  obtain ⟨hk1, hk2⟩ := hk
  refine go ?_; intros
  refine c_if rfl (fun h3 => ?_) (fun h3 => ?_)
  · have hk3 : k < x.requests.length := by omega
    have hq := okReq_iff.1 (q2 _ (List.getElem_mem hk3))
    obtain ⟨n0, n1⟩ := isSer_iff.1 hq.n
    refine atRequest (xs := x.requests) k ?_
    rintro hi b o e
    rw [e]
    refine go ?_; intros
    refine d_start [0, 1] [] ?_
    refine dt 0 ?_
    refine dt 1 ?_
    refine dt 2 ?_
    refine dt 3 ?_
    refine dt 4 ?_
    refine dt 5 ?_
    refine dt 6 ?_
    refine dt 7 ?_
    refine dO 8 (by kernel_rfl) (by rw [List.getElem?_toArray]; rfl) ?_
    apply o_call; rfl; kernel_rfl; exact evsE
    refine cf (l10Have_f x.window x.requests[k].number _ F3 w0_ w1_ n0 n1) fun _ _ => ?_
    refine t_app ?_
    refine dk ?_
    refine dd ?_
    rw [show takeNo x.window x.requests[k].number = hasB x.window x.requests[k].number from have_has g2 hq.n hq.g]
    cases g5 : hasB x.window x.requests[k].number
    · refine go ?_; intros
      refine n_lp (k + 1) ⟨by omega, fun j hj h => ?_⟩ (by omega)
      rcases Nat.lt_or_eq_of_le (Nat.lt_succ_iff.1 hj) with h' | rfl
      · exact hk2 j h' h
      · exact g5
    · refine go ?_; intros
      refine ret () trivial ?_
      rw [show goodRec x = false by unfold goodRec; rw [g1, g2, g3, hs, freeQ_no hk3 g5]; rfl]; rfl
  have hkl : k = x.requests.length := by omega
  refine go ?_; intros
  refine ret () trivial ?_
  rw [show goodRec x = true by
    unfold goodRec freeQ; rw [g1, g2, g3, hs, List.all_eq_true.2 fun z hz => ?_]; rfl
    obtain ⟨i, hi, rfl⟩ := List.getElem_of_mem hz
    rw [hk2 i (by omega) hi]; rfl]; rfl
end Go.Proofs.YtgogcgkocjpgoaaGreatDoor
/- Requests: a tick. -/
namespace Go.Proofs.YtgogcgkocjpgoaaGreatDoor
open Go.RowKit
structure TkS where
  k : Nat
  a : Option Addr
  c : Nat
  F : List Nat
  a2 : Option Addr
  c2 : Nat
  F2 : List Nat
  a3 : Option Addr
  c3 : Nat
  F3 : List Nat
end Go.Proofs.YtgogcgkocjpgoaaGreatDoor
/- Structs of type Packet in a walk's state: opened, closed. -/
namespace Go.Proofs.YtgogcgkocjpgoaaGreatDoor
open Go.RowKit
section
variable {c : Cx} {fr : Fr} {H : List Pc} {Φ : Gl}
theorem atPacket {a : Option Addr} {n cp : Nat} {xs : List Packet} {F : List Nat} (i : Nat) (h : ∀ (hi : i < xs.length) (b o : Nat), a = some ⟨b, o, none⟩ → xs[i].data.size ≤ maxLen → T c fr (.cel b (o + i * 5) [.int .i64 xs[i].kind, .int .i64 xs[i].number, .int .i64 xs[i].trail, .int .i64 xs[i].lead, .string xs[i].data] :: H) Φ) (hm : .sl EPacket (.slice a n cp) xs F ∈ H := by (repeat (first | exact .head _ | apply List.Mem.tail)); first | done | fail) (hi : i < xs.length := by omega) : T c fr H Φ := .mk fun ac w s g => by
  obtain ⟨b, o, cs, G, ha, hrep, hG, hb, hne, hr⟩ := sl_at (s.get hm) i hi
  obtain ⟨rfl, s1, rfl⟩ := hrep
  exact (h hi b o  ha s1 ).h ac w (s.ro hm rfl rfl ⟨hne, hr⟩ (by intro x hx; simp [Pc.F] at hx; subst hx; exact hb)) g
end
end Go.Proofs.YtgogcgkocjpgoaaGreatDoor
/- Receivers: a tick of the program. -/
namespace Go.Proofs.YtgogcgkocjpgoaaGreatDoor
open Go.RowKit
set_option maxRecDepth 100000 in
theorem Rclone_f (x : Receiver) (v : Value) (F : List Nat) (hl : x.window.slots.length ≤ 1000000000) (hl2 : x.requests.length ≤ 1000000000) : Fn Tryz.prog 108 [v] [.isv EReceiver v x F] [] (fun (_ : Value × List Nat) => True) (fun s => s.1) (fun s => [.own OReceiver s.1 x s.2]) := by
  refine enter Tryz.func108 rfl Tryz.ntmps108 fun w0 => ?_
  refine openReceiver ?_
  rintro a1 c1 F1 a2 c2 F2 rfl l1 l2
  refine closeReceiveWindow x.window ?_
  generalize F1 = F3
  refine go ?_; intros
  refine cf (RWclone_f x.window _ F3 (by omega)) fun z _ => ?_
  refine t_app ?_
  refine go ?_; intros
  refine cf (ClRequest_f x.requests a2 c2 F2 hl2) fun q _ => ?_
  refine t_app ?_
  refine go ?_; intros
  refine closeOReceiver x ?_
  refine ret (_, _) trivial rfl
theorem good_items {x : ReceiveWindow} (hg : goodRW x = true) : x.slots.length ≤ 8 ∧ ∀ s ∈ x.slots, s.item.size ≤ 8 := by
  have hg0 := hg
  unfold goodRW at hg
  simp only [Bool.and_eq_true, decide_eq_true_eq] at hg
  refine ⟨by have := hg.1.1.2; omega, fun s hs => ?_⟩
  have := List.all_eq_true.1 hg.1.2 s hs
  unfold okSlot at this
  simp only [Bool.and_eq_true] at this
  exact itm_size this.1
structure PkS where
  k : Nat
  a : Option Addr
  c : Nat
  F : List Nat
structure TkR where
  a1 : Option Addr
  c1 : Nat
  F1 : List Nat
  a2 : Option Addr
  c2 : Nat
  F2 : List Nat
  a3 : Option Addr
  c3 : Nat
  F3 : List Nat
  a4 : Option Addr
  c4 : Nat
  F4 : List Nat
end Go.Proofs.YtgogcgkocjpgoaaGreatDoor
/- Hearing: the place of a serial among the requests. -/
namespace Go.Proofs.YtgogcgkocjpgoaaGreatDoor
open Go.RowKit
theorem rep1_Request (y : Request) (w : World) : Flat ERequest w [.int .i64 y.number, .int .i64 y.state, .int .i64 y.untl, .int .i64 y.tries] [y] [] := ⟨_, [], [], [], by simp, by simp, ⟨rfl, rfl⟩, rfl, rfl⟩
set_option maxRecDepth 100000 in
set_option maxHeartbeats 1000000 in
theorem InsReq_f (xs : List Request) (y : Request) (i : Nat) (a : Option Addr) (c vb : Nat) (F : List Nat) (hi : i ≤ xs.length) (hl : xs.length ≤ 1000000) :
    Fn Tryz.prog 310 [.slice a xs.length c, .int .i64 i, .slice (some ⟨vb, 0, none⟩) 1 1] [] [.ow ERequest 152 (.slice a xs.length c) xs F, .row vb 152 0 [] [.int .i64 y.number, .int .i64 y.state, .int .i64 y.untl, .int .i64 y.tries] []] (fun (_ : Option Addr × Nat × List Nat) => True)
      (fun z => .slice z.1 (xs.take i ++ y :: xs.drop i).length z.2.1) (fun z => [.ow ERequest 152 (.slice z.1 (xs.take i ++ y :: xs.drop i).length z.2.1) (xs.take i ++ y :: xs.drop i) z.2.2]) := by
  have hone : ∀ w' : World, ∀ cs : List Value, Flat ERequest w' cs xs [] → ∀ u ∈ cs, u.oneCell' = true := fun w' cs h => h.one' one_ERequest
  have hy := rep1_Request y
  have h1y : ∀ u ∈ ([.int .i64 y.number, .int .i64 y.state, .int .i64 y.untl, .int .i64 y.tries] : List Value), u.oneCell' = true := by intro u hu; simp at hu; rcases hu with rfl | rfl | rfl | rfl <;> rfl
  refine enter Tryz.func310 rfl Tryz.ntmps310 fun w0 => ?_
  refine t_cap (E := ERequest) fun hc1 hc2 => ?_
  refine go ?_; intros
  apply wO
  refine o_slany rfl rfl rfl rfl hi (fun _ => ?_) hc1
  refine go ?_; intros
  refine c_if rfl (fun h1 => ?_) (fun h1 => ?_)
  · have hin : i = xs.length := by omega
    subst hin
    have e : xs.take xs.length ++ y :: xs.drop xs.length = xs ++ [y] := by simp
    refine go ?_; intros
    apply wO
    refine ap1 hy one_ERequest fun a2 c2 F2 => ?_
    rw [e]
    refine go ?_; intros
    refine ret (a2, c2, F2) trivial rfl
  · have hlt : i < xs.length := by omega
    refine t_rowof (xs := xs) scal_ERequest (by rintro rfl; simp at hlt) ?_
    rintro g cs rest rfl - - - hcl hcr hfl
    rw [show ERequest.sz = 4 from rfl] at hcl hcr
    have h1c := hone w0 cs (hfl w0)
    obtain ⟨A, B, hcs, hA, hB⟩ : ∃ A B, cs = A ++ B ∧ A = cs.take (i * 4) ∧ B = cs.drop (i * 4) := ⟨_, _, (List.take_append_drop _ _).symm, rfl, rfl⟩
    have hAl : A.length = i * 4 := by rw [hA, List.length_take]; omega
    have hBl : B.length = (xs.length - i) * 4 := by rw [hB, List.length_drop]; omega
    have hins : ∀ w, Flat ERequest w (A ++ [.int .i64 y.number, .int .i64 y.state, .int .i64 y.untl, .int .i64 y.tries] ++ B) (xs.take i ++ y :: xs.drop i) [] := fun w => by rw [hA, hB]; exact (hfl w).insL (hy w) i hi
    have h1A : ∀ u ∈ A, u.oneCell' = true := fun u hu => h1c u (by rw [hcs]; simp [hu])
    have h1B : ∀ u ∈ B, u.oneCell' = true := fun u hu => h1c u (by rw [hcs]; simp [hu])
    have hlen : (xs.take i ++ y :: xs.drop i).length = xs.length + 1 := by simp; omega
    clear hA hB hfl hone
    subst hcs
    have eA : A = ((A ++ B ++ rest).drop 0).take (i * 4) := by rw [List.drop_zero, List.append_assoc, List.take_left' hAl]
    have eB : B = ((A ++ B ++ rest).drop (0 + i * 4)).take ((xs.length - i) * 4) := by rw [Nat.zero_add, List.append_assoc, List.drop_left' hAl, List.take_left' hBl]
    rw [hlen]
    refine go ?_; intros
    apply wO; apply oc; rfl; exact yd_cap rfl
    refine go ?_; intros
    refine c_if rfl (fun h2 => ?_) (fun h2 => ?_)
    · refine go ?_; intros
      apply wO; apply oc; rfl; exact yd_slt (i := i) rfl rfl rfl (by omega) (by omega)
      refine go ?_; intros
      apply wO
      refine o_apgz (k := xs.length + 1 - i) (olds := A) rfl rfl rfl (by omega) (src_row (m := i * 4) (.head _) eA) (by omega) (by decide) (by omega) (by omega) (by omega) (by omega) fun g' cp' Z rest' h3 h4 h5 h6 => ?_
      rw [show i + (xs.length + 1 - i) = xs.length + 1 by omega] at h3 ⊢
      obtain ⟨Z1, Z2, rfl, hZ1, hZ2⟩ : ∃ Z1 Z2, Z = Z1 ++ Z2 ∧ Z1.length = 4 ∧ Z2.length = B.length := ⟨Z.take 4, Z.drop 4, (List.take_append_drop _ _).symm, by rw [List.length_take]; omega, by rw [List.length_drop]; omega⟩
      refine go ?_; intros
      apply wO; apply oc; rfl; exact yd_slv (i := i) rfl rfl rfl (by omega) (by omega) (by omega)
      refine go ?_; intros
      apply wO
      refine o_cpy (cs := [.int .i64 y.number, .int .i64 y.state, .int .i64 y.untl, .int .i64 y.tries]) (L' := A ++ [.int .i64 y.number, .int .i64 y.state, .int .i64 y.untl, .int .i64 y.tries] ++ (Z2 ++ rest')) rfl rfl rfl (src_row (L := [.int .i64 y.number, .int .i64 y.state, .int .i64 y.untl, .int .i64 y.tries]) (o := 0) (m := 4) (by exact memE) rfl) .here (cpyM (M := Z1) (by simp [List.append_assoc]) (by omega) (by simpa using hZ1)) (by show 4 = min 1 (xs.length + 1 - i) * 4; omega) (by simp only [List.length_append, List.length_cons, List.length_nil]; omega) h1y ?_
      refine go ?_; intros
      refine d_start [] [] ?_
      refine dt 0 ?_
      refine dt 1 ?_
      refine dt 2 ?_
      refine dt 3 ?_
      refine dt 4 ?_ (hy := yd_slv (i := i + 1) rfl rfl (by omega) (by omega) (by omega) (by omega))
      refine dt 5 ?_
      refine dt 6 ?_
      refine dt 7 ?_ (hy := yd_slv (i := i) rfl rfl (by omega) (by omega) (by omega) (by omega))
      refine dO 8 (by kernel_rfl) (by rw [List.getElem?_toArray]; rfl) ?_
      refine o_cpy (cs := B) (L' := A ++ [.int .i64 y.number, .int .i64 y.state, .int .i64 y.untl, .int .i64 y.tries] ++ B ++ rest') rfl rfl rfl (src_row (by exact memE) eB) .here (cpyM (P := A ++ [.int .i64 y.number, .int .i64 y.state, .int .i64 y.untl, .int .i64 y.tries]) (M := Z2) (by simp [List.append_assoc]) (by simp only [List.length_append, List.length_cons, List.length_nil]; omega) hZ2) (by rw [hBl]; congr 1; show _ = min (xs.length - i) (xs.length + 1 - (i + 1)); omega) (by simp only [List.length_append, List.length_cons, List.length_nil]; omega) h1B ?_
      refine dk ?_
      refine dd ?_
      refine t_owof (cs := A ++ [.int .i64 y.number, .int .i64 y.state, .int .i64 y.untl, .int .i64 y.tries] ++ B) (rest := rest') (xs := xs.take i ++ y :: xs.drop i) cp' rfl hins (by omega) h4 (by rw [show ERequest.sz = 4 from rfl]; simp only [List.length_append, List.length_cons, List.length_nil] at h6 ⊢; omega) ?_
      rw [hlen]
      refine go ?_; intros
      refine ret (_, cp', [g']) trivial rfl
    · have hcx : xs.length + 1 ≤ c := by omega
      obtain ⟨X, Y, hXY, hX, hY⟩ := shiftL (B := B) (R := rest) 4 (by omega)
      refine go ?_; intros
      apply wO; apply oc; rfl; exact yd_slt (i := xs.length + 1) rfl rfl (by omega) (by omega) (by omega)
      refine go ?_; intros
      apply wO; apply oc; rfl; exact yd_slv (i := i + 1) rfl rfl (by omega) (by omega) (by omega) (by omega)
      refine goN ?_; intros
      apply wO
      refine o_ext rfl evsE (ovl (tS := 47) (tR := 4) (run_callFunc_extern Tryz.func323 (by kernel_rfl) (by kernel_rfl) (by kernel_rfl) (e := Extern.SlicesOverlaps.overlaps #[47, 47] #[4]) (by kernel_rfl)) (.there .here) (.head _) (by intro e; have := congrArg List.length e; simp only [List.length_append, List.length_nil] at this; omega)) ?_
      refine go ?_; intros
      refine d_start [] [] ?_
      refine dt 0 ?_
      refine dt 1 ?_
      refine dt 2 ?_
      refine dt 3 ?_
      refine dt 4 ?_ (hy := yd_slv (i := i + 1) rfl rfl (by omega) (by omega) (by omega) (by omega))
      refine dt 5 ?_
      refine dt 6 ?_
      refine dt 7 ?_ (hy := yd_slv (i := i) rfl rfl (by omega) (by omega) (by omega) (by omega))
      refine dO 8 (by kernel_rfl) (by rw [List.getElem?_toArray]; rfl) ?_
      refine o_cpy (cs := B) (L' := A ++ X ++ B ++ rest.drop 4) rfl rfl rfl (src_row (by exact memE) eB) .here (cpyM (P := A ++ X) (M := Y) (by rw [List.append_assoc A B rest, hXY]; simp [List.append_assoc]) (by simp only [List.length_append]; omega) hY) (by rw [hBl]; congr 1; show _ = min (xs.length + 1 - i) (xs.length + 1 - (i + 1)); omega) (by simp only [List.length_append]; omega) h1B ?_
      refine dk ?_
      refine dd ?_
      refine go ?_; intros
      apply wO; apply oc; rfl; exact yd_slv (i := i) rfl rfl rfl (by omega) (by omega) (by omega)
      refine go ?_; intros
      apply wO
      refine o_cpy (cs := [.int .i64 y.number, .int .i64 y.state, .int .i64 y.untl, .int .i64 y.tries]) (L' := A ++ [.int .i64 y.number, .int .i64 y.state, .int .i64 y.untl, .int .i64 y.tries] ++ (B ++ rest.drop 4)) rfl rfl rfl (src_row (L := [.int .i64 y.number, .int .i64 y.state, .int .i64 y.untl, .int .i64 y.tries]) (o := 0) (m := 4) (by exact memE) rfl) .here (cpyM (M := X) (by simp [List.append_assoc]) (by omega) (by simpa using hX)) (by show 4 = min 1 (xs.length + 1 - i) * 4; omega) (by simp only [List.length_append, List.length_cons, List.length_nil]; omega) h1y ?_
      refine go ?_; intros
      refine t_owof (L := A ++ [.int .i64 y.number, .int .i64 y.state, .int .i64 y.untl, .int .i64 y.tries] ++ (B ++ rest.drop 4)) (cs := A ++ [.int .i64 y.number, .int .i64 y.state, .int .i64 y.untl, .int .i64 y.tries] ++ B) (rest := rest.drop 4) (xs := xs.take i ++ y :: xs.drop i) c (by simp [List.append_assoc]) hins (by omega) (by omega) (by rw [show ERequest.sz = 4 from rfl]; simp only [List.length_append, List.length_cons, List.length_nil, List.length_drop]; omega) ?_
      rw [hlen]
      refine ret (_, c, [g]) trivial rfl

instance : IntC Tryz.prog 248 .u64 := ⟨Tryz.underlying248⟩

set_option maxRecDepth 100000 in
theorem SrchReq_f (fid : FuncId) (caps : List Value) (A : List Pc) (hA : A.all (fun p => !p.mu) = true) (xs : List Request) (a : Option Addr) (c : Nat) (F : List Nat) (tv : Value) (f : Request → Int) (hm : ∀ i j (_ : i ≤ j) (hj : j < xs.length), f xs[j] < 0 → f (xs[i]'(by omega)) < 0) (hb : bodyB Tryz.prog fid = true) (hl : xs.length ≤ 1000000)
    (hp : ∀ x ∈ xs, ∀ w, Hol A w → Calls Tryz.prog fid ([.agg #[.int .i64 x.number, .int .i64 x.state, .int .i64 x.untl, .int .i64 x.tries], tv] ++ caps).toArray w fun e w' => e = .returned (.int .i64 (f x)) ∧ Below w.heap.size w w') :
    Fn Tryz.prog 220 [.slice a xs.length c, tv, .func (.func fid) #[] caps.toArray] (.sl ERequest (.slice a xs.length c) xs F :: A) [] (fun (_ : Unit) => True) (fun _ => .tuple #[.int .i64 ((xs.takeWhile fun x => decide (f x < 0)).length : Nat), .bool (hitB f xs[(xs.takeWhile fun x => decide (f x < 0)).length]?)]) (fun _ => []) := by
  refine enter Tryz.func220 rfl Tryz.ntmps220 (fun w0 => ?_) rfl (by simpa [Pc.mu] using hA) .nil
  refine go ?_; intros
  refine c_loopR [0, 1, 2, 6, 7, 8] (fun s : Nat × Nat => [(9, .int .i64 (s.1 : Nat)), (10, .int .i64 (s.2 : Nat))]) (fun s => s.1 ≤ s.2 ∧ s.2 ≤ xs.length ∧ (∀ j (_ : j < s.1) (h : j < xs.length), f xs[j] < 0) ∧ (∀ j (_ : s.2 ≤ j) (h : j < xs.length), ¬ f xs[j] < 0)) (fun s => s.2 - s.1) (0, xs.length) ⟨Nat.zero_le _, Nat.le_refl _, fun j h => by omega, fun j h1 h2 => by omega⟩ fun s hs => ?_
  obtain ⟨i, j⟩ := s
  obtain ⟨h1, h2, h3, h4⟩ := hs
  dsimp only at h1 h2 h3 h4 ⊢
  refine go ?_; intros
  refine c_if rfl (fun h5 => ?_) (fun h5 => ?_)
  · have hh : (i + j) / 2 < xs.length := by omega
    have e2 : ((i : Int) + (j : Int)) / 2 = (((i + j) / 2 : Nat) : Int) := by omega
    refine go ?_; intros
    apply wO; apply oc; rfl; exact yd_cvu rfl (by omega) (by omega)
    refine go ?_; intros
    apply wO; apply oc; rfl; exact yd_shr1 rfl
    rw [e2]
    apply wO; apply oc; rfl; exact yd_cv rfl (by omega) (by omega)
    generalize hq : (i + j) / 2 = q at hh
    refine go ?_; intros
    refine atRequest (xs := xs) q ?_
    rintro hi b o e
    rw [e]
    refine go ?_; intros
    apply wO
    refine o_callv rfl rfl hb evsE ?_
    refine cb (fun w st => hp xs[q] (List.getElem_mem hh) w (fun p hp => st.on p (by simp [hp]))) ?_
    refine go ?_; intros
    refine c_if rfl (fun h6 => ?_) (fun h6 => ?_)
    · refine go ?_; intros
      refine t_drop ?_
      refine n_lp (hH := hsub_refl _) (q + 1, j) ⟨by show q + 1 ≤ j; omega, h2, fun k hk h => hm k q (by have : k < q + 1 := hk; omega) hh h6, h4⟩ (by show j - (q + 1) < j - i; omega)
    · refine go ?_; intros
      refine t_drop ?_
      refine n_lp (hH := hsub_refl _) (i, q) ⟨by show i ≤ q; omega, by show q ≤ xs.length; omega, h3, fun k hk h hn => h6 (hm q k hk h hn)⟩ (by show q - i < j - i; omega)
  · have hij : i = j := by omega
    subst hij
    have hk : (xs.takeWhile fun x => decide (f x < 0)).length = i := tw_len h2 (fun j hj h => decide_eq_true (h3 j hj h)) (fun h => decide_eq_false (h4 i (Nat.le_refl _) h))
    rw [hk]
    refine go ?_; intros
    refine wg_if rfl rfl (fun h6 => ?_) (fun h6 => ?_)
    · have hh : i < xs.length := by omega
      rw [List.getElem?_eq_getElem hh]
      refine go ?_; intros
      refine atRequest (xs := xs) i ?_
      rintro hi b o e
      rw [e]
      refine go ?_; intros
      apply wO
      refine o_callv rfl rfl hb evsE ?_
      refine cb (fun w st => hp xs[i] (List.getElem_mem hh) w (fun p hp => st.on p (by simp [hp]))) ?_
      refine go ?_; intros
      refine ret () trivial rfl
    · rw [List.getElem?_eq_none (by omega)]
      refine go ?_; intros
      refine ret () trivial rfl

theorem srch_ask {base n : Int} {l : List Request} (hser : ∀ q ∈ l, isSer q.number = true) (hn : isSer n = true) : (l.takeWhile fun x => decide (gp base x.number - gp base n < 0)).length = askAt base l n ∧
    hitB (fun x : Request => gp base x.number - gp base n) l[(l.takeWhile fun x => decide (gp base x.number - gp base n < 0)).length]? = askOn base l n := by
  have e : (fun x : Request => decide (gp base x.number - gp base n < 0)) = fun h => decide (gp base h.number < gp base n) := by
    funext x; rw [decide_eq_decide]; omega
  have e1 : (l.takeWhile fun x => decide (gp base x.number - gp base n < 0)).length = askAt base l n := by unfold askAt; rw [e]
  refine ⟨e1, ?_⟩
  rw [e1]
  unfold askOn
  cases hq : l[askAt base l n]? with
  | none => rfl
  | some z =>
    show decide (gp base z.number - gp base n = 0) = decide (z.number = n)
    rw [decide_eq_decide]
    exact ⟨fun h => gpInj (t := base) (hser z (List.mem_of_getElem? hq)) hn (by omega), fun h => by rw [h]; omega⟩
set_option maxRecDepth 100000 in
theorem fr1_f (r : Request) (n t : Int) (gb : Nat) (t0 : 0 ≤ t) (t1 : t ≤ 65535) (n0 : 0 ≤ n) (n1 : n ≤ 65535) (m0 : 0 ≤ r.number) (m1 : r.number ≤ 65535) :
    Fn Tryz.prog 221 [.agg #[.int .i64 r.number, .int .i64 r.state, .int .i64 r.untl, .int .i64 r.tries], .int .i64 n, ptr gb 0 0] [.cel gb 0 [.int .i64 t]] [] (fun (_ : Unit) => True) (fun _ => .int .i64 (gp t r.number - gp t n)) (fun _ => []) := by
  have b1 := gp_bd t r.number
  have b2 := gp_bd t n
  refine enter Tryz.func221 rfl Tryz.ntmps221 fun w0 => ?_
  refine go ?_; intros
  refine d_start [0, 1] [] ?_
  refine dt 0 ?_
  refine dt 1 ?_
  refine dt 2 ?_
  refine dt 4 ?_
  refine dt 5 ?_
  refine dO 3 (by kernel_rfl) (by rw [List.getElem?_toArray]; rfl) ?_
  apply o_call; rfl; kernel_rfl; exact evsE
  refine ce (fun w s => gap_c _ _ _ (by omega) (by omega) (by omega) (by omega)) ?_
  refine dk ?_
  refine dO 6 (by kernel_rfl) (by rw [List.getElem?_toArray]; rfl) ?_
  apply o_call; rfl; kernel_rfl; exact evsE
  refine ce (fun w s => gap_c _ _ _ (by omega) (by omega) (by omega) (by omega)) ?_
  refine dk ?_
  refine dt 7 ?_
  refine dt 8 ?_
  refine dd ?_
  refine go ?_; intros
  refine ret () trivial rfl
set_option maxRecDepth 100000 in
theorem findRequest_f (l : List Request) (base n : Int) (a : Option Addr) (c : Nat) (F : List Nat) (hq : areQ l base = true) (hn : isSer n = true) :
    Fn Tryz.prog 139 [.slice a l.length c, .int .i64 base, .int .i64 n] [.sl ERequest (.slice a l.length c) l F] [] (fun (_ : Unit) => True) (fun _ => .tuple #[.int .i64 (askAt base l n : Nat), .bool (askOn base l n)]) (fun _ => []) := by
  obtain ⟨q1, q2, q3, q4⟩ := areQ_iff.1 hq
  have hser : ∀ q ∈ l, isSer q.number = true := fun q h => (okReq_iff.1 (q3 q h)).n
  obtain ⟨b0, b1⟩ := isSer_iff.1 q1
  obtain ⟨n0, n1⟩ := isSer_iff.1 hn
  obtain ⟨e1, e2⟩ := srch_ask (base := base) hser hn
  refine enter Tryz.func139 rfl Tryz.ntmps139 fun w0 => ?_
  refine go ?_; intros
  rename_i gb
  refine cb (fun w st => by
    have r1 := st.get (p := .row gb 3 0 [] [.int .i64 base] []) (by simp)
    have hw := (st.get (p := .sl ERequest (.slice a l.length c) l F) (by simp)).2
    refine (SrchReq_f 221 [ptr gb 0 0] [.cel gb 0 [.int .i64 base]] rfl l a c F (.int .i64 n) (fun r => gp base r.number - gp base n) (fun i j hij hj h => ?_) (by kernel_rfl) (by omega) fun x hx w' hA => ?_).val w ?_
    · rcases Nat.lt_or_eq_of_le hij with h2 | rfl
      · have := List.pairwise_iff_getElem.1 q4 i j (by omega) hj h2; omega
      · exact h
    · obtain ⟨m0, m1⟩ := isSer_iff.1 (hser x hx)
      exact (fr1_f x n base gb b0 b1 n0 n1 m0 m1).val w' hA
    · intro p hp
      simp only [List.mem_cons, List.not_mem_nil, or_false] at hp
      rcases hp with rfl | rfl
      · exact st.get (by simp)
      · exact ⟨by simp, row_range r1⟩) ?_
  rw [e2, e1]
  refine go ?_; intros
  refine ret () trivial rfl
set_option maxRecDepth 100000 in
theorem l12Place_f (l : List Request) (base n : Int) (a : Option Addr) (c : Nat) (F : List Nat) (hq : areQ l base = true) (hn : isSer n = true) :
    Fn Tryz.prog 143 [.slice a l.length c, .int .i64 base, .int .i64 n] [.sl ERequest (.slice a l.length c) l F] [] (fun (_ : Unit) => True) (fun _ => .tuple #[.int .i64 (askAt base l n : Nat), .bool (askOn base l n)]) (fun _ => []) := by
  obtain ⟨q1, q2, q3, q4⟩ := areQ_iff.1 hq
  have hser : ∀ q ∈ l, isSer q.number = true := fun q h => (okReq_iff.1 (q3 q h)).n
  obtain ⟨b0, b1⟩ := isSer_iff.1 q1
  obtain ⟨n0, n1⟩ := isSer_iff.1 hn
  obtain ⟨t1, t2, t3⟩ := tw_spec (p := fun r : Request => decide (gp base r.number < gp base n)) (xs := l)
  have hle := askAt_le base l n
  have hb2 := gp_bd base n
  refine enter Tryz.func143 rfl Tryz.ntmps143 fun w0 => ?_
  refine go ?_; intros
  refine c_loopS [0, 1, 2, 6, 7] (fun k : Nat => [(8, .int .i64 (k : Nat))]) (fun _ => []) (fun k => k ≤ askAt base l n) (fun k => l.length - k) 0 (Nat.zero_le _) fun k hk => ?_
  have leaf : ∀ h : k < l.length, decide (gp base l[k].number < gp base n) = decide (k < askAt base l n) := fun h => by
    by_cases h2 : k < askAt base l n
    · rw [decide_eq_true h2]; exact t2 k h2 h
    · have e : k = askAt base l n := by omega
      subst e
      rw [decide_eq_false h2]; exact t3 h
  refine go ?_; intros
  refine wg_if rfl rfl (fun h4 => ?_) (fun h4 => ?_)
  · have hi : k < l.length := by omega
    refine go ?_; intros
    refine atRequest (xs := l) k ?_
    rintro hi b o e
    rw [e]
    refine go ?_; intros
    obtain ⟨m0, m1⟩ := isSer_iff.1 (hser _ (List.getElem_mem hi))
    have hb1 := gp_bd base l[k].number
    refine ce (fun w s => l2Gap_c _ _ _ (by omega) (by omega)) ?_
    refine go ?_; intros
    refine ce (fun w s => l2Gap_c _ _ _ (by omega) (by omega)) ?_
    have lf := leaf hi
    refine go ?_; intros
    refine c_if rfl (fun h5 => ?_) (fun h5 => ?_)
    · have h6 : k < askAt base l n := by rw [decide_eq_true h5] at lf; simpa using lf.symm
      refine go ?_; intros
      refine n_lp (k + 1) (by show k + 1 ≤ askAt base l n; omega) (by show l.length - (k + 1) < l.length - k; omega)
    · have h6 : k = askAt base l n := by rw [decide_eq_false h5] at lf; have : ¬ k < askAt base l n := by simpa using lf.symm
                                         omega
      refine go ?_; intros
      refine d_start [0] [] ?_
      refine dt 0 ?_
      refine dt 1 ?_
      refine dt 2 ?_
      refine dt 3 ?_
      refine dt 4 ?_
      rw [decide_eq_true h4]
      refine dt 5 ?_
      refine dtg 6 ?_
      refine dtg 7 ?_
      refine dtg 8 ?_
      refine dtg 9 ?_
      refine dtg 10 ?_
      refine dtg 11 ?_
      refine dtg 12 ?_
      refine dt 13 ?_
      refine dt 14 ?_
      refine dt 15 ?_
      refine dd ?_
      rw [askOn_at (by omega)]
      subst h6
      refine go ?_; intros
      refine ret () trivial rfl
  · have h6 : k = askAt base l n := by omega
    refine go ?_; intros
    refine d_start [0] [] ?_
    refine dt 0 ?_
    refine dt 1 ?_
    refine dt 2 ?_
    refine dt 3 ?_
    refine dt 4 ?_
    rw [decide_eq_false h4]
    refine dt 5 ?_
    refine ds 6 ?_
    refine ds 7 ?_
    refine ds 8 ?_
    refine ds 9 ?_
    refine ds 10 ?_
    refine ds 11 ?_
    refine ds 12 ?_
    refine dt 13 ?_
    refine dt 14 ?_
    refine dt 15 ?_
    refine dd ?_
    rw [askOn_end (by omega)]
    subst h6
    refine go ?_; intros
    refine ret () trivial rfl
end Go.Proofs.YtgogcgkocjpgoaaGreatDoor
/- Hearing: a request more, on both sides. -/
namespace Go.Proofs.YtgogcgkocjpgoaaGreatDoor
open Go.RowKit
def addL (base : Int) (l : List Request) (n u : Int) : List Request := if askOn base l n then [] else insQ base l n u
structure OwR where
  a : Option Addr
  c : Nat
  F : List Nat
set_option maxRecDepth 100000 in
theorem AddRequest_f (l : List Request) (base n ck d : Int) (a : Option Addr) (c : Nat) (F : List Nat) (hq : areQ l base = true) (hn : isSer n = true) (h8 : gp base n < 8) (k0 : 0 ≤ ck) (k1 : ck ≤ 9999) (d0 : 1 ≤ d) (d1 : d ≤ 8) :
    Fn Tryz.prog 290 [.slice a l.length c, .int .i64 base, .int .i64 n, .int .i64 ck, .int .i64 d] [.sl ERequest (.slice a l.length c) l F] [] (fun (_ : OwR) => True) (fun s => .tuple #[.slice s.a (addL base l n (ck + d)).length s.c, .bool (!askOn base l n)]) (fun s => [.ow ERequest 152 (.slice s.a (addL base l n (ck + d)).length s.c) (addL base l n (ck + d)) s.F]) := by
  have hle := askAt_le base l n
  obtain ⟨q1, q2, q3, q4⟩ := areQ_iff.1 hq
  have hck : isClk ck = true := by unfold isClk btw; simp; omega
  have hdl : isDel d = true := by unfold isDel btw; simp; omega
  refine enter Tryz.func290 rfl Tryz.ntmps290 fun w0 => ?_
  refine go ?_; intros
  refine cf (AreRequests_f l base _ F) fun _ _ => ?_
  refine t_app ?_
  rw [hq]
  refine go ?_; intros
  refine ce (fun w s => IsSerial_c _ _) ?_
  rw [hn]
  refine go ?_; intros
  refine ce (fun w s => isClock_c _ _) ?_
  rw [hck]
  refine go ?_; intros
  refine cf (isDelay_f d) fun _ _ => ?_
  refine t_app ?_
  rw [hdl]
  refine go ?_; intros
  refine cf (findRequest_f l base n a c F hq hn) fun _ _ => ?_
  refine t_app ?_
  cases ho : askOn base l n
  · rw [show addL base l n (ck + d) = insQ base l n (ck + d) by unfold addL; rw [ho]; rfl]
    have hln := insQ_len base l n (ck + d)
    refine go ?_; intros
    refine cf (ClRequest_f l a c F (by omega)) fun z _ => ?_
    refine t_app ?_
    refine go ?_; intros
    refine cf (InsReq_f l ⟨n, 1, ck + d, 0⟩ (askAt base l n) z.1 z.2.1 _ z.2.2 hle (by omega)) fun y _ => ?_
    refine t_app ?_
    rw [show l.take (askAt base l n) ++ (⟨n, 1, ck + d, 0⟩ : Request) :: l.drop (askAt base l n) = insQ base l n (ck + d) from rfl]
    refine go ?_; intros
    refine cb (fun w st => by obtain ⟨Fw, -, hw⟩ := (st.get (p := .ow ERequest 152 (.slice y.1 (insQ base l n (ck + d)).length y.2.1) (insQ base l n (ck + d)) y.2.2) (by simp)).2.read; exact (AreRequests_f (insQ base l n (ck + d)) base _ Fw).val w (hol1 ⟨by decide, hw⟩)) ?_
    rw [insQ_good hq hn h8 (by omega) (by omega) ho]
    refine go ?_; intros
    refine ret ⟨_, _, _⟩ trivial rfl
  · rw [show addL base l n (ck + d) = [] by unfold addL; rw [ho]; rfl]
    refine go ?_; intros
    refine t_nilow ERequest 152 ?_
    refine ret ⟨none, 0, []⟩ trivial rfl
set_option maxRecDepth 100000 in
theorem l12Add_f (l : List Request) (base n ck d : Int) (a : Option Addr) (c : Nat) (F : List Nat) (hq : areQ l base = true) (hn : isSer n = true) (k0 : 0 ≤ ck) (k1 : ck ≤ 9999) (d0 : 1 ≤ d) (d1 : d ≤ 8) :
    Fn Tryz.prog 261 [.slice a l.length c, .int .i64 base, .int .i64 n, .int .i64 ck, .int .i64 d] [.sl ERequest (.slice a l.length c) l F] [] (fun (_ : OwR) => True) (fun s => .slice s.a (addQ base l n (ck + d)).length s.c) (fun s => [.ow ERequest 152 (.slice s.a (addQ base l n (ck + d)).length s.c) (addQ base l n (ck + d)) s.F]) := by
  have hle := askAt_le base l n
  obtain ⟨q1, q2, q3, q4⟩ := areQ_iff.1 hq
  obtain ⟨b0, b1⟩ := isSer_iff.1 q1
  obtain ⟨n0, n1⟩ := isSer_iff.1 hn
  have hbd := gp_bd base n
  refine enter Tryz.func261 rfl Tryz.ntmps261 fun w0 => ?_
  refine go ?_; intros
  refine cf (l12Place_f l base n a c F hq hn) fun _ _ => ?_
  refine t_app ?_
  cases ho : askOn base l n
  rotate_left
  · rw [show addQ base l n (ck + d) = l by unfold addQ; rw [ho]; rfl]
    refine goN ?_; intros
    refine t_emp ERequest ?_
    refine go ?_; intros
    apply wO
    refine aps one_ERequest scal_ERequest fun a5 c5 F5 => ?_
    rw [List.nil_append]
    refine go ?_; intros
    refine ret ⟨_, _, _⟩ trivial rfl
  refine go ?_; intros
  refine ce (fun w s => l2Gap_c _ _ _ (by omega) (by omega)) ?_
  refine go ?_; intros
  refine c_if rfl (fun h4 => ?_) (fun h4 => ?_)
  · rw [show addQ base l n (ck + d) = l by unfold addQ; rw [ho, decide_eq_false (show ¬ gp base n < 8 by omega)]; rfl]
    refine goN ?_; intros
    refine t_emp ERequest ?_
    refine go ?_; intros
    apply wO
    refine aps one_ERequest scal_ERequest fun a5 c5 F5 => ?_
    rw [List.nil_append]
    refine go ?_; intros
    refine ret ⟨_, _, _⟩ trivial rfl
  rw [show addQ base l n (ck + d) = insQ base l n (ck + d) by unfold addQ; rw [ho, decide_eq_true (show gp base n < 8 by omega)]; rfl]
  refine t_sl (E := ERequest) (xs := l) ?_
  rintro _ _ e8 c0 c1
  cases e8
  refine t_rtake (E := ERequest) (xs := l) (askAt base l n) (fun FT => ?_) hle
  obtain ⟨T1, hT1⟩ : ∃ T1, T1 = l.take (askAt base l n) := ⟨_, rfl⟩
  have hT1l : T1.length = askAt base l n := by rw [hT1, List.length_take]; omega
  rw [← hT1]
  have hAdd : T1 ++ [(⟨n, 1, ck + d, 0⟩ : Request)] ++ l.drop (askAt base l n) = insQ base l n (ck + d) := by rw [hT1]; unfold insQ newQ; simp
  refine go ?_; intros
  refine d_start [0, 1] [] ?_
  refine dt 1 ?_
  refine dt 2 ?_
  refine dt 3 ?_ (hy := yd_slt (i := T1.length) rfl rfl (by rw [hT1l]) (by omega) (by omega))
  refine dt 5 ?_
  refine dt 8 ?_
  refine dt 9 ?_
  refine dsld 10 (askAt base l n) (fun a6 c6 F6 => ?_)
  refine dO2 0 6 (by kernel_rfl) (by rw [List.getElem?_toArray]; rfl) (by rw [List.getElem?_toArray]; rfl) ?_ ?_
  · apply o_bs0; rfl; intro _
    refine t_emp ERequest ?_
    refine dk ?_
    refine dO2 4 6 (by kernel_rfl) (by rw [List.getElem?_toArray]; rfl) (by rw [List.getElem?_toArray]; rfl) ?_ ?_
    · refine aps (ys := T1) one_ERequest scal_ERequest fun a7 c7 F7 => ?_
      rw [List.nil_append]
      refine dk ?_
      refine dO 6 (by kernel_rfl) (by rw [List.getElem?_toArray]; rfl) ?_
      apply o_bs; rfl; rfl; rfl; rfl; exact rptE; exact filE; intro _
      refine dk ?_
      refine dO 7 (by kernel_rfl) (by rw [List.getElem?_toArray]; rfl) ?_
      refine ap1 (rep1_Request ⟨n, 1, ck + d, 0⟩) one_ERequest fun a8 c8 F8 => ?_
      refine dk ?_
      refine dO 11 (by kernel_rfl) (by rw [List.getElem?_toArray]; rfl) ?_
      refine aps (ys := l.drop (askAt base l n)) one_ERequest scal_ERequest (h63 := by simp; omega) (hby := by simp; omega) fun a9 c9 F9 => ?_
      refine dk ?_
      refine dt 12 ?_
      refine dd ?_
      rw [hAdd]
      refine go ?_; intros
      refine ret ⟨_, _, _⟩ trivial rfl
    · apply o_bs; rfl; rfl; rfl; rfl; exact rptE; exact filE; intro _
      refine dk ?_
      refine dO 4 (by kernel_rfl) (by rw [List.getElem?_toArray]; rfl) ?_
      refine aps (ys := T1) one_ERequest scal_ERequest fun a7 c7 F7 => ?_
      rw [List.nil_append]
      refine dk ?_
      refine dO 7 (by kernel_rfl) (by rw [List.getElem?_toArray]; rfl) ?_
      refine ap1 (rep1_Request ⟨n, 1, ck + d, 0⟩) one_ERequest fun a8 c8 F8 => ?_
      refine dk ?_
      refine dO 11 (by kernel_rfl) (by rw [List.getElem?_toArray]; rfl) ?_
      refine aps (ys := l.drop (askAt base l n)) one_ERequest scal_ERequest (h63 := by simp; omega) (hby := by simp; omega) fun a9 c9 F9 => ?_
      refine dk ?_
      refine dt 12 ?_
      refine dd ?_
      rw [hAdd]
      refine go ?_; intros
      refine ret ⟨_, _, _⟩ trivial rfl
  · apply o_bs; rfl; rfl; rfl; rfl; exact rptE; exact filE; intro _
    refine dk ?_
    refine dO 0 (by kernel_rfl) (by rw [List.getElem?_toArray]; rfl) ?_
    apply o_bs0; rfl; intro _
    refine t_emp ERequest ?_
    refine dk ?_
    refine dO 4 (by kernel_rfl) (by rw [List.getElem?_toArray]; rfl) ?_
    refine aps (ys := T1) one_ERequest scal_ERequest fun a7 c7 F7 => ?_
    rw [List.nil_append]
    refine dk ?_
    refine dO 7 (by kernel_rfl) (by rw [List.getElem?_toArray]; rfl) ?_
    refine ap1 (rep1_Request ⟨n, 1, ck + d, 0⟩) one_ERequest fun a8 c8 F8 => ?_
    refine dk ?_
    refine dO 11 (by kernel_rfl) (by rw [List.getElem?_toArray]; rfl) ?_
    refine aps (ys := l.drop (askAt base l n)) one_ERequest scal_ERequest (h63 := by simp; omega) (hby := by simp; omega) fun a9 c9 F9 => ?_
    refine dk ?_
    refine dt 12 ?_
    refine dd ?_
    rw [hAdd]
    refine go ?_; intros
    refine ret ⟨_, _, _⟩ trivial rfl
end Go.Proofs.YtgogcgkocjpgoaaGreatDoor
/- Hearing: a request is confirmed, on both sides. -/
namespace Go.Proofs.YtgogcgkocjpgoaaGreatDoor
open Go.RowKit
set_option maxRecDepth 100000 in
theorem ConfirmRequest_f (l : List Request) (base n ck : Int) (a : Option Addr) (c : Nat) (F : List Nat) (hq : areQ l base = true) (hn : isSer n = true) (k0 : 0 ≤ ck) (k1 : ck ≤ 9999) :
    Fn Tryz.prog 212 [.slice a l.length c, .int .i64 base, .int .i64 n, .int .i64 ck] [.sl ERequest (.slice a l.length c) l F] [] (fun (_ : OwR) => True) (fun s => .tuple #[.slice s.a (confQ base l n (ck + 4)).length s.c, .bool true]) (fun s => [.ow ERequest 152 (.slice s.a (confQ base l n (ck + 4)).length s.c) (confQ base l n (ck + 4)) s.F]) := by
  have hle := askAt_le base l n
  obtain ⟨q1, q2, q3, q4⟩ := areQ_iff.1 hq
  have hck : isClk ck = true := by unfold isClk btw; simp; omega
  refine enter Tryz.func212 rfl Tryz.ntmps212 fun w0 => ?_
  refine go ?_; intros
  refine cf (AreRequests_f l base _ F) fun _ _ => ?_
  refine t_app ?_
  rw [hq]
  refine go ?_; intros
  refine ce (fun w s => IsSerial_c _ _) ?_
  rw [hn]
  refine go ?_; intros
  refine ce (fun w s => isClock_c _ _) ?_
  rw [hck]
  refine go ?_; intros
  refine cf (ClRequest_f l a c F (by omega)) fun z _ => ?_
  refine t_app ?_
  refine go ?_; intros
  refine cb (fun w st => by obtain ⟨Fw, -, hw⟩ := (st.get (p := .ow ERequest 152 (.slice z.1 (l).length z.2.1) (l) z.2.2) (by simp)).2.read; exact (findRequest_f l base n z.1 z.2.1 Fw hq hn).val w (hol1 ⟨by decide, hw⟩)) ?_
  have hcl := confQ_len base l n (ck + 4)
  cases ho : askOn base l n
  · rw [confQ_no ho]
    refine go ?_; intros
    refine ret ⟨_, _, _⟩ trivial rfl
  · have hlt := askOn_lt ho
    refine go ?_; intros
    refine focRequest (xs := l) (askAt base l n) ?_ (hi := hlt)
    rintro hi g A B ha hF hh
    rw [ha]
    refine go ?_; intros
    refine unfF (⟨n, 3, ck + 4, l[askAt base l n].tries⟩ : Request) hh (fun w => ?_) ?_
    · rw [askOn_at hi] at ho
      have e : l[askAt base l n].number = n := by simpa using ho
      rw [e]; exact ⟨rfl, rfl⟩
    rw [← confQ_yes ho]
    refine go ?_; intros
    rw [show l.length = (confQ base l n (ck + 4)).length from hcl.symm]
    refine ret ⟨_, _, _⟩ trivial rfl
set_option maxRecDepth 100000 in
theorem l12Confirm_f (l : List Request) (base n ck : Int) (a : Option Addr) (c : Nat) (F : List Nat) (hq : areQ l base = true) (hn : isSer n = true) (k0 : 0 ≤ ck) (k1 : ck ≤ 9999) :
    Fn Tryz.prog 207 [.slice a l.length c, .int .i64 base, .int .i64 n, .int .i64 ck] [.sl ERequest (.slice a l.length c) l F] [] (fun (_ : OwR) => True) (fun s => .slice s.a (confQ base l n (ck + 4)).length s.c) (fun s => [.ow ERequest 152 (.slice s.a (confQ base l n (ck + 4)).length s.c) (confQ base l n (ck + 4)) s.F]) := by
  have hle := askAt_le base l n
  obtain ⟨q1, q2, q3, q4⟩ := areQ_iff.1 hq
  have hcl := confQ_len base l n (ck + 4)
  refine enter Tryz.func207 rfl Tryz.ntmps207 fun w0 => ?_
  refine goN ?_; intros
  refine t_emp ERequest ?_
  refine go ?_; intros
  apply wO
  refine aps one_ERequest scal_ERequest fun a5 c5 F5 => ?_
  rw [List.nil_append]
  refine go ?_; intros
  refine cf (l12Place_f l base n a c F hq hn) fun _ _ => ?_
  refine t_app ?_
  cases ho : askOn base l n
  · rw [confQ_no ho]
    refine go ?_; intros
    refine ret ⟨_, _, _⟩ trivial rfl
  · have hlt := askOn_lt ho
    refine go ?_; intros
    refine atRequest (xs := l) (askAt base l n) ?_
    rintro hi b o e
    rw [e]
    refine focRequest (xs := l) (a := a5) (askAt base l n) ?_ (hi := hlt)
    rintro hi g A B ha hF hh
    rw [ha]
    refine go ?_; intros
    refine unfF (⟨n, 3, ck + 4, l[askAt base l n].tries⟩ : Request) hh (fun w => ⟨rfl, rfl⟩) ?_
    rw [← confQ_yes ho]
    refine go ?_; intros
    rw [show l.length = (confQ base l n (ck + 4)).length from hcl.symm]
    refine ret ⟨_, _, _⟩ trivial rfl
end Go.Proofs.YtgogcgkocjpgoaaGreatDoor
/- A call that reads what is owned, and gives new pieces. -/
namespace Go.Proofs.YtgogcgkocjpgoaaGreatDoor
open Go.RowKit
theorem sep_roA : ∀ (A : List Pc), A.all (fun p => !p.mu) = true → Sep A
  | [], _ => trivial
  | p :: A, h => by
    simp only [List.all_cons, Bool.and_eq_true, Bool.not_eq_true'] at h
    exact ⟨fun q hq hm => by
      have hq' := List.all_eq_true.1 h.2 q hq
      simp only [Bool.not_eq_true'] at hq'
      rw [h.1, hq'] at hm; simp at hm, sep_roA A h.2⟩
section
variable {c : Cx} {fr : Fr} {H : List Pc} {d : Nat} {Φ : Gl}
theorem cfr {f : Nat} {vs : List Value} {σ : Type} {C : σ → Prop} {vv : σ → Value} {N : σ → List Pc} (hf : ∀ w, St c.G c.D c.w0 H w → ∃ A, Hol A w ∧ A.all (fun p => !p.mu) = true ∧ Fn c.P f vs A [] C vv N)
    (h : ∀ s, C s → T c ((d, vv s) :: fr) (N s ++ H) Φ) (hN : ∀ s, (N s).all (·.mu) = true := by intro s; rfl) : Cl c fr H d f vs Φ :=
  cl_of (R := fun w e w' => ∃ s, C s ∧ e = .returned (vv s) ∧ Hol (N s) w' ∧ Sep (N s) ∧ Keep [] w w' ∧ ∀ p ∈ N s, ∀ b ∈ p.F, w.heap.size ≤ b)
    (fun w s => by
      obtain ⟨A, hA, hm, hF⟩ := hf w s
      refine (hF w (by simpa using hA) (by simpa using sep_roA A hm)).mono fun e w' ⟨z, hz, he, h1, h2, h3, h4⟩ => ⟨z, hz, he, h1, h2, h3, fun p hp b hb => ?_⟩
      rcases h4 p hp b hb with h | ⟨q, hq, -⟩ | ⟨hp', -⟩
      · exact h
      · cases hq
      · have := List.all_eq_true.1 (hN z) p hp
        rw [hp'] at this; cases this)
    (fun w e w' s ⟨z, hz, he, h1, h2, h3, h4⟩ => ⟨_, he, fun a g => (h z hz).h a w' (St.turn (M := []) (R := H) (N := N z) s h3 h1 h2 fun p hp b hb => .inl (h4 p hp b hb)) g⟩)
theorem sep_lend {M A R : List Pc} (hm : M.all (·.mu) = true) (hA : A.all (fun p => !p.mu) = true) (hb : ∀ p ∈ A, ∀ b ∈ p.F, ∃ q ∈ R, b ∈ q.F) : Sep (M ++ R) → Sep (M ++ A) := by
  induction M with
  | nil => intro _; exact sep_roA A hA
  | cons p M ih =>
    simp only [List.all_cons, Bool.and_eq_true] at hm
    intro s
    refine ⟨fun q hq => ?_, ih hm.2 s.2⟩
    rcases List.mem_append.1 hq with h | h
    · exact s.1 q (by simp [h])
    · intro _ b hp hq2
      obtain ⟨r, hr, hbr⟩ := hb q h b hq2
      exact s.1 r (by simp [hr]) (by rw [hm.1]; rfl) b hp hbr
/-- a call that turns the pieces M and reads others that stand in its caller's hands -/
theorem cfm {f : Nat} {vs : List Value} {M R : List Pc} {σ : Type} {C : σ → Prop} {vv : σ → Value} {N : σ → List Pc} (hM : Picks H M R) (hf : ∀ w, St c.G c.D c.w0 (M ++ R) w → ∃ A, Hol A w ∧ A.all (fun p => !p.mu) = true ∧ (∀ p ∈ A, ∀ b ∈ p.F, ∃ q ∈ R, b ∈ q.F) ∧ Fn c.P f vs A M C vv N)
    (h : ∀ s, C s → T c ((d, vv s) :: fr) (N s ++ R) Φ) (hmM : M.all (·.mu) = true := by rfl) (hN : ∀ s, (N s).all (·.mu) = true := by intro s; rfl) : Cl c fr H d f vs Φ :=
  have hMR : ∀ w, St c.G c.D c.w0 H w → St c.G c.D c.w0 (M ++ R) w := fun w s => by simpa using hM.st (X := []) (by simpa using s)
  have hmu : ∀ p ∈ M, p.mu = true := fun p hp => List.all_eq_true.1 hmM p hp
  cl_of (R := fun w e w' => ∃ s, C s ∧ e = .returned (vv s) ∧ Hol (N s) w' ∧ Sep (N s) ∧ Keep (fp M) w w' ∧ ∀ p ∈ N s, ∀ b ∈ p.F, w.heap.size ≤ b ∨ ∃ q ∈ M, b ∈ q.F)
    (fun w s => by
      obtain ⟨A, hA, hm, hb, hF⟩ := hf w (hMR w s)
      have s2 := hMR w s
      refine (hF w (fun p hp => ?_) (sep_lend hmM hm hb s2.sep)).mono fun e w' ⟨z, hz, he, h1, h2, h3, h4⟩ => ⟨z, hz, he, h1, h2, h3, fun p hp b hb => ?_⟩
      · rcases List.mem_append.1 hp with hp | hp
        · exact s2.on p (by simp [hp])
        · exact hA p hp
      · rcases h4 p hp b hb with h | h | ⟨hp', -⟩
        · exact .inl h
        · exact .inr h
        · have := List.all_eq_true.1 (hN z) p hp
          rw [hp'] at this; cases this)
    (fun w e w' s ⟨z, hz, he, h1, h2, h3, h4⟩ => ⟨_, he, fun a g => (h z hz).h a w' (St.turn (hMR w s) (by rwa [List.filter_eq_self.2 hmu]) h1 h2 fun p hp b hb => by
      rcases h4 p hp b hb with h | ⟨q, hq, hqb⟩
      · exact .inl h
      · exact .inr (.inl ⟨q, hq, hmu q hq, hqb⟩)) g⟩)
/-- what every element of a slice has -/
theorem t_each {α : Type} {E : Elem α} (Q : α → Prop) (hQ : ∀ w cs x F, E.rep w cs x F → Q x) {a : Option Addr} {n cp : Nat} {xs : List α} {F : List Nat} (h : (∀ x ∈ xs, Q x) → T c fr H Φ) (hm : .sl E (.slice a n cp) xs F ∈ H := by (repeat (first | exact .head _ | apply List.Mem.tail)); first | done | fail) : T c fr H Φ := .mk fun ac w s g =>
  (h fun x hx => by
    obtain ⟨k, hk, rfl⟩ := List.getElem_of_mem hx
    obtain ⟨-, hs⟩ := s.get hm
    obtain ⟨-, -, cs, F1, -, h1, -, -⟩ := hs.at k hk
    exact hQ _ _ _ _ h1).h ac w s g
/-- the end of a body without results -/
theorem t_fall {P : Program} {fn : Func} {G D : List Nat} {w0 : World} {n : Nat} {R : Ending → World → Prop} (h : T ⟨P, G, D, w0, n, bodyPost P fn R⟩ fr H (.fin .ret)) : T ⟨P, G, D, w0, n, bodyPost P fn R⟩ fr H (.norm []) := n_end ⟨fun a w s g => h.h a w s g⟩
end
end Go.Proofs.YtgogcgkocjpgoaaGreatDoor
/- Hearing: skipping and awaiting, the program's. -/
namespace Go.Proofs.YtgogcgkocjpgoaaGreatDoor
open Go.RowKit
structure SkS where
  a : Option Addr
  c : Nat
  F : List Nat
  ae : Option Addr
  ce : Nat
  Fe : List Nat
set_option maxRecDepth 100000 in
theorem Rskip_f (w : ReceiveWindow) (st : Bool) (ck tr : Int) (q : Value) (g t o : Nat) (A B : List Value) (a1 : Option Addr) (c1 : Nat) (F1 : List Nat) (hg : goodRW w = true) (ht : isSer tr = true) :
    Fn Tryz.prog 264 [ptr g o 0, .int .i64 tr] [] [.row g t o A [.bool st, .int .i64 ck, .int .i64 (w).next, .slice a1 (w).slots.length c1, q] B, .ow ESlot 213 (.slice a1 (w).slots.length c1) (w).slots F1] (fun (_ : SkS) => True)
      (fun s => .slice s.ae (skipE w tr).length s.ce) (fun s => [.row g t o A [.bool st, .int .i64 ck, .int .i64 (skipW w tr).next, .slice s.a (skipW w tr).slots.length s.c, q] B, .ow ESlot 213 (.slice s.a (skipW w tr).slots.length s.c) (skipW w tr).slots s.F, .ow EStr 9 (.slice s.ae (skipE w tr).length s.ce) (skipE w tr) s.Fe]) := by
  obtain ⟨w0_, w1_⟩ := next_ser hg
  obtain ⟨t0_, t1_⟩ := isSer_iff.1 ht
  obtain ⟨hw8, hit⟩ := good_items hg
  have hgb := gp_bd w.next tr
  refine enter Tryz.func264 rfl Tryz.ntmps264 fun w0 => ?_
  refine go ?_; intros
  refine ce (fun w s => isBefore_c _ _ _ (by omega) (by omega) (by omega) (by omega)) ?_
  cases hb : bef w.next tr
  · have e1 : skipW w tr = w := by unfold skipW; rw [hb]; rfl
    have e2 : skipE w tr = [] := by unfold skipE; rw [hb]; rfl
    rw [e1, e2]
    refine t_nilow EStr 9 ?_
    refine go ?_; intros
    refine ret ⟨_, _, _, _, _, _⟩ trivial rfl
  refine go ?_; intros
  refine ce (fun w s => gap_c _ _ _ (by omega) (by omega) (by omega) (by omega)) ?_
  refine go ?_; intros
  refine c_if rfl (fun h4 => ?_) (fun h4 => ?_)
  · have e1 : skipW w tr = movedW w tr := by unfold skipW; rw [hb, if_pos rfl, if_pos h4]
    have e2 : skipE w tr = movedE w tr := by unfold skipE; rw [hb, if_pos rfl, if_pos h4]
    rw [e1, e2]
    refine t_rin [.bool st, .int .i64 ck] [.int .i64 w.next, .slice a1 w.slots.length c1] [q] ?_
    refine go ?_; intros
    refine cf (RWgive_f w tr g t (o + 2) (A ++ [.bool st, .int .i64 ck]) _ a1 c1 F1 w0_ w1_ t0_ t1_ hw8 hit) fun y hy => ?_
    refine t_app ?_
    obtain ⟨hy1, hy2⟩ := hy
    refine t_rout [.bool st, .int .i64 ck] [.int .i64 y.y.next, .slice y.a y.y.slots.length y.c] [q] ?_
    rw [show movedW w tr = y.y from hy1.symm, show movedE w tr = y.es from hy2.symm]
    refine go ?_; intros
    refine ret ⟨_, _, _, _, _, _⟩ trivial rfl
  · have e1 : skipW w tr = ⟨tr, []⟩ := by unfold skipW; rw [hb, if_pos rfl, if_neg h4]
    have e2 : skipE w tr = [⟨#[33]⟩] := by unfold skipE; rw [hb, if_pos rfl, if_neg h4]
    rw [e1, e2]
    refine t_nilow ESlot 213 ?_
    refine goN ?_; intros
    refine t_row (xs := [(⟨#[33]⟩ : ByteArray)]) (rep_str _ (by decide)) ?_ (by simp)
    refine go ?_; intros
    refine ret ⟨none, 0, [], _, _, _⟩ trivial rfl
structure AwS where
  i : Nat
  a : Option Addr
  c : Nat
  F : List Nat
set_option maxRecDepth 100000 in
set_option maxHeartbeats 800000 in
theorem Rawait_f (x : ReceiveWindow) (l : List Request) (st : Bool) (ck lead d : Int) (g t o : Nat) (A B : List Value) (a1 : Option Addr) (c1 : Nat) (F1 : List Nat) (a2 : Option Addr) (c2 : Nat) (F2 : List Nat) (hg : goodRW x = true) (hq : areQ l x.next = true) (hf : ∀ q ∈ l, hasB x q.number = false) (hl : isSer lead = true) (k0 : 0 ≤ ck) (k1 : ck ≤ 9999) (d0 : 1 ≤ d) (d1 : d ≤ 8) :
    Fn Tryz.prog 266 [ptr g o 0, .int .i64 lead, .int .i64 d] [] [.row g t o A [.bool st, .int .i64 ck, .int .i64 (x).next, .slice a1 (x).slots.length c1, .slice a2 (l).length c2] B, .ow ESlot 213 (.slice a1 (x).slots.length c1) (x).slots F1, .ow ERequest 152 (.slice a2 (l).length c2) (l) F2] (fun (_ : OwR) => True)
      (fun _ => .tuple #[]) (fun s => [.row g t o A [.bool st, .int .i64 ck, .int .i64 (x).next, .slice a1 (x).slots.length c1, .slice s.a (awaitQ x l lead (ck + d)).length s.c] B, .ow ESlot 213 (.slice a1 (x).slots.length c1) (x).slots F1, .ow ERequest 152 (.slice s.a (awaitQ x l lead (ck + d)).length s.c) (awaitQ x l lead (ck + d)) s.F]) := by
  obtain ⟨w0_, w1_⟩ := next_ser hg
  obtain ⟨l0_, l1_⟩ := isSer_iff.1 hl
  have hgb := gp_bd x.next lead
  refine enter Tryz.func266 rfl Tryz.ntmps266 fun w0 => ?_
  refine go ?_; intros
  refine ce (fun w s => isBefore_c _ _ _ (by omega) (by omega) (by omega) (by omega)) ?_
  cases hb : bef x.next lead
  · have e1 : awaitQ x l lead (ck + d) = l := by unfold awaitQ; rw [hb]; rfl
    rw [e1]
    refine go ?_; intros
    refine ret ⟨_, _, _⟩ trivial rfl
  obtain ⟨k, hk⟩ : ∃ k, k = awaitN x lead := ⟨_, rfl⟩
  have hk8 : k ≤ 8 := by rw [hk]; exact awaitN_le _ _
  have hkm : ((k : Nat) : Int) = min (gp x.next lead) 8 := by rw [hk]; unfold awaitN; omega
  obtain ⟨N, hN⟩ : ∃ N, N = missL x k := ⟨_, rfl⟩
  have hNl : N.length ≤ 8 := by have := missL_len x k; rw [hN]; omega
  have e1 : awaitQ x l lead (ck + d) = addAll x.next (ck + d) l N := by unfold awaitQ; rw [hb, if_pos rfl, hN, hk]
  rw [e1]
  have hav := aft_bd x.next (min (gp x.next lead) 8)
  have hgp : gp x.next (aft x.next (min (gp x.next lead) 8)) = (k : Nat) := by rw [← hkm]; unfold gp aft; omega
  refine go ?_; intros
  refine d_start [0] [] ?_
  refine dt 0 ?_
  refine dt 1 ?_
  refine dt 2 ?_
  refine dt 3 ?_
  refine dt 4 ?_
  refine dt 5 ?_
  refine dt 6 ?_
  refine dt 12 ?_
  refine dO 7 (by kernel_rfl) (by rw [List.getElem?_toArray]; rfl) ?_
  apply o_call; rfl; kernel_rfl; exact evsE
  refine ce (fun w s => gap_c _ _ _ (by omega) (by omega) (by omega) (by omega)) ?_
  refine dk ?_
  refine dt 8 ?_
  refine dO 9 (by kernel_rfl) (by rw [List.getElem?_toArray]; rfl) ?_
  apply o_call; rfl; kernel_rfl; exact evsE
  refine ce (fun w s => after_c _ _ _ (by omega) (by omega)) ?_
  refine dk ?_
  refine dO 10 (by kernel_rfl) (by rw [List.getElem?_toArray]; rfl) ?_
  apply o_call; rfl; kernel_rfl; exact evsE
  refine cfr (fun w st => by obtain ⟨F9, hF9⟩ := rdRW (st.get (p := .ow ESlot 213 (.slice a1 (x).slots.length c1) (x).slots F1) (by simp)); exact ⟨_, hol1 hF9, rfl, RWmissing_f x _ k _ F9 w0_ w1_ (by omega) (by omega) hgp⟩) (fun m _ => ?_)
  refine dk ?_
  refine dt 11 ?_
  refine dd ?_
  rw [← hN]
  refine t_read (E := EInt) (xs := N) fun GN => ?_
  refine go ?_; intros
  refine c_loopS [0, 2, 6, 30, 31] (fun s : AwS => [(32, .int .i64 (s.i : Nat))]) (fun s => [.row g t o A [.bool st, .int .i64 ck, .int .i64 (x).next, .slice a1 (x).slots.length c1, .slice s.a (addAll x.next (ck + d) l (N.take s.i)).length s.c] B, .ow ERequest 152 (.slice s.a (addAll x.next (ck + d) l (N.take s.i)).length s.c) (addAll x.next (ck + d) l (N.take s.i)) s.F]) (fun s => s.i ≤ N.length) (fun s => N.length - s.i) ⟨0, a2, c2, F2⟩ (Nat.zero_le _) fun s hs => ?_
  obtain ⟨i, a3, c3, F3⟩ := s
  dsimp only at hs ⊢
  have hall := addAll_good (w := x) (u := ck + d) (by omega) (by omega) (N.take i) l (fun n hn => by
    have := missL_at (w := x) (n := n) hk8 (by rw [← hN]; exact List.mem_of_mem_take hn)
    exact ⟨this.1, this.2.2⟩) hq hf
  have hLs : ∀ h : i < N.length, addAll x.next (ck + d) l (N.take (i + 1)) = addQ x.next (addAll x.next (ck + d) l (N.take i)) N[i] (ck + d) := fun h => addAll_succ h
  generalize hLd : addAll x.next (ck + d) l (N.take i) = L at *
  have hLq := hall.1
  have hL8 := (areQ_iff.1 hLq).2.1
  refine go ?_; intros
  refine c_if rfl (fun h4 => ?_) (fun h4 => ?_)
  · have hi : i < N.length := by omega
    have hni := missL_at (w := x) (n := N[i]) hk8 (by rw [← hN]; exact List.getElem_mem hi)
    refine at_int (xs := N) i ?_
    rintro hi2 b o2 e
    rw [e]
    refine go ?_; intros
    refine d_start [1] [] ?_
    refine dt 0 ?_
    refine dt 1 ?_
    refine dt 2 ?_
    refine dt 3 ?_
    refine dt 4 ?_
    refine dt 5 ?_
    refine dt 6 ?_
    refine dt 7 ?_
    refine dt 8 ?_
    refine dt 9 ?_
    refine dt 10 ?_
    refine dO 11 (by kernel_rfl) (by rw [List.getElem?_toArray]; rfl) ?_
    apply o_call; rfl; kernel_rfl; exact evsE
    refine cfr (fun w st => by obtain ⟨Fq, -, hq9⟩ := (st.get (p := .ow ERequest 152 (.slice a3 (L).length c3) (L) F3) (by simp)).2.read; exact ⟨[.sl ERequest (.slice a3 L.length c3) L Fq], hol1 ⟨by decide, hq9⟩, rfl, AddRequest_f L x.next N[i] ck d a3 c3 Fq hLq hni.1 hni.2.1 k0 k1 d0 d1⟩) (fun u _ => ?_)
    refine dk ?_
    refine dt 12 ?_
    refine dt 13 ?_
    refine dt 14 ?_
    refine dt 15 ?_
    refine dt 16 ?_
    refine dd ?_
    refine go ?_; intros
    cases ho : askOn x.next L N[i]
    · have eA : addAll x.next (ck + d) l (N.take (i + 1)) = addL x.next L N[i] (ck + d) := by rw [hLs hi]; unfold addQ addL; rw [ho, decide_eq_true hni.2.1]; rfl
      refine go ?_; intros
      rw [← eA]
      refine n_lp (⟨i + 1, _, _, _⟩ : AwS) (by show i + 1 ≤ N.length; omega) (by show N.length - (i + 1) < N.length - i; omega)
    · have eA : addAll x.next (ck + d) l (N.take (i + 1)) = L := by rw [hLs hi]; unfold addQ; rw [ho]; rfl
      refine go ?_; intros
      rw [← eA]
      refine n_lp (⟨i + 1, _, _, _⟩ : AwS) (by show i + 1 ≤ N.length; omega) (by show N.length - (i + 1) < N.length - i; omega)
  have hi : i = N.length := by omega
  subst hi
  rw [List.take_length] at hLd
  rw [hLd]
  refine go ?_; intros
  refine t_fall ?_
  refine ret (⟨_, _, _⟩ : OwR) trivial rfl
end Go.Proofs.YtgogcgkocjpgoaaGreatDoor
/- Valid packets, on both sides. -/
namespace Go.Proofs.YtgogcgkocjpgoaaGreatDoor
open Go.RowKit
set_option maxRecDepth 100000 in
theorem IsValidPacket_f (p : Packet) (hs : p.data.size ≤ maxLen) : Fn Tryz.prog 123 [.agg #[.int .i64 p.kind, .int .i64 p.number, .int .i64 p.trail, .int .i64 p.lead, .string p.data]] [] [] (fun (_ : Unit) => True) (fun _ => .bool (goodPk p)) (fun _ => []) := by
  refine enter Tryz.func123 rfl Tryz.ntmps123 fun w0 => ?_
  refine go ?_; intros
  refine ce (fun w s => within_c _ _ _ _) ?_
  cases g1 : btw 1 p.kind 5
  · refine go ?_; intros
    refine ret () trivial ?_
    show Value.bool _ = Value.bool _; congr 1; unfold goodPk; simp [g1]
  refine go ?_; intros
  refine ce (fun w s => IsSerial_c _ _) ?_
  cases g2 : isSer p.number
  · refine go ?_; intros
    refine ret () trivial ?_
    show Value.bool _ = Value.bool _; congr 1; unfold goodPk; simp [g2]
  refine go ?_; intros
  refine ce (fun w s => IsSerial_c _ _) ?_
  cases g3 : isSer p.trail
  · refine go ?_; intros
    refine ret () trivial ?_
    show Value.bool _ = Value.bool _; congr 1; unfold goodPk; simp [g3]
  refine go ?_; intros
  refine ce (fun w s => IsSerial_c _ _) ?_
  cases g4 : isSer p.lead
  · refine go ?_; intros
    refine ret () trivial ?_
    show Value.bool _ = Value.bool _; congr 1; unfold goodPk; simp [g4]
  refine go ?_; intros
  refine cb (fun w s => isItem_c _ _ hs) ?_
  cases g5 : itm p.data
  · refine go ?_; intros
    refine ret () trivial ?_
    show Value.bool _ = Value.bool _; congr 1; unfold goodPk; simp [g5]
  obtain ⟨t0, t1⟩ := isSer_iff.1 g3
  obtain ⟨l0, l1⟩ := isSer_iff.1 g4
  refine go ?_; intros
  refine ce (fun w s => gap_c _ _ _ (by omega) (by omega) (by omega) (by omega)) ?_
  refine go ?_; intros
  refine wg_if rfl rfl (fun h6 => ?_) (fun h6 => ?_)
  · refine go ?_; intros
    refine wg_if rfl rfl (fun h7 => ?_) (fun h7 => ?_)
    · refine go ?_; intros
      refine ret () trivial ?_
      show Value.bool _ = Value.bool _; congr 1; unfold goodPk; rw [g1, g2, g3, g4, g5, decide_eq_true h6, decide_eq_true h7]; rfl
    refine go ?_; intros
    refine wg_if rfl rfl (fun h8 => ?_) (fun h8 => ?_)
    · refine go ?_; intros
      refine ret () trivial ?_
      show Value.bool _ = Value.bool _; congr 1; unfold goodPk; rw [g1, g2, g3, g4, g5, decide_eq_true h6, decide_eq_true h8]; simp
    · refine go ?_; intros
      refine ret () trivial ?_
      show Value.bool _ = Value.bool _; congr 1; unfold goodPk; rw [g1, g2, g3, g4, g5, decide_eq_true h6, decide_eq_false h7, decide_eq_false h8]; rfl
  · refine go ?_; intros
    refine ret () trivial ?_
    show Value.bool _ = Value.bool _; congr 1; unfold goodPk; simp [h6]
set_option maxRecDepth 100000 in
theorem l4Good_f (p : Packet) (hs : p.data.size ≤ maxLen) : Fn Tryz.prog 118 [.agg #[.int .i64 p.kind, .int .i64 p.number, .int .i64 p.trail, .int .i64 p.lead, .string p.data]] [] [] (fun (_ : Unit) => True) (fun _ => .bool (goodPk p)) (fun _ => []) := by
  refine enter Tryz.func118 rfl Tryz.ntmps118 fun w0 => ?_
  refine go ?_; intros
  refine ce (fun w s => l1In_c _ _ _ _) ?_
  cases g1 : btw 1 p.kind 5
  · refine go ?_; intros
    refine ret () trivial ?_
    show Value.bool _ = Value.bool _; congr 1; unfold goodPk; simp [g1]
  refine go ?_; intros
  refine ce (fun w s => l2Good_c _ _) ?_
  cases g2 : isSer p.number
  · refine go ?_; intros
    refine ret () trivial ?_
    show Value.bool _ = Value.bool _; congr 1; unfold goodPk; simp [g2]
  refine go ?_; intros
  refine ce (fun w s => l2Good_c _ _) ?_
  cases g3 : isSer p.trail
  · refine go ?_; intros
    refine ret () trivial ?_
    show Value.bool _ = Value.bool _; congr 1; unfold goodPk; simp [g3]
  refine go ?_; intros
  refine ce (fun w s => l2Good_c _ _) ?_
  cases g4 : isSer p.lead
  · refine go ?_; intros
    refine ret () trivial ?_
    show Value.bool _ = Value.bool _; congr 1; unfold goodPk; simp [g4]
  obtain ⟨t0, t1⟩ := isSer_iff.1 g3
  obtain ⟨l0, l1⟩ := isSer_iff.1 g4
  refine go ?_; intros
  refine ce (fun w s => l2Gap_c _ _ _ (by omega) (by omega)) ?_
  refine go ?_; intros
  refine wg_if rfl rfl (fun h6 => ?_) (fun h6 => ?_)
  · refine go ?_; intros
    refine ret () trivial ?_
    have h6 : ¬ gp p.trail p.lead ≤ 32767 := by omega
    show Value.bool _ = Value.bool _; congr 1; unfold goodPk; simp [h6]
  have h6 : gp p.trail p.lead ≤ 32767 := by omega
  refine go ?_; intros
  refine ce (fun w s => l4Letters_c _ _ _ hs) ?_
  rw [show (decide ((p.data.size : Int) ≤ 8) && lows p.data.data.toList) = itm p.data from rfl]
  cases g5 : itm p.data
  · refine go ?_; intros
    refine ret () trivial ?_
    show Value.bool _ = Value.bool _; congr 1; unfold goodPk; simp [g5]
  refine go ?_; intros
  refine wg_if rfl rfl (fun h7 => ?_) (fun h7 => ?_)
  · refine go ?_; intros
    refine ret () trivial ?_
    show Value.bool _ = Value.bool _; congr 1; unfold goodPk; rw [g1, g2, g3, g4, g5, decide_eq_true h6, decide_eq_true h7]; rfl
  refine go ?_; intros
  refine wg_if rfl rfl (fun h8 => ?_) (fun h8 => ?_)
  · refine go ?_; intros
    refine ret () trivial ?_
    show Value.bool _ = Value.bool _; congr 1; unfold goodPk; rw [g1, g2, g3, g4, g5, decide_eq_true h6, decide_eq_true h8]; simp
  · refine go ?_; intros
    refine ret () trivial ?_
    show Value.bool _ = Value.bool _; congr 1; unfold goodPk; rw [g1, g2, g3, g4, g5, decide_eq_true h6, decide_eq_false h7, decide_eq_false h8]; rfl
end Go.Proofs.YtgogcgkocjpgoaaGreatDoor
/- Hearing: news, the program's. -/
namespace Go.Proofs.YtgogcgkocjpgoaaGreatDoor
open Go.RowKit
def delB (x : ReceiveWindow) (q : Request) : Bool := bef q.number x.next || decide (8 ≤ gp x.next q.number) || hasB x q.number
theorem need_eq {l : List Request} {x : ReceiveWindow} : (l.filter fun q => !delB x q) = needed l x := by
  unfold needed delB
  refine List.filter_congr fun q _ => ?_
  have e : decide (8 ≤ gp x.next q.number) = !decide (gp x.next q.number < 8) := by rw [← decide_not]; exact decide_eq_decide.2 (by omega)
  rw [e]
  cases bef q.number x.next <;> cases hasB x q.number <;> simp
set_option maxRecDepth 100000 in
theorem news1_f (q : Request) (x : ReceiveWindow) (nb gb g o : Nat) (st : Bool) (ck : Int) (qv : Value) (a1 : Option Addr) (c1 : Nat) (F : List Nat) (w0_ : 0 ≤ x.next) (w1_ : x.next ≤ 65535) (hn : isSer q.number = true) :
    Fn Tryz.prog 265 [.agg #[.int .i64 q.number, .int .i64 q.state, .int .i64 q.untl, .int .i64 q.tries], ptr nb 0 0, ptr gb 0 0] [.cel nb 0 [.int .i64 x.next], .cel gb 0 [ptr g o 0], .cel g o [.bool st, .int .i64 ck, .int .i64 x.next, .slice a1 x.slots.length c1, qv], .isv EReceiveWindow (.agg #[.int .i64 x.next, .slice a1 x.slots.length c1]) x F] [] (fun (_ : Unit) => True) (fun _ => .bool (delB x q)) (fun _ => []) := by
  obtain ⟨n0, n1⟩ := isSer_iff.1 hn
  have hgb := gp_bd x.next q.number
  refine enter Tryz.func265 rfl Tryz.ntmps265 fun w0 => ?_
  refine go ?_; intros
  cases hb : bef q.number x.next
  rotate_left
  · rw [show delB x q = true by unfold delB; rw [hb]; rfl]
    refine d_start [0, 1, 2, 3, 4] [] ?_
    refine dt 0 ?_
    refine dt 1 ?_
    refine dt 2 ?_
    refine dO 3 (by kernel_rfl) (by rw [List.getElem?_toArray]; rfl) ?_
    apply o_call; rfl; kernel_rfl; exact evsE
    refine ce (fun w s => isBefore_c _ _ _ (by omega) (by omega) (by omega) (by omega)) ?_
    rw [hb]
    refine dk ?_
    refine dt 4 ?_
    refine ds 5 ?_
    refine ds 6 ?_
    refine ds 7 ?_
    refine ds 8 ?_
    refine ds 9 ?_
    refine dt 10 ?_
    refine dt 11 ?_
    refine ds 12 ?_
    refine ds 13 ?_
    refine ds 14 ?_
    refine ds 15 ?_
    refine ds 16 ?_
    refine ds 17 ?_
    refine ds 18 ?_
    refine dt 19 ?_
    refine dt 20 ?_
    refine dd ?_
    refine go ?_; intros
    refine ret () trivial rfl
  by_cases h8' : 8 ≤ gp x.next q.number
  · have h8 := decide_eq_true h8'
    rw [show delB x q = true by unfold delB; rw [h8]; simp]
    refine d_start [0, 1, 2, 3, 4] [] ?_
    refine dt 0 ?_
    refine dt 1 ?_
    refine dt 2 ?_
    refine dO 3 (by kernel_rfl) (by rw [List.getElem?_toArray]; rfl) ?_
    apply o_call; rfl; kernel_rfl; exact evsE
    refine ce (fun w s => isBefore_c _ _ _ (by omega) (by omega) (by omega) (by omega)) ?_
    rw [hb]
    refine dk ?_
    refine dt 4 ?_
    refine dtg 5 ?_
    refine dtg 6 ?_
    refine dtg 7 ?_
    refine d1g 8 ?_
    apply On.h
    apply o_call; rfl; kernel_rfl; exact evsE
    refine ce (fun w s => gap_c _ _ _ (by omega) (by omega) (by omega) (by omega)) ?_
    refine dk ?_
    refine dtg 9 ?_
    rw [h8]
    refine dt 10 ?_
    refine dt 11 ?_
    refine ds 12 ?_
    refine ds 13 ?_
    refine ds 14 ?_
    refine ds 15 ?_
    refine ds 16 ?_
    refine ds 17 ?_
    refine ds 18 ?_
    refine dt 19 ?_
    refine dt 20 ?_
    refine dd ?_
    refine go ?_; intros
    refine ret () trivial rfl
  · have h8 := decide_eq_false h8'
    rw [show delB x q = hasB x q.number by unfold delB; rw [hb, h8]; rfl]
    refine d_start [0, 1, 2, 3, 4] [] ?_
    refine dt 0 ?_
    refine dt 1 ?_
    refine dt 2 ?_
    refine dO 3 (by kernel_rfl) (by rw [List.getElem?_toArray]; rfl) ?_
    apply o_call; rfl; kernel_rfl; exact evsE
    refine ce (fun w s => isBefore_c _ _ _ (by omega) (by omega) (by omega) (by omega)) ?_
    rw [hb]
    refine dk ?_
    refine dt 4 ?_
    refine dtg 5 ?_
    refine dtg 6 ?_
    refine dtg 7 ?_
    refine d1g 8 ?_
    apply On.h
    apply o_call; rfl; kernel_rfl; exact evsE
    refine ce (fun w s => gap_c _ _ _ (by omega) (by omega) (by omega) (by omega)) ?_
    refine dk ?_
    refine dtg 9 ?_
    rw [h8]
    refine dt 10 ?_
    refine dt 11 ?_
    refine dtg 12 ?_
    refine dtg 13 ?_
    refine dtg 14 ?_
    refine dtg 15 ?_
    refine dtg 16 ?_
    refine dtg 17 ?_
    refine d1g 18 ?_
    apply On.h
    apply o_call; rfl; kernel_rfl; exact evsE
    refine cf (RWhas_f x q.number _ F w0_ w1_ n0 n1) fun _ _ => ?_
    refine t_app ?_
    refine dk ?_
    refine dt 19 ?_
    refine dt 20 ?_
    refine dd ?_
    refine go ?_; intros
    refine ret () trivial rfl
structure NwS where
  a1 : Option Addr
  c1 : Nat
  F1 : List Nat
  a2 : Option Addr
  c2 : Nat
  F2 : List Nat
  ae : Option Addr
  ce : Nat
  Fe : List Nat
set_option maxRecDepth 100000 in
set_option maxHeartbeats 1000000 in
theorem Rnews_f (r : Receiver) (p : Packet) (d : Int) (g t o : Nat) (A B : List Value) (a1 : Option Addr) (c1 : Nat) (F1 : List Nat) (a2 : Option Addr) (c2 : Nat) (F2 : List Nat) (hg : GoodR r) (hp : goodPk p = true) (d0 : 1 ≤ d) (d1 : d ≤ 8) :
    Fn Tryz.prog 211 [ptr g o 0, .agg #[.int .i64 p.kind, .int .i64 p.number, .int .i64 p.trail, .int .i64 p.lead, .string p.data], .int .i64 d] [] [.row g t o A [.bool r.started, .int .i64 r.clock, .int .i64 (r.window).next, .slice a1 (r.window).slots.length c1, .slice a2 (r.requests).length c2] B, .ow ESlot 213 (.slice a1 (r.window).slots.length c1) (r.window).slots F1, .ow ERequest 152 (.slice a2 (r.requests).length c2) (r.requests) F2] (fun (_ : NwS) => True)
      (fun s => .slice s.ae (newsE r p).length s.ce) (fun s => [.row g t o A [.bool (newsR r p d).started, .int .i64 (newsR r p d).clock, .int .i64 ((newsR r p d).window).next, .slice s.a1 ((newsR r p d).window).slots.length s.c1, .slice s.a2 ((newsR r p d).requests).length s.c2] B, .ow ESlot 213 (.slice s.a1 ((newsR r p d).window).slots.length s.c1) ((newsR r p d).window).slots s.F1, .ow ERequest 152 (.slice s.a2 ((newsR r p d).requests).length s.c2) ((newsR r p d).requests) s.F2, .ow EStr 9 (.slice s.ae (newsE r p).length s.ce) (newsE r p) s.Fe]) := by
  have k0 := hg.k0
  have k1 := hg.k1
  obtain ⟨-, q1, q2, -⟩ := areQ_iff.1 hg.q
  have hser : ∀ q ∈ r.requests, isSer q.number = true := fun q hq => (req_at hg hq).1
  obtain ⟨hsg, -⟩ := start_good hg hp
  obtain ⟨htg, -, htl⟩ := taken_good hg hp
  obtain ⟨hng, hnq, -, hnl⟩ := news_good hg hp d0 d1 (by omega)
  obtain ⟨s0_, s1_⟩ := next_ser hsg
  obtain ⟨v0_, v1_⟩ := next_ser hng
  obtain ⟨hw8, hit⟩ := good_items hsg
  obtain ⟨n0, n1⟩ := goodPk_num hp
  have hp2 := hp
  unfold goodPk at hp2
  simp only [Bool.and_eq_true] at hp2
  have htr : isSer p.trail = true := hp2.1.1.1.1.2
  have hld : isSer p.lead = true := hp2.1.1.1.2
  have hps : p.data.size ≤ 8 := itm_size hp2.1.1.2
  refine enter Tryz.func211 rfl Tryz.ntmps211 fun w0 => ?_
  refine go ?_; intros
  rename_i g3 g4
  refine c_joinS [2, 3, 4, 6] [0, 1, 4] (fun _ : Unit => []) (fun _ => [.row g t o A [.bool true, .int .i64 r.clock, .int .i64 (startW r p).next, .slice a1 (startW r p).slots.length c1, .slice a2 r.requests.length c2] B, .ow ESlot 213 (.slice a1 (startW r p).slots.length c1) (startW r p).slots F1]) (fun _ => True) ?_ fun _ _ => ?_
  · cases hs : r.started
    · by_cases hk : p.kind = 5
      · have e : startW r p = ⟨p.lead, r.window.slots⟩ := by unfold startW; rw [hs, if_pos hk]; rfl
        have hkd : decide (p.kind = 5) = true := decide_eq_true hk
        rw [e]
        refine go ?_; intros
        refine c_if rfl (fun _ => ?_) (fun h => absurd hk h)
        refine go ?_; intros
        refine n_join () trivial
      · have e : startW r p = ⟨p.number, r.window.slots⟩ := by unfold startW; rw [hs, if_neg hk]; rfl
        rw [e]
        refine go ?_; intros
        refine c_if rfl (fun h => absurd h hk) (fun _ => ?_)
        refine go ?_; intros
        refine n_join () trivial
    · have e : startW r p = r.window := by unfold startW; rw [hs]; rfl
      rw [e]
      refine go ?_; intros
      refine n_join () trivial
  refine go ?_; intros
  refine c_joinS [2, 3, 4, 6] [2, 3, 4] (fun s : SkS => [(7, .slice s.ae (takenE r p).length s.ce)]) (fun s => [.row g t o A [.bool true, .int .i64 r.clock, .int .i64 (takenW r p).next, .slice s.a (takenW r p).slots.length s.c, .slice a2 r.requests.length c2] B, .ow ESlot 213 (.slice s.a (takenW r p).slots.length s.c) (takenW r p).slots s.F, .ow EStr 9 (.slice s.ae (takenE r p).length s.ce) (takenE r p) s.Fe]) (fun _ => True) ?_ fun s _ => ?_
  · by_cases hk : p.kind = 5
    · have e1 : takenW r p = startW r p := by unfold takenW; rw [if_pos hk]
      have e2 : takenE r p = [] := by unfold takenE; rw [if_pos hk]
      refine c_if rfl (fun h => absurd hk h) (fun _ => ?_)
      rw [e1, e2]
      refine t_nilow EStr 9 ?_
      refine go ?_; intros
      refine n_join (⟨a1, c1, F1, none, 0, []⟩ : SkS) trivial
    · have e1 : takenW r p = takeW (startW r p) p.number p.data := by unfold takenW; rw [if_neg hk]
      have e2 : takenE r p = takeE (startW r p) p.number p.data := by unfold takenE; rw [if_neg hk]
      refine c_if rfl (fun _ => ?_) (fun h => absurd hk h)
      rw [e1, e2]
      refine t_rin [.bool true, .int .i64 r.clock] [.int .i64 (startW r p).next, .slice a1 (startW r p).slots.length c1] [.slice a2 r.requests.length c2] ?_
      refine go ?_; intros
      refine d_start [2, 3] [] ?_
      refine dt 0 ?_
      refine dt 1 ?_
      refine dt 2 ?_
      refine dt 3 ?_
      refine dt 4 ?_
      refine dt 5 ?_
      refine dt 6 ?_
      refine dO 7 (by kernel_rfl) (by rw [List.getElem?_toArray]; rfl) ?_
      apply o_call; rfl; kernel_rfl; exact evsE
      refine cf (RWtake_f (startW r p) p.number p.data g t (o + 2) (A ++ [.bool true, .int .i64 r.clock]) _ a1 c1 F1 s0_ s1_ n0 n1 hw8 hit hps) fun y hy => ?_
      refine t_app ?_
      obtain ⟨hy1, hy2⟩ := hy
      refine dk ?_
      refine dt 8 ?_
      refine dt 9 ?_
      refine dt 10 ?_
      refine dt 11 ?_
      refine dd ?_
      refine t_rout [.bool true, .int .i64 r.clock] [.int .i64 y.y.next, .slice y.a y.y.slots.length y.c] [.slice a2 r.requests.length c2] ?_
      rw [← hy1, ← hy2]
      refine go ?_; intros
      refine n_join (⟨_, _, _, _, _, _⟩ : SkS) trivial
  obtain ⟨a3, c3, F3, ae, ce, Fe⟩ := s
  dsimp only
  refine go ?_; intros
  refine cf (Rskip_f (takenW r p) true r.clock p.trail _ g t o A B a3 c3 F3 htg htr) fun y _ => ?_
  refine t_app ?_
  have hsl : (skipE (takenW r p) p.trail).length ≤ 24 := by unfold newsE at hnl; rw [List.length_append] at hnl; omega
  refine t_read (E := EStr) (xs := skipE (takenW r p) p.trail) fun G8 => ?_
  refine go ?_; intros
  apply wO
  refine aps (ys := skipE (takenW r p) p.trail) one_EStr scal_EStr fun a9 c9 F9 => ?_
  rw [show takenE r p ++ skipE (takenW r p) p.trail = newsE r p from rfl, show skipW (takenW r p) p.trail = newsW r p from rfl]
  refine go ?_; intros
  rename_i g11
  refine d_start [3, 6] [9] ?_
  refine dt 0 ?_
  refine dt 1 ?_
  refine dt 2 ?_
  refine dt 3 ?_
  refine dt 4 ?_
  refine dt 5 ?_
  refine dO 6 (by kernel_rfl) (by rw [List.getElem?_toArray]; rfl) ?_
  apply o_call; rfl; kernel_rfl; exact evsE
  refine cfm (M := [.ow ERequest 152 (.slice a2 r.requests.length c2) r.requests F2]) (.cons (by repeat (first | exact .here | apply Pick.there)) .nil) (fun w st => by
      have r1 := st.on (.row g11 3 0 [] [.int .i64 (newsW r p).next] []) (by simp)
      have r2 := st.on (.row g3 199 0 [] [ptr g o 0] []) (by simp)
      have r3 := st.on (.row g t o A [.bool true, .int .i64 r.clock, .int .i64 (newsW r p).next, .slice y.a (newsW r p).slots.length y.c, .slice a2 r.requests.length c2] B) (by simp)
      obtain ⟨Fw, hFw, hw⟩ := (st.on (.ow ESlot 213 (.slice y.a (newsW r p).slots.length y.c) (newsW r p).slots y.F) (by simp)).2.read
      refine ⟨[.cel g11 0 [.int .i64 (newsW r p).next], .cel g3 0 [ptr g o 0], .cel g o [.bool true, .int .i64 r.clock, .int .i64 (newsW r p).next, .slice y.a (newsW r p).slots.length y.c, .slice a2 r.requests.length c2], .isv EReceiveWindow (.agg #[.int .i64 (newsW r p).next, .slice y.a (newsW r p).slots.length y.c]) (newsW r p) Fw], ?_, rfl, ?_, DelReq_f 265 [] [ptr g11 0 0, ptr g3 0 0] _ rfl r.requests a2 c2 F2 (fun q => delB (newsW r p) q) (by kernel_rfl) (by omega) (fun q hq w' hA => (news1_f q (newsW r p) g11 g3 g o true r.clock _ y.a y.c Fw v0_ v1_ (hser q hq)).val w' hA)⟩
      · intro q hq
        simp only [List.mem_cons, List.not_mem_nil, or_false] at hq
        rcases hq with rfl | rfl | rfl | rfl
        · exact ⟨by simp, row_range r1⟩
        · exact ⟨by simp, row_range r2⟩
        · exact ⟨by simp, row_range r3⟩
        · exact ⟨_, rfl, _, rfl, hw⟩
      · intro q hq b hb
        simp only [List.mem_cons, List.not_mem_nil, or_false] at hq
        rcases hq with rfl | rfl | rfl | rfl
        · exact ⟨.row g11 3 0 [] [.int .i64 (newsW r p).next] [], by simp, hb⟩
        · exact ⟨.row g3 199 0 [] [ptr g o 0] [], by simp, hb⟩
        · exact ⟨.row g t o A [.bool true, .int .i64 r.clock, .int .i64 (newsW r p).next, .slice y.a (newsW r p).slots.length y.c, .slice a2 r.requests.length c2] B, by simp, hb⟩
        · exact ⟨.ow ESlot 213 (.slice y.a (newsW r p).slots.length y.c) (newsW r p).slots y.F, by simp, hFw b hb⟩) (fun z _ => ?_)
  rw [need_eq]
  refine dk ?_
  refine dt 7 ?_
  refine dt 8 ?_
  refine dO 9 (by kernel_rfl) (by rw [List.getElem?_toArray]; rfl) ?_
  apply o_st; rfl; rfl; rfl; (first | exact AggC.s | exact OneC.s); rfl; exact rplE; exact putE; rfl
  refine dkx ?_
  refine dd ?_
  refine go ?_; intros
  refine cf (Rawait_f (newsW r p) (needed r.requests (newsW r p)) true r.clock p.lead d g t o A B y.a y.c y.F z.1 z.2.1 z.2.2 hng hnq needed_free hld k0 k1 d0 d1) fun u _ => ?_
  refine t_app ?_
  refine go ?_; intros
  refine ret ⟨_, _, _, _, _, _, _, _, _⟩ trivial rfl
end Go.Proofs.YtgogcgkocjpgoaaGreatDoor
/- Receivers: a tick of the reference. -/
namespace Go.Proofs.YtgogcgkocjpgoaaGreatDoor
open Go.RowKit
structure OwnS where
  g : Nat
  a : Option Addr
  c : Nat
  F : List Nat
set_option maxRecDepth 100000 in
theorem l13Own_f (x : Receiver) (v : Value) (F : List Nat) (hl : x.window.slots.length ≤ 1000000000) (hl2 : x.requests.length ≤ 1000000000) : Fn Tryz.prog 120 [v] [.isv EReceiver v x F] [] (fun (_ : Value × List Nat) => True) (fun s => s.1) (fun s => [.own OReceiver s.1 x s.2]) := by
  refine enter Tryz.func120 rfl Tryz.ntmps120 fun w0 => ?_
  refine openReceiver ?_
  rintro a1 c1 F1 a2 c2 F2 rfl l1 l2
  refine go ?_; intros
  refine c_joinS [1, 2] [0, 1, 2, 3, 4] (fun s : OwnS => [(3, ptr s.g 0 0)]) (fun s => [.row s.g 46 0 [] [.int .i64 x.window.next, .slice s.a x.window.slots.length s.c] [], .ow ESlot 213 (.slice s.a x.window.slots.length s.c) x.window.slots s.F]) (fun _ => True) ?_ fun s _ => ?_
  · skip
    refine d_start [1] [] ?_
    refine dt 0 ?_
    refine dt 1 ?_
    refine dt 2 ?_
    refine dt 4 ?_
    refine dt 5 ?_
    refine dt 6 ?_
    refine dO2 3 9 (by kernel_rfl) (by rw [List.getElem?_toArray]; rfl) (by rw [List.getElem?_toArray]; rfl) ?_ ?_
    · apply o_bs0; rfl; intro _
      refine t_emp ESlot ?_
      refine dk ?_
      refine dO2 7 9 (by kernel_rfl) (by rw [List.getElem?_toArray]; rfl) (by rw [List.getElem?_toArray]; rfl) ?_ ?_
      · refine aps one_ESlot scal_ESlot fun a5 c5 F5 => ?_
        rw [List.nil_append]
        refine dk ?_
        refine dt 8 ?_
        refine dO 9 (by kernel_rfl) (by rw [List.getElem?_toArray]; rfl) ?_
        apply o_alloc; rfl; intro _
        refine dk ?_
        refine dO 10 (by kernel_rfl) (by rw [List.getElem?_toArray]; rfl) ?_
        apply o_st; rfl; rfl; rfl; (first | exact AggC.s | exact OneC.s); rfl; exact rplE; exact putE; rfl
        refine dk ?_
        refine dd ?_
        refine n_join (⟨_, _, _, _⟩ : OwnS) trivial
      · apply o_alloc; rfl; intro _
        refine dk ?_
        refine dO 7 (by kernel_rfl) (by rw [List.getElem?_toArray]; rfl) ?_
        refine aps one_ESlot scal_ESlot fun a5 c5 F5 => ?_
        rw [List.nil_append]
        refine dk ?_
        refine dt 8 ?_
        refine dO 10 (by kernel_rfl) (by rw [List.getElem?_toArray]; rfl) ?_
        apply o_st; rfl; rfl; rfl; (first | exact AggC.s | exact OneC.s); rfl; exact rplE; exact putE; rfl
        refine dk ?_
        refine dd ?_
        refine n_join (⟨_, _, _, _⟩ : OwnS) trivial
    · apply o_alloc; rfl; intro _
      refine dk ?_
      refine dO 3 (by kernel_rfl) (by rw [List.getElem?_toArray]; rfl) ?_
      apply o_bs0; rfl; intro _
      refine t_emp ESlot ?_
      refine dk ?_
      refine dO 7 (by kernel_rfl) (by rw [List.getElem?_toArray]; rfl) ?_
      refine aps one_ESlot scal_ESlot fun a5 c5 F5 => ?_
      rw [List.nil_append]
      refine dk ?_
      refine dt 8 ?_
      refine dO 10 (by kernel_rfl) (by rw [List.getElem?_toArray]; rfl) ?_
      apply o_st; rfl; rfl; rfl; (first | exact AggC.s | exact OneC.s); rfl; exact rplE; exact putE; rfl
      refine dk ?_
      refine dd ?_
      refine n_join (⟨_, _, _, _⟩ : OwnS) trivial
  obtain ⟨g3, a5, c5, F5⟩ := s
  dsimp only
  refine go ?_; intros
  refine d_start [0, 3] [] ?_
  refine dt 0 ?_
  refine dt 1 ?_
  refine dt 2 ?_
  refine dt 3 ?_
  refine dt 4 ?_
  refine dt 6 ?_
  refine dt 7 ?_
  refine dO 5 (by kernel_rfl) (by rw [List.getElem?_toArray]; rfl) ?_
  apply o_bs0; rfl; intro _
  refine t_emp ERequest ?_
  refine dk ?_
  refine dO 8 (by kernel_rfl) (by rw [List.getElem?_toArray]; rfl) ?_
  refine aps one_ERequest scal_ERequest fun a6 c6 F6 => ?_
  rw [List.nil_append]
  refine dk ?_
  refine dt 9 ?_
  refine dO 10 (by kernel_rfl) (by rw [List.getElem?_toArray]; rfl) ?_
  apply o_st; rfl; rfl; rfl; (first | exact AggC.s | exact OneC.s); rfl; exact rplE; exact putE; rfl
  refine dk ?_
  refine dd ?_
  refine go ?_; intros
  refine closeOReceiver x ?_
  refine ret (_, _) trivial rfl
set_option maxRecDepth 100000 in
theorem l13Needed_f (l : List Request) (w : ReceiveWindow) (a : Option Addr) (c : Nat) (F : List Nat) (v : Value) (Fw : List Nat) (hl : l.length ≤ 1000000) (hs : ∀ q ∈ l, isSer q.number = true) (w0_ : 0 ≤ w.next) (w1_ : w.next ≤ 65535) : Fn Tryz.prog 193 [.slice a l.length c, v] [.sl ERequest (.slice a l.length c) l F, .isv EReceiveWindow v w Fw] [] (fun (_ : Option Addr × Nat × List Nat) => True) (fun z => .slice z.1 (needed l w).length z.2.1) (fun z => [.ow ERequest 152 (.slice z.1 (needed l w).length z.2.1) (needed l w) z.2.2]) := by
  refine enter Tryz.func193 rfl Tryz.ntmps193 fun w0 => ?_
  refine openReceiveWindow ?_
  rintro a1 c1 F1 rfl l1
  refine go ?_; intros
  refine t_emp ERequest ?_
  refine c_loopS [0, 3, 4] (fun s : PkS => [(6, .int .i64 (s.k : Nat)), (5, .slice s.a (needed (l.take s.k) w).length s.c)]) (fun s => [.ow ERequest 152 (.slice s.a (needed (l.take s.k) w).length s.c) (needed (l.take s.k) w) s.F]) (fun s => s.k ≤ l.length) (fun s => l.length - s.k) ⟨0, _, _, _⟩ (Nat.zero_le _) fun s hk => ?_
  obtain ⟨k, a4, c4, F4⟩ := s
  dsimp only at hk ⊢
  refine go ?_; intros
  refine c_if rfl (fun h4 => ?_) (fun h4 => ?_)
  · have hk : k < l.length := by omega
    have hkl : (needed (l.take k) w).length ≤ k := Nat.le_trans (List.length_filter_le _ _) (by rw [List.length_take]; omega)
    have hsk := hs _ (List.getElem_mem hk)
    obtain ⟨n0, n1⟩ := isSer_iff.1 hsk
    have en : ∀ b, (!(bef l[k].number w.next || hasB w l[k].number) && decide (gp w.next l[k].number < 8)) = b → needed (l.take (k + 1)) w = needed (l.take k) w ++ if b then [l[k]] else [] := fun b hb => by
      unfold needed
      rw [List.take_add_one, List.getElem?_eq_getElem hk, List.filter_append]
      congr 1
      show ([l[k]].filter _) = _
      rw [List.filter_cons, List.filter_nil, hb]
    refine atRequest (xs := l) k ?_
    rintro hi b o e
    rw [e]
    refine go ?_; intros
    cases g5 : (bef l[k].number w.next || hasB w l[k].number)
    · skip
      refine d_start [0, 2] [] ?_
      refine dt 0 ?_
      refine dt 1 ?_
      refine dt 2 ?_
      refine dt 3 ?_
      refine dt 4 ?_
      refine dt 5 ?_
      refine dO 6 (by kernel_rfl) (by rw [List.getElem?_toArray]; rfl) ?_
      apply o_call; rfl; kernel_rfl; exact evsE
      refine cf (l10Have_f w l[k].number _ Fw w0_ w1_ n0 n1) fun _ _ => ?_
      refine t_app ?_
      rw [show takeNo w l[k].number = (bef l[k].number w.next || hasB w l[k].number) from rfl, g5]
      refine dk ?_
      refine dt 7 ?_
      refine dt 8 ?_
      refine dtg 9 ?_
      refine dtg 10 ?_
      refine dtg 11 ?_
      refine dtg 12 ?_
      refine dtg 13 ?_
      refine dtg 14 ?_
      refine dtg 15 ?_
      refine d1g 16 ?_
      apply On.h
      apply o_call; rfl; kernel_rfl; exact evsE
      refine ce (fun w s => l2Gap_c _ _ _ (by omega) (by omega)) ?_
      refine dk ?_
      refine dtg 17 ?_
      refine dt 18 ?_
      refine dd ?_
      refine go ?_; intros
      refine c_if rfl (fun h6 => ?_) (fun h6 => ?_)
      · have e1 := en true (by rw [g5, decide_eq_true h6]; rfl)
        refine go ?_; intros
        apply wO
        refine ap1 (ys := [l[k]]) (flatRequest l[k]) one_ERequest fun a7 c7 F7 => ?_
        refine go ?_; intros
        rw [show needed (l.take k) w ++ [l[k]] = needed (l.take (k + 1)) w from e1.symm]
        refine n_lp (⟨k + 1, _, _, _⟩ : PkS) (by show k + 1 ≤ l.length; omega) (by show l.length - (k + 1) < l.length - k; omega)
      · have e1 := en false (by rw [g5, decide_eq_false h6]; rfl)
        refine go ?_; intros
        rw [show needed (l.take k) w = needed (l.take (k + 1)) w by rw [e1]; simp]
        refine n_lp (⟨k + 1, _, _, _⟩ : PkS) (by show k + 1 ≤ l.length; omega) (by show l.length - (k + 1) < l.length - k; omega)
    · skip
      refine d_start [0, 2] [] ?_
      refine dt 0 ?_
      refine dt 1 ?_
      refine dt 2 ?_
      refine dt 3 ?_
      refine dt 4 ?_
      refine dt 5 ?_
      refine dO 6 (by kernel_rfl) (by rw [List.getElem?_toArray]; rfl) ?_
      apply o_call; rfl; kernel_rfl; exact evsE
      refine cf (l10Have_f w l[k].number _ Fw w0_ w1_ n0 n1) fun _ _ => ?_
      refine t_app ?_
      rw [show takeNo w l[k].number = (bef l[k].number w.next || hasB w l[k].number) from rfl, g5]
      refine dk ?_
      refine dt 7 ?_
      refine dt 8 ?_
      refine ds 9 ?_
      refine ds 10 ?_
      refine ds 11 ?_
      refine ds 12 ?_
      refine ds 13 ?_
      refine ds 14 ?_
      refine ds 15 ?_
      refine ds 16 ?_
      refine ds 17 ?_
      refine dt 18 ?_
      refine dd ?_
      have e1 := en false (by rw [g5]; rfl)
      refine go ?_; intros
      rw [show needed (l.take k) w = needed (l.take (k + 1)) w by rw [e1]; simp]
      refine n_lp (⟨k + 1, _, _, _⟩ : PkS) (by show k + 1 ≤ l.length; omega) (by show l.length - (k + 1) < l.length - k; omega)
  have hk : k = l.length := by omega
  subst hk
  rw [List.take_length]
  refine go ?_; intros
  refine ret (_, _, _) trivial rfl
end Go.Proofs.YtgogcgkocjpgoaaGreatDoor
/- Receivers: TickReceiver, the program's and the reference's. -/
namespace Go.Proofs.YtgogcgkocjpgoaaGreatDoor
open Go.RowKit
structure GvS where
  g : Nat
  y : RelS
end Go.Proofs.YtgogcgkocjpgoaaGreatDoor
/- '[]byte' of a string, a byte stored, and back. -/
namespace Go.Proofs.YtgogcgkocjpgoaaGreatDoor
open Go.RowKit
/-- a byte aS data -/
def EByte : Elem Int where
  sz := 1
  rep _ cs z F := cs = [.int .u8 z] ∧ 0 ≤ z ∧ z ≤ 255 ∧ F = []
  len h := by simp [h.1]
  lt h := by simp [h.2.2.2]
  frame h _ := h
/-- the bytes of l lie in block g -/
def ByteRow (w : World) (g : Nat) (l : List UInt8) : Prop :=
  g < w.heap.size ∧ ∀ j (hj : j < l.length), w.cell? ⟨g, j, none⟩ = some (.int .u8 (l[j].toNat : Int)) ∧ w.frozen? ⟨g, j, none⟩ = false
theorem ByteRow.below {w w' g l} (h : ByteRow w g l) (hb : Below w.heap.size w w') : ByteRow w' g l :=
  ⟨Nat.lt_of_lt_of_le h.1 hb.size, fun j hj => ⟨(hb.cell (p := ⟨g, j, none⟩) h.1).trans (h.2 j hj).1, (hb.frozen (p := ⟨g, j, none⟩) h.1).trans (h.2 j hj).2⟩⟩
theorem ByteRow.set {w g l} (h : ByteRow w g l) (k : Nat) (b : UInt8) (hk : k < l.length) : ByteRow (w.setCell ⟨g, k, none⟩ (.int .u8 (b.toNat : Int))) g (l.set k b) := by
  refine ⟨by simp [h.1], fun j hj => ?_⟩
  rw [List.length_set] at hj
  refine ⟨?_, ?_⟩
  · by_cases e : k = j
    · subst e
      rw [World.cell?_setCell_same _ _ _ (h.2 k hk).1]
      simp
    · rw [World.cell?_setCell_other _ _ _ _ (by intro q; cases q; exact e rfl), (h.2 j hj).1]
      simp [List.getElem_set, e]
  · rw [World.frozen?_setCell]; exact (h.2 j hj).2
end Go.Proofs.YtgogcgkocjpgoaaGreatDoor
/- Walks: the reference's draws: a cursor over bytes. -/
namespace Go.Proofs.YtgogcgkocjpgoaaGreatDoor
open Go.RowKit
section
variable {P : Program} {ops : Array Oper} {Q : Exit → Act → World → Prop} {md : Region.Mode} {S : World → Prop} {X : Nat → Bool}
/-- an operation that looks at no cell may be taken first, whatever has been stored -/
theorem AnyX.firstP {i : Nat} {oi : Oper} {v : Value} (hi : ops[i]? = some oi) (hsel : ∀ (j : Nat) (o : Oper) cs b, ops[j]? = some o → o.op ≠ .select cs b)
    (hQ : ∀ c a w, Q (.panic c) (a.put oi.dst v) w → Q (.panic c) a w) (hXi : X i = true) :
    ∀ (f : Nat) (listed : Array Bool) (a : Act) (w : World),
      (∀ j oj, ops[j]? = some oj → j ≠ i → listed.getD j true = false → (∀ e ∈ oj.after, Region.binds md e = true → e.on ≠ i) → oi.apart ops oj = true) →
      i ∈ Region.ready md ops listed → YieldsIf P ops (fun _ => True) oi v a → AnyX P md ops Q S X f (listed.setIfInBounds i true) (a.put oi.dst v) w → AnyX P md ops Q S X (f + 1) listed a w := by
  intro f
  induction f with
  | zero =>
    intro listed a w _ hr hy H
    refine ⟨fun h => (by rw [h] at hr; cases hr), fun j hj => ?_⟩
    by_cases hji : j = i
    · subst hji; exact hy.wpOp hi trivial ⟨(fun h => by rw [hXi] at h; cases h), H⟩
    · have := ready_mono hj hji
      rw [H.1] at this; cases this
  | succ f ih =>
    intro listed a w hfree hr hy H
    refine ⟨fun h => (by rw [h] at hr; cases hr), fun j hj => ?_⟩
    by_cases hji : j = i
    · subst hji; exact hy.wpOp hi trivial ⟨(fun h => by rw [hXi] at h; cases h), H⟩
    · obtain ⟨hju, oj, hoj, hall⟩ := mem_ready.1 hj
      have hiu := unlisted (mem_ready.1 hr).1
      have hnot : ∀ e ∈ oj.after, Region.binds md e = true → e.on ≠ i := fun e he hb heq => by
        have h1 := hall e he hb
        rw [heq, hiu] at h1; cases h1
      have h2 := wpOp_putIf hoj (hfree j oj hoj hji hju hnot) (fun cs b => hsel i oi cs b hi) (fun cs b => hsel j oj cs b hoj) hQ hy (H.2 j (ready_mono hj hji))
      refine wpOp_mono (fun a' w' h3 => ⟨h3.2.1, ih (listed.setIfInBounds j true) a' w' (fun k ok hk hki hun hno => hfree k ok hk hki ?_ hno) (ready_mono hr (Ne.symm hji)) h3.1 ?_⟩) h2
      · by_cases hjk : j = k
        · subst hjk; exact hju
        · rw [getD_set_ne true hjk] at hun; exact hun
      · rw [Array.setIfInBounds_comm _ _ hji]; exact h3.2.2
theorem AnyX.takeP {i : Nat} {oi : Oper} {v : Value} {f : Nat} {listed : Array Bool} {a : Act} {w : World} (hi : ops[i]? = some oi)
    (hs : Region.noSelect ops = true) (hf : Region.free md ops listed i = true) (hr : (Region.ready md ops listed).contains i = true) (hXi : X i = true)
    (hQ : ∀ c a w, Q (.panic c) (a.put oi.dst v) w → Q (.panic c) a w) (hy : YieldsIf P ops (fun _ => True) oi v a)
    (h : AnyX P md ops Q S X f (listed.setIfInBounds i true) (a.put oi.dst v) w) : AnyX P md ops Q S X (f + 1) listed a w :=
  AnyX.firstP hi (Region.noSelect_spec hs) hQ hXi f listed a w (Region.free_spec hi hf) (by simpa using hr) hy h
end
/-- the bytes that a cursor reads -/
structure CuF where
  code : List Int
  a : Option Addr
  c : Nat
  bs : List Nat
/-- the cursor lies in block g; its bytes in F, below it; it has moved at most B steps -/
def Cur (B : Nat) (w : World) (g : Nat) (F : CuF) : Prop :=
  ∃ (k : Nat) (seed : Int), Row w g 123 [.slice F.a F.code.length F.c, .int .i64 k, .int .u64 seed] ∧ Sl EByte w (.slice F.a F.code.length F.c) F.code F.bs ∧ g ∉ F.bs ∧ k ≤ B ∧ 0 ≤ seed ∧ seed < 18446744073709551616
theorem Cur.below {B w w' g F} (h : Cur B w g F) (hb : Below w.heap.size w w') : Cur B w' g F := by
  obtain ⟨k, seed, R, S, hF, h3⟩ := h
  exact ⟨k, seed, R.below hb, S.below (by decide) hb, hF, h3⟩
theorem Cur.mono {B B' w g F} (h : Cur B w g F) (hb : B ≤ B') : Cur B' w g F := by
  obtain ⟨k, seed, R, S, hF, h3, h4⟩ := h
  exact ⟨k, seed, R, S, hF, by omega, h4⟩
theorem Cur.lt {B w g F} (h : Cur B w g F) : g < w.heap.size := by
  obtain ⟨k, seed, R, _⟩ := h; exact R.lt
end Go.Proofs.YtgogcgkocjpgoaaGreatDoor
/- Regions that draw: pure operations that may stand behind a store. -/
namespace Go.Proofs.YtgogcgkocjpgoaaGreatDoor
open Go.RowKit
section
variable {c : Cx} {fr : Fr} {H H0 : List Pc} {k : List It} {X : List Nat} {ops : Array Oper} {f : Nat} {listed : Array Bool} {d : Nat} {o : Op} {ty : TypeId} {pos : String} {aft : Array Edge} {v : Value}
theorem dtp (i : Nat) (h : T c ((d, v) :: fr) H (.dx k H0 X ops f (listed.setIfInBounds i true))) (ho : ops[i]? = some ⟨some d, o, ty, pos, aft, none⟩ := by rw [List.getElem?_toArray]; rfl) (hy : Yd c.P c.n fr [] o ty v := by exact ydE) (hX : X.contains i = true := by rfl)
    (h1 : Region.noSelect ops = true := by kernel_rfl) (h2 : Region.free .any ops listed i = true := by kernel_rfl) (h3 : (Region.ready .any ops listed).contains i = true := by kernel_rfl) (hR : PanOk c := by exact panOk) (hd : Nat.blt d c.n = true := by rfl) :
    T c fr H (.dx k H0 X ops (f + 1) listed) := .mk fun a w s g =>
  AnyX.takeP (v := v) ho h1 h2 h3 hX (fun ch a w hp => by rw [run_panic] at hp ⊢; exact hR _ _ _ _ _ hp) (.inl ⟨rfl, fun w' _ => hy.h a w' _ _ _ _ g (by intro p hp; simp at hp)⟩) (h.h _ _ s (g.put hd))
/-- ways that meet behind a region and the test that follows it -/
theorem c_join2 {c : Cx} {fr : Fr} {H : List Pc} {k : List It} {x y : Code} {σ : Type} {cst : Fr} {rest : List Pc} (ks rs : List Nat) (upd : σ → Fr) (chg : σ → List Pc) (C : σ → Prop) (h : T c fr H (.code (.cd y :: .lp (Jn c (fun s => upd s ++ cst) (fun s => chg s ++ rest) C) :: k) x)) (h2 : ∀ s, C s → T c (upd s ++ cst) (chg s ++ rest) (.norm k))
    (_hk : Kf fr ks cst := by repeat (first | exact Kf.nil | apply Kf.cons (by rfl))) (_hr : Sel H rs rest := by repeat constructor) : T c fr H (.code (.cd y :: k) x) := .mk fun a w s g => by
  refine wp_mono (h.h a w s g) fun e a1 w1 he => ?_
  cases e with
  | normal =>
    refine wp_mono he fun e a2 w2 he => ?_
    cases e with
    | normal => obtain ⟨s, hC, hs, hg⟩ := he; exact (h2 s hC).h a2 w2 hs hg
    | _ => exact he
  | _ => exact he
end
end Go.Proofs.YtgogcgkocjpgoaaGreatDoor
/- Quiet operations of a drawn region that an effect does not wait for: those that are listed already need not wait. -/
namespace Go.Proofs.YtgogcgkocjpgoaaGreatDoor
open Go.RowKit
def waitsAllL (md : Region.Mode) (ops : Array Oper) (X : Nat → Bool) (listed : Array Bool) (i : Nat) : Bool := (List.range ops.size).all fun j => !X j || listed.getD j false || waitsFor' md ops i ops.size j
section
variable {P : Program} {md : Region.Mode} {ops : Array Oper} {Q : Exit → Act → World → Prop} {S : World → Prop} {X : Nat → Bool}
theorem AnyX.firstL {i : Nat} {oi : Oper} {v : Value} (hi : ops[i]? = some oi) (hsel : ∀ (j : Nat) (o : Oper) cs b, ops[j]? = some o → o.op ≠ .select cs b)
    (hQ : ∀ c a w, Q (.panic c) (a.put oi.dst v) w → Q (.panic c) a w) :
    ∀ (f : Nat) (listed : Array Bool) (a : Act) (w : World), (∀ j, j < ops.size → X j = true → listed.getD j false = false → waitsFor' md ops i ops.size j = true) →
      (∀ j oj, ops[j]? = some oj → j ≠ i → listed.getD j true = false → (∀ e ∈ oj.after, Region.binds md e = true → e.on ≠ i) → oi.apart ops oj = true) →
      Closed md ops listed → i ∈ Region.ready md ops listed → YieldsIf P ops S oi v a → S w → AnyX P md ops Q S X f (listed.setIfInBounds i true) (a.put oi.dst v) w → AnyX P md ops Q S X (f + 1) listed a w := by
  intro f
  induction f with
  | zero =>
    intro listed a w _ _ _ hr hy hS H
    refine ⟨fun h => (by rw [h] at hr; cases hr), fun j hj => ?_⟩
    by_cases hji : j = i
    · subst hji; exact hy.wpOp hi hS ⟨fun _ => hS, H⟩
    · have := ready_mono hj hji
      rw [H.1] at this; cases this
  | succ f ih =>
    intro listed a w hX hfree hcl hr hy hS H
    refine ⟨fun h => (by rw [h] at hr; cases hr), fun j hj => ?_⟩
    by_cases hji : j = i
    · subst hji; exact hy.wpOp hi hS ⟨fun _ => hS, H⟩
    · obtain ⟨hju, oj, hoj, hall⟩ := mem_ready.1 hj
      have hiu := unlisted (mem_ready.1 hr).1
      have hnot : ∀ e ∈ oj.after, Region.binds md e = true → e.on ≠ i := fun e he hb heq => by
        have h1 := hall e he hb
        rw [heq, hiu] at h1; cases h1
      have hXj : X j = false := by
        cases hx : X j
        · rfl
        · have h2 := waits_listed hcl ops.size j (fun o ho => by obtain rfl := Option.some.inj (ho.symm.trans hoj); exact hall) (hX j (Array.getElem?_eq_some_iff.1 hoj).1 hx (unlisted hju))
          rw [hiu] at h2; cases h2
      have h2 := wpOp_putIf hoj (hfree j oj hoj hji hju hnot) (fun cs b => hsel i oi cs b hi) (fun cs b => hsel j oj cs b hoj) hQ hy (H.2 j (ready_mono hj hji))
      refine wpOp_mono (fun a' w' h3 => ⟨fun _ => h3.2.1 hXj, ih (listed.setIfInBounds j true) a' w' (fun k hk hx hun => hX k hk hx ?_) (fun k ok hk hki hun hno => hfree k ok hk hki ?_ hno) (hcl.set hj) (ready_mono hr (Ne.symm hji)) h3.1 (h3.2.1 hXj) ?_⟩) h2
      · by_cases hjk : j = k
        · subst hjk; exact unlisted hju
        · rw [getD_set_ne false hjk] at hun; exact hun
      · by_cases hjk : j = k
        · subst hjk; exact hju
        · rw [getD_set_ne true hjk] at hun; exact hun
      · rw [Array.setIfInBounds_comm _ _ hji]; exact h3.2.2
end
section
variable {c : Cx} {fr : Fr} {H H0 : List Pc} {k : List It} {X : List Nat} {ops : Array Oper} {f : Nat} {listed : Array Bool} {d : Nat} {o : Op} {ty : TypeId} {pos : String} {aft : Array Edge} {v : Value}
theorem dtl (i : Nat) (h : T c ((d, v) :: fr) H (.dx k H0 X ops f (listed.setIfInBounds i true))) (ho : ops[i]? = some ⟨some d, o, ty, pos, aft, none⟩ := by rw [List.getElem?_toArray]; rfl) (hy : Yd c.P c.n fr H0 o ty v := by exact ydE) (hs : Mems H0 H := by repeat (first | exact Mems.nil | refine Mems.cons (by (repeat (first | exact .head _ | apply List.Mem.tail)); first | done | fail) ?_))
    (h1 : Region.noSelect ops = true := by kernel_rfl) (h2 : Region.free .any ops listed i = true := by kernel_rfl) (h3 : (Region.ready .any ops listed).contains i = true := by kernel_rfl) (h4 : waitsAllL .any ops (fun i => X.contains i) listed i = true := by kernel_rfl) (h5 : closedB .any ops listed = true := by kernel_rfl) (hR : PanOk c := by exact panOk) (hd : Nat.blt d c.n = true := by rfl) :
    T c fr H (.dx k H0 X ops (f + 1) listed) := .mk fun a w s g =>
  AnyX.firstL ho (Region.noSelect_spec h1) (fun ch a w hp => by rw [run_panic] at hp ⊢; exact hR _ _ _ _ _ hp) f listed a w (fun j hj hx hl => by
      have := List.all_eq_true.1 h4 j (List.mem_range.2 hj)
      dsimp only at this
      rw [hx, hl] at this
      simpa using this) (Region.free_spec ho h2) (closed_of h5) (by simpa using h3) (.inl ⟨rfl, fun w' hw' => hy.h a w' _ _ _ _ g hw'⟩) (fun p hp => s.on p (hs.all p hp)) (h.h _ _ s (g.put hd))
end
end Go.Proofs.YtgogcgkocjpgoaaGreatDoor
/- Hearing: HearAll and HearPacket of the program. -/
namespace Go.Proofs.YtgogcgkocjpgoaaGreatDoor
open Go.RowKit
set_option maxRecDepth 100000 in
theorem IdxPk_f (fid : FuncId) (bd caps : List Value) (A : List Pc) (hA : A.all (fun p => !p.mu) = true) (xs : List Packet) (a : Option Addr) (c : Nat) (F : List Nat) (p : Packet → Bool) (hb : bodyB Tryz.prog fid = true) (hl : xs.length ≤ 1000000000)
    (hp : ∀ x ∈ xs, ∀ w, Hol A w → Calls Tryz.prog fid (bd ++ [(.agg #[.int .i64 (x).kind, .int .i64 (x).number, .int .i64 (x).trail, .int .i64 (x).lead, .string (x).data] : Value)] ++ caps).toArray w fun e w' => e = .returned (.bool (p x)) ∧ Below w.heap.size w w') :
    Fn Tryz.prog 209 [.slice a xs.length c, .func (.func fid) bd.toArray caps.toArray] (.sl EPacket (.slice a xs.length c) xs F :: A) [] (fun (_ : Unit) => True) (fun _ => .int .i64 (fidx p xs)) (fun _ => []) := by
  refine enter Tryz.func209 rfl Tryz.ntmps209 (fun w0 => ?_) rfl (by simpa [Pc.mu] using hA) .nil
  refine go ?_; intros
  refine c_loopR [0, 1, 4, 7] (fun k : Nat => [(8, .int .i64 (k : Nat))]) (fun k => k ≤ xs.length ∧ ∀ j (_ : j < k) (hj : j < xs.length), p xs[j] = false) (fun k => xs.length - k) 0 ⟨Nat.zero_le _, fun j h => by omega⟩ fun k hk => ?_
  obtain ⟨hk1, hk2⟩ := hk
  refine go ?_; intros
  refine c_if rfl (fun h5 => ?_) (fun h5 => ?_)
  · have hh : k < xs.length := by omega
    refine go ?_; intros
    refine atPacket (xs := xs) k ?_
    rintro hi b o e sz
    rw [e]
    refine go ?_; intros
    apply wO
    refine o_callb rfl rfl hb evsE ?_
    refine cb (fun w st => hp xs[k] (List.getElem_mem hh) w (fun q hq => st.on q (by simp [hq]))) ?_
    cases hpk : p xs[k]
    · refine go ?_; intros
      refine t_drop ?_
      refine n_lp (hH := hsub_refl _) (k + 1) ⟨hh, fun j hj h => ?_⟩ (by omega)
      rcases Nat.lt_or_eq_of_le (Nat.lt_succ_iff.1 hj) with h2 | rfl
      · exact hk2 j h2 h
      · exact hpk
    · refine go ?_; intros
      refine ret () trivial ?_
      rw [fidx_hit hh hk2 hpk]; rfl
  · obtain rfl : k = xs.length := by omega
    refine go ?_; intros
    refine ret () trivial ?_
    rw [fidx_none (fun j hj => hk2 j hj hj)]; rfl

theorem ConPk_f (fid : FuncId) (bd caps : List Value) (A : List Pc) (hA : A.all (fun p => !p.mu) = true) (xs : List Packet) (a : Option Addr) (c : Nat) (F : List Nat) (p : Packet → Bool) (hb : bodyB Tryz.prog fid = true) (hl : xs.length ≤ 1000000000)
    (hp : ∀ x ∈ xs, ∀ w, Hol A w → Calls Tryz.prog fid (bd ++ [(.agg #[.int .i64 (x).kind, .int .i64 (x).number, .int .i64 (x).trail, .int .i64 (x).lead, .string (x).data] : Value)] ++ caps).toArray w fun e w' => e = .returned (.bool (p x)) ∧ Below w.heap.size w w') :
    Fn Tryz.prog 121 [.slice a xs.length c, .func (.func fid) bd.toArray caps.toArray] (.sl EPacket (.slice a xs.length c) xs F :: A) [] (fun (_ : Unit) => True) (fun _ => .bool (xs.any p)) (fun _ => []) := by
  refine enter Tryz.func121 rfl Tryz.ntmps121 (fun w0 => ?_) rfl (by simpa [Pc.mu] using hA) .nil
  refine go ?_; intros
  refine cb (fun w st => (IdxPk_f fid bd caps A hA xs a c F p hb hl hp).val w (fun q hq => st.on q (by simpa using hq)) (by simpa [Pc.mu] using hA)) ?_
  refine go ?_; intros
  refine ret () trivial ?_
  rw [fidx_any]; rfl

set_option maxRecDepth 100000 in
set_option maxHeartbeats 800000 in
theorem Rhear_f (r : Receiver) (p : Packet) (d : Int) (g t o : Nat) (A B : List Value) (a1 : Option Addr) (c1 : Nat) (F1 : List Nat) (a2 : Option Addr) (c2 : Nat) (F2 : List Nat) (hg : GoodR r) (hp : goodPk p = true) (d0 : 1 ≤ d) (d1 : d ≤ 8) :
    Fn Tryz.prog 124 [ptr g o 0, .agg #[.int .i64 p.kind, .int .i64 p.number, .int .i64 p.trail, .int .i64 p.lead, .string p.data], .int .i64 d] [] [.row g t o A [.bool r.started, .int .i64 r.clock, .int .i64 (r.window).next, .slice a1 (r.window).slots.length c1, .slice a2 (r.requests).length c2] B, .ow ESlot 213 (.slice a1 (r.window).slots.length c1) (r.window).slots F1, .ow ERequest 152 (.slice a2 (r.requests).length c2) (r.requests) F2] (fun (_ : NwS) => True)
      (fun s => .slice s.ae (hearE r p).length s.ce) (fun s => [.row g t o A [.bool (hearR r p d).started, .int .i64 (hearR r p d).clock, .int .i64 ((hearR r p d).window).next, .slice s.a1 ((hearR r p d).window).slots.length s.c1, .slice s.a2 ((hearR r p d).requests).length s.c2] B, .ow ESlot 213 (.slice s.a1 ((hearR r p d).window).slots.length s.c1) ((hearR r p d).window).slots s.F1, .ow ERequest 152 (.slice s.a2 ((hearR r p d).requests).length s.c2) ((hearR r p d).requests) s.F2, .ow EStr 9 (.slice s.ae (hearE r p).length s.ce) (hearE r p) s.Fe]) := by
  have k0 := hg.k0
  have k1 := hg.k1
  obtain ⟨-, q1, q2, -⟩ := areQ_iff.1 hg.q
  obtain ⟨n0, n1⟩ := goodPk_num hp
  refine enter Tryz.func124 rfl Tryz.ntmps124 fun w0 => ?_
  refine go ?_; intros
  by_cases hk1 : p.kind = 1
  · rw [decide_eq_true hk1]
    rw [show hearR r p d = newsR r p d by unfold hearR isNews; simp [hk1], show hearE r p = newsE r p by unfold hearE isNews; simp [hk1]]
    refine go ?_; intros
    refine cf (Rnews_f r p d g t o A B a1 c1 F1 a2 c2 F2 hg hp d0 d1) fun s _ => ?_
    refine t_app ?_
    refine go ?_; intros
    refine ret ⟨s.a1, s.c1, s.F1, s.a2, s.c2, s.F2, s.ae, s.ce, s.Fe⟩ trivial rfl
  rw [decide_eq_false hk1]
  refine go ?_; intros
  by_cases hk2 : p.kind = 2
  · rw [decide_eq_true hk2]
    rw [show hearR r p d = newsR r p d by unfold hearR isNews; simp [hk2], show hearE r p = newsE r p by unfold hearE isNews; simp [hk2]]
    refine go ?_; intros
    refine cf (Rnews_f r p d g t o A B a1 c1 F1 a2 c2 F2 hg hp d0 d1) fun s _ => ?_
    refine t_app ?_
    refine go ?_; intros
    refine ret ⟨s.a1, s.c1, s.F1, s.a2, s.c2, s.F2, s.ae, s.ce, s.Fe⟩ trivial rfl
  rw [decide_eq_false hk2]
  refine go ?_; intros
  by_cases hk5 : p.kind = 5
  · rw [decide_eq_true hk5]
    rw [show hearR r p d = newsR r p d by unfold hearR isNews; simp [hk5], show hearE r p = newsE r p by unfold hearE isNews; simp [hk5]]
    refine go ?_; intros
    refine cf (Rnews_f r p d g t o A B a1 c1 F1 a2 c2 F2 hg hp d0 d1) fun s _ => ?_
    refine t_app ?_
    refine go ?_; intros
    refine ret ⟨s.a1, s.c1, s.F1, s.a2, s.c2, s.F2, s.ae, s.ce, s.Fe⟩ trivial rfl
  rw [decide_eq_false hk5]
  refine go ?_; intros
  refine t_nilow EStr 9 ?_
  have eE : hearE r p = [] := by unfold hearE isNews; simp [hk1, hk2, hk5]
  by_cases hk4 : p.kind = 4
  · rw [decide_eq_true hk4]
    cases hs : r.started
    · rw [show hearR r p d = r by unfold hearR isNews; simp [hk1, hk2, hk5, hs], eE, hs]
      refine go ?_; intros
      refine ret ⟨_, _, _, _, _, _, none, 0, _⟩ trivial rfl
    · rw [show hearR r p d = confR r p by unfold hearR isNews; simp [hk4, hs], eE, show (confR r p).started = true from hs]
      refine go ?_; intros
      refine d_start [0, 1, 2] [0, 18, 19, 20, 21, 22] ?_
      refine dtp 0 ?_
      refine dtl 1 ?_
      refine dtl 2 ?_
      refine dtl 3 ?_
      refine dtl 4 ?_
      refine dtl 5 ?_
      refine dtl 6 ?_
      refine dtl 7 ?_
      refine dtl 8 ?_
      refine dtl 9 ?_
      refine dtl 10 ?_
      refine dtl 11 ?_
      refine dtl 12 ?_
      refine dtl 13 ?_
      refine dtl 14 ?_
      refine dtl 15 ?_
      refine dO 16 (by kernel_rfl) (by rw [List.getElem?_toArray]; rfl) ?_
      apply o_call; rfl; kernel_rfl; exact evsE
      refine cfr (fun w st => by obtain ⟨Fq, -, hq9⟩ := (st.get (p := .ow ERequest 152 (.slice a2 r.requests.length c2) r.requests F2) (by simp)).2.read; exact ⟨[.sl ERequest (.slice a2 r.requests.length c2) r.requests Fq], hol1 ⟨by decide, hq9⟩, rfl, ConfirmRequest_f r.requests r.window.next p.number r.clock a2 c2 Fq hg.q (isSer_iff.2 ⟨n0, n1⟩) k0 k1⟩) (fun u _ => ?_)
      refine dk ?_
      refine dtl 17 ?_
      refine dtp 18 ?_
      refine dtp 19 ?_
      refine dtp 20 ?_
      refine dtp 21 ?_
      refine dO 22 (by kernel_rfl) (by rw [List.getElem?_toArray]; rfl) ?_
      apply o_st; rfl; rfl; rfl; (first | exact AggC.s | exact OneC.s); rfl; exact rplE; exact putE; rfl
      refine dkx ?_
      refine dd ?_
      refine go ?_; intros
      refine ret ⟨_, _, _, _, _, _, none, 0, _⟩ trivial rfl
  rw [decide_eq_false hk4]
  rw [show hearR r p d = r by unfold hearR isNews; simp [hk1, hk2, hk5, hk4], eE]
  refine go ?_; intros
  refine ret ⟨_, _, _, _, _, _, none, 0, _⟩ trivial rfl

structure HaS where
  k : Nat
  a1 : Option Addr
  c1 : Nat
  F1 : List Nat
  a2 : Option Addr
  c2 : Nat
  F2 : List Nat
  ae : Option Addr
  ce : Nat
  Fe : List Nat
theorem ha1_f (p : Packet) (hs : p.data.size ≤ maxLen) : Fn Tryz.prog 122 [.agg #[.int .i64 p.kind, .int .i64 p.number, .int .i64 p.trail, .int .i64 p.lead, .string p.data]] [] [] (fun (_ : Unit) => True) (fun _ => .bool (!goodPk p)) (fun _ => []) := by
  refine enter Tryz.func122 rfl Tryz.ntmps122 fun w0 => ?_
  refine go ?_; intros
  refine cf (IsValidPacket_f p hs) fun _ _ => ?_
  refine t_app ?_
  refine go ?_; intros
  refine ret () trivial rfl
set_option maxRecDepth 100000 in
set_option maxHeartbeats 1000000 in
theorem HearAll_f (x : Receiver) (l : List Packet) (d : Int) (v : Value) (F : List Nat) (al : Option Addr) (cl : Nat) (Fl : List Nat) :
    Fn Tryz.prog 44 [v, .slice al l.length cl, .int .i64 d] [.isv EReceiver v x F, .sl EPacket (.slice al l.length cl) l Fl] [] (fun (_ : NwS) => True) (fun s => .tuple #[.agg #[.bool ((resHearAll x l d).1).started, .int .i64 ((resHearAll x l d).1).clock, .int .i64 ((resHearAll x l d).1).window.next, .slice s.a1 ((resHearAll x l d).1).window.slots.length s.c1, .slice s.a2 ((resHearAll x l d).1).requests.length s.c2], .slice s.ae (resHearAll x l d).2.1.length s.ce, .bool (resHearAll x l d).2.2])
      (fun s => [.own OReceiver (.agg #[.bool ((resHearAll x l d).1).started, .int .i64 ((resHearAll x l d).1).clock, .int .i64 ((resHearAll x l d).1).window.next, .slice s.a1 ((resHearAll x l d).1).window.slots.length s.c1, .slice s.a2 ((resHearAll x l d).1).requests.length s.c2]) (resHearAll x l d).1 s.F1, .ow EStr 9 (.slice s.ae (resHearAll x l d).2.1.length s.ce) (resHearAll x l d).2.1 s.Fe]) := by
  refine enter Tryz.func44 rfl Tryz.ntmps44 fun w0 => ?_
  refine t_each (E := EPacket) (xs := l) (fun p => p.data.size ≤ maxLen) (fun w cs x F h => h.2.1) fun hsz => ?_
  refine t_nilow EStr 9 ?_
  refine t_nilow ESlot 213 ?_
  refine t_nilow ERequest 152 ?_
  refine closeOReceiver zRec ?_
  refine openReceiver (v := v) (x := x) (F := F) ?_
  rintro a1 c1 F1 a2 c2 F2 rfl l1 l2
  unfold maxLen at l1 l2
  refine t_sl (E := EPacket) (xs := l) ?_
  rintro _ _ e8 cl0 cl1
  cases e8
  refine go ?_; intros
  refine cf (IsValidReceiver_f x _ F) fun _ _ => ?_
  refine t_app ?_
  cases g1 : goodRec x
  · skip
    refine go ?_; intros
    rw [resHA_no (by unfold okHearAll; simp [g1])]
    refine ret ⟨_, _, _, _, _, [], _, _, _⟩ trivial rfl
  have g5 := goodR_iff.1 g1
  have hw8 := (good_items g5.w).1
  have hq8 := (areQ_iff.1 g5.q).2.1
  refine go ?_; intros
  refine cf (isDelay_f d) fun _ _ => ?_
  refine t_app ?_
  cases g2 : isDel d
  · skip
    refine go ?_; intros
    rw [resHA_no (by unfold okHearAll; simp [g1, g2])]
    refine ret ⟨_, _, _, _, _, [], _, _, _⟩ trivial rfl
  obtain ⟨hd0, hd1⟩ : 1 ≤ d ∧ d ≤ 8 := by unfold isDel btw at g2; simp only [Bool.and_eq_true, decide_eq_true_eq] at g2; omega
  refine go ?_; intros
  by_cases g3 : (l.length : Int) ≤ 10
  rotate_left
  · rw [decide_eq_true (show (10 : Int) < l.length by omega)]
    refine go ?_; intros
    rw [resHA_no (by unfold okHearAll; simp [g1, g2, g3])]
    refine ret ⟨_, _, _, _, _, [], _, _, _⟩ trivial rfl
  rw [decide_eq_false (show ¬ (10 : Int) < l.length by omega)]
  refine go ?_; intros
  refine cf (ConPk_f 122 [] [] [] rfl l al cl Fl (fun p => !goodPk p) (by kernel_rfl) (by omega) (fun p hp w hA => (ha1_f p (hsz p hp)).val w hA)) fun _ _ => ?_
  refine t_app ?_
  cases g4 : l.any fun p => !goodPk p
  rotate_left
  · have g4' : l.all goodPk = false := by
      rw [List.any_eq_true] at g4
      obtain ⟨p, hp, h⟩ := g4
      exact List.all_eq_false.2 ⟨p, hp, by simpa using h⟩
    refine go ?_; intros
    rw [resHA_no (by unfold okHearAll; simp [g1, g2, g3, g4'])]
    refine ret ⟨_, _, _, _, _, [], _, _, _⟩ trivial rfl
  have g4' : ∀ p ∈ l, goodPk p = true := fun p hp => by simpa using List.any_eq_false.1 g4 p hp
  rw [resHA_yes (by unfold okHearAll; rw [g1, g2, decide_eq_true g3, List.all_eq_true.2 g4']; rfl)]
  refine go ?_; intros
  refine cf (Rclone_f x _ F (by omega) (by omega)) fun u _ => ?_
  refine t_app ?_
  refine openOReceiver ?_
  rintro a5 c5 F5 a6 c6 F6 e6 - -
  rw [e6]
  refine go ?_; intros
  rename_i g9
  refine t_nilow EStr 9 ?_
  refine c_loopS [2, 6, 7, 8, 9, 33, 34] (fun s : HaS => [(35, .int .i64 (s.k : Nat)), (10, .slice s.ae (hearsE d x (l.take s.k)).length s.ce)]) (fun s => [.row g9 49 0 [] [.bool (hearsR d x (l.take s.k)).started, .int .i64 (hearsR d x (l.take s.k)).clock, .int .i64 (hearsR d x (l.take s.k)).window.next, .slice s.a1 (hearsR d x (l.take s.k)).window.slots.length s.c1, .slice s.a2 (hearsR d x (l.take s.k)).requests.length s.c2] [], .ow ESlot 213 (.slice s.a1 ((hearsR d x (l.take s.k)).window).slots.length s.c1) ((hearsR d x (l.take s.k)).window).slots s.F1, .ow ERequest 152 (.slice s.a2 ((hearsR d x (l.take s.k)).requests).length s.c2) ((hearsR d x (l.take s.k)).requests) s.F2, .ow EStr 9 (.slice s.ae (hearsE d x (l.take s.k)).length s.ce) (hearsE d x (l.take s.k)) s.Fe]) (fun s => s.k ≤ l.length) (fun s => l.length - s.k) ⟨0, a5, c5, F5, a6, c6, F6, none, 0, []⟩ (Nat.zero_le _) fun s hs => ?_
  obtain ⟨k, a7, c7, F7, a8, c8, F8, ae, ce, Fe⟩ := s
  dsimp only at hs ⊢
  obtain ⟨hG, hE⟩ := hears_good hd0 hd1 (l.take k) x g5 (fun p hp => g4' p (List.mem_of_mem_take hp))
  have hE2 : (hearsE d x (l.take k)).length ≤ 240 := by have : (l.take k).length ≤ 10 := by rw [List.length_take]; omega
                                                        omega
  refine go ?_; intros
  refine c_if rfl (fun h4 => ?_) (fun h4 => ?_)
  · have hi : k < l.length := by omega
    have hh := hear_good hG (g4' _ (List.getElem_mem hi)) hd0 hd1
    have eR := hearsR_succ (d := d) (r := x) hi
    have eE := hearsE_succ (d := d) (r := x) hi
    refine atPacket (xs := l) k ?_
    rintro hi2 b o e sz
    rw [e]
    refine go ?_; intros
    refine cf (Rhear_f (hearsR d x (l.take k)) l[k] d g9 _ 0 [] [] a7 c7 F7 a8 c8 F8 hG (g4' _ (List.getElem_mem hi)) hd0 hd1) fun y _ => ?_
    refine t_app ?_
    have hEl := hh.2
    refine t_read (E := EStr) (xs := hearE (hearsR d x (l.take k)) l[k]) fun G8 => ?_
    refine go ?_; intros
    apply wO
    refine aps (ys := hearE (hearsR d x (l.take k)) l[k]) one_EStr scal_EStr fun a9 c9 F9 => ?_
    rw [← eE]
    refine go ?_; intros
    rw [← eR]
    refine n_lp (⟨k + 1, _, _, _, _, _, _, _, _, _⟩ : HaS) (by show k + 1 ≤ l.length; omega) (by show l.length - (k + 1) < l.length - k; omega)
  have hi : k = l.length := by omega
  subst hi
  rw [List.take_length]
  refine go ?_; intros
  refine closeOReceiver (hearsR d x l) ?_
  refine ret ⟨_, _, _, _, _, [], _, _, _⟩ trivial rfl
end Go.Proofs.YtgogcgkocjpgoaaGreatDoor
