/- Walks: the lead of a window; an item pushed. -/
import Derived.Test.YtidephmobajikaaDoorWinDrop
import Derived.Test.YtidephmobajikaaDoorTyPacket
import Derived.Test.YtidephmobajikaaDoorLibStrDel
import Derived.Test.YtidephmobajikaaDoorFr
namespace Go.Proofs.YtidephmobajikaaDoor
open Go.RowKit
theorem aft_aft (t n : Int) : aft (aft t 1) (n - 1) = aft t n := by unfold aft; omega
/-- the window that has room -/
def roomed (x : SendWindow) : SendWindow := if (x.items.length : Int) = x.size then ⟨aft x.trail 1, x.size, x.items.drop 1⟩ else x
def pushedW (x : SendWindow) (s : ByteArray) : SendWindow := ⟨(roomed x).trail, x.size, (roomed x).items ++ [s]⟩
def pushedP (x : SendWindow) (s : ByteArray) : Packet := ⟨1, aft x.trail x.items.length, (roomed x).trail, aft (roomed x).trail ((roomed x).items.length + 1), s⟩
theorem Keep.transNew {F G : List Nat} {a b c : World} (h : Keep F a b) (k : Keep G b c) (hG : ∀ x ∈ G, x ∈ F ∨ a.heap.size ≤ x) : Keep F a c :=
  ⟨k.os.trans h.os, k.tape.trans h.tape, k.output.trans h.output, Nat.le_trans h.size k.size, fun i hi hn => (k.block i (Nat.lt_of_lt_of_le hi h.size) fun hm => by
    rcases hG i hm with h1 | h1
    · exact hn h1
    · omega).trans (h.block i hi hn)⟩
theorem one_src (w : World) (t : TypeId) (s : ByteArray) : ∀ j u, [Value.string s][j]? = some u → (w.alloc (.cells #[.string s] t)).cell? ((⟨w.heap.size, 0, none⟩ : Addr).add j) = some u := by
  intro j u hu
  cases j with
  | zero =>
    simp at hu
    subst hu
    simp [Addr.add]
  | succ j => simp at hu
theorem SendWindow_lead_c (t z : Int) (a : Option Addr) (n c : Nat) (w : World) (h0 : 0 ≤ t) (h1 : t ≤ 65535) (hn : n ≤ 4294967296) :
    Calls Tryd.prog 106 #[.agg #[.int .i64 t, .int .i64 z, .slice a n c]] w fun e w' => e = .returned (.int .i64 (aft t n)) ∧ Below w.heap.size w w' := by
  go_enter Tryd.func106, Tryd.ntmps106
  go_wp2_with fail
  refine (after_c _ _ _ (by omega) (by omega)).mono ?_
  rintro e w' ⟨rfl, rfl⟩
  go_wp2_with fail
  go_ret
  exact ⟨rfl, (Below.refl _ _).alloc (Nat.le_refl _) _⟩
theorem l9Lead_c (t z : Int) (a : Option Addr) (n c : Nat) (w : World) (h0 : 0 ≤ t) (h1 : t ≤ 65535) (hn : n ≤ 4294967296) :
    Calls Tryd.prog 113 #[.agg #[.int .i64 t, .int .i64 z, .slice a n c]] w fun e w' => e = .returned (.int .i64 (aft t n)) ∧ Below w.heap.size w w' := by
  go_enter Tryd.func113, Tryd.ntmps113
  go_wp2_with fail
  refine (l2After_c _ _ _ (by omega) (by omega)).mono ?_
  rintro e w' ⟨rfl, rfl⟩
  go_wp2_with fail
  go_ret
  exact ⟨rfl, (Below.refl _ _).alloc (Nat.le_refl _) _⟩
set_option maxHeartbeats 3200000 in
set_option maxRecDepth 100000 in
theorem SendWindow_push_c (x : SendWindow) (s : ByteArray) (t : TypeId) (g p : Nat) (A B : List Value) (F : List Nat) (w : World) (h : At OSendWindow t w g p A B x F) (hl : x.items.length ≤ 6) (ht : isSer x.trail = true) (hs : s.size ≤ maxLen) (hz : 1 ≤ x.size) :
    Calls Tryd.prog 97 #[.pointer (some ⟨g, p, none⟩), .string s] w fun e w' => e = .returned (.agg #[.int .i64 1, .int .i64 (pushedP x s).number, .int .i64 (pushedP x s).trail, .int .i64 (pushedP x s).lead, .string s]) ∧
      ∃ F', At OSendWindow t w' g p A B (pushedW x s) F' ∧ (∀ b ∈ F', b ∈ F ∨ w.heap.size ≤ b) ∧ Keep (g :: F) w w' := by
  have hA0 := h
  obtain ⟨_, G, hp, ⟨v1, rfl, ho⟩, hn, hg⟩ := h
  obtain ⟨a, c, rfl⟩ := ho.slice
  have htt := isSer_iff.1 ht
  obtain ⟨ht0, ht1⟩ := htt
  have hgl := G.lt
  have hKp := Keep.refl (g :: F) w
  have zG0 := G.cellMid (p := p) (j := 0) (by omega) (by simp)
  have zG1 := G.cellMid (p := p + 1) (j := 1) (by omega) (by simp)
  have zG2 := G.cellMid (p := p + 2) (j := 2) (by omega) (by simp)
  simp only [List.getElem?_cons_zero, List.getElem?_cons_succ] at zG0 zG1 zG2
  have f_G := G.frozens
  have yG0 := fun o => (G.alloc o).cellMid (p := p) (j := 0) (by omega) (by simp)
  have yG1 := fun o => (G.alloc o).cellMid (p := p + 1) (j := 1) (by omega) (by simp)
  have yG2 := fun o => (G.alloc o).cellMid (p := p + 2) (j := 2) (by omega) (by simp)
  simp only [List.getElem?_cons_zero, List.getElem?_cons_succ] at yG0 yG1 yG2
  have e_G := fun o => (G.alloc o).frozens
  go_enter Tryd.func97, Tryd.ntmps97
  go_wp2_with fail
  clear zG0 zG1 zG2 f_G yG0 yG1 yG2 e_G
  have al : Below w.heap.size w (w.alloc (.cells #[.int .i64 0, .int .i64 0, .int .i64 0, .int .i64 0, .string ⟨#[]⟩] 30)) := by
    repeat refine Below.alloc ?_ (by simp <;> omega) _
    exact Below.refl _ _
  have n_R5 := Row.made w 30 [.int .i64 0, .int .i64 0, .int .i64 0, .int .i64 0, .string ⟨#[]⟩]
  have hs_w1 : w.heap.size < (w.alloc (.cells #[.int .i64 0, .int .i64 0, .int .i64 0, .int .i64 0, .string ⟨#[]⟩] 30)).heap.size := by simp
  replace G := G.below al
  replace ho := ho.below al
  replace hKp := hKp.trans (Keep.ofBelow (F := g :: F) al)
  generalize (w.alloc (.cells #[.int .i64 0, .int .i64 0, .int .i64 0, .int .i64 0, .string ⟨#[]⟩] 30)) = w1 at *
  have R5 := n_R5; clear n_R5
  clear al
  refine (SendWindow_lead_c x.trail x.size a x.items.length c _ ht0 ht1 (by omega)).mono ?_
  rintro e w2_ ⟨rfl, hb⟩
  have hs_w2_ := hb.size
  replace G := G.below hb
  replace R5 := R5.below hb
  replace ho := ho.below hb
  replace hKp := hKp.trans (Keep.ofBelow (F := g :: F) hb)
  clear hb
  have lF : ∀ b ∈ F, b < w.heap.size := by
    obtain ⟨_, _, _, ⟨_, _, h1⟩, _, _⟩ := hA0
    exact h1.lt
  clear hA0
  have zG0 := G.cellMid (p := p) (j := 0) (by omega) (by simp)
  have zG1 := G.cellMid (p := p + 1) (j := 1) (by omega) (by simp)
  have zG2 := G.cellMid (p := p + 2) (j := 2) (by omega) (by simp)
  simp only [List.getElem?_cons_zero, List.getElem?_cons_succ] at zG0 zG1 zG2
  have f_G := G.frozens
  have c_R5 := R5.cells; have f_R5 := R5.frozens
  go_wp2_with fail
  clear zG0 zG1 zG2 f_G c_R5 f_R5
  by_cases hf : (x.items.length : Int) = x.size
  · have hry : roomed x = ⟨aft x.trail 1, x.size, x.items.drop 1⟩ := by unfold roomed; rw [if_pos hf]
    replace hry := Lib.hid hry
    rename_i K0 hK0
    refine AnyX.start (S := (fun w' => w'.cell? ⟨g, p, none⟩ = some (.int .i64 x.trail) ∧ w'.cell? ⟨g, p + 1, none⟩ = some (.int .i64 x.size) ∧ w'.cell? ⟨g, p + 2, none⟩ = some (.slice a x.items.length c))) (X := (fun _ => false)) (by kernel_rfl) ?_
    have al : Below w2_.heap.size w2_ w2_.drew := belowDrewN (Below.refl _ _) 1
    have hs_w3 := al.size
    replace G := G.below al
    replace R5 := R5.below al
    replace ho := ho.below al
    replace hKp := hKp.trans (Keep.ofBelow (F := g :: F) al)
    generalize w2_.drew = w3 at *
    clear al
    have hS : (fun w' => w'.cell? ⟨g, p, none⟩ = some (.int .i64 x.trail) ∧ w'.cell? ⟨g, p + 1, none⟩ = some (.int .i64 x.size) ∧ w'.cell? ⟨g, p + 2, none⟩ = some (.slice a x.items.length c)) w3 := ⟨G.cellMid (p := p) (j := 0) (by omega) (by simp), G.cellMid (p := p + 1) (j := 1) (by omega) (by simp), G.cellMid (p := p + 2) (j := 2) (by omega) (by simp)⟩
    refine AnyX.take (i := 0) (oi := _) (v := ?_) (by rw [List.getElem?_toArray]; rfl) (by kernel_rfl) (by kernel_rfl) (by kernel_rfl) (by kernel_rfl) (by kernel_rfl) (by exact fun _ _ _ h => h) (Or.inl ⟨by rfl, ?_⟩) hS ?_
    rotate_left
    · (intro wS hSw; (try dsimp only at hSw); go_simp; try with_reducible rfl)
    try simp only [Act.put, List.setIfInBounds_toArray, List.set_cons_zero, List.set_cons_succ]
    refine AnyX.take (i := 1) (oi := _) (v := ?_) (by rw [List.getElem?_toArray]; rfl) (by kernel_rfl) (by kernel_rfl) (by kernel_rfl) (by kernel_rfl) (by kernel_rfl) (by exact fun _ _ _ h => h) (Or.inl ⟨by rfl, ?_⟩) hS ?_
    rotate_left
    · (intro wS hSw; (try dsimp only at hSw); go_simp; try with_reducible rfl)
    try simp only [Act.put, List.setIfInBounds_toArray, List.set_cons_zero, List.set_cons_succ]
    refine AnyX.take (i := 2) (oi := _) (v := ?_) (by rw [List.getElem?_toArray]; rfl) (by kernel_rfl) (by kernel_rfl) (by kernel_rfl) (by kernel_rfl) (by kernel_rfl) (by exact fun _ _ _ h => h) (Or.inl ⟨by rfl, ?_⟩) hS ?_
    rotate_left
    · (intro wS hSw; (try dsimp only at hSw); go_simp; try with_reducible rfl)
    try simp only [Act.put, List.setIfInBounds_toArray, List.set_cons_zero, List.set_cons_succ]
    refine AnyX.take (i := 3) (oi := _) (v := ?_) (by rw [List.getElem?_toArray]; rfl) (by kernel_rfl) (by kernel_rfl) (by kernel_rfl) (by kernel_rfl) (by kernel_rfl) (by exact fun _ _ _ h => h) (Or.inl ⟨by rfl, ?_⟩) hS ?_
    rotate_left
    · (intro wS hSw; (try dsimp only at hSw); go_simp; try with_reducible rfl)
    try simp only [Act.put, List.setIfInBounds_toArray, List.set_cons_zero, List.set_cons_succ]
    refine AnyX.take (i := 4) (oi := _) (v := ?_) (by rw [List.getElem?_toArray]; rfl) (by kernel_rfl) (by kernel_rfl) (by kernel_rfl) (by kernel_rfl) (by kernel_rfl) (by exact fun _ _ _ h => h) (Or.inl ⟨by rfl, ?_⟩) hS ?_
    rotate_left
    · (intro wS hSw; (try dsimp only at hSw); go_simp; try with_reducible rfl)
    try simp only [Act.put, List.setIfInBounds_toArray, List.set_cons_zero, List.set_cons_succ]
    refine AnyX.take (i := 5) (oi := _) (v := ?_) (by rw [List.getElem?_toArray]; rfl) (by kernel_rfl) (by kernel_rfl) (by kernel_rfl) (by kernel_rfl) (by kernel_rfl) (by exact fun _ _ _ h => h) (Or.inl ⟨by rfl, ?_⟩) hS ?_
    rotate_left
    · (intro wS hSw; (try dsimp only at hSw); go_simp; try with_reducible rfl)
    try simp only [Act.put, List.setIfInBounds_toArray, List.set_cons_zero, List.set_cons_succ]
    refine AnyX.take (i := 6) (oi := _) (v := ?_) (by rw [List.getElem?_toArray]; rfl) (by kernel_rfl) (by kernel_rfl) (by kernel_rfl) (by kernel_rfl) (by kernel_rfl) (by exact fun _ _ _ h => h) (Or.inl ⟨by rfl, ?_⟩) hS ?_
    rotate_left
    · (intro wS hSw; (try dsimp only at hSw); go_simp; try with_reducible rfl)
    try simp only [Act.put, List.setIfInBounds_toArray, List.set_cons_zero, List.set_cons_succ]
    refine AnyX.take (i := 7) (oi := _) (v := ?_) (by rw [List.getElem?_toArray]; rfl) (by kernel_rfl) (by kernel_rfl) (by kernel_rfl) (by kernel_rfl) (by kernel_rfl) (by exact fun _ _ _ h => h) (Or.inl ⟨by rfl, ?_⟩) hS ?_
    rotate_left
    · (intro wS hSw; (try dsimp only at hSw); go_simp; try with_reducible rfl)
    try simp only [Act.put, List.setIfInBounds_toArray, List.set_cons_zero, List.set_cons_succ]
    refine AnyX.take (i := 8) (oi := _) (v := ?_) (by rw [List.getElem?_toArray]; rfl) (by kernel_rfl) (by kernel_rfl) (by kernel_rfl) (by kernel_rfl) (by kernel_rfl) (by exact fun _ _ _ h => h) (Or.inl ⟨by rfl, ?_⟩) hS ?_
    rotate_left
    · (intro wS hSw; (try dsimp only at hSw); go_simp; try with_reducible rfl)
    try simp only [Act.put, List.setIfInBounds_toArray, List.set_cons_zero, List.set_cons_succ]
    refine AnyX.take (i := 9) (oi := _) (v := ?_) (by rw [List.getElem?_toArray]; rfl) (by kernel_rfl) (by kernel_rfl) (by kernel_rfl) (by kernel_rfl) (by kernel_rfl) (by exact fun _ _ _ h => h) (Or.inl ⟨by rfl, ?_⟩) hS ?_
    rotate_left
    · (intro wS hSw; (try dsimp only at hSw); go_simp; try with_reducible rfl)
    try simp only [Act.put, List.setIfInBounds_toArray, List.set_cons_zero, List.set_cons_succ]
    refine AnyX.done (by kernel_rfl) ?_ _
    (try clear hS)
    refine hK0 _ _ ?_
    clear hK0 K0
    have zG0 := G.cellMid (p := p) (j := 0) (by omega) (by simp)
    have zG1 := G.cellMid (p := p + 1) (j := 1) (by omega) (by simp)
    have zG2 := G.cellMid (p := p + 2) (j := 2) (by omega) (by simp)
    simp only [List.getElem?_cons_zero, List.getElem?_cons_succ] at zG0 zG1 zG2
    have f_G := G.frozens
    have c_R5 := R5.cells; have f_R5 := R5.frozens
    go_wp2_with fail
    clear zG0 zG1 zG2 f_G c_R5 f_R5
    refine (SendWindow_drop_c x 1 t g p A B F _ ⟨_, G, hp, ⟨_, rfl, ho⟩, hn, hg⟩ (by omega) (by omega) ht).mono ?_
    rintro e w4 ⟨⟨u, rfl⟩, F5, ⟨_, G5, -, ⟨v5, rfl, o5⟩, n5, g5⟩, hF5, K5⟩
    obtain ⟨a5, c5, rfl⟩ := o5.slice
    have hs_w4 := K5.size
    replace hF5 : ∀ b ∈ F5, b ∈ F ∨ w.heap.size < b := fun b hb => by
      rcases hF5 b hb with h1 | h1
      · exact .inl h1
      · right; omega
    replace R5 := R5.keepK K5 (fun hm => by rcases List.mem_cons.1 hm with h1 | h1 <;> first | omega | (have := lF _ h1; omega))
    replace hKp := hKp.trans K5
    clear K5 ho G hn hg
    have G := G5; clear G5
    obtain ⟨y, hy⟩ : ∃ y, y = (⟨aft x.trail 1, x.size, x.items.drop 1⟩ : SendWindow) := ⟨_, rfl⟩
    have G : Row w4 g t (A ++ [.int .i64 y.trail, .int .i64 y.size, .slice a5 y.items.length c5] ++ B) := by rw [hy]; exact G
    have o5 : Ow EStr 9 w4 (.slice a5 y.items.length c5) y.items F5 := by rw [hy]; exact o5
    have hry2 : roomed x = y := hry.out.trans hy.symm
    replace hry := Lib.hid hry2
    clear hry2
    have hyt0 : 0 ≤ y.trail := by rw [hy]; exact (aft_bd _ _).1
    have hyt1 : y.trail ≤ 65535 := by rw [hy]; exact (aft_bd _ _).2
    have hyl : y.items.length ≤ 6 := by rw [hy]; simp; omega
    have hyz : y.size = x.size := by rw [hy]
    replace hyz := Lib.hid hyz
    clear hy hf
    have hlt5 := o5.lt
    have hgl5 := G.lt
    have zG0 := G.cellMid (p := p) (j := 0) (by omega) (by simp)
    have zG1 := G.cellMid (p := p + 1) (j := 1) (by omega) (by simp)
    have zG2 := G.cellMid (p := p + 2) (j := 2) (by omega) (by simp)
    simp only [List.getElem?_cons_zero, List.getElem?_cons_succ] at zG0 zG1 zG2
    have f_G := G.frozens
    have yG0 := fun o => (G.alloc o).cellMid (p := p) (j := 0) (by omega) (by simp)
    have yG1 := fun o => (G.alloc o).cellMid (p := p + 1) (j := 1) (by omega) (by simp)
    have yG2 := fun o => (G.alloc o).cellMid (p := p + 2) (j := 2) (by omega) (by simp)
    simp only [List.getElem?_cons_zero, List.getElem?_cons_succ] at yG0 yG1 yG2
    have e_G := fun o => (G.alloc o).frozens
    have c_R5 := R5.cells; have f_R5 := R5.frozens; have d_R5 := fun o => (R5.alloc o).cells; have e_R5 := fun o => (R5.alloc o).frozens
    go_wp2_with (at_builtin; refine wpList_apd one_EStr (by decide) (by rfl) _ _ _ (by rfl) 9 (.string ⟨#[]⟩) 16 Tryd.underlying24 info_string rfl (.slice a5 y.items.length c5) y.items F5 (by rfl) (o5.below ((Below.refl _ _).alloc (Nat.le_refl _) _)) (Hd.of n5) (some ⟨w4.heap.size, 0, none⟩) [s] 1 (by rfl) [.string s] [] (str_flat (xs := [s]) _ (by simpa using hs)) (.inr ⟨_, rfl, one_src _ _ _⟩) (by simp) (by simp; unfold maxLen; omega) (by simp; omega) ?_)
    clear zG0 zG1 zG2 f_G yG0 yG1 yG2 e_G c_R5 f_R5 d_R5 e_R5
    intro v6 w5 F6 hA
    have o6 := hA.ow
    have n6 := hA.nodup n5 (by simp) (by simp)
    have m6 := hA.mem
    have K6 := hA.keep
    have hs_w5 := K6.size
    obtain ⟨a6, c6, rfl⟩ := o6.slice
    clear hA
    replace G := (G.alloc (.cells #[.string s] 9)).keepK K6 g5
    replace R5 := (R5.alloc (.cells #[.string s] 9)).keepK K6 (fun hm => by rcases hF5 _ hm with h1 | h1 <;> first | omega | (have := lF _ h1; omega))
    have hKa := hKp.trans (Keep.ofBelow (F := g :: F) ((Below.refl w4.heap.size w4).alloc (Nat.le_refl _) (.cells #[.string s] 9)))
    have hK6 := hKa.transNew K6 (fun b hb => by rcases hF5 b hb with h1 | h1 <;> first | (exact .inr (by omega)) | (exact .inl (by simp [h1])))
    clear K6 hKa hKp
    have hF6 : ∀ b ∈ F6, b ∈ F ∨ w.heap.size < b := fun b hb => by
      rcases m6 b hb with h1 | h1 | h1
      · exact hF5 b h1
      · simp at h1
      · right; simp at h1; omega
    have g6 : g ∉ F6 := fun hm => by
      rcases m6 g hm with h1 | h1 | h1
      · exact g5 h1
      · simp at h1
      · simp at h1; omega
    replace hKp := hK6
    clear hK6 m6 o5
    have hlen : (y.items ++ [s]).length = y.items.length + 1 := by simp
    rw [hlen] at o6
    replace o6 := Lib.hid o6
    have zG0 := G.cellMid (p := p) (j := 0) (by omega) (by simp)
    have zG1 := G.cellMid (p := p + 1) (j := 1) (by omega) (by simp)
    have zG2 := G.cellMid (p := p + 2) (j := 2) (by omega) (by simp)
    simp only [List.getElem?_cons_zero, List.getElem?_cons_succ] at zG0 zG1 zG2
    have f_G := G.frozens
    have c_R5 := R5.cells; have f_R5 := R5.frozens
    go_wp2_with fail
    clear zG0 zG1 zG2 f_G c_R5 f_R5
    have nG := G.setMid (p := p + 2) (j := 2) (by omega) (by simp) (.slice a6 (y.items.length + 1) c6)
    have nR := R5.setOther (p := ⟨g, p + 2, none⟩) (by simp; omega) (.slice a6 (y.items.length + 1) c6)
    have no := (o6.out).setFar (p := ⟨g, p + 2, none⟩) (by simpa using g6) (.slice a6 (y.items.length + 1) c6)
    have nK := hKp.setCell (p := ⟨g, p + 2, none⟩) (by simp) (.slice a6 (y.items.length + 1) c6)
    have hs_w6 : w5.heap.size ≤ (w5.setCell ⟨g, p + 2, none⟩ (.slice a6 (y.items.length + 1) c6)).heap.size := by simp
    clear G R5 o6 hKp
    simp only [List.set_cons_zero, List.set_cons_succ] at nG
    generalize (w5.setCell ⟨g, p + 2, none⟩ (.slice a6 (y.items.length + 1) c6)) = w6 at *
    have G := nG; clear nG
    have R5 := nR; clear nR
    have o6 := no; clear no
    have hKp := nK; clear nK
    skip
    rename_i K0 hK0
    refine AnyX.start (S := (fun w' => w'.cell? ⟨g, p, none⟩ = some (.int .i64 y.trail) ∧ w'.cell? ⟨g, p + 1, none⟩ = some (.int .i64 y.size) ∧ w'.cell? ⟨g, p + 2, none⟩ = some (.slice a6 (y.items.length + 1) c6))) (X := (fun i => i == 11)) (by kernel_rfl) ?_
    have al : Below w6.heap.size w6 w6.drew := belowDrewN (Below.refl _ _) 1
    have hs_w7 := al.size
    replace G := G.below al
    replace R5 := R5.below al
    replace o6 := o6.below al
    replace hKp := hKp.trans (Keep.ofBelow (F := g :: F) al)
    generalize w6.drew = w7 at *
    clear al
    have hS : (fun w' => w'.cell? ⟨g, p, none⟩ = some (.int .i64 y.trail) ∧ w'.cell? ⟨g, p + 1, none⟩ = some (.int .i64 y.size) ∧ w'.cell? ⟨g, p + 2, none⟩ = some (.slice a6 (y.items.length + 1) c6)) w7 := ⟨G.cellMid (p := p) (j := 0) (by omega) (by simp), G.cellMid (p := p + 1) (j := 1) (by omega) (by simp), G.cellMid (p := p + 2) (j := 2) (by omega) (by simp)⟩
    refine AnyX.take (i := 0) (oi := _) (v := ?_) (by rw [List.getElem?_toArray]; rfl) (by kernel_rfl) (by kernel_rfl) (by kernel_rfl) (by kernel_rfl) (by kernel_rfl) (by exact fun _ _ _ h => h) (Or.inl ⟨by rfl, ?_⟩) hS ?_
    rotate_left
    · (intro wS hSw; (try dsimp only at hSw); go_simp; try with_reducible rfl)
    try simp only [Act.put, List.setIfInBounds_toArray, List.set_cons_zero, List.set_cons_succ]
    refine AnyX.take (i := 1) (oi := _) (v := ?_) (by rw [List.getElem?_toArray]; rfl) (by kernel_rfl) (by kernel_rfl) (by kernel_rfl) (by kernel_rfl) (by kernel_rfl) (by exact fun _ _ _ h => h) (Or.inl ⟨by rfl, ?_⟩) hS ?_
    rotate_left
    · (intro wS hSw; (try dsimp only at hSw); go_simp; try with_reducible rfl)
    try simp only [Act.put, List.setIfInBounds_toArray, List.set_cons_zero, List.set_cons_succ]
    refine AnyX.take (i := 2) (oi := _) (v := ?_) (by rw [List.getElem?_toArray]; rfl) (by kernel_rfl) (by kernel_rfl) (by kernel_rfl) (by kernel_rfl) (by kernel_rfl) (by exact fun _ _ _ h => h) (Or.inl ⟨by rfl, ?_⟩) hS ?_
    rotate_left
    · (intro wS hSw; (try dsimp only at hSw); go_simp; try with_reducible rfl)
    try simp only [Act.put, List.setIfInBounds_toArray, List.set_cons_zero, List.set_cons_succ]
    refine AnyX.take (i := 3) (oi := _) (v := ?_) (by rw [List.getElem?_toArray]; rfl) (by kernel_rfl) (by kernel_rfl) (by kernel_rfl) (by kernel_rfl) (by kernel_rfl) (by exact fun _ _ _ h => h) (Or.inl ⟨by rfl, ?_⟩) hS ?_
    rotate_left
    · (intro wS hSw; (try dsimp only at hSw); go_simp; try with_reducible rfl)
    try simp only [Act.put, List.setIfInBounds_toArray, List.set_cons_zero, List.set_cons_succ]
    refine AnyX.take (i := 4) (oi := _) (v := ?_) (by rw [List.getElem?_toArray]; rfl) (by kernel_rfl) (by kernel_rfl) (by kernel_rfl) (by kernel_rfl) (by kernel_rfl) (by exact fun _ _ _ h => h) (Or.inl ⟨by rfl, ?_⟩) hS ?_
    rotate_left
    · (intro wS hSw; (try dsimp only at hSw); go_simp; try with_reducible rfl)
    try simp only [Act.put, List.setIfInBounds_toArray, List.set_cons_zero, List.set_cons_succ]
    refine AnyX.take (i := 5) (oi := _) (v := ?_) (by rw [List.getElem?_toArray]; rfl) (by kernel_rfl) (by kernel_rfl) (by kernel_rfl) (by kernel_rfl) (by kernel_rfl) (by exact fun _ _ _ h => h) (Or.inl ⟨by rfl, ?_⟩) hS ?_
    rotate_left
    · (intro wS hSw; (try dsimp only at hSw); go_simp; try with_reducible rfl)
    try simp only [Act.put, List.setIfInBounds_toArray, List.set_cons_zero, List.set_cons_succ]
    refine AnyX.take (i := 6) (oi := _) (v := ?_) (by rw [List.getElem?_toArray]; rfl) (by kernel_rfl) (by kernel_rfl) (by kernel_rfl) (by kernel_rfl) (by kernel_rfl) (by exact fun _ _ _ h => h) (Or.inl ⟨by rfl, ?_⟩) hS ?_
    rotate_left
    · (intro wS hSw; (try dsimp only at hSw); go_simp; try with_reducible rfl)
    try simp only [Act.put, List.setIfInBounds_toArray, List.set_cons_zero, List.set_cons_succ]
    refine AnyX.take (i := 7) (oi := _) (v := ?_) (by rw [List.getElem?_toArray]; rfl) (by kernel_rfl) (by kernel_rfl) (by kernel_rfl) (by kernel_rfl) (by kernel_rfl) (by exact fun _ _ _ h => h) (Or.inl ⟨by rfl, ?_⟩) hS ?_
    rotate_left
    · (intro wS hSw; (try dsimp only at hSw); go_simp; try with_reducible rfl)
    try simp only [Act.put, List.setIfInBounds_toArray, List.set_cons_zero, List.set_cons_succ]
    refine AnyX.take (i := 9) (oi := _) (v := ?_) (by rw [List.getElem?_toArray]; rfl) (by kernel_rfl) (by kernel_rfl) (by kernel_rfl) (by kernel_rfl) (by kernel_rfl) (by exact fun _ _ _ h => h) (Or.inl ⟨by rfl, ?_⟩) hS ?_
    rotate_left
    · (intro wS hSw; (try dsimp only at hSw); go_simp; try with_reducible rfl)
    try simp only [Act.put, List.setIfInBounds_toArray, List.set_cons_zero, List.set_cons_succ]
    refine AnyX.only (i := 8) (o := _) (by kernel_rfl) (by rw [List.getElem?_toArray]; rfl) (fun K hK => ?_)
    go_simp
    go_at_call 106
    refine (SendWindow_lead_c y.trail y.size a6 (y.items.length + 1) c6 _ hyt0 hyt1 (by omega)).mono ?_
    rintro e w8_ ⟨rfl, hb⟩
    have hs_w8_ := hb.size
    replace G := G.below hb
    replace R5 := R5.below hb
    replace o6 := o6.below hb
    replace hKp := hKp.trans (Keep.ofBelow (F := g :: F) hb)
    clear hb
    clear hS
    have hS : (fun w' => w'.cell? ⟨g, p, none⟩ = some (.int .i64 y.trail) ∧ w'.cell? ⟨g, p + 1, none⟩ = some (.int .i64 y.size) ∧ w'.cell? ⟨g, p + 2, none⟩ = some (.slice a6 (y.items.length + 1) c6)) w8_ := ⟨G.cellMid (p := p) (j := 0) (by omega) (by simp), G.cellMid (p := p + 1) (j := 1) (by omega) (by simp), G.cellMid (p := p + 2) (j := 2) (by omega) (by simp)⟩
    refine hK.out _ _ (fun _ => hS) ?_
    clear hK K
    try simp only [Act.put, List.setIfInBounds_toArray, List.set_cons_zero, List.set_cons_succ]
    refine AnyX.take (i := 10) (oi := _) (v := ?_) (by rw [List.getElem?_toArray]; rfl) (by kernel_rfl) (by kernel_rfl) (by kernel_rfl) (by kernel_rfl) (by kernel_rfl) (by exact fun _ _ _ h => h) (Or.inl ⟨by rfl, ?_⟩) hS ?_
    rotate_left
    · (intro wS hSw; (try dsimp only at hSw); go_simp; try with_reducible rfl)
    try simp only [Act.put, List.setIfInBounds_toArray, List.set_cons_zero, List.set_cons_succ]
    refine AnyX.only (i := 11) (o := _) (by kernel_rfl) (by rw [List.getElem?_toArray]; rfl) (fun K hK => ?_)
    have zG0 := G.cellMid (p := p) (j := 0) (by omega) (by simp)
    have zG1 := G.cellMid (p := p + 1) (j := 1) (by omega) (by simp)
    have zG2 := G.cellMid (p := p + 2) (j := 2) (by omega) (by simp)
    simp only [List.getElem?_cons_zero, List.getElem?_cons_succ] at zG0 zG1 zG2
    have f_G := G.frozens
    have c_R5 := R5.cells; have f_R5 := R5.frozens
    go_simp
    clear zG0 zG1 zG2 f_G c_R5 f_R5
    refine hK.out _ _ (fun h => by cases h) ?_
    clear hK K
    try simp only [Act.put, List.setIfInBounds_toArray, List.set_cons_zero, List.set_cons_succ]
    refine AnyX.done (by kernel_rfl) ?_ _
    (try clear hS)
    refine hK0 _ _ ?_
    clear hK0 K0
    replace o6 := Lib.hid o6
    have c_R5 := R5.cells; have f_R5 := R5.frozens
    go_wp2_with fail
    refine bodyPost_ret (v := .agg #[.int .i64 1, .int .i64 (aft x.trail x.items.length), .int .i64 y.trail, .int .i64 (aft y.trail ((y.items.length : Int) + 1)), .string s]) ?_ rfl ?_
    · simp [results, Tryd.results97, go_sem, c_R5, f_R5]
    · have hry2 := hry.out
      have hyz2 := hyz.out
      have o7 := o6.out
      refine ⟨by unfold pushedP; rw [hry2], F6, ?_, fun b hb => by rcases hF6 b hb with h1 | h1 <;> first | (exact .inl h1) | (exact .inr (by omega)), ?_⟩
      · rw [show pushedW x s = ⟨y.trail, y.size, y.items ++ [s]⟩ from by unfold pushedW; rw [hry2, hyz2]]
        refine ⟨[.int .i64 y.trail, .int .i64 y.size, .slice a6 (y.items.length + 1) c6], G.keep (by repeat rw [Below.heap_setCell _ _ _ _ (by simp <;> omega)]), hp, ⟨_, rfl, o7.frame fun b hb => ?_⟩, n6, g6⟩
        have hne : b ≠ w.heap.size := by
          rcases hF6 b hb with h1 | h1
          · have := lF _ h1; omega
          · omega
        repeat rw [Below.heap_setCell _ _ _ _ (by simp <;> omega)]
      · repeat refine Keep.setNew ?_ (by simp) _
        exact hKp
  · have hry : roomed x = x := by unfold roomed; rw [if_neg hf]
    replace hry := Lib.hid hry
    rename_i K0 hK0
    refine AnyX.start (S := (fun w' => w'.cell? ⟨g, p, none⟩ = some (.int .i64 x.trail) ∧ w'.cell? ⟨g, p + 1, none⟩ = some (.int .i64 x.size) ∧ w'.cell? ⟨g, p + 2, none⟩ = some (.slice a x.items.length c))) (X := (fun _ => false)) (by kernel_rfl) ?_
    have al : Below w2_.heap.size w2_ w2_.drew := belowDrewN (Below.refl _ _) 1
    have hs_w9 := al.size
    replace G := G.below al
    replace R5 := R5.below al
    replace ho := ho.below al
    replace hKp := hKp.trans (Keep.ofBelow (F := g :: F) al)
    generalize w2_.drew = w9 at *
    clear al
    have hS : (fun w' => w'.cell? ⟨g, p, none⟩ = some (.int .i64 x.trail) ∧ w'.cell? ⟨g, p + 1, none⟩ = some (.int .i64 x.size) ∧ w'.cell? ⟨g, p + 2, none⟩ = some (.slice a x.items.length c)) w9 := ⟨G.cellMid (p := p) (j := 0) (by omega) (by simp), G.cellMid (p := p + 1) (j := 1) (by omega) (by simp), G.cellMid (p := p + 2) (j := 2) (by omega) (by simp)⟩
    refine AnyX.take (i := 0) (oi := _) (v := ?_) (by rw [List.getElem?_toArray]; rfl) (by kernel_rfl) (by kernel_rfl) (by kernel_rfl) (by kernel_rfl) (by kernel_rfl) (by exact fun _ _ _ h => h) (Or.inl ⟨by rfl, ?_⟩) hS ?_
    rotate_left
    · (intro wS hSw; (try dsimp only at hSw); go_simp; try with_reducible rfl)
    try simp only [Act.put, List.setIfInBounds_toArray, List.set_cons_zero, List.set_cons_succ]
    refine AnyX.take (i := 1) (oi := _) (v := ?_) (by rw [List.getElem?_toArray]; rfl) (by kernel_rfl) (by kernel_rfl) (by kernel_rfl) (by kernel_rfl) (by kernel_rfl) (by exact fun _ _ _ h => h) (Or.inl ⟨by rfl, ?_⟩) hS ?_
    rotate_left
    · (intro wS hSw; (try dsimp only at hSw); go_simp; try with_reducible rfl)
    try simp only [Act.put, List.setIfInBounds_toArray, List.set_cons_zero, List.set_cons_succ]
    refine AnyX.take (i := 2) (oi := _) (v := ?_) (by rw [List.getElem?_toArray]; rfl) (by kernel_rfl) (by kernel_rfl) (by kernel_rfl) (by kernel_rfl) (by kernel_rfl) (by exact fun _ _ _ h => h) (Or.inl ⟨by rfl, ?_⟩) hS ?_
    rotate_left
    · (intro wS hSw; (try dsimp only at hSw); go_simp; try with_reducible rfl)
    try simp only [Act.put, List.setIfInBounds_toArray, List.set_cons_zero, List.set_cons_succ]
    refine AnyX.take (i := 3) (oi := _) (v := ?_) (by rw [List.getElem?_toArray]; rfl) (by kernel_rfl) (by kernel_rfl) (by kernel_rfl) (by kernel_rfl) (by kernel_rfl) (by exact fun _ _ _ h => h) (Or.inl ⟨by rfl, ?_⟩) hS ?_
    rotate_left
    · (intro wS hSw; (try dsimp only at hSw); go_simp; try with_reducible rfl)
    try simp only [Act.put, List.setIfInBounds_toArray, List.set_cons_zero, List.set_cons_succ]
    refine AnyX.take (i := 4) (oi := _) (v := ?_) (by rw [List.getElem?_toArray]; rfl) (by kernel_rfl) (by kernel_rfl) (by kernel_rfl) (by kernel_rfl) (by kernel_rfl) (by exact fun _ _ _ h => h) (Or.inl ⟨by rfl, ?_⟩) hS ?_
    rotate_left
    · (intro wS hSw; (try dsimp only at hSw); go_simp; try with_reducible rfl)
    try simp only [Act.put, List.setIfInBounds_toArray, List.set_cons_zero, List.set_cons_succ]
    refine AnyX.take (i := 5) (oi := _) (v := ?_) (by rw [List.getElem?_toArray]; rfl) (by kernel_rfl) (by kernel_rfl) (by kernel_rfl) (by kernel_rfl) (by kernel_rfl) (by exact fun _ _ _ h => h) (Or.inl ⟨by rfl, ?_⟩) hS ?_
    rotate_left
    · (intro wS hSw; (try dsimp only at hSw); go_simp; try with_reducible rfl)
    try simp only [Act.put, List.setIfInBounds_toArray, List.set_cons_zero, List.set_cons_succ]
    refine AnyX.take (i := 6) (oi := _) (v := ?_) (by rw [List.getElem?_toArray]; rfl) (by kernel_rfl) (by kernel_rfl) (by kernel_rfl) (by kernel_rfl) (by kernel_rfl) (by exact fun _ _ _ h => h) (Or.inl ⟨by rfl, ?_⟩) hS ?_
    rotate_left
    · (intro wS hSw; (try dsimp only at hSw); go_simp; try with_reducible rfl)
    try simp only [Act.put, List.setIfInBounds_toArray, List.set_cons_zero, List.set_cons_succ]
    refine AnyX.take (i := 7) (oi := _) (v := ?_) (by rw [List.getElem?_toArray]; rfl) (by kernel_rfl) (by kernel_rfl) (by kernel_rfl) (by kernel_rfl) (by kernel_rfl) (by exact fun _ _ _ h => h) (Or.inl ⟨by rfl, ?_⟩) hS ?_
    rotate_left
    · (intro wS hSw; (try dsimp only at hSw); go_simp; try with_reducible rfl)
    try simp only [Act.put, List.setIfInBounds_toArray, List.set_cons_zero, List.set_cons_succ]
    refine AnyX.take (i := 8) (oi := _) (v := ?_) (by rw [List.getElem?_toArray]; rfl) (by kernel_rfl) (by kernel_rfl) (by kernel_rfl) (by kernel_rfl) (by kernel_rfl) (by exact fun _ _ _ h => h) (Or.inl ⟨by rfl, ?_⟩) hS ?_
    rotate_left
    · (intro wS hSw; (try dsimp only at hSw); go_simp; try with_reducible rfl)
    try simp only [Act.put, List.setIfInBounds_toArray, List.set_cons_zero, List.set_cons_succ]
    refine AnyX.take (i := 9) (oi := _) (v := ?_) (by rw [List.getElem?_toArray]; rfl) (by kernel_rfl) (by kernel_rfl) (by kernel_rfl) (by kernel_rfl) (by kernel_rfl) (by exact fun _ _ _ h => h) (Or.inl ⟨by rfl, ?_⟩) hS ?_
    rotate_left
    · (intro wS hSw; (try dsimp only at hSw); go_simp; try with_reducible rfl)
    try simp only [Act.put, List.setIfInBounds_toArray, List.set_cons_zero, List.set_cons_succ]
    refine AnyX.done (by kernel_rfl) ?_ _
    (try clear hS)
    refine hK0 _ _ ?_
    clear hK0 K0
    obtain ⟨y, hy⟩ : ∃ y, y = x := ⟨_, rfl⟩
    have G : Row w9 g t (A ++ [.int .i64 y.trail, .int .i64 y.size, .slice a y.items.length c] ++ B) := by rw [hy]; exact G
    have o5 : Ow EStr 9 w9 (.slice a y.items.length c) y.items F := by rw [hy]; exact ho
    obtain ⟨F5, hFF⟩ : ∃ F5, F5 = F := ⟨_, rfl⟩
    obtain ⟨a5, hff⟩ : ∃ a5, a5 = a := ⟨_, rfl⟩
    obtain ⟨c5, hcc⟩ : ∃ c5, c5 = c := ⟨_, rfl⟩
    have hF5 : ∀ b ∈ F5, b ∈ F ∨ w.heap.size < b := fun b hb => .inl (hFF ▸ hb)
    have n5 : F5.Nodup := hFF ▸ hn
    have g5 : g ∉ F5 := hFF ▸ hg
    rw [← hff, ← hcc, ← hFF] at o5
    rw [← hff, ← hcc] at G
    have hry2 : roomed x = y := hry.out.trans hy.symm
    replace hry := Lib.hid hry2
    clear hry2
    have hyt0 : 0 ≤ y.trail := by rw [hy]; exact ht0
    have hyt1 : y.trail ≤ 65535 := by rw [hy]; exact ht1
    have hyl : y.items.length ≤ 6 := by rw [hy]; exact hl
    have hyz : y.size = x.size := by rw [hy]
    replace hyz := Lib.hid hyz
    clear hy hff hcc hFF ho hn hg
    have hlt5 := o5.lt
    have hgl5 := G.lt
    have zG0 := G.cellMid (p := p) (j := 0) (by omega) (by simp)
    have zG1 := G.cellMid (p := p + 1) (j := 1) (by omega) (by simp)
    have zG2 := G.cellMid (p := p + 2) (j := 2) (by omega) (by simp)
    simp only [List.getElem?_cons_zero, List.getElem?_cons_succ] at zG0 zG1 zG2
    have f_G := G.frozens
    have yG0 := fun o => (G.alloc o).cellMid (p := p) (j := 0) (by omega) (by simp)
    have yG1 := fun o => (G.alloc o).cellMid (p := p + 1) (j := 1) (by omega) (by simp)
    have yG2 := fun o => (G.alloc o).cellMid (p := p + 2) (j := 2) (by omega) (by simp)
    simp only [List.getElem?_cons_zero, List.getElem?_cons_succ] at yG0 yG1 yG2
    have e_G := fun o => (G.alloc o).frozens
    have c_R5 := R5.cells; have f_R5 := R5.frozens; have d_R5 := fun o => (R5.alloc o).cells; have e_R5 := fun o => (R5.alloc o).frozens
    go_wp2_with (at_builtin; refine wpList_apd one_EStr (by decide) (by rfl) _ _ _ (by rfl) 9 (.string ⟨#[]⟩) 16 Tryd.underlying24 info_string rfl (.slice a5 y.items.length c5) y.items F5 (by rfl) (o5.below ((Below.refl _ _).alloc (Nat.le_refl _) _)) (Hd.of n5) (some ⟨w9.heap.size, 0, none⟩) [s] 1 (by rfl) [.string s] [] (str_flat (xs := [s]) _ (by simpa using hs)) (.inr ⟨_, rfl, one_src _ _ _⟩) (by simp) (by simp; unfold maxLen; omega) (by simp; omega) ?_)
    clear zG0 zG1 zG2 f_G yG0 yG1 yG2 e_G c_R5 f_R5 d_R5 e_R5
    intro v6 w10 F6 hA
    have o6 := hA.ow
    have n6 := hA.nodup n5 (by simp) (by simp)
    have m6 := hA.mem
    have K6 := hA.keep
    have hs_w10 := K6.size
    obtain ⟨a6, c6, rfl⟩ := o6.slice
    clear hA
    replace G := (G.alloc (.cells #[.string s] 9)).keepK K6 g5
    replace R5 := (R5.alloc (.cells #[.string s] 9)).keepK K6 (fun hm => by rcases hF5 _ hm with h1 | h1 <;> first | omega | (have := lF _ h1; omega))
    have hKa := hKp.trans (Keep.ofBelow (F := g :: F) ((Below.refl w9.heap.size w9).alloc (Nat.le_refl _) (.cells #[.string s] 9)))
    have hK6 := hKa.transNew K6 (fun b hb => by rcases hF5 b hb with h1 | h1 <;> first | (exact .inr (by omega)) | (exact .inl (by simp [h1])))
    clear K6 hKa hKp
    have hF6 : ∀ b ∈ F6, b ∈ F ∨ w.heap.size < b := fun b hb => by
      rcases m6 b hb with h1 | h1 | h1
      · exact hF5 b h1
      · simp at h1
      · right; simp at h1; omega
    have g6 : g ∉ F6 := fun hm => by
      rcases m6 g hm with h1 | h1 | h1
      · exact g5 h1
      · simp at h1
      · simp at h1; omega
    replace hKp := hK6
    clear hK6 m6 o5
    have hlen : (y.items ++ [s]).length = y.items.length + 1 := by simp
    rw [hlen] at o6
    replace o6 := Lib.hid o6
    have zG0 := G.cellMid (p := p) (j := 0) (by omega) (by simp)
    have zG1 := G.cellMid (p := p + 1) (j := 1) (by omega) (by simp)
    have zG2 := G.cellMid (p := p + 2) (j := 2) (by omega) (by simp)
    simp only [List.getElem?_cons_zero, List.getElem?_cons_succ] at zG0 zG1 zG2
    have f_G := G.frozens
    have c_R5 := R5.cells; have f_R5 := R5.frozens
    go_wp2_with fail
    clear zG0 zG1 zG2 f_G c_R5 f_R5
    have nG := G.setMid (p := p + 2) (j := 2) (by omega) (by simp) (.slice a6 (y.items.length + 1) c6)
    have nR := R5.setOther (p := ⟨g, p + 2, none⟩) (by simp; omega) (.slice a6 (y.items.length + 1) c6)
    have no := (o6.out).setFar (p := ⟨g, p + 2, none⟩) (by simpa using g6) (.slice a6 (y.items.length + 1) c6)
    have nK := hKp.setCell (p := ⟨g, p + 2, none⟩) (by simp) (.slice a6 (y.items.length + 1) c6)
    have hs_w11 : w10.heap.size ≤ (w10.setCell ⟨g, p + 2, none⟩ (.slice a6 (y.items.length + 1) c6)).heap.size := by simp
    clear G R5 o6 hKp
    simp only [List.set_cons_zero, List.set_cons_succ] at nG
    generalize (w10.setCell ⟨g, p + 2, none⟩ (.slice a6 (y.items.length + 1) c6)) = w11 at *
    have G := nG; clear nG
    have R5 := nR; clear nR
    have o6 := no; clear no
    have hKp := nK; clear nK
    skip
    rename_i K0 hK0
    refine AnyX.start (S := (fun w' => w'.cell? ⟨g, p, none⟩ = some (.int .i64 y.trail) ∧ w'.cell? ⟨g, p + 1, none⟩ = some (.int .i64 y.size) ∧ w'.cell? ⟨g, p + 2, none⟩ = some (.slice a6 (y.items.length + 1) c6))) (X := (fun i => i == 11)) (by kernel_rfl) ?_
    have al : Below w11.heap.size w11 w11.drew := belowDrewN (Below.refl _ _) 1
    have hs_w12 := al.size
    replace G := G.below al
    replace R5 := R5.below al
    replace o6 := o6.below al
    replace hKp := hKp.trans (Keep.ofBelow (F := g :: F) al)
    generalize w11.drew = w12 at *
    clear al
    have hS : (fun w' => w'.cell? ⟨g, p, none⟩ = some (.int .i64 y.trail) ∧ w'.cell? ⟨g, p + 1, none⟩ = some (.int .i64 y.size) ∧ w'.cell? ⟨g, p + 2, none⟩ = some (.slice a6 (y.items.length + 1) c6)) w12 := ⟨G.cellMid (p := p) (j := 0) (by omega) (by simp), G.cellMid (p := p + 1) (j := 1) (by omega) (by simp), G.cellMid (p := p + 2) (j := 2) (by omega) (by simp)⟩
    refine AnyX.take (i := 0) (oi := _) (v := ?_) (by rw [List.getElem?_toArray]; rfl) (by kernel_rfl) (by kernel_rfl) (by kernel_rfl) (by kernel_rfl) (by kernel_rfl) (by exact fun _ _ _ h => h) (Or.inl ⟨by rfl, ?_⟩) hS ?_
    rotate_left
    · (intro wS hSw; (try dsimp only at hSw); go_simp; try with_reducible rfl)
    try simp only [Act.put, List.setIfInBounds_toArray, List.set_cons_zero, List.set_cons_succ]
    refine AnyX.take (i := 1) (oi := _) (v := ?_) (by rw [List.getElem?_toArray]; rfl) (by kernel_rfl) (by kernel_rfl) (by kernel_rfl) (by kernel_rfl) (by kernel_rfl) (by exact fun _ _ _ h => h) (Or.inl ⟨by rfl, ?_⟩) hS ?_
    rotate_left
    · (intro wS hSw; (try dsimp only at hSw); go_simp; try with_reducible rfl)
    try simp only [Act.put, List.setIfInBounds_toArray, List.set_cons_zero, List.set_cons_succ]
    refine AnyX.take (i := 2) (oi := _) (v := ?_) (by rw [List.getElem?_toArray]; rfl) (by kernel_rfl) (by kernel_rfl) (by kernel_rfl) (by kernel_rfl) (by kernel_rfl) (by exact fun _ _ _ h => h) (Or.inl ⟨by rfl, ?_⟩) hS ?_
    rotate_left
    · (intro wS hSw; (try dsimp only at hSw); go_simp; try with_reducible rfl)
    try simp only [Act.put, List.setIfInBounds_toArray, List.set_cons_zero, List.set_cons_succ]
    refine AnyX.take (i := 3) (oi := _) (v := ?_) (by rw [List.getElem?_toArray]; rfl) (by kernel_rfl) (by kernel_rfl) (by kernel_rfl) (by kernel_rfl) (by kernel_rfl) (by exact fun _ _ _ h => h) (Or.inl ⟨by rfl, ?_⟩) hS ?_
    rotate_left
    · (intro wS hSw; (try dsimp only at hSw); go_simp; try with_reducible rfl)
    try simp only [Act.put, List.setIfInBounds_toArray, List.set_cons_zero, List.set_cons_succ]
    refine AnyX.take (i := 4) (oi := _) (v := ?_) (by rw [List.getElem?_toArray]; rfl) (by kernel_rfl) (by kernel_rfl) (by kernel_rfl) (by kernel_rfl) (by kernel_rfl) (by exact fun _ _ _ h => h) (Or.inl ⟨by rfl, ?_⟩) hS ?_
    rotate_left
    · (intro wS hSw; (try dsimp only at hSw); go_simp; try with_reducible rfl)
    try simp only [Act.put, List.setIfInBounds_toArray, List.set_cons_zero, List.set_cons_succ]
    refine AnyX.take (i := 5) (oi := _) (v := ?_) (by rw [List.getElem?_toArray]; rfl) (by kernel_rfl) (by kernel_rfl) (by kernel_rfl) (by kernel_rfl) (by kernel_rfl) (by exact fun _ _ _ h => h) (Or.inl ⟨by rfl, ?_⟩) hS ?_
    rotate_left
    · (intro wS hSw; (try dsimp only at hSw); go_simp; try with_reducible rfl)
    try simp only [Act.put, List.setIfInBounds_toArray, List.set_cons_zero, List.set_cons_succ]
    refine AnyX.take (i := 6) (oi := _) (v := ?_) (by rw [List.getElem?_toArray]; rfl) (by kernel_rfl) (by kernel_rfl) (by kernel_rfl) (by kernel_rfl) (by kernel_rfl) (by exact fun _ _ _ h => h) (Or.inl ⟨by rfl, ?_⟩) hS ?_
    rotate_left
    · (intro wS hSw; (try dsimp only at hSw); go_simp; try with_reducible rfl)
    try simp only [Act.put, List.setIfInBounds_toArray, List.set_cons_zero, List.set_cons_succ]
    refine AnyX.take (i := 7) (oi := _) (v := ?_) (by rw [List.getElem?_toArray]; rfl) (by kernel_rfl) (by kernel_rfl) (by kernel_rfl) (by kernel_rfl) (by kernel_rfl) (by exact fun _ _ _ h => h) (Or.inl ⟨by rfl, ?_⟩) hS ?_
    rotate_left
    · (intro wS hSw; (try dsimp only at hSw); go_simp; try with_reducible rfl)
    try simp only [Act.put, List.setIfInBounds_toArray, List.set_cons_zero, List.set_cons_succ]
    refine AnyX.take (i := 9) (oi := _) (v := ?_) (by rw [List.getElem?_toArray]; rfl) (by kernel_rfl) (by kernel_rfl) (by kernel_rfl) (by kernel_rfl) (by kernel_rfl) (by exact fun _ _ _ h => h) (Or.inl ⟨by rfl, ?_⟩) hS ?_
    rotate_left
    · (intro wS hSw; (try dsimp only at hSw); go_simp; try with_reducible rfl)
    try simp only [Act.put, List.setIfInBounds_toArray, List.set_cons_zero, List.set_cons_succ]
    refine AnyX.only (i := 8) (o := _) (by kernel_rfl) (by rw [List.getElem?_toArray]; rfl) (fun K hK => ?_)
    go_simp
    go_at_call 106
    refine (SendWindow_lead_c y.trail y.size a6 (y.items.length + 1) c6 _ hyt0 hyt1 (by omega)).mono ?_
    rintro e w13_ ⟨rfl, hb⟩
    have hs_w13_ := hb.size
    replace G := G.below hb
    replace R5 := R5.below hb
    replace o6 := o6.below hb
    replace hKp := hKp.trans (Keep.ofBelow (F := g :: F) hb)
    clear hb
    clear hS
    have hS : (fun w' => w'.cell? ⟨g, p, none⟩ = some (.int .i64 y.trail) ∧ w'.cell? ⟨g, p + 1, none⟩ = some (.int .i64 y.size) ∧ w'.cell? ⟨g, p + 2, none⟩ = some (.slice a6 (y.items.length + 1) c6)) w13_ := ⟨G.cellMid (p := p) (j := 0) (by omega) (by simp), G.cellMid (p := p + 1) (j := 1) (by omega) (by simp), G.cellMid (p := p + 2) (j := 2) (by omega) (by simp)⟩
    refine hK.out _ _ (fun _ => hS) ?_
    clear hK K
    try simp only [Act.put, List.setIfInBounds_toArray, List.set_cons_zero, List.set_cons_succ]
    refine AnyX.take (i := 10) (oi := _) (v := ?_) (by rw [List.getElem?_toArray]; rfl) (by kernel_rfl) (by kernel_rfl) (by kernel_rfl) (by kernel_rfl) (by kernel_rfl) (by exact fun _ _ _ h => h) (Or.inl ⟨by rfl, ?_⟩) hS ?_
    rotate_left
    · (intro wS hSw; (try dsimp only at hSw); go_simp; try with_reducible rfl)
    try simp only [Act.put, List.setIfInBounds_toArray, List.set_cons_zero, List.set_cons_succ]
    refine AnyX.only (i := 11) (o := _) (by kernel_rfl) (by rw [List.getElem?_toArray]; rfl) (fun K hK => ?_)
    have zG0 := G.cellMid (p := p) (j := 0) (by omega) (by simp)
    have zG1 := G.cellMid (p := p + 1) (j := 1) (by omega) (by simp)
    have zG2 := G.cellMid (p := p + 2) (j := 2) (by omega) (by simp)
    simp only [List.getElem?_cons_zero, List.getElem?_cons_succ] at zG0 zG1 zG2
    have f_G := G.frozens
    have c_R5 := R5.cells; have f_R5 := R5.frozens
    go_simp
    clear zG0 zG1 zG2 f_G c_R5 f_R5
    refine hK.out _ _ (fun h => by cases h) ?_
    clear hK K
    try simp only [Act.put, List.setIfInBounds_toArray, List.set_cons_zero, List.set_cons_succ]
    refine AnyX.done (by kernel_rfl) ?_ _
    (try clear hS)
    refine hK0 _ _ ?_
    clear hK0 K0
    replace o6 := Lib.hid o6
    have c_R5 := R5.cells; have f_R5 := R5.frozens
    go_wp2_with fail
    refine bodyPost_ret (v := .agg #[.int .i64 1, .int .i64 (aft x.trail x.items.length), .int .i64 y.trail, .int .i64 (aft y.trail ((y.items.length : Int) + 1)), .string s]) ?_ rfl ?_
    · simp [results, Tryd.results97, go_sem, c_R5, f_R5]
    · have hry2 := hry.out
      have hyz2 := hyz.out
      have o7 := o6.out
      refine ⟨by unfold pushedP; rw [hry2], F6, ?_, fun b hb => by rcases hF6 b hb with h1 | h1 <;> first | (exact .inl h1) | (exact .inr (by omega)), ?_⟩
      · rw [show pushedW x s = ⟨y.trail, y.size, y.items ++ [s]⟩ from by unfold pushedW; rw [hry2, hyz2]]
        refine ⟨[.int .i64 y.trail, .int .i64 y.size, .slice a6 (y.items.length + 1) c6], G.keep (by repeat rw [Below.heap_setCell _ _ _ _ (by simp <;> omega)]), hp, ⟨_, rfl, o7.frame fun b hb => ?_⟩, n6, g6⟩
        have hne : b ≠ w.heap.size := by
          rcases hF6 b hb with h1 | h1
          · have := lF _ h1; omega
          · omega
        repeat rw [Below.heap_setCell _ _ _ _ (by simp <;> omega)]
      · repeat refine Keep.setNew ?_ (by simp) _
        exact hKp
end Go.Proofs.YtidephmobajikaaDoor
