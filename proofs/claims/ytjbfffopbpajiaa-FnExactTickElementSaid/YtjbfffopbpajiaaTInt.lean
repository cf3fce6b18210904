/- Walks of the exact laws' helpers on slices of numbers: size, copy, equality, mark, held. -/
import Derived.Test.YtjbfffopbpajiaaOwn2
import Derived.Test.YtjbfffopbpajiaaStr1
import Derived.WalkSpells
import Derived.WalkLawsBesides
import Derived.Deep.QuietTactic
import Derived.BigQuiet
import Derived.Deep.RegionHeld3
import Derived.Deep.OwnRows
namespace Go.Proofs.Ytjbfffopbpajiaa
open Go.RowKit

theorem ret_int {a b : Int} (h : a = b) : Ending.returned (.int .i64 a) = .returned (.int .i64 b) := by rw [h]
theorem info_int : (Try.prog.info? 3).map (fun i => (i.zero, i.size, i.bytes)) = some (some (.int .i64 0), 1, 8) := by kernel_rfl

/-- what index k of a slice of numbers gives -/
theorem Sl.int {w : World} {a : Option Addr} {n cap : Nat} {xs : List Int} {F} (h : Sl EInt w (.slice a n cap) xs F) : n = xs.length ∧ n ≤ maxLen ∧
    ∀ k (hk : k < xs.length), ∃ b off, a = some ⟨b, off, none⟩ ∧ w.cell? ⟨b, off + k, none⟩ = some (.int .i64 xs[k]) := by
  obtain ⟨a', cap', hv, hl, h⟩ := h
  cases hv
  refine ⟨rfl, by omega, fun k hk => ?_⟩
  rcases h with ⟨rfl, _⟩ | ⟨b, off, F', rfl, _, _, hc⟩
  · simp at hk
  · obtain ⟨cs, F1, ⟨rfl, _⟩, hj, _⟩ := hc.get k hk
    exact ⟨b, off, rfl, by simpa [EInt] using hj 0 (by decide)⟩

theorem szIntS_c (v : Value) (zs : List Int) (F : List Nat) (n : Int) (w : World) (h : Sl EInt w v zs F) (h0 : 0 ≤ n) (h1 : n ≤ 1048576) :
    Calls Try.prog 69 #[v, .int .i64 n] w fun e w' => e = .returned (.int .i64 (szr n (wtL (fun _ => 0) zs))) ∧ Below w.heap.size w w' := by
  obtain ⟨a, cap, rfl, _, _⟩ := id h
  obtain ⟨_, hl, _⟩ := h.int
  unfold maxLen at hl
  rw [wtL_zero]
  go_enter Try.func69, Try.ntmps69
  go_wp2
  all_goals go_ret
  all_goals exact ⟨ret_int (by unfold szr; split <;> omega), Below.refl _ _⟩
set_option maxHeartbeats 400000 in
theorem toIntS_c (v : Value) (zs : List Int) (F : List Nat) (w : World) (h : Sl EInt w v zs F) (hl0 : wtL (fun _ => 0) zs ≤ 1048576) :
    Calls Try.prog 18 #[v] w (RetNew EInt 3 zs w) := by
  have hl1 : zs.length ≤ 1048576 := by rw [wtL_zero] at hl0; exact hl0
  obtain ⟨a, cap, rfl, _, _⟩ := id h
  have hmk := fun w => run_make_row' (P := Try.prog) 42 3 (.int .i64 0) 8 Try.underlying42 info_int rfl .i64 .i64 zs.length (by omega) (by omega) w
  have hm := Ow.made (E := EInt) (t := 3) w #[.int .i64 0] zs.length 0 rfl (fun _ => ⟨rfl, rfl⟩) (by unfold maxLen; omega)
  simp only [show EInt.sz = 1 from rfl, Nat.mul_one] at hm
  go_enter Try.func18, Try.ntmps18
  go_wp2
  clear hmk
  go_loopw [4] (fun i wr => ∃ k : Nat, k ≤ zs.length ∧ i = .int .i64 k ∧ ∃ F, Ow EInt 3 wr (.slice (some ⟨w.heap.size, 0, none⟩) zs.length zs.length) (zs.take k ++ List.replicate (zs.length - k) 0) F ∧ F.Nodup ∧ (∀ b ∈ F, w.heap.size ≤ b) ∧ Below w.heap.size w wr) (fun i _ => zs.length - (intOf i).toNat)
  case atStart => exact ⟨0, Nat.zero_le _, rfl, _, by simpa using hm, by simp, by simp, (Below.refl _ _).alloc (Nat.le_refl _) _⟩
  case round =>
    obtain ⟨k, hk, rfl, F, ho, hn, hF, hb⟩ := hrel
    by_cases hlt : k < zs.length
    · obtain ⟨b, off, rfl, hc⟩ := h.int.2.2 k hlt
      have hcl := hc
      have hc := (hb.cell (World.block_lt_of_cell? w _ hc)).trans hc
      obtain ⟨_, hcell, hput⟩ := ho.put hn k (by simp; omega)
      obtain ⟨⟨u, hg⟩, hfz⟩ := hcell 0 (by decide)
      simp only [show EInt.sz = 1 from rfl, Nat.mul_one, Nat.add_zero] at hg hfz hput
      obtain ⟨F2, ho2, hn2, hs2⟩ := hput [.int .i64 zs[k]] zs[k] [] ⟨rfl, rfl⟩ (by simp) (by simp)
      rw [set_take_rep zs 0 k zs.length rfl hlt zs[k] (by simp)] at ho2
      have HO := Lib.hid ho2
      clear ho ho2 hput hcell hcl
      go_wp2
      exact ⟨⟨k + 1, by omega, by go_num, F2, HO.out, hn2, fun b hb => by rcases hs2 b hb with hb | hb; exact hF b hb; simp at hb, hb.setCell (Nat.le_refl _) _⟩, by simp [intOf]; omega⟩
    · have hk : k = zs.length := by omega
      subst hk
      have HO := Lib.hid ho
      clear ho
      go_wp2
      go_ret
      exact ⟨_, F, rfl, by simpa using HO.out, hn, hF, hb⟩

set_option maxHeartbeats 400000 in
theorem eqIntS_c (va vb : Value) (zs : List Int) (Fa Fb : List Nat) (w : World) (ha : Sl EInt w va zs Fa) (hb : Sl EInt w vb zs Fb) :
    Calls Try.prog 20 #[va, vb] w fun e w' => e = .returned (.bool true) ∧ Below w.heap.size w w' := by
  obtain ⟨a, ca, rfl, _, _⟩ := id ha
  obtain ⟨b, cb, rfl, _, _⟩ := id hb
  obtain ⟨_, hla, ha⟩ := ha.int
  obtain ⟨_, -, hb⟩ := hb.int
  unfold maxLen at hla
  go_enter Try.func20, Try.ntmps20
  go_wp2
  go_loopw [5] (fun i wr => ∃ k : Nat, k ≤ zs.length ∧ i = .int .i64 k ∧ ∃ n, wr = w.drewN n) (fun i _ => zs.length - (intOf i).toNat)
  case atStart => exact ⟨0, Nat.zero_le _, rfl, 0, rfl⟩
  case round =>
    obtain ⟨k, hk, rfl, n, rfl⟩ := hrel
    by_cases hlt : k < zs.length
    · obtain ⟨ba, oa, rfl, hca⟩ := ha k hlt
      obtain ⟨bb, ob, rfl, hcb⟩ := hb k hlt
      clear ha hb
      have he' : (zs[k] != zs[k]) = false := by simp
      go_wp2
      go_quiet (fail)
      go_wp2
      exact ⟨⟨k + 1, by omega, by go_num, n + nq, by simp⟩, by simp [intOf]; omega⟩
    · go_wp2
      go_ret
      exact ⟨rfl, belowDrewN (Below.refl _ _) _⟩

theorem sum_cntI (xs : List Int) (k : Nat) (h : k ≤ xs.length) : psum cntI xs k = k := by
  have : ∀ ys : List Int, (ys.map cntI).sum = ys.length := fun ys => by
    induction ys with
    | nil => rfl
    | cons y r ih => simp only [List.map_cons, List.sum_cons, ih, List.length_cons, cntI]; omega
  unfold psum; rw [this]; simp; omega
theorem cntL_int (xs : List Int) : cntL cntI xs = xs.length := by have := sum_cntI xs xs.length (Nat.le_refl _); rwa [psum_all] at this
set_option maxHeartbeats 400000 in
theorem markIntS_c (v : Value) (zs : List Int) (F : List Nat) (k0 : Int) (w : World) (h : Ow EInt 3 w v zs F) (hn : F.Nodup) (h0 : 0 ≤ k0) (h1 : k0 + cntL cntI zs ≤ 1099511627776) :
    Calls Try.prog 21 #[v, .int .i64 k0] w (RetMark EInt 3 v (k0 + cntL cntI zs) (markL mkI cntI k0 zs) F w) := by
  obtain ⟨a, cap, rfl⟩ := h.slice
  rw [cntL_int] at h1
  go_enter Try.func21, Try.ntmps21
  go_wp2
  go_loopw [1, 5] (fun kk i wr => ∃ k : Nat, k ≤ zs.length ∧ i = .int .i64 k ∧ kk = .int .i64 (k0 + k) ∧ Ow EInt 3 wr (.slice a zs.length cap) ((markL mkI cntI k0 zs).take k ++ zs.drop k) F ∧ Keep F w wr) (fun _ i _ => zs.length - (intOf i).toNat)
  case atStart => exact ⟨0, Nat.zero_le _, rfl, by simp, by simpa using h, Keep.refl _ _⟩
  case round =>
    obtain ⟨k, hk, rfl, rfl, ho, hb⟩ := hrel
    by_cases hlt : k < zs.length
    · have hln : k < ((markL mkI cntI k0 zs).take k ++ zs.drop k).length := by simp [markL_len]; omega
      obtain ⟨g, rfl⟩ := ho.head k hln
      obtain ⟨A, c, B, Fi, hrow, hA, hcl, ⟨rfl, rfl⟩, -, -, hgF, -, back⟩ := ho.inPlace hn k hln
      rw [show EInt.sz = 1 from rfl, Nat.mul_one] at hA
      have hg := hrow.cellMid (p := k) (j := 0) (by omega) (by simp)
      have hfz := hrow.frozen k
      have HB := Lib.hid (back (wr.setCell ⟨g, k, none⟩ (.int .i64 (k0 + k))) [.int .i64 (k0 + k)] (k0 + k) (hrow.setMid (p := k) (j := 0) (by omega) (by simp) _) ⟨rfl, rfl⟩ ((Keep.refl _ _).setCell (by simp) _))
      have hst := markL_step mkI cntI zs k0 k hlt
      rw [sum_cntI zs k (by omega)] at hst
      simp only [mkI] at hst
      rw [hst] at HB
      clear hst
      clear ho back hA
      simp only [List.getElem?_cons_zero] at hg
      go_wp2
      exact ⟨⟨k + 1, by omega, by go_num, by go_num, HB.out, hb.setCell hgF _⟩, by simp [intOf]; omega⟩
    · have hk : k = zs.length := by omega
      subst hk
      have HO := Lib.hid ho
      clear ho
      go_wp2
      go_ret
      exact ⟨ret_int (by rw [cntL_int]), by simpa [markL_len, List.take_of_length_le] using HO.out, hb⟩
set_option maxHeartbeats 400000 in
theorem heldIntS_c (v : Value) (zs : List Int) (F : List Nat) (k0 : Int) (w : World) (h : Sl EInt w v (markL mkI cntI k0 zs) F) (h0 : 0 ≤ k0) (h1 : k0 + cntL cntI zs ≤ 1099511627776) :
    Calls Try.prog 22 #[v, .int .i64 k0] w fun e w' => e = .returned (.int .i64 (k0 + cntL cntI zs)) ∧ Below w.heap.size w w' := by
  obtain ⟨a, cap, rfl, _, _⟩ := id h
  obtain ⟨_, _, h⟩ := h.int
  have hm : ∀ k (hk : k < zs.length), (markL mkI cntI k0 zs)[k]'(by rw [markL_len]; exact hk) = k0 + k := fun k hk => by
    rw [markL_get mkI cntI zs k0 k hk, sum_cntI zs k (by omega)]; rfl
  rw [cntL_int] at h1 ⊢
  rw [markL_len]
  go_enter Try.func22, Try.ntmps22
  go_wp2
  go_loop [1, 5] (fun kk i => ∃ k : Nat, k ≤ zs.length ∧ i = .int .i64 k ∧ kk = .int .i64 (k0 + k)) (fun _ i => zs.length - (intOf i).toNat)
  case atStart => exact ⟨0, Nat.zero_le _, rfl, by simp⟩
  case round =>
    obtain ⟨k, hk, rfl, rfl⟩ := hrel
    by_cases hlt : k < zs.length
    · obtain ⟨b, off, rfl, hc⟩ := h k (by rw [markL_len]; exact hlt)
      rw [hm k hlt] at hc
      clear h hm
      have he : ((k0 + k : Int) != k0 + k) = false := by simp
      go_wp2
      go_round
      case rel => exact ⟨k + 1, by omega, by go_num, by go_num⟩
      case measure => simp [intOf]; omega
    · have hk : k = zs.length := by omega
      subst hk
      go_wp2
      go_ret
      exact ⟨rfl, Below.refl _ _⟩
end Go.Proofs.Ytjbfffopbpajiaa
