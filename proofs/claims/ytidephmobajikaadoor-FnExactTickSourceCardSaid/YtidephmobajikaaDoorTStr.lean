/- Walks of the exact laws' helpers on slices of strings: size, copy, equality, mark, held; the text of a mark. -/
import Derived.Test.YtidephmobajikaaDoorTInt
namespace Go.Proofs.YtidephmobajikaaDoor
open Go.RowKit

theorem info_string : (Tryd.prog.info? 9).map (fun i => (i.zero, i.size, i.bytes)) = some (some (.string ⟨#[]⟩), 1, 16) := by kernel_rfl

/-- what index k of a slice of strings gives -/
theorem Sl.str {w : World} {a : Option Addr} {n cap : Nat} {xs : List ByteArray} {F} (h : Sl EStr w (.slice a n cap) xs F) : n = xs.length ∧ n ≤ maxLen ∧
    ∀ k (hk : k < xs.length), xs[k].size ≤ maxLen ∧ ∃ b off, a = some ⟨b, off, none⟩ ∧ w.cell? ⟨b, off + k, none⟩ = some (.string xs[k]) := by
  obtain ⟨a', cap', hv, hl, h⟩ := h
  cases hv
  refine ⟨rfl, by omega, fun k hk => ?_⟩
  rcases h with ⟨rfl, _⟩ | ⟨b, off, F', rfl, _, _, hc⟩
  · simp at hk
  · obtain ⟨cs, F1, ⟨rfl, hs, _⟩, hj, _⟩ := hc.get k hk
    exact ⟨hs, b, off, rfl, by simpa [EStr] using hj 0 (by decide)⟩

set_option maxHeartbeats 400000 in
theorem szStringS_c (v : Value) (zs : List ByteArray) (F : List Nat) (n : Int) (w : World) (h : Sl EStr w v zs F) (h0 : 0 ≤ n) (h1 : n ≤ 1048576) :
    Calls Tryd.prog 197 #[v, .int .i64 n] w fun e w' => e = .returned (.int .i64 (szr n (wtL ByteArray.size zs))) ∧ Below w.heap.size w w' := by
  obtain ⟨a, cap, rfl⟩ := h.slice
  obtain ⟨_, hl, hc⟩ := h.str
  unfold maxLen at hl hc
  go_enter Tryd.func197, Tryd.ntmps197
  by_cases hn : n < zs.length
  · go_wp2
    go_ret
    exact ⟨ret_int (szr_no (by have := wtL_le ByteArray.size zs 0; omega)).symm, Below.refl _ _⟩
  go_wp2
  go_loop [1, 5] (fun l i => ∃ k : Nat, k ≤ zs.length ∧ i = .int .i64 k ∧ l = .int .i64 (n - zs.length - psum ByteArray.size zs k) ∧ (psum ByteArray.size zs k : Int) + zs.length ≤ n) (fun _ i => zs.length - (intOf i).toNat)
  case atStart => exact ⟨0, Nat.zero_le _, rfl, by rw [psum_zero]; simp, by rw [psum_zero]; omega⟩
  case round =>
    obtain ⟨k, hk, rfl, rfl, hle⟩ := hrel
    by_cases hlt : k < zs.length
    · have hsn := psum_snoc ByteArray.size zs k hlt
      have hsl := wtL_le ByteArray.size zs (k + 1)
      obtain ⟨hs, b, off, rfl, c0⟩ := hc k hlt
      have hS := Lib.hid hsn; clear hsn hc
      by_cases hr : n - zs.length - psum ByteArray.size zs k < zs[k].size
      · have hr2 : n - zs.length - psum ByteArray.size zs k - zs[k].size < 0 := by omega
        go_wp2
        go_ret
        exact ⟨ret_int (szr_no (by have := hS.out; omega)).symm, Below.refl _ _⟩
      · have hr2 : ¬ n - zs.length - psum ByteArray.size zs k - zs[k].size < 0 := by omega
        go_wp2
        go_round
        case rel => exact ⟨k + 1, by omega, by go_num, congrArg (Value.int .i64) (by have := hS.out; omega), by have := hS.out; omega⟩
        case measure => simp [intOf]; omega
    · have hk : k = zs.length := by omega
      subst hk
      go_wp2
      go_ret
      exact ⟨ret_int (by rw [szr_yes (by rw [wtL_eq]; omega), wtL_eq]; omega), Below.refl _ _⟩
set_option maxHeartbeats 400000 in
theorem toStringS_c (v : Value) (zs : List ByteArray) (F : List Nat) (w : World) (h : Sl EStr w v zs F) (hl0 : wtL ByteArray.size zs ≤ 1048576) :
    Calls Tryd.prog 200 #[v] w (RetNew EStr 9 zs w) := by
  have hl1 : zs.length ≤ 1048576 := by have := wtL_le ByteArray.size zs 0; omega
  obtain ⟨a, cap, rfl⟩ := h.slice
  have hmk := fun w => run_make_row' (P := Tryd.prog) 24 9 (.string ⟨#[]⟩) 16 Tryd.underlying24 info_string rfl .i64 .i64 zs.length (by omega) (by omega) w
  have hm := Ow.made (E := EStr) (t := 9) w #[.string ⟨#[]⟩] zs.length ⟨#[]⟩ rfl (fun _ => ⟨rfl, by simp [ByteArray.size], rfl⟩) (by unfold maxLen; omega)
  simp only [show EStr.sz = 1 from rfl, Nat.mul_one] at hm
  go_enter Tryd.func200, Tryd.ntmps200
  go_wp2
  clear hmk
  go_loopw [4] (fun i wr => ∃ k : Nat, k ≤ zs.length ∧ i = .int .i64 k ∧ ∃ F, Ow EStr 9 wr (.slice (some ⟨w.heap.size, 0, none⟩) zs.length zs.length) (zs.take k ++ List.replicate (zs.length - k) ⟨#[]⟩) F ∧ F.Nodup ∧ (∀ b ∈ F, w.heap.size ≤ b) ∧ Below w.heap.size w wr) (fun i _ => zs.length - (intOf i).toNat)
  case atStart => exact ⟨0, Nat.zero_le _, rfl, _, by simpa using hm, by simp, by simp, (Below.refl _ _).alloc (Nat.le_refl _) _⟩
  case round =>
    obtain ⟨k, hk, rfl, F, ho, hn, hF, hb⟩ := hrel
    by_cases hlt : k < zs.length
    · obtain ⟨hs, b, off, rfl, hc⟩ := h.str.2.2 k hlt
      have hcl := hc
      have hc := (hb.cell (World.block_lt_of_cell? w _ hc)).trans hc
      obtain ⟨_, hcell, hput⟩ := ho.put hn k (by simp; omega)
      obtain ⟨⟨u, hg⟩, hfz⟩ := hcell 0 (by decide)
      simp only [show EStr.sz = 1 from rfl, Nat.mul_one, Nat.add_zero] at hg hfz hput
      obtain ⟨F2, ho2, hn2, hs2⟩ := hput [.string zs[k]] zs[k] [] ⟨rfl, hs, rfl⟩ (by simp) (by simp)
      rw [set_take_rep zs ⟨#[]⟩ k zs.length rfl hlt zs[k] (by simp)] at ho2
      have HO := Lib.hid ho2
      clear ho ho2 hput hcell hcl
      go_wp2
      exact ⟨⟨k + 1, by omega, by go_num, F2, HO.out, hn2, fun b hb => by rcases hs2 b hb with hb | hb; exact hF b hb; simp at hb, hb.setCell (Nat.le_refl _) _⟩, by simp [intOf]; omega⟩
    · have hk : k = zs.length := by omega
      subst hk
      have HO := Lib.hid ho
      clear ho
      go_wp2
      go_ret
      exact ⟨_, F, rfl, by simpa using HO.out, hn, hF, hb⟩

set_option maxHeartbeats 400000 in
theorem eqStringS_c (va vb : Value) (zs : List ByteArray) (Fa Fb : List Nat) (w : World) (ha : Sl EStr w va zs Fa) (hb : Sl EStr w vb zs Fb) :
    Calls Tryd.prog 206 #[va, vb] w fun e w' => e = .returned (.bool true) ∧ Below w.heap.size w w' := by
  obtain ⟨a, ca, rfl⟩ := ha.slice
  obtain ⟨b, cb, rfl⟩ := hb.slice
  obtain ⟨_, hla, ha⟩ := ha.str
  obtain ⟨_, -, hb⟩ := hb.str
  unfold maxLen at hla ha
  go_enter Tryd.func206, Tryd.ntmps206
  go_wp2
  go_loopw [5] (fun i wr => ∃ k : Nat, k ≤ zs.length ∧ i = .int .i64 k ∧ ∃ n, wr = w.drewN n) (fun i _ => zs.length - (intOf i).toNat)
  case atStart => exact ⟨0, Nat.zero_le _, rfl, 0, rfl⟩
  case round =>
    obtain ⟨k, hk, rfl, n, rfl⟩ := hrel
    by_cases hlt : k < zs.length
    · obtain ⟨hs, ba, oa, rfl, hca⟩ := ha k hlt
      obtain ⟨-, bb, ob, rfl, hcb⟩ := hb k hlt
      clear ha hb
      go_wp2
      go_quiet (fail)
      go_wp2
      exact ⟨⟨k + 1, by omega, by go_num, n + nq, by simp⟩, by simp [intOf]; omega⟩
    · go_wp2
      go_ret
      exact ⟨rfl, belowDrewN (Below.refl _ _) _⟩

theorem sum_cntS (xs : List ByteArray) (k : Nat) (h : k ≤ xs.length) : psum cntS xs k = k := by
  have : ∀ ys : List ByteArray, (ys.map cntS).sum = ys.length := fun ys => by
    induction ys with
    | nil => rfl
    | cons y r ih => simp only [List.map_cons, List.sum_cons, ih, List.length_cons, cntS]; omega
  unfold psum; rw [this]; simp; omega
theorem cntL_str (xs : List ByteArray) : cntL cntS xs = xs.length := by have := sum_cntS xs xs.length (Nat.le_refl _); rwa [psum_all] at this
theorem ba_append (a b : Array UInt8) : (⟨a⟩ : ByteArray) ++ ⟨b⟩ = ⟨a ++ b⟩ := by apply ByteArray.ext; simp [ByteArray.data_append]
theorem mdigits_zero (m : Nat) (r : List UInt8) : mdigits m 0 r = r := by cases m <;> simp [mdigits]
theorem mdigits_pos (m k : Nat) (r : List UInt8) (h : k ≠ 0) : mdigits (m + 1) k r = mdigits m (k / 10) (UInt8.ofNat (48 + k % 10) :: r) := by simp [mdigits, h]
set_option maxHeartbeats 400000 in
set_option maxRecDepth 100000 in
theorem markText_c (k : Int) (w : World) (h0 : 0 ≤ k) (h1 : k ≤ 1099511627776) :
    Calls Tryd.prog 167 #[.int .i64 k] w fun e w' => e = .returned (.string (mtext k)) ∧ Below w.heap.size w w' := by
  by_cases hk : k ≤ 0
  · have hm : mtext k = ⟨#[109, 48]⟩ := by unfold mtext; rw [if_pos hk]
    have hm := Lib.hid hm
    go_enter Tryd.func167, Tryd.ntmps167
    go_wp2
    go_ret
    exact ⟨by rw [hm.out]; rfl, Below.refl _ _⟩
  obtain ⟨kn, rfl⟩ := Int.eq_ofNat_of_zero_le h0
  have hm : mtext (kn : Int) = ⟨(109 :: mdigits 20 kn []).toArray⟩ := by unfold mtext; rw [if_neg hk]; rfl
  have hm := Lib.hid hm
  generalize hD : mdigits 20 kn [] = D at *
  have hD := Lib.hid hD
  have hk : ¬ kn ≤ 0 := by omega
  go_enter Tryd.func167, Tryd.ntmps167
  go_wp2
  go_loopw [0, 3] (fun k o wr => ∃ (m kk : Nat) (r : List UInt8), k = .int .i64 (kk : Int) ∧ o = .string ⟨r.toArray⟩ ∧ (kk : Int) ≤ 1099511627776 ∧ r.length + m ≤ 20 ∧ Hid (kk < 10 ^ m) ∧ Hid (mdigits m kk r = D) ∧ Below w.heap.size w wr) (fun k _ _ => (intOf k).toNat)
  case atStart => exact ⟨20, kn, [], rfl, rfl, h1, by simp, by show kn < 10 ^ 20; omega, hD, Below.refl _ _⟩
  case round =>
    obtain ⟨m, kk, r, rfl, rfl, hkk, hr, hp, hd, hB⟩ := hrel
    by_cases h0 : 0 < kk
    · have b0 : (0 : Int) ≤ (kk : Int) % 10 := by omega
      have b1 : (kk : Int) % 10 ≤ 9 := by omega
      have hcv : ((convert 22 9 (.slice (some ⟨wr.heap.size, 0, none⟩) 1 1)).run Tryd.prog (wr.alloc (.cells #[.int .u8 (48 + (kk : Int) % 10)] 5))) = .ok (.string ⟨[UInt8.ofNat (48 + kk % 10)].toArray⟩) (wr.alloc (.cells #[.int .u8 (48 + (kk : Int) % 10)] 5)) := by
        have h := run_convert_bytes_back (P := Tryd.prog) (wr.alloc (.cells #[.int .u8 (48 + (kk : Int) % 10)] 5)) 22 9 5 ⟨wr.heap.size, 0, none⟩ 1 [UInt8.ofNat (48 + kk % 10)] Tryd.underlying22 Tryd.underlying5 Tryd.underlying9 (fun j hj => by
          obtain rfl : j = 0 := by simpa using hj
          have e1 : (UInt8.ofNat (48 + kk % 10)).toNat = 48 + kk % 10 := by rw [UInt8.toNat_ofNat']; omega
          simp only [List.getElem_cons_zero, e1]
          simp [Addr.add])
        exact h
      obtain ⟨m', rfl⟩ : ∃ m', m = m' + 1 := ⟨m - 1, by have := hp.out; rcases m with _ | m <;> simp at this ⊢; omega⟩
      have hp' : Hid (kk / 10 < 10 ^ m') := by have := hp.out; rw [Nat.pow_succ] at this; show kk / 10 < 10 ^ m'; omega
      have hd' : Hid (mdigits m' (kk / 10) (UInt8.ofNat (48 + kk % 10) :: r) = D) := by rw [← mdigits_pos m' kk r (by omega)]; exact hd
      clear hd hp
      go_wp2
      exact ⟨⟨m', kk / 10, UInt8.ofNat (48 + kk % 10) :: r, by simp, congrArg Value.string (by rw [ba_append]; simp), by omega, by simp; omega, hp', hd', hB.alloc hB.size _⟩, by simp [intOf]; omega⟩
    · go_wp2
      go_ret
      have hk0 : kk = 0 := by omega
      have hd := hd.out
      rw [hk0, mdigits_zero] at hd
      subst hd
      exact ⟨by rw [hm.out, ba_append]; simp, hB⟩
set_option maxHeartbeats 400000 in
theorem markStringS_c (v : Value) (zs : List ByteArray) (F : List Nat) (k0 : Int) (w : World) (h : Ow EStr 9 w v zs F) (hn : F.Nodup) (h0 : 0 ≤ k0) (h1 : k0 + cntL cntS zs ≤ 1099511627776) :
    Calls Tryd.prog 208 #[v, .int .i64 k0] w (RetMark EStr 9 v (k0 + cntL cntS zs) (markL mkS cntS k0 zs) F w) := by
  obtain ⟨a, cap, rfl⟩ := h.slice
  have hl := h.len
  unfold maxLen at hl
  rw [cntL_str] at h1
  go_enter Tryd.func208, Tryd.ntmps208
  go_wp2
  go_loopw [1, 5] (fun kk i wr => ∃ k : Nat, k ≤ zs.length ∧ i = .int .i64 k ∧ kk = .int .i64 (k0 + k) ∧ Ow EStr 9 wr (.slice a zs.length cap) ((markL mkS cntS k0 zs).take k ++ zs.drop k) F ∧ Keep F w wr) (fun _ i _ => zs.length - (intOf i).toNat)
  case atStart => exact ⟨0, Nat.zero_le _, rfl, by simp, by simpa using h, Keep.refl _ _⟩
  case round =>
    obtain ⟨k, hk, rfl, rfl, ho, hK⟩ := hrel
    by_cases hlt : k < zs.length
    · have hln : k < ((markL mkS cntS k0 zs).take k ++ zs.drop k).length := by simp [markL_len]; omega
      obtain ⟨g, rfl⟩ := ho.head k hln
      obtain ⟨A, c, B, Fi, hrow, hA, hcl, ⟨rfl, -, rfl⟩, -, -, hgF, -, back⟩ := ho.inPlace hn k hln
      rw [show EStr.sz = 1 from rfl, Nat.mul_one] at hA
      have hst := markL_step mkS cntS zs k0 k hlt
      rw [sum_cntS zs k (by omega)] at hst
      have hst := Lib.hid hst
      have hbk := Lib.hid back
      clear ho back
      have z0 := hrow.cellMid (p := k) (j := 0) (by omega) (by simp)
      have hfz := hrow.frozens
      simp only [List.getElem?_cons_zero] at z0
      go_wp2_with fail
      refine (markText_c (k0 + k) _ (by omega) (by omega)).mono ?_
      rintro e w1 ⟨rfl, hb1⟩
      have hrow := hrow.below hb1
      have KK := Keep.ofBelow (F := [g]) hb1
      have z0 := hrow.cellMid (p := k) (j := 0) (by omega) (by simp)
      have hfz := hrow.frozens
      simp only [List.getElem?_cons_zero] at z0
      clear hb1
      go_wp2_with fail
      have HB := hbk.out (w1.setCell ⟨g, k, none⟩ (.string (mtext (k0 + k)))) [.string (mtext (k0 + k))] (mtext (k0 + k)) (hrow.setMid (p := k) (j := 0) (by omega) (by simp) _) ⟨rfl, mtext_len _, rfl⟩ (KK.setCell (by simp) _)
      have hst := hst.out
      simp only [mkS] at hst
      rw [hst] at HB
      exact ⟨⟨k + 1, by omega, by go_num, by go_num, HB, (hK.trans (KK.mono (fun b hb _ => by simp at hb; subst hb; exact hgF))).setCell hgF _⟩, by simp [intOf]; omega⟩
    · have hk : k = zs.length := by omega
      subst hk
      have HO := Lib.hid ho
      clear ho
      go_wp2
      go_ret
      exact ⟨ret_int (by rw [cntL_str]), by simpa [markL_len, List.take_of_length_le] using HO.out, hK⟩
set_option maxHeartbeats 400000 in
theorem heldStringS_c (v : Value) (zs : List ByteArray) (F : List Nat) (k0 : Int) (w : World) (h : Sl EStr w v (markL mkS cntS k0 zs) F) (h0 : 0 ≤ k0) (h1 : k0 + cntL cntS zs ≤ 1099511627776) :
    Calls Tryd.prog 209 #[v, .int .i64 k0] w fun e w' => e = .returned (.int .i64 (k0 + cntL cntS zs)) ∧ Below w.heap.size w w' := by
  obtain ⟨a, cap, rfl⟩ := h.slice
  have hm : ∀ k (hk : k < zs.length), (markL mkS cntS k0 zs)[k]'(by rw [markL_len]; exact hk) = mtext (k0 + k) := fun k hk => by
    rw [markL_get mkS cntS zs k0 k hk, sum_cntS zs k (by omega)]; rfl
  have hl := h.len
  rw [markL_len] at hl
  unfold maxLen at hl
  rw [cntL_str] at h1 ⊢
  rw [markL_len]
  go_enter Tryd.func209, Tryd.ntmps209
  go_wp2
  go_loopw [1, 5] (fun kk i wr => ∃ k : Nat, k ≤ zs.length ∧ i = .int .i64 k ∧ kk = .int .i64 (k0 + k) ∧ Below w.heap.size w wr) (fun _ i _ => zs.length - (intOf i).toNat)
  case atStart => exact ⟨0, Nat.zero_le _, rfl, by simp, Below.refl _ _⟩
  case round =>
    obtain ⟨k, hk, rfl, rfl, hB⟩ := hrel
    by_cases hlt : k < zs.length
    · obtain ⟨hs, b, off, hab, hc⟩ := (h.below (by decide) hB).str.2.2 k (by rw [markL_len]; exact hlt)
      rw [hm k hlt] at hc
      have h := Lib.hid h
      have hm := Lib.hid hm
      subst hab
      go_wp2_with fail
      go_region_held3 (fun w' => w'.cell? ⟨b, off + k, none⟩ = some (.string (mtext (k0 + k)))) (first | go_keep | (exact kc hb1 hc) | (exact hc))
        (first | (go_at_call 167; refine (markText_c (k0 + k) wr.drew (by omega) (by omega)).mono ?_; rintro e w1 ⟨rfl, hb1⟩))
      have hB := tr (belowDrewN hB 1) hb1 (Nat.le_refl _)
      clear hb1
      go_wp2_with fail
      exact ⟨⟨k + 1, by omega, by go_num, by go_num, hB⟩, by simp [intOf]; omega⟩
    · have hk : k = zs.length := by omega
      subst hk
      go_wp2
      go_ret
      exact ⟨rfl, hB⟩
end Go.Proofs.YtidephmobajikaaDoor
