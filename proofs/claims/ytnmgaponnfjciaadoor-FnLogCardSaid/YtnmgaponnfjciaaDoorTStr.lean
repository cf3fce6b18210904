/- Walks of the exact laws' helpers on slices of strings: size, copy, equality, mark, held; the text of a mark. -/
import Derived.Test.YtnmgaponnfjciaaDoorTInt
namespace Go.Proofs.YtnmgaponnfjciaaDoor
open Go.RowKit

theorem info_string : (Tryd.prog.info? 9).map (fun i => (i.zero, i.size, i.bytes)) = some (some (.string ⟨#[]⟩), 1, 16) := by kernel_rfl

/-- what index k of a slice of strings gives -/
theorem Sl.str {w : World} {a : Option Addr} {n cap : Nat} {xs : List ByteArray} {F} (h : Sl EStr w (.slice a n cap) xs F) : n = xs.length ∧ n ≤ maxLen ∧
    ∀ k (hk : k < xs.length), xs[k].size ≤ maxLen ∧ ∃ b off, a = some ⟨b, off, none⟩ ∧ w.cell? ⟨b, off + k, none⟩ = some (.string xs[k]) := by
  obtain ⟨a', cap', hv, hl, h⟩ := h
  cases hv
  refine ⟨rfl, by omega, fun k hk => ?_⟩
  rcases h with ⟨rfl, _⟩ | ⟨b, off, F', rfl, _, _, hc⟩
  · simp at hk
  · obtain ⟨cs, F1, ⟨rfl, hs, _⟩, hj, _⟩ := hc.get k hk
    exact ⟨hs, b, off, rfl, by simpa [EStr] using hj 0 (by decide)⟩



theorem sum_cntS (xs : List ByteArray) (k : Nat) (h : k ≤ xs.length) : psum cntS xs k = k := by
  have : ∀ ys : List ByteArray, (ys.map cntS).sum = ys.length := fun ys => by
    induction ys with
    | nil => rfl
    | cons y r ih => simp only [List.map_cons, List.sum_cons, ih, List.length_cons, cntS]; omega
  unfold psum; rw [this]; simp; omega
theorem cntL_str (xs : List ByteArray) : cntL cntS xs = xs.length := by have := sum_cntS xs xs.length (Nat.le_refl _); rwa [psum_all] at this
theorem ba_append (a b : Array UInt8) : (⟨a⟩ : ByteArray) ++ ⟨b⟩ = ⟨a ++ b⟩ := by apply ByteArray.ext; simp [ByteArray.data_append]
theorem mdigits_zero (m : Nat) (r : List UInt8) : mdigits m 0 r = r := by cases m <;> simp [mdigits]
theorem mdigits_pos (m k : Nat) (r : List UInt8) (h : k ≠ 0) : mdigits (m + 1) k r = mdigits m (k / 10) (UInt8.ofNat (48 + k % 10) :: r) := by simp [mdigits, h]
set_option maxHeartbeats 400000 in
set_option maxRecDepth 100000 in
theorem markText_c (k : Int) (w : World) (h0 : 0 ≤ k) (h1 : k ≤ 1099511627776) :
    Calls Tryd.prog 52 #[.int .i64 k] w fun e w' => e = .returned (.string (mtext k)) ∧ Below w.heap.size w w' := by
  by_cases hk : k ≤ 0
  · have hm : mtext k = ⟨#[109, 48]⟩ := by unfold mtext; rw [if_pos hk]
    have hm := Lib.hid hm
    go_enter Tryd.func52, Tryd.ntmps52
    go_wp2
    go_ret
    exact ⟨by rw [hm.out]; rfl, Below.refl _ _⟩
  obtain ⟨kn, rfl⟩ := Int.eq_ofNat_of_zero_le h0
  have hm : mtext (kn : Int) = ⟨(109 :: mdigits 20 kn []).toArray⟩ := by unfold mtext; rw [if_neg hk]; rfl
  have hm := Lib.hid hm
  generalize hD : mdigits 20 kn [] = D at *
  have hD := Lib.hid hD
  have hk : ¬ kn ≤ 0 := by omega
  go_enter Tryd.func52, Tryd.ntmps52
  go_wp2
  go_loopw [0, 3] (fun k o wr => ∃ (m kk : Nat) (r : List UInt8), k = .int .i64 (kk : Int) ∧ o = .string ⟨r.toArray⟩ ∧ (kk : Int) ≤ 1099511627776 ∧ r.length + m ≤ 20 ∧ Hid (kk < 10 ^ m) ∧ Hid (mdigits m kk r = D) ∧ Below w.heap.size w wr) (fun k _ _ => (intOf k).toNat)
  case atStart => exact ⟨20, kn, [], rfl, rfl, h1, by simp, by show kn < 10 ^ 20; omega, hD, Below.refl _ _⟩
  case round =>
    obtain ⟨m, kk, r, rfl, rfl, hkk, hr, hp, hd, hB⟩ := hrel
    by_cases h0 : 0 < kk
    · have b0 : (0 : Int) ≤ (kk : Int) % 10 := by omega
      have b1 : (kk : Int) % 10 ≤ 9 := by omega
      have hcv : ((convert 53 9 (.slice (some ⟨wr.heap.size, 0, none⟩) 1 1)).run Tryd.prog (wr.alloc (.cells #[.int .u8 (48 + (kk : Int) % 10)] 5))) = .ok (.string ⟨[UInt8.ofNat (48 + kk % 10)].toArray⟩) (wr.alloc (.cells #[.int .u8 (48 + (kk : Int) % 10)] 5)) := by
        have h := run_convert_bytes_back (P := Tryd.prog) (wr.alloc (.cells #[.int .u8 (48 + (kk : Int) % 10)] 5)) 53 9 5 ⟨wr.heap.size, 0, none⟩ 1 [UInt8.ofNat (48 + kk % 10)] Tryd.underlying53 Tryd.underlying5 Tryd.underlying9 (fun j hj => by
          obtain rfl : j = 0 := by simpa using hj
          have e1 : (UInt8.ofNat (48 + kk % 10)).toNat = 48 + kk % 10 := by rw [UInt8.toNat_ofNat']; omega
          simp only [List.getElem_cons_zero, e1]
          simp [Addr.add])
        exact h
      obtain ⟨m', rfl⟩ : ∃ m', m = m' + 1 := ⟨m - 1, by have := hp.out; rcases m with _ | m <;> simp at this ⊢; omega⟩
      have hp' : Hid (kk / 10 < 10 ^ m') := by have := hp.out; rw [Nat.pow_succ] at this; show kk / 10 < 10 ^ m'; omega
      have hd' : Hid (mdigits m' (kk / 10) (UInt8.ofNat (48 + kk % 10) :: r) = D) := by rw [← mdigits_pos m' kk r (by omega)]; exact hd
      clear hd hp
      go_wp2
      exact ⟨⟨m', kk / 10, UInt8.ofNat (48 + kk % 10) :: r, by simp, congrArg Value.string (by rw [ba_append]; simp), by omega, by simp; omega, hp', hd', hB.alloc hB.size _⟩, by simp [intOf]; omega⟩
    · go_wp2
      go_ret
      have hk0 : kk = 0 := by omega
      have hd := hd.out
      rw [hk0, mdigits_zero] at hd
      subst hd
      exact ⟨by rw [hm.out, ba_append]; simp, hB⟩
end Go.Proofs.YtnmgaponnfjciaaDoor
