/- The contracts of EncodeRecord in the form that the law's proof takes. -/
import Derived.Test.YtnmgaponnfjciaaDoorLogEnc
namespace Go.Proofs.YtnmgaponnfjciaaDoor
open Go.RowKit
def resEncodeRecord (k : Int) (x : LogRecord) : ByteArray × Bool := (bs ((encL k x.command.data.toList x.reply.data.toList).getD []), (encL k x.command.data.toList x.reply.data.toList).isSome)
def PS_EncodeRecord : ByteArray × Bool → World → Ending → World → Prop := fun (r0, r1) w e w' => e = .returned (.tuple #[.string r0, .bool r1]) ∧ Below w.heap.size w w'
def PI_EncodeRecord : ByteArray × Bool → World → Ending → World → Prop := fun (r0, r1) w e w' => e = .returned (.tuple #[.string r0, .bool r1]) ∧ Below w.heap.size w w'
theorem resEnc_no {k : Int} {x : LogRecord} (h : (btw 0 k 59 && goodRec x.command x.reply) = false) : resEncodeRecord k x = (bs [], false) := by
  rw [goodRec_L] at h
  unfold resEncodeRecord encL; rw [if_neg (by rw [h]; simp)]; rfl
theorem resEnc_yes {k : Nat} {x : LogRecord} (hk : k ≤ 59) (h : goodRec x.command x.reply = true) : resEncodeRecord (k : Int) x = (bs (lineL k x.command.data.toList x.reply.data.toList), true) := by
  rw [goodRec_L] at h
  unfold resEncodeRecord encL; rw [if_pos (by rw [h]; simp [btw]; omega)]; rfl
set_option maxHeartbeats 800000 in
theorem specEncodeRecord_c (x0 : Int) (v1 : Value) (x1 : LogRecord) (F1 : List Nat) (w : World) (h1 : IsV ELogRecord w v1 x1 F1) :
    Calls Tryd.prog 14 #[.int .i64 x0, v1] w (PS_EncodeRecord (resEncodeRecord x0 x1) w) := by
  obtain ⟨_, rfl, rfl, s1, s2, rfl⟩ := h1
  have hin := fun w => l1In_c x0 0 59 w
  have hgd := fun w => l27Good_c x1.command x1.reply w s1 s2
  have hB0 : ∀ A : Obj, Below w.heap.size w (w.alloc A) := fun A => (Below.refl _ _).alloc (Nat.le_refl _) _
  cases hb : btw 0 x0 59 with
  | false =>
    rw [resEnc_no (by rw [hb]; rfl)]
    rw [hb] at hin
    clear hb
    go_enter Tryd.func14, Tryd.ntmps14
    go_wp2_with (first | (go_at_call 42; refine (hin _).mono ?_; rintro e w' ⟨rfl, rfl⟩))
    refine bodyPost_ret (v := .tuple #[.string ⟨#[]⟩, .bool false]) ?_ rfl ⟨rfl, hB0 _⟩
    simp [results, Tryd.results14, go_sem]
  | true =>
    have hk : 0 ≤ x0 ∧ x0 ≤ 59 := by simpa [btw] using hb
    cases hg : goodRec x1.command x1.reply with
    | false =>
      rw [resEnc_no (by rw [hg]; simp)]
      rw [hb] at hin; rw [hg] at hgd
      clear hb hg
      go_enter Tryd.func14, Tryd.ntmps14
      go_wp2_with (first | (go_at_call 42; refine (hin _).mono ?_; rintro e w' ⟨rfl, rfl⟩) | (go_at_call 43; refine (hgd _).mono ?_; rintro e w1 ⟨rfl, hb1⟩))
      refine bodyPost_ret (v := .tuple #[.string ⟨#[]⟩, .bool false]) ?_ rfl ⟨rfl, (hB0 _).trans (hb1.mono (by simp))⟩
      simp [results, Tryd.results14, go_sem]
    | true =>
      obtain ⟨k, rfl⟩ := Int.eq_ofNat_of_zero_le hk.1
      have hk9 : k ≤ 59 := by omega
      rw [resEnc_yes hk9 hg]
      rw [hb] at hin; rw [hg] at hgd
      have hl := Lib.hid (fun w => l27Line_c k x1.command x1.reply w hk9 (goodL_good (by rw [← goodRec_L]; exact hg)))
      clear hb hg hk
      have R := fun (w1 : World) (hb1 : Below (w.alloc (.cells #[.string x1.command, .string x1.reply] 27)).heap.size (w.alloc (.cells #[.string x1.command, .string x1.reply] 27)) w1) => (Row.made w 27 [.string x1.command, .string x1.reply]).below hb1
      replace R := Lib.hid R
      go_enter Tryd.func14, Tryd.ntmps14
      go_wp2_with (first | (go_at_call 42; refine (hin _).mono ?_; rintro e w' ⟨rfl, rfl⟩) | (go_at_call 43; refine (hgd _).mono ?_; rintro e w1 ⟨rfl, hb1⟩; have c_R := (R.out _ hb1).cells) | (go_at_call 44; refine (hl.out _).mono ?_; rintro e w2 ⟨rfl, hb2⟩))
      refine bodyPost_ret (v := .tuple #[.string (bs (lineL k x1.command.data.toList x1.reply.data.toList)), .bool true]) ?_ rfl ⟨rfl, ((hB0 _).trans (hb1.mono (by simp))).trans (hb2.mono (by have := hb1.size; simp at this; omega))⟩
      simp [results, Tryd.results14, go_sem]
set_option maxHeartbeats 800000 in
theorem EncodeRecord_c (x0 : Int) (v1 : Value) (x1 : LogRecord) (F1 : List Nat) (FT : List Nat) (w : World) (h1 : IsV ELogRecord w v1 x1 F1) (hT : IsV ETab w (.agg #[]) () FT) :
    Calls Tryd.prog 16 #[.int .i64 x0, v1] w (PI_EncodeRecord (resEncodeRecord x0 x1) w) := by
  obtain ⟨_, rfl, rfl, s1, s2, rfl⟩ := h1
  have hin := fun w => within_c x0 0 59 w
  have hgd := fun w => IsValidRecord_c x1.command x1.reply w s1 s2
  have hB0 : ∀ A : Obj, Below w.heap.size w (w.alloc A) := fun A => (Below.refl _ _).alloc (Nat.le_refl _) _
  cases hb : btw 0 x0 59 with
  | false =>
    rw [resEnc_no (by rw [hb]; rfl)]
    rw [hb] at hin
    clear hb
    go_enter Tryd.func16, Tryd.ntmps16
    go_wp2_with (first | (go_at_call 45; refine (hin _).mono ?_; rintro e w' ⟨rfl, rfl⟩))
    refine bodyPost_ret (v := .tuple #[.string ⟨#[]⟩, .bool false]) ?_ rfl ⟨rfl, hB0 _⟩
    simp [results, Tryd.results16, go_sem]
  | true =>
    have hk : 0 ≤ x0 ∧ x0 ≤ 59 := by simpa [btw] using hb
    cases hg : goodRec x1.command x1.reply with
    | false =>
      rw [resEnc_no (by rw [hg]; simp)]
      rw [hb] at hin; rw [hg] at hgd
      clear hb hg
      go_enter Tryd.func16, Tryd.ntmps16
      go_wp2_with (first | (go_at_call 45; refine (hin _).mono ?_; rintro e w' ⟨rfl, rfl⟩) | (go_at_call 39; refine (hgd _).mono ?_; rintro e w1 ⟨rfl, hb1⟩))
      refine bodyPost_ret (v := .tuple #[.string ⟨#[]⟩, .bool false]) ?_ rfl ⟨rfl, (hB0 _).trans (hb1.mono (by simp))⟩
      simp [results, Tryd.results16, go_sem]
    | true =>
      obtain ⟨k, rfl⟩ := Int.eq_ofNat_of_zero_le hk.1
      have hk9 : k ≤ 59 := by omega
      rw [resEnc_yes hk9 hg]
      rw [hb] at hin; rw [hg] at hgd
      have hl := Lib.hid (fun w hT => encodeRecord_c k x1.command x1.reply FT w hk9 (goodL_good (by rw [← goodRec_L]; exact hg)) hT)
      clear hb hg hk
      have R := fun (w1 : World) (hb1 : Below (w.alloc (.cells #[.string x1.command, .string x1.reply] 27)).heap.size (w.alloc (.cells #[.string x1.command, .string x1.reply] 27)) w1) => (Row.made w 27 [.string x1.command, .string x1.reply]).below hb1
      replace R := Lib.hid R
      have hT1 := hT.below (hB0 (.cells #[.string x1.command, .string x1.reply] 27))
      go_enter Tryd.func16, Tryd.ntmps16
      go_wp2_with (first | (go_at_call 45; refine (hin _).mono ?_; rintro e w' ⟨rfl, rfl⟩) | (go_at_call 39; refine (hgd _).mono ?_; rintro e w1 ⟨rfl, hb1⟩; have c_R := (R.out _ hb1).cells) | (go_at_call 46; refine (hl.out _ (hT1.below hb1)).mono ?_; rintro e w2 ⟨rfl, hb2⟩))
      refine bodyPost_ret (v := .tuple #[.string (bs (lineL k x1.command.data.toList x1.reply.data.toList)), .bool true]) ?_ rfl ⟨rfl, ((hB0 _).trans (hb1.mono (by simp))).trans (hb2.mono (by have := hb1.size; simp at this; omega))⟩
      simp [results, Tryd.results16, go_sem]
end Go.Proofs.YtnmgaponnfjciaaDoor
