/- Part 2 of the proof: 9 texts, one behind the other. -/
import Derived.Test.YtgogcgkocjpgoaaDoorRows
import Derived.MakeChecks
import Derived.Stop.LaidErr
import Derived.Shelf.Vars
import Derived.LaidLaws
import Derived.ProofKit
import Derived.OpenShut
import Derived.Test.YtgogcgkocjpgoaaDoorCards
import Derived.Test.YtgogcgkocjpgoaaDoorTie
import Derived.LaidMore
import Derived.Lay
import Derived.SevenTiedAt
import Derived.Stop.Joined
import Derived.Test.YtgogcgkocjpgoaaDoorM1
/- Deliveries: checked, written as sentences; the program and the reference. -/
namespace Go.Proofs.YtgogcgkocjpgoaaDoor
open Go.RowKit
theorem isFaceD_c (x : Int) (w : World) : Calls Tryd.prog 45 #[.int .i64 x] w fun e w' => e = .returned (.bool (btw 1 x 7)) ∧ w = w' := by
  go_enter Tryd.func45, Tryd.ntmps45
  go_wp2_with (go_at_call 47; refine (within_c _ _ _ _).mono ?_; rintro e w' ⟨rfl, rfl⟩)
  go_ret
  exact ⟨rfl, rfl⟩
theorem isCountD_c (x : Int) (w : World) : Calls Tryd.prog 46 #[.int .i64 x] w fun e w' => e = .returned (.bool (btw 0 x 1000000)) ∧ w = w' := by
  go_enter Tryd.func46, Tryd.ntmps46
  go_wp2_with (go_at_call 47; refine (within_c _ _ _ _).mono ?_; rintro e w' ⟨rfl, rfl⟩)
  go_ret
  exact ⟨rfl, rfl⟩
theorem l21Node_c (x : Int) (w : World) : Calls Tryd.prog 33 #[.int .i64 x] w fun e w' => e = .returned (.bool (btw 1 x 7)) ∧ w = w' := by
  go_enter Tryd.func33, Tryd.ntmps33
  go_wp2_with (go_at_call 35; refine (l1In_c _ _ _ _).mono ?_; rintro e w' ⟨rfl, rfl⟩)
  go_ret
  exact ⟨rfl, rfl⟩
theorem l26Count_c (x : Int) (w : World) : Calls Tryd.prog 34 #[.int .i64 x] w fun e w' => e = .returned (.bool (btw 0 x 1000000)) ∧ w = w' := by
  go_enter Tryd.func34, Tryd.ntmps34
  go_wp2_with (go_at_call 35; refine (l1In_c _ _ _ _).mono ?_; rintro e w' ⟨rfl, rfl⟩)
  go_ret
  exact ⟨rfl, rfl⟩
theorem itoa_dec {n : Int} (h : 0 ≤ n) : Lib.itoa n = decI n := by unfold Lib.itoa decI; rw [if_neg (by omega)]
theorem itoa7_c (n : Int) (h0 : 0 ≤ n) (h1 : n ≤ 1000000) (FT : List Nat) (w : World) (hT : (EnvP FT).P w) :
    Calls Tryd.prog 48 #[.int .i64 n] w fun e w' => e = .returned (.string (bz (decI n))) ∧ Below w.heap.size w w' := by
  have := itoa_c n (by omega) (by omega) FT w hT
  rw [itoa_dec h0] at this
  exact this
theorem num7_c (n : Int) (h0 : 0 ≤ n) (h1 : n ≤ 1000000) (w : World) : Calls Tryd.prog 36 #[.int .i64 n] w fun e w2 => e = .returned (.string (bz (decI n))) ∧ Below w.heap.size w w2 := by
  obtain ⟨k, rfl⟩ : ∃ k : Nat, n = k := ⟨n.toNat, by omega⟩
  refine (l1Num_c 6 k w (by omega) (by omega)).mono ?_
  rintro e w2 ⟨rfl, j, rfl⟩
  exact ⟨rfl, belowDrewN (Below.refl _ _) j⟩
theorem lit_app (a : Bs) (b : List UInt8) : bz (a ++ b) = bz a ++ ⟨b.toArray⟩ := (bz_app a b).symm
def itemsB (n : Int) : Bs := if n = 0 then [110, 111, 32, 105, 116, 101, 109, 115] else if n = 1 then [49, 32, 105, 116, 101, 109] else decI n ++ [32, 105, 116, 101, 109, 115]
def repsB (d : Delivery) : Bs := if d.repaired = 0 then [] else if d.got = 1 then [44, 32, 114, 101, 112, 97, 105, 114, 101, 100, 44] else if d.repaired = d.got then [44, 32, 97, 108, 108, 32, 111, 102, 32, 116, 104, 101, 109, 32, 114, 101, 112, 97, 105, 114, 101, 100, 44] else [44, 32] ++ decI d.repaired ++ [32, 111, 102, 32, 116, 104, 101, 109, 32, 114, 101, 112, 97, 105, 114, 101, 100, 44]
theorem itemsB_len {n : Int} (h : n ≤ 1000000) : (itemsB n).length ≤ 13 := by
  have := dec_len h
  unfold itemsB
  split <;> (try split) <;> simp <;> omega
theorem repsB_len {d : Delivery} (h : d.repaired ≤ 1000000) : (repsB d).length ≤ 30 := by
  have := dec_len h
  unfold repsB
  split <;> (try split) <;> (try split) <;> simp <;> omega
def resDT (d : Delivery) : ByteArray × Bool := if goodDel d then (delT d, true) else (⟨#[]⟩, false)
theorem delB_text (d : Delivery) : delB d ++ [46] = [82, 101, 99, 101, 105, 118, 101, 114, 32] ++ decI d.receiver ++ [32, 103, 111, 116, 32] ++ itemsB d.got ++ repsB d ++ [32, 97, 110, 100, 32, 108, 111, 115, 116, 32] ++ lostW d ++ [46] := by
  unfold delB jnB headW itemW repW itemsB repsB cmD
  by_cases a : d.repaired = 0 <;> by_cases b : d.got = 0 <;> by_cases c : d.got = 1 <;> by_cases e : d.repaired = d.got <;> (first | simp only [if_pos a] | simp only [if_neg a] | skip) <;> (first | simp only [if_pos b] | simp only [if_neg b] | skip) <;> (first | simp only [if_pos c] | simp only [if_neg c] | skip) <;> (first | simp only [if_pos e] | simp only [if_neg e] | skip) <;> first | omega | (simp; done)
theorem text_at (d : Delivery) : ⟨#[82, 101, 99, 101, 105, 118, 101, 114, 32]⟩ ++ bz (decI d.receiver) ++ ⟨#[32, 103, 111, 116, 32]⟩ ++ bz (itemsB d.got) ++ bz (repsB d) ++ ⟨#[32, 97, 110, 100, 32, 108, 111, 115, 116, 32]⟩ ++ bz (lostW d) ++ ⟨#[46]⟩ = delT d := by
  apply ByteArray.ext
  unfold delT
  rw [delB_text]
  simp [bz, ByteArray.data_append]
set_option maxRecDepth 100000 in
theorem itemsText_f (n : Int) (FT : List Nat) (h0 : 0 ≤ n) (h1 : n ≤ 1000000) : Fn Tryd.prog 49 [.int .i64 n] [EnvP FT] [] (fun (_ : Unit) => True) (fun _ => .string (bz (itemsB n))) (fun _ => []) := by
  have hz : (bz (decI n)).size ≤ 7 := by rw [bz_size]; exact dec_len h1
  have ql1 : (⟨#[32, 105, 116, 101, 109, 115]⟩ : ByteArray).size = 6 := rfl
  have q0 : (bz (decI n) ++ ⟨#[32, 105, 116, 101, 109, 115]⟩).size = _ := ByteArray.size_append
  refine enter Tryd.func49 rfl Tryd.ntmps49 fun w0 => ?_
  refine go ?_; intros
  refine c_if rfl (fun e0 => ?_) (fun e0 => ?_)
  · refine go ?_; intros
    rw [show bz (itemsB n) = ⟨#[110, 111, 32, 105, 116, 101, 109, 115]⟩ by unfold itemsB; rw [if_pos e0]; rfl]
    refine ret () trivial rfl
  refine go ?_; intros
  refine c_if rfl (fun e1 => ?_) (fun e1 => ?_)
  · refine go ?_; intros
    rw [show bz (itemsB n) = ⟨#[49, 32, 105, 116, 101, 109]⟩ by unfold itemsB; rw [if_neg e0, if_pos e1]; rfl]
    refine ret () trivial rfl
  refine go ?_; intros
  refine cb (fun w st => itoa7_c n (by omega) (by omega) FT w (st.get (p := EnvP FT) (by simp))) ?_
  refine go ?_; intros
  rw [show bz (itemsB n) = bz (decI n) ++ ⟨#[32, 105, 116, 101, 109, 115]⟩ by unfold itemsB; rw [if_neg e0, if_neg e1, lit_app]]
  refine ret () trivial rfl
set_option maxRecDepth 100000 in
theorem l26Items_f (n : Int) (FT : List Nat) (h0 : 0 ≤ n) (h1 : n ≤ 1000000) : Fn Tryd.prog 37 [.int .i64 n] [EnvP FT] [] (fun (_ : Unit) => True) (fun _ => .string (bz (itemsB n))) (fun _ => []) := by
  have hz : (bz (decI n)).size ≤ 7 := by rw [bz_size]; exact dec_len h1
  have ql1 : (⟨#[32, 105, 116, 101, 109, 115]⟩ : ByteArray).size = 6 := rfl
  have q0 : (bz (decI n) ++ ⟨#[32, 105, 116, 101, 109, 115]⟩).size = _ := ByteArray.size_append
  refine enter Tryd.func37 rfl Tryd.ntmps37 fun w0 => ?_
  refine go ?_; intros
  refine c_if rfl (fun e0 => ?_) (fun e0 => ?_)
  · refine go ?_; intros
    rw [show bz (itemsB n) = ⟨#[110, 111, 32, 105, 116, 101, 109, 115]⟩ by unfold itemsB; rw [if_pos e0]; rfl]
    refine ret () trivial rfl
  refine go ?_; intros
  refine c_if rfl (fun e1 => ?_) (fun e1 => ?_)
  · refine go ?_; intros
    rw [show bz (itemsB n) = ⟨#[49, 32, 105, 116, 101, 109]⟩ by unfold itemsB; rw [if_neg e0, if_pos e1]; rfl]
    refine ret () trivial rfl
  refine go ?_; intros
  refine cb (fun w st => num7_c n (by omega) (by omega) w) ?_
  refine go ?_; intros
  rw [show bz (itemsB n) = bz (decI n) ++ ⟨#[32, 105, 116, 101, 109, 115]⟩ by unfold itemsB; rw [if_neg e0, if_neg e1, lit_app]]
  refine ret () trivial rfl
set_option maxRecDepth 100000 in
theorem repairsText_f (d : Delivery) (FT : List Nat) (h0 : 0 ≤ d.repaired) (h1 : d.repaired ≤ 1000000) : Fn Tryd.prog 50 [.agg #[.int .i64 d.receiver, .int .i64 d.got, .int .i64 d.repaired, .int .i64 d.lost]] [EnvP FT] [] (fun (_ : Unit) => True) (fun _ => .string (bz (repsB d))) (fun _ => []) := by
  have hz : (bz (decI d.repaired)).size ≤ 7 := by rw [bz_size]; exact dec_len h1
  have ql0 : (⟨#[44, 32]⟩ : ByteArray).size = 2 := rfl
  have ql2 : (⟨#[32, 111, 102, 32, 116, 104, 101, 109, 32, 114, 101, 112, 97, 105, 114, 101, 100, 44]⟩ : ByteArray).size = 18 := rfl
  have q0 : (⟨#[44, 32]⟩ ++ bz (decI d.repaired)).size = _ := ByteArray.size_append
  have q1 : (⟨#[44, 32]⟩ ++ bz (decI d.repaired) ++ ⟨#[32, 111, 102, 32, 116, 104, 101, 109, 32, 114, 101, 112, 97, 105, 114, 101, 100, 44]⟩).size = _ := ByteArray.size_append
  refine enter Tryd.func50 rfl Tryd.ntmps50 fun w0 => ?_
  refine go ?_; intros
  refine c_if rfl (fun e0 => ?_) (fun e0 => ?_)
  · refine go ?_; intros
    rw [show bz (repsB d) = ⟨#[]⟩ by unfold repsB; rw [if_pos e0]; rfl]
    refine ret () trivial rfl
  refine go ?_; intros
  refine c_if rfl (fun e1 => ?_) (fun e1 => ?_)
  · refine go ?_; intros
    rw [show bz (repsB d) = ⟨#[44, 32, 114, 101, 112, 97, 105, 114, 101, 100, 44]⟩ by unfold repsB; rw [if_neg e0, if_pos e1]; rfl]
    refine ret () trivial rfl
  refine go ?_; intros
  refine c_if rfl (fun e2 => ?_) (fun e2 => ?_)
  · refine go ?_; intros
    rw [show bz (repsB d) = ⟨#[44, 32, 97, 108, 108, 32, 111, 102, 32, 116, 104, 101, 109, 32, 114, 101, 112, 97, 105, 114, 101, 100, 44]⟩ by unfold repsB; rw [if_neg e0, if_neg e1, if_pos e2]; rfl]
    refine ret () trivial rfl
  refine go ?_; intros
  refine cb (fun w st => itoa7_c d.repaired (by omega) (by omega) FT w (st.get (p := EnvP FT) (by simp))) ?_
  refine go ?_; intros
  rw [show bz (repsB d) = ⟨#[44, 32]⟩ ++ bz (decI d.repaired) ++ ⟨#[32, 111, 102, 32, 116, 104, 101, 109, 32, 114, 101, 112, 97, 105, 114, 101, 100, 44]⟩ by unfold repsB; rw [if_neg e0, if_neg e1, if_neg e2]; apply ByteArray.ext; simp [bz, ByteArray.data_append]]
  refine ret () trivial rfl
set_option maxRecDepth 100000 in
theorem l26Repairs_f (d : Delivery) (FT : List Nat) (h0 : 0 ≤ d.repaired) (h1 : d.repaired ≤ 1000000) : Fn Tryd.prog 38 [.agg #[.int .i64 d.receiver, .int .i64 d.got, .int .i64 d.repaired, .int .i64 d.lost]] [EnvP FT] [] (fun (_ : Unit) => True) (fun _ => .string (bz (repsB d))) (fun _ => []) := by
  have hz : (bz (decI d.repaired)).size ≤ 7 := by rw [bz_size]; exact dec_len h1
  have ql0 : (⟨#[44, 32]⟩ : ByteArray).size = 2 := rfl
  have ql2 : (⟨#[32, 111, 102, 32, 116, 104, 101, 109, 32, 114, 101, 112, 97, 105, 114, 101, 100, 44]⟩ : ByteArray).size = 18 := rfl
  have q0 : (⟨#[44, 32]⟩ ++ bz (decI d.repaired)).size = _ := ByteArray.size_append
  have q1 : (⟨#[44, 32]⟩ ++ bz (decI d.repaired) ++ ⟨#[32, 111, 102, 32, 116, 104, 101, 109, 32, 114, 101, 112, 97, 105, 114, 101, 100, 44]⟩).size = _ := ByteArray.size_append
  refine enter Tryd.func38 rfl Tryd.ntmps38 fun w0 => ?_
  refine go ?_; intros
  refine c_if rfl (fun e0 => ?_) (fun e0 => ?_)
  · refine go ?_; intros
    rw [show bz (repsB d) = ⟨#[]⟩ by unfold repsB; rw [if_pos e0]; rfl]
    refine ret () trivial rfl
  refine go ?_; intros
  refine c_if rfl (fun e1 => ?_) (fun e1 => ?_)
  · refine go ?_; intros
    rw [show bz (repsB d) = ⟨#[44, 32, 114, 101, 112, 97, 105, 114, 101, 100, 44]⟩ by unfold repsB; rw [if_neg e0, if_pos e1]; rfl]
    refine ret () trivial rfl
  refine go ?_; intros
  refine c_if rfl (fun e2 => ?_) (fun e2 => ?_)
  · refine go ?_; intros
    rw [show bz (repsB d) = ⟨#[44, 32, 97, 108, 108, 32, 111, 102, 32, 116, 104, 101, 109, 32, 114, 101, 112, 97, 105, 114, 101, 100, 44]⟩ by unfold repsB; rw [if_neg e0, if_neg e1, if_pos e2]; rfl]
    refine ret () trivial rfl
  refine go ?_; intros
  refine cb (fun w st => num7_c d.repaired (by omega) (by omega) w) ?_
  refine go ?_; intros
  rw [show bz (repsB d) = ⟨#[44, 32]⟩ ++ bz (decI d.repaired) ++ ⟨#[32, 111, 102, 32, 116, 104, 101, 109, 32, 114, 101, 112, 97, 105, 114, 101, 100, 44]⟩ by unfold repsB; rw [if_neg e0, if_neg e1, if_neg e2]; apply ByteArray.ext; simp [bz, ByteArray.data_append]]
  refine ret () trivial rfl
set_option maxRecDepth 100000 in
theorem IsValidDelivery_f (d : Delivery) : Fn Tryd.prog 28 [.agg #[.int .i64 d.receiver, .int .i64 d.got, .int .i64 d.repaired, .int .i64 d.lost]] [] [] (fun (_ : Unit) => True) (fun _ => .bool (goodDel d)) (fun _ => []) := by
  refine enter Tryd.func28 rfl Tryd.ntmps28 fun w0 => ?_
  unfold goodDel
  refine go ?_; intros
  refine ce (fun w s => isFaceD_c _ _) ?_
  cases g1 : btw 1 d.receiver 7
  · refine go ?_; intros
    refine ret () trivial rfl
  refine go ?_; intros
  refine ce (fun w s => isCountD_c d.got _) ?_
  cases g2 : btw 0 d.got 1000000
  · refine go ?_; intros
    refine ret () trivial rfl
  refine go ?_; intros
  refine ce (fun w s => within_c _ _ _ _) ?_
  cases g3 : btw 0 d.repaired d.got
  · refine go ?_; intros
    refine ret () trivial rfl
  refine go ?_; intros
  refine ce (fun w s => isCountD_c d.lost _) ?_
  cases g4 : btw 0 d.lost 1000000
  all_goals
    refine go ?_; intros
    refine ret () trivial rfl
set_option maxRecDepth 100000 in
theorem l26One_f (d : Delivery) : Fn Tryd.prog 23 [.agg #[.int .i64 d.receiver, .int .i64 d.got, .int .i64 d.repaired, .int .i64 d.lost]] [] [] (fun (_ : Unit) => True) (fun _ => .bool (goodDel d)) (fun _ => []) := by
  refine enter Tryd.func23 rfl Tryd.ntmps23 fun w0 => ?_
  unfold goodDel
  refine go ?_; intros
  refine ce (fun w s => l21Node_c _ _) ?_
  cases g1 : btw 1 d.receiver 7
  · refine go ?_; intros
    refine ret () trivial rfl
  refine go ?_; intros
  refine ce (fun w s => l26Count_c d.got _) ?_
  cases g2 : btw 0 d.got 1000000
  · refine go ?_; intros
    refine ret () trivial rfl
  refine go ?_; intros
  refine ce (fun w s => l1In_c _ _ _ _) ?_
  cases g3 : btw 0 d.repaired d.got
  · refine go ?_; intros
    refine ret () trivial rfl
  refine go ?_; intros
  refine ce (fun w s => l26Count_c d.lost _) ?_
  cases g4 : btw 0 d.lost 1000000
  all_goals
    refine go ?_; intros
    refine ret () trivial rfl
set_option maxRecDepth 100000 in
theorem deliveryText_f (d : Delivery) (FT : List Nat) (hg : goodDel d = true) : Fn Tryd.prog 29 [.agg #[.int .i64 d.receiver, .int .i64 d.got, .int .i64 d.repaired, .int .i64 d.lost]] [EnvP FT] [] (fun (_ : Unit) => True) (fun _ => .string (delT d)) (fun _ => []) := by
  obtain ⟨⟨r0, r1⟩, ⟨g0, g1⟩, ⟨p0, p1⟩, l0, l1⟩ := good_del hg
  have hT := text_at d
  have z1 : (bz (decI d.receiver)).size ≤ 7 := by rw [bz_size]; exact dec_len (by omega)
  have z2 : (bz (itemsB d.got)).size ≤ 13 := by rw [bz_size]; exact itemsB_len g1
  have z3 : (bz (repsB d)).size ≤ 30 := by rw [bz_size]; exact repsB_len (by omega)
  have z4 : (bz (decI d.lost)).size ≤ 7 := by rw [bz_size]; exact dec_len l1
  have z5 : (bz (lostW d)).size ≤ 7 := by rw [bz_size]; unfold lostW; split <;> first | exact dec_len l1 | decide
  have ql0 : (⟨#[82, 101, 99, 101, 105, 118, 101, 114, 32]⟩ : ByteArray).size = 9 := rfl
  have ql2 : (⟨#[32, 103, 111, 116, 32]⟩ : ByteArray).size = 5 := rfl
  have ql5 : (⟨#[32, 97, 110, 100, 32, 108, 111, 115, 116, 32]⟩ : ByteArray).size = 10 := rfl
  have ql7 : (⟨#[46]⟩ : ByteArray).size = 1 := rfl
  have q0 : (⟨#[82, 101, 99, 101, 105, 118, 101, 114, 32]⟩ ++ bz (decI d.receiver)).size = _ := ByteArray.size_append
  have q1 : (⟨#[82, 101, 99, 101, 105, 118, 101, 114, 32]⟩ ++ bz (decI d.receiver) ++ ⟨#[32, 103, 111, 116, 32]⟩).size = _ := ByteArray.size_append
  have q2 : (⟨#[82, 101, 99, 101, 105, 118, 101, 114, 32]⟩ ++ bz (decI d.receiver) ++ ⟨#[32, 103, 111, 116, 32]⟩ ++ bz (itemsB d.got)).size = _ := ByteArray.size_append
  have q3 : (⟨#[82, 101, 99, 101, 105, 118, 101, 114, 32]⟩ ++ bz (decI d.receiver) ++ ⟨#[32, 103, 111, 116, 32]⟩ ++ bz (itemsB d.got) ++ bz (repsB d)).size = _ := ByteArray.size_append
  have q4 : (⟨#[82, 101, 99, 101, 105, 118, 101, 114, 32]⟩ ++ bz (decI d.receiver) ++ ⟨#[32, 103, 111, 116, 32]⟩ ++ bz (itemsB d.got) ++ bz (repsB d) ++ ⟨#[32, 97, 110, 100, 32, 108, 111, 115, 116, 32]⟩).size = _ := ByteArray.size_append
  have q5 : (⟨#[82, 101, 99, 101, 105, 118, 101, 114, 32]⟩ ++ bz (decI d.receiver) ++ ⟨#[32, 103, 111, 116, 32]⟩ ++ bz (itemsB d.got) ++ bz (repsB d) ++ ⟨#[32, 97, 110, 100, 32, 108, 111, 115, 116, 32]⟩ ++ bz (lostW d)).size = _ := ByteArray.size_append
  have q6 : (⟨#[82, 101, 99, 101, 105, 118, 101, 114, 32]⟩ ++ bz (decI d.receiver) ++ ⟨#[32, 103, 111, 116, 32]⟩ ++ bz (itemsB d.got) ++ bz (repsB d) ++ ⟨#[32, 97, 110, 100, 32, 108, 111, 115, 116, 32]⟩ ++ bz (lostW d) ++ ⟨#[46]⟩).size = _ := ByteArray.size_append
  refine enter Tryd.func29 rfl Tryd.ntmps29 fun w0 => ?_
  refine go ?_; intros
  refine c_if rfl (fun e0 => ?_) (fun e0 => ?_)
  · refine go ?_; intros
    refine cb (fun w st => itoa7_c d.lost (by omega) (by omega) FT w (st.get (p := EnvP FT) (by simp))) ?_
    have eL : bz (lostW d) = bz (decI d.lost) := by unfold lostW; rw [if_neg (by omega)]
    rw [eL] at hT q5 q6 z5
    refine goN ?_; intros
    refine d_start [0] [] ?_
    refine dt 0 ?_
    refine dt 1 ?_
    refine dt 5 ?_
    refine dt 6 ?_
    refine dt 9 ?_
    refine dt 13 ?_
    refine dO 2 (by kernel_rfl) (by rw [List.getElem?_toArray]; rfl) ?_
    apply o_call; rfl; kernel_rfl; exact evsE
    refine cb (fun w st => itoa7_c d.receiver (by omega) (by omega) FT w (st.get (p := EnvP FT) (by simp))) ?_
    refine dk ?_
    refine dt 3 ?_
    refine dt 4 ?_
    refine dO 7 (by kernel_rfl) (by rw [List.getElem?_toArray]; rfl) ?_
    apply o_call; rfl; kernel_rfl; exact evsE
    refine cb (fun w st => (itemsText_f d.got FT (by omega) (by omega)).val w (hol1 (st.get (p := EnvP FT) (by simp)))) ?_
    refine dk ?_
    refine dt 8 ?_
    refine dO 10 (by kernel_rfl) (by rw [List.getElem?_toArray]; rfl) ?_
    apply o_call; rfl; kernel_rfl; exact evsE
    refine cb (fun w st => (repairsText_f d FT (by omega) (by omega)).val w (hol1 (st.get (p := EnvP FT) (by simp)))) ?_
    refine dk ?_
    refine dt 11 ?_
    refine dt 12 ?_
    refine dt 14 ?_
    refine dt 15 ?_
    refine dt 16 ?_
    refine dd ?_
    refine go ?_; intros
    rw [hT]
    refine ret () trivial rfl
  · have eL : bz (lostW d) = ⟨#[110, 111, 110, 101]⟩ := by unfold lostW; rw [if_pos (by omega)]; rfl
    rw [eL] at hT q5 q6 z5
    refine goN ?_; intros
    refine d_start [0] [] ?_
    refine dt 0 ?_
    refine dt 1 ?_
    refine dt 5 ?_
    refine dt 6 ?_
    refine dt 9 ?_
    refine dt 13 ?_
    refine dO 2 (by kernel_rfl) (by rw [List.getElem?_toArray]; rfl) ?_
    apply o_call; rfl; kernel_rfl; exact evsE
    refine cb (fun w st => itoa7_c d.receiver (by omega) (by omega) FT w (st.get (p := EnvP FT) (by simp))) ?_
    refine dk ?_
    refine dt 3 ?_
    refine dt 4 ?_
    refine dO 7 (by kernel_rfl) (by rw [List.getElem?_toArray]; rfl) ?_
    apply o_call; rfl; kernel_rfl; exact evsE
    refine cb (fun w st => (itemsText_f d.got FT (by omega) (by omega)).val w (hol1 (st.get (p := EnvP FT) (by simp)))) ?_
    refine dk ?_
    refine dt 8 ?_
    refine dO 10 (by kernel_rfl) (by rw [List.getElem?_toArray]; rfl) ?_
    apply o_call; rfl; kernel_rfl; exact evsE
    refine cb (fun w st => (repairsText_f d FT (by omega) (by omega)).val w (hol1 (st.get (p := EnvP FT) (by simp)))) ?_
    refine dk ?_
    refine dt 11 ?_
    refine dt 12 ?_
    refine dt 14 ?_
    refine dt 15 ?_
    refine dt 16 ?_
    refine dd ?_
    refine go ?_; intros
    rw [hT]
    refine ret () trivial rfl
set_option maxRecDepth 100000 in
theorem l26Text_f (d : Delivery) (FT : List Nat) (hg : goodDel d = true) : Fn Tryd.prog 24 [.agg #[.int .i64 d.receiver, .int .i64 d.got, .int .i64 d.repaired, .int .i64 d.lost]] [EnvP FT] [] (fun (_ : Unit) => True) (fun _ => .string (delT d)) (fun _ => []) := by
  obtain ⟨⟨r0, r1⟩, ⟨g0, g1⟩, ⟨p0, p1⟩, l0, l1⟩ := good_del hg
  have hT := text_at d
  have z1 : (bz (decI d.receiver)).size ≤ 7 := by rw [bz_size]; exact dec_len (by omega)
  have z2 : (bz (itemsB d.got)).size ≤ 13 := by rw [bz_size]; exact itemsB_len g1
  have z3 : (bz (repsB d)).size ≤ 30 := by rw [bz_size]; exact repsB_len (by omega)
  have z4 : (bz (decI d.lost)).size ≤ 7 := by rw [bz_size]; exact dec_len l1
  have z5 : (bz (lostW d)).size ≤ 7 := by rw [bz_size]; unfold lostW; split <;> first | exact dec_len l1 | decide
  have z6 : (⟨#[110, 111, 110, 101, 46]⟩ : ByteArray).size = 5 := rfl
  have ql0 : (⟨#[82, 101, 99, 101, 105, 118, 101, 114, 32]⟩ : ByteArray).size = 9 := rfl
  have ql2 : (⟨#[32, 103, 111, 116, 32]⟩ : ByteArray).size = 5 := rfl
  have ql5 : (⟨#[32, 97, 110, 100, 32, 108, 111, 115, 116, 32]⟩ : ByteArray).size = 10 := rfl
  have ql7 : (⟨#[46]⟩ : ByteArray).size = 1 := rfl
  have q0 : (⟨#[82, 101, 99, 101, 105, 118, 101, 114, 32]⟩ ++ bz (decI d.receiver)).size = _ := ByteArray.size_append
  have q1 : (⟨#[82, 101, 99, 101, 105, 118, 101, 114, 32]⟩ ++ bz (decI d.receiver) ++ ⟨#[32, 103, 111, 116, 32]⟩).size = _ := ByteArray.size_append
  have q2 : (⟨#[82, 101, 99, 101, 105, 118, 101, 114, 32]⟩ ++ bz (decI d.receiver) ++ ⟨#[32, 103, 111, 116, 32]⟩ ++ bz (itemsB d.got)).size = _ := ByteArray.size_append
  have q3 : (⟨#[82, 101, 99, 101, 105, 118, 101, 114, 32]⟩ ++ bz (decI d.receiver) ++ ⟨#[32, 103, 111, 116, 32]⟩ ++ bz (itemsB d.got) ++ bz (repsB d)).size = _ := ByteArray.size_append
  have q4 : (⟨#[82, 101, 99, 101, 105, 118, 101, 114, 32]⟩ ++ bz (decI d.receiver) ++ ⟨#[32, 103, 111, 116, 32]⟩ ++ bz (itemsB d.got) ++ bz (repsB d) ++ ⟨#[32, 97, 110, 100, 32, 108, 111, 115, 116, 32]⟩).size = _ := ByteArray.size_append
  have q5 : (⟨#[82, 101, 99, 101, 105, 118, 101, 114, 32]⟩ ++ bz (decI d.receiver) ++ ⟨#[32, 103, 111, 116, 32]⟩ ++ bz (itemsB d.got) ++ bz (repsB d) ++ ⟨#[32, 97, 110, 100, 32, 108, 111, 115, 116, 32]⟩ ++ bz (lostW d)).size = _ := ByteArray.size_append
  have q6 : (⟨#[82, 101, 99, 101, 105, 118, 101, 114, 32]⟩ ++ bz (decI d.receiver) ++ ⟨#[32, 103, 111, 116, 32]⟩ ++ bz (itemsB d.got) ++ bz (repsB d) ++ ⟨#[32, 97, 110, 100, 32, 108, 111, 115, 116, 32]⟩ ++ bz (lostW d) ++ ⟨#[46]⟩).size = _ := ByteArray.size_append
  refine enter Tryd.func24 rfl Tryd.ntmps24 fun w0 => ?_
  refine goN ?_; intros
  refine d_start [0] [] ?_
  refine dt 0 ?_
  refine dt 1 ?_
  refine dt 5 ?_
  refine dt 6 ?_
  refine dt 9 ?_
  refine dO 2 (by kernel_rfl) (by rw [List.getElem?_toArray]; rfl) ?_
  apply o_call; rfl; kernel_rfl; exact evsE
  refine cb (fun w st => num7_c d.receiver (by omega) (by omega) w) ?_
  refine dk ?_
  refine dt 3 ?_
  refine dt 4 ?_
  refine dO 7 (by kernel_rfl) (by rw [List.getElem?_toArray]; rfl) ?_
  apply o_call; rfl; kernel_rfl; exact evsE
  refine cb (fun w st => (l26Items_f d.got FT (by omega) (by omega)).val w (hol1 (st.get (p := EnvP FT) (by simp)))) ?_
  refine dk ?_
  refine dt 8 ?_
  refine dO 10 (by kernel_rfl) (by rw [List.getElem?_toArray]; rfl) ?_
  apply o_call; rfl; kernel_rfl; exact evsE
  refine cb (fun w st => (l26Repairs_f d FT (by omega) (by omega)).val w (hol1 (st.get (p := EnvP FT) (by simp)))) ?_
  refine dk ?_
  refine dt 11 ?_
  refine dt 12 ?_
  refine dt 13 ?_
  refine dd ?_
  refine go ?_; intros
  refine c_if rfl (fun e0 => ?_) (fun e0 => ?_)
  · have eL : bz (lostW d) = ⟨#[110, 111, 110, 101]⟩ := by unfold lostW; rw [if_pos (by omega)]; rfl
    rw [eL] at hT
    refine go ?_; intros
    rw [show ∀ x : ByteArray, x ++ ⟨#[110, 111, 110, 101, 46]⟩ = x ++ ⟨#[110, 111, 110, 101]⟩ ++ ⟨#[46]⟩ from fun x => by rw [ByteArray.append_assoc]; rfl, hT]
    refine ret () trivial rfl
  · have eL : bz (lostW d) = bz (decI d.lost) := by unfold lostW; rw [if_neg (by omega)]
    rw [eL] at hT q5 q6
    refine go ?_; intros
    refine cb (fun w st => num7_c d.lost (by omega) (by omega) w) ?_
    refine go ?_; intros
    rw [hT]
    refine ret () trivial rfl
set_option maxRecDepth 100000 in
theorem DeliveryText_f (d : Delivery) (FT : List Nat) : Fn Tryd.prog 17 [.agg #[.int .i64 d.receiver, .int .i64 d.got, .int .i64 d.repaired, .int .i64 d.lost]] [EnvP FT] [] (fun (_ : Unit) => True) (fun _ => .tuple #[.string (resDT d).1, .bool (resDT d).2]) (fun _ => []) := by
  refine enter Tryd.func17 rfl Tryd.ntmps17 fun w0 => ?_
  refine go ?_; intros
  refine cf (IsValidDelivery_f d) fun _ _ => ?_
  refine t_app ?_
  cases g1 : goodDel d
  · refine go ?_; intros
    rw [show resDT d = (⟨#[]⟩, false) by unfold resDT; rw [g1]; rfl]
    refine ret () trivial rfl
  rw [show resDT d = (delT d, true) by unfold resDT; rw [g1]; rfl]
  refine go ?_; intros
  refine cb (fun w st => (deliveryText_f d FT g1).val w (hol1 (st.get (p := EnvP FT) (by simp)))) ?_
  refine go ?_; intros
  refine ret () trivial rfl
end Go.Proofs.YtgogcgkocjpgoaaDoor
/- Words read as numbers, texts split: the program and the reference. -/
namespace Go.Proofs.YtgogcgkocjpgoaaDoor
open Go.RowKit
set_option maxRecDepth 100000 in
theorem numberWord_f (s : ByteArray) (FT : List Nat) (hs : s.size ≤ 1000000000) : Fn Tryd.prog 16 [.string s] [EnvP FT] [] (fun (_ : Unit) => True) (fun _ => .int .i64 (nwI s.data.toList)) (fun _ => []) := by
  refine enter Tryd.func16 rfl Tryd.ntmps16 fun w0 => ?_
  refine go ?_; intros
  match h : Lib.atoiAll s.data.toList with
  | Lib.NumEnd.ok v =>
    rw [show nwI s.data.toList = v by unfold nwI; rw [h]]
    refine cb (fun w st => (Tryd.strconv_Atoi_ok s (by omega) v h w).mono fun e w' hh => ⟨hh.1, ?_⟩) ?_
    · rcases hh.2 with rfl | ⟨t, rfl⟩
      · exact Below.refl _ _
      · exact Lib.bytesWorld_below _ _ _
    refine go ?_; intros
    refine ret () trivial rfl
  | Lib.NumEnd.syntax =>
    rw [show nwI s.data.toList = 0 by unfold nwI; rw [h]]
    refine cx (fun v => ∃ u p, v = .tuple #[.int .i64 0, .iface u p]) (fun w st => ?_) ?_
    · obtain ⟨tp, p, hv⟩ := (EnvP.env (st.get (p := EnvP FT) (by simp))).2.2.1
      refine (Tryd.strconv_Atoi_syntax_var s (by omega) h tp p w hv).mono ?_
      rintro e w' ⟨N, rfl, -, -, hB⟩
      exact ⟨_, ⟨_, _, rfl⟩, rfl, hB⟩
    rintro _ ⟨u, p, rfl⟩
    refine go ?_; intros
    refine ret () trivial rfl
  | Lib.NumEnd.range =>
    rw [show nwI s.data.toList = Lib.atoiSat s.data.toList by unfold nwI; rw [h]]
    refine cx (fun v => ∃ u p, v = .tuple #[.int .i64 (Lib.atoiSat s.data.toList), .iface u p]) (fun w st => ?_) ?_
    · obtain ⟨tp, p, hv⟩ := (EnvP.env (st.get (p := EnvP FT) (by simp))).2.2.2
      refine (Tryd.strconv_Atoi_range_var s (by omega) h tp p w hv).mono ?_
      rintro e w' ⟨N, rfl, -, -, hB⟩
      exact ⟨_, ⟨_, _, rfl⟩, rfl, hB⟩
    rintro _ ⟨u, p, rfl⟩
    refine go ?_; intros
    refine ret () trivial rfl
structure SpS where
  o : List Bs
  f : Nat
  k : Nat
  a : Option Addr
  c : Nat
  F : List Nat
structure SpOk (b : UInt8) (s : ByteArray) (z : SpS) : Prop where
  k : z.k ≤ s.size
  f : z.f ≤ z.k
  l : z.o.length ≤ z.f
  e : splitL b s.data.toList = z.o ++ splitL b (s.data.toList.drop z.f)
  n : ∀ x ∈ (s.data.toList.drop z.f).take (z.k - z.f), x ≠ b
set_option maxRecDepth 100000 in
theorem l1Split_f (s : ByteArray) (b : UInt8) (hs : s.size ≤ 16777216) : Fn Tryd.prog 19 [.string s, .int .u8 (b.toNat : Int)] [] [] (fun (_ : Option Addr × Nat × List Nat) => True) (fun z => .slice z.1 ((splitL b s.data.toList).map bz).length z.2.1) (fun z => [.ow EStr 9 (.slice z.1 ((splitL b s.data.toList).map bz).length z.2.1) ((splitL b s.data.toList).map bz) z.2.2]) := by
  refine enter Tryd.func19 rfl Tryd.ntmps19 fun w0 => ?_
  refine go ?_; intros
  refine t_emp EStr ?_
  refine go ?_; intros
  refine c_loopS [0, 1, 4] (fun z : SpS => [(5, .slice z.a (z.o.map bz).length z.c), (6, .int .i64 (z.f : Nat)), (7, .int .i64 (z.k : Nat))]) (fun z => [.ow EStr 9 (.slice z.a (z.o.map bz).length z.c) (z.o.map bz) z.F]) (SpOk b s) (fun z => s.size - z.k) ⟨[], 0, 0, _, _, _⟩ ⟨Nat.zero_le _, Nat.le_refl _, Nat.le_refl _, rfl, by simp⟩ fun z hz => ?_
  obtain ⟨z1, z2, z3, z4, z5⟩ := hz
  have hml : (z.o.map bz).length = z.o.length := List.length_map ..
  refine go ?_; intros
  refine c_if rfl (fun h1 => ?_) (fun h1 => ?_)
  · have hk : z.k < s.size := by omega
    have hkl : z.k < s.data.toList.length := by rw [size_list]; exact hk
    refine go ?_; intros
    refine c_if rfl (fun h2 => ?_) (fun h2 => ?_)
    · have hb : s[z.k] = b := UInt8.toNat_inj.1 (by have : ((s[z.k]).toNat : Int) = (b.toNat : Int) := h2; omega)
      have h3 := drop_split (l := s.data.toList) z2 hkl
      rw [ba_get s z.k hk, hb] at h3
      have h4 : splitL b (s.data.toList.drop z.f) = (s.data.toList.drop z.f).take (z.k - z.f) :: splitL b (s.data.toList.drop (z.k + 1)) := by rw [h3, splitL_at _ z5, ← h3]
      have hx : (s.extract z.f z.k).size ≤ maxLen := by unfold maxLen; simp; omega
      refine goN ?_; intros
      apply wO; apply oc; rfl; exact yd_slb rfl rfl rfl (by omega) (by omega) (by omega)
      refine goN ?_; intros
      rw [show s.extract ((z.f : Nat) : Int).toNat ((z.k : Nat) : Int).toNat = s.extract z.f z.k from rfl]
      apply wO
      refine ap1 (rep_s hx) one_EStr fun a9 c9 F9 => ?_
      refine go ?_; intros
      have e9 : z.o.map bz ++ [s.extract z.f z.k] = (z.o ++ [(s.data.toList.drop z.f).take (z.k - z.f)]).map bz := by rw [List.map_append, ext_z s z.f z.k]; rfl
      rw [e9]
      refine n_lp ⟨z.o ++ [(s.data.toList.drop z.f).take (z.k - z.f)], z.k + 1, z.k + 1, a9, c9, F9⟩ ⟨by show z.k + 1 ≤ s.size; omega, Nat.le_refl _, by show (z.o ++ [_]).length ≤ z.k + 1; simp; omega, by show _ = (z.o ++ [_]) ++ splitL b (s.data.toList.drop (z.k + 1)); rw [z4, h4]; simp, by show ∀ x ∈ (s.data.toList.drop (z.k + 1)).take (z.k + 1 - (z.k + 1)), x ≠ b; simp⟩ (by show s.size - (z.k + 1) < s.size - z.k; omega)
    · refine go ?_; intros
      refine n_lp ⟨z.o, z.f, z.k + 1, z.a, z.c, z.F⟩ ⟨by show z.k + 1 ≤ s.size; omega, by show z.f ≤ z.k + 1; omega, z3, z4, by
        show ∀ x ∈ (s.data.toList.drop z.f).take (z.k + 1 - z.f), x ≠ b
        rw [take_more z2 hkl, ba_get s z.k hk]
        intro x hx
        rcases List.mem_append.1 hx with hx | hx
        · exact z5 x hx
        · rw [List.mem_singleton] at hx
          subst hx
          intro e
          exact h2 (by show ((s[z.k]).toNat : Int) = (b.toNat : Int); rw [e])⟩ (by show s.size - (z.k + 1) < s.size - z.k; omega)
  · have hke : z.k = s.size := by omega
    have h4 : splitL b s.data.toList = z.o ++ [s.data.toList.drop z.f] := by
      rw [z4, splitL_no]
      rw [List.take_of_length_le (by simp; omega)] at z5
      exact z5
    have hx : (s.extract z.f s.size).size ≤ maxLen := by unfold maxLen; simp; omega
    refine goN ?_; intros
    apply wO; apply oc; rfl; exact yd_sll rfl rfl (by omega) (by omega)
    refine goN ?_; intros
    rw [show s.extract ((z.f : Nat) : Int).toNat s.size = s.extract z.f s.size from rfl]
    apply wO
    refine ap1 (rep_s hx) one_EStr fun a9 c9 F9 => ?_
    refine go ?_; intros
    have e9 : z.o.map bz ++ [s.extract z.f s.size] = (splitL b s.data.toList).map bz := by rw [h4, List.map_append, ext_end s z.f]; rfl
    rw [e9]
    refine ret (a9, c9, F9) trivial rfl
end Go.Proofs.YtgogcgkocjpgoaaDoor
/- Numbers with their sign: read back out of their texts; plain. -/
namespace Go.Proofs.YtgogcgkocjpgoaaDoor
open Go.RowKit
theorem decNat_dec {u : Nat} (h : u < 10000000) : Lib.decNat (Lib.decDigits u) = some u := by
  have hb := dec_back 6 u (by omega)
  have hp := digit_pos u
  unfold Lib.decNat
  rw [if_neg (by intro e; rw [List.isEmpty_iff] at e; rw [e] at hp; simp at hp), hb]
theorem itoa_neg {v : Int} (h : v < 0) : Lib.itoa v = 45 :: Lib.decDigits v.natAbs := by unfold Lib.itoa; rw [if_pos h]
theorem itoa_nat {v : Int} (h : 0 ≤ v) : Lib.itoa v = Lib.decDigits v.natAbs := by unfold Lib.itoa; rw [if_neg (by omega), show v.toNat = v.natAbs by omega]
theorem resPI_itoa {v : Int} (h0 : -999999 ≤ v) (h1 : v ≤ 999999) : resPI (bz (Lib.itoa v)) = (v, true) := by
  by_cases hn : v < 0
  · have hl := digit_len 5 v.natAbs (by omega)
    have ha : Lib.atoiAll (Lib.itoa v) = .ok v := by
      rw [itoa_neg hn, Lib.atoiAll_short _ (by simp; omega)]
      have : Lib.atoi (45 :: Lib.decDigits v.natAbs) = some v := by
        rw [Lib.atoi, if_pos (by rfl), decNat_dec (by omega)]
        show some (-((v.natAbs : Nat) : Int)) = some v
        congr 1; omega
      rw [this]; rfl
    unfold resPI
    rw [bz_list, ha]
    show (if btw (-999999) v 999999 && decide (bz (Lib.itoa v) = bz (Lib.itoa v)) then (v, true) else (0, false)) = (v, true)
    rw [decide_eq_true rfl, show btw (-999999) v 999999 = true by unfold btw; rw [decide_eq_true h0, decide_eq_true h1]; rfl]; rfl
  · rw [itoa_nat (by omega), resPI_back v.natAbs (by omega)]
    congr 1; omega
theorem resPI_cases (s : ByteArray) : resPI s = (0, false) ∨ ∃ v : Int, -999999 ≤ v ∧ v ≤ 999999 ∧ s = bz (Lib.itoa v) := by
  unfold resPI
  split
  · rename_i v _
    cases h : (btw (-999999) v 999999 && decide (bz (Lib.itoa v) = s))
    · exact .inl rfl
    · unfold btw at h
      simp only [Bool.and_eq_true, decide_eq_true_eq] at h
      exact .inr ⟨v, h.1.1, h.1.2, h.2.symm⟩
  · exact .inl rfl
/-- the text without its sign -/
def unS (l : Bs) : Bs := if 1 < l.length ∧ l.head? = some 45 then l.drop 1 else l
def dval (l : Bs) : Nat := l.foldl (fun a c => 10 * a + (c.toNat - 48)) 0
theorem dval_app (l : Bs) (c : UInt8) : dval (l ++ [c]) = 10 * dval l + (c.toNat - 48) := by unfold dval; rw [List.foldl_append]; rfl
theorem dval_lt : ∀ (n : Nat) (l : Bs), l.length = n → (∀ c ∈ l, 48 ≤ c.toNat ∧ c.toNat ≤ 57) → dval l < 10 ^ n
  | 0, l, h, _ => by rw [List.length_eq_zero_iff.1 h]; decide
  | n + 1, l, h, hd => by
    have hne : l ≠ [] := by intro e; rw [e] at h; simp at h
    have e := List.dropLast_concat_getLast hne
    have ih := dval_lt n l.dropLast (by simp; omega) fun c hc => hd c (List.dropLast_subset _ hc)
    have hc := hd _ (List.getLast_mem hne)
    rw [← e, dval_app, Nat.pow_succ]
    omega
theorem digU : ∀ d : Nat, d < 10 → (UInt8.ofNat (48 + d)).toNat = 48 + d := by decide
theorem dval_dec : ∀ (k u : Nat), u < 10 ^ (k + 1) → dval (Lib.decDigits u) = u
  | 0, u, h => by
    have h3 : u < 10 := by simpa using h
    rw [Lib.decDigits, dif_pos h3]
    unfold dval
    simp only [List.foldl_cons, List.foldl_nil]
    rw [digU u h3]; omega
  | k + 1, u, h => by
    by_cases h3 : u < 10
    · rw [Lib.decDigits, dif_pos h3]
      unfold dval
      simp only [List.foldl_cons, List.foldl_nil]
      rw [digU u h3]; omega
    · rw [Lib.decDigits, dif_neg h3, dval_app, dval_dec k (u / 10) (by rw [Nat.pow_succ] at h; omega), digU _ (by omega)]
      omega
theorem unS_itoa {v : Int} (h0 : -999999 ≤ v) (h1 : v ≤ 999999) : unS (Lib.itoa v) = Lib.decDigits v.natAbs ∧ ((unS (Lib.itoa v)).length < (Lib.itoa v).length ↔ v < 0) := by
  have hp := digit_pos v.natAbs
  by_cases hn : v < 0
  · rw [itoa_neg hn]
    unfold unS
    rw [if_pos ⟨by simp; omega, rfl⟩]
    exact ⟨rfl, by simp [hn]⟩
  · rw [itoa_nat (by omega)]
    have : ¬ (1 < (Lib.decDigits v.natAbs).length ∧ (Lib.decDigits v.natAbs).head? = some 45) := by
      rintro ⟨-, h⟩
      have := digit_mem _ 45 (List.mem_of_mem_head? h)
      revert this; decide
    unfold unS
    rw [if_neg this]
    exact ⟨rfl, by simp; omega⟩
/-- what a good text is like -/
theorem read_good {s : ByteArray} (h : resPI s ≠ (0, false)) : ∃ v : Int, -999999 ≤ v ∧ v ≤ 999999 ∧ s = bz (Lib.itoa v) ∧ 1 ≤ (unS s.data.toList).length ∧ (unS s.data.toList).length ≤ 6 ∧ (∀ c ∈ unS s.data.toList, 48 ≤ c.toNat ∧ c.toNat ≤ 57) ∧ dval (unS s.data.toList) = v.natAbs ∧ ((unS s.data.toList).length < s.size ↔ v < 0) := by
  rcases resPI_cases s with h2 | ⟨v, h0, h1, rfl⟩
  · exact absurd h2 h
  · obtain ⟨e, e2⟩ := unS_itoa h0 h1
    have hl := digit_len 5 v.natAbs (by omega)
    rw [bz_list, bz_size]
    refine ⟨v, h0, h1, rfl, ?_, ?_, ?_, ?_, e2⟩
    · rw [e]; exact digit_pos _
    · rw [e]; exact hl
    · rw [e]; exact digit_mem _
    · rw [e]; exact dval_dec 5 _ (by omega)
end Go.Proofs.YtgogcgkocjpgoaaDoor
/- Numbers with their sign: the reference writes and reads them. -/
namespace Go.Proofs.YtgogcgkocjpgoaaDoor
open Go.RowKit
set_option maxRecDepth 100000 in
theorem numNeg_f (n : Int) (h0 : -999999 ≤ n) (hn : n < 0) : Fn Tryd.prog 36 [.int .i64 n] [] [] (fun (_ : Unit) => True) (fun _ => .string (bz (Lib.itoa n))) (fun _ => []) := by
  have hz : (bz (decI (-n))).size ≤ 7 := by rw [bz_size]; exact dec_len (by omega)
  have zl : (⟨#[45]⟩ : ByteArray).size = 1 := rfl
  refine enter Tryd.func36 rfl Tryd.ntmps36 fun w0 => ?_
  refine go ?_; intros
  refine c_if rfl (fun e0 => ?_) (fun e0 => ?_)
  rotate_left
  · exact absurd hn e0
  refine go ?_; intros
  refine cb (fun w st => num7_c (-n) (by omega) (by omega) w) ?_
  refine go ?_; intros
  rw [show (⟨#[45]⟩ : ByteArray) ++ bz (decI (-n)) = bz (Lib.itoa n) by
    rw [itoa_neg hn]
    unfold decI
    rw [show (-n).toNat = n.natAbs by omega]
    apply ByteArray.ext; simp [bz, ByteArray.data_append]]
  refine ret () trivial rfl
theorem numI_c (n : Int) (h0 : -999999 ≤ n) (h1 : n ≤ 999999) (w : World) : Calls Tryd.prog 36 #[.int .i64 n] w fun e w2 => e = .returned (.string (bz (Lib.itoa n))) ∧ Below w.heap.size w w2 := by
  by_cases hn : n < 0
  · exact (numNeg_f n h0 hn).val w (fun p hp => by cases hp)
  · rw [itoa_dec (by omega)]
    exact num7_c n (by omega) (by omega) w
theorem unS_at {s : ByteArray} (h : 1 < s.size) : unS s.data.toList = if s[0] = 45 then (s.extract 1 s.size).data.toList else s.data.toList := by
  have e : s.data.toList.head? = some s[0] := by
    rw [List.head?_eq_getElem?, List.getElem?_eq_getElem (by rw [size_list]; omega)]; rfl
  unfold unS
  rw [size_list, e, ext_end, bz_list]
  by_cases h2 : s[0] = 45
  · rw [if_pos ⟨h, by rw [h2]⟩, if_pos h2]
  · rw [if_neg (fun hh => h2 (Option.some.inj hh.2)), if_neg h2]
theorem unS_short {s : ByteArray} (h : ¬ 1 < s.size) : unS s.data.toList = s.data.toList := by
  unfold unS; rw [size_list, if_neg (fun hh => h hh.1)]
theorem yd_subu8 {P : Program} {n : Nat} {fr : Fr} {H : List Pc} {ty : TypeId} {x y : Operand} {a b : Int} {t t' : TypeId} (hx : ev fr x = some (.int .u8 a)) (hy : ev fr y = some (.int .u8 b)) (h0 : 0 ≤ a - b) (h1 : a - b ≤ 255) : Yd P n fr H (.binOp .sub t x y t') ty (.int .u8 (a - b)) := .mk fun c w d pos aft gd hA _ => by
  simp [execOp, hA.ev hx, hA.ev hy, eqGuard_sub, binOp_sub, Op.intArith, IntWalk.u8_in _ ⟨h0, h1⟩]
structure RdOk (t : ByteArray) (z : Nat × Nat) : Prop where
  k : z.2 ≤ t.size
  v : z.1 = dval (t.data.toList.take z.2)
  d : ∀ c ∈ t.data.toList.take z.2, 48 ≤ c.toNat ∧ c.toNat ≤ 57
set_option maxRecDepth 100000 in
theorem l1Read_f (s : ByteArray) (hs : s.size ≤ 1000000000) : Fn Tryd.prog 32 [.string s] [] [] (fun (_ : Unit) => True) (fun _ => .tuple #[.int .i64 (resPI s).1, .bool (resPI s).2]) (fun _ => []) := by
  refine enter Tryd.func32 rfl Tryd.ntmps32 fun w0 => ?_
  refine go ?_; intros
  refine wg_if rfl rfl (fun h1 => ?_) (fun h1 => ?_)
  · have h1 : 1 < s.size := by omega
    refine go ?_; intros
    refine c_if rfl (fun h2 => ?_) (fun h2 => ?_)
    · have ht : (s.extract 1 s.size).data.toList = unS s.data.toList := by rw [unS_at h1, if_pos (UInt8.toNat_inj.1 (by have : ((s[0]).toNat : Int) = 45 := h2; show (s[0]).toNat = 45; omega))]
      have hts : (s.extract 1 s.size).size = s.size - 1 := by simp
      refine goN ?_; intros
      apply wO; apply oc; rfl; exact yd_sll rfl rfl (by omega) (by omega)
      rw [show s.extract (1 : Int).toNat s.size = s.extract 1 s.size from rfl]
      generalize s.extract 1 s.size = t at ht hts ⊢
      refine go ?_; intros
      refine ce (fun w s => l1In_c _ _ _ _) ?_
      cases g1 : btw 1 ((t.size : Nat) : Int) 6
      · have hr : resPI s = (0, false) := by
          rcases Classical.em (resPI s = (0, false)) with h | h
          · exact h
          · exfalso
            obtain ⟨v, h0, h1', hsv, q1, q2, q3, q4, q5⟩ := read_good h
            rw [← ht, size_list] at q1 q2
            have : btw 1 ((t.size : Nat) : Int) 6 = true := by unfold btw; rw [decide_eq_true (by omega), decide_eq_true (by omega)]; rfl
            rw [this] at g1; cases g1
        rw [hr]
        refine go ?_; intros
        refine ret () trivial rfl
      obtain ⟨t1, t6⟩ : 1 ≤ t.size ∧ t.size ≤ 6 := by unfold btw at g1; simp only [Bool.and_eq_true, decide_eq_true_eq] at g1; omega
      refine go ?_; intros
      refine c_loopR [0, 2, 3, 4] (fun z : Nat × Nat => [(5, .int .i64 (z.1 : Nat)), (6, .int .i64 (z.2 : Nat))]) (RdOk t) (fun z => t.size - z.2) (0, 0) ⟨Nat.zero_le _, rfl, by simp⟩ fun z hz => ?_
      obtain ⟨vv, k⟩ := z
      obtain ⟨z1, z2, z3⟩ := hz
      dsimp only at z1 z2 z3 ⊢
      have hv6 : vv ≤ 999999 := by
        have := dval_lt (t.data.toList.take k).length _ rfl z3
        have hl : (t.data.toList.take k).length ≤ 6 := by rw [List.length_take, size_list]; omega
        have := Nat.pow_le_pow_right (show 0 < 10 by omega) hl
        omega
      refine go ?_; intros
      refine c_if rfl (fun h1 => ?_) (fun h1 => ?_)
      · have hk : k < t.size := by omega
        have hkl : k < t.data.toList.length := by rw [size_list]; exact hk
        have hm : t[k] ∈ unS s.data.toList := by rw [← ht]; exact List.getElem_mem hkl
        refine go ?_; intros
        refine wg_if rfl rfl (fun h3 => ?_) (fun h3 => ?_)
        · have h3 : ((t[k]).toNat : Int) < 48 := h3
          have hr : resPI s = (0, false) := by
            rcases Classical.em (resPI s = (0, false)) with h | h
            · exact h
            · exfalso
              obtain ⟨v, h0, h1', hsv, q1, q2, q3, q4, q5⟩ := read_good h
              have := q3 _ hm; omega
          rw [hr]
          refine go ?_; intros
          refine ret () trivial rfl
        have h3k : ¬ ((t[k]).toNat : Int) < 48 := h3
        refine go ?_; intros
        refine c_if rfl (fun h4 => ?_) (fun h4 => ?_)
        · have h4 : 57 < ((t[k]).toNat : Int) := h4
          have hr : resPI s = (0, false) := by
            rcases Classical.em (resPI s = (0, false)) with h | h
            · exact h
            · exfalso
              obtain ⟨v, h0, h1', hsv, q1, q2, q3, q4, q5⟩ := read_good h
              have := q3 _ hm; omega
          rw [hr]
          refine go ?_; intros
          refine ret () trivial rfl
        have h4k : ¬ 57 < ((t[k]).toNat : Int) := h4
        refine go ?_; intros
        apply wO; apply oc; rfl; exact yd_subu8 rfl rfl (by omega) (by omega)
        apply wO; apply oc; rfl; exact yd_cv rfl (by omega) (by omega)
        refine goN ?_; intros
        have e48 : ∀ x : Nat, 48 ≤ x → 10 * ((vv : Nat) : Int) + (((x : Nat) : Int) - 48) = ((10 * vv + (x - 48) : Nat) : Int) := fun x hx => by omega
        rw [e48]
        rotate_left
        · show 48 ≤ (t[k]).toNat; omega
        refine go ?_; intros
        have etk : t.data.toList.take (k + 1) = t.data.toList.take k ++ [t[k]] := by rw [List.take_succ_eq_append_getElem hkl]; rfl
        refine n_lp (10 * vv + ((t[k]).toNat - 48), k + 1) ⟨by show k + 1 ≤ t.size; omega, by show _ = dval (t.data.toList.take (k + 1)); rw [etk, dval_app, ← z2], by
          show ∀ c ∈ t.data.toList.take (k + 1), 48 ≤ c.toNat ∧ c.toNat ≤ 57
          rw [etk]
          intro c hc
          rcases List.mem_append.1 hc with hc | hc
          · exact z3 c hc
          · rw [List.mem_singleton] at hc; subst hc; omega⟩ (by show t.size - (k + 1) < t.size - k; omega)
      · have hks : k = t.size := by omega
        have z2 : vv = dval (unS s.data.toList) := by rw [← ht, z2, List.take_of_length_le (by rw [size_list]; omega)]
        have htz : (unS s.data.toList).length = t.size := by rw [← ht, size_list]
        refine go ?_; intros
        refine c_if rfl (fun h5 => ?_) (fun h5 => ?_)
        · refine go ?_; intros
          refine cb (fun w st => numI_c (-((vv : Nat) : Int)) (by omega) (by omega) w) ?_
          refine go ?_; intros
          by_cases h6 : bz (Lib.itoa (-((vv : Nat) : Int))) = s
          · have hr : resPI s = (-((vv : Nat) : Int), true) := by rw [← h6]; exact resPI_itoa (by omega) (by omega)
            rw [decide_eq_false (by simpa using h6), hr]
            refine go ?_; intros
            refine ret () trivial rfl
          · rw [decide_eq_true h6]
            have hr : resPI s = (0, false) := by
              rcases Classical.em (resPI s = (0, false)) with h | h
              · exact h
              · exfalso
                obtain ⟨v, h0, h1', hsv, q1, q2, q3, q4, q5⟩ := read_good h
                rw [htz] at q5
                have hv : v = -((vv : Nat) : Int) := by omega
                exact h6 (by rw [← hv]; exact hsv.symm)
            rw [hr]
            refine go ?_; intros
            refine ret () trivial rfl
        · refine go ?_; intros
          refine cb (fun w st => numI_c (((vv : Nat) : Int)) (by omega) (by omega) w) ?_
          refine go ?_; intros
          by_cases h6 : bz (Lib.itoa (((vv : Nat) : Int))) = s
          · have hr : resPI s = (((vv : Nat) : Int), true) := by rw [← h6]; exact resPI_itoa (by omega) (by omega)
            rw [decide_eq_false (by simpa using h6), hr]
            refine go ?_; intros
            refine ret () trivial rfl
          · rw [decide_eq_true h6]
            have hr : resPI s = (0, false) := by
              rcases Classical.em (resPI s = (0, false)) with h | h
              · exact h
              · exfalso
                obtain ⟨v, h0, h1', hsv, q1, q2, q3, q4, q5⟩ := read_good h
                rw [htz] at q5
                have hv : v = ((vv : Nat) : Int) := by omega
                exact h6 (by rw [← hv]; exact hsv.symm)
            rw [hr]
            refine go ?_; intros
            refine ret () trivial rfl
    · have ht : s.data.toList = unS s.data.toList := by rw [unS_at h1, if_neg (fun e => h2 (by show ((s[0]).toNat : Int) = 45; rw [e]; rfl))]
      refine go ?_; intros
      refine ce (fun w s => l1In_c _ _ _ _) ?_
      cases g1 : btw 1 ((s.size : Nat) : Int) 6
      · have hr : resPI s = (0, false) := by
          rcases Classical.em (resPI s = (0, false)) with h | h
          · exact h
          · exfalso
            obtain ⟨v, h0, h1', hsv, q1, q2, q3, q4, q5⟩ := read_good h
            rw [← ht, size_list] at q1 q2
            have : btw 1 ((s.size : Nat) : Int) 6 = true := by unfold btw; rw [decide_eq_true (by omega), decide_eq_true (by omega)]; rfl
            rw [this] at g1; cases g1
        rw [hr]
        refine go ?_; intros
        refine ret () trivial rfl
      obtain ⟨t1, t6⟩ : 1 ≤ s.size ∧ s.size ≤ 6 := by unfold btw at g1; simp only [Bool.and_eq_true, decide_eq_true_eq] at g1; omega
      refine go ?_; intros
      refine c_loopR [0, 2, 3, 4] (fun z : Nat × Nat => [(5, .int .i64 (z.1 : Nat)), (6, .int .i64 (z.2 : Nat))]) (RdOk s) (fun z => s.size - z.2) (0, 0) ⟨Nat.zero_le _, rfl, by simp⟩ fun z hz => ?_
      obtain ⟨vv, k⟩ := z
      obtain ⟨z1, z2, z3⟩ := hz
      dsimp only at z1 z2 z3 ⊢
      have hv6 : vv ≤ 999999 := by
        have := dval_lt (s.data.toList.take k).length _ rfl z3
        have hl : (s.data.toList.take k).length ≤ 6 := by rw [List.length_take, size_list]; omega
        have := Nat.pow_le_pow_right (show 0 < 10 by omega) hl
        omega
      refine go ?_; intros
      refine c_if rfl (fun h1 => ?_) (fun h1 => ?_)
      · have hk : k < s.size := by omega
        have hkl : k < s.data.toList.length := by rw [size_list]; exact hk
        have hm : s[k] ∈ unS s.data.toList := by rw [← ht]; exact List.getElem_mem hkl
        refine go ?_; intros
        refine wg_if rfl rfl (fun h3 => ?_) (fun h3 => ?_)
        · have h3 : ((s[k]).toNat : Int) < 48 := h3
          have hr : resPI s = (0, false) := by
            rcases Classical.em (resPI s = (0, false)) with h | h
            · exact h
            · exfalso
              obtain ⟨v, h0, h1', hsv, q1, q2, q3, q4, q5⟩ := read_good h
              have := q3 _ hm; omega
          rw [hr]
          refine go ?_; intros
          refine ret () trivial rfl
        have h3k : ¬ ((s[k]).toNat : Int) < 48 := h3
        refine go ?_; intros
        refine c_if rfl (fun h4 => ?_) (fun h4 => ?_)
        · have h4 : 57 < ((s[k]).toNat : Int) := h4
          have hr : resPI s = (0, false) := by
            rcases Classical.em (resPI s = (0, false)) with h | h
            · exact h
            · exfalso
              obtain ⟨v, h0, h1', hsv, q1, q2, q3, q4, q5⟩ := read_good h
              have := q3 _ hm; omega
          rw [hr]
          refine go ?_; intros
          refine ret () trivial rfl
        have h4k : ¬ 57 < ((s[k]).toNat : Int) := h4
        refine go ?_; intros
        apply wO; apply oc; rfl; exact yd_subu8 rfl rfl (by omega) (by omega)
        apply wO; apply oc; rfl; exact yd_cv rfl (by omega) (by omega)
        refine goN ?_; intros
        have e48 : ∀ x : Nat, 48 ≤ x → 10 * ((vv : Nat) : Int) + (((x : Nat) : Int) - 48) = ((10 * vv + (x - 48) : Nat) : Int) := fun x hx => by omega
        rw [e48]
        rotate_left
        · show 48 ≤ (s[k]).toNat; omega
        refine go ?_; intros
        have etk : s.data.toList.take (k + 1) = s.data.toList.take k ++ [s[k]] := by rw [List.take_succ_eq_append_getElem hkl]; rfl
        refine n_lp (10 * vv + ((s[k]).toNat - 48), k + 1) ⟨by show k + 1 ≤ s.size; omega, by show _ = dval (s.data.toList.take (k + 1)); rw [etk, dval_app, ← z2], by
          show ∀ c ∈ s.data.toList.take (k + 1), 48 ≤ c.toNat ∧ c.toNat ≤ 57
          rw [etk]
          intro c hc
          rcases List.mem_append.1 hc with hc | hc
          · exact z3 c hc
          · rw [List.mem_singleton] at hc; subst hc; omega⟩ (by show s.size - (k + 1) < s.size - k; omega)
      · have hks : k = s.size := by omega
        have z2 : vv = dval (unS s.data.toList) := by rw [← ht, z2, List.take_of_length_le (by rw [size_list]; omega)]
        have htz : (unS s.data.toList).length = s.size := by rw [← ht, size_list]
        refine go ?_; intros
        refine c_if rfl (fun h5 => ?_) (fun h5 => ?_)
        · refine go ?_; intros
          refine cb (fun w st => numI_c (-((vv : Nat) : Int)) (by omega) (by omega) w) ?_
          refine go ?_; intros
          by_cases h6 : bz (Lib.itoa (-((vv : Nat) : Int))) = s
          · have hr : resPI s = (-((vv : Nat) : Int), true) := by rw [← h6]; exact resPI_itoa (by omega) (by omega)
            rw [decide_eq_false (by simpa using h6), hr]
            refine go ?_; intros
            refine ret () trivial rfl
          · rw [decide_eq_true h6]
            have hr : resPI s = (0, false) := by
              rcases Classical.em (resPI s = (0, false)) with h | h
              · exact h
              · exfalso
                obtain ⟨v, h0, h1', hsv, q1, q2, q3, q4, q5⟩ := read_good h
                rw [htz] at q5
                have hv : v = -((vv : Nat) : Int) := by omega
                exact h6 (by rw [← hv]; exact hsv.symm)
            rw [hr]
            refine go ?_; intros
            refine ret () trivial rfl
        · refine go ?_; intros
          refine cb (fun w st => numI_c (((vv : Nat) : Int)) (by omega) (by omega) w) ?_
          refine go ?_; intros
          by_cases h6 : bz (Lib.itoa (((vv : Nat) : Int))) = s
          · have hr : resPI s = (((vv : Nat) : Int), true) := by rw [← h6]; exact resPI_itoa (by omega) (by omega)
            rw [decide_eq_false (by simpa using h6), hr]
            refine go ?_; intros
            refine ret () trivial rfl
          · rw [decide_eq_true h6]
            have hr : resPI s = (0, false) := by
              rcases Classical.em (resPI s = (0, false)) with h | h
              · exact h
              · exfalso
                obtain ⟨v, h0, h1', hsv, q1, q2, q3, q4, q5⟩ := read_good h
                rw [htz] at q5
                have hv : v = ((vv : Nat) : Int) := by omega
                exact h6 (by rw [← hv]; exact hsv.symm)
            rw [hr]
            refine go ?_; intros
            refine ret () trivial rfl
  · have ht : s.data.toList = unS s.data.toList := (unS_short (by omega)).symm
    refine go ?_; intros
    refine ce (fun w s => l1In_c _ _ _ _) ?_
    cases g1 : btw 1 ((s.size : Nat) : Int) 6
    · have hr : resPI s = (0, false) := by
        rcases Classical.em (resPI s = (0, false)) with h | h
        · exact h
        · exfalso
          obtain ⟨v, h0, h1', hsv, q1, q2, q3, q4, q5⟩ := read_good h
          rw [← ht, size_list] at q1 q2
          have : btw 1 ((s.size : Nat) : Int) 6 = true := by unfold btw; rw [decide_eq_true (by omega), decide_eq_true (by omega)]; rfl
          rw [this] at g1; cases g1
      rw [hr]
      refine go ?_; intros
      refine ret () trivial rfl
    obtain ⟨t1, t6⟩ : 1 ≤ s.size ∧ s.size ≤ 6 := by unfold btw at g1; simp only [Bool.and_eq_true, decide_eq_true_eq] at g1; omega
    refine go ?_; intros
    refine c_loopR [0, 2, 3, 4] (fun z : Nat × Nat => [(5, .int .i64 (z.1 : Nat)), (6, .int .i64 (z.2 : Nat))]) (RdOk s) (fun z => s.size - z.2) (0, 0) ⟨Nat.zero_le _, rfl, by simp⟩ fun z hz => ?_
    obtain ⟨vv, k⟩ := z
    obtain ⟨z1, z2, z3⟩ := hz
    dsimp only at z1 z2 z3 ⊢
    have hv6 : vv ≤ 999999 := by
      have := dval_lt (s.data.toList.take k).length _ rfl z3
      have hl : (s.data.toList.take k).length ≤ 6 := by rw [List.length_take, size_list]; omega
      have := Nat.pow_le_pow_right (show 0 < 10 by omega) hl
      omega
    refine go ?_; intros
    refine c_if rfl (fun h1 => ?_) (fun h1 => ?_)
    · have hk : k < s.size := by omega
      have hkl : k < s.data.toList.length := by rw [size_list]; exact hk
      have hm : s[k] ∈ unS s.data.toList := by rw [← ht]; exact List.getElem_mem hkl
      refine go ?_; intros
      refine wg_if rfl rfl (fun h3 => ?_) (fun h3 => ?_)
      · have h3 : ((s[k]).toNat : Int) < 48 := h3
        have hr : resPI s = (0, false) := by
          rcases Classical.em (resPI s = (0, false)) with h | h
          · exact h
          · exfalso
            obtain ⟨v, h0, h1', hsv, q1, q2, q3, q4, q5⟩ := read_good h
            have := q3 _ hm; omega
        rw [hr]
        refine go ?_; intros
        refine ret () trivial rfl
      have h3k : ¬ ((s[k]).toNat : Int) < 48 := h3
      refine go ?_; intros
      refine c_if rfl (fun h4 => ?_) (fun h4 => ?_)
      · have h4 : 57 < ((s[k]).toNat : Int) := h4
        have hr : resPI s = (0, false) := by
          rcases Classical.em (resPI s = (0, false)) with h | h
          · exact h
          · exfalso
            obtain ⟨v, h0, h1', hsv, q1, q2, q3, q4, q5⟩ := read_good h
            have := q3 _ hm; omega
        rw [hr]
        refine go ?_; intros
        refine ret () trivial rfl
      have h4k : ¬ 57 < ((s[k]).toNat : Int) := h4
      refine go ?_; intros
      apply wO; apply oc; rfl; exact yd_subu8 rfl rfl (by omega) (by omega)
      apply wO; apply oc; rfl; exact yd_cv rfl (by omega) (by omega)
      refine goN ?_; intros
      have e48 : ∀ x : Nat, 48 ≤ x → 10 * ((vv : Nat) : Int) + (((x : Nat) : Int) - 48) = ((10 * vv + (x - 48) : Nat) : Int) := fun x hx => by omega
      rw [e48]
      rotate_left
      · show 48 ≤ (s[k]).toNat; omega
      refine go ?_; intros
      have etk : s.data.toList.take (k + 1) = s.data.toList.take k ++ [s[k]] := by rw [List.take_succ_eq_append_getElem hkl]; rfl
      refine n_lp (10 * vv + ((s[k]).toNat - 48), k + 1) ⟨by show k + 1 ≤ s.size; omega, by show _ = dval (s.data.toList.take (k + 1)); rw [etk, dval_app, ← z2], by
        show ∀ c ∈ s.data.toList.take (k + 1), 48 ≤ c.toNat ∧ c.toNat ≤ 57
        rw [etk]
        intro c hc
        rcases List.mem_append.1 hc with hc | hc
        · exact z3 c hc
        · rw [List.mem_singleton] at hc; subst hc; omega⟩ (by show s.size - (k + 1) < s.size - k; omega)
    · have hks : k = s.size := by omega
      have z2 : vv = dval (unS s.data.toList) := by rw [← ht, z2, List.take_of_length_le (by rw [size_list]; omega)]
      have htz : (unS s.data.toList).length = s.size := by rw [← ht, size_list]
      refine go ?_; intros
      refine c_if rfl (fun h5 => ?_) (fun h5 => ?_)
      · refine go ?_; intros
        refine cb (fun w st => numI_c (-((vv : Nat) : Int)) (by omega) (by omega) w) ?_
        refine go ?_; intros
        by_cases h6 : bz (Lib.itoa (-((vv : Nat) : Int))) = s
        · have hr : resPI s = (-((vv : Nat) : Int), true) := by rw [← h6]; exact resPI_itoa (by omega) (by omega)
          rw [decide_eq_false (by simpa using h6), hr]
          refine go ?_; intros
          refine ret () trivial rfl
        · rw [decide_eq_true h6]
          have hr : resPI s = (0, false) := by
            rcases Classical.em (resPI s = (0, false)) with h | h
            · exact h
            · exfalso
              obtain ⟨v, h0, h1', hsv, q1, q2, q3, q4, q5⟩ := read_good h
              rw [htz] at q5
              have hv : v = -((vv : Nat) : Int) := by omega
              exact h6 (by rw [← hv]; exact hsv.symm)
          rw [hr]
          refine go ?_; intros
          refine ret () trivial rfl
      · refine go ?_; intros
        refine cb (fun w st => numI_c (((vv : Nat) : Int)) (by omega) (by omega) w) ?_
        refine go ?_; intros
        by_cases h6 : bz (Lib.itoa (((vv : Nat) : Int))) = s
        · have hr : resPI s = (((vv : Nat) : Int), true) := by rw [← h6]; exact resPI_itoa (by omega) (by omega)
          rw [decide_eq_false (by simpa using h6), hr]
          refine go ?_; intros
          refine ret () trivial rfl
        · rw [decide_eq_true h6]
          have hr : resPI s = (0, false) := by
            rcases Classical.em (resPI s = (0, false)) with h | h
            · exact h
            · exfalso
              obtain ⟨v, h0, h1', hsv, q1, q2, q3, q4, q5⟩ := read_good h
              rw [htz] at q5
              have hv : v = ((vv : Nat) : Int) := by omega
              exact h6 (by rw [← hv]; exact hsv.symm)
          rw [hr]
          refine go ?_; intros
          refine ret () trivial rfl
end Go.Proofs.YtgogcgkocjpgoaaDoor
/- Deliveries read out of sentences: the program and the reference. -/
namespace Go.Proofs.YtgogcgkocjpgoaaDoor
open Go.RowKit
theorem getD_atW (ws : List Bs) (i : Nat) (h : i < ws.length) : atW ws i = ws[i] := by unfold atW; rw [List.getD_eq_getElem?_getD, List.getElem?_eq_getElem h]; rfl
theorem mapbz_at {ws : List Bs} {i : Nat} (h : i < (ws.map bz).length) : ((ws.map bz)[i]).data.toList = atW ws i := by
  rw [List.getElem_map, bz_list, getD_atW]
theorem mapbz_eq {ws : List Bs} {i : Nat} (h : i < (ws.map bz).length) : (ws.map bz)[i] = bz (atW ws i) := by
  rw [List.getElem_map, getD_atW]
theorem lastW_at (ws : List Bs) : atW ws ((ws.map bz).length - 1) = lastW ws := by unfold lastW atW; rw [List.length_map]
theorem bz_lit {a : Bs} {b : List UInt8} : (bz a = ⟨b.toArray⟩) ↔ a = b := ⟨fun h => by have := congrArg (fun x : ByteArray => x.data.toList) h; simpa [bz] using this, fun h => by rw [h]; rfl⟩
theorem words_size (l : Bs) : ∀ t ∈ (splitL 32 l).map bz, t.size ≤ l.length := by
  intro t ht
  rw [← splitB_L] at ht
  have := splitB_small ⟨#[32]⟩ l.length _ (bz l) (by rw [bz_size]; exact Nat.le_refl _) t ht
  exact this
theorem unDot_len (l : Bs) : (unDot l).length ≤ l.length := by
  unfold unDot Lib.trimSuffix
  split
  · simp only [List.length_take]; omega
  · exact Nat.le_refl _
theorem resPD_at {s : ByteArray} (h8 : ¬ (wsI s).length < 8) : resPD s = if goodDel (pdI (wsI s)) && decide (delT (pdI (wsI s)) = s) then (pdI (wsI s), true) else (zDel, false) := by
  unfold resPD okPDI
  rw [decide_eq_false h8]
  simp only [Bool.not_false, Bool.true_and]
theorem resPD_few {s : ByteArray} (h8 : (wsI s).length < 8) : resPD s = (zDel, false) := by
  unfold resPD okPDI
  rw [decide_eq_true h8]
  simp
set_option maxRecDepth 100000 in
theorem ParseDelivery_f (s : ByteArray) (FT : List Nat) (hs : s.size ≤ 10000000) : Fn Tryd.prog 6 [.string s] [EnvP FT] [] (fun (_ : Unit) => True) (fun _ => .tuple #[.agg #[.int .i64 (resPD s).1.receiver, .int .i64 (resPD s).1.got, .int .i64 (resPD s).1.repaired, .int .i64 (resPD s).1.lost], .bool (resPD s).2]) (fun _ => []) := by
  have hu := unDot_len s.data.toList
  rw [size_list] at hu
  have hw : ∀ t ∈ (wsI s).map bz, t.size ≤ 1000000000 := fun t ht => by have := words_size _ t ht; omega
  have hml : ((wsI s).map bz).length = (wsI s).length := List.length_map ..
  have hcb := Lib.countB_le ⟨#[32]⟩ (by decide) (bz (unDot s.data.toList)).size (bz (unDot s.data.toList)) (Nat.le_refl _)
  have hlen := Lib.splitB_all ⟨#[32]⟩ (by decide) 0 _ (bz (unDot s.data.toList)) rfl
  rw [splitS_L, bz_list, List.length_map] at hlen
  rw [bz_size] at hcb
  have hwl : (wsI s).length ≤ s.size + 1 := by unfold wsI; omega
  refine enter Tryd.func6 rfl Tryd.ntmps6 fun w0 => ?_
  refine go ?_; intros
  refine ce (fun w _ => (Tryd.strings_TrimSuffix s ⟨#[46]⟩ w (by omega)).mono fun _ _ ⟨h1, h2⟩ => ⟨h1, h2.symm⟩) ?_
  rw [show (⟨(Lib.trimSuffix s.data.toList (⟨#[46]⟩ : ByteArray).data.toList).toArray⟩ : ByteArray) = bz (unDot s.data.toList) from rfl]
  refine go ?_; intros
  refine cn (fun w st => split_c (bz (unDot s.data.toList)) ⟨#[32]⟩ (by rw [bz_size]; omega) (by decide) FT w (st.get (p := EnvP FT) (by simp))) fun a0 c0 F0 => ?_
  rw [show Lib.splitB ⟨#[32]⟩ 0 (Lib.countB (bz (unDot s.data.toList)) ⟨#[32]⟩) (bz (unDot s.data.toList)) = (wsI s).map bz by rw [splitS_L, bz_list]; rfl]
  refine t_read (E := EStr) fun F1 => ?_
  refine go ?_; intros
  refine c_if rfl (fun h8 => ?_) (fun h8 => ?_)
  · rw [resPD_few (by omega)]
    refine go ?_; intros
    refine ret () trivial rfl
  have h8 : ¬ (wsI s).length < 8 := by omega
  apply c_skip
  apply n_cd
  apply c_seq
  refine c_joinS [0, 2, 3, 4] [0, 1, 2] (fun gq : Nat => [(5, ptr gq 0 0)]) (fun gq => [.row gq 23 0 [] [.int .i64 (nwI (atW (wsI s) 1)), .int .i64 (nwI (atW (wsI s) 3)), .int .i64 0, .int .i64 (nwI (lastW (wsI s)))] []]) (fun _ => True) ?_ fun gq _ => ?_
  · refine at_str (a := a0) (xs := (wsI s).map bz) 1 ?_
    rintro hi1 b o e s1
    rw [e]
    refine at_str (a := some ⟨b, o, none⟩) (xs := (wsI s).map bz) 3 ?_
    rintro hi3 _ _ e3 s3
    cases e3
    refine at_str (a := some ⟨b, o, none⟩) (xs := (wsI s).map bz) (((wsI s).map bz).length - 1) ?_
    rintro hil _ _ el sl
    cases el
    refine goN ?_; intros
    refine d_start [0, 1, 2] [] ?_
    refine dt 0 ?_
    refine dt 1 ?_
    refine dt 2 ?_
    refine dt 4 ?_
    refine dt 5 ?_
    refine dt 6 ?_
    refine dt 8 ?_
    refine dt 9 ?_
    refine dt 10 ?_
    refine dt 11 ?_
    rw [show ((((wsI s).map bz).length : Nat) : Int) - 1 = ((((wsI s).map bz).length - 1 : Nat) : Int) by omega]
    refine dt 12 ?_
    refine dt 13 ?_
    refine dO2 3 16 (by kernel_rfl) (by rw [List.getElem?_toArray]; rfl) (by rw [List.getElem?_toArray]; rfl) ?_ ?_
    · apply o_call; rfl; kernel_rfl; exact evsE
      refine cb (fun w st => (numberWord_f _ FT (hw _ (List.getElem_mem _))).val w (hol1 (st.get (p := EnvP FT) (by simp)))) ?_
      rw [mapbz_at]
      refine dk ?_
      refine dO2 7 16 (by kernel_rfl) (by rw [List.getElem?_toArray]; rfl) (by rw [List.getElem?_toArray]; rfl) ?_ ?_
      · apply o_call; rfl; kernel_rfl; exact evsE
        refine cb (fun w st => (numberWord_f _ FT (hw _ (List.getElem_mem _))).val w (hol1 (st.get (p := EnvP FT) (by simp)))) ?_
        rw [mapbz_at]
        refine dk ?_
        refine dO2 14 16 (by kernel_rfl) (by rw [List.getElem?_toArray]; rfl) (by rw [List.getElem?_toArray]; rfl) ?_ ?_
        · apply o_call; rfl; kernel_rfl; exact evsE
          refine cb (fun w st => (numberWord_f _ FT (hw _ (List.getElem_mem _))).val w (hol1 (st.get (p := EnvP FT) (by simp)))) ?_
          rw [mapbz_at]
          refine dk ?_
          refine dt 15 ?_
          refine dO 16 (by kernel_rfl) (by rw [List.getElem?_toArray]; rfl) ?_
          apply o_alloc; rfl; intro _
          refine dk ?_
          refine dO 17 (by kernel_rfl) (by rw [List.getElem?_toArray]; rfl) ?_
          apply o_st; rfl; rfl; rfl; (first | exact AggC.s | exact OneC.s); rfl; exact rplE; exact putE; rfl
          refine dk ?_
          refine dd ?_
          rw [lastW_at]
          refine go ?_; intros
          refine n_join _ trivial
        · apply o_alloc; rfl; intro _
          refine dk ?_
          refine dO 14 (by kernel_rfl) (by rw [List.getElem?_toArray]; rfl) ?_
          apply o_call; rfl; kernel_rfl; exact evsE
          refine cb (fun w st => (numberWord_f _ FT (hw _ (List.getElem_mem _))).val w (hol1 (st.get (p := EnvP FT) (by simp)))) ?_
          rw [mapbz_at]
          refine dk ?_
          refine dt 15 ?_
          refine dO 17 (by kernel_rfl) (by rw [List.getElem?_toArray]; rfl) ?_
          apply o_st; rfl; rfl; rfl; (first | exact AggC.s | exact OneC.s); rfl; exact rplE; exact putE; rfl
          refine dk ?_
          refine dd ?_
          rw [lastW_at]
          refine go ?_; intros
          refine n_join _ trivial
      · apply o_alloc; rfl; intro _
        refine dk ?_
        refine dO 7 (by kernel_rfl) (by rw [List.getElem?_toArray]; rfl) ?_
        apply o_call; rfl; kernel_rfl; exact evsE
        refine cb (fun w st => (numberWord_f _ FT (hw _ (List.getElem_mem _))).val w (hol1 (st.get (p := EnvP FT) (by simp)))) ?_
        rw [mapbz_at]
        refine dk ?_
        refine dO 14 (by kernel_rfl) (by rw [List.getElem?_toArray]; rfl) ?_
        apply o_call; rfl; kernel_rfl; exact evsE
        refine cb (fun w st => (numberWord_f _ FT (hw _ (List.getElem_mem _))).val w (hol1 (st.get (p := EnvP FT) (by simp)))) ?_
        rw [mapbz_at]
        refine dk ?_
        refine dt 15 ?_
        refine dO 17 (by kernel_rfl) (by rw [List.getElem?_toArray]; rfl) ?_
        apply o_st; rfl; rfl; rfl; (first | exact AggC.s | exact OneC.s); rfl; exact rplE; exact putE; rfl
        refine dk ?_
        refine dd ?_
        rw [lastW_at]
        refine go ?_; intros
        refine n_join _ trivial
    · apply o_alloc; rfl; intro _
      refine dk ?_
      refine dO 3 (by kernel_rfl) (by rw [List.getElem?_toArray]; rfl) ?_
      apply o_call; rfl; kernel_rfl; exact evsE
      refine cb (fun w st => (numberWord_f _ FT (hw _ (List.getElem_mem _))).val w (hol1 (st.get (p := EnvP FT) (by simp)))) ?_
      rw [mapbz_at]
      refine dk ?_
      refine dO 7 (by kernel_rfl) (by rw [List.getElem?_toArray]; rfl) ?_
      apply o_call; rfl; kernel_rfl; exact evsE
      refine cb (fun w st => (numberWord_f _ FT (hw _ (List.getElem_mem _))).val w (hol1 (st.get (p := EnvP FT) (by simp)))) ?_
      rw [mapbz_at]
      refine dk ?_
      refine dO 14 (by kernel_rfl) (by rw [List.getElem?_toArray]; rfl) ?_
      apply o_call; rfl; kernel_rfl; exact evsE
      refine cb (fun w st => (numberWord_f _ FT (hw _ (List.getElem_mem _))).val w (hol1 (st.get (p := EnvP FT) (by simp)))) ?_
      rw [mapbz_at]
      refine dk ?_
      refine dt 15 ?_
      refine dO 17 (by kernel_rfl) (by rw [List.getElem?_toArray]; rfl) ?_
      apply o_st; rfl; rfl; rfl; (first | exact AggC.s | exact OneC.s); rfl; exact rplE; exact putE; rfl
      refine dk ?_
      refine dd ?_
      rw [lastW_at]
      refine go ?_; intros
      refine n_join _ trivial
  have hi5 : 5 < ((wsI s).map bz).length := by omega
  refine at_str (a := a0) (xs := (wsI s).map bz) 5 ?_
  rintro hi1 b o e s1
  rw [e]
  refine go ?_; intros
  rw [mapbz_eq hi5]
  by_cases k1 : atW (wsI s) 5 = [114, 101, 112, 97, 105, 114, 101, 100, 44]
  · have hd : pdI (wsI s) = ⟨nwI (atW (wsI s) 1), nwI (atW (wsI s) 3), 1, nwI (lastW (wsI s))⟩ := by unfold pdI; rw [if_pos k1]
    rw [decide_eq_true (bz_lit.2 k1)]
    refine go ?_; intros
    refine cb (fun w st => (DeliveryText_f ⟨nwI (atW (wsI s) 1), nwI (atW (wsI s) 3), 1, nwI (lastW (wsI s))⟩ FT).val w (hol1 (st.get (p := EnvP FT) (by simp)))) ?_
    have hq := resPD_at h8
    rw [hd] at hq
    cases g : goodDel ⟨nwI (atW (wsI s) 1), nwI (atW (wsI s) 3), 1, nwI (lastW (wsI s))⟩
    · rw [show resDT ⟨nwI (atW (wsI s) 1), nwI (atW (wsI s) 3), 1, nwI (lastW (wsI s))⟩ = (⟨#[]⟩, false) by unfold resDT; rw [g]; rfl]
      rw [hq, g]
      refine go ?_; intros
      refine ret () trivial rfl
    rw [show resDT ⟨nwI (atW (wsI s) 1), nwI (atW (wsI s) 3), 1, nwI (lastW (wsI s))⟩ = (delT ⟨nwI (atW (wsI s) 1), nwI (atW (wsI s) 3), 1, nwI (lastW (wsI s))⟩, true) by unfold resDT; rw [g]; rfl]
    by_cases ht : delT ⟨nwI (atW (wsI s) 1), nwI (atW (wsI s) 3), 1, nwI (lastW (wsI s))⟩ = s
    · rw [hq, g, decide_eq_true ht, ht]
      refine go ?_; intros
      rw [show decide (¬ s = s) = false by simp]
      refine go ?_; intros
      refine ret () trivial rfl
    · rw [hq, g, decide_eq_false ht]
      refine go ?_; intros
      rw [show decide (¬ delT ⟨nwI (atW (wsI s) 1), nwI (atW (wsI s) 3), 1, nwI (lastW (wsI s))⟩ = s) = true by simpa using ht]
      refine go ?_; intros
      refine ret () trivial rfl
  rw [decide_eq_false (fun h => k1 (bz_lit.1 h))]
  refine go ?_; intros
  by_cases k2 : atW (wsI s) 5 = [97, 108, 108]
  · have hd : pdI (wsI s) = ⟨nwI (atW (wsI s) 1), nwI (atW (wsI s) 3), nwI (atW (wsI s) 3), nwI (lastW (wsI s))⟩ := by unfold pdI; rw [if_neg k1, if_pos k2]
    rw [decide_eq_true (bz_lit.2 k2)]
    refine go ?_; intros
    refine cb (fun w st => (DeliveryText_f ⟨nwI (atW (wsI s) 1), nwI (atW (wsI s) 3), nwI (atW (wsI s) 3), nwI (lastW (wsI s))⟩ FT).val w (hol1 (st.get (p := EnvP FT) (by simp)))) ?_
    have hq := resPD_at h8
    rw [hd] at hq
    cases g : goodDel ⟨nwI (atW (wsI s) 1), nwI (atW (wsI s) 3), nwI (atW (wsI s) 3), nwI (lastW (wsI s))⟩
    · rw [show resDT ⟨nwI (atW (wsI s) 1), nwI (atW (wsI s) 3), nwI (atW (wsI s) 3), nwI (lastW (wsI s))⟩ = (⟨#[]⟩, false) by unfold resDT; rw [g]; rfl]
      rw [hq, g]
      refine go ?_; intros
      refine ret () trivial rfl
    rw [show resDT ⟨nwI (atW (wsI s) 1), nwI (atW (wsI s) 3), nwI (atW (wsI s) 3), nwI (lastW (wsI s))⟩ = (delT ⟨nwI (atW (wsI s) 1), nwI (atW (wsI s) 3), nwI (atW (wsI s) 3), nwI (lastW (wsI s))⟩, true) by unfold resDT; rw [g]; rfl]
    by_cases ht : delT ⟨nwI (atW (wsI s) 1), nwI (atW (wsI s) 3), nwI (atW (wsI s) 3), nwI (lastW (wsI s))⟩ = s
    · rw [hq, g, decide_eq_true ht, ht]
      refine go ?_; intros
      rw [show decide (¬ s = s) = false by simp]
      refine go ?_; intros
      refine ret () trivial rfl
    · rw [hq, g, decide_eq_false ht]
      refine go ?_; intros
      rw [show decide (¬ delT ⟨nwI (atW (wsI s) 1), nwI (atW (wsI s) 3), nwI (atW (wsI s) 3), nwI (lastW (wsI s))⟩ = s) = true by simpa using ht]
      refine go ?_; intros
      refine ret () trivial rfl
  rw [decide_eq_false (fun h => k2 (bz_lit.1 h))]
  refine go ?_; intros
  by_cases k3 : atW (wsI s) 5 = [97, 110, 100]
  · have hd : pdI (wsI s) = ⟨nwI (atW (wsI s) 1), nwI (atW (wsI s) 3), 0, nwI (lastW (wsI s))⟩ := by unfold pdI; rw [if_neg k1, if_neg k2, if_pos k3]
    rw [decide_eq_false (show ¬ ¬ bz (atW (wsI s) 5) = ⟨#[97, 110, 100]⟩ from fun h => h (bz_lit.2 k3))]
    refine go ?_; intros
    refine cb (fun w st => (DeliveryText_f ⟨nwI (atW (wsI s) 1), nwI (atW (wsI s) 3), 0, nwI (lastW (wsI s))⟩ FT).val w (hol1 (st.get (p := EnvP FT) (by simp)))) ?_
    have hq := resPD_at h8
    rw [hd] at hq
    cases g : goodDel ⟨nwI (atW (wsI s) 1), nwI (atW (wsI s) 3), 0, nwI (lastW (wsI s))⟩
    · rw [show resDT ⟨nwI (atW (wsI s) 1), nwI (atW (wsI s) 3), 0, nwI (lastW (wsI s))⟩ = (⟨#[]⟩, false) by unfold resDT; rw [g]; rfl]
      rw [hq, g]
      refine go ?_; intros
      refine ret () trivial rfl
    rw [show resDT ⟨nwI (atW (wsI s) 1), nwI (atW (wsI s) 3), 0, nwI (lastW (wsI s))⟩ = (delT ⟨nwI (atW (wsI s) 1), nwI (atW (wsI s) 3), 0, nwI (lastW (wsI s))⟩, true) by unfold resDT; rw [g]; rfl]
    by_cases ht : delT ⟨nwI (atW (wsI s) 1), nwI (atW (wsI s) 3), 0, nwI (lastW (wsI s))⟩ = s
    · rw [hq, g, decide_eq_true ht, ht]
      refine go ?_; intros
      rw [show decide (¬ s = s) = false by simp]
      refine go ?_; intros
      refine ret () trivial rfl
    · rw [hq, g, decide_eq_false ht]
      refine go ?_; intros
      rw [show decide (¬ delT ⟨nwI (atW (wsI s) 1), nwI (atW (wsI s) 3), 0, nwI (lastW (wsI s))⟩ = s) = true by simpa using ht]
      refine go ?_; intros
      refine ret () trivial rfl
  · have hd : pdI (wsI s) = ⟨nwI (atW (wsI s) 1), nwI (atW (wsI s) 3), nwI (atW (wsI s) 5), nwI (lastW (wsI s))⟩ := by unfold pdI; rw [if_neg k1, if_neg k2, if_neg k3]
    rw [decide_eq_true (show ¬ bz (atW (wsI s) 5) = ⟨#[97, 110, 100]⟩ from fun h => k3 (bz_lit.1 h))]
    refine go ?_; intros
    refine cb (fun w st => (numberWord_f _ FT (hw (bz (atW (wsI s) 5)) (by rw [← mapbz_eq hi5]; exact List.getElem_mem _))).val w (hol1 (st.get (p := EnvP FT) (by simp)))) ?_
    rw [bz_list]
    refine go ?_; intros
    refine cb (fun w st => (DeliveryText_f ⟨nwI (atW (wsI s) 1), nwI (atW (wsI s) 3), nwI (atW (wsI s) 5), nwI (lastW (wsI s))⟩ FT).val w (hol1 (st.get (p := EnvP FT) (by simp)))) ?_
    have hq := resPD_at h8
    rw [hd] at hq
    cases g : goodDel ⟨nwI (atW (wsI s) 1), nwI (atW (wsI s) 3), nwI (atW (wsI s) 5), nwI (lastW (wsI s))⟩
    · rw [show resDT ⟨nwI (atW (wsI s) 1), nwI (atW (wsI s) 3), nwI (atW (wsI s) 5), nwI (lastW (wsI s))⟩ = (⟨#[]⟩, false) by unfold resDT; rw [g]; rfl]
      rw [hq, g]
      refine go ?_; intros
      refine ret () trivial rfl
    rw [show resDT ⟨nwI (atW (wsI s) 1), nwI (atW (wsI s) 3), nwI (atW (wsI s) 5), nwI (lastW (wsI s))⟩ = (delT ⟨nwI (atW (wsI s) 1), nwI (atW (wsI s) 3), nwI (atW (wsI s) 5), nwI (lastW (wsI s))⟩, true) by unfold resDT; rw [g]; rfl]
    by_cases ht : delT ⟨nwI (atW (wsI s) 1), nwI (atW (wsI s) 3), nwI (atW (wsI s) 5), nwI (lastW (wsI s))⟩ = s
    · rw [hq, g, decide_eq_true ht, ht]
      refine go ?_; intros
      rw [show decide (¬ s = s) = false by simp]
      refine go ?_; intros
      refine ret () trivial rfl
    · rw [hq, g, decide_eq_false ht]
      refine go ?_; intros
      rw [show decide (¬ delT ⟨nwI (atW (wsI s) 1), nwI (atW (wsI s) 3), nwI (atW (wsI s) 5), nwI (lastW (wsI s))⟩ = s) = true by simpa using ht]
      refine go ?_; intros
      refine ret () trivial rfl
set_option maxRecDepth 100000 in
theorem l26Read_f (s : ByteArray) (hs : s.size ≤ 1000000000) : Fn Tryd.prog 22 [.string s] [] [] (fun (_ : Unit) => True) (fun _ => .int .i64 (nwS s.data.toList)) (fun _ => []) := by
  refine enter Tryd.func22 rfl Tryd.ntmps22 fun w0 => ?_
  refine go ?_; intros
  refine c_if rfl (fun h => ?_) (fun h => ?_)
  · rw [show nwS s.data.toList = 1000000 by rw [h]; rfl]
    refine go ?_; intros
    refine ret () trivial rfl
  · rw [show nwS s.data.toList = (resPI s).1 by
      unfold nwS
      rw [if_neg (fun e => h (by rw [← bz_of s, e]; rfl)), bz_of]]
    refine go ?_; intros
    refine cf (l1Read_f s hs) fun _ _ => ?_
    refine t_app ?_
    refine go ?_; intros
    refine ret () trivial rfl
theorem resPD_Sat {s : ByteArray} (h : ¬ 90 < s.size) (h8 : ¬ (wsS s).length < 8) : resPD s = if goodDel (pdS (wsS s)) && decide (delT (pdS (wsS s)) = s) then (pdS (wsS s), true) else (zDel, false) := by
  rw [← resPD_S]
  unfold okPDS
  rw [decide_eq_false h, decide_eq_false h8]
  simp only [Bool.or_false, Bool.not_false, Bool.true_and]
theorem resPD_Sno {s : ByteArray} (h : 90 < s.size ∨ (wsS s).length < 8) : resPD s = (zDel, false) := by
  rw [← resPD_S]
  unfold okPDS
  rcases h with h | h <;> rw [decide_eq_true h] <;> simp
set_option maxRecDepth 100000 in
theorem l26Parse_f (s : ByteArray) (FT : List Nat) (hs : s.size ≤ 10000000) : Fn Tryd.prog 13 [.string s] [EnvP FT] [] (fun (_ : Unit) => True) (fun _ => .tuple #[.agg #[.int .i64 (resPD s).1.receiver, .int .i64 (resPD s).1.got, .int .i64 (resPD s).1.repaired, .int .i64 (resPD s).1.lost], .bool (resPD s).2]) (fun _ => []) := by
  have hw : ∀ t ∈ (wsS s).map bz, t.size ≤ 1000000000 := fun t ht => by have := words_size _ t ht; rw [size_list] at this; omega
  have hml : ((wsS s).map bz).length = (wsS s).length := List.length_map ..
  have hcb := Lib.countB_le ⟨#[32]⟩ (by decide) s.size s (Nat.le_refl _)
  have hlen := Lib.splitB_all ⟨#[32]⟩ (by decide) 0 _ s rfl
  rw [splitS_L, List.length_map] at hlen
  have hwl : (wsS s).length ≤ s.size + 1 := by unfold wsS; omega
  refine enter Tryd.func13 rfl Tryd.ntmps13 fun w0 => ?_
  refine go ?_; intros
  refine cf (l1Split_f s 32 (by omega)) fun q _ => ?_
  refine t_app ?_
  rw [show (splitL 32 s.data.toList).map bz = (wsS s).map bz from rfl]
  refine t_read (E := EStr) (xs := (wsS s).map bz) fun F1 => ?_
  refine go ?_; intros
  refine wg_if rfl rfl (fun h9 => ?_) (fun h9 => ?_)
  · rw [resPD_Sno (.inl (by omega))]
    refine go ?_; intros
    refine ret () trivial rfl
  refine go ?_; intros
  refine c_if rfl (fun h8 => ?_) (fun h8 => ?_)
  · rw [resPD_Sno (.inr (by omega))]
    refine go ?_; intros
    refine ret () trivial rfl
  have h8 : ¬ (wsS s).length < 8 := by omega
  have h9 : ¬ 90 < s.size := by omega
  have hil : ((wsS s).map bz).length - 1 < ((wsS s).map bz).length := by omega
  have hls : (bz (lastW (wsS s))).size ≤ 1000000000 := by rw [← lastW_at, ← mapbz_eq hil]; exact hw _ (List.getElem_mem _)
  refine at_str (a := q.1) (xs := (wsS s).map bz) (((wsS s).map bz).length - 1) ?_
  rintro _ b o el sl
  rw [el]
  refine go ?_; intros
  rw [show ((((wsS s).map bz).length : Nat) : Int) - 1 = ((((wsS s).map bz).length - 1 : Nat) : Int) by omega]
  refine go ?_; intros
  rw [mapbz_eq hil, lastW_at]
  refine c_joinS [0, 2, 3, 4, 5, 7] [0, 1, 2, 3, 4] (fun gq : Nat => [(8, ptr gq 0 0)]) (fun gq => [.row gq 23 0 [] [.int .i64 (nwS (atW (wsS s) 1)), .int .i64 (nwS (atW (wsS s) 3)), .int .i64 0, .int .i64 0] []]) (fun _ => True) ?_ fun gq _ => ?_
  · refine at_str (a := some ⟨b, o, none⟩) (xs := (wsS s).map bz) 1 ?_
    rintro hi1 _ _ e1 s1
    cases e1
    refine at_str (a := some ⟨b, o, none⟩) (xs := (wsS s).map bz) 3 ?_
    rintro hi3 _ _ e3 s3
    cases e3
    refine goN ?_; intros
    refine d_start [0, 1] [] ?_
    refine dt 0 ?_
    refine dt 1 ?_
    refine dt 2 ?_
    refine dt 4 ?_
    refine dt 5 ?_
    refine dt 6 ?_
    refine dO2 3 9 (by kernel_rfl) (by rw [List.getElem?_toArray]; rfl) (by rw [List.getElem?_toArray]; rfl) ?_ ?_
    · apply o_call; rfl; kernel_rfl; exact evsE
      refine cf (l26Read_f _ (hw _ (List.getElem_mem _))) fun _ _ => ?_
      refine t_app ?_
      rw [mapbz_at]
      refine dk ?_
      refine dO2 7 9 (by kernel_rfl) (by rw [List.getElem?_toArray]; rfl) (by rw [List.getElem?_toArray]; rfl) ?_ ?_
      · apply o_call; rfl; kernel_rfl; exact evsE
        refine cf (l26Read_f _ (hw _ (List.getElem_mem _))) fun _ _ => ?_
        refine t_app ?_
        rw [mapbz_at]
        refine dk ?_
        refine dt 8 ?_
        refine dO 9 (by kernel_rfl) (by rw [List.getElem?_toArray]; rfl) ?_
        apply o_alloc; rfl; intro _
        refine dk ?_
        refine dO 10 (by kernel_rfl) (by rw [List.getElem?_toArray]; rfl) ?_
        apply o_st; rfl; rfl; rfl; (first | exact AggC.s | exact OneC.s); rfl; exact rplE; exact putE; rfl
        refine dk ?_
        refine dd ?_
        refine go ?_; intros
        refine n_join _ trivial
      · apply o_alloc; rfl; intro _
        refine dk ?_
        refine dO 7 (by kernel_rfl) (by rw [List.getElem?_toArray]; rfl) ?_
        apply o_call; rfl; kernel_rfl; exact evsE
        refine cf (l26Read_f _ (hw _ (List.getElem_mem _))) fun _ _ => ?_
        refine t_app ?_
        rw [mapbz_at]
        refine dk ?_
        refine dt 8 ?_
        refine dO 10 (by kernel_rfl) (by rw [List.getElem?_toArray]; rfl) ?_
        apply o_st; rfl; rfl; rfl; (first | exact AggC.s | exact OneC.s); rfl; exact rplE; exact putE; rfl
        refine dk ?_
        refine dd ?_
        refine go ?_; intros
        refine n_join _ trivial
    · apply o_alloc; rfl; intro _
      refine dk ?_
      refine dO 3 (by kernel_rfl) (by rw [List.getElem?_toArray]; rfl) ?_
      apply o_call; rfl; kernel_rfl; exact evsE
      refine cf (l26Read_f _ (hw _ (List.getElem_mem _))) fun _ _ => ?_
      refine t_app ?_
      rw [mapbz_at]
      refine dk ?_
      refine dO 7 (by kernel_rfl) (by rw [List.getElem?_toArray]; rfl) ?_
      apply o_call; rfl; kernel_rfl; exact evsE
      refine cf (l26Read_f _ (hw _ (List.getElem_mem _))) fun _ _ => ?_
      refine t_app ?_
      rw [mapbz_at]
      refine dk ?_
      refine dt 8 ?_
      refine dO 10 (by kernel_rfl) (by rw [List.getElem?_toArray]; rfl) ?_
      apply o_st; rfl; rfl; rfl; (first | exact AggC.s | exact OneC.s); rfl; exact rplE; exact putE; rfl
      refine dk ?_
      refine dd ?_
      refine go ?_; intros
      refine n_join _ trivial
  refine go ?_; intros
  refine c_joinS [0, 2, 3, 4, 5, 7, 8] [1, 2, 3, 4, 5] (fun _ : Int => []) (fun z => [.row gq 23 0 [] [.int .i64 (nwS (atW (wsS s) 1)), .int .i64 (nwS (atW (wsS s) 3)), .int .i64 0, .int .i64 z] []]) (fun z => z = if lastW (wsS s) = [] then 0 else nwS (lastW (wsS s)).dropLast) ?_ fun z hz => ?_
  · refine c_if rfl (fun h => ?_) (fun h => ?_)
    · have hn : lastW (wsS s) ≠ [] := by intro e; rw [e, bz_size] at h; exact absurd h (by simp)
      have hx : ((bz (lastW (wsS s))).extract 0 (((bz (lastW (wsS s))).size : Int) - 1).toNat).data.toList = (lastW (wsS s)).dropLast := by
        rw [Lib.extract_from_zero, bz_list, bz_size, List.dropLast_eq_take]; congr 1; omega
      have hx2 : ((bz (lastW (wsS s))).extract 0 (((bz (lastW (wsS s))).size : Int) - 1).toNat).size ≤ 1000000000 := by rw [ByteArray.size_extract]; omega
      refine goN ?_; intros
      apply wO; apply oc; rfl; exact yd_slh rfl rfl (by omega) (by omega)
      refine go ?_; intros
      refine cf (l26Read_f _ hx2) fun _ _ => ?_
      refine t_app ?_
      rw [hx]
      refine go ?_; intros
      refine n_join (nwS (lastW (wsS s)).dropLast) (by rw [if_neg hn])
    · have hn : lastW (wsS s) = [] := by
        have : (bz (lastW (wsS s))).size = 0 := by omega
        rw [bz_size] at this; exact List.length_eq_zero_iff.1 this
      refine go ?_; intros
      refine n_join 0 (by rw [if_pos hn])
  have hi5 : 5 < ((wsS s).map bz).length := by omega
  refine at_str (a := some ⟨b, o, none⟩) (xs := (wsS s).map bz) 5 ?_
  rintro _ _ _ e5 s5
  cases e5
  rw [mapbz_eq hi5]
  refine go ?_; intros
  by_cases k1 : atW (wsS s) 5 = [97, 108, 108]
  · have hd : pdS (wsS s) = ⟨nwS (atW (wsS s) 1), nwS (atW (wsS s) 3), nwS (atW (wsS s) 3), z⟩ := by unfold pdS; rw [if_pos (.inl k1), ← hz]
    rw [decide_eq_true (bz_lit.2 k1)]
    refine go ?_; intros
    refine cf (l26One_f ⟨nwS (atW (wsS s) 1), nwS (atW (wsS s) 3), nwS (atW (wsS s) 3), z⟩) fun _ _ => ?_
    refine t_app ?_
    have hq := resPD_Sat h9 h8
    rw [hd] at hq
    cases g : goodDel ⟨nwS (atW (wsS s) 1), nwS (atW (wsS s) 3), nwS (atW (wsS s) 3), z⟩
    · rw [hq, g]
      refine go ?_; intros
      refine ret () trivial rfl
    refine go ?_; intros
    refine cb (fun w st => (l26Text_f ⟨nwS (atW (wsS s) 1), nwS (atW (wsS s) 3), nwS (atW (wsS s) 3), z⟩ FT g).val w (hol1 (st.get (p := EnvP FT) (by simp)))) ?_
    by_cases ht : delT ⟨nwS (atW (wsS s) 1), nwS (atW (wsS s) 3), nwS (atW (wsS s) 3), z⟩ = s
    · rw [hq, g, decide_eq_true ht, ht]
      refine go ?_; intros
      rw [show decide (¬ s = s) = false by simp]
      refine go ?_; intros
      refine ret () trivial rfl
    · rw [hq, g, decide_eq_false ht]
      refine go ?_; intros
      rw [show decide (¬ delT ⟨nwS (atW (wsS s) 1), nwS (atW (wsS s) 3), nwS (atW (wsS s) 3), z⟩ = s) = true by simpa using ht]
      refine go ?_; intros
      refine ret () trivial rfl
  rw [decide_eq_false (fun h => k1 (bz_lit.1 h))]
  refine go ?_; intros
  by_cases k2 : atW (wsS s) 5 = [114, 101, 112, 97, 105, 114, 101, 100, 44]
  · have hd : pdS (wsS s) = ⟨nwS (atW (wsS s) 1), nwS (atW (wsS s) 3), nwS (atW (wsS s) 3), z⟩ := by unfold pdS; rw [if_pos (.inr k2), ← hz]
    rw [decide_eq_true (bz_lit.2 k2)]
    refine go ?_; intros
    refine cf (l26One_f ⟨nwS (atW (wsS s) 1), nwS (atW (wsS s) 3), nwS (atW (wsS s) 3), z⟩) fun _ _ => ?_
    refine t_app ?_
    have hq := resPD_Sat h9 h8
    rw [hd] at hq
    cases g : goodDel ⟨nwS (atW (wsS s) 1), nwS (atW (wsS s) 3), nwS (atW (wsS s) 3), z⟩
    · rw [hq, g]
      refine go ?_; intros
      refine ret () trivial rfl
    refine go ?_; intros
    refine cb (fun w st => (l26Text_f ⟨nwS (atW (wsS s) 1), nwS (atW (wsS s) 3), nwS (atW (wsS s) 3), z⟩ FT g).val w (hol1 (st.get (p := EnvP FT) (by simp)))) ?_
    by_cases ht : delT ⟨nwS (atW (wsS s) 1), nwS (atW (wsS s) 3), nwS (atW (wsS s) 3), z⟩ = s
    · rw [hq, g, decide_eq_true ht, ht]
      refine go ?_; intros
      rw [show decide (¬ s = s) = false by simp]
      refine go ?_; intros
      refine ret () trivial rfl
    · rw [hq, g, decide_eq_false ht]
      refine go ?_; intros
      rw [show decide (¬ delT ⟨nwS (atW (wsS s) 1), nwS (atW (wsS s) 3), nwS (atW (wsS s) 3), z⟩ = s) = true by simpa using ht]
      refine go ?_; intros
      refine ret () trivial rfl
  · have hd : pdS (wsS s) = ⟨nwS (atW (wsS s) 1), nwS (atW (wsS s) 3), nwS (atW (wsS s) 5), z⟩ := by unfold pdS; rw [if_neg (fun h => h.elim k1 k2), ← hz]
    rw [decide_eq_false (fun h => k2 (bz_lit.1 h))]
    refine go ?_; intros
    refine cf (l26Read_f _ (hw (bz (atW (wsS s) 5)) (by rw [← mapbz_eq hi5]; exact List.getElem_mem _))) fun _ _ => ?_
    refine t_app ?_
    rw [bz_list]
    refine go ?_; intros
    refine cf (l26One_f ⟨nwS (atW (wsS s) 1), nwS (atW (wsS s) 3), nwS (atW (wsS s) 5), z⟩) fun _ _ => ?_
    refine t_app ?_
    have hq := resPD_Sat h9 h8
    rw [hd] at hq
    cases g : goodDel ⟨nwS (atW (wsS s) 1), nwS (atW (wsS s) 3), nwS (atW (wsS s) 5), z⟩
    · rw [hq, g]
      refine go ?_; intros
      refine ret () trivial rfl
    refine go ?_; intros
    refine cb (fun w st => (l26Text_f ⟨nwS (atW (wsS s) 1), nwS (atW (wsS s) 3), nwS (atW (wsS s) 5), z⟩ FT g).val w (hol1 (st.get (p := EnvP FT) (by simp)))) ?_
    by_cases ht : delT ⟨nwS (atW (wsS s) 1), nwS (atW (wsS s) 3), nwS (atW (wsS s) 5), z⟩ = s
    · rw [hq, g, decide_eq_true ht, ht]
      refine go ?_; intros
      rw [show decide (¬ s = s) = false by simp]
      refine go ?_; intros
      refine ret () trivial rfl
    · rw [hq, g, decide_eq_false ht]
      refine go ?_; intros
      rw [show decide (¬ delT ⟨nwS (atW (wsS s) 1), nwS (atW (wsS s) 3), nwS (atW (wsS s) 5), z⟩ = s) = true by simpa using ht]
      refine go ?_; intros
      refine ret () trivial rfl
theorem specParseDelivery_f (s : ByteArray) (FT : List Nat) (hs : s.size ≤ 10000000) : Fn Tryd.prog 5 [.string s] [EnvP FT] [] (fun (_ : Unit) => True) (fun _ => .tuple #[.agg #[.int .i64 (resPD s).1.receiver, .int .i64 (resPD s).1.got, .int .i64 (resPD s).1.repaired, .int .i64 (resPD s).1.lost], .bool (resPD s).2]) (fun _ => []) := by
  refine enter Tryd.func5 rfl Tryd.ntmps5 fun w0 => ?_
  refine go ?_; intros
  refine cb (fun w st => (l26Parse_f s FT hs).val w (hol1 (st.get (p := EnvP FT) (by simp)))) ?_
  refine go ?_; intros
  refine ret () trivial rfl
end Go.Proofs.YtgogcgkocjpgoaaDoor
/- The law FnExactParseDelivery: the walk. -/
namespace Go.Proofs.YtgogcgkocjpgoaaDoor
open Go.RowKit
set_option maxRecDepth 100000 in
theorem eqDel_f (d : Delivery) : Fn Tryd.prog 7 [.agg #[.int .i64 d.receiver, .int .i64 d.got, .int .i64 d.repaired, .int .i64 d.lost], .agg #[.int .i64 d.receiver, .int .i64 d.got, .int .i64 d.repaired, .int .i64 d.lost]] [] [] (fun (_ : Unit) => True) (fun _ => .bool true) (fun _ => []) := by
  refine enter Tryd.func7 rfl Tryd.ntmps7 fun w0 => ?_
  refine go ?_; intros
  refine c_if rfl (fun h1 => ?_) (fun h1 => ?_)
  · exact absurd rfl h1
  refine go ?_; intros
  refine c_if rfl (fun h2 => ?_) (fun h2 => ?_)
  · exact absurd rfl h2
  refine go ?_; intros
  refine c_if rfl (fun h3 => ?_) (fun h3 => ?_)
  · exact absurd rfl h3
  refine go ?_; intros
  refine c_if rfl (fun h4 => ?_) (fun h4 => ?_)
  · exact absurd rfl h4
  refine go ?_; intros
  refine ret () trivial rfl
set_option maxRecDepth 100000 in
theorem parseDelivery_l (s : ByteArray) (FT : List Nat) : Fn Tryd.prog 3 [.string s] [EnvP FT] [] (fun (_ : Unit) => True) (fun _ => .bool true) (fun _ => []) := by
  refine enter Tryd.func3 rfl Tryd.ntmps3 fun w0 => ?_
  refine go ?_; intros
  refine c_if rfl (fun h => ?_) (fun h => ?_)
  · refine go ?_; intros
    refine ret () trivial rfl
  refine go ?_; intros
  refine cb (fun w st => (specParseDelivery_f s FT (by omega)).val w (hol1 (st.get (p := EnvP FT) (by simp)))) ?_
  refine go ?_; intros
  refine cb (fun w st => (ParseDelivery_f s FT (by omega)).val w (hol1 (st.get (p := EnvP FT) (by simp)))) ?_
  refine go ?_; intros
  refine cf (eqDel_f (resPD s).1) fun _ _ => ?_
  refine t_app ?_
  refine go ?_; intros
  rw [show decide (¬ (resPD s).2 = (resPD s).2) = false by simp]
  refine go ?_; intros
  refine ret () trivial rfl
end Go.Proofs.YtgogcgkocjpgoaaDoor
/- The library's variables as the rows give them when the call begins. -/
namespace Go.Proofs.YtgogcgkocjpgoaaDoor
open Go.RowKit
theorem star_es : "*" ++ "errors.errorString" = "*errors.errorString" := by decide
theorem row_es : ∀ u, Tryd.prog.typeName? 3 u = some "*errors.errorString" → u = 97 := by
  intro u h
  exact typeName_ptr_named (nm := "errors.errorString") (by rw [star_es]; kernel_rfl) (by kernel_rfl) (by decide) u (by rw [star_es]; exact h)
theorem env_of {W : World} (hL : laidMetH Tryd.prog Rows.fnExactParseDeliveryRow.laid W) (hsh : W.ShapedOpen Tryd.prog) : (EnvP [5, 0, 1, 2]).P W := by
  rw [MakeChecks.laidMetH_plain _ _ _ (by kernel_rfl)] at hL
  have h3 := hL.tail.tail
  have h5 := hL.tail.tail.tail.tail
  have h6 := hL.tail.tail.tail.tail.tail
  have e : (Rows.laid_internal_strconv_uint64pow10 : DataW Unit) = Lib.tabData .u64 Lib.pow10Tab := by kernel_rfl
  rw [e] at h3
  have ht : Lib.TabIs Tryd.prog W "internal/strconv.uint64pow10" .u64 Lib.pow10Tab := Lib.tabIs_of_head (g := 5) (t := 106) (e := 78) (n := 20) (by kernel_rfl) (by kernel_rfl) Tryd.underlying106 Tryd.underlying78 (by kernel_rfl) (by kernel_rfl) h3
  have hu : Tryd.prog.underlying 47 = some (.interface (Tryd.prog.methodsAt 47)) := by kernel_rfl
  obtain ⟨a1, s1, hv1, -, -, -⟩ := laid_sentinel (g := 2) (ti := 47) (tp := 97) (te := 99) (ts := 9) h5 (by kernel_rfl) (by kernel_rfl) hu row_es Tryd.underlying97 Tryd.underlying99 rfl rfl Tryd.underlying9 (by kernel_rfl) (by kernel_rfl)
  obtain ⟨a2, s2, hv2, -, -, -⟩ := laid_sentinel (g := 1) (ti := 47) (tp := 97) (te := 99) (ts := 9) h6 (by kernel_rfl) (by kernel_rfl) hu row_es Tryd.underlying97 Tryd.underlying99 rfl rfl Tryd.underlying9 (by kernel_rfl) (by kernel_rfl)
  obtain ⟨m, hm⟩ := cell_of_shapedOpen_int (P := Tryd.prog) (g := 0) (t := 3) (zero := #[.int .i64 0]) hsh (of_decide_eq_true (by kernel_rfl)) (by kernel_rfl) rfl (by kernel_rfl) (by kernel_rfl) Tryd.underlying3
  refine ⟨[], rfl, rfl, ⟨ht, ⟨m, hm⟩, ⟨_, _, hv2⟩, ⟨_, _, hv1⟩⟩, rfl, ?_⟩
  have hc := Lib.TabIs.cell ht (g := 5) (by kernel_rfl) 0 (by rw [Lib.pow10Tab_length]; omega)
  have b0 := World.block_lt_of_cell? W ⟨5, 0, none⟩ hc
  intro b hb
  have : b ≤ 5 := by
    simp only [List.mem_cons, List.not_mem_nil, or_false] at hb
    rcases hb with rfl | rfl | rfl | rfl <;> decide
  exact Nat.lt_of_le_of_lt this b0
end Go.Proofs.YtgogcgkocjpgoaaDoor
/- What every law's proof shares: the step from 'returns true, and nothing that was there has turned' to the row's post; how arguments read. -/
namespace Go.Proofs.YtgogcgkocjpgoaaDoor
open Go.ChangeShapes Go.WideShapes Go.ChangeAt Go.RowKit

theorem trodAll_below {H : Type} {enc : TypeId × Value → H} {P : Program} (hl : laidOutB P = true) {W W' : World} (hb : Below W.heap.size W W') :
    ∀ (ts : List TypeId) (vs : List Value) (ds : List (DataW H)) (ps : List MemPlace), (∀ t ∈ ts, P.readableRec t = true ∧ t < P.types.size) →
      DataW.TrodAll enc P W 0 (fun _ => true) true ts vs ds ps → (∀ x ∈ ps, x.block < W.heap.size) → DataW.TrodAll enc P W' 0 (fun b => decide (b < W.heap.size)) true ts vs ds ps
  | [], vs, ds, ps, _, h, _ => by obtain ⟨rfl, rfl, rfl⟩ := trodAll_nil h; exact rfl
  | t :: ts, vs, ds, ps, ht, h, hlt => by
    obtain ⟨v, vs', d, ds', p, q, rfl, rfl, rfl, h1, h2⟩ := trodAll_cons h
    have ⟨a, b⟩ := ht t (by simp)
    exact ⟨p, q, Below.trod hl a b h1 hb fun x hx => hlt x (by simp [hx]), trodAll_below hl hb ts vs' ds' q (fun t h => ht t (by simp [h])) h2 fun x hx => hlt x (by simp [hx]), rfl⟩

/-- A law returned true and left all that was there aS it was: the row's post. -/
theorem law_post {H : Type} {enc : TypeId × Value → H} {P : Program} {f : Func} {s : ChangeSpec} {tb : TypeId} (hl : laidOutB P = true) (hr : ∀ t ∈ f.params.toList, P.readableRec t = true ∧ t < P.types.size)
    (hb : P.underlying tb = some .bool) (hres : f.resultTypes = #[tb]) (hv : s.vars = []) {W W' : World} {args : Array Value} {ds gs : List (DataW H)} {before : List MemPlace}
    (hs : s.fn H ds = { results := [.lit (.bool true)], args := ds }) (hW : DataW.Whole enc P f.params.toList s.vars false W args.toList ds gs before) (hB : Below W.heap.size W W') :
    s.post enc P f false true false false W args (.bool true) W' := by
  have hlt := hW.lt
  have hW0 := hW
  obtain ⟨p, q, hA, hV, rfl, _, _⟩ := hW0
  rw [hv] at hV
  obtain ⟨rfl, rfl⟩ := trodVars_none hV
  refine ⟨ds, [], p ++ [], [], p, [], hW, ?_, ?_, ?_, hB.frame _, fun h => by cases h⟩
  · rw [List.append_nil, hs, hres]
    exact trodAll_mk1 (shut_bool hb true)
  · rw [List.append_nil, hs]
    exact trodAll_below hl hB _ _ _ _ hr hA fun x hx => hlt x (by simpa using hx)
  · rw [hv, List.append_nil, hs]; exact rfl

/-- what reads aS data at type t reads by E -/
def Reads (P : Program) {α : Type} (E : Elem α) (t : TypeId) : Prop :=
  ∀ {H : Type} {enc : TypeId × Value → H} {w : World} {fuel : Nat} {cs : List Value} {x : DataW H × List MemPlace}, DataW.trod enc P w 0 (fun _ => true) true fuel t cs = some x → ∃ y F, E.rep w cs y F

section
variable {P : Program}
end

/-- the fields of a struct, one behind the other, each by its own reading -/
inductive FieldsOk (P : Program) : List Field → Nat → (α : Type) → Elem α → Prop
  | nil (off : Nat) : FieldsOk P [] off Unit EUnit
  | cons {f : Field} {r : List Field} {off : Nat} {α β : Type} {A : Elem α} {B : Elem β} (ho : f.offset = off) (hc : P.cellsOf f.type = A.sz) (hA : Reads P A f.type) (h : FieldsOk P r (off + A.sz) β B) : FieldsOk P (f :: r) off (α × β) (EProd A B)
end Go.Proofs.YtgogcgkocjpgoaaDoor
/- The law FnExactParseDelivery: what is counted of the program, each count by itself. -/
namespace Go.Proofs.YtgogcgkocjpgoaaDoor
open Go.RowKit Go.ChangeShapes Go.WideShapes Go.ChangeAt
set_option maxRecDepth 100000 in
set_option maxHeartbeats 0 in
theorem jf_ParseDelivery : joinedFacts Tryd.prog 3 Tryd.f3 Rows.fnExactParseDeliverySpec Rows.fnExactParseDeliveryRow = true := by
  unfold joinedFacts
  simp only [Bool.and_eq_true]
  repeat' refine And.intro ?_ ?_
  all_goals (as_aux_lemma => kernel_rfl)
end Go.Proofs.YtgogcgkocjpgoaaDoor
