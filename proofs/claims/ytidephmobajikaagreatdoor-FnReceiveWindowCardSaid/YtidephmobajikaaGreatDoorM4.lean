/- Part 4 of the proof: 11 texts, one behind the other. -/
import Derived.Laws.StructEq
import Derived.Test.YtidephmobajikaaGreatDoorRows
import Derived.MakeChecks
import Derived.Stop.LaidErr
import Derived.Shelf.Vars
import Derived.LaidLaws
import Derived.ProofKit
import Derived.OpenShut
import Derived.Test.YtidephmobajikaaGreatDoorM3
/- Receive windows out of their texts. -/
namespace Go.Proofs.YtidephmobajikaaGreatDoor
open Go.RowKit
def resText (x : ReceiveWindow) : ByteArray × Bool := if goodRW x then (slTxt x, true) else (⟨#[]⟩, false)
set_option maxRecDepth 100000 in
theorem SlotsText_f (x : ReceiveWindow) (v : Value) (F FT : List Nat) : Fn Tryz.prog 22 [v] [.isv EReceiveWindow v x F, EnvP FT] [] (fun (_ : Unit) => True) (fun _ => .tuple #[.string (resText x).1, .bool (resText x).2]) (fun _ => []) := by
  refine enter Tryz.func22 rfl Tryz.ntmps22 fun w0 => ?_
  refine openReceiveWindow ?_
  rintro a1 c1 F1 rfl l1
  repeat (first | apply c_seq | apply c_reg | (apply wO; apply oc; rfl; exact ydE) | apply w_nil | apply n_cd | (apply wg_t; rfl; rfl) | (apply wg_f; rfl; rfl; rfl; rfl) | (apply wg_u; rfl; rfl; rfl) | (apply c_t; rfl) | (apply c_f; rfl) | apply c_skip | apply c_block | apply n_blk | apply c_exit | apply e_hit | apply e_cd | apply e_lp | (apply e_miss; rfl) | apply c_ret | (apply wO; apply o_box; rfl; rfl; rfl; intro _) | (apply wO; apply o_alloc; rfl; intro _) | (apply wO; apply o_st; rfl; rfl; rfl; (first | exact AggC.s | exact OneC.s); rfl; exact rplE; exact putE; rfl) | (apply wO; apply o_bs0; rfl; intro _) | (apply wO; apply o_bs; rfl; rfl; rfl; rfl; exact rptE; exact filE; intro _) | (apply wO; apply o_call; rfl; kernel_rfl; exact evsE))
  refine cb (fun w st => (RWgood_f x _ F).val w (hol1 (st.get (p := .isv EReceiveWindow (.agg #[.int .i64 x.next, .slice a1 x.slots.length c1]) x F) (by simp)))) ?_
  cases g1 : goodRW x
  · repeat (first | apply c_seq | apply c_reg | (apply wO; apply oc; rfl; exact ydE) | apply w_nil | apply n_cd | (apply wg_t; rfl; rfl) | (apply wg_f; rfl; rfl; rfl; rfl) | (apply wg_u; rfl; rfl; rfl) | (apply c_t; rfl) | (apply c_f; rfl) | apply c_skip | apply c_block | apply n_blk | apply c_exit | apply e_hit | apply e_cd | apply e_lp | (apply e_miss; rfl) | apply c_ret | (apply wO; apply o_box; rfl; rfl; rfl; intro _) | (apply wO; apply o_alloc; rfl; intro _) | (apply wO; apply o_st; rfl; rfl; rfl; (first | exact AggC.s | exact OneC.s); rfl; exact rplE; exact putE; rfl) | (apply wO; apply o_bs0; rfl; intro _) | (apply wO; apply o_bs; rfl; rfl; rfl; rfl; exact rptE; exact filE; intro _) | (apply wO; apply o_call; rfl; kernel_rfl; exact evsE))
    rw [show resText x = (⟨#[]⟩, false) by unfold resText; rw [g1]; rfl]
    refine ret () trivial rfl
  rw [show resText x = (slTxt x, true) by unfold resText; rw [g1]; rfl]
  repeat (first | apply c_seq | apply c_reg | (apply wO; apply oc; rfl; exact ydE) | apply w_nil | apply n_cd | (apply wg_t; rfl; rfl) | (apply wg_f; rfl; rfl; rfl; rfl) | (apply wg_u; rfl; rfl; rfl) | (apply c_t; rfl) | (apply c_f; rfl) | apply c_skip | apply c_block | apply n_blk | apply c_exit | apply e_hit | apply e_cd | apply e_lp | (apply e_miss; rfl) | apply c_ret | (apply wO; apply o_box; rfl; rfl; rfl; intro _) | (apply wO; apply o_alloc; rfl; intro _) | (apply wO; apply o_st; rfl; rfl; rfl; (first | exact AggC.s | exact OneC.s); rfl; exact rplE; exact putE; rfl) | (apply wO; apply o_bs0; rfl; intro _) | (apply wO; apply o_bs; rfl; rfl; rfl; rfl; exact rptE; exact filE; intro _) | (apply wO; apply o_call; rfl; kernel_rfl; exact evsE))
  refine cb (fun w st => (slotsText_f x _ F FT g1).val w (hol2 (st.get (p := .isv EReceiveWindow (.agg #[.int .i64 x.next, .slice a1 x.slots.length c1]) x F) (by simp)) (st.get (p := EnvP FT) (by simp)))) ?_
  repeat (first | apply c_seq | apply c_reg | (apply wO; apply oc; rfl; exact ydE) | apply w_nil | apply n_cd | (apply wg_t; rfl; rfl) | (apply wg_f; rfl; rfl; rfl; rfl) | (apply wg_u; rfl; rfl; rfl) | (apply c_t; rfl) | (apply c_f; rfl) | apply c_skip | apply c_block | apply n_blk | apply c_exit | apply e_hit | apply e_cd | apply e_lp | (apply e_miss; rfl) | apply c_ret | (apply wO; apply o_box; rfl; rfl; rfl; intro _) | (apply wO; apply o_alloc; rfl; intro _) | (apply wO; apply o_st; rfl; rfl; rfl; (first | exact AggC.s | exact OneC.s); rfl; exact rplE; exact putE; rfl) | (apply wO; apply o_bs0; rfl; intro _) | (apply wO; apply o_bs; rfl; rfl; rfl; rfl; exact rptE; exact filE; intro _) | (apply wO; apply o_call; rfl; kernel_rfl; exact evsE))
  refine ret () trivial rfl
set_option maxRecDepth 100000 in
theorem specSlotsText_f (x : ReceiveWindow) (v : Value) (F FT : List Nat) : Fn Tryz.prog 24 [v] [.isv EReceiveWindow v x F, EnvP FT] [] (fun (_ : Unit) => True) (fun _ => .tuple #[.string (resText x).1, .bool (resText x).2]) (fun _ => []) := by
  refine enter Tryz.func24 rfl Tryz.ntmps24 fun w0 => ?_
  refine openReceiveWindow ?_
  rintro a1 c1 F1 rfl l1
  repeat (first | apply c_seq | apply c_reg | (apply wO; apply oc; rfl; exact ydE) | apply w_nil | apply n_cd | (apply wg_t; rfl; rfl) | (apply wg_f; rfl; rfl; rfl; rfl) | (apply wg_u; rfl; rfl; rfl) | (apply c_t; rfl) | (apply c_f; rfl) | apply c_skip | apply c_block | apply n_blk | apply c_exit | apply e_hit | apply e_cd | apply e_lp | (apply e_miss; rfl) | apply c_ret | (apply wO; apply o_box; rfl; rfl; rfl; intro _) | (apply wO; apply o_alloc; rfl; intro _) | (apply wO; apply o_st; rfl; rfl; rfl; (first | exact AggC.s | exact OneC.s); rfl; exact rplE; exact putE; rfl) | (apply wO; apply o_bs0; rfl; intro _) | (apply wO; apply o_bs; rfl; rfl; rfl; rfl; exact rptE; exact filE; intro _) | (apply wO; apply o_call; rfl; kernel_rfl; exact evsE))
  refine cb (fun w st => (l10Good_f x _ F).val w (hol1 (st.get (p := .isv EReceiveWindow (.agg #[.int .i64 x.next, .slice a1 x.slots.length c1]) x F) (by simp)))) ?_
  cases g1 : goodRW x
  · repeat (first | apply c_seq | apply c_reg | (apply wO; apply oc; rfl; exact ydE) | apply w_nil | apply n_cd | (apply wg_t; rfl; rfl) | (apply wg_f; rfl; rfl; rfl; rfl) | (apply wg_u; rfl; rfl; rfl) | (apply c_t; rfl) | (apply c_f; rfl) | apply c_skip | apply c_block | apply n_blk | apply c_exit | apply e_hit | apply e_cd | apply e_lp | (apply e_miss; rfl) | apply c_ret | (apply wO; apply o_box; rfl; rfl; rfl; intro _) | (apply wO; apply o_alloc; rfl; intro _) | (apply wO; apply o_st; rfl; rfl; rfl; (first | exact AggC.s | exact OneC.s); rfl; exact rplE; exact putE; rfl) | (apply wO; apply o_bs0; rfl; intro _) | (apply wO; apply o_bs; rfl; rfl; rfl; rfl; exact rptE; exact filE; intro _) | (apply wO; apply o_call; rfl; kernel_rfl; exact evsE))
    rw [show resText x = (⟨#[]⟩, false) by unfold resText; rw [g1]; rfl]
    refine ret () trivial rfl
  rw [show resText x = (slTxt x, true) by unfold resText; rw [g1]; rfl]
  repeat (first | apply c_seq | apply c_reg | (apply wO; apply oc; rfl; exact ydE) | apply w_nil | apply n_cd | (apply wg_t; rfl; rfl) | (apply wg_f; rfl; rfl; rfl; rfl) | (apply wg_u; rfl; rfl; rfl) | (apply c_t; rfl) | (apply c_f; rfl) | apply c_skip | apply c_block | apply n_blk | apply c_exit | apply e_hit | apply e_cd | apply e_lp | (apply e_miss; rfl) | apply c_ret | (apply wO; apply o_box; rfl; rfl; rfl; intro _) | (apply wO; apply o_alloc; rfl; intro _) | (apply wO; apply o_st; rfl; rfl; rfl; (first | exact AggC.s | exact OneC.s); rfl; exact rplE; exact putE; rfl) | (apply wO; apply o_bs0; rfl; intro _) | (apply wO; apply o_bs; rfl; rfl; rfl; rfl; exact rptE; exact filE; intro _) | (apply wO; apply o_call; rfl; kernel_rfl; exact evsE))
  refine cb (fun w st => (l10Text_f x _ F FT g1).val w (hol2 (st.get (p := .isv EReceiveWindow (.agg #[.int .i64 x.next, .slice a1 x.slots.length c1]) x F) (by simp)) (st.get (p := EnvP FT) (by simp)))) ?_
  repeat (first | apply c_seq | apply c_reg | (apply wO; apply oc; rfl; exact ydE) | apply w_nil | apply n_cd | (apply wg_t; rfl; rfl) | (apply wg_f; rfl; rfl; rfl; rfl) | (apply wg_u; rfl; rfl; rfl) | (apply c_t; rfl) | (apply c_f; rfl) | apply c_skip | apply c_block | apply n_blk | apply c_exit | apply e_hit | apply e_cd | apply e_lp | (apply e_miss; rfl) | apply c_ret | (apply wO; apply o_box; rfl; rfl; rfl; intro _) | (apply wO; apply o_alloc; rfl; intro _) | (apply wO; apply o_st; rfl; rfl; rfl; (first | exact AggC.s | exact OneC.s); rfl; exact rplE; exact putE; rfl) | (apply wO; apply o_bs0; rfl; intro _) | (apply wO; apply o_bs; rfl; rfl; rfl; rfl; exact rptE; exact filE; intro _) | (apply wO; apply o_call; rfl; kernel_rfl; exact evsE))
  refine ret () trivial rfl

def wslot (w : ByteArray) : Slot := if w = ⟨#[63]⟩ then ⟨false, ⟨#[]⟩⟩ else if w = ⟨#[46]⟩ then ⟨true, ⟨#[]⟩⟩ else ⟨true, w⟩
def pn (s : ByteArray) : ByteArray := bz (Lib.cut s.data.toList [58]).1
def pr (s : ByteArray) : ByteArray := bz (Lib.cut s.data.toList [58]).2.1
def pw0 (s : ByteArray) : List ByteArray := Lib.splitB ⟨#[32]⟩ 0 (Lib.countB (pr s) ⟨#[32]⟩) (pr s)
def pw (s : ByteArray) : List ByteArray := (pw0 s).drop 1
def pslot (s : ByteArray) : ReceiveWindow := ⟨(resPI (pn s)).1, (pw s).map wslot⟩
def okPS (s : ByteArray) : Bool := (resPI (pn s)).2 && goodRW (pslot s) && decide (slTxt (pslot s) = s)
def resPS (s : ByteArray) : ReceiveWindow × Bool := if okPS s then (pslot s, true) else (zRW, false)
theorem pn_size (s : ByteArray) : (pn s).size ≤ s.size := by
  unfold pn Lib.cut; rw [bz_size, ← size_list s]
  split
  · simp only [List.length_take]; omega
  · exact Nat.le_refl _
theorem pr_size (s : ByteArray) : (pr s).size ≤ s.size := by
  unfold pr Lib.cut; rw [bz_size, ← size_list s]
  split
  · simp only [List.length_drop]; omega
  · simp
theorem pw0_len (s : ByteArray) : (pw0 s).length = Lib.countB (pr s) ⟨#[32]⟩ + 1 := Lib.splitB_all _ (by decide) 0 _ _ rfl
theorem pw_size (s : ByteArray) : ∀ t ∈ pw s, t.size ≤ s.size := fun t ht => by
  have := splitB_small ⟨#[32]⟩ _ _ _ (pr_size s) t (List.mem_of_mem_drop ht)
  exact this
theorem wslot_size {w : ByteArray} {n : Nat} (h : w.size ≤ n) : (wslot w).item.size ≤ n := by
  unfold wslot; split
  · exact Nat.zero_le _
  · split
    · exact Nat.zero_le _
    · exact h
structure PsS where
  y : ReceiveWindow
  a : Option Addr
  c : Nat
  F : List Nat
set_option maxRecDepth 100000 in
theorem ParseSlots_f (s : ByteArray) (FT : List Nat) (hs : s.size ≤ 1000000) : Fn Tryz.prog 23 [.string s] [EnvP FT] [] (fun (z : PsS) => z.y = (resPS s).1)
    (fun z => .tuple #[.agg #[.int .i64 z.y.next, .slice z.a z.y.slots.length z.c], .bool (resPS s).2]) (fun z => [.own OReceiveWindow (.agg #[.int .i64 z.y.next, .slice z.a z.y.slots.length z.c]) z.y z.F]) := by
  have hn := pn_size s
  have hr := pr_size s
  have hp0 := pw0_len s
  have no : okPS s = false → resPS s = (zRW, false) := fun h => by unfold resPS; rw [h]; rfl
  refine enter Tryz.func23 rfl Tryz.ntmps23 fun w0 => ?_
  refine t_nilow ESlot 113 ?_
  refine closeOReceiveWindow zRW ?_
  repeat (first | apply c_seq | apply c_reg | (apply wO; apply oc; rfl; exact ydE) | apply w_nil | apply n_cd | (apply wg_t; rfl; rfl) | (apply wg_f; rfl; rfl; rfl; rfl) | (apply wg_u; rfl; rfl; rfl) | (apply c_t; rfl) | (apply c_f; rfl) | apply c_skip | apply c_block | apply n_blk | apply c_exit | apply e_hit | apply e_cd | apply e_lp | (apply e_miss; rfl) | apply c_ret | (apply wO; apply o_box; rfl; rfl; rfl; intro _) | (apply wO; apply o_alloc; rfl; intro _) | (apply wO; apply o_st; rfl; rfl; rfl; (first | exact AggC.s | exact OneC.s); rfl; exact rplE; exact putE; rfl) | (apply wO; apply o_bs0; rfl; intro _) | (apply wO; apply o_bs; rfl; rfl; rfl; rfl; exact rptE; exact filE; intro _) | (apply wO; apply o_call; rfl; kernel_rfl; exact evsE))
  refine cb (fun w st => cut_c s ⟨#[58]⟩ (by omega) FT w (st.get (p := EnvP FT) (by simp))) ?_
  rw [show bz (Lib.cut s.data.toList (⟨#[58]⟩ : ByteArray).data.toList).1 = pn s from rfl, show bz (Lib.cut s.data.toList (⟨#[58]⟩ : ByteArray).data.toList).2.1 = pr s from rfl]
  repeat (first | apply c_seq | apply c_reg | (apply wO; apply oc; rfl; exact ydE) | apply w_nil | apply n_cd | (apply wg_t; rfl; rfl) | (apply wg_f; rfl; rfl; rfl; rfl) | (apply wg_u; rfl; rfl; rfl) | (apply c_t; rfl) | (apply c_f; rfl) | apply c_skip | apply c_block | apply n_blk | apply c_exit | apply e_hit | apply e_cd | apply e_lp | (apply e_miss; rfl) | apply c_ret | (apply wO; apply o_box; rfl; rfl; rfl; intro _) | (apply wO; apply o_alloc; rfl; intro _) | (apply wO; apply o_st; rfl; rfl; rfl; (first | exact AggC.s | exact OneC.s); rfl; exact rplE; exact putE; rfl) | (apply wO; apply o_bs0; rfl; intro _) | (apply wO; apply o_bs; rfl; rfl; rfl; rfl; exact rptE; exact filE; intro _) | (apply wO; apply o_call; rfl; kernel_rfl; exact evsE))
  refine cb (fun w st => (ParseInt_f (pn s) FT (by omega)).val w (hol1 (st.get (p := EnvP FT) (by simp)))) ?_
  repeat (first | apply c_seq | apply c_reg | (apply wO; apply oc; rfl; exact ydE) | apply w_nil | apply n_cd | (apply wg_t; rfl; rfl) | (apply wg_f; rfl; rfl; rfl; rfl) | (apply wg_u; rfl; rfl; rfl) | (apply c_t; rfl) | (apply c_f; rfl) | apply c_skip | apply c_block | apply n_blk | apply c_exit | apply e_hit | apply e_cd | apply e_lp | (apply e_miss; rfl) | apply c_ret | (apply wO; apply o_box; rfl; rfl; rfl; intro _) | (apply wO; apply o_alloc; rfl; intro _) | (apply wO; apply o_st; rfl; rfl; rfl; (first | exact AggC.s | exact OneC.s); rfl; exact rplE; exact putE; rfl) | (apply wO; apply o_bs0; rfl; intro _) | (apply wO; apply o_bs; rfl; rfl; rfl; rfl; exact rptE; exact filE; intro _) | (apply wO; apply o_call; rfl; kernel_rfl; exact evsE))
  cases g1 : (resPI (pn s)).2
  · repeat (first | apply c_seq | apply c_reg | (apply wO; apply oc; rfl; exact ydE) | apply w_nil | apply n_cd | (apply wg_t; rfl; rfl) | (apply wg_f; rfl; rfl; rfl; rfl) | (apply wg_u; rfl; rfl; rfl) | (apply c_t; rfl) | (apply c_f; rfl) | apply c_skip | apply c_block | apply n_blk | apply c_exit | apply e_hit | apply e_cd | apply e_lp | (apply e_miss; rfl) | apply c_ret | (apply wO; apply o_box; rfl; rfl; rfl; intro _) | (apply wO; apply o_alloc; rfl; intro _) | (apply wO; apply o_st; rfl; rfl; rfl; (first | exact AggC.s | exact OneC.s); rfl; exact rplE; exact putE; rfl) | (apply wO; apply o_bs0; rfl; intro _) | (apply wO; apply o_bs; rfl; rfl; rfl; rfl; exact rptE; exact filE; intro _) | (apply wO; apply o_call; rfl; kernel_rfl; exact evsE))
    rw [no (by unfold okPS; rw [g1]; rfl)]
    refine ret ⟨zRW, none, 0, []⟩ rfl rfl
  repeat (first | apply c_seq | apply c_reg | (apply wO; apply oc; rfl; exact ydE) | apply w_nil | apply n_cd | (apply wg_t; rfl; rfl) | (apply wg_f; rfl; rfl; rfl; rfl) | (apply wg_u; rfl; rfl; rfl) | (apply c_t; rfl) | (apply c_f; rfl) | apply c_skip | apply c_block | apply n_blk | apply c_exit | apply e_hit | apply e_cd | apply e_lp | (apply e_miss; rfl) | apply c_ret | (apply wO; apply o_box; rfl; rfl; rfl; intro _) | (apply wO; apply o_alloc; rfl; intro _) | (apply wO; apply o_st; rfl; rfl; rfl; (first | exact AggC.s | exact OneC.s); rfl; exact rplE; exact putE; rfl) | (apply wO; apply o_bs0; rfl; intro _) | (apply wO; apply o_bs; rfl; rfl; rfl; rfl; exact rptE; exact filE; intro _) | (apply wO; apply o_call; rfl; kernel_rfl; exact evsE))
  refine cn (fun w st => split_c (pr s) ⟨#[32]⟩ (by omega) (by decide) FT w (st.get (p := EnvP FT) (by simp))) fun a0 c0 F0 => ?_
  rw [show Lib.splitB ⟨#[32]⟩ 0 (Lib.countB (pr s) ⟨#[32]⟩) (pr s) = pw0 s from rfl]
  have hpl : (pslot s).slots.length = (pw s).length := by simp [pslot]
  have hpc : (pw s).length = (pw0 s).length - 1 := by simp [pw]
  have hcb := Lib.countB_le ⟨#[32]⟩ (by decide) (pr s).size (pr s) (Nat.le_refl _)
  repeat (first | apply c_seq | apply c_reg | (apply wO; apply oc; rfl; exact ydE) | apply w_nil | apply n_cd | (apply wg_t; rfl; rfl) | (apply wg_f; rfl; rfl; rfl; rfl) | (apply wg_u; rfl; rfl; rfl) | (apply c_t; rfl) | (apply c_f; rfl) | apply c_skip | apply c_block | apply n_blk | apply c_exit | apply e_hit | apply e_cd | apply e_lp | (apply e_miss; rfl) | apply c_ret | (apply wO; apply o_box; rfl; rfl; rfl; intro _) | (apply wO; apply o_alloc; rfl; intro _) | (apply wO; apply o_st; rfl; rfl; rfl; (first | exact AggC.s | exact OneC.s); rfl; exact rplE; exact putE; rfl) | (apply wO; apply o_bs0; rfl; intro _) | (apply wO; apply o_bs; rfl; rfl; rfl; rfl; exact rptE; exact filE; intro _) | (apply wO; apply o_call; rfl; kernel_rfl; exact evsE))
  refine t_read fun F8 => ?_
  apply wO
  refine sld 1 fun a1 c1 F1 => ?_
  rw [show (pw0 s).drop 1 = pw s from rfl]
  rename_i g2 g9
  refine t_nilow ESlot 113 ?_
  repeat (first | apply c_seq | apply c_reg | (apply wO; apply oc; rfl; exact ydE) | apply w_nil | apply n_cd | (apply wg_t; rfl; rfl) | (apply wg_f; rfl; rfl; rfl; rfl) | (apply wg_u; rfl; rfl; rfl) | (apply c_t; rfl) | (apply c_f; rfl) | apply c_skip | apply c_block | apply n_blk | apply c_exit | apply e_hit | apply e_cd | apply e_lp | (apply e_miss; rfl) | apply c_ret | (apply wO; apply o_box; rfl; rfl; rfl; intro _) | (apply wO; apply o_alloc; rfl; intro _) | (apply wO; apply o_st; rfl; rfl; rfl; (first | exact AggC.s | exact OneC.s); rfl; exact rplE; exact putE; rfl) | (apply wO; apply o_bs0; rfl; intro _) | (apply wO; apply o_bs; rfl; rfl; rfl; rfl; exact rptE; exact filE; intro _) | (apply wO; apply o_call; rfl; kernel_rfl; exact evsE))
  refine c_loopS [0, 2, 3, 9, 30, 31] (fun z : SpS => [(32, .int .i64 (z.k : Nat))]) (fun z => [.row g9 26 0 [] [.int .i64 (resPI (pn s)).1, .slice z.a ((pslot s).slots.take z.k).length z.c] [], .ow ESlot 113 (.slice z.a ((pslot s).slots.take z.k).length z.c) ((pslot s).slots.take z.k) z.F]) (fun z => z.k ≤ (pw s).length) (fun z => (pw s).length - z.k) ⟨0, none, 0, []⟩ (Nat.zero_le _) fun z hz => ?_
  obtain ⟨k, a, c, F⟩ := z
  dsimp only at hz ⊢
  have htl : ((pslot s).slots.take k).length = k := by rw [List.length_take]; omega
  repeat (first | apply c_seq | apply c_reg | (apply wO; apply oc; rfl; exact ydE) | apply w_nil | apply n_cd | (apply wg_t; rfl; rfl) | (apply wg_f; rfl; rfl; rfl; rfl) | (apply wg_u; rfl; rfl; rfl) | (apply c_t; rfl) | (apply c_f; rfl) | apply c_skip | apply c_block | apply n_blk | apply c_exit | apply e_hit | apply e_cd | apply e_lp | (apply e_miss; rfl) | apply c_ret | (apply wO; apply o_box; rfl; rfl; rfl; intro _) | (apply wO; apply o_alloc; rfl; intro _) | (apply wO; apply o_st; rfl; rfl; rfl; (first | exact AggC.s | exact OneC.s); rfl; exact rplE; exact putE; rfl) | (apply wO; apply o_bs0; rfl; intro _) | (apply wO; apply o_bs; rfl; rfl; rfl; rfl; exact rptE; exact filE; intro _) | (apply wO; apply o_call; rfl; kernel_rfl; exact evsE))
  refine c_if rfl (fun h1 => ?_) (fun h1 => ?_)
  · have hk : k < (pw s).length := by omega
    have hk2 : (pslot s).slots.take k ++ [wslot (pw s)[k]] = (pslot s).slots.take (k + 1) := by
      rw [← List.take_append_getElem (show k < (pslot s).slots.length by omega)]
      congr 2
      simp [pslot]
    have hkz := pw_size s _ (List.getElem_mem hk)
    have hkm : (wslot (pw s)[k]).item.size ≤ maxLen := by have := wslot_size (w := (pw s)[k]) hkz; unfold maxLen; omega
    refine at_str (xs := pw s) k ?_
    rintro hi b o e s1
    rw [e]
    repeat (first | apply c_seq | apply c_reg | (apply wO; apply oc; rfl; exact ydE) | apply w_nil | apply n_cd | (apply wg_t; rfl; rfl) | (apply wg_f; rfl; rfl; rfl; rfl) | (apply wg_u; rfl; rfl; rfl) | (apply c_t; rfl) | (apply c_f; rfl) | apply c_skip | apply c_block | apply n_blk | apply c_exit | apply e_hit | apply e_cd | apply e_lp | (apply e_miss; rfl) | apply c_ret | (apply wO; apply o_box; rfl; rfl; rfl; intro _) | (apply wO; apply o_alloc; rfl; intro _) | (apply wO; apply o_st; rfl; rfl; rfl; (first | exact AggC.s | exact OneC.s); rfl; exact rplE; exact putE; rfl) | (apply wO; apply o_bs0; rfl; intro _) | (apply wO; apply o_bs; rfl; rfl; rfl; rfl; exact rptE; exact filE; intro _) | (apply wO; apply o_call; rfl; kernel_rfl; exact evsE))
    by_cases e1 : (pw s)[k] = ⟨#[63]⟩
    · rw [decide_eq_true e1]
      have hk3 : (pslot s).slots.take k ++ [(⟨false, ⟨#[]⟩⟩ : Slot)] = (pslot s).slots.take (k + 1) := by rw [← hk2]; simp [wslot, e1]
      repeat (first | apply c_seq | apply c_reg | (apply wO; apply oc; rfl; exact ydE) | apply w_nil | apply n_cd | (apply wg_t; rfl; rfl) | (apply wg_f; rfl; rfl; rfl; rfl) | (apply wg_u; rfl; rfl; rfl) | (apply c_t; rfl) | (apply c_f; rfl) | apply c_skip | apply c_block | apply n_blk | apply c_exit | apply e_hit | apply e_cd | apply e_lp | (apply e_miss; rfl) | apply c_ret | (apply wO; apply o_box; rfl; rfl; rfl; intro _) | (apply wO; apply o_alloc; rfl; intro _) | (apply wO; apply o_st; rfl; rfl; rfl; (first | exact AggC.s | exact OneC.s); rfl; exact rplE; exact putE; rfl) | (apply wO; apply o_bs0; rfl; intro _) | (apply wO; apply o_bs; rfl; rfl; rfl; rfl; exact rptE; exact filE; intro _) | (apply wO; apply o_call; rfl; kernel_rfl; exact evsE))
      apply wO
      refine ap1 (rep_slot ⟨false, ⟨#[]⟩⟩ (by decide)) one_ESlot fun a2 c2 F2 => ?_
      repeat (first | apply c_seq | apply c_reg | (apply wO; apply oc; rfl; exact ydE) | apply w_nil | apply n_cd | (apply wg_t; rfl; rfl) | (apply wg_f; rfl; rfl; rfl; rfl) | (apply wg_u; rfl; rfl; rfl) | (apply c_t; rfl) | (apply c_f; rfl) | apply c_skip | apply c_block | apply n_blk | apply c_exit | apply e_hit | apply e_cd | apply e_lp | (apply e_miss; rfl) | apply c_ret | (apply wO; apply o_box; rfl; rfl; rfl; intro _) | (apply wO; apply o_alloc; rfl; intro _) | (apply wO; apply o_st; rfl; rfl; rfl; (first | exact AggC.s | exact OneC.s); rfl; exact rplE; exact putE; rfl) | (apply wO; apply o_bs0; rfl; intro _) | (apply wO; apply o_bs; rfl; rfl; rfl; rfl; exact rptE; exact filE; intro _) | (apply wO; apply o_call; rfl; kernel_rfl; exact evsE))
      rw [hk3]
      refine n_lp (⟨k + 1, a2, c2, F2⟩ : SpS) (by show k + 1 ≤ _; omega) (by show _ - (k + 1) < _ - k; omega)
    · rw [decide_eq_false e1]
      repeat (first | apply c_seq | apply c_reg | (apply wO; apply oc; rfl; exact ydE) | apply w_nil | apply n_cd | (apply wg_t; rfl; rfl) | (apply wg_f; rfl; rfl; rfl; rfl) | (apply wg_u; rfl; rfl; rfl) | (apply c_t; rfl) | (apply c_f; rfl) | apply c_skip | apply c_block | apply n_blk | apply c_exit | apply e_hit | apply e_cd | apply e_lp | (apply e_miss; rfl) | apply c_ret | (apply wO; apply o_box; rfl; rfl; rfl; intro _) | (apply wO; apply o_alloc; rfl; intro _) | (apply wO; apply o_st; rfl; rfl; rfl; (first | exact AggC.s | exact OneC.s); rfl; exact rplE; exact putE; rfl) | (apply wO; apply o_bs0; rfl; intro _) | (apply wO; apply o_bs; rfl; rfl; rfl; rfl; exact rptE; exact filE; intro _) | (apply wO; apply o_call; rfl; kernel_rfl; exact evsE))
      by_cases e2 : (pw s)[k] = ⟨#[46]⟩
      · rw [decide_eq_true e2]
        have hk3 : (pslot s).slots.take k ++ [(⟨true, ⟨#[]⟩⟩ : Slot)] = (pslot s).slots.take (k + 1) := by rw [← hk2]; simp [wslot, e2]
        repeat (first | apply c_seq | apply c_reg | (apply wO; apply oc; rfl; exact ydE) | apply w_nil | apply n_cd | (apply wg_t; rfl; rfl) | (apply wg_f; rfl; rfl; rfl; rfl) | (apply wg_u; rfl; rfl; rfl) | (apply c_t; rfl) | (apply c_f; rfl) | apply c_skip | apply c_block | apply n_blk | apply c_exit | apply e_hit | apply e_cd | apply e_lp | (apply e_miss; rfl) | apply c_ret | (apply wO; apply o_box; rfl; rfl; rfl; intro _) | (apply wO; apply o_alloc; rfl; intro _) | (apply wO; apply o_st; rfl; rfl; rfl; (first | exact AggC.s | exact OneC.s); rfl; exact rplE; exact putE; rfl) | (apply wO; apply o_bs0; rfl; intro _) | (apply wO; apply o_bs; rfl; rfl; rfl; rfl; exact rptE; exact filE; intro _) | (apply wO; apply o_call; rfl; kernel_rfl; exact evsE))
        apply wO
        refine ap1 (rep_slot ⟨true, ⟨#[]⟩⟩ (by decide)) one_ESlot fun a2 c2 F2 => ?_
        repeat (first | apply c_seq | apply c_reg | (apply wO; apply oc; rfl; exact ydE) | apply w_nil | apply n_cd | (apply wg_t; rfl; rfl) | (apply wg_f; rfl; rfl; rfl; rfl) | (apply wg_u; rfl; rfl; rfl) | (apply c_t; rfl) | (apply c_f; rfl) | apply c_skip | apply c_block | apply n_blk | apply c_exit | apply e_hit | apply e_cd | apply e_lp | (apply e_miss; rfl) | apply c_ret | (apply wO; apply o_box; rfl; rfl; rfl; intro _) | (apply wO; apply o_alloc; rfl; intro _) | (apply wO; apply o_st; rfl; rfl; rfl; (first | exact AggC.s | exact OneC.s); rfl; exact rplE; exact putE; rfl) | (apply wO; apply o_bs0; rfl; intro _) | (apply wO; apply o_bs; rfl; rfl; rfl; rfl; exact rptE; exact filE; intro _) | (apply wO; apply o_call; rfl; kernel_rfl; exact evsE))
        rw [hk3]
        refine n_lp (⟨k + 1, a2, c2, F2⟩ : SpS) (by show k + 1 ≤ _; omega) (by show _ - (k + 1) < _ - k; omega)
      · rw [decide_eq_false e2]
        have hk3 : (pslot s).slots.take k ++ [(⟨true, (pw s)[k]⟩ : Slot)] = (pslot s).slots.take (k + 1) := by rw [← hk2]; simp [wslot, e1, e2]
        repeat (first | apply c_seq | apply c_reg | (apply wO; apply oc; rfl; exact ydE) | apply w_nil | apply n_cd | (apply wg_t; rfl; rfl) | (apply wg_f; rfl; rfl; rfl; rfl) | (apply wg_u; rfl; rfl; rfl) | (apply c_t; rfl) | (apply c_f; rfl) | apply c_skip | apply c_block | apply n_blk | apply c_exit | apply e_hit | apply e_cd | apply e_lp | (apply e_miss; rfl) | apply c_ret | (apply wO; apply o_box; rfl; rfl; rfl; intro _) | (apply wO; apply o_alloc; rfl; intro _) | (apply wO; apply o_st; rfl; rfl; rfl; (first | exact AggC.s | exact OneC.s); rfl; exact rplE; exact putE; rfl) | (apply wO; apply o_bs0; rfl; intro _) | (apply wO; apply o_bs; rfl; rfl; rfl; rfl; exact rptE; exact filE; intro _) | (apply wO; apply o_call; rfl; kernel_rfl; exact evsE))
        apply wO
        refine ap1 (rep_slot ⟨true, (pw s)[k]⟩ (by exact s1)) one_ESlot fun a2 c2 F2 => ?_
        repeat (first | apply c_seq | apply c_reg | (apply wO; apply oc; rfl; exact ydE) | apply w_nil | apply n_cd | (apply wg_t; rfl; rfl) | (apply wg_f; rfl; rfl; rfl; rfl) | (apply wg_u; rfl; rfl; rfl) | (apply c_t; rfl) | (apply c_f; rfl) | apply c_skip | apply c_block | apply n_blk | apply c_exit | apply e_hit | apply e_cd | apply e_lp | (apply e_miss; rfl) | apply c_ret | (apply wO; apply o_box; rfl; rfl; rfl; intro _) | (apply wO; apply o_alloc; rfl; intro _) | (apply wO; apply o_st; rfl; rfl; rfl; (first | exact AggC.s | exact OneC.s); rfl; exact rplE; exact putE; rfl) | (apply wO; apply o_bs0; rfl; intro _) | (apply wO; apply o_bs; rfl; rfl; rfl; rfl; exact rptE; exact filE; intro _) | (apply wO; apply o_call; rfl; kernel_rfl; exact evsE))
        rw [hk3]
        refine n_lp (⟨k + 1, a2, c2, F2⟩ : SpS) (by show k + 1 ≤ _; omega) (by show _ - (k + 1) < _ - k; omega)
  · obtain rfl : k = (pw s).length := by omega
    rw [show (pslot s).slots.take (pw s).length = (pslot s).slots from List.take_of_length_le (by omega), show (resPI (pn s)).1 = (pslot s).next from rfl]
    repeat (first | apply c_seq | apply c_reg | (apply wO; apply oc; rfl; exact ydE) | apply w_nil | apply n_cd | (apply wg_t; rfl; rfl) | (apply wg_f; rfl; rfl; rfl; rfl) | (apply wg_u; rfl; rfl; rfl) | (apply c_t; rfl) | (apply c_f; rfl) | apply c_skip | apply c_block | apply n_blk | apply c_exit | apply e_hit | apply e_cd | apply e_lp | (apply e_miss; rfl) | apply c_ret | (apply wO; apply o_box; rfl; rfl; rfl; intro _) | (apply wO; apply o_alloc; rfl; intro _) | (apply wO; apply o_st; rfl; rfl; rfl; (first | exact AggC.s | exact OneC.s); rfl; exact rplE; exact putE; rfl) | (apply wO; apply o_bs0; rfl; intro _) | (apply wO; apply o_bs; rfl; rfl; rfl; rfl; exact rptE; exact filE; intro _) | (apply wO; apply o_call; rfl; kernel_rfl; exact evsE))
    refine cb (fun w st => by
      obtain ⟨F3, h3⟩ := rdRW (x := pslot s) (st.get (p := .ow ESlot 113 (.slice a (pslot s).slots.length c) (pslot s).slots F) (by simp))
      exact (RWgood_f (pslot s) _ F3).val w (hol1 h3)) ?_
    cases g2 : goodRW (pslot s)
    · repeat (first | apply c_seq | apply c_reg | (apply wO; apply oc; rfl; exact ydE) | apply w_nil | apply n_cd | (apply wg_t; rfl; rfl) | (apply wg_f; rfl; rfl; rfl; rfl) | (apply wg_u; rfl; rfl; rfl) | (apply c_t; rfl) | (apply c_f; rfl) | apply c_skip | apply c_block | apply n_blk | apply c_exit | apply e_hit | apply e_cd | apply e_lp | (apply e_miss; rfl) | apply c_ret | (apply wO; apply o_box; rfl; rfl; rfl; intro _) | (apply wO; apply o_alloc; rfl; intro _) | (apply wO; apply o_st; rfl; rfl; rfl; (first | exact AggC.s | exact OneC.s); rfl; exact rplE; exact putE; rfl) | (apply wO; apply o_bs0; rfl; intro _) | (apply wO; apply o_bs; rfl; rfl; rfl; rfl; exact rptE; exact filE; intro _) | (apply wO; apply o_call; rfl; kernel_rfl; exact evsE))
      rw [no (by unfold okPS; rw [g1, g2]; rfl)]
      refine ret ⟨zRW, none, 0, []⟩ rfl rfl
    repeat (first | apply c_seq | apply c_reg | (apply wO; apply oc; rfl; exact ydE) | apply w_nil | apply n_cd | (apply wg_t; rfl; rfl) | (apply wg_f; rfl; rfl; rfl; rfl) | (apply wg_u; rfl; rfl; rfl) | (apply c_t; rfl) | (apply c_f; rfl) | apply c_skip | apply c_block | apply n_blk | apply c_exit | apply e_hit | apply e_cd | apply e_lp | (apply e_miss; rfl) | apply c_ret | (apply wO; apply o_box; rfl; rfl; rfl; intro _) | (apply wO; apply o_alloc; rfl; intro _) | (apply wO; apply o_st; rfl; rfl; rfl; (first | exact AggC.s | exact OneC.s); rfl; exact rplE; exact putE; rfl) | (apply wO; apply o_bs0; rfl; intro _) | (apply wO; apply o_bs; rfl; rfl; rfl; rfl; exact rptE; exact filE; intro _) | (apply wO; apply o_call; rfl; kernel_rfl; exact evsE))
    refine cb (fun w st => by
      obtain ⟨F3, h3⟩ := rdRW (x := pslot s) (st.get (p := .ow ESlot 113 (.slice a (pslot s).slots.length c) (pslot s).slots F) (by simp))
      exact (slotsText_f (pslot s) _ F3 FT g2).val w (hol2 h3 (st.get (p := EnvP FT) (by simp)))) ?_
    repeat (first | apply c_seq | apply c_reg | (apply wO; apply oc; rfl; exact ydE) | apply w_nil | apply n_cd | (apply wg_t; rfl; rfl) | (apply wg_f; rfl; rfl; rfl; rfl) | (apply wg_u; rfl; rfl; rfl) | (apply c_t; rfl) | (apply c_f; rfl) | apply c_skip | apply c_block | apply n_blk | apply c_exit | apply e_hit | apply e_cd | apply e_lp | (apply e_miss; rfl) | apply c_ret | (apply wO; apply o_box; rfl; rfl; rfl; intro _) | (apply wO; apply o_alloc; rfl; intro _) | (apply wO; apply o_st; rfl; rfl; rfl; (first | exact AggC.s | exact OneC.s); rfl; exact rplE; exact putE; rfl) | (apply wO; apply o_bs0; rfl; intro _) | (apply wO; apply o_bs; rfl; rfl; rfl; rfl; exact rptE; exact filE; intro _) | (apply wO; apply o_call; rfl; kernel_rfl; exact evsE))
    by_cases g3 : slTxt (pslot s) = s
    · rw [decide_eq_false (by simpa using g3)]
      repeat (first | apply c_seq | apply c_reg | (apply wO; apply oc; rfl; exact ydE) | apply w_nil | apply n_cd | (apply wg_t; rfl; rfl) | (apply wg_f; rfl; rfl; rfl; rfl) | (apply wg_u; rfl; rfl; rfl) | (apply c_t; rfl) | (apply c_f; rfl) | apply c_skip | apply c_block | apply n_blk | apply c_exit | apply e_hit | apply e_cd | apply e_lp | (apply e_miss; rfl) | apply c_ret | (apply wO; apply o_box; rfl; rfl; rfl; intro _) | (apply wO; apply o_alloc; rfl; intro _) | (apply wO; apply o_st; rfl; rfl; rfl; (first | exact AggC.s | exact OneC.s); rfl; exact rplE; exact putE; rfl) | (apply wO; apply o_bs0; rfl; intro _) | (apply wO; apply o_bs; rfl; rfl; rfl; rfl; exact rptE; exact filE; intro _) | (apply wO; apply o_call; rfl; kernel_rfl; exact evsE))
      rw [show resPS s = (pslot s, true) by unfold resPS okPS; rw [g1, g2, decide_eq_true g3]; rfl]
      refine closeOReceiveWindow (pslot s) ?_
      refine ret ⟨pslot s, a, c, F⟩ rfl rfl
    · rw [decide_eq_true g3]
      repeat (first | apply c_seq | apply c_reg | (apply wO; apply oc; rfl; exact ydE) | apply w_nil | apply n_cd | (apply wg_t; rfl; rfl) | (apply wg_f; rfl; rfl; rfl; rfl) | (apply wg_u; rfl; rfl; rfl) | (apply c_t; rfl) | (apply c_f; rfl) | apply c_skip | apply c_block | apply n_blk | apply c_exit | apply e_hit | apply e_cd | apply e_lp | (apply e_miss; rfl) | apply c_ret | (apply wO; apply o_box; rfl; rfl; rfl; intro _) | (apply wO; apply o_alloc; rfl; intro _) | (apply wO; apply o_st; rfl; rfl; rfl; (first | exact AggC.s | exact OneC.s); rfl; exact rplE; exact putE; rfl) | (apply wO; apply o_bs0; rfl; intro _) | (apply wO; apply o_bs; rfl; rfl; rfl; rfl; exact rptE; exact filE; intro _) | (apply wO; apply o_call; rfl; kernel_rfl; exact evsE))
      rw [no (by unfold okPS; rw [decide_eq_false g3]; simp)]
      refine ret ⟨zRW, none, 0, []⟩ rfl rfl
end Go.Proofs.YtidephmobajikaaGreatDoor
/- Draws of texts of windows. -/
namespace Go.Proofs.YtidephmobajikaaGreatDoor
open Go.RowKit
set_option maxRecDepth 100000 in
theorem spoilt_f (B g : Nat) (F : CuF) (s : CuS) (t u : ByteArray) (ok : CuOk B s) (hB : B ≤ 800000000000) (ht : t.size ≤ 100000) (h1 : 1 ≤ u.size) (h2 : u.size ≤ 1000) :
    Fn Tryz.prog 90 [ptr g 0 0, .string t, .string u] [.sl EByte (.slice F.a F.code.length F.c) F.code F.bs] [.row g 100 0 [] [.slice F.a F.code.length F.c, .int .i64 (s.k : Nat), .int .u64 s.seed] []] (fun (z : ByteArray × CuS) => z.1.size ≤ t.size + 1 ∧ CuOk (B + 6) z.2) (fun z => .string z.1) (fun z => [.row g 100 0 [] [.slice F.a F.code.length F.c, .int .i64 (z.2.k : Nat), .int .u64 z.2.seed] []]) := by
  refine enter Tryz.func90 rfl Tryz.ntmps90 fun w0 => ?_
  repeat (first | apply c_seq | apply c_reg | (apply wO; apply oc; rfl; exact ydE) | apply w_nil | apply n_cd | (apply wg_t; rfl; rfl) | (apply wg_f; rfl; rfl; rfl; rfl) | (apply wg_u; rfl; rfl; rfl) | (apply c_t; rfl) | (apply c_f; rfl) | apply c_skip | apply c_block | apply n_blk | apply c_exit | apply e_hit | apply e_cd | apply e_lp | (apply e_miss; rfl) | apply c_ret | (apply wO; apply o_box; rfl; rfl; rfl; intro _) | (apply wO; apply o_alloc; rfl; intro _) | (apply wO; apply o_st; rfl; rfl; rfl; (first | exact AggC.s | exact OneC.s); rfl; exact rplE; exact putE; rfl) | (apply wO; apply o_bs0; rfl; intro _) | (apply wO; apply o_bs; rfl; rfl; rfl; rfl; exact rptE; exact filE; intro _) | (apply wO; apply o_call; rfl; kernel_rfl; exact evsE))
  by_cases e0 : t = ⟨#[]⟩
  · rw [decide_eq_true e0]
    repeat (first | apply c_seq | apply c_reg | (apply wO; apply oc; rfl; exact ydE) | apply w_nil | apply n_cd | (apply wg_t; rfl; rfl) | (apply wg_f; rfl; rfl; rfl; rfl) | (apply wg_u; rfl; rfl; rfl) | (apply c_t; rfl) | (apply c_f; rfl) | apply c_skip | apply c_block | apply n_blk | apply c_exit | apply e_hit | apply e_cd | apply e_lp | (apply e_miss; rfl) | apply c_ret | (apply wO; apply o_box; rfl; rfl; rfl; intro _) | (apply wO; apply o_alloc; rfl; intro _) | (apply wO; apply o_st; rfl; rfl; rfl; (first | exact AggC.s | exact OneC.s); rfl; exact rplE; exact putE; rfl) | (apply wO; apply o_bs0; rfl; intro _) | (apply wO; apply o_bs; rfl; rfl; rfl; rfl; exact rptE; exact filE; intro _) | (apply wO; apply o_call; rfl; kernel_rfl; exact evsE))
    apply wO; apply oc; rfl; exact yd_slh rfl rfl (by omega) (by omega)
    have hx0 : (u.extract 0 (1 : Int).toNat).size ≤ 1 := by rw [ByteArray.size_extract]; omega
    repeat (first | apply c_seq | apply c_reg | (apply wO; apply oc; rfl; exact ydE) | apply w_nil | apply n_cd | (apply wg_t; rfl; rfl) | (apply wg_f; rfl; rfl; rfl; rfl) | (apply wg_u; rfl; rfl; rfl) | (apply c_t; rfl) | (apply c_f; rfl) | apply c_skip | apply c_block | apply n_blk | apply c_exit | apply e_hit | apply e_cd | apply e_lp | (apply e_miss; rfl) | apply c_ret | (apply wO; apply o_box; rfl; rfl; rfl; intro _) | (apply wO; apply o_alloc; rfl; intro _) | (apply wO; apply o_st; rfl; rfl; rfl; (first | exact AggC.s | exact OneC.s); rfl; exact rplE; exact putE; rfl) | (apply wO; apply o_bs0; rfl; intro _) | (apply wO; apply o_bs; rfl; rfl; rfl; rfl; exact rptE; exact filE; intro _) | (apply wO; apply o_call; rfl; kernel_rfl; exact evsE))
    refine ret (u.extract 0 (1 : Int).toNat, s) ⟨by dsimp only; omega, ok.mono (by omega)⟩ rfl
  have e1 : 0 < t.size := by
    rcases Nat.eq_zero_or_pos t.size with h0 | h0
    · exact absurd (by apply ByteArray.ext; exact Array.eq_empty_of_size_eq_zero h0) e0
    · exact h0
  rw [decide_eq_false e0]
  repeat (first | apply c_seq | apply c_reg | (apply wO; apply oc; rfl; exact ydE) | apply w_nil | apply n_cd | (apply wg_t; rfl; rfl) | (apply wg_f; rfl; rfl; rfl; rfl) | (apply wg_u; rfl; rfl; rfl) | (apply c_t; rfl) | (apply c_f; rfl) | apply c_skip | apply c_block | apply n_blk | apply c_exit | apply e_hit | apply e_cd | apply e_lp | (apply e_miss; rfl) | apply c_ret | (apply wO; apply o_box; rfl; rfl; rfl; intro _) | (apply wO; apply o_alloc; rfl; intro _) | (apply wO; apply o_st; rfl; rfl; rfl; (first | exact AggC.s | exact OneC.s); rfl; exact rplE; exact putE; rfl) | (apply wO; apply o_bs0; rfl; intro _) | (apply wO; apply o_bs; rfl; rfl; rfl; rfl; exact rptE; exact filE; intro _) | (apply wO; apply o_call; rfl; kernel_rfl; exact evsE))
  refine cf (pick_f B g F (t.size : Int) s ok (by omega) (by omega)) fun q1 hq1 => ?_
  refine t_app ?_
  obtain ⟨hi, hq1⟩ := hq1
  have hi2 : q1.1 < t.size := by omega
  repeat (first | apply c_seq | apply c_reg | (apply wO; apply oc; rfl; exact ydE) | apply w_nil | apply n_cd | (apply wg_t; rfl; rfl) | (apply wg_f; rfl; rfl; rfl; rfl) | (apply wg_u; rfl; rfl; rfl) | (apply c_t; rfl) | (apply c_f; rfl) | apply c_skip | apply c_block | apply n_blk | apply c_exit | apply e_hit | apply e_cd | apply e_lp | (apply e_miss; rfl) | apply c_ret | (apply wO; apply o_box; rfl; rfl; rfl; intro _) | (apply wO; apply o_alloc; rfl; intro _) | (apply wO; apply o_st; rfl; rfl; rfl; (first | exact AggC.s | exact OneC.s); rfl; exact rplE; exact putE; rfl) | (apply wO; apply o_bs0; rfl; intro _) | (apply wO; apply o_bs; rfl; rfl; rfl; rfl; exact rptE; exact filE; intro _) | (apply wO; apply o_call; rfl; kernel_rfl; exact evsE))
  refine cf (pick_f (B + 2) g F (u.size : Int) q1.2 hq1 (by omega) (by omega)) fun q2 hq2 => ?_
  refine t_app ?_
  obtain ⟨hj, hq2⟩ := hq2
  have hj2 : q2.1 < u.size := by omega
  repeat (first | apply c_seq | apply c_reg | (apply wO; apply oc; rfl; exact ydE) | apply w_nil | apply n_cd | (apply wg_t; rfl; rfl) | (apply wg_f; rfl; rfl; rfl; rfl) | (apply wg_u; rfl; rfl; rfl) | (apply c_t; rfl) | (apply c_f; rfl) | apply c_skip | apply c_block | apply n_blk | apply c_exit | apply e_hit | apply e_cd | apply e_lp | (apply e_miss; rfl) | apply c_ret | (apply wO; apply o_box; rfl; rfl; rfl; intro _) | (apply wO; apply o_alloc; rfl; intro _) | (apply wO; apply o_st; rfl; rfl; rfl; (first | exact AggC.s | exact OneC.s); rfl; exact rplE; exact putE; rfl) | (apply wO; apply o_bs0; rfl; intro _) | (apply wO; apply o_bs; rfl; rfl; rfl; rfl; exact rptE; exact filE; intro _) | (apply wO; apply o_call; rfl; kernel_rfl; exact evsE))
  apply wO; apply oc; rfl; exact yd_sll rfl rfl (by omega) (by omega)
  have hxs : 1 ≤ (u.extract (q2.1 : Int).toNat u.size).size := by simp; omega
  repeat (first | apply c_seq | apply c_reg | (apply wO; apply oc; rfl; exact ydE) | apply w_nil | apply n_cd | (apply wg_t; rfl; rfl) | (apply wg_f; rfl; rfl; rfl; rfl) | (apply wg_u; rfl; rfl; rfl) | (apply c_t; rfl) | (apply c_f; rfl) | apply c_skip | apply c_block | apply n_blk | apply c_exit | apply e_hit | apply e_cd | apply e_lp | (apply e_miss; rfl) | apply c_ret | (apply wO; apply o_box; rfl; rfl; rfl; intro _) | (apply wO; apply o_alloc; rfl; intro _) | (apply wO; apply o_st; rfl; rfl; rfl; (first | exact AggC.s | exact OneC.s); rfl; exact rplE; exact putE; rfl) | (apply wO; apply o_bs0; rfl; intro _) | (apply wO; apply o_bs; rfl; rfl; rfl; rfl; exact rptE; exact filE; intro _) | (apply wO; apply o_call; rfl; kernel_rfl; exact evsE))
  apply wO; apply oc; rfl; exact yd_slh rfl rfl (by omega) (by omega)
  have hxl : ((u.extract (q2.1 : Int).toNat u.size).extract 0 (1 : Int).toNat).size ≤ 1 := by simp; omega
  generalize (u.extract (q2.1 : Int).toNat u.size).extract 0 (1 : Int).toNat = x at *
  have ha : (t.extract 0 (q1.1 : Int).toNat).size ≤ q1.1 := by rw [ByteArray.size_extract]; omega
  have hb : (t.extract (q1.1 : Int).toNat t.size).size ≤ t.size - q1.1 := by rw [ByteArray.size_extract]; omega
  have hc : (t.extract ((q1.1 : Int) + 1).toNat t.size).size ≤ t.size - (q1.1 + 1) := by rw [ByteArray.size_extract]; omega
  have hax := ByteArray.size_append (a := t.extract 0 (q1.1 : Int).toNat) (b := x)
  repeat (first | apply c_seq | apply c_reg | (apply wO; apply oc; rfl; exact ydE) | apply w_nil | apply n_cd | (apply wg_t; rfl; rfl) | (apply wg_f; rfl; rfl; rfl; rfl) | (apply wg_u; rfl; rfl; rfl) | (apply c_t; rfl) | (apply c_f; rfl) | apply c_skip | apply c_block | apply n_blk | apply c_exit | apply e_hit | apply e_cd | apply e_lp | (apply e_miss; rfl) | apply c_ret | (apply wO; apply o_box; rfl; rfl; rfl; intro _) | (apply wO; apply o_alloc; rfl; intro _) | (apply wO; apply o_st; rfl; rfl; rfl; (first | exact AggC.s | exact OneC.s); rfl; exact rplE; exact putE; rfl) | (apply wO; apply o_bs0; rfl; intro _) | (apply wO; apply o_bs; rfl; rfl; rfl; rfl; exact rptE; exact filE; intro _) | (apply wO; apply o_call; rfl; kernel_rfl; exact evsE))
  refine cf (pick_f (B + 2 + 2) g F 3 q2.2 hq2 (by omega) (by omega)) fun q3 hq3 => ?_
  refine t_app ?_
  obtain ⟨hm, hq3⟩ := hq3
  repeat (first | apply c_seq | apply c_reg | (apply wO; apply oc; rfl; exact ydE) | apply w_nil | apply n_cd | (apply wg_t; rfl; rfl) | (apply wg_f; rfl; rfl; rfl; rfl) | (apply wg_u; rfl; rfl; rfl) | (apply c_t; rfl) | (apply c_f; rfl) | apply c_skip | apply c_block | apply n_blk | apply c_exit | apply e_hit | apply e_cd | apply e_lp | (apply e_miss; rfl) | apply c_ret | (apply wO; apply o_box; rfl; rfl; rfl; intro _) | (apply wO; apply o_alloc; rfl; intro _) | (apply wO; apply o_st; rfl; rfl; rfl; (first | exact AggC.s | exact OneC.s); rfl; exact rplE; exact putE; rfl) | (apply wO; apply o_bs0; rfl; intro _) | (apply wO; apply o_bs; rfl; rfl; rfl; rfl; exact rptE; exact filE; intro _) | (apply wO; apply o_call; rfl; kernel_rfl; exact evsE))
  by_cases h3 : (q3.1 : Int) = 0
  · rw [decide_eq_true h3]
    repeat (first | apply c_seq | apply c_reg | (apply wO; apply oc; rfl; exact ydE) | apply w_nil | apply n_cd | (apply wg_t; rfl; rfl) | (apply wg_f; rfl; rfl; rfl; rfl) | (apply wg_u; rfl; rfl; rfl) | (apply c_t; rfl) | (apply c_f; rfl) | apply c_skip | apply c_block | apply n_blk | apply c_exit | apply e_hit | apply e_cd | apply e_lp | (apply e_miss; rfl) | apply c_ret | (apply wO; apply o_box; rfl; rfl; rfl; intro _) | (apply wO; apply o_alloc; rfl; intro _) | (apply wO; apply o_st; rfl; rfl; rfl; (first | exact AggC.s | exact OneC.s); rfl; exact rplE; exact putE; rfl) | (apply wO; apply o_bs0; rfl; intro _) | (apply wO; apply o_bs; rfl; rfl; rfl; rfl; exact rptE; exact filE; intro _) | (apply wO; apply o_call; rfl; kernel_rfl; exact evsE))
    refine d_start [] [] ?_
    refine dt 0 ?_
    refine dt 1 ?_
    refine dt 2 ?_ (hy := yd_slh rfl rfl (by omega) (by omega))
    refine dt 3 ?_
    refine dt 4 ?_
    refine dt 5 ?_
    refine dt 6 ?_
    refine dt 7 ?_ (hy := yd_sll rfl rfl (by omega) (by omega))
    refine dt 8 ?_
    refine dt 9 ?_
    refine dd ?_
    repeat (first | apply c_seq | apply c_reg | (apply wO; apply oc; rfl; exact ydE) | apply w_nil | apply n_cd | (apply wg_t; rfl; rfl) | (apply wg_f; rfl; rfl; rfl; rfl) | (apply wg_u; rfl; rfl; rfl) | (apply c_t; rfl) | (apply c_f; rfl) | apply c_skip | apply c_block | apply n_blk | apply c_exit | apply e_hit | apply e_cd | apply e_lp | (apply e_miss; rfl) | apply c_ret | (apply wO; apply o_box; rfl; rfl; rfl; intro _) | (apply wO; apply o_alloc; rfl; intro _) | (apply wO; apply o_st; rfl; rfl; rfl; (first | exact AggC.s | exact OneC.s); rfl; exact rplE; exact putE; rfl) | (apply wO; apply o_bs0; rfl; intro _) | (apply wO; apply o_bs; rfl; rfl; rfl; rfl; exact rptE; exact filE; intro _) | (apply wO; apply o_call; rfl; kernel_rfl; exact evsE))
    refine ret (t.extract 0 (q1.1 : Int).toNat ++ x ++ t.extract (q1.1 : Int).toNat t.size, q3.2) ⟨by simp only [ByteArray.size_append]; omega, hq3⟩ rfl
  rw [decide_eq_false h3]
  repeat (first | apply c_seq | apply c_reg | (apply wO; apply oc; rfl; exact ydE) | apply w_nil | apply n_cd | (apply wg_t; rfl; rfl) | (apply wg_f; rfl; rfl; rfl; rfl) | (apply wg_u; rfl; rfl; rfl) | (apply c_t; rfl) | (apply c_f; rfl) | apply c_skip | apply c_block | apply n_blk | apply c_exit | apply e_hit | apply e_cd | apply e_lp | (apply e_miss; rfl) | apply c_ret | (apply wO; apply o_box; rfl; rfl; rfl; intro _) | (apply wO; apply o_alloc; rfl; intro _) | (apply wO; apply o_st; rfl; rfl; rfl; (first | exact AggC.s | exact OneC.s); rfl; exact rplE; exact putE; rfl) | (apply wO; apply o_bs0; rfl; intro _) | (apply wO; apply o_bs; rfl; rfl; rfl; rfl; exact rptE; exact filE; intro _) | (apply wO; apply o_call; rfl; kernel_rfl; exact evsE))
  by_cases h4 : (q3.1 : Int) = 1
  · rw [decide_eq_true h4]
    repeat (first | apply c_seq | apply c_reg | (apply wO; apply oc; rfl; exact ydE) | apply w_nil | apply n_cd | (apply wg_t; rfl; rfl) | (apply wg_f; rfl; rfl; rfl; rfl) | (apply wg_u; rfl; rfl; rfl) | (apply c_t; rfl) | (apply c_f; rfl) | apply c_skip | apply c_block | apply n_blk | apply c_exit | apply e_hit | apply e_cd | apply e_lp | (apply e_miss; rfl) | apply c_ret | (apply wO; apply o_box; rfl; rfl; rfl; intro _) | (apply wO; apply o_alloc; rfl; intro _) | (apply wO; apply o_st; rfl; rfl; rfl; (first | exact AggC.s | exact OneC.s); rfl; exact rplE; exact putE; rfl) | (apply wO; apply o_bs0; rfl; intro _) | (apply wO; apply o_bs; rfl; rfl; rfl; rfl; exact rptE; exact filE; intro _) | (apply wO; apply o_call; rfl; kernel_rfl; exact evsE))
    refine d_start [] [] ?_
    refine dt 0 ?_
    refine dt 1 ?_
    refine dt 2 ?_ (hy := yd_slh rfl rfl (by omega) (by omega))
    refine dt 3 ?_
    refine dt 4 ?_
    refine dt 5 ?_
    refine dt 6 ?_
    refine dt 7 ?_
    refine dt 8 ?_ (hy := yd_sll rfl rfl (by omega) (by omega))
    refine dt 9 ?_
    refine dt 10 ?_
    refine dd ?_
    repeat (first | apply c_seq | apply c_reg | (apply wO; apply oc; rfl; exact ydE) | apply w_nil | apply n_cd | (apply wg_t; rfl; rfl) | (apply wg_f; rfl; rfl; rfl; rfl) | (apply wg_u; rfl; rfl; rfl) | (apply c_t; rfl) | (apply c_f; rfl) | apply c_skip | apply c_block | apply n_blk | apply c_exit | apply e_hit | apply e_cd | apply e_lp | (apply e_miss; rfl) | apply c_ret | (apply wO; apply o_box; rfl; rfl; rfl; intro _) | (apply wO; apply o_alloc; rfl; intro _) | (apply wO; apply o_st; rfl; rfl; rfl; (first | exact AggC.s | exact OneC.s); rfl; exact rplE; exact putE; rfl) | (apply wO; apply o_bs0; rfl; intro _) | (apply wO; apply o_bs; rfl; rfl; rfl; rfl; exact rptE; exact filE; intro _) | (apply wO; apply o_call; rfl; kernel_rfl; exact evsE))
    refine ret (t.extract 0 (q1.1 : Int).toNat ++ x ++ t.extract ((q1.1 : Int) + 1).toNat t.size, q3.2) ⟨by simp only [ByteArray.size_append]; omega, hq3⟩ rfl
  · rw [decide_eq_false h4]
    repeat (first | apply c_seq | apply c_reg | (apply wO; apply oc; rfl; exact ydE) | apply w_nil | apply n_cd | (apply wg_t; rfl; rfl) | (apply wg_f; rfl; rfl; rfl; rfl) | (apply wg_u; rfl; rfl; rfl) | (apply c_t; rfl) | (apply c_f; rfl) | apply c_skip | apply c_block | apply n_blk | apply c_exit | apply e_hit | apply e_cd | apply e_lp | (apply e_miss; rfl) | apply c_ret | (apply wO; apply o_box; rfl; rfl; rfl; intro _) | (apply wO; apply o_alloc; rfl; intro _) | (apply wO; apply o_st; rfl; rfl; rfl; (first | exact AggC.s | exact OneC.s); rfl; exact rplE; exact putE; rfl) | (apply wO; apply o_bs0; rfl; intro _) | (apply wO; apply o_bs; rfl; rfl; rfl; rfl; exact rptE; exact filE; intro _) | (apply wO; apply o_call; rfl; kernel_rfl; exact evsE))
    refine d_start [] [] ?_
    refine dt 0 ?_
    refine dt 1 ?_
    refine dt 2 ?_ (hy := yd_slh rfl rfl (by omega) (by omega))
    refine dt 3 ?_
    refine dt 4 ?_
    refine dt 5 ?_
    refine dt 6 ?_ (hy := yd_sll rfl rfl (by omega) (by omega))
    refine dt 7 ?_
    refine dt 8 ?_
    refine dd ?_
    repeat (first | apply c_seq | apply c_reg | (apply wO; apply oc; rfl; exact ydE) | apply w_nil | apply n_cd | (apply wg_t; rfl; rfl) | (apply wg_f; rfl; rfl; rfl; rfl) | (apply wg_u; rfl; rfl; rfl) | (apply c_t; rfl) | (apply c_f; rfl) | apply c_skip | apply c_block | apply n_blk | apply c_exit | apply e_hit | apply e_cd | apply e_lp | (apply e_miss; rfl) | apply c_ret | (apply wO; apply o_box; rfl; rfl; rfl; intro _) | (apply wO; apply o_alloc; rfl; intro _) | (apply wO; apply o_st; rfl; rfl; rfl; (first | exact AggC.s | exact OneC.s); rfl; exact rplE; exact putE; rfl) | (apply wO; apply o_bs0; rfl; intro _) | (apply wO; apply o_bs; rfl; rfl; rfl; rfl; exact rptE; exact filE; intro _) | (apply wO; apply o_call; rfl; kernel_rfl; exact evsE))
    refine ret (t.extract 0 (q1.1 : Int).toNat ++ t.extract ((q1.1 : Int) + 1).toNat t.size, q3.2) ⟨by simp only [ByteArray.size_append]; omega, hq3⟩ rfl
set_option maxRecDepth 100000 in
theorem DrawSlotsText_f (v : Value) (code : List Int) (G : List Nat) : Fn Tryz.prog 21 [v] [.sl EByte v code G] [] (fun (_ : DjS) => True) (fun s => .agg #[.int .i64 s.y.next, .slice s.a s.y.slots.length s.c]) (fun s => [.isv EReceiveWindow (.agg #[.int .i64 s.y.next, .slice s.a s.y.slots.length s.c]) s.y s.F]) := by
  refine enter Tryz.func21 rfl Tryz.ntmps21 fun w0 => ?_
  repeat (first | apply c_seq | apply c_reg | (apply wO; apply oc; rfl; exact ydE) | apply w_nil | apply n_cd | (apply wg_t; rfl; rfl) | (apply wg_f; rfl; rfl; rfl; rfl) | (apply wg_u; rfl; rfl; rfl) | (apply c_t; rfl) | (apply c_f; rfl) | apply c_skip | apply c_block | apply n_blk | apply c_exit | apply e_hit | apply e_cd | apply e_lp | (apply e_miss; rfl) | apply c_ret | (apply wO; apply o_box; rfl; rfl; rfl; intro _) | (apply wO; apply o_alloc; rfl; intro _) | (apply wO; apply o_st; rfl; rfl; rfl; (first | exact AggC.s | exact OneC.s); rfl; exact rplE; exact putE; rfl) | (apply wO; apply o_bs0; rfl; intro _) | (apply wO; apply o_bs; rfl; rfl; rfl; rfl; exact rptE; exact filE; intro _) | (apply wO; apply o_call; rfl; kernel_rfl; exact evsE))
  refine cf (drawValidRW_f v code G) fun z _ => ?_
  refine t_app ?_
  repeat (first | apply c_seq | apply c_reg | (apply wO; apply oc; rfl; exact ydE) | apply w_nil | apply n_cd | (apply wg_t; rfl; rfl) | (apply wg_f; rfl; rfl; rfl; rfl) | (apply wg_u; rfl; rfl; rfl) | (apply c_t; rfl) | (apply c_f; rfl) | apply c_skip | apply c_block | apply n_blk | apply c_exit | apply e_hit | apply e_cd | apply e_lp | (apply e_miss; rfl) | apply c_ret | (apply wO; apply o_box; rfl; rfl; rfl; intro _) | (apply wO; apply o_alloc; rfl; intro _) | (apply wO; apply o_st; rfl; rfl; rfl; (first | exact AggC.s | exact OneC.s); rfl; exact rplE; exact putE; rfl) | (apply wO; apply o_bs0; rfl; intro _) | (apply wO; apply o_bs; rfl; rfl; rfl; rfl; exact rptE; exact filE; intro _) | (apply wO; apply o_call; rfl; kernel_rfl; exact evsE))
  refine ret z trivial rfl
def winD : ReceiveWindow := ⟨7, [⟨false, ⟨#[]⟩⟩, ⟨true, ⟨#[97, 98]⟩⟩]⟩
theorem flatD (w : World) : Flat ESlot w [.bool false, .string ⟨#[]⟩, .bool true, .string ⟨#[97, 98]⟩] winD.slots [] :=
  ⟨[.bool false, .string ⟨#[]⟩], [.bool true, .string ⟨#[97, 98]⟩], [], [], rfl, rfl, ⟨rfl, by decide, rfl⟩, [.bool true, .string ⟨#[97, 98]⟩], [], [], [], rfl, rfl, ⟨rfl, by decide, rfl⟩, rfl, rfl⟩
set_option maxRecDepth 100000 in
theorem DrawParseSlots_f (v : Value) (code : List Int) (G FT : List Nat) : Fn Tryz.prog 25 [v] [.sl EByte v code G, EnvP FT] [] (fun (s : ByteArray) => s.size ≤ 100) (fun s => .string s) (fun _ => []) := by
  refine enter Tryz.func25 rfl Tryz.ntmps25 fun w0 => ?_
  refine t_sl (E := EByte) ?_
  rintro a c rfl l1 l2
  repeat (first | apply c_seq | apply c_reg | (apply wO; apply oc; rfl; exact ydE) | apply w_nil | apply n_cd | (apply wg_t; rfl; rfl) | (apply wg_f; rfl; rfl; rfl; rfl) | (apply wg_u; rfl; rfl; rfl) | (apply c_t; rfl) | (apply c_f; rfl) | apply c_skip | apply c_block | apply n_blk | apply c_exit | apply e_hit | apply e_cd | apply e_lp | (apply e_miss; rfl) | apply c_ret | (apply wO; apply o_box; rfl; rfl; rfl; intro _) | (apply wO; apply o_alloc; rfl; intro _) | (apply wO; apply o_st; rfl; rfl; rfl; (first | exact AggC.s | exact OneC.s); rfl; exact rplE; exact putE; rfl) | (apply wO; apply o_bs0; rfl; intro _) | (apply wO; apply o_bs; rfl; rfl; rfl; rfl; exact rptE; exact filE; intro _) | (apply wO; apply o_call; rfl; kernel_rfl; exact evsE))
  refine cf (drawRW_f 0 _ ⟨code, a, c, G⟩ ⟨0, 0⟩ ⟨Nat.le_refl _, by decide, by decide⟩ (by omega)) fun z hz => ?_
  refine t_app ?_
  repeat (first | apply c_seq | apply c_reg | (apply wO; apply oc; rfl; exact ydE) | apply w_nil | apply n_cd | (apply wg_t; rfl; rfl) | (apply wg_f; rfl; rfl; rfl; rfl) | (apply wg_u; rfl; rfl; rfl) | (apply c_t; rfl) | (apply c_f; rfl) | apply c_skip | apply c_block | apply n_blk | apply c_exit | apply e_hit | apply e_cd | apply e_lp | (apply e_miss; rfl) | apply c_ret | (apply wO; apply o_box; rfl; rfl; rfl; intro _) | (apply wO; apply o_alloc; rfl; intro _) | (apply wO; apply o_st; rfl; rfl; rfl; (first | exact AggC.s | exact OneC.s); rfl; exact rplE; exact putE; rfl) | (apply wO; apply o_bs0; rfl; intro _) | (apply wO; apply o_bs; rfl; rfl; rfl; rfl; exact rptE; exact filE; intro _) | (apply wO; apply o_call; rfl; kernel_rfl; exact evsE))
  refine cb (fun w st => (l10Good_f z.y _ z.F).val w (hol1 (st.get (p := .isv EReceiveWindow (.agg #[.int .i64 z.y.next, .slice z.a z.y.slots.length z.c]) z.y z.F) (by simp)))) ?_
  cases g1 : goodRW z.y
  · repeat (first | apply c_seq | apply c_reg | (apply wO; apply oc; rfl; exact ydE) | apply w_nil | apply n_cd | (apply wg_t; rfl; rfl) | (apply wg_f; rfl; rfl; rfl; rfl) | (apply wg_u; rfl; rfl; rfl) | (apply c_t; rfl) | (apply c_f; rfl) | apply c_skip | apply c_block | apply n_blk | apply c_exit | apply e_hit | apply e_cd | apply e_lp | (apply e_miss; rfl) | apply c_ret | (apply wO; apply o_box; rfl; rfl; rfl; intro _) | (apply wO; apply o_alloc; rfl; intro _) | (apply wO; apply o_st; rfl; rfl; rfl; (first | exact AggC.s | exact OneC.s); rfl; exact rplE; exact putE; rfl) | (apply wO; apply o_bs0; rfl; intro _) | (apply wO; apply o_bs; rfl; rfl; rfl; rfl; exact rptE; exact filE; intro _))
    rename_i gD
    refine t_row (E := ESlot) (xs := winD.slots) (fun w => flatD w) ?_ (by decide)
    repeat (first | apply c_seq | apply c_reg | (apply wO; apply oc; rfl; exact ydE) | apply w_nil | apply n_cd | (apply wg_t; rfl; rfl) | (apply wg_f; rfl; rfl; rfl; rfl) | (apply wg_u; rfl; rfl; rfl) | (apply c_t; rfl) | (apply c_f; rfl) | apply c_skip | apply c_block | apply n_blk | apply c_exit | apply e_hit | apply e_cd | apply e_lp | (apply e_miss; rfl) | apply c_ret | (apply wO; apply o_box; rfl; rfl; rfl; intro _) | (apply wO; apply o_alloc; rfl; intro _) | (apply wO; apply o_st; rfl; rfl; rfl; (first | exact AggC.s | exact OneC.s); rfl; exact rplE; exact putE; rfl) | (apply wO; apply o_bs0; rfl; intro _) | (apply wO; apply o_bs; rfl; rfl; rfl; rfl; exact rptE; exact filE; intro _) | (apply wO; apply o_call; rfl; kernel_rfl; exact evsE))
    refine cb (fun w st => by
      have hh := rdRW (x := winD) (st.get (p := .ow ESlot 113 (.slice (some ⟨gD, 0, none⟩) winD.slots.length winD.slots.length) winD.slots [gD]) (by simp))
      obtain ⟨F3, h3⟩ := hh
      exact (l10Text_f winD _ F3 FT (by first | exact g1 | decide)).val w (hol2 h3 (st.get (p := EnvP FT) (by simp)))) ?_
    have hzt : (slTxt winD).size ≤ 78 := by
      have e9 := slT_size (x := winD) (by first | exact g1 | decide) (winD).slots.length
      have e8 := (good_of (x := winD) (by first | exact g1 | decide)).l
      unfold slTxt; omega
    repeat (first | apply c_seq | apply c_reg | (apply wO; apply oc; rfl; exact ydE) | apply w_nil | apply n_cd | (apply wg_t; rfl; rfl) | (apply wg_f; rfl; rfl; rfl; rfl) | (apply wg_u; rfl; rfl; rfl) | (apply c_t; rfl) | (apply c_f; rfl) | apply c_skip | apply c_block | apply n_blk | apply c_exit | apply e_hit | apply e_cd | apply e_lp | (apply e_miss; rfl) | apply c_ret | (apply wO; apply o_box; rfl; rfl; rfl; intro _) | (apply wO; apply o_alloc; rfl; intro _) | (apply wO; apply o_st; rfl; rfl; rfl; (first | exact AggC.s | exact OneC.s); rfl; exact rplE; exact putE; rfl) | (apply wO; apply o_bs0; rfl; intro _) | (apply wO; apply o_bs; rfl; rfl; rfl; rfl; exact rptE; exact filE; intro _) | (apply wO; apply o_call; rfl; kernel_rfl; exact evsE))
    refine cf (one_f _ _ ⟨code, a, c, G⟩ 4 z.s hz (by omega) (by omega)) fun q hq => ?_
    refine t_app ?_
    obtain ⟨b, s1⟩ := q
    obtain ⟨-, hq⟩ := hq
    cases b
    · repeat (first | apply c_seq | apply c_reg | (apply wO; apply oc; rfl; exact ydE) | apply w_nil | apply n_cd | (apply wg_t; rfl; rfl) | (apply wg_f; rfl; rfl; rfl; rfl) | (apply wg_u; rfl; rfl; rfl) | (apply c_t; rfl) | (apply c_f; rfl) | apply c_skip | apply c_block | apply n_blk | apply c_exit | apply e_hit | apply e_cd | apply e_lp | (apply e_miss; rfl) | apply c_ret | (apply wO; apply o_box; rfl; rfl; rfl; intro _) | (apply wO; apply o_alloc; rfl; intro _) | (apply wO; apply o_st; rfl; rfl; rfl; (first | exact AggC.s | exact OneC.s); rfl; exact rplE; exact putE; rfl) | (apply wO; apply o_bs0; rfl; intro _) | (apply wO; apply o_bs; rfl; rfl; rfl; rfl; exact rptE; exact filE; intro _) | (apply wO; apply o_call; rfl; kernel_rfl; exact evsE))
      refine ret (slTxt winD) (by show _ ≤ 100; omega) rfl
    · repeat (first | apply c_seq | apply c_reg | (apply wO; apply oc; rfl; exact ydE) | apply w_nil | apply n_cd | (apply wg_t; rfl; rfl) | (apply wg_f; rfl; rfl; rfl; rfl) | (apply wg_u; rfl; rfl; rfl) | (apply c_t; rfl) | (apply c_f; rfl) | apply c_skip | apply c_block | apply n_blk | apply c_exit | apply e_hit | apply e_cd | apply e_lp | (apply e_miss; rfl) | apply c_ret | (apply wO; apply o_box; rfl; rfl; rfl; intro _) | (apply wO; apply o_alloc; rfl; intro _) | (apply wO; apply o_st; rfl; rfl; rfl; (first | exact AggC.s | exact OneC.s); rfl; exact rplE; exact putE; rfl) | (apply wO; apply o_bs0; rfl; intro _) | (apply wO; apply o_bs; rfl; rfl; rfl; rfl; exact rptE; exact filE; intro _) | (apply wO; apply o_call; rfl; kernel_rfl; exact evsE))
      refine cf (spoilt_f _ _ ⟨code, a, c, G⟩ s1 (slTxt winD) ⟨#[49, 32, 58, 63, 46, 97]⟩ hq (by omega) (by omega) (by decide) (by decide)) fun r hr => ?_
      refine t_app ?_
      repeat (first | apply c_seq | apply c_reg | (apply wO; apply oc; rfl; exact ydE) | apply w_nil | apply n_cd | (apply wg_t; rfl; rfl) | (apply wg_f; rfl; rfl; rfl; rfl) | (apply wg_u; rfl; rfl; rfl) | (apply c_t; rfl) | (apply c_f; rfl) | apply c_skip | apply c_block | apply n_blk | apply c_exit | apply e_hit | apply e_cd | apply e_lp | (apply e_miss; rfl) | apply c_ret | (apply wO; apply o_box; rfl; rfl; rfl; intro _) | (apply wO; apply o_alloc; rfl; intro _) | (apply wO; apply o_st; rfl; rfl; rfl; (first | exact AggC.s | exact OneC.s); rfl; exact rplE; exact putE; rfl) | (apply wO; apply o_bs0; rfl; intro _) | (apply wO; apply o_bs; rfl; rfl; rfl; rfl; exact rptE; exact filE; intro _) | (apply wO; apply o_call; rfl; kernel_rfl; exact evsE))
      refine ret r.1 (by have := hr.1; show _ ≤ 100; omega) rfl
  · repeat (first | apply c_seq | apply c_reg | (apply wO; apply oc; rfl; exact ydE) | apply w_nil | apply n_cd | (apply wg_t; rfl; rfl) | (apply wg_f; rfl; rfl; rfl; rfl) | (apply wg_u; rfl; rfl; rfl) | (apply c_t; rfl) | (apply c_f; rfl) | apply c_skip | apply c_block | apply n_blk | apply c_exit | apply e_hit | apply e_cd | apply e_lp | (apply e_miss; rfl) | apply c_ret | (apply wO; apply o_box; rfl; rfl; rfl; intro _) | (apply wO; apply o_alloc; rfl; intro _) | (apply wO; apply o_st; rfl; rfl; rfl; (first | exact AggC.s | exact OneC.s); rfl; exact rplE; exact putE; rfl) | (apply wO; apply o_bs0; rfl; intro _) | (apply wO; apply o_bs; rfl; rfl; rfl; rfl; exact rptE; exact filE; intro _) | (apply wO; apply o_call; rfl; kernel_rfl; exact evsE))
    refine cb (fun w st => by
      have hh := (⟨z.F, st.get (p := .isv EReceiveWindow (.agg #[.int .i64 z.y.next, .slice z.a z.y.slots.length z.c]) z.y z.F) (by simp)⟩ : ∃ F3, (Pc.isv EReceiveWindow (.agg #[.int .i64 z.y.next, .slice z.a z.y.slots.length z.c]) z.y F3).P w)
      obtain ⟨F3, h3⟩ := hh
      exact (l10Text_f z.y _ F3 FT (by first | exact g1 | decide)).val w (hol2 h3 (st.get (p := EnvP FT) (by simp)))) ?_
    have hzt : (slTxt z.y).size ≤ 78 := by
      have e9 := slT_size (x := z.y) (by first | exact g1 | decide) (z.y).slots.length
      have e8 := (good_of (x := z.y) (by first | exact g1 | decide)).l
      unfold slTxt; omega
    repeat (first | apply c_seq | apply c_reg | (apply wO; apply oc; rfl; exact ydE) | apply w_nil | apply n_cd | (apply wg_t; rfl; rfl) | (apply wg_f; rfl; rfl; rfl; rfl) | (apply wg_u; rfl; rfl; rfl) | (apply c_t; rfl) | (apply c_f; rfl) | apply c_skip | apply c_block | apply n_blk | apply c_exit | apply e_hit | apply e_cd | apply e_lp | (apply e_miss; rfl) | apply c_ret | (apply wO; apply o_box; rfl; rfl; rfl; intro _) | (apply wO; apply o_alloc; rfl; intro _) | (apply wO; apply o_st; rfl; rfl; rfl; (first | exact AggC.s | exact OneC.s); rfl; exact rplE; exact putE; rfl) | (apply wO; apply o_bs0; rfl; intro _) | (apply wO; apply o_bs; rfl; rfl; rfl; rfl; exact rptE; exact filE; intro _) | (apply wO; apply o_call; rfl; kernel_rfl; exact evsE))
    refine cf (one_f _ _ ⟨code, a, c, G⟩ 4 z.s hz (by omega) (by omega)) fun q hq => ?_
    refine t_app ?_
    obtain ⟨b, s1⟩ := q
    obtain ⟨-, hq⟩ := hq
    cases b
    · repeat (first | apply c_seq | apply c_reg | (apply wO; apply oc; rfl; exact ydE) | apply w_nil | apply n_cd | (apply wg_t; rfl; rfl) | (apply wg_f; rfl; rfl; rfl; rfl) | (apply wg_u; rfl; rfl; rfl) | (apply c_t; rfl) | (apply c_f; rfl) | apply c_skip | apply c_block | apply n_blk | apply c_exit | apply e_hit | apply e_cd | apply e_lp | (apply e_miss; rfl) | apply c_ret | (apply wO; apply o_box; rfl; rfl; rfl; intro _) | (apply wO; apply o_alloc; rfl; intro _) | (apply wO; apply o_st; rfl; rfl; rfl; (first | exact AggC.s | exact OneC.s); rfl; exact rplE; exact putE; rfl) | (apply wO; apply o_bs0; rfl; intro _) | (apply wO; apply o_bs; rfl; rfl; rfl; rfl; exact rptE; exact filE; intro _) | (apply wO; apply o_call; rfl; kernel_rfl; exact evsE))
      refine ret (slTxt z.y) (by show _ ≤ 100; omega) rfl
    · repeat (first | apply c_seq | apply c_reg | (apply wO; apply oc; rfl; exact ydE) | apply w_nil | apply n_cd | (apply wg_t; rfl; rfl) | (apply wg_f; rfl; rfl; rfl; rfl) | (apply wg_u; rfl; rfl; rfl) | (apply c_t; rfl) | (apply c_f; rfl) | apply c_skip | apply c_block | apply n_blk | apply c_exit | apply e_hit | apply e_cd | apply e_lp | (apply e_miss; rfl) | apply c_ret | (apply wO; apply o_box; rfl; rfl; rfl; intro _) | (apply wO; apply o_alloc; rfl; intro _) | (apply wO; apply o_st; rfl; rfl; rfl; (first | exact AggC.s | exact OneC.s); rfl; exact rplE; exact putE; rfl) | (apply wO; apply o_bs0; rfl; intro _) | (apply wO; apply o_bs; rfl; rfl; rfl; rfl; exact rptE; exact filE; intro _) | (apply wO; apply o_call; rfl; kernel_rfl; exact evsE))
      refine cf (spoilt_f _ _ ⟨code, a, c, G⟩ s1 (slTxt z.y) ⟨#[49, 32, 58, 63, 46, 97]⟩ hq (by omega) (by omega) (by decide) (by decide)) fun r hr => ?_
      refine t_app ?_
      repeat (first | apply c_seq | apply c_reg | (apply wO; apply oc; rfl; exact ydE) | apply w_nil | apply n_cd | (apply wg_t; rfl; rfl) | (apply wg_f; rfl; rfl; rfl; rfl) | (apply wg_u; rfl; rfl; rfl) | (apply c_t; rfl) | (apply c_f; rfl) | apply c_skip | apply c_block | apply n_blk | apply c_exit | apply e_hit | apply e_cd | apply e_lp | (apply e_miss; rfl) | apply c_ret | (apply wO; apply o_box; rfl; rfl; rfl; intro _) | (apply wO; apply o_alloc; rfl; intro _) | (apply wO; apply o_st; rfl; rfl; rfl; (first | exact AggC.s | exact OneC.s); rfl; exact rplE; exact putE; rfl) | (apply wO; apply o_bs0; rfl; intro _) | (apply wO; apply o_bs; rfl; rfl; rfl; rfl; exact rptE; exact filE; intro _) | (apply wO; apply o_call; rfl; kernel_rfl; exact evsE))
      refine ret r.1 (by have := hr.1; show _ ≤ 100; omega) rfl
structure DtI where
  y : ReceiveWindow
  a : Option Addr
  c : Nat
  F : List Nat
  n : Int
  t : ByteArray
set_option maxRecDepth 100000 in
theorem DrawTakeItem_f (v : Value) (code : List Int) (G : List Nat) : Fn Tryz.prog 8 [v] [.sl EByte v code G] [] (fun (s : DtI) => s.t.size ≤ maxLen) (fun s => .tuple #[.agg #[.int .i64 s.y.next, .slice s.a s.y.slots.length s.c], .int .i64 s.n, .string s.t]) (fun s => [.isv EReceiveWindow (.agg #[.int .i64 s.y.next, .slice s.a s.y.slots.length s.c]) s.y s.F]) := by
  refine enter Tryz.func8 rfl Tryz.ntmps8 fun w0 => ?_
  refine t_sl (E := EByte) ?_
  rintro a c rfl l1 l2
  repeat (first | apply c_seq | apply c_reg | (apply wO; apply oc; rfl; exact ydE) | apply w_nil | apply n_cd | (apply wg_t; rfl; rfl) | (apply wg_f; rfl; rfl; rfl; rfl) | (apply wg_u; rfl; rfl; rfl) | (apply c_t; rfl) | (apply c_f; rfl) | apply c_skip | apply c_block | apply n_blk | apply c_exit | apply e_hit | apply e_cd | apply e_lp | (apply e_miss; rfl) | apply c_ret | (apply wO; apply o_box; rfl; rfl; rfl; intro _) | (apply wO; apply o_alloc; rfl; intro _) | (apply wO; apply o_st; rfl; rfl; rfl; (first | exact AggC.s | exact OneC.s); rfl; exact rplE; exact putE; rfl) | (apply wO; apply o_bs0; rfl; intro _) | (apply wO; apply o_bs; rfl; rfl; rfl; rfl; exact rptE; exact filE; intro _) | (apply wO; apply o_call; rfl; kernel_rfl; exact evsE))
  refine cf (drawRW_f 0 _ ⟨code, a, c, G⟩ ⟨0, 0⟩ ⟨Nat.le_refl _, by decide, by decide⟩ (by omega)) fun z hz => ?_
  refine t_app ?_
  repeat (first | apply c_seq | apply c_reg | (apply wO; apply oc; rfl; exact ydE) | apply w_nil | apply n_cd | (apply wg_t; rfl; rfl) | (apply wg_f; rfl; rfl; rfl; rfl) | (apply wg_u; rfl; rfl; rfl) | (apply c_t; rfl) | (apply c_f; rfl) | apply c_skip | apply c_block | apply n_blk | apply c_exit | apply e_hit | apply e_cd | apply e_lp | (apply e_miss; rfl) | apply c_ret | (apply wO; apply o_box; rfl; rfl; rfl; intro _) | (apply wO; apply o_alloc; rfl; intro _) | (apply wO; apply o_st; rfl; rfl; rfl; (first | exact AggC.s | exact OneC.s); rfl; exact rplE; exact putE; rfl) | (apply wO; apply o_bs0; rfl; intro _) | (apply wO; apply o_bs; rfl; rfl; rfl; rfl; exact rptE; exact filE; intro _) | (apply wO; apply o_call; rfl; kernel_rfl; exact evsE))
  refine cf (ahead_f _ _ ⟨code, a, c, G⟩ z.s z.y _ z.F hz (by omega)) fun q hq => ?_
  refine t_app ?_
  repeat (first | apply c_seq | apply c_reg | (apply wO; apply oc; rfl; exact ydE) | apply w_nil | apply n_cd | (apply wg_t; rfl; rfl) | (apply wg_f; rfl; rfl; rfl; rfl) | (apply wg_u; rfl; rfl; rfl) | (apply c_t; rfl) | (apply c_f; rfl) | apply c_skip | apply c_block | apply n_blk | apply c_exit | apply e_hit | apply e_cd | apply e_lp | (apply e_miss; rfl) | apply c_ret | (apply wO; apply o_box; rfl; rfl; rfl; intro _) | (apply wO; apply o_alloc; rfl; intro _) | (apply wO; apply o_st; rfl; rfl; rfl; (first | exact AggC.s | exact OneC.s); rfl; exact rplE; exact putE; rfl) | (apply wO; apply o_bs0; rfl; intro _) | (apply wO; apply o_bs; rfl; rfl; rfl; rfl; exact rptE; exact filE; intro _) | (apply wO; apply o_call; rfl; kernel_rfl; exact evsE))
  refine ce (fun w s => l2Good_c _ _) ?_
  cases g1 : isSer z.y.next
  · repeat (first | apply c_seq | apply c_reg | (apply wO; apply oc; rfl; exact ydE) | apply w_nil | apply n_cd | (apply wg_t; rfl; rfl) | (apply wg_f; rfl; rfl; rfl; rfl) | (apply wg_u; rfl; rfl; rfl) | (apply c_t; rfl) | (apply c_f; rfl) | apply c_skip | apply c_block | apply n_blk | apply c_exit | apply e_hit | apply e_cd | apply e_lp | (apply e_miss; rfl) | apply c_ret | (apply wO; apply o_box; rfl; rfl; rfl; intro _) | (apply wO; apply o_alloc; rfl; intro _) | (apply wO; apply o_st; rfl; rfl; rfl; (first | exact AggC.s | exact OneC.s); rfl; exact rplE; exact putE; rfl) | (apply wO; apply o_bs0; rfl; intro _) | (apply wO; apply o_bs; rfl; rfl; rfl; rfl; exact rptE; exact filE; intro _))
    refine d_start [1] [] ?_
    refine dt 0 ?_
    refine dt 1 ?_
    refine dt 2 ?_
    refine dO 3 (by kernel_rfl) (by rw [List.getElem?_toArray]; rfl) ?_
    apply o_bs; rfl; rfl; rfl; rfl; exact rptE; exact filE; intro _
    refine t_row (xs := [⟨#[]⟩, ⟨#[97]⟩, ⟨#[97, 98, 99]⟩, ⟨#[120, 121, 122]⟩, ⟨#[97, 98, 99, 100, 101, 102, 103, 104]⟩, ⟨#[97, 98, 99, 100, 101, 102, 103, 104, 105]⟩, ⟨#[113]⟩]) (fun w => flat_s w _ (by decide)) ?_ (by decide)
    refine t_read (E := EStr) fun G2 => ?_
    refine dk ?_
    refine dO 4 (by kernel_rfl) (by rw [List.getElem?_toArray]; rfl) ?_
    apply o_call; rfl; kernel_rfl; exact evsE
    refine cf (of_f _ _ ⟨code, a, c, G⟩ _ [⟨#[]⟩, ⟨#[97]⟩, ⟨#[97, 98, 99]⟩, ⟨#[120, 121, 122]⟩, ⟨#[97, 98, 99, 100, 101, 102, 103, 104]⟩, ⟨#[97, 98, 99, 100, 101, 102, 103, 104, 105]⟩, ⟨#[113]⟩] _ q.2 hq (by omega) (by decide) (by decide)) fun q2 hq2 => ?_
    refine t_app ?_
    have hq3 : q2.1.size ≤ maxLen := by have := hq2.1; simp only [List.mem_cons, List.not_mem_nil, or_false] at this; rcases this with e | e | e | e | e | e | e <;> rw [e] <;> decide
    refine dk ?_
    refine dO 5 (by kernel_rfl) (by rw [List.getElem?_toArray]; rfl) ?_
    apply o_st; rfl; rfl; rfl; (first | exact AggC.s | exact OneC.s); rfl; exact rplE; exact putE; rfl
    refine dk ?_
    refine dt 6 ?_
    refine dt 7 ?_
    refine dd ?_
    repeat (first | apply c_seq | apply c_reg | (apply wO; apply oc; rfl; exact ydE) | apply w_nil | apply n_cd | (apply wg_t; rfl; rfl) | (apply wg_f; rfl; rfl; rfl; rfl) | (apply wg_u; rfl; rfl; rfl) | (apply c_t; rfl) | (apply c_f; rfl) | apply c_skip | apply c_block | apply n_blk | apply c_exit | apply e_hit | apply e_cd | apply e_lp | (apply e_miss; rfl) | apply c_ret | (apply wO; apply o_box; rfl; rfl; rfl; intro _) | (apply wO; apply o_alloc; rfl; intro _) | (apply wO; apply o_st; rfl; rfl; rfl; (first | exact AggC.s | exact OneC.s); rfl; exact rplE; exact putE; rfl) | (apply wO; apply o_bs0; rfl; intro _) | (apply wO; apply o_bs; rfl; rfl; rfl; rfl; exact rptE; exact filE; intro _) | (apply wO; apply o_call; rfl; kernel_rfl; exact evsE))
    refine ret ⟨z.y, z.a, z.c, z.F, q.1, q2.1⟩ hq3 rfl
  · repeat (first | apply c_seq | apply c_reg | (apply wO; apply oc; rfl; exact ydE) | apply w_nil | apply n_cd | (apply wg_t; rfl; rfl) | (apply wg_f; rfl; rfl; rfl; rfl) | (apply wg_u; rfl; rfl; rfl) | (apply c_t; rfl) | (apply c_f; rfl) | apply c_skip | apply c_block | apply n_blk | apply c_exit | apply e_hit | apply e_cd | apply e_lp | (apply e_miss; rfl) | apply c_ret | (apply wO; apply o_box; rfl; rfl; rfl; intro _) | (apply wO; apply o_alloc; rfl; intro _) | (apply wO; apply o_st; rfl; rfl; rfl; (first | exact AggC.s | exact OneC.s); rfl; exact rplE; exact putE; rfl) | (apply wO; apply o_bs0; rfl; intro _) | (apply wO; apply o_bs; rfl; rfl; rfl; rfl; exact rptE; exact filE; intro _) | (apply wO; apply o_call; rfl; kernel_rfl; exact evsE))
    refine cf (one_f _ _ ⟨code, a, c, G⟩ 3 q.2 hq (by omega) (by omega)) fun r hr => ?_
    refine t_app ?_
    obtain ⟨b, s2⟩ := r
    obtain ⟨-, hr⟩ := hr
    cases b
    · repeat (first | apply c_seq | apply c_reg | (apply wO; apply oc; rfl; exact ydE) | apply w_nil | apply n_cd | (apply wg_t; rfl; rfl) | (apply wg_f; rfl; rfl; rfl; rfl) | (apply wg_u; rfl; rfl; rfl) | (apply c_t; rfl) | (apply c_f; rfl) | apply c_skip | apply c_block | apply n_blk | apply c_exit | apply e_hit | apply e_cd | apply e_lp | (apply e_miss; rfl) | apply c_ret | (apply wO; apply o_box; rfl; rfl; rfl; intro _) | (apply wO; apply o_alloc; rfl; intro _) | (apply wO; apply o_st; rfl; rfl; rfl; (first | exact AggC.s | exact OneC.s); rfl; exact rplE; exact putE; rfl) | (apply wO; apply o_bs0; rfl; intro _) | (apply wO; apply o_bs; rfl; rfl; rfl; rfl; exact rptE; exact filE; intro _))
      refine d_start [1] [] ?_
      refine dt 0 ?_
      refine dt 1 ?_
      refine dt 2 ?_
      refine dO 3 (by kernel_rfl) (by rw [List.getElem?_toArray]; rfl) ?_
      apply o_bs; rfl; rfl; rfl; rfl; exact rptE; exact filE; intro _
      refine t_row (xs := [⟨#[]⟩, ⟨#[97]⟩, ⟨#[97, 98, 99]⟩, ⟨#[120, 121, 122]⟩, ⟨#[97, 98, 99, 100, 101, 102, 103, 104]⟩, ⟨#[97, 98, 99, 100, 101, 102, 103, 104, 105]⟩, ⟨#[113]⟩]) (fun w => flat_s w _ (by decide)) ?_ (by decide)
      refine t_read (E := EStr) fun G2 => ?_
      refine dk ?_
      refine dO 4 (by kernel_rfl) (by rw [List.getElem?_toArray]; rfl) ?_
      apply o_call; rfl; kernel_rfl; exact evsE
      refine cf (of_f _ _ ⟨code, a, c, G⟩ _ [⟨#[]⟩, ⟨#[97]⟩, ⟨#[97, 98, 99]⟩, ⟨#[120, 121, 122]⟩, ⟨#[97, 98, 99, 100, 101, 102, 103, 104]⟩, ⟨#[97, 98, 99, 100, 101, 102, 103, 104, 105]⟩, ⟨#[113]⟩] _ s2 hr (by omega) (by decide) (by decide)) fun q2 hq2 => ?_
      refine t_app ?_
      have hq3 : q2.1.size ≤ maxLen := by have := hq2.1; simp only [List.mem_cons, List.not_mem_nil, or_false] at this; rcases this with e | e | e | e | e | e | e <;> rw [e] <;> decide
      refine dk ?_
      refine dO 5 (by kernel_rfl) (by rw [List.getElem?_toArray]; rfl) ?_
      apply o_st; rfl; rfl; rfl; (first | exact AggC.s | exact OneC.s); rfl; exact rplE; exact putE; rfl
      refine dk ?_
      refine dt 6 ?_
      refine dt 7 ?_
      refine dd ?_
      repeat (first | apply c_seq | apply c_reg | (apply wO; apply oc; rfl; exact ydE) | apply w_nil | apply n_cd | (apply wg_t; rfl; rfl) | (apply wg_f; rfl; rfl; rfl; rfl) | (apply wg_u; rfl; rfl; rfl) | (apply c_t; rfl) | (apply c_f; rfl) | apply c_skip | apply c_block | apply n_blk | apply c_exit | apply e_hit | apply e_cd | apply e_lp | (apply e_miss; rfl) | apply c_ret | (apply wO; apply o_box; rfl; rfl; rfl; intro _) | (apply wO; apply o_alloc; rfl; intro _) | (apply wO; apply o_st; rfl; rfl; rfl; (first | exact AggC.s | exact OneC.s); rfl; exact rplE; exact putE; rfl) | (apply wO; apply o_bs0; rfl; intro _) | (apply wO; apply o_bs; rfl; rfl; rfl; rfl; exact rptE; exact filE; intro _) | (apply wO; apply o_call; rfl; kernel_rfl; exact evsE))
      refine ret ⟨z.y, z.a, z.c, z.F, q.1, q2.1⟩ hq3 rfl
    · repeat (first | apply c_seq | apply c_reg | (apply wO; apply oc; rfl; exact ydE) | apply w_nil | apply n_cd | (apply wg_t; rfl; rfl) | (apply wg_f; rfl; rfl; rfl; rfl) | (apply wg_u; rfl; rfl; rfl) | (apply c_t; rfl) | (apply c_f; rfl) | apply c_skip | apply c_block | apply n_blk | apply c_exit | apply e_hit | apply e_cd | apply e_lp | (apply e_miss; rfl) | apply c_ret | (apply wO; apply o_box; rfl; rfl; rfl; intro _) | (apply wO; apply o_alloc; rfl; intro _) | (apply wO; apply o_st; rfl; rfl; rfl; (first | exact AggC.s | exact OneC.s); rfl; exact rplE; exact putE; rfl) | (apply wO; apply o_bs0; rfl; intro _) | (apply wO; apply o_bs; rfl; rfl; rfl; rfl; exact rptE; exact filE; intro _))
      refine d_start [1] [] ?_
      refine dt 0 ?_
      refine dt 1 ?_
      refine dt 2 ?_
      refine dO 3 (by kernel_rfl) (by rw [List.getElem?_toArray]; rfl) ?_
      apply o_bs; rfl; rfl; rfl; rfl; exact rptE; exact filE; intro _
      refine t_row (xs := [⟨#[]⟩, ⟨#[97]⟩, ⟨#[97, 98, 99]⟩, ⟨#[120, 121, 122]⟩, ⟨#[97, 98, 99, 100, 101, 102, 103, 104]⟩, ⟨#[97, 98, 99, 100, 101, 102, 103, 104, 105]⟩, ⟨#[113]⟩]) (fun w => flat_s w _ (by decide)) ?_ (by decide)
      refine t_read (E := EStr) fun G2 => ?_
      refine dk ?_
      refine dO 4 (by kernel_rfl) (by rw [List.getElem?_toArray]; rfl) ?_
      apply o_call; rfl; kernel_rfl; exact evsE
      refine cf (of_f _ _ ⟨code, a, c, G⟩ _ [⟨#[]⟩, ⟨#[97]⟩, ⟨#[97, 98, 99]⟩, ⟨#[120, 121, 122]⟩, ⟨#[97, 98, 99, 100, 101, 102, 103, 104]⟩, ⟨#[97, 98, 99, 100, 101, 102, 103, 104, 105]⟩, ⟨#[113]⟩] _ s2 hr (by omega) (by decide) (by decide)) fun q2 hq2 => ?_
      refine t_app ?_
      have hq3 : q2.1.size ≤ maxLen := by have := hq2.1; simp only [List.mem_cons, List.not_mem_nil, or_false] at this; rcases this with e | e | e | e | e | e | e <;> rw [e] <;> decide
      refine dk ?_
      refine dO 5 (by kernel_rfl) (by rw [List.getElem?_toArray]; rfl) ?_
      apply o_st; rfl; rfl; rfl; (first | exact AggC.s | exact OneC.s); rfl; exact rplE; exact putE; rfl
      refine dk ?_
      refine dt 6 ?_
      refine dt 7 ?_
      refine dd ?_
      repeat (first | apply c_seq | apply c_reg | (apply wO; apply oc; rfl; exact ydE) | apply w_nil | apply n_cd | (apply wg_t; rfl; rfl) | (apply wg_f; rfl; rfl; rfl; rfl) | (apply wg_u; rfl; rfl; rfl) | (apply c_t; rfl) | (apply c_f; rfl) | apply c_skip | apply c_block | apply n_blk | apply c_exit | apply e_hit | apply e_cd | apply e_lp | (apply e_miss; rfl) | apply c_ret | (apply wO; apply o_box; rfl; rfl; rfl; intro _) | (apply wO; apply o_alloc; rfl; intro _) | (apply wO; apply o_st; rfl; rfl; rfl; (first | exact AggC.s | exact OneC.s); rfl; exact rplE; exact putE; rfl) | (apply wO; apply o_bs0; rfl; intro _) | (apply wO; apply o_bs; rfl; rfl; rfl; rfl; exact rptE; exact filE; intro _) | (apply wO; apply o_call; rfl; kernel_rfl; exact evsE))
      refine ret ⟨z.y, z.a, z.c, z.F, z.y.next, q2.1⟩ hq3 rfl
end Go.Proofs.YtidephmobajikaaGreatDoor
/- Two slots that are the same are equal. -/
namespace Go.Proofs.YtidephmobajikaaGreatDoor
open Go.RowKit
theorem slot_eq (s : Slot) (w : World) : (Op.equalIn 10000 113 (.agg #[.bool s.hav, .string s.item]) (.agg #[.bool s.hav, .string s.item])).run Tryz.prog w = .ok true w := by
  have u1 := Tryz.underlying4
  have u2 := Tryz.underlying9
  have hS : Tryz.prog.underlying 113 = some (.struct (Tryz.prog.fieldsOf 113)) := by kernel_rfl
  rw [show (10000 : Nat) = 9999 + 1 from rfl, run_equalIn_agg w 9999 113 _ _ hS (by kernel_rfl)]
  have a1 := Tryz.isAgg4
  have a2 := Tryz.isAgg9
  simp only [Program.fieldsOf, Tryz.underlying113]
  go_simp
theorem yd_neSlot {n : Nat} {fr : Fr} {H : List Pc} {x y : Operand} {ty t' : TypeId} {s : Slot} (hx : ev fr x = some (.agg #[.bool s.hav, .string s.item])) (hy : ev fr y = some (.agg #[.bool s.hav, .string s.item])) : Yd Tryz.prog n fr H (.binOp .neq 113 x y t') ty (.bool false) := .mk fun c w d pos aft gd hA _ => by
  have h2 : (eqGuard .neq 113 x y (.agg #[.bool s.hav, .string s.item]) (.agg #[.bool s.hav, .string s.item])).run Tryz.prog w = .ok () w := run_eqGuard_agg w _ _ _ _ _ _ (by kernel_rfl)
  simp only [execOp, hA.ev hx, hA.ev hy, Sem.run_bind, h2, Result.andThen_ok, run_neq_struct, slot_eq, Sem.run_pure]
  rfl
end Go.Proofs.YtidephmobajikaaGreatDoor
/- Slots that are alike. -/
namespace Go.Proofs.YtidephmobajikaaGreatDoor
open Go.RowKit
set_option maxRecDepth 100000 in
theorem vSlots_f (v v2 : Value) (x : ReceiveWindow) (F F2 : List Nat) : Fn Tryz.prog 11 [v, v2] [.isv EReceiveWindow v x F, .isv EReceiveWindow v2 x F2] [] (fun (_ : Unit) => True) (fun _ => .bool true) (fun _ => []) := by
  refine enter Tryz.func11 rfl Tryz.ntmps11 fun w0 => ?_
  refine openReceiveWindow (v := v) (x := x) (F := F) ?_
  rintro a c F3 rfl l1
  unfold maxLen at l1
  refine openReceiveWindow (v := v2) (x := x) (F := F2) ?_
  rintro a2 c2 F4 rfl l3
  repeat (first | apply c_seq | apply c_reg | (apply wO; apply oc; rfl; exact ydE) | apply w_nil | apply n_cd | (apply wg_t; rfl; rfl) | (apply wg_f; rfl; rfl; rfl; rfl) | (apply wg_u; rfl; rfl; rfl) | (apply c_t; rfl) | (apply c_f; rfl) | apply c_skip | apply c_block | apply n_blk | apply c_exit | apply e_hit | apply e_cd | apply e_lp | (apply e_miss; rfl) | apply c_ret | (apply wO; apply o_box; rfl; rfl; rfl; intro _) | (apply wO; apply o_alloc; rfl; intro _) | (apply wO; apply o_st; rfl; rfl; rfl; (first | exact AggC.s | exact OneC.s); rfl; exact rplE; exact putE; rfl) | (apply wO; apply o_bs0; rfl; intro _) | (apply wO; apply o_bs; rfl; rfl; rfl; rfl; exact rptE; exact filE; intro _) | (apply wO; apply o_call; rfl; kernel_rfl; exact evsE))
  refine wg_if rfl rfl (fun h => ?_) (fun h => ?_)
  · exact absurd rfl h
  repeat (first | apply c_seq | apply c_reg | (apply wO; apply oc; rfl; exact ydE) | apply w_nil | apply n_cd | (apply wg_t; rfl; rfl) | (apply wg_f; rfl; rfl; rfl; rfl) | (apply wg_u; rfl; rfl; rfl) | (apply c_t; rfl) | (apply c_f; rfl) | apply c_skip | apply c_block | apply n_blk | apply c_exit | apply e_hit | apply e_cd | apply e_lp | (apply e_miss; rfl) | apply c_ret | (apply wO; apply o_box; rfl; rfl; rfl; intro _) | (apply wO; apply o_alloc; rfl; intro _) | (apply wO; apply o_st; rfl; rfl; rfl; (first | exact AggC.s | exact OneC.s); rfl; exact rplE; exact putE; rfl) | (apply wO; apply o_bs0; rfl; intro _) | (apply wO; apply o_bs; rfl; rfl; rfl; rfl; exact rptE; exact filE; intro _) | (apply wO; apply o_call; rfl; kernel_rfl; exact evsE))
  refine c_if rfl (fun h2 => ?_) (fun h2 => ?_)
  · exact absurd rfl h2
  repeat (first | apply c_seq | apply c_reg | (apply wO; apply oc; rfl; exact ydE) | apply w_nil | apply n_cd | (apply wg_t; rfl; rfl) | (apply wg_f; rfl; rfl; rfl; rfl) | (apply wg_u; rfl; rfl; rfl) | (apply c_t; rfl) | (apply c_f; rfl) | apply c_skip | apply c_block | apply n_blk | apply c_exit | apply e_hit | apply e_cd | apply e_lp | (apply e_miss; rfl) | apply c_ret | (apply wO; apply o_box; rfl; rfl; rfl; intro _) | (apply wO; apply o_alloc; rfl; intro _) | (apply wO; apply o_st; rfl; rfl; rfl; (first | exact AggC.s | exact OneC.s); rfl; exact rplE; exact putE; rfl) | (apply wO; apply o_bs0; rfl; intro _) | (apply wO; apply o_bs; rfl; rfl; rfl; rfl; exact rptE; exact filE; intro _) | (apply wO; apply o_call; rfl; kernel_rfl; exact evsE))
  refine c_loopR [2, 3, 4] (fun k : Nat => [(5, .int .i64 k)]) (fun k => k ≤ x.slots.length) (fun k => x.slots.length - k) 0 (Nat.zero_le _) fun k hk => ?_
  repeat (first | apply c_seq | apply c_reg | (apply wO; apply oc; rfl; exact ydE) | apply w_nil | apply n_cd | (apply wg_t; rfl; rfl) | (apply wg_f; rfl; rfl; rfl; rfl) | (apply wg_u; rfl; rfl; rfl) | (apply c_t; rfl) | (apply c_f; rfl) | apply c_skip | apply c_block | apply n_blk | apply c_exit | apply e_hit | apply e_cd | apply e_lp | (apply e_miss; rfl) | apply c_ret | (apply wO; apply o_box; rfl; rfl; rfl; intro _) | (apply wO; apply o_alloc; rfl; intro _) | (apply wO; apply o_st; rfl; rfl; rfl; (first | exact AggC.s | exact OneC.s); rfl; exact rplE; exact putE; rfl) | (apply wO; apply o_bs0; rfl; intro _) | (apply wO; apply o_bs; rfl; rfl; rfl; rfl; exact rptE; exact filE; intro _) | (apply wO; apply o_call; rfl; kernel_rfl; exact evsE))
  refine c_if rfl (fun h3 => ?_) (fun h3 => ?_)
  · have hk3 : k < x.slots.length := by omega
    refine atSlot (a := a) (xs := x.slots) k ?_
    rintro hi b o e s1
    rw [e]
    refine atSlot (a := a2) (xs := x.slots) k ?_
    rintro hi2 b2 o2 e2 s2
    rw [e2]
    repeat (first | apply c_seq | apply c_reg | (apply wO; apply oc; rfl; exact ydE) | apply w_nil | apply n_cd | (apply wg_t; rfl; rfl) | (apply wg_f; rfl; rfl; rfl; rfl) | (apply wg_u; rfl; rfl; rfl) | (apply c_t; rfl) | (apply c_f; rfl) | apply c_skip | apply c_block | apply n_blk | apply c_exit | apply e_hit | apply e_cd | apply e_lp | (apply e_miss; rfl) | apply c_ret | (apply wO; apply o_box; rfl; rfl; rfl; intro _) | (apply wO; apply o_alloc; rfl; intro _) | (apply wO; apply o_st; rfl; rfl; rfl; (first | exact AggC.s | exact OneC.s); rfl; exact rplE; exact putE; rfl) | (apply wO; apply o_bs0; rfl; intro _) | (apply wO; apply o_bs; rfl; rfl; rfl; rfl; exact rptE; exact filE; intro _))
    refine d_start [0, 1, 2, 3] [] ?_
    refine dt 0 ?_
    refine dt 1 ?_
    refine dt 2 ?_
    refine dt 3 ?_
    refine dt 4 ?_
    refine dt 5 ?_
    refine dt 6 ?_
    refine dt 7 ?_
    refine dt 8 ?_
    refine dt 9 ?_
    refine dt 10 ?_ (hy := yd_neSlot rfl rfl)
    refine dd ?_
    repeat (first | apply c_seq | apply c_reg | (apply wO; apply oc; rfl; exact ydE) | apply w_nil | apply n_cd | (apply wg_t; rfl; rfl) | (apply wg_f; rfl; rfl; rfl; rfl) | (apply wg_u; rfl; rfl; rfl) | (apply c_t; rfl) | (apply c_f; rfl) | apply c_skip | apply c_block | apply n_blk | apply c_exit | apply e_hit | apply e_cd | apply e_lp | (apply e_miss; rfl) | apply c_ret | (apply wO; apply o_box; rfl; rfl; rfl; intro _) | (apply wO; apply o_alloc; rfl; intro _) | (apply wO; apply o_st; rfl; rfl; rfl; (first | exact AggC.s | exact OneC.s); rfl; exact rplE; exact putE; rfl) | (apply wO; apply o_bs0; rfl; intro _) | (apply wO; apply o_bs; rfl; rfl; rfl; rfl; exact rptE; exact filE; intro _) | (apply wO; apply o_call; rfl; kernel_rfl; exact evsE))
    refine n_lp (k + 1) hk3 (by omega)
  · repeat (first | apply c_seq | apply c_reg | (apply wO; apply oc; rfl; exact ydE) | apply w_nil | apply n_cd | (apply wg_t; rfl; rfl) | (apply wg_f; rfl; rfl; rfl; rfl) | (apply wg_u; rfl; rfl; rfl) | (apply c_t; rfl) | (apply c_f; rfl) | apply c_skip | apply c_block | apply n_blk | apply c_exit | apply e_hit | apply e_cd | apply e_lp | (apply e_miss; rfl) | apply c_ret | (apply wO; apply o_box; rfl; rfl; rfl; intro _) | (apply wO; apply o_alloc; rfl; intro _) | (apply wO; apply o_st; rfl; rfl; rfl; (first | exact AggC.s | exact OneC.s); rfl; exact rplE; exact putE; rfl) | (apply wO; apply o_bs0; rfl; intro _) | (apply wO; apply o_bs; rfl; rfl; rfl; rfl; exact rptE; exact filE; intro _) | (apply wO; apply o_call; rfl; kernel_rfl; exact evsE))
    refine ret () trivial rfl
end Go.Proofs.YtidephmobajikaaGreatDoor
/- Receive windows: what is given up, counted. Plain. -/
namespace Go.Proofs.YtidephmobajikaaGreatDoor
open Go.RowKit
theorem aft_aftN (n : Int) (j : Nat) : aft (aft n 1) j = aft n ((j + 1 : Nat) : Int) := by unfold aft; omega
theorem aft_zeroN {n : Int} (h0 : 0 ≤ n) (h1 : n ≤ 65535) : aft n ((0 : Nat) : Int) = n := by unfold aft; omega
theorem rel_next : ∀ (l : List Slot) (n : Int), 0 ≤ n → n ≤ 65535 → (rel n l).1 = aft n ((rel n l).2.2.length : Nat)
  | [], n, h0, h1 => (aft_zeroN h0 h1).symm
  | s :: r, n, h0, h1 => by
    have ih := rel_next r (aft n 1) (aft_bd _ _).1 (aft_bd _ _).2
    unfold rel
    split
    · dsimp only
      rw [ih, aft_aftN, List.length_cons]
    · exact (aft_zeroN h0 h1).symm
theorem gp_aft (n : Int) (j : Nat) (hj : j ≤ 65535) : gp n (aft n j) = j := by unfold gp aft; omega
end Go.Proofs.YtidephmobajikaaGreatDoor
/- Receive windows: what is left after giving up is valid; nothing before is awaited. Plain. -/
namespace Go.Proofs.YtidephmobajikaaGreatDoor
open Go.RowKit
theorem rel_drop : ∀ (l : List Slot) (n : Int), (rel n l).2.1 = l.drop (rel n l).2.2.length ∧ havAt (rel n l).2.1 0 = false
  | [], n => ⟨rfl, rfl⟩
  | s :: r, n => by
    have ih := rel_drop r (aft n 1)
    unfold rel
    split
    · dsimp only
      rw [List.length_cons, List.drop_succ_cons]
      exact ih
    · rename_i h
      exact ⟨rfl, by simpa [havAt] using h⟩
theorem havAt_drop (l : List Slot) (m i : Nat) : havAt (l.drop m) i = havAt l (m + i) := by unfold havAt; rw [List.getElem?_drop]
theorem good_first {x : ReceiveWindow} (hg : goodRW x = true) : havAt x.slots 0 = false := by
  unfold goodRW ends at hg
  simp only [Bool.and_eq_true, Bool.or_eq_true, decide_eq_true_eq, Bool.not_eq_true'] at hg
  rcases hg.2 with h | h
  · exact havAt_ge (by omega)
  · exact h.1
theorem relE_le (x : ReceiveWindow) : (relE x).length ≤ x.slots.length := by
  unfold relE
  have : ∀ (l : List Slot) n, (rel n l).2.2.length ≤ l.length := by
    intro l
    induction l with
    | nil => intro n; exact Nat.le_refl _
    | cons s r ih =>
      intro n
      unfold rel
      split
      · dsimp only; rw [List.length_cons, List.length_cons]; exact Nat.succ_le_succ (ih _)
      · exact Nat.zero_le _
  exact this _ _
end Go.Proofs.YtidephmobajikaaGreatDoor
/- Receive windows: an item that is taken is there or released, once. Plain. -/
namespace Go.Proofs.YtidephmobajikaaGreatDoor
open Go.RowKit
theorem havAt_set (l : List Slot) (k i : Nat) (s : Slot) (hk : k < l.length) : havAt (l.set k s) i = if i = k then s.hav else havAt l i := by
  unfold havAt
  rw [List.getElem?_set]
  by_cases h : k = i
  · subst h; simp [hk]
  · rw [if_neg h, if_neg (fun e => h e.symm)]
theorem putL_len (x : ReceiveWindow) (k : Nat) (s : Slot) : (putL x k s).length = max x.slots.length (k + 1) := by
  unfold putL; rw [List.length_set, padL_len]; omega
theorem putL_at (x : ReceiveWindow) (k : Nat) (s : Slot) : havAt (putL x k s) k = s.hav := by
  unfold putL; rw [havAt_set _ _ _ _ (by rw [padL_len]; omega), if_pos rfl]
theorem putL_get (x : ReceiveWindow) (k : Nat) (s : Slot) : (putL x k s)[k]? = some s := by
  unfold putL; rw [List.getElem?_set_self (by rw [padL_len]; omega)]
theorem putL_ok {x : ReceiveWindow} {k : Nat} {s : Slot} (hx : x.slots.all okSlot = true) (hs : okSlot s = true) : (putL x k s).all okSlot = true := by
  rw [List.all_eq_true] at hx ⊢
  intro z hz
  unfold putL at hz
  rcases List.mem_or_eq_of_mem_set hz with h | rfl
  · unfold padL at h
    rcases List.mem_append.1 h with h | h
    · exact hx z h
    · rw [(List.mem_replicate.1 h).2]; decide
  · exact hs
theorem putL_last {x : ReceiveWindow} {k : Nat} {s : Slot} (hx : ends x.slots = true) (hs : s.hav = true) : havAt (putL x k s) ((putL x k s).length - 1) = true := by
  rw [putL_len]
  by_cases h : x.slots.length ≤ k + 1
  · rw [show max x.slots.length (k + 1) - 1 = k by omega, putL_at]; exact hs
  · unfold putL
    rw [havAt_set _ _ _ _ (by rw [padL_len]; omega), if_neg (by omega)]
    unfold ends at hx
    rw [decide_eq_false (by omega)] at hx
    simp only [Bool.false_or, Bool.and_eq_true] at hx
    rw [show max x.slots.length (k + 1) - 1 = x.slots.length - 1 by omega]
    unfold padL
    rw [show k + 1 - x.slots.length = 0 by omega]
    simpa using hx.2
theorem rel_good {n : Int} {L : List Slot} (hn : isSer n = true) (ho : L.all okSlot = true) (hl : L.length ≤ 8) (he : havAt L (L.length - 1) = true ∨ L = []) : goodRW (relW ⟨n, L⟩) = true := by
  obtain ⟨d1, d2⟩ := rel_drop L n
  have hs : (relW ⟨n, L⟩).slots = L.drop (rel n L).2.2.length := d1
  obtain ⟨p0, p1⟩ := isSer_iff.1 hn
  have hnx : (relW ⟨n, L⟩).next = aft n ((rel n L).2.2.length : Nat) := rel_next L n p0 p1
  generalize (rel n L).2.2.length = m at hs hnx
  have h0 : havAt (relW ⟨n, L⟩).slots 0 = false := d2
  rw [hs] at h0
  have e1 : isSer (relW ⟨n, L⟩).next = true := by rw [hnx]; exact aft_ser _ _
  have e2 : (L.drop m).all okSlot = true := List.all_eq_true.2 fun z hz => List.all_eq_true.1 ho z (List.mem_of_mem_drop hz)
  have e3 : ends (L.drop m) = true := by
    unfold ends
    by_cases hz : (L.drop m).length = 0
    · rw [decide_eq_true hz]; rfl
    · rw [decide_eq_false hz, h0, havAt_drop]
      rw [List.length_drop] at hz ⊢
      rcases he with he | he
      · rw [show m + (L.length - m - 1) = L.length - 1 by omega, he]; rfl
      · subst he; simp at hz
  unfold goodRW
  rw [e1, hs, e2, e3, decide_eq_true (by simp; omega)]
  rfl
theorem law_take (x : ReceiveWindow) (n : Int) (s : ByteArray) : (resTakeItem x n s).2.2 = true → goodRW x = true ∧ isSer n = true ∧ goodRW (resTakeItem x n s).1 = true ∧ gp x.next (resTakeItem x n s).1.next = ((resTakeItem x n s).2.1.length : Nat) ∧ takeNo (resTakeItem x n s).1 n = true ∧ (n = x.next → ∃ r, (resTakeItem x n s).2.1 = plus s :: r) ∧ (resTakeItem x n s).2.1.length ≤ 8 ∧ s.size ≤ 8 := by
  unfold resTakeItem
  split
  rotate_left
  · intro h; cases h
  rename_i h
  intro _
  unfold okTakeItem at h
  simp only [Bool.and_eq_true] at h
  obtain ⟨⟨⟨h1, h2⟩, h3⟩, h4⟩ := h
  have g := good_of h1
  have p0 := g.n0
  have p1 := g.n1
  have pl := g.l
  obtain ⟨n0, n1⟩ := isSer_iff.1 h2
  refine ⟨h1, h2, ?_⟩
  dsimp only
  cases ht : takeNo x n with
  | true =>
    have eW : takeW x n s = x := by unfold takeW; rw [ht]; rfl
    have eE : takeE x n s = [] := by unfold takeE; rw [ht]; rfl
    rw [eW, eE]
    refine ⟨h1, ?_, ht, fun e => ?_, by simp, itm_size h3⟩
    · unfold gp; simp
    · subst e
      exfalso
      unfold takeNo at ht
      rw [Bool.or_eq_true] at ht
      rcases ht with h | h
      · unfold bef gp at h; simp at h; exact absurd h (by decide)
      · unfold hasB at h
        rw [show gp x.next x.next = 0 by unfold gp; omega] at h
        rw [show (0 : Int).toNat = 0 from rfl, good_first h1] at h
        cases h
  | false =>
    have hk8 : gp x.next n < 8 := by unfold takeOk at h4; rw [ht] at h4; simpa using h4
    have hgb := gp_bd x.next n
    obtain ⟨k, hk⟩ : ∃ k : Nat, gp x.next n = k := ⟨(gp x.next n).toNat, by omega⟩
    have eW : takeW x n s = relW ⟨x.next, putL x k ⟨true, s⟩⟩ := by unfold takeW; rw [ht, decide_eq_true hk8]; unfold putW; rw [hk, Int.toNat_natCast]; rfl
    have eE : takeE x n s = (rel x.next (putL x k ⟨true, s⟩)).2.2 := by unfold takeE; rw [ht, decide_eq_true hk8]; unfold putW; rw [hk, Int.toNat_natCast]; rfl
    have hx : x.slots.all okSlot = true ∧ ends x.slots = true := by
      unfold goodRW at h1
      simp only [Bool.and_eq_true] at h1
      exact ⟨h1.1.2, h1.2⟩
    have hos : okSlot ⟨true, s⟩ = true := by unfold okSlot; rw [h3]; rfl
    have hL := putL_len x k ⟨true, s⟩
    have hat := putL_at x k ⟨true, s⟩
    have hget := putL_get x k ⟨true, s⟩
    have ho := putL_ok (k := k) hx.1 hos
    have hla := putL_last (k := k) (s := ⟨true, s⟩) hx.2 rfl
    rw [eW, eE]
    generalize putL x k ⟨true, s⟩ = L at *
    have hl8 : L.length ≤ 8 := by omega
    have hrl : (rel x.next L).2.2.length ≤ L.length := by
      have := relE_le ⟨x.next, L⟩
      unfold relE at this; dsimp only at this; omega
    obtain ⟨d1, d2⟩ := rel_drop L x.next
    have hnx := rel_next L x.next p0 p1
    have hn : n = aft x.next (k : Nat) := by rw [← hk]; unfold gp aft; omega
    refine ⟨rel_good (isSer_iff.2 ⟨p0, p1⟩) ho hl8 (.inl hla), ?_, ?_, ?_, by omega, itm_size h3⟩
    · show gp x.next (rel x.next L).1 = _
      rw [hnx]; exact gp_aft _ _ (by omega)
    · unfold takeNo
      show (bef n (rel x.next L).1 || havAt (rel x.next L).2.1 (gp (rel x.next L).1 n).toNat) = true
      rw [hnx, d1]
      generalize (rel x.next L).2.2.length = m at *
      by_cases hkm : k < m
      · rw [show bef n (aft x.next (m : Nat)) = true by rw [hn]; unfold bef btw gp aft; rw [Bool.and_eq_true]; simp only [decide_eq_true_eq]; omega]; rfl
      · rw [show gp (aft x.next (m : Nat)) n = ((k - m : Nat) : Int) by rw [hn]; unfold gp aft; omega, Int.toNat_natCast, havAt_drop, show m + (k - m) = k by omega, hat]
        simp
    · intro e
      have hk0 : k = 0 := by rw [e] at hk; unfold gp at hk; omega
      subst hk0
      cases L with
      | nil => simp at hget
      | cons z r =>
        simp at hget
        subst hget
        exact ⟨(rel (aft x.next 1) r).2.2, by simp [rel]⟩
end Go.Proofs.YtidephmobajikaaGreatDoor
/- Receive windows out of their texts: the round. Plain lists. -/
namespace Go.Proofs.YtidephmobajikaaGreatDoor
open Go.RowKit
theorem idx_at (b : UInt8) (r : Bs) : ∀ x : Bs, (∀ c ∈ x, c ≠ b) → Lib.index (x ++ b :: r) [b] = x.length
  | [], _ => by simp [Lib.index]
  | c :: x, h => by
    have ih := idx_at b r x (fun d hd => h d (by simp [hd]))
    have hc : ¬ b = c := fun e => h c (by simp) e.symm
    rw [List.cons_append, Lib.index, if_neg (by simp [hc]), ih, if_neg (by simp <;> omega)]
    simp
def joinW (l : List ByteArray) : Bs := (l.map fun w => 32 :: w.data.toList).flatten
theorem split_join : ∀ (W : List ByteArray) (u : ByteArray), (∀ c ∈ u.data.toList, c ≠ 32) → (∀ w ∈ W, ∀ c ∈ w.data.toList, c ≠ 32) → Lib.splitB ⟨#[32]⟩ 0 W.length (bz (u.data.toList ++ joinW W)) = u :: W
  | [], u, hu, _ => by
    rw [show joinW [] = [] from rfl, List.append_nil, bz_of]
    exact Lib.splitB_zero _ _ _
  | w :: W, u, hu, hW => by
    have e : u.data.toList ++ joinW (w :: W) = u.data.toList ++ 32 :: (w.data.toList ++ joinW W) := by simp [joinW]
    have hi : Lib.indexB (bz (u.data.toList ++ joinW (w :: W))) ⟨#[32]⟩ = (u.size : Int) := by
      unfold Lib.indexB
      rw [bz_list, e]
      have := idx_at 32 (w.data.toList ++ joinW W) u.data.toList hu
      rw [size_list] at this
      exact this
    rw [List.length_cons, Lib.splitB_hit _ _ _ _ _ hi]
    have e1 : (bz (u.data.toList ++ joinW (w :: W))).extract 0 (u.size + 0) = u := by
      have := Lib.extract_from_zero (bz (u.data.toList ++ joinW (w :: W))) (u.size + 0)
      rw [bz_list, Nat.add_zero, ← size_list u, List.take_left] at this
      rw [← bz_of (ByteArray.extract _ _ _), Nat.add_zero, ← size_list u, this, bz_of]
    have e2 : (bz (u.data.toList ++ joinW (w :: W))).extract (u.size + (⟨#[32]⟩ : ByteArray).size) (bz (u.data.toList ++ joinW (w :: W))).size = bz (w.data.toList ++ joinW W) := by
      rw [← bz_of (ByteArray.extract _ _ _)]
      congr 1
      rw [Lib.extract_data, bz_list, e, bz_size, show (⟨#[32]⟩ : ByteArray).size = 1 from rfl, ← size_list u, show u.data.toList ++ 32 :: (w.data.toList ++ joinW W) = (u.data.toList ++ [32]) ++ (w.data.toList ++ joinW W) by simp, List.drop_left' (by simp)]
      exact List.take_of_length_le (by simp; omega)
    rw [e1, e2, split_join W w (hW w (by simp)) (fun v hv => hW v (by simp [hv]))]
theorem count_join : ∀ (W : List ByteArray), (∀ w ∈ W, ∀ c ∈ w.data.toList, c ≠ 32) → (joinW W).count 32 = W.length
  | [], _ => rfl
  | w :: W, hW => by
    have ih := count_join W (fun v hv => hW v (by simp [hv]))
    have h0 : w.data.toList.count 32 = 0 := List.count_eq_zero.2 fun hc => hW w (by simp) 32 hc rfl
    show ((32 :: w.data.toList) ++ joinW W).count 32 = _
    rw [List.count_append, List.count_cons_self, h0, ih, List.length_cons]; omega
theorem decFrom_app (l : Bs) (b : UInt8) (d : Nat) (hb : Lib.digitVal b = some d) : ∀ acc n, Lib.decFrom acc l = some n → Lib.decFrom acc (l ++ [b]) = some (n * 10 + d) := by
  induction l with
  | nil => intro acc n h; simp [Lib.decFrom] at h ⊢; subst h; rw [hb]
  | cons a l ih =>
    intro acc n h
    simp only [List.cons_append, Lib.decFrom] at h ⊢
    cases ha : Lib.digitVal a with
    | none => rw [ha] at h; cases h
    | some x =>
      have h2 : Lib.decFrom (acc * 10 + x) l = some n := by simpa [ha] using h
      exact ih _ _ h2
theorem dig_val : ∀ d : Nat, d < 10 → Lib.digitVal (UInt8.ofNat (48 + d)) = some d := by decide
theorem dec_back : ∀ (k u : Nat), u < 10 ^ (k + 1) → Lib.decFrom 0 (Lib.decDigits u) = some u
  | 0, u, h => by
    have h3 : u < 10 := by simpa using h
    rw [Lib.decDigits, dif_pos h3, Lib.decFrom, dig_val u h3]; simp [Lib.decFrom]
  | k + 1, u, h => by
    by_cases h3 : u < 10
    · rw [Lib.decDigits, dif_pos h3, Lib.decFrom, dig_val u h3]; simp [Lib.decFrom]
    · have ih := dec_back k (u / 10) (by rw [Nat.pow_succ] at h; omega)
      rw [Lib.decDigits, dif_neg h3, decFrom_app _ _ _ (dig_val (u % 10) (by omega)) _ _ ih]
      congr 1; omega
theorem atoi_back (u : Nat) (h : u < 1000000) : Lib.atoiAll (Lib.decDigits u) = .ok (u : Int) := by
  have hl := digit_len 5 u (by omega)
  have hp := digit_pos u
  rw [Lib.atoiAll_short _ (by omega)]
  have : Lib.atoi (Lib.decDigits u) = some (u : Int) := by
    have hb := dec_back 5 u (by omega)
    cases hd : Lib.decDigits u with
    | nil => rw [hd] at hp; simp at hp
    | cons b r =>
      have hm := digit_mem u b (by rw [hd]; simp)
      have h45 : (45 : UInt8).toNat = 45 := rfl
      have h43 : (43 : UInt8).toNat = 43 := rfl
      rw [Lib.atoi, if_neg (by simp; intro e; subst e; omega), if_neg (by simp; intro e; subst e; omega)]
      unfold Lib.decNat
      rw [if_neg (by simp), ← hd, hb]; rfl
  rw [this]; rfl
theorem resPI_back (u : Nat) (h : u ≤ 65535) : resPI (bz (Lib.decDigits u)) = ((u : Int), true) := by
  unfold resPI
  rw [bz_list, atoi_back u (by omega)]
  have e : Lib.itoa (u : Int) = Lib.decDigits u := by unfold Lib.itoa; rw [if_neg (by omega)]; simp
  simp only [e]
  rw [show btw (-999999) (u : Int) 999999 = true by unfold btw; rw [decide_eq_true (by omega), decide_eq_true (by omega)]; rfl]
  simp
theorem slT_list (x : ReceiveWindow) (l : List Slot) : ∀ acc : ByteArray, (l.foldl (fun a s => a ++ (⟨#[32]⟩ ++ sword s)) acc).data.toList = acc.data.toList ++ joinW (l.map sword) := by
  induction l with
  | nil => intro acc; simp [joinW]
  | cons s l ih =>
    intro acc
    rw [List.foldl_cons, ih]
    simp [joinW, ByteArray.data_append]
theorem slTxt_list (x : ReceiveWindow) : (slTxt x).data.toList = Lib.decDigits x.next.toNat ++ 58 :: joinW (x.slots.map sword) := by
  unfold slTxt slT
  rw [slT_list x, List.take_length, app_list, bz_list]; simp
theorem low_of {b : UInt8} (h : low b = true) : 97 ≤ b.toNat ∧ b.toNat ≤ 122 := by
  unfold low btw at h
  simp only [Bool.and_eq_true, decide_eq_true_eq] at h
  omega
theorem okSlot_cases {s : Slot} (h : okSlot s = true) : (∀ c ∈ s.item.data.toList, 97 ≤ c.toNat ∧ c.toNat ≤ 122) ∧ (s.hav = false → s.item = ⟨#[]⟩) := by
  unfold okSlot itm lows at h
  simp only [Bool.and_eq_true, Bool.or_eq_true, decide_eq_true_eq, List.all_eq_true] at h
  refine ⟨fun c hc => low_of (h.1.2 c hc), fun hh => ?_⟩
  rcases h.2 with h2 | h2
  · rw [hh] at h2; cases h2
  · exact h2
theorem sword_ne {s : Slot} (h : okSlot s = true) : ∀ c ∈ (sword s).data.toList, c ≠ 32 := by
  obtain ⟨h1, h2⟩ := okSlot_cases h
  have e32 : (32 : UInt8).toNat = 32 := rfl
  unfold sword
  split
  · split
    · intro c hc; simp at hc; subst hc; decide
    · intro c hc e; subst e; have := h1 _ hc; omega
  · intro c hc; simp at hc; subst hc; decide
theorem wslot_back {s : Slot} (h : okSlot s = true) : wslot (sword s) = s := by
  obtain ⟨h1, h2⟩ := okSlot_cases h
  obtain ⟨hv, it⟩ := s
  dsimp only at h1 h2
  unfold sword wslot
  cases hv with
  | false => rw [h2 rfl]; rfl
  | true =>
    by_cases e : it = ⟨#[]⟩
    · subst e; rfl
    · have e63 : (63 : UInt8).toNat = 63 := rfl
      have e46 : (46 : UInt8).toNat = 46 := rfl
      have n1 : ¬ it = ⟨#[63]⟩ := fun e => by subst e; have := h1 63 (by simp); omega
      have n2 : ¬ it = ⟨#[46]⟩ := fun e => by subst e; have := h1 46 (by simp); omega
      simp [e, n1, n2]
/-- a good window comes back out of its text -/
theorem resPS_back {x : ReceiveWindow} (hg : goodRW x = true) : resPS (slTxt x) = (x, true) := by
  obtain ⟨n0, n1, hl, hit⟩ := good_of hg
  have hok : ∀ s ∈ x.slots, okSlot s = true := by
    unfold goodRW at hg
    simp only [Bool.and_eq_true] at hg
    exact fun s hs => List.all_eq_true.1 hg.1.2 s hs
  have h58 : ∀ c ∈ Lib.decDigits x.next.toNat, c ≠ 58 := digit_ne (by decide)
  have hi : Lib.index (slTxt x).data.toList [58] = ((Lib.decDigits x.next.toNat).length : Int) := by rw [slTxt_list]; exact idx_at 58 _ _ h58
  have hc : Lib.cut (slTxt x).data.toList [58] = (Lib.decDigits x.next.toNat, joinW (x.slots.map sword), true) := by
    unfold Lib.cut
    rw [hi, if_pos (by omega), slTxt_list]
    simp
  have hpn : pn (slTxt x) = bz (Lib.decDigits x.next.toNat) := by unfold pn; rw [hc]
  have hpr : pr (slTxt x) = bz (joinW (x.slots.map sword)) := by unfold pr; rw [hc]
  have hW : ∀ w ∈ x.slots.map sword, ∀ c ∈ w.data.toList, c ≠ 32 := by
    intro w hw
    obtain ⟨s, hs, rfl⟩ := List.mem_map.1 hw
    exact sword_ne (hok s hs)
  have hcnt : Lib.countB (bz (joinW (x.slots.map sword))) ⟨#[32]⟩ = (x.slots.map sword).length := by
    have := Lib.count_one 32 (bz (joinW (x.slots.map sword))).data.toList
    rw [bz_list, count_join _ hW] at this
    rw [← this]; unfold Lib.countB; rw [bz_list]
  have hpw : pw (slTxt x) = x.slots.map sword := by
    unfold pw pw0
    rw [hpr, hcnt]
    have := split_join (x.slots.map sword) ⟨#[]⟩ (by simp) hW
    rw [show (⟨#[]⟩ : ByteArray).data.toList = [] from rfl, List.nil_append] at this
    rw [this]; rfl
  have hps : pslot (slTxt x) = x := by
    unfold pslot
    rw [hpw, hpn, resPI_back _ (by omega), List.map_map]
    obtain ⟨nx, sl⟩ := x
    dsimp only at *
    congr 1
    · omega
    · have : ∀ s ∈ sl, (wslot ∘ sword) s = id s := fun s hs => wslot_back (hok s hs)
      rw [List.map_congr_left this, List.map_id]
  unfold resPS okPS
  rw [hps, hg, decide_eq_true rfl, hpn, resPI_back _ (by omega)]; rfl
theorem resPS_text {s : ByteArray} (h : (resPS s).2 = true) : goodRW (resPS s).1 = true ∧ slTxt (resPS s).1 = s := by
  unfold resPS at h ⊢
  cases g : okPS s with
  | false => rw [g] at h; cases h
  | true =>
    rw [if_pos rfl]
    unfold okPS at g
    simp only [Bool.and_eq_true, decide_eq_true_eq] at g
    exact ⟨g.1.2, g.2⟩
end Go.Proofs.YtidephmobajikaaGreatDoor
/- The law FnReceiveWindow: the walk. -/
namespace Go.Proofs.YtidephmobajikaaGreatDoor
open Go.RowKit
set_option maxRecDepth 100000 in
theorem specValidRW_f (x : ReceiveWindow) (v : Value) (F : List Nat) : Fn Tryz.prog 14 [v] [.isv EReceiveWindow v x F] [] (fun (_ : Unit) => True) (fun _ => .bool (goodRW x)) (fun _ => []) := by
  refine enter Tryz.func14 rfl Tryz.ntmps14 fun w0 => ?_
  refine openReceiveWindow ?_
  rintro a1 c1 F1 rfl l1
  repeat (first | apply c_seq | apply c_reg | (apply wO; apply oc; rfl; exact ydE) | apply w_nil | apply n_cd | (apply wg_t; rfl; rfl) | (apply wg_f; rfl; rfl; rfl; rfl) | (apply wg_u; rfl; rfl; rfl) | (apply c_t; rfl) | (apply c_f; rfl) | apply c_skip | apply c_block | apply n_blk | apply c_exit | apply e_hit | apply e_cd | apply e_lp | (apply e_miss; rfl) | apply c_ret | (apply wO; apply o_box; rfl; rfl; rfl; intro _) | (apply wO; apply o_alloc; rfl; intro _) | (apply wO; apply o_st; rfl; rfl; rfl; (first | exact AggC.s | exact OneC.s); rfl; exact rplE; exact putE; rfl) | (apply wO; apply o_bs0; rfl; intro _) | (apply wO; apply o_bs; rfl; rfl; rfl; rfl; exact rptE; exact filE; intro _) | (apply wO; apply o_call; rfl; kernel_rfl; exact evsE))
  refine cb (fun w st => (l10Good_f x _ F).val w (hol1 (st.get (p := .isv EReceiveWindow (.agg #[.int .i64 x.next, .slice a1 x.slots.length c1]) x F) (by simp)))) ?_
  repeat (first | apply c_seq | apply c_reg | (apply wO; apply oc; rfl; exact ydE) | apply w_nil | apply n_cd | (apply wg_t; rfl; rfl) | (apply wg_f; rfl; rfl; rfl; rfl) | (apply wg_u; rfl; rfl; rfl) | (apply c_t; rfl) | (apply c_f; rfl) | apply c_skip | apply c_block | apply n_blk | apply c_exit | apply e_hit | apply e_cd | apply e_lp | (apply e_miss; rfl) | apply c_ret | (apply wO; apply o_box; rfl; rfl; rfl; intro _) | (apply wO; apply o_alloc; rfl; intro _) | (apply wO; apply o_st; rfl; rfl; rfl; (first | exact AggC.s | exact OneC.s); rfl; exact rplE; exact putE; rfl) | (apply wO; apply o_bs0; rfl; intro _) | (apply wO; apply o_bs; rfl; rfl; rfl; rfl; exact rptE; exact filE; intro _) | (apply wO; apply o_call; rfl; kernel_rfl; exact evsE))
  refine ret () trivial rfl
theorem law_missing (x : ReceiveWindow) (n : Int) : (resMissing x n).1.length ≤ 8 ∧ ∀ k ∈ (resMissing x n).1, resHave x k = (false, true) := by
  unfold resMissing
  split
  · rename_i h
    simp only [Bool.and_eq_true, Bool.not_eq_true', decide_eq_false_iff_not] at h
    obtain ⟨⟨h1, h2⟩, h3⟩ := h
    have g := good_of h1
    have p0 := g.n0
    have p1 := g.n1
    have hgb := gp_bd x.next n
    have hl := missL_len x (gp x.next n).toNat
    dsimp only
    refine ⟨by omega, fun k hk => ?_⟩
    unfold missL at hk
    obtain ⟨hk1, hk2⟩ := List.mem_filter.1 hk
    have hb : hasB x k = false := by simpa using hk2
    have hs := mem_spanL hk1
    unfold spanL at hk1
    obtain ⟨i, hi, rfl⟩ := List.mem_map.1 hk1
    have hi2 := List.mem_range.1 hi
    have hbf : bef (aft x.next (i : Nat)) x.next = false := by
      unfold bef btw gp aft
      rw [Bool.and_eq_false_iff]
      by_cases h0 : i = 0
      · left; simp only [decide_eq_false_iff_not]; omega
      · right; simp only [decide_eq_false_iff_not]; omega
    rw [resHave_yes (by rw [h1, isSer_iff.2 hs]; rfl)]
    unfold takeNo
    rw [hbf, hb]; rfl
  · exact ⟨by simp, by simp⟩
set_option maxRecDepth 100000 in
theorem receiveWindow_f (v : Value) (code : List Int) (G FT : List Nat) : Fn Tryz.prog 3 [v] [.sl EByte v code G, EnvP FT] [] (fun (_ : Unit) => True) (fun _ => .bool true) (fun _ => []) := by
  refine enter Tryz.func3 rfl Tryz.ntmps3 fun w0 => ?_
  repeat (first | apply c_seq | apply c_reg | (apply wO; apply oc; rfl; exact ydE) | apply w_nil | apply n_cd | (apply wg_t; rfl; rfl) | (apply wg_f; rfl; rfl; rfl; rfl) | (apply wg_u; rfl; rfl; rfl) | (apply c_t; rfl) | (apply c_f; rfl) | apply c_skip | apply c_block | apply n_blk | apply c_exit | apply e_hit | apply e_cd | apply e_lp | (apply e_miss; rfl) | apply c_ret | (apply wO; apply o_box; rfl; rfl; rfl; intro _) | (apply wO; apply o_alloc; rfl; intro _) | (apply wO; apply o_st; rfl; rfl; rfl; (first | exact AggC.s | exact OneC.s); rfl; exact rplE; exact putE; rfl) | (apply wO; apply o_bs0; rfl; intro _) | (apply wO; apply o_bs; rfl; rfl; rfl; rfl; exact rptE; exact filE; intro _) | (apply wO; apply o_call; rfl; kernel_rfl; exact evsE))
  refine cb (fun w st => (vBig_f v code G).val w (hol1 (st.get (p := .sl EByte v code G) (by simp)))) ?_
  repeat (first | apply c_seq | apply c_reg | (apply wO; apply oc; rfl; exact ydE) | apply w_nil | apply n_cd | (apply wg_t; rfl; rfl) | (apply wg_f; rfl; rfl; rfl; rfl) | (apply wg_u; rfl; rfl; rfl) | (apply c_t; rfl) | (apply c_f; rfl) | apply c_skip | apply c_block | apply n_blk | apply c_exit | apply e_hit | apply e_cd | apply e_lp | (apply e_miss; rfl) | apply c_ret | (apply wO; apply o_box; rfl; rfl; rfl; intro _) | (apply wO; apply o_alloc; rfl; intro _) | (apply wO; apply o_st; rfl; rfl; rfl; (first | exact AggC.s | exact OneC.s); rfl; exact rplE; exact putE; rfl) | (apply wO; apply o_bs0; rfl; intro _) | (apply wO; apply o_bs; rfl; rfl; rfl; rfl; exact rptE; exact filE; intro _) | (apply wO; apply o_call; rfl; kernel_rfl; exact evsE))
  refine c_if rfl (fun h => ?_) (fun h => ?_)
  · repeat (first | apply c_seq | apply c_reg | (apply wO; apply oc; rfl; exact ydE) | apply w_nil | apply n_cd | (apply wg_t; rfl; rfl) | (apply wg_f; rfl; rfl; rfl; rfl) | (apply wg_u; rfl; rfl; rfl) | (apply c_t; rfl) | (apply c_f; rfl) | apply c_skip | apply c_block | apply n_blk | apply c_exit | apply e_hit | apply e_cd | apply e_lp | (apply e_miss; rfl) | apply c_ret | (apply wO; apply o_box; rfl; rfl; rfl; intro _) | (apply wO; apply o_alloc; rfl; intro _) | (apply wO; apply o_st; rfl; rfl; rfl; (first | exact AggC.s | exact OneC.s); rfl; exact rplE; exact putE; rfl) | (apply wO; apply o_bs0; rfl; intro _) | (apply wO; apply o_bs; rfl; rfl; rfl; rfl; exact rptE; exact filE; intro _) | (apply wO; apply o_call; rfl; kernel_rfl; exact evsE))
    refine ret () trivial rfl
  repeat (first | apply c_seq | apply c_reg | (apply wO; apply oc; rfl; exact ydE) | apply w_nil | apply n_cd | (apply wg_t; rfl; rfl) | (apply wg_f; rfl; rfl; rfl; rfl) | (apply wg_u; rfl; rfl; rfl) | (apply c_t; rfl) | (apply c_f; rfl) | apply c_skip | apply c_block | apply n_blk | apply c_exit | apply e_hit | apply e_cd | apply e_lp | (apply e_miss; rfl) | apply c_ret | (apply wO; apply o_box; rfl; rfl; rfl; intro _) | (apply wO; apply o_alloc; rfl; intro _) | (apply wO; apply o_st; rfl; rfl; rfl; (first | exact AggC.s | exact OneC.s); rfl; exact rplE; exact putE; rfl) | (apply wO; apply o_bs0; rfl; intro _) | (apply wO; apply o_bs; rfl; rfl; rfl; rfl; exact rptE; exact filE; intro _) | (apply wO; apply o_call; rfl; kernel_rfl; exact evsE))
  refine cf (DrawTakeItem_f v code G) fun z hz => ?_
  refine t_app ?_
  repeat (first | apply c_seq | apply c_reg | (apply wO; apply oc; rfl; exact ydE) | apply w_nil | apply n_cd | (apply wg_t; rfl; rfl) | (apply wg_f; rfl; rfl; rfl; rfl) | (apply wg_u; rfl; rfl; rfl) | (apply c_t; rfl) | (apply c_f; rfl) | apply c_skip | apply c_block | apply n_blk | apply c_exit | apply e_hit | apply e_cd | apply e_lp | (apply e_miss; rfl) | apply c_ret | (apply wO; apply o_box; rfl; rfl; rfl; intro _) | (apply wO; apply o_alloc; rfl; intro _) | (apply wO; apply o_st; rfl; rfl; rfl; (first | exact AggC.s | exact OneC.s); rfl; exact rplE; exact putE; rfl) | (apply wO; apply o_bs0; rfl; intro _) | (apply wO; apply o_bs; rfl; rfl; rfl; rfl; exact rptE; exact filE; intro _) | (apply wO; apply o_call; rfl; kernel_rfl; exact evsE))
  have hr := law_take z.y z.n z.t
  have hP := TakeItem_f z.y z.n z.t (.agg #[.int .i64 z.y.next, .slice z.a z.y.slots.length z.c]) z.F hz
  have hQ := specTakeItem_f z.y z.n z.t (.agg #[.int .i64 z.y.next, .slice z.a z.y.slots.length z.c]) z.F hz
  obtain ⟨W, es, b, e⟩ : ∃ W es b, resTakeItem z.y z.n z.t = (W, es, b) := ⟨_, _, _, rfl⟩
  rw [e] at hr hP hQ
  dsimp only at hr hP hQ
  refine cf hP fun p hp => ?_
  refine t_app ?_
  obtain ⟨es1, y1, a1, c1, F1, ae1, ce1, Fe1⟩ := p
  dsimp only at hp ⊢
  obtain ⟨rfl, rfl⟩ := hp
  repeat (first | apply c_seq | apply c_reg | (apply wO; apply oc; rfl; exact ydE) | apply w_nil | apply n_cd | (apply wg_t; rfl; rfl) | (apply wg_f; rfl; rfl; rfl; rfl) | (apply wg_u; rfl; rfl; rfl) | (apply c_t; rfl) | (apply c_f; rfl) | apply c_skip | apply c_block | apply n_blk | apply c_exit | apply e_hit | apply e_cd | apply e_lp | (apply e_miss; rfl) | apply c_ret | (apply wO; apply o_box; rfl; rfl; rfl; intro _) | (apply wO; apply o_alloc; rfl; intro _) | (apply wO; apply o_st; rfl; rfl; rfl; (first | exact AggC.s | exact OneC.s); rfl; exact rplE; exact putE; rfl) | (apply wO; apply o_bs0; rfl; intro _) | (apply wO; apply o_bs; rfl; rfl; rfl; rfl; exact rptE; exact filE; intro _) | (apply wO; apply o_call; rfl; kernel_rfl; exact evsE))
  refine cf hQ fun q hq => ?_
  refine t_app ?_
  obtain ⟨es2, y2, a2, c2, F2, ae2, ce2, Fe2⟩ := q
  dsimp only at hq ⊢
  obtain ⟨rfl, rfl⟩ := hq
  refine openOReceiveWindow (x := y2) ?_
  rintro a5 c5 F5 e5 l5
  cases e5
  refine t_read (E := ESlot) (xs := y2.slots) fun F6 => ?_
  refine closeReceiveWindow y2 (a1 := a1) ?_
  refine t_read (E := EStr) (xs := es2) fun F7 => ?_
  refine t_read (E := EStr) (xs := es2) fun F8 => ?_
  repeat (first | apply c_seq | apply c_reg | (apply wO; apply oc; rfl; exact ydE) | apply w_nil | apply n_cd | (apply wg_t; rfl; rfl) | (apply wg_f; rfl; rfl; rfl; rfl) | (apply wg_u; rfl; rfl; rfl) | (apply c_t; rfl) | (apply c_f; rfl) | apply c_skip | apply c_block | apply n_blk | apply c_exit | apply e_hit | apply e_cd | apply e_lp | (apply e_miss; rfl) | apply c_ret | (apply wO; apply o_box; rfl; rfl; rfl; intro _) | (apply wO; apply o_alloc; rfl; intro _) | (apply wO; apply o_st; rfl; rfl; rfl; (first | exact AggC.s | exact OneC.s); rfl; exact rplE; exact putE; rfl) | (apply wO; apply o_bs0; rfl; intro _) | (apply wO; apply o_bs; rfl; rfl; rfl; rfl; exact rptE; exact filE; intro _) | (apply wO; apply o_call; rfl; kernel_rfl; exact evsE))
  refine d_start [0, 6, 7] [] ?_
  refine dt 0 ?_
  refine dt 1 ?_
  refine dt 2 ?_
  rw [show decide (¬ b = b) = false by simp]
  refine dt 3 ?_
  refine dtg 4 ?_
  refine dtg 5 ?_
  refine d1g 6 ?_
  apply On.h
  apply o_call; rfl; kernel_rfl; exact evsE
  refine cf (vSlots_f _ _ y2 _ _) fun _ _ => ?_
  refine t_app ?_
  refine dk ?_
  refine dtg 7 ?_
  refine dt 8 ?_
  refine dt 9 ?_
  refine dtg 10 ?_
  refine dtg 11 ?_
  refine d1g 12 ?_
  apply On.h
  apply o_call; rfl; kernel_rfl; exact evsE
  refine cf (vTexts_f _ _ es2 _ _) fun _ _ => ?_
  refine t_app ?_
  refine dk ?_
  refine dtg 13 ?_
  refine dt 14 ?_
  refine dt 15 ?_
  refine dtg 16 ?_
  refine dtg 18 ?_
  refine d1g 17 ?_
  apply On.h
  apply o_call; rfl; kernel_rfl; exact evsE
  refine cb (fun w st => (RWgood_f z.y _ z.F).val w (hol1 (st.get (p := .isv EReceiveWindow (.agg #[.int .i64 z.y.next, .slice z.a z.y.slots.length z.c]) z.y z.F) (by simp)))) ?_
  refine dk ?_
  refine d1g 19 ?_
  apply On.h
  apply o_call; rfl; kernel_rfl; exact evsE
  refine cb (fun w st => (specValidRW_f z.y _ z.F).val w (hol1 (st.get (p := .isv EReceiveWindow (.agg #[.int .i64 z.y.next, .slice z.a z.y.slots.length z.c]) z.y z.F) (by simp)))) ?_
  refine dk ?_
  refine dtg 20 ?_
  refine dt 21 ?_
  refine dd ?_
  repeat (first | apply c_seq | apply c_reg | (apply wO; apply oc; rfl; exact ydE) | apply w_nil | apply n_cd | (apply wg_t; rfl; rfl) | (apply wg_f; rfl; rfl; rfl; rfl) | (apply wg_u; rfl; rfl; rfl) | (apply c_t; rfl) | (apply c_f; rfl) | apply c_skip | apply c_block | apply n_blk | apply c_exit | apply e_hit | apply e_cd | apply e_lp | (apply e_miss; rfl) | apply c_ret | (apply wO; apply o_box; rfl; rfl; rfl; intro _) | (apply wO; apply o_alloc; rfl; intro _) | (apply wO; apply o_st; rfl; rfl; rfl; (first | exact AggC.s | exact OneC.s); rfl; exact rplE; exact putE; rfl) | (apply wO; apply o_bs0; rfl; intro _) | (apply wO; apply o_bs; rfl; rfl; rfl; rfl; exact rptE; exact filE; intro _) | (apply wO; apply o_call; rfl; kernel_rfl; exact evsE))
  refine c_if rfl (fun h6 => ?_) (fun h6 => ?_)
  · exact absurd rfl h6
  repeat (first | apply c_seq | apply c_reg | (apply wO; apply oc; rfl; exact ydE) | apply w_nil | apply n_cd | (apply wg_t; rfl; rfl) | (apply wg_f; rfl; rfl; rfl; rfl) | (apply wg_u; rfl; rfl; rfl) | (apply c_t; rfl) | (apply c_f; rfl) | apply c_skip | apply c_block | apply n_blk | apply c_exit | apply e_hit | apply e_cd | apply e_lp | (apply e_miss; rfl) | apply c_ret | (apply wO; apply o_box; rfl; rfl; rfl; intro _) | (apply wO; apply o_alloc; rfl; intro _) | (apply wO; apply o_st; rfl; rfl; rfl; (first | exact AggC.s | exact OneC.s); rfl; exact rplE; exact putE; rfl) | (apply wO; apply o_bs0; rfl; intro _) | (apply wO; apply o_bs; rfl; rfl; rfl; rfl; exact rptE; exact filE; intro _) | (apply wO; apply o_call; rfl; kernel_rfl; exact evsE))
  refine c_joinS [0] [] (fun _ : Unit => []) (fun _ => [.sl EByte v code G, EnvP FT]) (fun _ => True) ?_ fun _ _ => ?_
  · cases b
    · repeat (first | apply c_seq | apply c_reg | (apply wO; apply oc; rfl; exact ydE) | apply w_nil | apply n_cd | (apply wg_t; rfl; rfl) | (apply wg_f; rfl; rfl; rfl; rfl) | (apply wg_u; rfl; rfl; rfl) | (apply c_t; rfl) | (apply c_f; rfl) | apply c_skip | apply c_block | apply n_blk | apply c_exit | apply e_hit | apply e_cd | apply e_lp | (apply e_miss; rfl) | apply c_ret | (apply wO; apply o_box; rfl; rfl; rfl; intro _) | (apply wO; apply o_alloc; rfl; intro _) | (apply wO; apply o_st; rfl; rfl; rfl; (first | exact AggC.s | exact OneC.s); rfl; exact rplE; exact putE; rfl) | (apply wO; apply o_bs0; rfl; intro _) | (apply wO; apply o_bs; rfl; rfl; rfl; rfl; exact rptE; exact filE; intro _) | (apply wO; apply o_call; rfl; kernel_rfl; exact evsE))
      refine n_join () trivial
    · obtain ⟨g1, g2, g3, g4, g5, g6, g7, g8⟩ := hr rfl
      have k1 := good_of g1
      have k3 := good_of g3
      have e1 : resGap z.y.next y2.next = (((es2.length : Nat) : Int), true) := by unfold resGap; rw [isSer_iff.2 ⟨k1.n0, k1.n1⟩, isSer_iff.2 ⟨k3.n0, k3.n1⟩, g4]; rfl
      have e2 : resHave y2 z.n = (true, true) := by rw [resHave_yes (by rw [g3, g2]; rfl), g5]
      have e3 : resTakeItem y2 z.n ⟨#[122, 122]⟩ = (y2, [], true) := by
        have o1 : takeOk y2 z.n = true := by unfold takeOk; rw [g5]; rfl
        have o2 : itm ⟨#[122, 122]⟩ = true := by decide
        unfold resTakeItem okTakeItem takeW takeE
        rw [g3, g2, o1, o2, g5]; rfl
      have hG := SerialGap_f z.y.next y2.next
      have hH := HaveItem_f y2 z.n (.agg #[.int .i64 y2.next, .slice a1 y2.slots.length c1]) F6
      have hA := TakeItem_f y2 z.n ⟨#[122, 122]⟩ (.agg #[.int .i64 y2.next, .slice a1 y2.slots.length c1]) F6 (by decide)
      have hV := RWgood_f y2 (.agg #[.int .i64 y2.next, .slice a1 y2.slots.length c1]) F6
      rw [e1] at hG
      rw [e2] at hH
      rw [e3] at hA
      rw [g3] at hV
      dsimp only at hG hH hA
      repeat (first | apply c_seq | apply c_reg | (apply wO; apply oc; rfl; exact ydE) | apply w_nil | apply n_cd | (apply wg_t; rfl; rfl) | (apply wg_f; rfl; rfl; rfl; rfl) | (apply wg_u; rfl; rfl; rfl) | (apply c_t; rfl) | (apply c_f; rfl) | apply c_skip | apply c_block | apply n_blk | apply c_exit | apply e_hit | apply e_cd | apply e_lp | (apply e_miss; rfl) | apply c_ret | (apply wO; apply o_box; rfl; rfl; rfl; intro _) | (apply wO; apply o_alloc; rfl; intro _) | (apply wO; apply o_st; rfl; rfl; rfl; (first | exact AggC.s | exact OneC.s); rfl; exact rplE; exact putE; rfl) | (apply wO; apply o_bs0; rfl; intro _) | (apply wO; apply o_bs; rfl; rfl; rfl; rfl; exact rptE; exact filE; intro _) | (apply wO; apply o_call; rfl; kernel_rfl; exact evsE))
      refine cf hH fun _ _ => ?_
      refine t_app ?_
      repeat (first | apply c_seq | apply c_reg | (apply wO; apply oc; rfl; exact ydE) | apply w_nil | apply n_cd | (apply wg_t; rfl; rfl) | (apply wg_f; rfl; rfl; rfl; rfl) | (apply wg_u; rfl; rfl; rfl) | (apply c_t; rfl) | (apply c_f; rfl) | apply c_skip | apply c_block | apply n_blk | apply c_exit | apply e_hit | apply e_cd | apply e_lp | (apply e_miss; rfl) | apply c_ret | (apply wO; apply o_box; rfl; rfl; rfl; intro _) | (apply wO; apply o_alloc; rfl; intro _) | (apply wO; apply o_st; rfl; rfl; rfl; (first | exact AggC.s | exact OneC.s); rfl; exact rplE; exact putE; rfl) | (apply wO; apply o_bs0; rfl; intro _) | (apply wO; apply o_bs; rfl; rfl; rfl; rfl; exact rptE; exact filE; intro _) | (apply wO; apply o_call; rfl; kernel_rfl; exact evsE))
      refine cf hG fun _ _ => ?_
      refine t_app ?_
      repeat (first | apply c_seq | apply c_reg | (apply wO; apply oc; rfl; exact ydE) | apply w_nil | apply n_cd | (apply wg_t; rfl; rfl) | (apply wg_f; rfl; rfl; rfl; rfl) | (apply wg_u; rfl; rfl; rfl) | (apply c_t; rfl) | (apply c_f; rfl) | apply c_skip | apply c_block | apply n_blk | apply c_exit | apply e_hit | apply e_cd | apply e_lp | (apply e_miss; rfl) | apply c_ret | (apply wO; apply o_box; rfl; rfl; rfl; intro _) | (apply wO; apply o_alloc; rfl; intro _) | (apply wO; apply o_st; rfl; rfl; rfl; (first | exact AggC.s | exact OneC.s); rfl; exact rplE; exact putE; rfl) | (apply wO; apply o_bs0; rfl; intro _) | (apply wO; apply o_bs; rfl; rfl; rfl; rfl; exact rptE; exact filE; intro _) | (apply wO; apply o_call; rfl; kernel_rfl; exact evsE))
      refine cf hA fun p hp => ?_
      refine t_app ?_
      obtain ⟨es3, y3, a3, c3, F3, ae3, ce3, Fe3⟩ := p
      dsimp only at hp ⊢
      obtain ⟨rfl, rfl⟩ := hp
      refine openOReceiveWindow (x := y3) (F := F3) ?_
      rintro a6 c6 F16 e6 l6
      cases e6
      refine t_read (E := ESlot) (xs := y3.slots) fun F17 => ?_
      refine closeReceiveWindow y3 (a1 := a3) ?_
      repeat (first | apply c_seq | apply c_reg | (apply wO; apply oc; rfl; exact ydE) | apply w_nil | apply n_cd | (apply wg_t; rfl; rfl) | (apply wg_f; rfl; rfl; rfl; rfl) | (apply wg_u; rfl; rfl; rfl) | (apply c_t; rfl) | (apply c_f; rfl) | apply c_skip | apply c_block | apply n_blk | apply c_exit | apply e_hit | apply e_cd | apply e_lp | (apply e_miss; rfl) | apply c_ret | (apply wO; apply o_box; rfl; rfl; rfl; intro _) | (apply wO; apply o_alloc; rfl; intro _) | (apply wO; apply o_st; rfl; rfl; rfl; (first | exact AggC.s | exact OneC.s); rfl; exact rplE; exact putE; rfl) | (apply wO; apply o_bs0; rfl; intro _) | (apply wO; apply o_bs; rfl; rfl; rfl; rfl; exact rptE; exact filE; intro _) | (apply wO; apply o_call; rfl; kernel_rfl; exact evsE))
      refine wg_if rfl rfl (fun h3 => ?_) (fun h3 => ?_)
      · exact absurd rfl h3
      repeat (first | apply c_seq | apply c_reg | (apply wO; apply oc; rfl; exact ydE) | apply w_nil | apply n_cd | (apply wg_t; rfl; rfl) | (apply wg_f; rfl; rfl; rfl; rfl) | (apply wg_u; rfl; rfl; rfl) | (apply c_t; rfl) | (apply c_f; rfl) | apply c_skip | apply c_block | apply n_blk | apply c_exit | apply e_hit | apply e_cd | apply e_lp | (apply e_miss; rfl) | apply c_ret | (apply wO; apply o_box; rfl; rfl; rfl; intro _) | (apply wO; apply o_alloc; rfl; intro _) | (apply wO; apply o_st; rfl; rfl; rfl; (first | exact AggC.s | exact OneC.s); rfl; exact rplE; exact putE; rfl) | (apply wO; apply o_bs0; rfl; intro _) | (apply wO; apply o_bs; rfl; rfl; rfl; rfl; exact rptE; exact filE; intro _) | (apply wO; apply o_call; rfl; kernel_rfl; exact evsE))
      refine cf (vSlots_f _ _ y3 _ _) fun _ _ => ?_
      refine t_app ?_
      repeat (first | apply c_seq | apply c_reg | (apply wO; apply oc; rfl; exact ydE) | apply w_nil | apply n_cd | (apply wg_t; rfl; rfl) | (apply wg_f; rfl; rfl; rfl; rfl) | (apply wg_u; rfl; rfl; rfl) | (apply c_t; rfl) | (apply c_f; rfl) | apply c_skip | apply c_block | apply n_blk | apply c_exit | apply e_hit | apply e_cd | apply e_lp | (apply e_miss; rfl) | apply c_ret | (apply wO; apply o_box; rfl; rfl; rfl; intro _) | (apply wO; apply o_alloc; rfl; intro _) | (apply wO; apply o_st; rfl; rfl; rfl; (first | exact AggC.s | exact OneC.s); rfl; exact rplE; exact putE; rfl) | (apply wO; apply o_bs0; rfl; intro _) | (apply wO; apply o_bs; rfl; rfl; rfl; rfl; exact rptE; exact filE; intro _) | (apply wO; apply o_call; rfl; kernel_rfl; exact evsE))
      refine cf hV fun _ _ => ?_
      refine t_app ?_
      repeat (first | apply c_seq | apply c_reg | (apply wO; apply oc; rfl; exact ydE) | apply w_nil | apply n_cd | (apply wg_t; rfl; rfl) | (apply wg_f; rfl; rfl; rfl; rfl) | (apply wg_u; rfl; rfl; rfl) | (apply c_t; rfl) | (apply c_f; rfl) | apply c_skip | apply c_block | apply n_blk | apply c_exit | apply e_hit | apply e_cd | apply e_lp | (apply e_miss; rfl) | apply c_ret | (apply wO; apply o_box; rfl; rfl; rfl; intro _) | (apply wO; apply o_alloc; rfl; intro _) | (apply wO; apply o_st; rfl; rfl; rfl; (first | exact AggC.s | exact OneC.s); rfl; exact rplE; exact putE; rfl) | (apply wO; apply o_bs0; rfl; intro _) | (apply wO; apply o_bs; rfl; rfl; rfl; rfl; exact rptE; exact filE; intro _) | (apply wO; apply o_call; rfl; kernel_rfl; exact evsE))
      by_cases hn : z.n = z.y.next
      · rw [decide_eq_true hn]
        obtain ⟨r, rfl⟩ := g6 hn
        repeat (first | apply c_seq | apply c_reg | (apply wO; apply oc; rfl; exact ydE) | apply w_nil | apply n_cd | (apply wg_t; rfl; rfl) | (apply wg_f; rfl; rfl; rfl; rfl) | (apply wg_u; rfl; rfl; rfl) | (apply c_t; rfl) | (apply c_f; rfl) | apply c_skip | apply c_block | apply n_blk | apply c_exit | apply e_hit | apply e_cd | apply e_lp | (apply e_miss; rfl) | apply c_ret | (apply wO; apply o_box; rfl; rfl; rfl; intro _) | (apply wO; apply o_alloc; rfl; intro _) | (apply wO; apply o_st; rfl; rfl; rfl; (first | exact AggC.s | exact OneC.s); rfl; exact rplE; exact putE; rfl) | (apply wO; apply o_bs0; rfl; intro _) | (apply wO; apply o_bs; rfl; rfl; rfl; rfl; exact rptE; exact filE; intro _) | (apply wO; apply o_call; rfl; kernel_rfl; exact evsE))
        have z43 : (⟨#[43]⟩ : ByteArray).size = 1 := rfl
        refine at_str (a := ae1) (xs := plus z.t :: r) 0 ?_ (hi := by simp)
        rintro hi2 bb oo ee ss
        rw [ee]
        repeat (first | apply c_seq | apply c_reg | (apply wO; apply oc; rfl; exact ydE) | apply w_nil | apply n_cd | (apply wg_t; rfl; rfl) | (apply wg_f; rfl; rfl; rfl; rfl) | (apply wg_u; rfl; rfl; rfl) | (apply c_t; rfl) | (apply c_f; rfl) | apply c_skip | apply c_block | apply n_blk | apply c_exit | apply e_hit | apply e_cd | apply e_lp | (apply e_miss; rfl) | apply c_ret | (apply wO; apply o_box; rfl; rfl; rfl; intro _) | (apply wO; apply o_alloc; rfl; intro _) | (apply wO; apply o_st; rfl; rfl; rfl; (first | exact AggC.s | exact OneC.s); rfl; exact rplE; exact putE; rfl) | (apply wO; apply o_bs0; rfl; intro _) | (apply wO; apply o_bs; rfl; rfl; rfl; rfl; exact rptE; exact filE; intro _) | (apply wO; apply o_call; rfl; kernel_rfl; exact evsE))
        refine c_if rfl (fun h8 => ?_) (fun h8 => ?_)
        · exact absurd rfl h8
        repeat (first | apply c_seq | apply c_reg | (apply wO; apply oc; rfl; exact ydE) | apply w_nil | apply n_cd | (apply wg_t; rfl; rfl) | (apply wg_f; rfl; rfl; rfl; rfl) | (apply wg_u; rfl; rfl; rfl) | (apply c_t; rfl) | (apply c_f; rfl) | apply c_skip | apply c_block | apply n_blk | apply c_exit | apply e_hit | apply e_cd | apply e_lp | (apply e_miss; rfl) | apply c_ret | (apply wO; apply o_box; rfl; rfl; rfl; intro _) | (apply wO; apply o_alloc; rfl; intro _) | (apply wO; apply o_st; rfl; rfl; rfl; (first | exact AggC.s | exact OneC.s); rfl; exact rplE; exact putE; rfl) | (apply wO; apply o_bs0; rfl; intro _) | (apply wO; apply o_bs; rfl; rfl; rfl; rfl; exact rptE; exact filE; intro _) | (apply wO; apply o_call; rfl; kernel_rfl; exact evsE))
        refine n_join () trivial
      · rw [decide_eq_false hn]
        repeat (first | apply c_seq | apply c_reg | (apply wO; apply oc; rfl; exact ydE) | apply w_nil | apply n_cd | (apply wg_t; rfl; rfl) | (apply wg_f; rfl; rfl; rfl; rfl) | (apply wg_u; rfl; rfl; rfl) | (apply c_t; rfl) | (apply c_f; rfl) | apply c_skip | apply c_block | apply n_blk | apply c_exit | apply e_hit | apply e_cd | apply e_lp | (apply e_miss; rfl) | apply c_ret | (apply wO; apply o_box; rfl; rfl; rfl; intro _) | (apply wO; apply o_alloc; rfl; intro _) | (apply wO; apply o_st; rfl; rfl; rfl; (first | exact AggC.s | exact OneC.s); rfl; exact rplE; exact putE; rfl) | (apply wO; apply o_bs0; rfl; intro _) | (apply wO; apply o_bs; rfl; rfl; rfl; rfl; exact rptE; exact filE; intro _) | (apply wO; apply o_call; rfl; kernel_rfl; exact evsE))
        refine n_join () trivial
  · repeat (first | apply c_seq | apply c_reg | (apply wO; apply oc; rfl; exact ydE) | apply w_nil | apply n_cd | (apply wg_t; rfl; rfl) | (apply wg_f; rfl; rfl; rfl; rfl) | (apply wg_u; rfl; rfl; rfl) | (apply c_t; rfl) | (apply c_f; rfl) | apply c_skip | apply c_block | apply n_blk | apply c_exit | apply e_hit | apply e_cd | apply e_lp | (apply e_miss; rfl) | apply c_ret | (apply wO; apply o_box; rfl; rfl; rfl; intro _) | (apply wO; apply o_alloc; rfl; intro _) | (apply wO; apply o_st; rfl; rfl; rfl; (first | exact AggC.s | exact OneC.s); rfl; exact rplE; exact putE; rfl) | (apply wO; apply o_bs0; rfl; intro _) | (apply wO; apply o_bs; rfl; rfl; rfl; rfl; exact rptE; exact filE; intro _) | (apply wO; apply o_call; rfl; kernel_rfl; exact evsE))
    refine cf (missing_f v code G) fun x _ => ?_
    refine t_app ?_
    have hP := MissingSerials_f x.y x.n (.agg #[.int .i64 x.y.next, .slice x.a x.y.slots.length x.c]) x.F
    have hQ := specMissingSerials_f x.y x.n (.agg #[.int .i64 x.y.next, .slice x.a x.y.slots.length x.c]) x.F
    have hm := law_missing x.y x.n
    obtain ⟨L, b, e⟩ : ∃ L b, resMissing x.y x.n = (L, b) := ⟨_, _, rfl⟩
    rw [e] at hP hQ hm
    dsimp only at hP hQ hm
    repeat (first | apply c_seq | apply c_reg | (apply wO; apply oc; rfl; exact ydE) | apply w_nil | apply n_cd | (apply wg_t; rfl; rfl) | (apply wg_f; rfl; rfl; rfl; rfl) | (apply wg_u; rfl; rfl; rfl) | (apply c_t; rfl) | (apply c_f; rfl) | apply c_skip | apply c_block | apply n_blk | apply c_exit | apply e_hit | apply e_cd | apply e_lp | (apply e_miss; rfl) | apply c_ret | (apply wO; apply o_box; rfl; rfl; rfl; intro _) | (apply wO; apply o_alloc; rfl; intro _) | (apply wO; apply o_st; rfl; rfl; rfl; (first | exact AggC.s | exact OneC.s); rfl; exact rplE; exact putE; rfl) | (apply wO; apply o_bs0; rfl; intro _) | (apply wO; apply o_bs; rfl; rfl; rfl; rfl; exact rptE; exact filE; intro _) | (apply wO; apply o_call; rfl; kernel_rfl; exact evsE))
    refine cf hP fun p _ => ?_
    refine t_app ?_
    obtain ⟨pa, pc, pF⟩ := p
    dsimp only
    repeat (first | apply c_seq | apply c_reg | (apply wO; apply oc; rfl; exact ydE) | apply w_nil | apply n_cd | (apply wg_t; rfl; rfl) | (apply wg_f; rfl; rfl; rfl; rfl) | (apply wg_u; rfl; rfl; rfl) | (apply c_t; rfl) | (apply c_f; rfl) | apply c_skip | apply c_block | apply n_blk | apply c_exit | apply e_hit | apply e_cd | apply e_lp | (apply e_miss; rfl) | apply c_ret | (apply wO; apply o_box; rfl; rfl; rfl; intro _) | (apply wO; apply o_alloc; rfl; intro _) | (apply wO; apply o_st; rfl; rfl; rfl; (first | exact AggC.s | exact OneC.s); rfl; exact rplE; exact putE; rfl) | (apply wO; apply o_bs0; rfl; intro _) | (apply wO; apply o_bs; rfl; rfl; rfl; rfl; exact rptE; exact filE; intro _) | (apply wO; apply o_call; rfl; kernel_rfl; exact evsE))
    refine cf hQ fun q _ => ?_
    refine t_app ?_
    obtain ⟨qa, qc, qF⟩ := q
    dsimp only
    refine t_read (E := EInt) (xs := L) fun F7 => ?_
    refine t_read (E := EInt) (xs := L) fun F8 => ?_
    repeat (first | apply c_seq | apply c_reg | (apply wO; apply oc; rfl; exact ydE) | apply w_nil | apply n_cd | (apply wg_t; rfl; rfl) | (apply wg_f; rfl; rfl; rfl; rfl) | (apply wg_u; rfl; rfl; rfl) | (apply c_t; rfl) | (apply c_f; rfl) | apply c_skip | apply c_block | apply n_blk | apply c_exit | apply e_hit | apply e_cd | apply e_lp | (apply e_miss; rfl) | apply c_ret | (apply wO; apply o_box; rfl; rfl; rfl; intro _) | (apply wO; apply o_alloc; rfl; intro _) | (apply wO; apply o_st; rfl; rfl; rfl; (first | exact AggC.s | exact OneC.s); rfl; exact rplE; exact putE; rfl) | (apply wO; apply o_bs0; rfl; intro _) | (apply wO; apply o_bs; rfl; rfl; rfl; rfl; exact rptE; exact filE; intro _) | (apply wO; apply o_call; rfl; kernel_rfl; exact evsE))
    refine wg_if rfl rfl (fun h1 => ?_) (fun h1 => ?_)
    · exact absurd rfl h1
    repeat (first | apply c_seq | apply c_reg | (apply wO; apply oc; rfl; exact ydE) | apply w_nil | apply n_cd | (apply wg_t; rfl; rfl) | (apply wg_f; rfl; rfl; rfl; rfl) | (apply wg_u; rfl; rfl; rfl) | (apply c_t; rfl) | (apply c_f; rfl) | apply c_skip | apply c_block | apply n_blk | apply c_exit | apply e_hit | apply e_cd | apply e_lp | (apply e_miss; rfl) | apply c_ret | (apply wO; apply o_box; rfl; rfl; rfl; intro _) | (apply wO; apply o_alloc; rfl; intro _) | (apply wO; apply o_st; rfl; rfl; rfl; (first | exact AggC.s | exact OneC.s); rfl; exact rplE; exact putE; rfl) | (apply wO; apply o_bs0; rfl; intro _) | (apply wO; apply o_bs; rfl; rfl; rfl; rfl; exact rptE; exact filE; intro _) | (apply wO; apply o_call; rfl; kernel_rfl; exact evsE))
    refine cf (vInts_f _ _ L _ _) fun _ _ => ?_
    refine t_app ?_
    repeat (first | apply c_seq | apply c_reg | (apply wO; apply oc; rfl; exact ydE) | apply w_nil | apply n_cd | (apply wg_t; rfl; rfl) | (apply wg_f; rfl; rfl; rfl; rfl) | (apply wg_u; rfl; rfl; rfl) | (apply c_t; rfl) | (apply c_f; rfl) | apply c_skip | apply c_block | apply n_blk | apply c_exit | apply e_hit | apply e_cd | apply e_lp | (apply e_miss; rfl) | apply c_ret | (apply wO; apply o_box; rfl; rfl; rfl; intro _) | (apply wO; apply o_alloc; rfl; intro _) | (apply wO; apply o_st; rfl; rfl; rfl; (first | exact AggC.s | exact OneC.s); rfl; exact rplE; exact putE; rfl) | (apply wO; apply o_bs0; rfl; intro _) | (apply wO; apply o_bs; rfl; rfl; rfl; rfl; exact rptE; exact filE; intro _) | (apply wO; apply o_call; rfl; kernel_rfl; exact evsE))
    refine c_loopR [0, 19, 21] (fun i : Nat => [(25, .int .i64 (i : Nat))]) (fun i => i ≤ L.length) (fun i => L.length - i) 0 (Nat.zero_le _) fun i hi => ?_
    have hL8 := hm.1
    repeat (first | apply c_seq | apply c_reg | (apply wO; apply oc; rfl; exact ydE) | apply w_nil | apply n_cd | (apply wg_t; rfl; rfl) | (apply wg_f; rfl; rfl; rfl; rfl) | (apply wg_u; rfl; rfl; rfl) | (apply c_t; rfl) | (apply c_f; rfl) | apply c_skip | apply c_block | apply n_blk | apply c_exit | apply e_hit | apply e_cd | apply e_lp | (apply e_miss; rfl) | apply c_ret | (apply wO; apply o_box; rfl; rfl; rfl; intro _) | (apply wO; apply o_alloc; rfl; intro _) | (apply wO; apply o_st; rfl; rfl; rfl; (first | exact AggC.s | exact OneC.s); rfl; exact rplE; exact putE; rfl) | (apply wO; apply o_bs0; rfl; intro _) | (apply wO; apply o_bs; rfl; rfl; rfl; rfl; exact rptE; exact filE; intro _) | (apply wO; apply o_call; rfl; kernel_rfl; exact evsE))
    refine c_if rfl (fun h8 => ?_) (fun h8 => ?_)
    · have hlt : i < L.length := by omega
      have hR := HaveItem_f x.y L[i] (.agg #[.int .i64 x.y.next, .slice x.a x.y.slots.length x.c]) x.F
      rw [hm.2 _ (List.getElem_mem hlt)] at hR
      dsimp only at hR
      refine at_int (a := pa) (xs := L) i ?_
      rintro hi2 bb oo ee
      rw [ee]
      repeat (first | apply c_seq | apply c_reg | (apply wO; apply oc; rfl; exact ydE) | apply w_nil | apply n_cd | (apply wg_t; rfl; rfl) | (apply wg_f; rfl; rfl; rfl; rfl) | (apply wg_u; rfl; rfl; rfl) | (apply c_t; rfl) | (apply c_f; rfl) | apply c_skip | apply c_block | apply n_blk | apply c_exit | apply e_hit | apply e_cd | apply e_lp | (apply e_miss; rfl) | apply c_ret | (apply wO; apply o_box; rfl; rfl; rfl; intro _) | (apply wO; apply o_alloc; rfl; intro _) | (apply wO; apply o_st; rfl; rfl; rfl; (first | exact AggC.s | exact OneC.s); rfl; exact rplE; exact putE; rfl) | (apply wO; apply o_bs0; rfl; intro _) | (apply wO; apply o_bs; rfl; rfl; rfl; rfl; exact rptE; exact filE; intro _) | (apply wO; apply o_call; rfl; kernel_rfl; exact evsE))
      refine d_start [0, 3] [] ?_
      refine dt 0 ?_
      refine dt 1 ?_
      refine dt 2 ?_
      refine dt 3 ?_
      refine dt 4 ?_
      refine dO 5 (by kernel_rfl) (by rw [List.getElem?_toArray]; rfl) ?_
      apply o_call; rfl; kernel_rfl; exact evsE
      refine cf hR fun _ _ => ?_
      refine t_app ?_
      refine dk ?_
      refine dt 6 ?_
      refine dt 7 ?_
      refine dt 8 ?_
      refine dt 9 ?_
      refine dt 10 ?_
      refine dd ?_
      repeat (first | apply c_seq | apply c_reg | (apply wO; apply oc; rfl; exact ydE) | apply w_nil | apply n_cd | (apply wg_t; rfl; rfl) | (apply wg_f; rfl; rfl; rfl; rfl) | (apply wg_u; rfl; rfl; rfl) | (apply c_t; rfl) | (apply c_f; rfl) | apply c_skip | apply c_block | apply n_blk | apply c_exit | apply e_hit | apply e_cd | apply e_lp | (apply e_miss; rfl) | apply c_ret | (apply wO; apply o_box; rfl; rfl; rfl; intro _) | (apply wO; apply o_alloc; rfl; intro _) | (apply wO; apply o_st; rfl; rfl; rfl; (first | exact AggC.s | exact OneC.s); rfl; exact rplE; exact putE; rfl) | (apply wO; apply o_bs0; rfl; intro _) | (apply wO; apply o_bs; rfl; rfl; rfl; rfl; exact rptE; exact filE; intro _) | (apply wO; apply o_call; rfl; kernel_rfl; exact evsE))
      refine n_lp (i + 1) hlt (by omega)
    · repeat (first | apply c_seq | apply c_reg | (apply wO; apply oc; rfl; exact ydE) | apply w_nil | apply n_cd | (apply wg_t; rfl; rfl) | (apply wg_f; rfl; rfl; rfl; rfl) | (apply wg_u; rfl; rfl; rfl) | (apply c_t; rfl) | (apply c_f; rfl) | apply c_skip | apply c_block | apply n_blk | apply c_exit | apply e_hit | apply e_cd | apply e_lp | (apply e_miss; rfl) | apply c_ret | (apply wO; apply o_box; rfl; rfl; rfl; intro _) | (apply wO; apply o_alloc; rfl; intro _) | (apply wO; apply o_st; rfl; rfl; rfl; (first | exact AggC.s | exact OneC.s); rfl; exact rplE; exact putE; rfl) | (apply wO; apply o_bs0; rfl; intro _) | (apply wO; apply o_bs; rfl; rfl; rfl; rfl; exact rptE; exact filE; intro _) | (apply wO; apply o_call; rfl; kernel_rfl; exact evsE))
      refine cf (DrawSlotsText_f v code G) fun y _ => ?_
      refine t_app ?_
      have hA := SlotsText_f y.y (.agg #[.int .i64 y.y.next, .slice y.a y.y.slots.length y.c]) y.F FT
      have hB := specSlotsText_f y.y (.agg #[.int .i64 y.y.next, .slice y.a y.y.slots.length y.c]) y.F FT
      repeat (first | apply c_seq | apply c_reg | (apply wO; apply oc; rfl; exact ydE) | apply w_nil | apply n_cd | (apply wg_t; rfl; rfl) | (apply wg_f; rfl; rfl; rfl; rfl) | (apply wg_u; rfl; rfl; rfl) | (apply c_t; rfl) | (apply c_f; rfl) | apply c_skip | apply c_block | apply n_blk | apply c_exit | apply e_hit | apply e_cd | apply e_lp | (apply e_miss; rfl) | apply c_ret | (apply wO; apply o_box; rfl; rfl; rfl; intro _) | (apply wO; apply o_alloc; rfl; intro _) | (apply wO; apply o_st; rfl; rfl; rfl; (first | exact AggC.s | exact OneC.s); rfl; exact rplE; exact putE; rfl) | (apply wO; apply o_bs0; rfl; intro _) | (apply wO; apply o_bs; rfl; rfl; rfl; rfl; exact rptE; exact filE; intro _) | (apply wO; apply o_call; rfl; kernel_rfl; exact evsE))
      refine cf hA fun _ _ => ?_
      refine t_app ?_
      repeat (first | apply c_seq | apply c_reg | (apply wO; apply oc; rfl; exact ydE) | apply w_nil | apply n_cd | (apply wg_t; rfl; rfl) | (apply wg_f; rfl; rfl; rfl; rfl) | (apply wg_u; rfl; rfl; rfl) | (apply c_t; rfl) | (apply c_f; rfl) | apply c_skip | apply c_block | apply n_blk | apply c_exit | apply e_hit | apply e_cd | apply e_lp | (apply e_miss; rfl) | apply c_ret | (apply wO; apply o_box; rfl; rfl; rfl; intro _) | (apply wO; apply o_alloc; rfl; intro _) | (apply wO; apply o_st; rfl; rfl; rfl; (first | exact AggC.s | exact OneC.s); rfl; exact rplE; exact putE; rfl) | (apply wO; apply o_bs0; rfl; intro _) | (apply wO; apply o_bs; rfl; rfl; rfl; rfl; exact rptE; exact filE; intro _) | (apply wO; apply o_call; rfl; kernel_rfl; exact evsE))
      cases g : goodRW y.y
      · rw [show resText y.y = (⟨#[]⟩, false) by unfold resText; rw [g]; rfl] at hB ⊢
        dsimp only at hB ⊢
        refine cf (ParseSlots_f ⟨#[]⟩ FT (by decide)) fun p hp => ?_
        refine t_app ?_
        repeat (first | apply c_seq | apply c_reg | (apply wO; apply oc; rfl; exact ydE) | apply w_nil | apply n_cd | (apply wg_t; rfl; rfl) | (apply wg_f; rfl; rfl; rfl; rfl) | (apply wg_u; rfl; rfl; rfl) | (apply c_t; rfl) | (apply c_f; rfl) | apply c_skip | apply c_block | apply n_blk | apply c_exit | apply e_hit | apply e_cd | apply e_lp | (apply e_miss; rfl) | apply c_ret | (apply wO; apply o_box; rfl; rfl; rfl; intro _) | (apply wO; apply o_alloc; rfl; intro _) | (apply wO; apply o_st; rfl; rfl; rfl; (first | exact AggC.s | exact OneC.s); rfl; exact rplE; exact putE; rfl) | (apply wO; apply o_bs0; rfl; intro _) | (apply wO; apply o_bs; rfl; rfl; rfl; rfl; exact rptE; exact filE; intro _) | (apply wO; apply o_call; rfl; kernel_rfl; exact evsE))
        refine cf hB fun _ _ => ?_
        refine t_app ?_
        repeat (first | apply c_seq | apply c_reg | (apply wO; apply oc; rfl; exact ydE) | apply w_nil | apply n_cd | (apply wg_t; rfl; rfl) | (apply wg_f; rfl; rfl; rfl; rfl) | (apply wg_u; rfl; rfl; rfl) | (apply c_t; rfl) | (apply c_f; rfl) | apply c_skip | apply c_block | apply n_blk | apply c_exit | apply e_hit | apply e_cd | apply e_lp | (apply e_miss; rfl) | apply c_ret | (apply wO; apply o_box; rfl; rfl; rfl; intro _) | (apply wO; apply o_alloc; rfl; intro _) | (apply wO; apply o_st; rfl; rfl; rfl; (first | exact AggC.s | exact OneC.s); rfl; exact rplE; exact putE; rfl) | (apply wO; apply o_bs0; rfl; intro _) | (apply wO; apply o_bs; rfl; rfl; rfl; rfl; exact rptE; exact filE; intro _) | (apply wO; apply o_call; rfl; kernel_rfl; exact evsE))
        refine cf (DrawParseSlots_f v code G FT) fun t ht => ?_
        refine t_app ?_
        repeat (first | apply c_seq | apply c_reg | (apply wO; apply oc; rfl; exact ydE) | apply w_nil | apply n_cd | (apply wg_t; rfl; rfl) | (apply wg_f; rfl; rfl; rfl; rfl) | (apply wg_u; rfl; rfl; rfl) | (apply c_t; rfl) | (apply c_f; rfl) | apply c_skip | apply c_block | apply n_blk | apply c_exit | apply e_hit | apply e_cd | apply e_lp | (apply e_miss; rfl) | apply c_ret | (apply wO; apply o_box; rfl; rfl; rfl; intro _) | (apply wO; apply o_alloc; rfl; intro _) | (apply wO; apply o_st; rfl; rfl; rfl; (first | exact AggC.s | exact OneC.s); rfl; exact rplE; exact putE; rfl) | (apply wO; apply o_bs0; rfl; intro _) | (apply wO; apply o_bs; rfl; rfl; rfl; rfl; exact rptE; exact filE; intro _) | (apply wO; apply o_call; rfl; kernel_rfl; exact evsE))
        have hE := ParseSlots_f t FT (by omega)
        have hb := resPS_text (s := t)
        obtain ⟨Y, b2, e2⟩ : ∃ Y b2, resPS t = (Y, b2) := ⟨_, _, rfl⟩
        rw [e2] at hE hb
        dsimp only at hE hb
        refine cf hE fun p hp => ?_
        refine t_app ?_
        obtain ⟨y4, a4, c4, F4⟩ := p
        dsimp only at hp ⊢
        obtain rfl := hp
        refine openOReceiveWindow (x := y4) (F := F4) ?_
        rintro a7 c7 F18 e7 l7
        cases e7
        refine t_read (E := ESlot) (xs := y4.slots) fun F19 => ?_
        refine closeReceiveWindow y4 (a1 := a4) ?_
        repeat (first | apply c_seq | apply c_reg | (apply wO; apply oc; rfl; exact ydE) | apply w_nil | apply n_cd | (apply wg_t; rfl; rfl) | (apply wg_f; rfl; rfl; rfl; rfl) | (apply wg_u; rfl; rfl; rfl) | (apply c_t; rfl) | (apply c_f; rfl) | apply c_skip | apply c_block | apply n_blk | apply c_exit | apply e_hit | apply e_cd | apply e_lp | (apply e_miss; rfl) | apply c_ret | (apply wO; apply o_box; rfl; rfl; rfl; intro _) | (apply wO; apply o_alloc; rfl; intro _) | (apply wO; apply o_st; rfl; rfl; rfl; (first | exact AggC.s | exact OneC.s); rfl; exact rplE; exact putE; rfl) | (apply wO; apply o_bs0; rfl; intro _) | (apply wO; apply o_bs; rfl; rfl; rfl; rfl; exact rptE; exact filE; intro _) | (apply wO; apply o_call; rfl; kernel_rfl; exact evsE))
        refine cf (SlotsText_f y4 (.agg #[.int .i64 y4.next, .slice a4 y4.slots.length c4]) F19 FT) fun _ _ => ?_
        refine t_app ?_
        cases b2
        · repeat (first | apply c_seq | apply c_reg | (apply wO; apply oc; rfl; exact ydE) | apply w_nil | apply n_cd | (apply wg_t; rfl; rfl) | (apply wg_f; rfl; rfl; rfl; rfl) | (apply wg_u; rfl; rfl; rfl) | (apply c_t; rfl) | (apply c_f; rfl) | apply c_skip | apply c_block | apply n_blk | apply c_exit | apply e_hit | apply e_cd | apply e_lp | (apply e_miss; rfl) | apply c_ret | (apply wO; apply o_box; rfl; rfl; rfl; intro _) | (apply wO; apply o_alloc; rfl; intro _) | (apply wO; apply o_st; rfl; rfl; rfl; (first | exact AggC.s | exact OneC.s); rfl; exact rplE; exact putE; rfl) | (apply wO; apply o_bs0; rfl; intro _) | (apply wO; apply o_bs; rfl; rfl; rfl; rfl; exact rptE; exact filE; intro _) | (apply wO; apply o_call; rfl; kernel_rfl; exact evsE))
          refine ret () trivial rfl
        · obtain ⟨i1, i2⟩ := hb rfl
          rw [show resText y4 = (t, true) by unfold resText; rw [i1, i2]; rfl]
          repeat (first | apply c_seq | apply c_reg | (apply wO; apply oc; rfl; exact ydE) | apply w_nil | apply n_cd | (apply wg_t; rfl; rfl) | (apply wg_f; rfl; rfl; rfl; rfl) | (apply wg_u; rfl; rfl; rfl) | (apply c_t; rfl) | (apply c_f; rfl) | apply c_skip | apply c_block | apply n_blk | apply c_exit | apply e_hit | apply e_cd | apply e_lp | (apply e_miss; rfl) | apply c_ret | (apply wO; apply o_box; rfl; rfl; rfl; intro _) | (apply wO; apply o_alloc; rfl; intro _) | (apply wO; apply o_st; rfl; rfl; rfl; (first | exact AggC.s | exact OneC.s); rfl; exact rplE; exact putE; rfl) | (apply wO; apply o_bs0; rfl; intro _) | (apply wO; apply o_bs; rfl; rfl; rfl; rfl; exact rptE; exact filE; intro _) | (apply wO; apply o_call; rfl; kernel_rfl; exact evsE))
          refine ret () trivial ?_
          simp [tup]
      · rw [show resText y.y = (slTxt y.y, true) by unfold resText; rw [g]; rfl] at hB ⊢
        dsimp only at hB ⊢
        have hz7 : (slTxt y.y).size ≤ 78 := by
          have e9 := slT_size g y.y.slots.length
          have e8 := (good_of g).l
          unfold slTxt; omega
        have hC := ParseSlots_f (slTxt y.y) FT (by omega)
        rw [resPS_back g] at hC
        dsimp only at hC
        refine cf hC fun p hp => ?_
        refine t_app ?_
        obtain ⟨y3, a3, c3, F3⟩ := p
        dsimp only at hp ⊢
        obtain rfl := hp
        refine openOReceiveWindow (F := F3) ?_
        rintro a6 c6 F16 e6 l6
        cases e6
        refine t_read (E := ESlot) fun F17 => ?_
        refine closeReceiveWindow y.y (a1 := a3) ?_
        repeat (first | apply c_seq | apply c_reg | (apply wO; apply oc; rfl; exact ydE) | apply w_nil | apply n_cd | (apply wg_t; rfl; rfl) | (apply wg_f; rfl; rfl; rfl; rfl) | (apply wg_u; rfl; rfl; rfl) | (apply c_t; rfl) | (apply c_f; rfl) | apply c_skip | apply c_block | apply n_blk | apply c_exit | apply e_hit | apply e_cd | apply e_lp | (apply e_miss; rfl) | apply c_ret | (apply wO; apply o_box; rfl; rfl; rfl; intro _) | (apply wO; apply o_alloc; rfl; intro _) | (apply wO; apply o_st; rfl; rfl; rfl; (first | exact AggC.s | exact OneC.s); rfl; exact rplE; exact putE; rfl) | (apply wO; apply o_bs0; rfl; intro _) | (apply wO; apply o_bs; rfl; rfl; rfl; rfl; exact rptE; exact filE; intro _) | (apply wO; apply o_call; rfl; kernel_rfl; exact evsE))
        refine cf hB fun _ _ => ?_
        refine t_app ?_
        repeat (first | apply c_seq | apply c_reg | (apply wO; apply oc; rfl; exact ydE) | apply w_nil | apply n_cd | (apply wg_t; rfl; rfl) | (apply wg_f; rfl; rfl; rfl; rfl) | (apply wg_u; rfl; rfl; rfl) | (apply c_t; rfl) | (apply c_f; rfl) | apply c_skip | apply c_block | apply n_blk | apply c_exit | apply e_hit | apply e_cd | apply e_lp | (apply e_miss; rfl) | apply c_ret | (apply wO; apply o_box; rfl; rfl; rfl; intro _) | (apply wO; apply o_alloc; rfl; intro _) | (apply wO; apply o_st; rfl; rfl; rfl; (first | exact AggC.s | exact OneC.s); rfl; exact rplE; exact putE; rfl) | (apply wO; apply o_bs0; rfl; intro _) | (apply wO; apply o_bs; rfl; rfl; rfl; rfl; exact rptE; exact filE; intro _) | (apply wO; apply o_call; rfl; kernel_rfl; exact evsE))
        refine wg_if rfl rfl (fun h9 => ?_) (fun h9 => ?_)
        · exact absurd rfl h9
        repeat (first | apply c_seq | apply c_reg | (apply wO; apply oc; rfl; exact ydE) | apply w_nil | apply n_cd | (apply wg_t; rfl; rfl) | (apply wg_f; rfl; rfl; rfl; rfl) | (apply wg_u; rfl; rfl; rfl) | (apply c_t; rfl) | (apply c_f; rfl) | apply c_skip | apply c_block | apply n_blk | apply c_exit | apply e_hit | apply e_cd | apply e_lp | (apply e_miss; rfl) | apply c_ret | (apply wO; apply o_box; rfl; rfl; rfl; intro _) | (apply wO; apply o_alloc; rfl; intro _) | (apply wO; apply o_st; rfl; rfl; rfl; (first | exact AggC.s | exact OneC.s); rfl; exact rplE; exact putE; rfl) | (apply wO; apply o_bs0; rfl; intro _) | (apply wO; apply o_bs; rfl; rfl; rfl; rfl; exact rptE; exact filE; intro _) | (apply wO; apply o_call; rfl; kernel_rfl; exact evsE))
        refine cf (vSlots_f _ _ y.y _ _) fun _ _ => ?_
        refine t_app ?_
        repeat (first | apply c_seq | apply c_reg | (apply wO; apply oc; rfl; exact ydE) | apply w_nil | apply n_cd | (apply wg_t; rfl; rfl) | (apply wg_f; rfl; rfl; rfl; rfl) | (apply wg_u; rfl; rfl; rfl) | (apply c_t; rfl) | (apply c_f; rfl) | apply c_skip | apply c_block | apply n_blk | apply c_exit | apply e_hit | apply e_cd | apply e_lp | (apply e_miss; rfl) | apply c_ret | (apply wO; apply o_box; rfl; rfl; rfl; intro _) | (apply wO; apply o_alloc; rfl; intro _) | (apply wO; apply o_st; rfl; rfl; rfl; (first | exact AggC.s | exact OneC.s); rfl; exact rplE; exact putE; rfl) | (apply wO; apply o_bs0; rfl; intro _) | (apply wO; apply o_bs; rfl; rfl; rfl; rfl; exact rptE; exact filE; intro _) | (apply wO; apply o_call; rfl; kernel_rfl; exact evsE))
        refine cf (DrawParseSlots_f v code G FT) fun t ht => ?_
        refine t_app ?_
        repeat (first | apply c_seq | apply c_reg | (apply wO; apply oc; rfl; exact ydE) | apply w_nil | apply n_cd | (apply wg_t; rfl; rfl) | (apply wg_f; rfl; rfl; rfl; rfl) | (apply wg_u; rfl; rfl; rfl) | (apply c_t; rfl) | (apply c_f; rfl) | apply c_skip | apply c_block | apply n_blk | apply c_exit | apply e_hit | apply e_cd | apply e_lp | (apply e_miss; rfl) | apply c_ret | (apply wO; apply o_box; rfl; rfl; rfl; intro _) | (apply wO; apply o_alloc; rfl; intro _) | (apply wO; apply o_st; rfl; rfl; rfl; (first | exact AggC.s | exact OneC.s); rfl; exact rplE; exact putE; rfl) | (apply wO; apply o_bs0; rfl; intro _) | (apply wO; apply o_bs; rfl; rfl; rfl; rfl; exact rptE; exact filE; intro _) | (apply wO; apply o_call; rfl; kernel_rfl; exact evsE))
        have hE := ParseSlots_f t FT (by omega)
        have hb := resPS_text (s := t)
        obtain ⟨Y, b2, e2⟩ : ∃ Y b2, resPS t = (Y, b2) := ⟨_, _, rfl⟩
        rw [e2] at hE hb
        dsimp only at hE hb
        refine cf hE fun p hp => ?_
        refine t_app ?_
        obtain ⟨y4, a4, c4, F4⟩ := p
        dsimp only at hp ⊢
        obtain rfl := hp
        refine openOReceiveWindow (x := y4) (F := F4) ?_
        rintro a7 c7 F18 e7 l7
        cases e7
        refine t_read (E := ESlot) (xs := y4.slots) fun F19 => ?_
        refine closeReceiveWindow y4 (a1 := a4) ?_
        repeat (first | apply c_seq | apply c_reg | (apply wO; apply oc; rfl; exact ydE) | apply w_nil | apply n_cd | (apply wg_t; rfl; rfl) | (apply wg_f; rfl; rfl; rfl; rfl) | (apply wg_u; rfl; rfl; rfl) | (apply c_t; rfl) | (apply c_f; rfl) | apply c_skip | apply c_block | apply n_blk | apply c_exit | apply e_hit | apply e_cd | apply e_lp | (apply e_miss; rfl) | apply c_ret | (apply wO; apply o_box; rfl; rfl; rfl; intro _) | (apply wO; apply o_alloc; rfl; intro _) | (apply wO; apply o_st; rfl; rfl; rfl; (first | exact AggC.s | exact OneC.s); rfl; exact rplE; exact putE; rfl) | (apply wO; apply o_bs0; rfl; intro _) | (apply wO; apply o_bs; rfl; rfl; rfl; rfl; exact rptE; exact filE; intro _) | (apply wO; apply o_call; rfl; kernel_rfl; exact evsE))
        refine cf (SlotsText_f y4 (.agg #[.int .i64 y4.next, .slice a4 y4.slots.length c4]) F19 FT) fun _ _ => ?_
        refine t_app ?_
        cases b2
        · repeat (first | apply c_seq | apply c_reg | (apply wO; apply oc; rfl; exact ydE) | apply w_nil | apply n_cd | (apply wg_t; rfl; rfl) | (apply wg_f; rfl; rfl; rfl; rfl) | (apply wg_u; rfl; rfl; rfl) | (apply c_t; rfl) | (apply c_f; rfl) | apply c_skip | apply c_block | apply n_blk | apply c_exit | apply e_hit | apply e_cd | apply e_lp | (apply e_miss; rfl) | apply c_ret | (apply wO; apply o_box; rfl; rfl; rfl; intro _) | (apply wO; apply o_alloc; rfl; intro _) | (apply wO; apply o_st; rfl; rfl; rfl; (first | exact AggC.s | exact OneC.s); rfl; exact rplE; exact putE; rfl) | (apply wO; apply o_bs0; rfl; intro _) | (apply wO; apply o_bs; rfl; rfl; rfl; rfl; exact rptE; exact filE; intro _) | (apply wO; apply o_call; rfl; kernel_rfl; exact evsE))
          refine ret () trivial rfl
        · obtain ⟨i1, i2⟩ := hb rfl
          rw [show resText y4 = (t, true) by unfold resText; rw [i1, i2]; rfl]
          repeat (first | apply c_seq | apply c_reg | (apply wO; apply oc; rfl; exact ydE) | apply w_nil | apply n_cd | (apply wg_t; rfl; rfl) | (apply wg_f; rfl; rfl; rfl; rfl) | (apply wg_u; rfl; rfl; rfl) | (apply c_t; rfl) | (apply c_f; rfl) | apply c_skip | apply c_block | apply n_blk | apply c_exit | apply e_hit | apply e_cd | apply e_lp | (apply e_miss; rfl) | apply c_ret | (apply wO; apply o_box; rfl; rfl; rfl; intro _) | (apply wO; apply o_alloc; rfl; intro _) | (apply wO; apply o_st; rfl; rfl; rfl; (first | exact AggC.s | exact OneC.s); rfl; exact rplE; exact putE; rfl) | (apply wO; apply o_bs0; rfl; intro _) | (apply wO; apply o_bs; rfl; rfl; rfl; rfl; exact rptE; exact filE; intro _) | (apply wO; apply o_call; rfl; kernel_rfl; exact evsE))
          refine ret () trivial ?_
          simp [tup]
end Go.Proofs.YtidephmobajikaaGreatDoor
/- The library's variables as the rows give them when the call begins. -/
namespace Go.Proofs.YtidephmobajikaaGreatDoor
open Go.RowKit
theorem star_es : "*" ++ "errors.errorString" = "*errors.errorString" := by decide
theorem row_es : ∀ u, Tryz.prog.typeName? 3 u = some "*errors.errorString" → u = 252 := by
  intro u h
  exact typeName_ptr_named (nm := "errors.errorString") (by rw [star_es]; kernel_rfl) (by kernel_rfl) (by decide) u (by rw [star_es]; exact h)
theorem env_of {W : World} (hL : laidMetH Tryz.prog Rows.fnReceiveWindowRow.laid W) (hsh : W.ShapedOpen Tryz.prog) : (EnvP [5, 0, 1, 2]).P W := by
  rw [MakeChecks.laidMetH_plain _ _ _ (by kernel_rfl)] at hL
  have h3 := hL.tail.tail
  have h5 := h3.tail.tail
  have h6 := h5.tail
  have e : (Rows.laid_internal_strconv_uint64pow10 : DataW Unit) = Lib.tabData .u64 Lib.pow10Tab := by kernel_rfl
  rw [e] at h3
  have ht : Lib.TabIs Tryz.prog W "internal/strconv.uint64pow10" .u64 Lib.pow10Tab := Lib.tabIs_of_head (g := 5) (t := 247) (e := 98) (n := 20) (by kernel_rfl) (by kernel_rfl) Tryz.underlying247 Tryz.underlying98 (by kernel_rfl) (by kernel_rfl) h3
  have hu : Tryz.prog.underlying 167 = some (.interface (Tryz.prog.methodsAt 167)) := by kernel_rfl
  obtain ⟨a1, s1, hv1, -, -, -⟩ := laid_sentinel (g := 2) (ti := 167) (tp := 252) (te := 254) (ts := 9) h5 (by kernel_rfl) (by kernel_rfl) hu row_es Tryz.underlying252 Tryz.underlying254 rfl rfl Tryz.underlying9 (by kernel_rfl) (by kernel_rfl)
  obtain ⟨a2, s2, hv2, -, -, -⟩ := laid_sentinel (g := 1) (ti := 167) (tp := 252) (te := 254) (ts := 9) h6 (by kernel_rfl) (by kernel_rfl) hu row_es Tryz.underlying252 Tryz.underlying254 rfl rfl Tryz.underlying9 (by kernel_rfl) (by kernel_rfl)
  obtain ⟨m, hm⟩ := cell_of_shapedOpen_int (P := Tryz.prog) (g := 0) (t := 3) (zero := #[.int .i64 0]) hsh (of_decide_eq_true (by kernel_rfl)) (by kernel_rfl) rfl (by kernel_rfl) (by kernel_rfl) Tryz.underlying3
  refine ⟨[], rfl, rfl, ⟨ht, ⟨m, hm⟩, ⟨_, _, hv2⟩, ⟨_, _, hv1⟩⟩, rfl, ?_⟩
  have hc := Lib.TabIs.cell ht (g := 5) (by kernel_rfl) 0 (by rw [Lib.pow10Tab_length]; omega)
  have b0 := World.block_lt_of_cell? W ⟨5, 0, none⟩ hc
  intro b hb
  have : b ≤ 5 := by
    simp only [List.mem_cons, List.not_mem_nil, or_false] at hb
    rcases hb with rfl | rfl | rfl | rfl <;> decide
  exact Nat.lt_of_le_of_lt this b0
end Go.Proofs.YtidephmobajikaaGreatDoor
/- What every law's proof shares: the step from 'returns true, and nothing that was there has turned' to the row's post; how arguments read. -/
namespace Go.Proofs.YtidephmobajikaaGreatDoor
open Go.ChangeShapes Go.WideShapes Go.ChangeAt Go.RowKit

theorem trodAll_below {H : Type} {enc : TypeId × Value → H} {P : Program} (hl : laidOutB P = true) {W W' : World} (hb : Below W.heap.size W W') :
    ∀ (ts : List TypeId) (vs : List Value) (ds : List (DataW H)) (ps : List MemPlace), (∀ t ∈ ts, P.readableRec t = true ∧ t < P.types.size) →
      DataW.TrodAll enc P W 0 (fun _ => true) true ts vs ds ps → (∀ x ∈ ps, x.block < W.heap.size) → DataW.TrodAll enc P W' 0 (fun b => decide (b < W.heap.size)) true ts vs ds ps
  | [], vs, ds, ps, _, h, _ => by obtain ⟨rfl, rfl, rfl⟩ := trodAll_nil h; exact rfl
  | t :: ts, vs, ds, ps, ht, h, hlt => by
    obtain ⟨v, vs', d, ds', p, q, rfl, rfl, rfl, h1, h2⟩ := trodAll_cons h
    have ⟨a, b⟩ := ht t (by simp)
    exact ⟨p, q, Below.trod hl a b h1 hb fun x hx => hlt x (by simp [hx]), trodAll_below hl hb ts vs' ds' q (fun t h => ht t (by simp [h])) h2 fun x hx => hlt x (by simp [hx]), rfl⟩

/-- A law returned true and left all that was there aS it was: the row's post. -/
theorem law_post {H : Type} {enc : TypeId × Value → H} {P : Program} {f : Func} {s : ChangeSpec} {tb : TypeId} (hl : laidOutB P = true) (hr : ∀ t ∈ f.params.toList, P.readableRec t = true ∧ t < P.types.size)
    (hb : P.underlying tb = some .bool) (hres : f.resultTypes = #[tb]) (hv : s.vars = []) {W W' : World} {args : Array Value} {ds gs : List (DataW H)} {before : List MemPlace}
    (hs : s.fn H ds = { results := [.lit (.bool true)], args := ds }) (hW : DataW.Whole enc P f.params.toList s.vars false W args.toList ds gs before) (hB : Below W.heap.size W W') :
    s.post enc P f false true false false W args (.bool true) W' := by
  have hlt := hW.lt
  have hW0 := hW
  obtain ⟨p, q, hA, hV, rfl, _, _⟩ := hW0
  rw [hv] at hV
  obtain ⟨rfl, rfl⟩ := trodVars_none hV
  refine ⟨ds, [], p ++ [], [], p, [], hW, ?_, ?_, ?_, hB.frame _, fun h => by cases h⟩
  · rw [List.append_nil, hs, hres]
    exact trodAll_mk1 (shut_bool hb true)
  · rw [List.append_nil, hs]
    exact trodAll_below hl hB _ _ _ _ hr hA fun x hx => hlt x (by simpa using hx)
  · rw [hv, List.append_nil, hs]; exact rfl

/-- what reads aS data at type t reads by E -/
def Reads (P : Program) {α : Type} (E : Elem α) (t : TypeId) : Prop :=
  ∀ {H : Type} {enc : TypeId × Value → H} {w : World} {fuel : Nat} {cs : List Value} {x : DataW H × List MemPlace}, DataW.trod enc P w 0 (fun _ => true) true fuel t cs = some x → ∃ y F, E.rep w cs y F

section
variable {P : Program}
theorem reads_cells {α : Type} {E : Elem α} {e : TypeId} (hsz : P.cellsOf e = E.sz) (he : Reads P E e) {H : Type} {enc : TypeId × Value → H} {w : World} {n b off : Nat} :
    ∀ (els : List (DataW H × List MemPlace)) (k : Nat), (∀ i, i < els.length → (w.cells? 0 ((⟨b, off, none⟩ : Addr).add ((k + i) * P.cellsOf e)) (P.cellsOf e)).bind (DataW.trod enc P w 0 (fun _ => true) true n e) = els[i]?) →
      ∃ ys F, ys.length = els.length ∧ Cells E w b (off + k * E.sz) ys F
  | [], _, _ => ⟨[], [], rfl, rfl⟩
  | x :: r, k, h => by
    have h0 := h 0 (by simp)
    simp only [Nat.add_zero, List.getElem?_cons_zero, Option.bind_eq_some_iff] at h0
    obtain ⟨cs, hc, hx⟩ := h0
    obtain ⟨y, F1, hy⟩ := he hx
    obtain ⟨ys, F2, hl, hys⟩ := reads_cells hsz he r (k + 1) fun i hi => by
      have := h (i + 1) (by simpa using hi)
      rw [show k + 1 + i = k + (i + 1) by omega]
      simpa using this
    refine ⟨y :: ys, F1 ++ F2, by simp [hl], cs, F1, F2, rfl, hy, fun j hj => ?_, by rwa [show off + k * E.sz + E.sz = off + (k + 1) * E.sz by rw [Nat.add_mul]; omega]⟩
    obtain ⟨_, hlen, hcell⟩ := World.cells?_some hc
    rw [← hcell j (by rw [hsz]; exact hj)]
    congr 1
    simp only [Addr.add, hsz]
    split <;> split <;> simp_all <;> omega
theorem reads_slice {α : Type} {E : Elem α} {t e : TypeId} (ht : P.underlying t = some (.slice e)) (hsz : P.cellsOf e = E.sz) (hz : 0 < E.sz) (he : Reads P E e) : Reads P (ESl E hz) t := fun h => by
  rcases DataW.trod_slice ht h with ⟨rfl, _⟩ | ⟨a, len, cap, elems, rest, n, rfl, rfl, _, _, hlc, hcm, hlen, hel, _, _⟩
  · exact ⟨[], [], _, rfl, none, 0, rfl, ⟨by simp, by simp⟩, .inl ⟨rfl, rfl, fun _ => rfl⟩⟩
  · by_cases h0 : len = 0
    · subst h0
      exact ⟨[], [], _, rfl, some a, cap, rfl, ⟨by simp, by omega⟩, .inl ⟨rfl, rfl, fun e => by cases e⟩⟩
    · have hs : a = ⟨a.block, a.off, none⟩ := by
        have := hel 0 (by omega)
        rw [List.getElem?_eq_getElem (by omega)] at this
        simp only [Option.bind_eq_some_iff] at this
        obtain ⟨cs, hc, _⟩ := this
        obtain ⟨_, hl2, hcell⟩ := World.cells?_some hc
        have h1 := hcell 0 (by omega)
        rw [List.getElem?_eq_getElem (by omega)] at h1
        simp [Addr.add, World.cell?] at h1
        split at h1 <;> simp_all
        cases a; simp_all
      obtain ⟨ys, F, hyl, hys⟩ := reads_cells hsz he elems 0 (n := n) (b := a.block) (off := a.off) (enc := _) (w := _) (by
        rw [← hs]; intro i hi; rw [Nat.zero_add]; exact hel i (by omega))
      refine ⟨ys, a.block :: F, _, rfl, some a, cap, by rw [hyl, hlen], ⟨by omega, by omega⟩, .inr ⟨a.block, a.off, F, by rw [← hs], ?_, rfl, by simpa using hys⟩⟩
      intro e; rw [e] at hyl; simp at hyl; omega
end

/-- the fields of a struct, one behind the other, each by its own reading -/
inductive FieldsOk (P : Program) : List Field → Nat → (α : Type) → Elem α → Prop
  | nil (off : Nat) : FieldsOk P [] off Unit EUnit
  | cons {f : Field} {r : List Field} {off : Nat} {α β : Type} {A : Elem α} {B : Elem β} (ho : f.offset = off) (hc : P.cellsOf f.type = A.sz) (hA : Reads P A f.type) (h : FieldsOk P r (off + A.sz) β B) : FieldsOk P (f :: r) off (α × β) (EProd A B)
end Go.Proofs.YtidephmobajikaaGreatDoor
