/- Receive windows: what is released. -/
import Derived.Test.YtidephmobajikaaDoorRW3
namespace Go.Proofs.YtidephmobajikaaDoor
open Go.RowKit
def relW (x : ReceiveWindow) : ReceiveWindow := ⟨(rel x.next x.slots).1, (rel x.next x.slots).2.1⟩
def relE (x : ReceiveWindow) : List ByteArray := (rel x.next x.slots).2.2
def shW (x : ReceiveWindow) : ReceiveWindow := ⟨aft x.next 1, x.slots.drop 1⟩
theorem rel_stop {x : ReceiveWindow} (h : havAt x.slots 0 = false) : relW x = x ∧ relE x = [] := by unfold relW relE; rw [rel_no h]; exact ⟨rfl, rfl⟩
theorem rel_go {x : ReceiveWindow} (h : havAt x.slots 0 = true) : relW x = relW (shW x) ∧ relE x = shiftEv x.slots :: relE (shW x) := by unfold relW relE; rw [rel_yes h]; exact ⟨rfl, rfl⟩
theorem shiftEv_size {l : List Slot} (h : ∀ s ∈ l, s.item.size ≤ 8) : (shiftEv l).size ≤ 9 := by
  cases l with
  | nil => decide
  | cons s r =>
    have := h s (by simp)
    unfold shiftEv; dsimp only
    split
    · unfold plus; rw [ByteArray.size_append]; show 1 + s.item.size ≤ 9; omega
    · decide
theorem hasB_next (y : ReceiveWindow) : hasB y y.next = havAt y.slots 0 := by
  unfold hasB gp; rw [Int.sub_self]; rfl
theorem rep_str (s : ByteArray) (h : s.size ≤ maxLen) (w : World) : Flat EStr w [.string s] [s] [] := ⟨_, [], [], [], by simp, by simp, ⟨rfl, h, rfl⟩, rfl, rfl⟩
/-- events so far, the window, where both lie -/
structure RelS where
  es : List ByteArray
  y : ReceiveWindow
  a : Option Addr
  c : Nat
  F : List Nat
  ae : Option Addr
  ce : Nat
  Fe : List Nat
structure RelOk (x : ReceiveWindow) (s : RelS) : Prop where
  n0 : 0 ≤ s.y.next
  n1 : s.y.next ≤ 65535
  it : ∀ z ∈ s.y.slots, z.item.size ≤ 8
  ln : s.es.length + s.y.slots.length ≤ x.slots.length
  w : relW x = relW s.y
  e : relE x = s.es ++ relE s.y
set_option maxRecDepth 100000 in
theorem RWrelease_f (x : ReceiveWindow) (g t o : Nat) (A B : List Value) (a : Option Addr) (cc : Nat) (F : List Nat) (h0 : 0 ≤ x.next) (h1 : x.next ≤ 65535) (hl : x.slots.length ≤ 1000000) (hs : ∀ s ∈ x.slots, s.item.size ≤ 8) :
    Fn Tryd.prog 182 [ptr g o 0] [] [.row g t o A [.int .i64 x.next, .slice a x.slots.length cc] B, .ow ESlot 146 (.slice a x.slots.length cc) x.slots F] (fun (s : RelS) => s.y = relW x ∧ s.es = relE x)
      (fun s => .slice s.ae s.es.length s.ce) (fun s => [.row g t o A [.int .i64 s.y.next, .slice s.a s.y.slots.length s.c] B, .ow ESlot 146 (.slice s.a s.y.slots.length s.c) s.y.slots s.F, .ow EStr 9 (.slice s.ae s.es.length s.ce) s.es s.Fe]) := by
  refine enter Tryd.func182 rfl Tryd.ntmps182 fun w0 => ?_
  repeat (first | apply c_seq | apply c_reg | (apply wO; apply oc; rfl; exact ydE) | apply w_nil | apply n_cd | (apply wg_t; rfl; rfl) | (apply wg_f; rfl; rfl; rfl; rfl) | (apply wg_u; rfl; rfl; rfl) | (apply c_t; rfl) | (apply c_f; rfl) | apply c_skip | apply c_block | apply n_blk | apply c_exit | apply e_hit | apply e_cd | apply e_lp | (apply e_miss; rfl) | apply c_ret | (apply wO; apply o_box; rfl; rfl; rfl; intro _) | (apply wO; apply o_alloc; rfl; intro _) | (apply wO; apply o_st; rfl; rfl; rfl; (first | exact AggC.s | exact OneC.s); rfl; exact rplE; exact putE; rfl) | (apply wO; apply o_bs0; rfl; intro _) | (apply wO; apply o_bs; rfl; rfl; rfl; rfl; exact rptE; exact filE; intro _) | (apply wO; apply o_call; rfl; kernel_rfl; exact evsE))
  refine t_nilow EStr 9 ?_
  refine c_loopS [0, 2] (fun s : RelS => [(3, .slice s.ae s.es.length s.ce)]) (fun s => [.row g t o A [.int .i64 s.y.next, .slice s.a s.y.slots.length s.c] B, .ow ESlot 146 (.slice s.a s.y.slots.length s.c) s.y.slots s.F, .ow EStr 9 (.slice s.ae s.es.length s.ce) s.es s.Fe]) (RelOk x) (fun s => s.y.slots.length) ⟨[], x, a, cc, F, none, 0, []⟩ ⟨h0, h1, hs, by simp, rfl, rfl⟩ fun s hC => ?_
  obtain ⟨n0, n1, hit, hln, hw, he⟩ := hC
  repeat (first | apply c_seq | apply c_reg | (apply wO; apply oc; rfl; exact ydE) | apply w_nil | apply n_cd | (apply wg_t; rfl; rfl) | (apply wg_f; rfl; rfl; rfl; rfl) | (apply wg_u; rfl; rfl; rfl) | (apply c_t; rfl) | (apply c_f; rfl) | apply c_skip | apply c_block | apply n_blk | apply c_exit | apply e_hit | apply e_cd | apply e_lp | (apply e_miss; rfl) | apply c_ret | (apply wO; apply o_box; rfl; rfl; rfl; intro _) | (apply wO; apply o_alloc; rfl; intro _) | (apply wO; apply o_st; rfl; rfl; rfl; (first | exact AggC.s | exact OneC.s); rfl; exact rplE; exact putE; rfl) | (apply wO; apply o_bs0; rfl; intro _) | (apply wO; apply o_bs; rfl; rfl; rfl; rfl; exact rptE; exact filE; intro _) | (apply wO; apply o_call; rfl; kernel_rfl; exact evsE))
  refine d_start [0] [] ?_
  refine dt 0 ?_
  refine dt 1 ?_
  refine dt 2 ?_
  refine dt 3 ?_
  refine dt 4 ?_
  refine dt 5 ?_
  refine dt 6 ?_
  refine dO 7 (by kernel_rfl) (by rw [List.getElem?_toArray]; rfl) ?_
  apply o_call; rfl; kernel_rfl; exact evsE
  refine cb (fun w st => by
    obtain ⟨F', h⟩ := rdRW (st.get (p := .ow ESlot 146 (.slice s.a s.y.slots.length s.c) s.y.slots s.F) (by simp))
    exact (RWhas_f s.y s.y.next _ F' n0 n1 n0 n1).val w (hol1 h)) ?_
  refine dk ?_
  refine dd ?_
  rw [hasB_next]
  cases hv : havAt s.y.slots 0
  · repeat (first | apply c_seq | apply c_reg | (apply wO; apply oc; rfl; exact ydE) | apply w_nil | apply n_cd | (apply wg_t; rfl; rfl) | (apply wg_f; rfl; rfl; rfl; rfl) | (apply wg_u; rfl; rfl; rfl) | (apply c_t; rfl) | (apply c_f; rfl) | apply c_skip | apply c_block | apply n_blk | apply c_exit | apply e_hit | apply e_cd | apply e_lp | (apply e_miss; rfl) | apply c_ret | (apply wO; apply o_box; rfl; rfl; rfl; intro _) | (apply wO; apply o_alloc; rfl; intro _) | (apply wO; apply o_st; rfl; rfl; rfl; (first | exact AggC.s | exact OneC.s); rfl; exact rplE; exact putE; rfl) | (apply wO; apply o_bs0; rfl; intro _) | (apply wO; apply o_bs; rfl; rfl; rfl; rfl; exact rptE; exact filE; intro _) | (apply wO; apply o_call; rfl; kernel_rfl; exact evsE))
    refine ret s ⟨by rw [hw, (rel_stop hv).1], by rw [he, (rel_stop hv).2, List.append_nil]⟩ rfl
  repeat (first | apply c_seq | apply c_reg | (apply wO; apply oc; rfl; exact ydE) | apply w_nil | apply n_cd | (apply wg_t; rfl; rfl) | (apply wg_f; rfl; rfl; rfl; rfl) | (apply wg_u; rfl; rfl; rfl) | (apply c_t; rfl) | (apply c_f; rfl) | apply c_skip | apply c_block | apply n_blk | apply c_exit | apply e_hit | apply e_cd | apply e_lp | (apply e_miss; rfl) | apply c_ret | (apply wO; apply o_box; rfl; rfl; rfl; intro _) | (apply wO; apply o_alloc; rfl; intro _) | (apply wO; apply o_st; rfl; rfl; rfl; (first | exact AggC.s | exact OneC.s); rfl; exact rplE; exact putE; rfl) | (apply wO; apply o_bs0; rfl; intro _) | (apply wO; apply o_bs; rfl; rfl; rfl; rfl; exact rptE; exact filE; intro _) | (apply wO; apply o_call; rfl; kernel_rfl; exact evsE))
  refine cf (RWshift_f s.y g t o A B s.a s.c s.F n0 n1 (by omega) hit) fun z _ => ?_
  obtain ⟨az, cz, Fz⟩ := z
  refine t_app ?_
  have hsz := shiftEv_size hit
  have hmx : (shiftEv s.y.slots).size ≤ maxLen := by unfold maxLen; omega
  have hlt : 0 < s.y.slots.length := by
    rcases Nat.eq_zero_or_pos s.y.slots.length with h | h
    · rw [havAt_ge (by omega)] at hv; cases hv
    · exact h
  have hll : s.es.length + 1 ≤ 1000000 := by omega
  repeat (first | apply c_seq | apply c_reg | (apply wO; apply oc; rfl; exact ydE) | apply w_nil | apply n_cd | (apply wg_t; rfl; rfl) | (apply wg_f; rfl; rfl; rfl; rfl) | (apply wg_u; rfl; rfl; rfl) | (apply c_t; rfl) | (apply c_f; rfl) | apply c_skip | apply c_block | apply n_blk | apply c_exit | apply e_hit | apply e_cd | apply e_lp | (apply e_miss; rfl) | apply c_ret | (apply wO; apply o_box; rfl; rfl; rfl; intro _) | (apply wO; apply o_alloc; rfl; intro _) | (apply wO; apply o_st; rfl; rfl; rfl; (first | exact AggC.s | exact OneC.s); rfl; exact rplE; exact putE; rfl) | (apply wO; apply o_bs0; rfl; intro _) | (apply wO; apply o_bs; rfl; rfl; rfl; rfl; exact rptE; exact filE; intro _) | (apply wO; apply o_call; rfl; kernel_rfl; exact evsE))
  apply wO
  refine ap1 (rep_str _ hmx) one_EStr fun a' c' F' => ?_
  repeat (first | apply c_seq | apply c_reg | (apply wO; apply oc; rfl; exact ydE) | apply w_nil | apply n_cd | (apply wg_t; rfl; rfl) | (apply wg_f; rfl; rfl; rfl; rfl) | (apply wg_u; rfl; rfl; rfl) | (apply c_t; rfl) | (apply c_f; rfl) | apply c_skip | apply c_block | apply n_blk | apply c_exit | apply e_hit | apply e_cd | apply e_lp | (apply e_miss; rfl) | apply c_ret | (apply wO; apply o_box; rfl; rfl; rfl; intro _) | (apply wO; apply o_alloc; rfl; intro _) | (apply wO; apply o_st; rfl; rfl; rfl; (first | exact AggC.s | exact OneC.s); rfl; exact rplE; exact putE; rfl) | (apply wO; apply o_bs0; rfl; intro _) | (apply wO; apply o_bs; rfl; rfl; rfl; rfl; exact rptE; exact filE; intro _) | (apply wO; apply o_call; rfl; kernel_rfl; exact evsE))
  refine n_lp ⟨s.es ++ [shiftEv s.y.slots], shW s.y, az, cz, Fz, a', c', F'⟩ ⟨(aft_bd _ _).1, (aft_bd _ _).2, fun z hz => hit z (List.mem_of_mem_drop hz), by simp [shW]; omega, by rw [hw, (rel_go hv).1], by rw [he, (rel_go hv).2]; simp⟩ (by simp [shW]; omega)
end Go.Proofs.YtidephmobajikaaDoor
