/- Receive windows: what is taken, what is given up: in place. -/
import Derived.Test.YtidephmobajikaaDoorRW4
namespace Go.Proofs.YtidephmobajikaaDoor
open Go.RowKit
def zsl : Slot := ⟨false, ⟨#[]⟩⟩
def padL (x : ReceiveWindow) (j : Nat) : List Slot := x.slots ++ List.replicate j zsl
theorem padL_len (x : ReceiveWindow) (j : Nat) : (padL x j).length = x.slots.length + j := by simp [padL]
def putL (x : ReceiveWindow) (k : Nat) (s : Slot) : List Slot := (padL x (k + 1 - x.slots.length)).set k s
def takeNo (x : ReceiveWindow) (n : Int) : Bool := bef n x.next || hasB x n
def takeOk (x : ReceiveWindow) (n : Int) : Bool := takeNo x n || decide (gp x.next n < 8)
def putW (x : ReceiveWindow) (n : Int) (s : ByteArray) : ReceiveWindow := ⟨x.next, putL x (gp x.next n).toNat ⟨true, s⟩⟩
def takeW (x : ReceiveWindow) (n : Int) (s : ByteArray) : ReceiveWindow := if takeNo x n || !decide (gp x.next n < 8) then x else relW (putW x n s)
def takeE (x : ReceiveWindow) (n : Int) (s : ByteArray) : List ByteArray := if takeNo x n || !decide (gp x.next n < 8) then [] else relE (putW x n s)
def stepsN (a b : Int) : Nat := if bef a b then (gp a b).toNat else 0
def giveW : Nat → ReceiveWindow → ReceiveWindow
  | 0, y => y
  | k + 1, y => giveW k (shW y)
def giveE : Nat → ReceiveWindow → List ByteArray
  | 0, _ => []
  | k + 1, y => shiftEv y.slots :: giveE k (shW y)
theorem stepsN_no {a b : Int} (h : bef a b = false) : stepsN a b = 0 := by unfold stepsN; rw [h]; rfl
theorem stepsN_yes {a b : Int} (h : bef a b = true) : stepsN a b = stepsN (aft a 1) b + 1 := by
  unfold stepsN
  rw [h]
  unfold bef btw gp aft at *
  simp only [Bool.and_eq_true, decide_eq_true_eq, if_true] at h ⊢
  split <;> omega
theorem stepsN_le (a b : Int) : stepsN a b ≤ 32767 := by
  unfold stepsN
  split
  · rename_i h; unfold bef btw at h; simp only [Bool.and_eq_true, decide_eq_true_eq] at h; omega
  · omega
theorem rep_slot (s : Slot) (h : s.item.size ≤ maxLen) (w : World) : Flat ESlot w [.bool s.hav, .string s.item] [s] [] := ⟨_, [], [], [], by simp, by simp, ⟨rfl, h, rfl⟩, rfl, rfl⟩
theorem putL_items {x : ReceiveWindow} {k : Nat} (hs : ∀ s ∈ x.slots, s.item.size ≤ 8) {s : Slot} (hi : s.item.size ≤ 8) : ∀ z ∈ putL x k s, z.item.size ≤ 8 := fun z hz => by
  unfold putL at hz
  rcases List.mem_or_eq_of_mem_set hz with h | rfl
  · unfold padL at h
    rcases List.mem_append.1 h with h | h
    · exact hs z h
    · rw [(List.mem_replicate.1 h).2]; decide
  · exact hi
structure PadS where
  j : Nat
  a : Option Addr
  c : Nat
  F : List Nat
structure GiveOk (x : ReceiveWindow) (n : Int) (s : RelS) : Prop where
  n0 : 0 ≤ s.y.next
  n1 : s.y.next ≤ 65535
  it : ∀ z ∈ s.y.slots, z.item.size ≤ 8
  ln : s.y.slots.length ≤ x.slots.length
  le : s.es.length + stepsN s.y.next n ≤ stepsN x.next n
  w : giveW (stepsN x.next n) x = giveW (stepsN s.y.next n) s.y
  e : giveE (stepsN x.next n) x = s.es ++ giveE (stepsN s.y.next n) s.y
theorem relE_len (x : ReceiveWindow) : (relE x).length ≤ x.slots.length := by
  unfold relE
  have : ∀ (l : List Slot) n, (rel n l).2.2.length ≤ l.length := by
    intro l
    induction l with
    | nil => intro n; simp [rel]
    | cons s r ih => intro n; unfold rel; split; simp; exact ih _; simp
  exact this _ _
set_option maxRecDepth 100000 in
theorem RWgive_f (x : ReceiveWindow) (n : Int) (g t o : Nat) (A B : List Value) (a : Option Addr) (cc : Nat) (F : List Nat) (h0 : 0 ≤ x.next) (h1 : x.next ≤ 65535) (h2 : 0 ≤ n) (h3 : n ≤ 65535) (hl : x.slots.length ≤ 8) (hs : ∀ s ∈ x.slots, s.item.size ≤ 8) :
    Fn Tryd.prog 128 [ptr g o 0, .int .i64 n] [] [.row g t o A [.int .i64 x.next, .slice a x.slots.length cc] B, .ow ESlot 146 (.slice a x.slots.length cc) x.slots F] (fun (s : RelS) => s.y = relW (giveW (stepsN x.next n) x) ∧ s.es = giveE (stepsN x.next n) x ++ relE (giveW (stepsN x.next n) x))
      (fun s => .slice s.ae s.es.length s.ce) (fun s => [.row g t o A [.int .i64 s.y.next, .slice s.a s.y.slots.length s.c] B, .ow ESlot 146 (.slice s.a s.y.slots.length s.c) s.y.slots s.F, .ow EStr 9 (.slice s.ae s.es.length s.ce) s.es s.Fe]) := by
  have hgn := stepsN_le x.next n
  refine enter Tryd.func128 rfl Tryd.ntmps128 fun w0 => ?_
  repeat (first | apply c_seq | apply c_reg | (apply wO; apply oc; rfl; exact ydE) | apply w_nil | apply n_cd | (apply wg_t; rfl; rfl) | (apply wg_f; rfl; rfl; rfl; rfl) | (apply wg_u; rfl; rfl; rfl) | (apply c_t; rfl) | (apply c_f; rfl) | apply c_skip | apply c_block | apply n_blk | apply c_exit | apply e_hit | apply e_cd | apply e_lp | (apply e_miss; rfl) | apply c_ret | (apply wO; apply o_box; rfl; rfl; rfl; intro _) | (apply wO; apply o_alloc; rfl; intro _) | (apply wO; apply o_st; rfl; rfl; rfl; (first | exact AggC.s | exact OneC.s); rfl; exact rplE; exact putE; rfl) | (apply wO; apply o_bs0; rfl; intro _) | (apply wO; apply o_bs; rfl; rfl; rfl; rfl; exact rptE; exact filE; intro _) | (apply wO; apply o_call; rfl; kernel_rfl; exact evsE))
  refine t_nilow EStr 9 ?_
  refine c_loopS [0, 1, 4] (fun s : RelS => [(5, .slice s.ae s.es.length s.ce)]) (fun s => [.row g t o A [.int .i64 s.y.next, .slice s.a s.y.slots.length s.c] B, .ow ESlot 146 (.slice s.a s.y.slots.length s.c) s.y.slots s.F, .ow EStr 9 (.slice s.ae s.es.length s.ce) s.es s.Fe]) (GiveOk x n) (fun s => stepsN s.y.next n) ⟨[], x, a, cc, F, none, 0, []⟩ ⟨h0, h1, hs, Nat.le_refl _, by simp, rfl, rfl⟩ fun s hC => ?_
  obtain ⟨n0, n1, hit, hln, hle, hw, he⟩ := hC
  repeat (first | apply c_seq | apply c_reg | (apply wO; apply oc; rfl; exact ydE) | apply w_nil | apply n_cd | (apply wg_t; rfl; rfl) | (apply wg_f; rfl; rfl; rfl; rfl) | (apply wg_u; rfl; rfl; rfl) | (apply c_t; rfl) | (apply c_f; rfl) | apply c_skip | apply c_block | apply n_blk | apply c_exit | apply e_hit | apply e_cd | apply e_lp | (apply e_miss; rfl) | apply c_ret | (apply wO; apply o_box; rfl; rfl; rfl; intro _) | (apply wO; apply o_alloc; rfl; intro _) | (apply wO; apply o_st; rfl; rfl; rfl; (first | exact AggC.s | exact OneC.s); rfl; exact rplE; exact putE; rfl) | (apply wO; apply o_bs0; rfl; intro _) | (apply wO; apply o_bs; rfl; rfl; rfl; rfl; exact rptE; exact filE; intro _) | (apply wO; apply o_call; rfl; kernel_rfl; exact evsE))
  refine ce (fun w s => isBefore_c _ _ _ (by omega) (by omega) (by omega) (by omega)) ?_
  cases hb : bef s.y.next n
  · repeat (first | apply c_seq | apply c_reg | (apply wO; apply oc; rfl; exact ydE) | apply w_nil | apply n_cd | (apply wg_t; rfl; rfl) | (apply wg_f; rfl; rfl; rfl; rfl) | (apply wg_u; rfl; rfl; rfl) | (apply c_t; rfl) | (apply c_f; rfl) | apply c_skip | apply c_block | apply n_blk | apply c_exit | apply e_hit | apply e_cd | apply e_lp | (apply e_miss; rfl) | apply c_ret | (apply wO; apply o_box; rfl; rfl; rfl; intro _) | (apply wO; apply o_alloc; rfl; intro _) | (apply wO; apply o_st; rfl; rfl; rfl; (first | exact AggC.s | exact OneC.s); rfl; exact rplE; exact putE; rfl) | (apply wO; apply o_bs0; rfl; intro _) | (apply wO; apply o_bs; rfl; rfl; rfl; rfl; exact rptE; exact filE; intro _) | (apply wO; apply o_call; rfl; kernel_rfl; exact evsE))
    rw [stepsN_no hb] at hw he
    refine cf (RWrelease_f s.y g t o A B s.a s.c s.F n0 n1 (by omega) hit) fun z hz => ?_
    refine t_app ?_
    repeat (first | apply c_seq | apply c_reg | (apply wO; apply oc; rfl; exact ydE) | apply w_nil | apply n_cd | (apply wg_t; rfl; rfl) | (apply wg_f; rfl; rfl; rfl; rfl) | (apply wg_u; rfl; rfl; rfl) | (apply c_t; rfl) | (apply c_f; rfl) | apply c_skip | apply c_block | apply n_blk | apply c_exit | apply e_hit | apply e_cd | apply e_lp | (apply e_miss; rfl) | apply c_ret | (apply wO; apply o_box; rfl; rfl; rfl; intro _) | (apply wO; apply o_alloc; rfl; intro _) | (apply wO; apply o_st; rfl; rfl; rfl; (first | exact AggC.s | exact OneC.s); rfl; exact rplE; exact putE; rfl) | (apply wO; apply o_bs0; rfl; intro _) | (apply wO; apply o_bs; rfl; rfl; rfl; rfl; exact rptE; exact filE; intro _) | (apply wO; apply o_call; rfl; kernel_rfl; exact evsE))
    have hr := relE_len s.y
    have hzl : z.es.length ≤ s.y.slots.length := by rw [hz.2]; exact hr
    refine t_read (xs := z.es) fun F' => ?_
    apply wO
    refine aps one_EStr scal_EStr fun a' c' F2 => ?_
    repeat (first | apply c_seq | apply c_reg | (apply wO; apply oc; rfl; exact ydE) | apply w_nil | apply n_cd | (apply wg_t; rfl; rfl) | (apply wg_f; rfl; rfl; rfl; rfl) | (apply wg_u; rfl; rfl; rfl) | (apply c_t; rfl) | (apply c_f; rfl) | apply c_skip | apply c_block | apply n_blk | apply c_exit | apply e_hit | apply e_cd | apply e_lp | (apply e_miss; rfl) | apply c_ret | (apply wO; apply o_box; rfl; rfl; rfl; intro _) | (apply wO; apply o_alloc; rfl; intro _) | (apply wO; apply o_st; rfl; rfl; rfl; (first | exact AggC.s | exact OneC.s); rfl; exact rplE; exact putE; rfl) | (apply wO; apply o_bs0; rfl; intro _) | (apply wO; apply o_bs; rfl; rfl; rfl; rfl; exact rptE; exact filE; intro _) | (apply wO; apply o_call; rfl; kernel_rfl; exact evsE))
    refine ret ⟨s.es ++ z.es, z.y, z.a, z.c, z.F, a', c', F2⟩ ⟨by rw [hz.1, hw]; rfl, by rw [hz.2, he, hw]; simp [giveE, giveW]⟩ rfl
  have hst := stepsN_yes hb
  repeat (first | apply c_seq | apply c_reg | (apply wO; apply oc; rfl; exact ydE) | apply w_nil | apply n_cd | (apply wg_t; rfl; rfl) | (apply wg_f; rfl; rfl; rfl; rfl) | (apply wg_u; rfl; rfl; rfl) | (apply c_t; rfl) | (apply c_f; rfl) | apply c_skip | apply c_block | apply n_blk | apply c_exit | apply e_hit | apply e_cd | apply e_lp | (apply e_miss; rfl) | apply c_ret | (apply wO; apply o_box; rfl; rfl; rfl; intro _) | (apply wO; apply o_alloc; rfl; intro _) | (apply wO; apply o_st; rfl; rfl; rfl; (first | exact AggC.s | exact OneC.s); rfl; exact rplE; exact putE; rfl) | (apply wO; apply o_bs0; rfl; intro _) | (apply wO; apply o_bs; rfl; rfl; rfl; rfl; exact rptE; exact filE; intro _) | (apply wO; apply o_call; rfl; kernel_rfl; exact evsE))
  refine cf (RWshift_f s.y g t o A B s.a s.c s.F n0 n1 (by omega) hit) fun z _ => ?_
  obtain ⟨az, cz, Fz⟩ := z
  refine t_app ?_
  have hsz := shiftEv_size hit
  have hmx : (shiftEv s.y.slots).size ≤ maxLen := by unfold maxLen; omega
  repeat (first | apply c_seq | apply c_reg | (apply wO; apply oc; rfl; exact ydE) | apply w_nil | apply n_cd | (apply wg_t; rfl; rfl) | (apply wg_f; rfl; rfl; rfl; rfl) | (apply wg_u; rfl; rfl; rfl) | (apply c_t; rfl) | (apply c_f; rfl) | apply c_skip | apply c_block | apply n_blk | apply c_exit | apply e_hit | apply e_cd | apply e_lp | (apply e_miss; rfl) | apply c_ret | (apply wO; apply o_box; rfl; rfl; rfl; intro _) | (apply wO; apply o_alloc; rfl; intro _) | (apply wO; apply o_st; rfl; rfl; rfl; (first | exact AggC.s | exact OneC.s); rfl; exact rplE; exact putE; rfl) | (apply wO; apply o_bs0; rfl; intro _) | (apply wO; apply o_bs; rfl; rfl; rfl; rfl; exact rptE; exact filE; intro _) | (apply wO; apply o_call; rfl; kernel_rfl; exact evsE))
  apply wO
  refine ap1 (rep_str _ hmx) one_EStr fun a' c' F' => ?_
  repeat (first | apply c_seq | apply c_reg | (apply wO; apply oc; rfl; exact ydE) | apply w_nil | apply n_cd | (apply wg_t; rfl; rfl) | (apply wg_f; rfl; rfl; rfl; rfl) | (apply wg_u; rfl; rfl; rfl) | (apply c_t; rfl) | (apply c_f; rfl) | apply c_skip | apply c_block | apply n_blk | apply c_exit | apply e_hit | apply e_cd | apply e_lp | (apply e_miss; rfl) | apply c_ret | (apply wO; apply o_box; rfl; rfl; rfl; intro _) | (apply wO; apply o_alloc; rfl; intro _) | (apply wO; apply o_st; rfl; rfl; rfl; (first | exact AggC.s | exact OneC.s); rfl; exact rplE; exact putE; rfl) | (apply wO; apply o_bs0; rfl; intro _) | (apply wO; apply o_bs; rfl; rfl; rfl; rfl; exact rptE; exact filE; intro _) | (apply wO; apply o_call; rfl; kernel_rfl; exact evsE))
  refine n_lp ⟨s.es ++ [shiftEv s.y.slots], shW s.y, az, cz, Fz, a', c', F'⟩ ⟨(aft_bd _ _).1, (aft_bd _ _).2, fun z hz => hit z (List.mem_of_mem_drop hz), by simp [shW]; omega, by simp [shW]; omega, by rw [hw, hst]; rfl, by rw [he, hst]; simp [giveE, shW]⟩ (by show stepsN (aft s.y.next 1) n < _; omega)
end Go.Proofs.YtidephmobajikaaDoor
