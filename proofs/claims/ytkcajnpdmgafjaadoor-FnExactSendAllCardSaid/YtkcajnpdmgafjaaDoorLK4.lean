/- Links: SendAll of the program. -/
import Derived.Test.YtkcajnpdmgafjaaDoorLK3
namespace Go.Proofs.YtkcajnpdmgafjaaDoor
open Go.RowKit
def sentAll : Link → Int → List ByteArray → Link × Int
  | y, n, [] => (y, n)
  | y, n, s :: r => sentAll (sendL y s) (if sendOk y s then n else n + 1) r
theorem sendL_good {x : Link} (s : ByteArray) (h : goodLink x = true) : goodLink (sendL x s) = true := by
  unfold sendL
  split
  · rename_i hs; exact sent_good h hs
  · exact h
theorem sentAll_good : ∀ (xs : List ByteArray) (x : Link) (n : Int), goodLink x = true → goodLink (sentAll x n xs).1 = true
  | [], _, _, h => h
  | s :: r, x, n, h => sentAll_good r _ _ (sendL_good s h)
theorem sentAll_step {y : Link} {n : Int} {xs : List ByteArray} {k : Nat} (h : k < xs.length) : sentAll y n (xs.drop k) = sentAll (sendL y xs[k]) (if sendOk y xs[k] then n else n + 1) (xs.drop (k + 1)) := by
  rw [List.drop_eq_getElem_cons h]; rfl
def okSendAll (x : Link) (xs : List ByteArray) : Bool := goodLink x && !decide (20 < (xs.length : Int))
def resSendAll (x : Link) (xs : List ByteArray) : Link × Int × Bool := if okSendAll x xs then ((sentAll x 0 xs).1, (sentAll x 0 xs).2, true) else (zL, 0, false)
theorem resSendAll_no {x : Link} {s : List ByteArray} (h : okSendAll x s = false) : resSendAll x s = (zL, 0, false) := by unfold resSendAll; rw [h]; rfl
theorem resSendAll_yes {x : Link} {s : List ByteArray} (h : okSendAll x s = true) : resSendAll x s = ((sentAll x 0 s).1, (sentAll x 0 s).2, true) := by unfold resSendAll; rw [h]; rfl
def PS_SendAll : Link × Int × Bool → World → Ending → World → Prop := fun (r0, r1, r2) w e w' => ∃ u0 G0, e = .returned (.tuple #[u0, .int .i64 r1, .bool r2]) ∧ IsV ELink w' u0 r0 G0 ∧ Below w.heap.size w w'
def PI_SendAll : Link × Int × Bool → World → Ending → World → Prop := fun (r0, r1, r2) w e w' => ∃ u0 G0, e = .returned (.tuple #[u0, .int .i64 r1, .bool r2]) ∧ IsV OLink w' u0 r0 G0 ∧ (G0).Nodup ∧ (∀ b ∈ G0, w.heap.size ≤ b) ∧ Below w.heap.size w w'
structure SaS where
  y : Link
  n : Int
  k : Nat
  a : Option Addr
  c : Nat
  F : List Nat
structure SaOk (x : Link) (xs : List ByteArray) (s : SaS) : Prop where
  g : goodLink s.y = true
  n0 : 0 ≤ s.n
  n1 : s.n ≤ s.k
  k : s.k ≤ xs.length
  e : sentAll x 0 xs = sentAll s.y s.n (xs.drop s.k)
set_option maxRecDepth 100000 in
theorem SendAll_f (x : Link) (xs : List ByteArray) (v v1 : Value) (F G : List Nat) :
    Fn Tryd.prog 24 [v, v1] [.isv ELink v x F, .sl EStr v1 xs G] [] (fun (_ : LinkS) => True)
      (fun s => .tuple #[.agg #[.slice s.a (resSendAll x xs).1.queue.length s.c, .string (resSendAll x xs).1.fates, .int .i64 (resSendAll x xs).1.used], .int .i64 (resSendAll x xs).2.1, .bool (resSendAll x xs).2.2]) (fun s => [.own OLink (.agg #[.slice s.a (resSendAll x xs).1.queue.length s.c, .string (resSendAll x xs).1.fates, .int .i64 (resSendAll x xs).1.used]) (resSendAll x xs).1 s.F]) := by
  refine enter Tryd.func24 rfl Tryd.ntmps24 fun w0 => ?_
  refine t_nilow EStr 9 ?_
  refine closeOLink zL zs_size ?_
  refine openLink ?_
  rintro a1 c1 F1 rfl l1 l2
  refine t_sl (xs := xs) ?_
  rintro a7 c7 rfl l7 l8
  repeat (first | apply c_seq | apply c_reg | (apply wO; apply oc; rfl; exact ydE) | apply w_nil | apply n_cd | (apply wg_t; rfl; rfl) | (apply wg_f; rfl; rfl; rfl; rfl) | (apply wg_u; rfl; rfl; rfl) | (apply c_t; rfl) | (apply c_f; rfl) | apply c_skip | apply c_block | apply n_blk | apply c_exit | apply e_hit | apply e_cd | apply e_lp | (apply e_miss; rfl) | apply c_ret | (apply wO; apply o_box; rfl; rfl; rfl; intro _) | (apply wO; apply o_alloc; rfl; intro _) | (apply wO; apply o_st; rfl; rfl; rfl; (first | exact AggC.s | exact OneC.s); rfl; exact rplE; exact putE; rfl) | (apply wO; apply o_bs0; rfl; intro _) | (apply wO; apply o_bs; rfl; rfl; rfl; rfl; exact rptE; exact filE; intro _) | (apply wO; apply o_call; rfl; kernel_rfl; exact evsE))
  refine cb (fun w st => IsValidLink_c _ x _ w (st.get (p := .isv ELink (.agg #[.slice a1 x.queue.length c1, .string x.fates, .int .i64 x.used]) x F) (by simp))) ?_
  cases g1 : goodLink x
  · repeat (first | apply c_seq | apply c_reg | (apply wO; apply oc; rfl; exact ydE) | apply w_nil | apply n_cd | (apply wg_t; rfl; rfl) | (apply wg_f; rfl; rfl; rfl; rfl) | (apply wg_u; rfl; rfl; rfl) | (apply c_t; rfl) | (apply c_f; rfl) | apply c_skip | apply c_block | apply n_blk | apply c_exit | apply e_hit | apply e_cd | apply e_lp | (apply e_miss; rfl) | apply c_ret | (apply wO; apply o_box; rfl; rfl; rfl; intro _) | (apply wO; apply o_alloc; rfl; intro _) | (apply wO; apply o_st; rfl; rfl; rfl; (first | exact AggC.s | exact OneC.s); rfl; exact rplE; exact putE; rfl) | (apply wO; apply o_bs0; rfl; intro _) | (apply wO; apply o_bs; rfl; rfl; rfl; rfl; exact rptE; exact filE; intro _) | (apply wO; apply o_call; rfl; kernel_rfl; exact evsE))
    rw [resSendAll_no (by unfold okSendAll; rw [g1]; rfl)]
    refine ret ⟨none, 0, []⟩ trivial rfl
  obtain ⟨hl, hq, hf, hu0, hu1⟩ := goodL_of g1
  repeat (first | apply c_seq | apply c_reg | (apply wO; apply oc; rfl; exact ydE) | apply w_nil | apply n_cd | (apply wg_t; rfl; rfl) | (apply wg_f; rfl; rfl; rfl; rfl) | (apply wg_u; rfl; rfl; rfl) | (apply c_t; rfl) | (apply c_f; rfl) | apply c_skip | apply c_block | apply n_blk | apply c_exit | apply e_hit | apply e_cd | apply e_lp | (apply e_miss; rfl) | apply c_ret | (apply wO; apply o_box; rfl; rfl; rfl; intro _) | (apply wO; apply o_alloc; rfl; intro _) | (apply wO; apply o_st; rfl; rfl; rfl; (first | exact AggC.s | exact OneC.s); rfl; exact rplE; exact putE; rfl) | (apply wO; apply o_bs0; rfl; intro _) | (apply wO; apply o_bs; rfl; rfl; rfl; rfl; exact rptE; exact filE; intro _) | (apply wO; apply o_call; rfl; kernel_rfl; exact evsE))
  refine c_if rfl (fun h1 => ?_) (fun h1 => ?_)
  · repeat (first | apply c_seq | apply c_reg | (apply wO; apply oc; rfl; exact ydE) | apply w_nil | apply n_cd | (apply wg_t; rfl; rfl) | (apply wg_f; rfl; rfl; rfl; rfl) | (apply wg_u; rfl; rfl; rfl) | (apply c_t; rfl) | (apply c_f; rfl) | apply c_skip | apply c_block | apply n_blk | apply c_exit | apply e_hit | apply e_cd | apply e_lp | (apply e_miss; rfl) | apply c_ret | (apply wO; apply o_box; rfl; rfl; rfl; intro _) | (apply wO; apply o_alloc; rfl; intro _) | (apply wO; apply o_st; rfl; rfl; rfl; (first | exact AggC.s | exact OneC.s); rfl; exact rplE; exact putE; rfl) | (apply wO; apply o_bs0; rfl; intro _) | (apply wO; apply o_bs; rfl; rfl; rfl; rfl; exact rptE; exact filE; intro _) | (apply wO; apply o_call; rfl; kernel_rfl; exact evsE))
    rw [resSendAll_no (by unfold okSendAll; rw [decide_eq_true h1]; simp)]
    refine ret ⟨none, 0, []⟩ trivial rfl
  repeat (first | apply c_seq | apply c_reg | (apply wO; apply oc; rfl; exact ydE) | apply w_nil | apply n_cd | (apply wg_t; rfl; rfl) | (apply wg_f; rfl; rfl; rfl; rfl) | (apply wg_u; rfl; rfl; rfl) | (apply c_t; rfl) | (apply c_f; rfl) | apply c_skip | apply c_block | apply n_blk | apply c_exit | apply e_hit | apply e_cd | apply e_lp | (apply e_miss; rfl) | apply c_ret | (apply wO; apply o_box; rfl; rfl; rfl; intro _) | (apply wO; apply o_alloc; rfl; intro _) | (apply wO; apply o_st; rfl; rfl; rfl; (first | exact AggC.s | exact OneC.s); rfl; exact rplE; exact putE; rfl) | (apply wO; apply o_bs0; rfl; intro _) | (apply wO; apply o_bs; rfl; rfl; rfl; rfl; exact rptE; exact filE; intro _) | (apply wO; apply o_call; rfl; kernel_rfl; exact evsE))
  refine cv (fun w st => Link_clone_c _ x _ w (st.get (p := .isv ELink (.agg #[.slice a1 x.queue.length c1, .string x.fates, .int .i64 x.used]) x F) (by simp)) (by omega)) fun v F2 => ?_
  refine openOLink ?_
  rintro a2 c2 F3 rfl l3 l4
  repeat (first | apply c_seq | apply c_reg | (apply wO; apply oc; rfl; exact ydE) | apply w_nil | apply n_cd | (apply wg_t; rfl; rfl) | (apply wg_f; rfl; rfl; rfl; rfl) | (apply wg_u; rfl; rfl; rfl) | (apply c_t; rfl) | (apply c_f; rfl) | apply c_skip | apply c_block | apply n_blk | apply c_exit | apply e_hit | apply e_cd | apply e_lp | (apply e_miss; rfl) | apply c_ret | (apply wO; apply o_box; rfl; rfl; rfl; intro _) | (apply wO; apply o_alloc; rfl; intro _) | (apply wO; apply o_st; rfl; rfl; rfl; (first | exact AggC.s | exact OneC.s); rfl; exact rplE; exact putE; rfl) | (apply wO; apply o_bs0; rfl; intro _) | (apply wO; apply o_bs; rfl; rfl; rfl; rfl; exact rptE; exact filE; intro _) | (apply wO; apply o_call; rfl; kernel_rfl; exact evsE))
  rename_i gg
  refine c_loopS [4, 5, 6, 7, 22, 23] (fun s : SaS => [(8, .int .i64 s.n), (24, .int .i64 s.k)]) (fun s => [.row gg 26 0 [] [.slice s.a s.y.queue.length s.c, .string s.y.fates, .int .i64 s.y.used] [], .ow EStr 9 (.slice s.a s.y.queue.length s.c) s.y.queue s.F]) (SaOk x xs) (fun s => xs.length - s.k) ⟨x, 0, 0, a2, c2, F3⟩ ⟨g1, Int.le_refl _, Int.le_refl _, Nat.zero_le _, rfl⟩ fun s hC => ?_
  obtain ⟨hg, n0, n1, hk, he⟩ := hC
  repeat (first | apply c_seq | apply c_reg | (apply wO; apply oc; rfl; exact ydE) | apply w_nil | apply n_cd | (apply wg_t; rfl; rfl) | (apply wg_f; rfl; rfl; rfl; rfl) | (apply wg_u; rfl; rfl; rfl) | (apply c_t; rfl) | (apply c_f; rfl) | apply c_skip | apply c_block | apply n_blk | apply c_exit | apply e_hit | apply e_cd | apply e_lp | (apply e_miss; rfl) | apply c_ret | (apply wO; apply o_box; rfl; rfl; rfl; intro _) | (apply wO; apply o_alloc; rfl; intro _) | (apply wO; apply o_st; rfl; rfl; rfl; (first | exact AggC.s | exact OneC.s); rfl; exact rplE; exact putE; rfl) | (apply wO; apply o_bs0; rfl; intro _) | (apply wO; apply o_bs; rfl; rfl; rfl; rfl; exact rptE; exact filE; intro _) | (apply wO; apply o_call; rfl; kernel_rfl; exact evsE))
  refine c_if rfl (fun h2 => ?_) (fun h2 => ?_)
  · have hk2 : s.k < xs.length := by omega
    repeat (first | apply c_seq | apply c_reg | (apply wO; apply oc; rfl; exact ydE) | apply w_nil | apply n_cd | (apply wg_t; rfl; rfl) | (apply wg_f; rfl; rfl; rfl; rfl) | (apply wg_u; rfl; rfl; rfl) | (apply c_t; rfl) | (apply c_f; rfl) | apply c_skip | apply c_block | apply n_blk | apply c_exit | apply e_hit | apply e_cd | apply e_lp | (apply e_miss; rfl) | apply c_ret | (apply wO; apply o_box; rfl; rfl; rfl; intro _) | (apply wO; apply o_alloc; rfl; intro _) | (apply wO; apply o_st; rfl; rfl; rfl; (first | exact AggC.s | exact OneC.s); rfl; exact rplE; exact putE; rfl) | (apply wO; apply o_bs0; rfl; intro _) | (apply wO; apply o_bs; rfl; rfl; rfl; rfl; exact rptE; exact filE; intro _) | (apply wO; apply o_call; rfl; kernel_rfl; exact evsE))
    refine at_str (xs := xs) s.k ?_
    rintro hi b o e s1
    rw [e]
    repeat (first | apply c_seq | apply c_reg | (apply wO; apply oc; rfl; exact ydE) | apply w_nil | apply n_cd | (apply wg_t; rfl; rfl) | (apply wg_f; rfl; rfl; rfl; rfl) | (apply wg_u; rfl; rfl; rfl) | (apply c_t; rfl) | (apply c_f; rfl) | apply c_skip | apply c_block | apply n_blk | apply c_exit | apply e_hit | apply e_cd | apply e_lp | (apply e_miss; rfl) | apply c_ret | (apply wO; apply o_box; rfl; rfl; rfl; intro _) | (apply wO; apply o_alloc; rfl; intro _) | (apply wO; apply o_st; rfl; rfl; rfl; (first | exact AggC.s | exact OneC.s); rfl; exact rplE; exact putE; rfl) | (apply wO; apply o_bs0; rfl; intro _) | (apply wO; apply o_bs; rfl; rfl; rfl; rfl; exact rptE; exact filE; intro _) | (apply wO; apply o_call; rfl; kernel_rfl; exact evsE))
    refine cf (send_f s.y xs[s.k] _ _ _ _ _ s.a s.c s.F hg s1) fun z _ => ?_
    refine t_app ?_
    rw [sentAll_step hk2] at he
    cases g2 : sendOk s.y xs[s.k]
    · rw [g2, if_neg (by decide)] at he
      repeat (first | apply c_seq | apply c_reg | (apply wO; apply oc; rfl; exact ydE) | apply w_nil | apply n_cd | (apply wg_t; rfl; rfl) | (apply wg_f; rfl; rfl; rfl; rfl) | (apply wg_u; rfl; rfl; rfl) | (apply c_t; rfl) | (apply c_f; rfl) | apply c_skip | apply c_block | apply n_blk | apply c_exit | apply e_hit | apply e_cd | apply e_lp | (apply e_miss; rfl) | apply c_ret | (apply wO; apply o_box; rfl; rfl; rfl; intro _) | (apply wO; apply o_alloc; rfl; intro _) | (apply wO; apply o_st; rfl; rfl; rfl; (first | exact AggC.s | exact OneC.s); rfl; exact rplE; exact putE; rfl) | (apply wO; apply o_bs0; rfl; intro _) | (apply wO; apply o_bs; rfl; rfl; rfl; rfl; exact rptE; exact filE; intro _) | (apply wO; apply o_call; rfl; kernel_rfl; exact evsE))
      refine n_lp ⟨sendL s.y xs[s.k], s.n + 1, s.k + 1, z.a, z.c, z.F⟩ ⟨sendL_good _ hg, by show 0 ≤ s.n + 1; omega, by show s.n + 1 ≤ ((s.k + 1 : Nat) : Int); omega, hk2, he⟩ (by show xs.length - (s.k + 1) < _; omega)
    · rw [g2, if_pos rfl] at he
      repeat (first | apply c_seq | apply c_reg | (apply wO; apply oc; rfl; exact ydE) | apply w_nil | apply n_cd | (apply wg_t; rfl; rfl) | (apply wg_f; rfl; rfl; rfl; rfl) | (apply wg_u; rfl; rfl; rfl) | (apply c_t; rfl) | (apply c_f; rfl) | apply c_skip | apply c_block | apply n_blk | apply c_exit | apply e_hit | apply e_cd | apply e_lp | (apply e_miss; rfl) | apply c_ret | (apply wO; apply o_box; rfl; rfl; rfl; intro _) | (apply wO; apply o_alloc; rfl; intro _) | (apply wO; apply o_st; rfl; rfl; rfl; (first | exact AggC.s | exact OneC.s); rfl; exact rplE; exact putE; rfl) | (apply wO; apply o_bs0; rfl; intro _) | (apply wO; apply o_bs; rfl; rfl; rfl; rfl; exact rptE; exact filE; intro _) | (apply wO; apply o_call; rfl; kernel_rfl; exact evsE))
      refine n_lp ⟨sendL s.y xs[s.k], s.n, s.k + 1, z.a, z.c, z.F⟩ ⟨sendL_good _ hg, n0, by show s.n ≤ ((s.k + 1 : Nat) : Int); omega, hk2, he⟩ (by show xs.length - (s.k + 1) < _; omega)
  · have hk2 : s.k = xs.length := by omega
    rw [hk2, List.drop_length] at he
    rw [resSendAll_yes (by unfold okSendAll; rw [g1, decide_eq_false h1]; rfl), show sentAll x 0 xs = (s.y, s.n) from he]
    repeat (first | apply c_seq | apply c_reg | (apply wO; apply oc; rfl; exact ydE) | apply w_nil | apply n_cd | (apply wg_t; rfl; rfl) | (apply wg_f; rfl; rfl; rfl; rfl) | (apply wg_u; rfl; rfl; rfl) | (apply c_t; rfl) | (apply c_f; rfl) | apply c_skip | apply c_block | apply n_blk | apply c_exit | apply e_hit | apply e_cd | apply e_lp | (apply e_miss; rfl) | apply c_ret | (apply wO; apply o_box; rfl; rfl; rfl; intro _) | (apply wO; apply o_alloc; rfl; intro _) | (apply wO; apply o_st; rfl; rfl; rfl; (first | exact AggC.s | exact OneC.s); rfl; exact rplE; exact putE; rfl) | (apply wO; apply o_bs0; rfl; intro _) | (apply wO; apply o_bs; rfl; rfl; rfl; rfl; exact rptE; exact filE; intro _) | (apply wO; apply o_call; rfl; kernel_rfl; exact evsE))
    have hf2 := (goodL_of hg).f
    refine closeOLink s.y (by unfold maxLen; omega) ?_
    refine ret ⟨s.a, s.c, s.F⟩ trivial rfl
theorem SendAll_c (v0 : Value) (x0 : Link) (F0 : List Nat) (v1 : Value) (x1 : List ByteArray) (F1 : List Nat) (w : World) (h0 : IsV ELink w v0 x0 F0) (h1 : Sl EStr w v1 x1 F1) :
    Calls Tryd.prog 24 #[v0, v1] w (PI_SendAll (resSendAll x0 x1) w) := by
  refine ((SendAll_f x0 x1 v0 v1 F0 F1).made w (hol2 h0 ⟨by decide, h1⟩) (fun _ => rfl)).mono ?_
  rintro e w' ⟨s, -, rfl, hH, hn, hF, hB⟩
  have a1 := hH _ (List.mem_cons_self ..)
  simp only [fp, Pc.F, List.append_nil] at hn hF
  exact ⟨_, s.F, rfl, a1.2, hn, hF, hB⟩
end Go.Proofs.YtkcajnpdmgafjaaDoor
