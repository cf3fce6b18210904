/- Sources: TickSource of the program. -/
import Derived.Test.YtidephmobajikaaDoorSWp
import Derived.Test.YtidephmobajikaaDoorXtPacket
import Derived.Test.YtidephmobajikaaDoorXs
namespace Go.Proofs.YtidephmobajikaaDoor
open Go.RowKit
set_option maxRecDepth 100000 in
theorem status_f (t z : Int) (a : Option Addr) (n c : Nat) (h0 : 0 ≤ t) (h1 : t ≤ 65535) (hn : n ≤ 4294967296) : Fn Tryd.prog 123 [.agg #[.int .i64 t, .int .i64 z, .slice a n c]] [] [] (fun (_ : Unit) => True) (fun _ => .agg #[.int .i64 5, .int .i64 t, .int .i64 t, .int .i64 (aft t n), .string ⟨#[]⟩]) (fun _ => []) := by
  refine enter Tryd.func123 rfl Tryd.ntmps123 fun w0 => ?_
  repeat (first | apply c_seq | apply c_reg | (apply wO; apply oc; rfl; exact ydE) | apply w_nil | apply n_cd | (apply wg_t; rfl; rfl) | (apply wg_f; rfl; rfl; rfl; rfl) | (apply wg_u; rfl; rfl; rfl) | (apply c_t; rfl) | (apply c_f; rfl) | apply c_skip | apply c_block | apply n_blk | apply c_exit | apply e_hit | apply e_cd | apply e_lp | (apply e_miss; rfl) | apply c_ret | (apply wO; apply o_box; rfl; rfl; rfl; intro _) | (apply wO; apply o_alloc; rfl; intro _) | (apply wO; apply o_st; rfl; rfl; rfl; (first | exact AggC.s | exact OneC.s); rfl; exact rplE; exact putE; rfl) | (apply wO; apply o_bs0; rfl; intro _) | (apply wO; apply o_bs; rfl; rfl; rfl; rfl; exact rptE; exact filE; intro _) | (apply wO; apply o_call; rfl; kernel_rfl; exact evsE))
  refine d_start [1] [7] ?_
  refine dt 0 ?_
  refine dt 1 ?_
  refine dt 2 ?_
  refine dt 3 ?_
  refine dt 4 ?_
  refine dO 5 (by kernel_rfl) (by rw [List.getElem?_toArray]; rfl) ?_
  apply o_call; rfl; kernel_rfl; exact evsE
  refine cb (fun w _ => SendWindow_lead_c t z a n c w h0 h1 hn) ?_
  refine dk ?_
  refine dt 6 ?_
  refine dO 7 (by kernel_rfl) (by rw [List.getElem?_toArray]; rfl) ?_
  apply o_st; rfl; rfl; rfl; (first | exact AggC.s | exact OneC.s); rfl; exact rplE; exact putE; rfl
  refine dkx ?_
  refine dd ?_
  repeat (first | apply c_seq | apply c_reg | (apply wO; apply oc; rfl; exact ydE) | apply w_nil | apply n_cd | (apply wg_t; rfl; rfl) | (apply wg_f; rfl; rfl; rfl; rfl) | (apply wg_u; rfl; rfl; rfl) | (apply c_t; rfl) | (apply c_f; rfl) | apply c_skip | apply c_block | apply n_blk | apply c_exit | apply e_hit | apply e_cd | apply e_lp | (apply e_miss; rfl) | apply c_ret | (apply wO; apply o_box; rfl; rfl; rfl; intro _) | (apply wO; apply o_alloc; rfl; intro _) | (apply wO; apply o_st; rfl; rfl; rfl; (first | exact AggC.s | exact OneC.s); rfl; exact rplE; exact putE; rfl) | (apply wO; apply o_bs0; rfl; intro _) | (apply wO; apply o_bs; rfl; rfl; rfl; rfl; exact rptE; exact filE; intro _) | (apply wO; apply o_call; rfl; kernel_rfl; exact evsE))
  refine ret () trivial rfl
set_option maxRecDepth 100000 in
theorem l9Status_f (t z : Int) (a : Option Addr) (n c : Nat) (h0 : 0 ≤ t) (h1 : t ≤ 65535) (hn : n ≤ 4294967296) : Fn Tryd.prog 124 [.agg #[.int .i64 t, .int .i64 z, .slice a n c]] [] [] (fun (_ : Unit) => True) (fun _ => .agg #[.int .i64 5, .int .i64 t, .int .i64 t, .int .i64 (aft t n), .string ⟨#[]⟩]) (fun _ => []) := by
  refine enter Tryd.func124 rfl Tryd.ntmps124 fun w0 => ?_
  repeat (first | apply c_seq | apply c_reg | (apply wO; apply oc; rfl; exact ydE) | apply w_nil | apply n_cd | (apply wg_t; rfl; rfl) | (apply wg_f; rfl; rfl; rfl; rfl) | (apply wg_u; rfl; rfl; rfl) | (apply c_t; rfl) | (apply c_f; rfl) | apply c_skip | apply c_block | apply n_blk | apply c_exit | apply e_hit | apply e_cd | apply e_lp | (apply e_miss; rfl) | apply c_ret | (apply wO; apply o_box; rfl; rfl; rfl; intro _) | (apply wO; apply o_alloc; rfl; intro _) | (apply wO; apply o_st; rfl; rfl; rfl; (first | exact AggC.s | exact OneC.s); rfl; exact rplE; exact putE; rfl) | (apply wO; apply o_bs0; rfl; intro _) | (apply wO; apply o_bs; rfl; rfl; rfl; rfl; exact rptE; exact filE; intro _) | (apply wO; apply o_call; rfl; kernel_rfl; exact evsE))
  refine d_start [1] [7] ?_
  refine dt 0 ?_
  refine dt 1 ?_
  refine dt 2 ?_
  refine dt 3 ?_
  refine dt 4 ?_
  refine dO 5 (by kernel_rfl) (by rw [List.getElem?_toArray]; rfl) ?_
  apply o_call; rfl; kernel_rfl; exact evsE
  refine cb (fun w _ => l9Lead_c t z a n c w h0 h1 hn) ?_
  refine dk ?_
  refine dt 6 ?_
  refine dO 7 (by kernel_rfl) (by rw [List.getElem?_toArray]; rfl) ?_
  apply o_st; rfl; rfl; rfl; (first | exact AggC.s | exact OneC.s); rfl; exact rplE; exact putE; rfl
  refine dkx ?_
  refine dd ?_
  repeat (first | apply c_seq | apply c_reg | (apply wO; apply oc; rfl; exact ydE) | apply w_nil | apply n_cd | (apply wg_t; rfl; rfl) | (apply wg_f; rfl; rfl; rfl; rfl) | (apply wg_u; rfl; rfl; rfl) | (apply c_t; rfl) | (apply c_f; rfl) | apply c_skip | apply c_block | apply n_blk | apply c_exit | apply e_hit | apply e_cd | apply e_lp | (apply e_miss; rfl) | apply c_ret | (apply wO; apply o_box; rfl; rfl; rfl; intro _) | (apply wO; apply o_alloc; rfl; intro _) | (apply wO; apply o_st; rfl; rfl; rfl; (first | exact AggC.s | exact OneC.s); rfl; exact rplE; exact putE; rfl) | (apply wO; apply o_bs0; rfl; intro _) | (apply wO; apply o_bs; rfl; rfl; rfl; rfl; exact rptE; exact filE; intro _) | (apply wO; apply o_call; rfl; kernel_rfl; exact evsE))
  refine ret () trivial rfl

def keepT (cl : Int) (hs : List Hold) : List Hold := hs.filter fun h => !decide (h.untl ≤ cl)
def tickQ (q : Int) : Int := if q + 1 < 4 then q + 1 else 0
def tickP (x : SendWindow) (q : Int) : List Packet := if q + 1 < 4 then [] else [statP x]
def tickS (x : Source) : Source := ⟨x.window, x.clock + 1, tickQ x.quiet, keepT (x.clock + 1) x.holds⟩
def okTickSource (x : Source) : Bool := goodSrc x && !decide (x.clock = 9999)
def resTickSource (x : Source) : Source × List Packet × Bool := if okTickSource x then (tickS x, tickP x.window x.quiet, true) else (zSrc, [], false)
theorem resTick_no {x : Source} (h : okTickSource x = false) : resTickSource x = (zSrc, [], false) := by unfold resTickSource; rw [h]; rfl
theorem resTick_yes {x : Source} (h : okTickSource x = true) : resTickSource x = (tickS x, tickP x.window x.quiet, true) := by unfold resTickSource; rw [h]; rfl
theorem quiet_bd {x : Source} (h : goodSrc x = true) : 0 ≤ x.quiet ∧ x.quiet ≤ 3 := by
  unfold goodSrc btw at h
  simp only [Bool.and_eq_true, decide_eq_true_eq] at h
  exact h.1.2
theorem good_held {x : Source} (h : goodSrc x = true) : ∀ z ∈ x.holds, heldB x.window z.number = true := fun z hz => by
  unfold goodSrc at h
  simp only [Bool.and_eq_true] at h
  obtain ⟨i, hi, rfl⟩ := List.getElem_of_mem hz
  have := List.all_eq_true.1 h.2 i (by simpa using hi)
  rw [chkH_at hi] at this
  simp only [Bool.and_eq_true] at this
  exact this.1.1.2
structure TiS where
  a : Option Addr
  c : Nat
  a2 : Option Addr
  c2 : Nat
  F : List Nat
  ae : Option Addr
  ce : Nat
  Fe : List Nat
set_option maxRecDepth 100000 in
theorem tick1_f (h : Hold) (gb g o : Nat) (u v0 v1 v2 q Hs : Value) (cl : Int) (G : List Nat) :
    Fn Tryd.prog 205 [u, ptr gb 0 0] [.isv EHold u h G, .cel gb 0 [ptr g o 0], .cel g o [v0, v1, v2, .int .i64 cl, q, Hs]] [] (fun (_ : Unit) => True) (fun _ => .bool (decide (h.untl ≤ cl))) (fun _ => []) := by
  refine enter Tryd.func205 rfl Tryd.ntmps205 fun w0 => ?_
  refine openHold ?_
  rintro _ rfl
  repeat (first | apply c_seq | apply c_reg | (apply wO; apply oc; rfl; exact ydE) | apply w_nil | apply n_cd | (apply wg_t; rfl; rfl) | (apply wg_f; rfl; rfl; rfl; rfl) | (apply wg_u; rfl; rfl; rfl) | (apply c_t; rfl) | (apply c_f; rfl) | apply c_skip | apply c_block | apply n_blk | apply c_exit | apply e_hit | apply e_cd | apply e_lp | (apply e_miss; rfl) | apply c_ret | (apply wO; apply o_box; rfl; rfl; rfl; intro _) | (apply wO; apply o_alloc; rfl; intro _) | (apply wO; apply o_st; rfl; rfl; rfl; (first | exact AggC.s | exact OneC.s); rfl; exact rplE; exact putE; rfl) | (apply wO; apply o_bs0; rfl; intro _) | (apply wO; apply o_bs; rfl; rfl; rfl; rfl; exact rptE; exact filE; intro _) | (apply wO; apply o_call; rfl; kernel_rfl; exact evsE))
  refine d_start [0, 2, 3] [] ?_
  refine dt 0 ?_
  refine dt 1 ?_
  refine dt 2 ?_
  refine dt 3 ?_
  refine dt 4 ?_
  refine dt 5 ?_
  refine dt 6 ?_
  refine dt 7 ?_
  refine dd ?_
  repeat (first | apply c_seq | apply c_reg | (apply wO; apply oc; rfl; exact ydE) | apply w_nil | apply n_cd | (apply wg_t; rfl; rfl) | (apply wg_f; rfl; rfl; rfl; rfl) | (apply wg_u; rfl; rfl; rfl) | (apply c_t; rfl) | (apply c_f; rfl) | apply c_skip | apply c_block | apply n_blk | apply c_exit | apply e_hit | apply e_cd | apply e_lp | (apply e_miss; rfl) | apply c_ret | (apply wO; apply o_box; rfl; rfl; rfl; intro _) | (apply wO; apply o_alloc; rfl; intro _) | (apply wO; apply o_st; rfl; rfl; rfl; (first | exact AggC.s | exact OneC.s); rfl; exact rplE; exact putE; rfl) | (apply wO; apply o_bs0; rfl; intro _) | (apply wO; apply o_bs; rfl; rfl; rfl; rfl; exact rptE; exact filE; intro _) | (apply wO; apply o_call; rfl; kernel_rfl; exact evsE))
  refine ret () trivial rfl
theorem tickD_f (hs : List Hold) (gb tb g t o : Nat) (A B : List Value) (v0 v1 v2 : Value) (v3 : Value) (a2 : Option Addr) (c2 : Nat) (cl q : Int) (F2 : List Nat) :
    Fn Tryd.prog 204 [.slice a2 hs.length c2, .func (.func 205) #[] #[ptr gb 0 0]] [] [.ow EHold 195 (.slice a2 hs.length c2) hs F2, .row gb tb 0 [] [ptr g o 0] [], .row g t o A [v0, v1, v2, .int .i64 cl, .int .i64 q, v3] B] (fun (_ : Option Addr × Nat × List Nat) => True)
      (fun z => .slice z.1 (keepT cl hs).length z.2.1) (fun z => [.ow EHold 195 (.slice z.1 (keepT cl hs).length z.2.1) (keepT cl hs) z.2.2, .row gb tb 0 [] [ptr g o 0] [], .row g t o A [v0, v1, v2, .int .i64 cl, .int .i64 q, v3] B]) := by
  refine fn_lib rfl fun w ⟨hnd, ho⟩ _ hk => ?_
  refine (DeleteFunc_Hold _ (body_of (by kernel_rfl)) #[ptr gb 0 0] _ hs F2 (fun h => decide (h.untl ≤ cl)) w ho hnd fun k hk2 wr u G hK hu => ?_).mono ?_
  · have hr := hk wr hK
    have r1 := hr (.row gb tb 0 [] [ptr g o 0] []) (by simp)
    have r2 := hr (.row g t o A [v0, v1, v2, .int .i64 cl, .int .i64 q, v3] B) (by simp)
    refine (tick1_f hs[k] gb g o u v0 v1 v2 (.int .i64 q) v3 cl G).val wr ?_
    intro p hp
    simp only [List.mem_cons, List.not_mem_nil, or_false] at hp
    rcases hp with rfl | rfl | rfl
    · exact hu
    · exact ⟨by simp, row_range r1⟩
    · exact ⟨by simp, row_range r2⟩
  · rintro e w' ⟨v', F', rfl, h1, h2, h3, h4⟩
    have e : (hs.filter fun x => !(fun h : Hold => decide (h.untl ≤ cl)) x) = keepT cl hs := rfl
    rw [e] at h1
    obtain ⟨a', c', rfl⟩ := h1.slice
    exact ⟨(a', c', F'), trivial, rfl, ⟨h2, h1⟩, fun b hb => .inl (h3 b hb), h4⟩
set_option maxRecDepth 100000 in
theorem Stick_f (W : SendWindow) (hs : List Hold) (g t o : Nat) (A B : List Value) (a a2 : Option Addr) (c c2 : Nat) (cl q : Int) (F2 : List Nat) (t0 : 0 ≤ W.trail) (t1 : W.trail ≤ 65535) (hl : W.items.length ≤ 6) (k0 : 0 ≤ cl) (k1 : cl ≤ 9999) (q0 : 0 ≤ q) (q3 : q ≤ 3) :
    Fn Tryd.prog 161 [ptr g o 0] [] [.row g t o A [.int .i64 W.trail, .int .i64 W.size, .slice a W.items.length c, .int .i64 cl, .int .i64 q, .slice a2 hs.length c2] B, .ow EHold 195 (.slice a2 hs.length c2) hs F2] (fun (_ : TiS) => True)
      (fun z => .slice z.ae (tickP W q).length z.ce) (fun z => [.row g t o A [.int .i64 W.trail, .int .i64 W.size, .slice a W.items.length c, .int .i64 (cl + 1), .int .i64 (tickQ q), .slice z.a2 (keepT (cl + 1) hs).length z.c2] B, .ow EHold 195 (.slice z.a2 (keepT (cl + 1) hs).length z.c2) (keepT (cl + 1) hs) z.F, .ow EPacket 30 (.slice z.ae (tickP W q).length z.ce) (tickP W q) z.Fe]) := by
  refine enter Tryd.func161 rfl Tryd.ntmps161 fun w0 => ?_
  repeat (first | apply c_seq | apply c_reg | (apply wO; apply oc; rfl; exact ydE) | apply w_nil | apply n_cd | (apply wg_t; rfl; rfl) | (apply wg_f; rfl; rfl; rfl; rfl) | (apply wg_u; rfl; rfl; rfl) | (apply c_t; rfl) | (apply c_f; rfl) | apply c_skip | apply c_block | apply n_blk | apply c_exit | apply e_hit | apply e_cd | apply e_lp | (apply e_miss; rfl) | apply c_ret | (apply wO; apply o_box; rfl; rfl; rfl; intro _) | (apply wO; apply o_alloc; rfl; intro _) | (apply wO; apply o_st; rfl; rfl; rfl; (first | exact AggC.s | exact OneC.s); rfl; exact rplE; exact putE; rfl) | (apply wO; apply o_bs0; rfl; intro _) | (apply wO; apply o_bs; rfl; rfl; rfl; rfl; exact rptE; exact filE; intro _) | (apply wO; apply o_call; rfl; kernel_rfl; exact evsE))
  refine d_start [0, 1] [9] ?_
  refine dt 0 ?_
  refine dt 1 ?_
  refine dt 2 ?_
  refine dt 3 ?_
  refine dt 4 ?_
  refine dt 5 ?_
  refine dO 6 (by kernel_rfl) (by rw [List.getElem?_toArray]; rfl) ?_
  apply o_call; rfl; kernel_rfl; exact evsE
  refine cf (tickD_f hs _ _ g t o A B _ _ _ _ a2 c2 (cl + 1) q F2) fun z _ => ?_
  refine t_app ?_
  refine dk ?_
  refine dt 7 ?_
  refine dt 8 ?_
  refine dO 9 (by kernel_rfl) (by rw [List.getElem?_toArray]; rfl) ?_
  apply o_st; rfl; rfl; rfl; (first | exact AggC.s | exact OneC.s); rfl; exact rplE; exact putE; rfl
  refine dkx ?_
  refine dd ?_
  repeat (first | apply c_seq | apply c_reg | (apply wO; apply oc; rfl; exact ydE) | apply w_nil | apply n_cd | (apply wg_t; rfl; rfl) | (apply wg_f; rfl; rfl; rfl; rfl) | (apply wg_u; rfl; rfl; rfl) | (apply c_t; rfl) | (apply c_f; rfl) | apply c_skip | apply c_block | apply n_blk | apply c_exit | apply e_hit | apply e_cd | apply e_lp | (apply e_miss; rfl) | apply c_ret | (apply wO; apply o_box; rfl; rfl; rfl; intro _) | (apply wO; apply o_alloc; rfl; intro _) | (apply wO; apply o_st; rfl; rfl; rfl; (first | exact AggC.s | exact OneC.s); rfl; exact rplE; exact putE; rfl) | (apply wO; apply o_bs0; rfl; intro _) | (apply wO; apply o_bs; rfl; rfl; rfl; rfl; exact rptE; exact filE; intro _) | (apply wO; apply o_call; rfl; kernel_rfl; exact evsE))
  refine c_if rfl (fun h1 => ?_) (fun h1 => ?_)
  · refine t_nilow EPacket 30 ?_
    repeat (first | apply c_seq | apply c_reg | (apply wO; apply oc; rfl; exact ydE) | apply w_nil | apply n_cd | (apply wg_t; rfl; rfl) | (apply wg_f; rfl; rfl; rfl; rfl) | (apply wg_u; rfl; rfl; rfl) | (apply c_t; rfl) | (apply c_f; rfl) | apply c_skip | apply c_block | apply n_blk | apply c_exit | apply e_hit | apply e_cd | apply e_lp | (apply e_miss; rfl) | apply c_ret | (apply wO; apply o_box; rfl; rfl; rfl; intro _) | (apply wO; apply o_alloc; rfl; intro _) | (apply wO; apply o_st; rfl; rfl; rfl; (first | exact AggC.s | exact OneC.s); rfl; exact rplE; exact putE; rfl) | (apply wO; apply o_bs0; rfl; intro _) | (apply wO; apply o_bs; rfl; rfl; rfl; rfl; exact rptE; exact filE; intro _) | (apply wO; apply o_call; rfl; kernel_rfl; exact evsE))
    rw [show tickQ q = q + 1 from if_pos h1, show tickP W q = [] from if_pos h1]
    refine ret ⟨none, 0, z.1, z.2.1, z.2.2, none, 0, []⟩ trivial rfl
  · repeat (first | apply c_seq | apply c_reg | (apply wO; apply oc; rfl; exact ydE) | apply w_nil | apply n_cd | (apply wg_t; rfl; rfl) | (apply wg_f; rfl; rfl; rfl; rfl) | (apply wg_u; rfl; rfl; rfl) | (apply c_t; rfl) | (apply c_f; rfl) | apply c_skip | apply c_block | apply n_blk | apply c_exit | apply e_hit | apply e_cd | apply e_lp | (apply e_miss; rfl) | apply c_ret | (apply wO; apply o_box; rfl; rfl; rfl; intro _) | (apply wO; apply o_alloc; rfl; intro _) | (apply wO; apply o_st; rfl; rfl; rfl; (first | exact AggC.s | exact OneC.s); rfl; exact rplE; exact putE; rfl) | (apply wO; apply o_bs0; rfl; intro _) | (apply wO; apply o_bs; rfl; rfl; rfl; rfl; exact rptE; exact filE; intro _) | (apply wO; apply o_call; rfl; kernel_rfl; exact evsE))
    refine cf (status_f W.trail W.size a W.items.length c t0 t1 (by omega)) fun _ _ => ?_
    refine t_app ?_
    repeat (first | apply c_seq | apply c_reg | (apply wO; apply oc; rfl; exact ydE) | apply w_nil | apply n_cd | (apply wg_t; rfl; rfl) | (apply wg_f; rfl; rfl; rfl; rfl) | (apply wg_u; rfl; rfl; rfl) | (apply c_t; rfl) | (apply c_f; rfl) | apply c_skip | apply c_block | apply n_blk | apply c_exit | apply e_hit | apply e_cd | apply e_lp | (apply e_miss; rfl) | apply c_ret | (apply wO; apply o_box; rfl; rfl; rfl; intro _) | (apply wO; apply o_alloc; rfl; intro _) | (apply wO; apply o_st; rfl; rfl; rfl; (first | exact AggC.s | exact OneC.s); rfl; exact rplE; exact putE; rfl) | (apply wO; apply o_bs0; rfl; intro _) | (apply wO; apply o_bs; rfl; rfl; rfl; rfl; exact rptE; exact filE; intro _) | (apply wO; apply o_call; rfl; kernel_rfl; exact evsE))
    refine t_row (xs := [statP W]) (flatPacket _ (by show (⟨#[]⟩ : ByteArray).size ≤ maxLen; decide)) ?_ (by simp)
    rw [show tickQ q = 0 from if_neg h1, show tickP W q = [statP W] from if_neg h1]
    refine ret ⟨none, 0, z.1, z.2.1, z.2.2, _, _, _⟩ trivial rfl
def PS_TickSource : Source × (List Packet) × Bool → World → Ending → World → Prop := fun (r0, r1, r2) w e w' => ∃ u0 G0 u1 G1, e = .returned (.tuple #[u0, u1, .bool r2]) ∧ IsV ESource w' u0 r0 G0 ∧ Sl EPacket w' u1 r1 G1 ∧ Below w.heap.size w w'
def PI_TickSource : Source × (List Packet) × Bool → World → Ending → World → Prop := fun (r0, r1, r2) w e w' => ∃ u0 G0 u1 G1, e = .returned (.tuple #[u0, u1, .bool r2]) ∧ IsV OSource w' u0 r0 G0 ∧ Ow EPacket 30 w' u1 r1 G1 ∧ (G0 ++ G1).Nodup ∧ (∀ b ∈ G0 ++ G1, w.heap.size ≤ b) ∧ Below w.heap.size w w'
set_option maxRecDepth 100000 in
theorem TickSource_f (x : Source) (v : Value) (F : List Nat) :
    Fn Tryd.prog 74 [v] [.isv ESource v x F] [] (fun (_ : TiS) => True)
      (fun s => .tuple #[.agg #[.int .i64 (resTickSource x).1.window.trail, .int .i64 (resTickSource x).1.window.size, .slice s.a (resTickSource x).1.window.items.length s.c, .int .i64 (resTickSource x).1.clock, .int .i64 (resTickSource x).1.quiet, .slice s.a2 (resTickSource x).1.holds.length s.c2], .slice s.ae (resTickSource x).2.1.length s.ce, .bool (resTickSource x).2.2]) (fun s => [.own OSource (.agg #[.int .i64 (resTickSource x).1.window.trail, .int .i64 (resTickSource x).1.window.size, .slice s.a (resTickSource x).1.window.items.length s.c, .int .i64 (resTickSource x).1.clock, .int .i64 (resTickSource x).1.quiet, .slice s.a2 (resTickSource x).1.holds.length s.c2]) (resTickSource x).1 s.F, .ow EPacket 30 (.slice s.ae (resTickSource x).2.1.length s.ce) (resTickSource x).2.1 s.Fe]) := by
  refine enter Tryd.func74 rfl Tryd.ntmps74 fun w0 => ?_
  refine t_nilow EStr 9 ?_
  refine t_nilow EHold 195 ?_
  refine closeOSource zSrc ?_
  refine t_nilow EPacket 30 ?_
  refine openSource ?_
  rintro a1 c1 F1 a2 c2 F2 rfl l1 l2
  repeat (first | apply c_seq | apply c_reg | (apply wO; apply oc; rfl; exact ydE) | apply w_nil | apply n_cd | (apply wg_t; rfl; rfl) | (apply wg_f; rfl; rfl; rfl; rfl) | (apply wg_u; rfl; rfl; rfl) | (apply c_t; rfl) | (apply c_f; rfl) | apply c_skip | apply c_block | apply n_blk | apply c_exit | apply e_hit | apply e_cd | apply e_lp | (apply e_miss; rfl) | apply c_ret | (apply wO; apply o_box; rfl; rfl; rfl; intro _) | (apply wO; apply o_alloc; rfl; intro _) | (apply wO; apply o_st; rfl; rfl; rfl; (first | exact AggC.s | exact OneC.s); rfl; exact rplE; exact putE; rfl) | (apply wO; apply o_bs0; rfl; intro _) | (apply wO; apply o_bs; rfl; rfl; rfl; rfl; exact rptE; exact filE; intro _) | (apply wO; apply o_call; rfl; kernel_rfl; exact evsE))
  refine cb (fun w st => (IsValidSource_f x _ F).val w (hol1 (st.get (p := .isv ESource (.agg #[.int .i64 x.window.trail, .int .i64 x.window.size, .slice a1 x.window.items.length c1, .int .i64 x.clock, .int .i64 x.quiet, .slice a2 x.holds.length c2]) x F) (by simp)))) ?_
  cases g1 : goodSrc x
  · repeat (first | apply c_seq | apply c_reg | (apply wO; apply oc; rfl; exact ydE) | apply w_nil | apply n_cd | (apply wg_t; rfl; rfl) | (apply wg_f; rfl; rfl; rfl; rfl) | (apply wg_u; rfl; rfl; rfl) | (apply c_t; rfl) | (apply c_f; rfl) | apply c_skip | apply c_block | apply n_blk | apply c_exit | apply e_hit | apply e_cd | apply e_lp | (apply e_miss; rfl) | apply c_ret | (apply wO; apply o_box; rfl; rfl; rfl; intro _) | (apply wO; apply o_alloc; rfl; intro _) | (apply wO; apply o_st; rfl; rfl; rfl; (first | exact AggC.s | exact OneC.s); rfl; exact rplE; exact putE; rfl) | (apply wO; apply o_bs0; rfl; intro _) | (apply wO; apply o_bs; rfl; rfl; rfl; rfl; exact rptE; exact filE; intro _) | (apply wO; apply o_call; rfl; kernel_rfl; exact evsE))
    rw [resTick_no (by unfold okTickSource; rw [g1]; rfl)]
    refine ret ⟨none, 0, none, 0, _, none, 0, _⟩ trivial rfl
  obtain ⟨gw, hl, t0, t1, k0, k1, hm, hn, hu, hb⟩ := goodS_of g1
  obtain ⟨q0, q3⟩ := quiet_bd g1
  repeat (first | apply c_seq | apply c_reg | (apply wO; apply oc; rfl; exact ydE) | apply w_nil | apply n_cd | (apply wg_t; rfl; rfl) | (apply wg_f; rfl; rfl; rfl; rfl) | (apply wg_u; rfl; rfl; rfl) | (apply c_t; rfl) | (apply c_f; rfl) | apply c_skip | apply c_block | apply n_blk | apply c_exit | apply e_hit | apply e_cd | apply e_lp | (apply e_miss; rfl) | apply c_ret | (apply wO; apply o_box; rfl; rfl; rfl; intro _) | (apply wO; apply o_alloc; rfl; intro _) | (apply wO; apply o_st; rfl; rfl; rfl; (first | exact AggC.s | exact OneC.s); rfl; exact rplE; exact putE; rfl) | (apply wO; apply o_bs0; rfl; intro _) | (apply wO; apply o_bs; rfl; rfl; rfl; rfl; exact rptE; exact filE; intro _) | (apply wO; apply o_call; rfl; kernel_rfl; exact evsE))
  refine c_if rfl (fun h2 => ?_) (fun h2 => ?_)
  · repeat (first | apply c_seq | apply c_reg | (apply wO; apply oc; rfl; exact ydE) | apply w_nil | apply n_cd | (apply wg_t; rfl; rfl) | (apply wg_f; rfl; rfl; rfl; rfl) | (apply wg_u; rfl; rfl; rfl) | (apply c_t; rfl) | (apply c_f; rfl) | apply c_skip | apply c_block | apply n_blk | apply c_exit | apply e_hit | apply e_cd | apply e_lp | (apply e_miss; rfl) | apply c_ret | (apply wO; apply o_box; rfl; rfl; rfl; intro _) | (apply wO; apply o_alloc; rfl; intro _) | (apply wO; apply o_st; rfl; rfl; rfl; (first | exact AggC.s | exact OneC.s); rfl; exact rplE; exact putE; rfl) | (apply wO; apply o_bs0; rfl; intro _) | (apply wO; apply o_bs; rfl; rfl; rfl; rfl; exact rptE; exact filE; intro _) | (apply wO; apply o_call; rfl; kernel_rfl; exact evsE))
    rw [resTick_no (by unfold okTickSource; rw [g1, decide_eq_true h2]; rfl)]
    refine ret ⟨none, 0, none, 0, _, none, 0, _⟩ trivial rfl
  rw [resTick_yes (by unfold okTickSource; rw [g1, decide_eq_false h2]; rfl)]
  repeat (first | apply c_seq | apply c_reg | (apply wO; apply oc; rfl; exact ydE) | apply w_nil | apply n_cd | (apply wg_t; rfl; rfl) | (apply wg_f; rfl; rfl; rfl; rfl) | (apply wg_u; rfl; rfl; rfl) | (apply c_t; rfl) | (apply c_f; rfl) | apply c_skip | apply c_block | apply n_blk | apply c_exit | apply e_hit | apply e_cd | apply e_lp | (apply e_miss; rfl) | apply c_ret | (apply wO; apply o_box; rfl; rfl; rfl; intro _) | (apply wO; apply o_alloc; rfl; intro _) | (apply wO; apply o_st; rfl; rfl; rfl; (first | exact AggC.s | exact OneC.s); rfl; exact rplE; exact putE; rfl) | (apply wO; apply o_bs0; rfl; intro _) | (apply wO; apply o_bs; rfl; rfl; rfl; rfl; exact rptE; exact filE; intro _) | (apply wO; apply o_call; rfl; kernel_rfl; exact evsE))
  refine cf (Sclone_f x _ F (by omega) (by omega)) fun z _ => ?_
  refine t_app ?_
  refine openOSource ?_
  rintro a5 c5 F5 a6 c6 F6 e5 l5 l6
  rw [e5]
  repeat (first | apply c_seq | apply c_reg | (apply wO; apply oc; rfl; exact ydE) | apply w_nil | apply n_cd | (apply wg_t; rfl; rfl) | (apply wg_f; rfl; rfl; rfl; rfl) | (apply wg_u; rfl; rfl; rfl) | (apply c_t; rfl) | (apply c_f; rfl) | apply c_skip | apply c_block | apply n_blk | apply c_exit | apply e_hit | apply e_cd | apply e_lp | (apply e_miss; rfl) | apply c_ret | (apply wO; apply o_box; rfl; rfl; rfl; intro _) | (apply wO; apply o_alloc; rfl; intro _) | (apply wO; apply o_st; rfl; rfl; rfl; (first | exact AggC.s | exact OneC.s); rfl; exact rplE; exact putE; rfl) | (apply wO; apply o_bs0; rfl; intro _) | (apply wO; apply o_bs; rfl; rfl; rfl; rfl; exact rptE; exact filE; intro _) | (apply wO; apply o_call; rfl; kernel_rfl; exact evsE))
  refine cf (Stick_f x.window x.holds _ _ _ _ _ a5 a6 c5 c6 x.clock x.quiet F6 t0 t1 hl k0 k1 q0 q3) fun q _ => ?_
  refine t_app ?_
  repeat (first | apply c_seq | apply c_reg | (apply wO; apply oc; rfl; exact ydE) | apply w_nil | apply n_cd | (apply wg_t; rfl; rfl) | (apply wg_f; rfl; rfl; rfl; rfl) | (apply wg_u; rfl; rfl; rfl) | (apply c_t; rfl) | (apply c_f; rfl) | apply c_skip | apply c_block | apply n_blk | apply c_exit | apply e_hit | apply e_cd | apply e_lp | (apply e_miss; rfl) | apply c_ret | (apply wO; apply o_box; rfl; rfl; rfl; intro _) | (apply wO; apply o_alloc; rfl; intro _) | (apply wO; apply o_st; rfl; rfl; rfl; (first | exact AggC.s | exact OneC.s); rfl; exact rplE; exact putE; rfl) | (apply wO; apply o_bs0; rfl; intro _) | (apply wO; apply o_bs; rfl; rfl; rfl; rfl; exact rptE; exact filE; intro _) | (apply wO; apply o_call; rfl; kernel_rfl; exact evsE))
  refine closeOSource (tickS x) ?_
  refine ret ⟨_, _, _, _, _, _, _, _⟩ trivial rfl
theorem TickSource_c (v0 : Value) (x0 : Source) (F0 : List Nat) (w : World) (h0 : IsV ESource w v0 x0 F0) :
    Calls Tryd.prog 74 #[v0] w (PI_TickSource (resTickSource x0) w) := by
  refine ((TickSource_f x0 v0 F0).made w (hol1 h0) (fun _ => rfl)).mono ?_
  rintro e w' ⟨s, -, rfl, hH, hn, hF, hB⟩
  have a1 := hH _ (List.mem_cons_self ..)
  have a2 := hH _ (List.mem_cons_of_mem _ (List.mem_cons_self ..))
  simp only [fp, Pc.F, List.append_nil] at hn hF
  exact ⟨_, s.F, _, s.Fe, rfl, a1.2, a2.2, hn, hF, hB⟩
end Go.Proofs.YtidephmobajikaaDoor
