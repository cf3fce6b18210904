/- Sources: the copy, the holds that are kept. -/
import Derived.Test.YtkcajnpdmgafjaaDoorSR2
import Derived.Test.YtkcajnpdmgafjaaDoorLibHold
import Derived.Test.YtkcajnpdmgafjaaDoorLibString
namespace Go.Proofs.YtkcajnpdmgafjaaDoor
open Go.RowKit
set_option maxRecDepth 100000 in
theorem Sclone_f (x : Source) (v : Value) (F : List Nat) (hl : x.window.items.length ≤ 4294967296) (hl2 : x.holds.length ≤ 4294967296) : Fn Tryd.prog 194 [v] [.isv ESource v x F] [] (fun (_ : Value × List Nat) => True)
    (fun s => s.1) (fun s => [.own OSource s.1 x s.2]) := by
  refine enter Tryd.func194 rfl Tryd.ntmps194 fun w0 => ?_
  refine openSource ?_
  rintro a1 c1 F1 a2 c2 F2 rfl l1 l2
  refine closeSendWindow x.window ?_
  generalize F1 = F3
  repeat (first | apply c_seq | apply c_reg | (apply wO; apply oc; rfl; exact ydE) | apply w_nil | apply n_cd | (apply wg_t; rfl; rfl) | (apply wg_f; rfl; rfl; rfl; rfl) | (apply wg_u; rfl; rfl; rfl) | (apply c_t; rfl) | (apply c_f; rfl) | apply c_skip | apply c_block | apply n_blk | apply c_exit | apply e_hit | apply e_cd | apply e_lp | (apply e_miss; rfl) | apply c_ret | (apply wO; apply o_box; rfl; rfl; rfl; intro _) | (apply wO; apply o_alloc; rfl; intro _) | (apply wO; apply o_st; rfl; rfl; rfl; (first | exact AggC.s | exact OneC.s); rfl; exact rplE; exact putE; rfl) | (apply wO; apply o_bs0; rfl; intro _) | (apply wO; apply o_bs; rfl; rfl; rfl; rfl; exact rptE; exact filE; intro _) | (apply wO; apply o_call; rfl; kernel_rfl; exact evsE))
  refine cv (fun w s => SendWindow_clone_c _ x.window _ w (s.get (p := .isv ESendWindow (.agg #[.int .i64 x.window.trail, .int .i64 x.window.size, .slice a1 x.window.items.length c1]) x.window F3) (by simp)) hl) fun v F' => ?_
  refine openOSendWindow ?_
  rintro a5 c5 F5 rfl l5
  repeat (first | apply c_seq | apply c_reg | (apply wO; apply oc; rfl; exact ydE) | apply w_nil | apply n_cd | (apply wg_t; rfl; rfl) | (apply wg_f; rfl; rfl; rfl; rfl) | (apply wg_u; rfl; rfl; rfl) | (apply c_t; rfl) | (apply c_f; rfl) | apply c_skip | apply c_block | apply n_blk | apply c_exit | apply e_hit | apply e_cd | apply e_lp | (apply e_miss; rfl) | apply c_ret | (apply wO; apply o_box; rfl; rfl; rfl; intro _) | (apply wO; apply o_alloc; rfl; intro _) | (apply wO; apply o_st; rfl; rfl; rfl; (first | exact AggC.s | exact OneC.s); rfl; exact rplE; exact putE; rfl) | (apply wO; apply o_bs0; rfl; intro _) | (apply wO; apply o_bs; rfl; rfl; rfl; rfl; exact rptE; exact filE; intro _) | (apply wO; apply o_call; rfl; kernel_rfl; exact evsE))
  refine cn (fun w s => Clone_Hold _ _ _ _ (s.get (p := .sl EHold (.slice a2 x.holds.length c2) x.holds F2) (by simp)).2 hl2) fun a6 c6 F6 => ?_
  repeat (first | apply c_seq | apply c_reg | (apply wO; apply oc; rfl; exact ydE) | apply w_nil | apply n_cd | (apply wg_t; rfl; rfl) | (apply wg_f; rfl; rfl; rfl; rfl) | (apply wg_u; rfl; rfl; rfl) | (apply c_t; rfl) | (apply c_f; rfl) | apply c_skip | apply c_block | apply n_blk | apply c_exit | apply e_hit | apply e_cd | apply e_lp | (apply e_miss; rfl) | apply c_ret | (apply wO; apply o_box; rfl; rfl; rfl; intro _) | (apply wO; apply o_alloc; rfl; intro _) | (apply wO; apply o_st; rfl; rfl; rfl; (first | exact AggC.s | exact OneC.s); rfl; exact rplE; exact putE; rfl) | (apply wO; apply o_bs0; rfl; intro _) | (apply wO; apply o_bs; rfl; rfl; rfl; rfl; exact rptE; exact filE; intro _) | (apply wO; apply o_call; rfl; kernel_rfl; exact evsE))
  refine closeOSource x ?_
  refine ret (_, _) trivial rfl
set_option maxRecDepth 100000 in
theorem keep1_f (W : SendWindow) (h : Hold) (gb g o : Nat) (u : Value) (a : Option Addr) (c : Nat) (cl q : Value) (Hs : Value) (G Fw : List Nat) (t0 : 0 ≤ W.trail) (t1 : W.trail ≤ 65535) (n0 : 0 ≤ h.number) (n1 : h.number ≤ 65535) :
    Fn Tryd.prog 240 [u, ptr gb 0 0] [.isv EHold u h G, .cel gb 0 [ptr g o 0], .cel g o [.int .i64 W.trail, .int .i64 W.size, .slice a W.items.length c, cl, q, Hs], .isv ESendWindow (.agg #[.int .i64 W.trail, .int .i64 W.size, .slice a W.items.length c]) W Fw] [] (fun (_ : Unit) => True) (fun _ => .bool (!heldB W h.number)) (fun _ => []) := by
  refine enter Tryd.func240 rfl Tryd.ntmps240 fun w0 => ?_
  refine openHold ?_
  rintro _ rfl
  repeat (first | apply c_seq | apply c_reg | (apply wO; apply oc; rfl; exact ydE) | apply w_nil | apply n_cd | (apply wg_t; rfl; rfl) | (apply wg_f; rfl; rfl; rfl; rfl) | (apply wg_u; rfl; rfl; rfl) | (apply c_t; rfl) | (apply c_f; rfl) | apply c_skip | apply c_block | apply n_blk | apply c_exit | apply e_hit | apply e_cd | apply e_lp | (apply e_miss; rfl) | apply c_ret | (apply wO; apply o_box; rfl; rfl; rfl; intro _) | (apply wO; apply o_alloc; rfl; intro _) | (apply wO; apply o_st; rfl; rfl; rfl; (first | exact AggC.s | exact OneC.s); rfl; exact rplE; exact putE; rfl) | (apply wO; apply o_bs0; rfl; intro _) | (apply wO; apply o_bs; rfl; rfl; rfl; rfl; exact rptE; exact filE; intro _) | (apply wO; apply o_call; rfl; kernel_rfl; exact evsE))
  refine d_start [0, 2, 3] [] ?_
  refine dt 0 ?_
  refine dt 1 ?_
  refine dt 2 ?_
  refine dt 3 ?_
  refine dt 4 ?_
  refine dt 5 ?_
  refine dO 6 (by kernel_rfl) (by rw [List.getElem?_toArray]; rfl) ?_
  apply o_call; rfl; kernel_rfl; exact evsE
  refine cb (fun w st => (isHeld_f W h.number _ _ t0 t1 n0 n1).val w (hol1 (st.get (p := .isv ESendWindow (.agg #[.int .i64 W.trail, .int .i64 W.size, .slice a W.items.length c]) W Fw) (by simp)))) ?_
  refine dk ?_
  refine dt 7 ?_
  refine dt 8 ?_
  refine dd ?_
  repeat (first | apply c_seq | apply c_reg | (apply wO; apply oc; rfl; exact ydE) | apply w_nil | apply n_cd | (apply wg_t; rfl; rfl) | (apply wg_f; rfl; rfl; rfl; rfl) | (apply wg_u; rfl; rfl; rfl) | (apply c_t; rfl) | (apply c_f; rfl) | apply c_skip | apply c_block | apply n_blk | apply c_exit | apply e_hit | apply e_cd | apply e_lp | (apply e_miss; rfl) | apply c_ret | (apply wO; apply o_box; rfl; rfl; rfl; intro _) | (apply wO; apply o_alloc; rfl; intro _) | (apply wO; apply o_st; rfl; rfl; rfl; (first | exact AggC.s | exact OneC.s); rfl; exact rplE; exact putE; rfl) | (apply wO; apply o_bs0; rfl; intro _) | (apply wO; apply o_bs; rfl; rfl; rfl; rfl; exact rptE; exact filE; intro _) | (apply wO; apply o_call; rfl; kernel_rfl; exact evsE))
  refine ret () trivial ?_
  simp only [heldB, tup, decide_not]
/-- a library function that writes one piece alone -/
theorem fn_lib {P : Program} {f : FuncId} {args : List Value} {p : Pc} {R : List Pc} {σ : Type} {C : σ → Prop} {v : σ → Value} {N : σ → Pc} (hm : p.mu = true)
    (h : ∀ w, p.P w → Hol R w → (∀ wr, Keep p.F w wr → Hol R wr) → Calls P f args.toArray w fun e w' => ∃ s, C s ∧ e = .returned (v s) ∧ (N s).P w' ∧ (∀ b ∈ (N s).F, b ∈ p.F ∨ w.heap.size ≤ b) ∧ Keep p.F w w') : Fn P f args [] (p :: R) C v (fun s => N s :: R) := fun w hH hS => by
  rw [List.append_nil] at hH hS
  have hR : Hol R w := fun q hq => hH q (by simp [hq])
  have ap : ∀ q ∈ R, ∀ b ∈ q.F, b ∉ p.F := fun q hq b hb hp => hS.1 q hq (by simp [hm]) b hp hb
  have hk : ∀ wr, Keep p.F w wr → Hol R wr := fun wr k q hq => q.st (hR q hq) fun b hb => k.block b (q.lt (hR q hq) b hb) (ap q hq b hb)
  refine (h w (hH p (by simp)) hR hk).mono ?_
  rintro e w' ⟨s, hC, he, hN, hF, k⟩
  refine ⟨s, hC, he, ?_, ⟨fun q hq _ b hb hbq => ?_, hS.2⟩, k.mono (fun b hb _ => by simp [fp, hb]), ?_⟩
  · intro q hq
    rcases List.mem_cons.1 hq with rfl | hq
    · exact hN
    · exact hk w' k q hq
  · rcases hF b hb with h | h
    · exact ap q hq b hbq h
    · have := q.lt (hR q hq) b hbq; omega
  · intro q hq b hb
    rcases List.mem_cons.1 hq with rfl | hq
    · rcases hF b hb with h | h
      · exact .inr (.inl ⟨p, by simp, h⟩)
      · exact .inl h
    · exact .inr (.inl ⟨q, by simp [hq], hb⟩)
/-- the end of a function that returns nothing -/
theorem n_ret {P : Program} {fn : Func} {R : Ending → World → Prop} {G D : List Nat} {w0 : World} {n : Nat} {fr : Fr} {H : List Pc} (h : T ⟨P, G, D, w0, n, bodyPost P fn R⟩ fr H (.fin .ret)) : T ⟨P, G, D, w0, n, bodyPost P fn R⟩ fr H (.norm []) := .mk fun a w s g => h.h a w s g
def keepH (W : SendWindow) (hs : List Hold) : List Hold := hs.filter fun h => heldB W h.number
theorem keepD_f (W : SendWindow) (hs : List Hold) (gb tb g t o : Nat) (A B : List Value) (a a2 : Option Addr) (c c2 : Nat) (cl q : Int) (F F2 : List Nat) (t0 : 0 ≤ W.trail) (t1 : W.trail ≤ 65535) (hn : ∀ h ∈ hs, isSer h.number = true) :
    Fn Tryd.prog 239 [.slice a2 hs.length c2, .func (.func 240) #[] #[ptr gb 0 0]] [] [.ow EHold 223 (.slice a2 hs.length c2) hs F2, .row gb tb 0 [] [ptr g o 0] [], .row g t o A [.int .i64 W.trail, .int .i64 W.size, .slice a W.items.length c, .int .i64 cl, .int .i64 q, .slice a2 hs.length c2] B, .ow EStr 9 (.slice a W.items.length c) W.items F] (fun (_ : Option Addr × Nat × List Nat) => True)
      (fun z => .slice z.1 (keepH W hs).length z.2.1) (fun z => [.ow EHold 223 (.slice z.1 (keepH W hs).length z.2.1) (keepH W hs) z.2.2, .row gb tb 0 [] [ptr g o 0] [], .row g t o A [.int .i64 W.trail, .int .i64 W.size, .slice a W.items.length c, .int .i64 cl, .int .i64 q, .slice a2 hs.length c2] B, .ow EStr 9 (.slice a W.items.length c) W.items F]) := by
  refine fn_lib rfl fun w ⟨hnd, ho⟩ _ hk => ?_
  refine (DeleteFunc_Hold _ (body_of (by kernel_rfl)) #[ptr gb 0 0] _ hs F2 (fun h => !heldB W h.number) w ho hnd fun k hk2 wr u G hK hu => ?_).mono ?_
  · have hr := hk wr hK
    have r1 := hr (.row gb tb 0 [] [ptr g o 0] []) (by simp)
    have r2 := hr (.row g t o A [.int .i64 W.trail, .int .i64 W.size, .slice a W.items.length c, .int .i64 cl, .int .i64 q, .slice a2 hs.length c2] B) (by simp)
    obtain ⟨Fw, -, hw⟩ := (hr (.ow EStr 9 (.slice a W.items.length c) W.items F) (by simp)).2.read
    obtain ⟨n0, n1⟩ := isSer_iff.1 (hn hs[k] (List.getElem_mem hk2))
    refine (keep1_f W hs[k] gb g o u a c (.int .i64 cl) (.int .i64 q) (.slice a2 hs.length c2) G Fw t0 t1 n0 n1).val wr ?_
    intro p hp
    simp only [List.mem_cons, List.not_mem_nil, or_false] at hp
    rcases hp with rfl | rfl | rfl | rfl
    · exact hu
    · exact ⟨by simp, row_range r1⟩
    · exact ⟨by simp, row_range r2⟩
    · exact ⟨_, rfl, _, rfl, hw⟩
  · rintro e w' ⟨v', F', rfl, h1, h2, h3, h4⟩
    have e : (hs.filter fun x => !(fun h : Hold => !heldB W h.number) x) = keepH W hs := by simp [keepH]
    rw [e] at h1
    obtain ⟨a', c', rfl⟩ := h1.slice
    exact ⟨(a', c', F'), trivial, rfl, ⟨h2, h1⟩, fun b hb => .inl (h3 b hb), h4⟩
set_option maxRecDepth 100000 in
theorem keepHolds_f (W : SendWindow) (hs : List Hold) (g t o : Nat) (A B : List Value) (a a2 : Option Addr) (c c2 : Nat) (cl q : Int) (F F2 : List Nat) (t0 : 0 ≤ W.trail) (t1 : W.trail ≤ 65535) (hn : ∀ h ∈ hs, isSer h.number = true) :
    Fn Tryd.prog 195 [ptr g o 0] [] [.row g t o A [.int .i64 W.trail, .int .i64 W.size, .slice a W.items.length c, .int .i64 cl, .int .i64 q, .slice a2 hs.length c2] B, .ow EHold 223 (.slice a2 hs.length c2) hs F2, .ow EStr 9 (.slice a W.items.length c) W.items F] (fun (_ : Option Addr × Nat × List Nat) => True)
      (fun _ => .tuple #[]) (fun z => [.row g t o A [.int .i64 W.trail, .int .i64 W.size, .slice a W.items.length c, .int .i64 cl, .int .i64 q, .slice z.1 (keepH W hs).length z.2.1] B, .ow EHold 223 (.slice z.1 (keepH W hs).length z.2.1) (keepH W hs) z.2.2, .ow EStr 9 (.slice a W.items.length c) W.items F]) := by
  refine enter Tryd.func195 rfl Tryd.ntmps195 fun w0 => ?_
  repeat (first | apply c_seq | apply c_reg | (apply wO; apply oc; rfl; exact ydE) | apply w_nil | apply n_cd | (apply wg_t; rfl; rfl) | (apply wg_f; rfl; rfl; rfl; rfl) | (apply wg_u; rfl; rfl; rfl) | (apply c_t; rfl) | (apply c_f; rfl) | apply c_skip | apply c_block | apply n_blk | apply c_exit | apply e_hit | apply e_cd | apply e_lp | (apply e_miss; rfl) | apply c_ret | (apply wO; apply o_box; rfl; rfl; rfl; intro _) | (apply wO; apply o_alloc; rfl; intro _) | (apply wO; apply o_st; rfl; rfl; rfl; (first | exact AggC.s | exact OneC.s); rfl; exact rplE; exact putE; rfl) | (apply wO; apply o_bs0; rfl; intro _) | (apply wO; apply o_bs; rfl; rfl; rfl; rfl; exact rptE; exact filE; intro _) | (apply wO; apply o_call; rfl; kernel_rfl; exact evsE))
  refine d_start [0, 1] [9] ?_
  refine dt 0 ?_
  refine dt 1 ?_
  refine dt 2 ?_
  refine dt 3 ?_
  refine dt 4 ?_
  refine dt 5 ?_
  refine dO 6 (by kernel_rfl) (by rw [List.getElem?_toArray]; rfl) ?_
  apply o_call; rfl; kernel_rfl; exact evsE
  refine cf (keepD_f W hs _ _ g t o A B a a2 c c2 cl q F F2 t0 t1 hn) fun z _ => ?_
  refine t_app ?_
  refine dk ?_
  refine dt 7 ?_
  refine dt 8 ?_
  refine dO 9 (by kernel_rfl) (by rw [List.getElem?_toArray]; rfl) ?_
  apply o_st; rfl; rfl; rfl; (first | exact AggC.s | exact OneC.s); rfl; exact rplE; exact putE; rfl
  refine dkx ?_
  refine dd ?_
  refine n_ret ?_
  refine ret (_, _, _) trivial rfl
end Go.Proofs.YtkcajnpdmgafjaaDoor
