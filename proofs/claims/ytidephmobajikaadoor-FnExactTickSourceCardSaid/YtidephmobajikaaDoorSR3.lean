/- Sources: the copy, the holds that are kept. -/
import Derived.Test.YtidephmobajikaaDoorSR2
import Derived.Test.YtidephmobajikaaDoorLibHold
import Derived.Test.YtidephmobajikaaDoorLibString
namespace Go.Proofs.YtidephmobajikaaDoor
open Go.RowKit
set_option maxRecDepth 100000 in
theorem Sclone_f (x : Source) (v : Value) (F : List Nat) (hl : x.window.items.length ≤ 4294967296) (hl2 : x.holds.length ≤ 4294967296) : Fn Tryd.prog 160 [v] [.isv ESource v x F] [] (fun (_ : Value × List Nat) => True)
    (fun s => s.1) (fun s => [.own OSource s.1 x s.2]) := by
  refine enter Tryd.func160 rfl Tryd.ntmps160 fun w0 => ?_
  refine openSource ?_
  rintro a1 c1 F1 a2 c2 F2 rfl l1 l2
  refine closeSendWindow x.window ?_
  generalize F1 = F3
  repeat (first | apply c_seq | apply c_reg | (apply wO; apply oc; rfl; exact ydE) | apply w_nil | apply n_cd | (apply wg_t; rfl; rfl) | (apply wg_f; rfl; rfl; rfl; rfl) | (apply wg_u; rfl; rfl; rfl) | (apply c_t; rfl) | (apply c_f; rfl) | apply c_skip | apply c_block | apply n_blk | apply c_exit | apply e_hit | apply e_cd | apply e_lp | (apply e_miss; rfl) | apply c_ret | (apply wO; apply o_box; rfl; rfl; rfl; intro _) | (apply wO; apply o_alloc; rfl; intro _) | (apply wO; apply o_st; rfl; rfl; rfl; (first | exact AggC.s | exact OneC.s); rfl; exact rplE; exact putE; rfl) | (apply wO; apply o_bs0; rfl; intro _) | (apply wO; apply o_bs; rfl; rfl; rfl; rfl; exact rptE; exact filE; intro _) | (apply wO; apply o_call; rfl; kernel_rfl; exact evsE))
  refine cv (fun w s => SendWindow_clone_c _ x.window _ w (s.get (p := .isv ESendWindow (.agg #[.int .i64 x.window.trail, .int .i64 x.window.size, .slice a1 x.window.items.length c1]) x.window F3) (by simp)) hl) fun v F' => ?_
  refine openOSendWindow ?_
  rintro a5 c5 F5 rfl l5
  repeat (first | apply c_seq | apply c_reg | (apply wO; apply oc; rfl; exact ydE) | apply w_nil | apply n_cd | (apply wg_t; rfl; rfl) | (apply wg_f; rfl; rfl; rfl; rfl) | (apply wg_u; rfl; rfl; rfl) | (apply c_t; rfl) | (apply c_f; rfl) | apply c_skip | apply c_block | apply n_blk | apply c_exit | apply e_hit | apply e_cd | apply e_lp | (apply e_miss; rfl) | apply c_ret | (apply wO; apply o_box; rfl; rfl; rfl; intro _) | (apply wO; apply o_alloc; rfl; intro _) | (apply wO; apply o_st; rfl; rfl; rfl; (first | exact AggC.s | exact OneC.s); rfl; exact rplE; exact putE; rfl) | (apply wO; apply o_bs0; rfl; intro _) | (apply wO; apply o_bs; rfl; rfl; rfl; rfl; exact rptE; exact filE; intro _) | (apply wO; apply o_call; rfl; kernel_rfl; exact evsE))
  refine cn (fun w s => Clone_Hold _ _ _ _ (s.get (p := .sl EHold (.slice a2 x.holds.length c2) x.holds F2) (by simp)).2 hl2) fun a6 c6 F6 => ?_
  repeat (first | apply c_seq | apply c_reg | (apply wO; apply oc; rfl; exact ydE) | apply w_nil | apply n_cd | (apply wg_t; rfl; rfl) | (apply wg_f; rfl; rfl; rfl; rfl) | (apply wg_u; rfl; rfl; rfl) | (apply c_t; rfl) | (apply c_f; rfl) | apply c_skip | apply c_block | apply n_blk | apply c_exit | apply e_hit | apply e_cd | apply e_lp | (apply e_miss; rfl) | apply c_ret | (apply wO; apply o_box; rfl; rfl; rfl; intro _) | (apply wO; apply o_alloc; rfl; intro _) | (apply wO; apply o_st; rfl; rfl; rfl; (first | exact AggC.s | exact OneC.s); rfl; exact rplE; exact putE; rfl) | (apply wO; apply o_bs0; rfl; intro _) | (apply wO; apply o_bs; rfl; rfl; rfl; rfl; exact rptE; exact filE; intro _) | (apply wO; apply o_call; rfl; kernel_rfl; exact evsE))
  refine closeOSource x ?_
  refine ret (_, _) trivial rfl
/-- a library function that writes one piece alone -/
theorem fn_lib {P : Program} {f : FuncId} {args : List Value} {p : Pc} {R : List Pc} {σ : Type} {C : σ → Prop} {v : σ → Value} {N : σ → Pc} (hm : p.mu = true)
    (h : ∀ w, p.P w → Hol R w → (∀ wr, Keep p.F w wr → Hol R wr) → Calls P f args.toArray w fun e w' => ∃ s, C s ∧ e = .returned (v s) ∧ (N s).P w' ∧ (∀ b ∈ (N s).F, b ∈ p.F ∨ w.heap.size ≤ b) ∧ Keep p.F w w') : Fn P f args [] (p :: R) C v (fun s => N s :: R) := fun w hH hS => by
  rw [List.append_nil] at hH hS
  have hR : Hol R w := fun q hq => hH q (by simp [hq])
  have ap : ∀ q ∈ R, ∀ b ∈ q.F, b ∉ p.F := fun q hq b hb hp => hS.1 q hq (by simp [hm]) b hp hb
  have hk : ∀ wr, Keep p.F w wr → Hol R wr := fun wr k q hq => q.st (hR q hq) fun b hb => k.block b (q.lt (hR q hq) b hb) (ap q hq b hb)
  refine (h w (hH p (by simp)) hR hk).mono ?_
  rintro e w' ⟨s, hC, he, hN, hF, k⟩
  refine ⟨s, hC, he, ?_, ⟨fun q hq _ b hb hbq => ?_, hS.2⟩, k.mono (fun b hb _ => by simp [fp, hb]), ?_⟩
  · intro q hq
    rcases List.mem_cons.1 hq with rfl | hq
    · exact hN
    · exact hk w' k q hq
  · rcases hF b hb with h | h
    · exact ap q hq b hbq h
    · have := q.lt (hR q hq) b hbq; omega
  · intro q hq b hb
    rcases List.mem_cons.1 hq with rfl | hq
    · rcases hF b hb with h | h
      · exact .inr (.inl ⟨p, by simp, h⟩)
      · exact .inl h
    · exact .inr (.inl ⟨q, by simp [hq], hb⟩)
/-- the end of a function that returns nothing -/
theorem n_ret {P : Program} {fn : Func} {R : Ending → World → Prop} {G D : List Nat} {w0 : World} {n : Nat} {fr : Fr} {H : List Pc} (h : T ⟨P, G, D, w0, n, bodyPost P fn R⟩ fr H (.fin .ret)) : T ⟨P, G, D, w0, n, bodyPost P fn R⟩ fr H (.norm []) := .mk fun a w s g => h.h a w s g
def keepH (W : SendWindow) (hs : List Hold) : List Hold := hs.filter fun h => heldB W h.number
end Go.Proofs.YtidephmobajikaaDoor
