/- Sources: SendFrom of the program. -/
import Derived.Test.YtkcajnpdmgafjaaDoorSR6
import Derived.Test.YtkcajnpdmgafjaaDoorPushSpec
namespace Go.Proofs.YtkcajnpdmgafjaaDoor
open Go.RowKit
structure PuS where
  a : Option Addr
  c : Nat
  F : List Nat
theorem roomed_bd {x : SendWindow} (t0 : 0 ≤ x.trail) (t1 : x.trail ≤ 65535) : 0 ≤ (roomed x).trail ∧ (roomed x).trail ≤ 65535 := by
  unfold roomed
  split
  · exact aft_bd _ _
  · exact ⟨t0, t1⟩
theorem push_f (x : SendWindow) (s : ByteArray) (g t o : Nat) (A B : List Value) (r1 r2 r3 : Value) (a : Option Addr) (c : Nat) (F : List Nat) (hl : x.items.length ≤ 6) (ht : isSer x.trail = true) (hs : s.size ≤ maxLen) (hz : 1 ≤ x.size) :
    Fn Tryd.prog 160 [ptr g o 0, .string s] [] [.row g t o A [.int .i64 x.trail, .int .i64 x.size, .slice a x.items.length c, r1, r2, r3] B, .ow EStr 9 (.slice a x.items.length c) x.items F] (fun (_ : PuS) => True) (fun _ => .agg #[.int .i64 1, .int .i64 (pushedP x s).number, .int .i64 (pushedP x s).trail, .int .i64 (pushedP x s).lead, .string s])
      (fun z => [.row g t o A [.int .i64 (pushedW x s).trail, .int .i64 (pushedW x s).size, .slice z.a (pushedW x s).items.length z.c, r1, r2, r3] B, .ow EStr 9 (.slice z.a (pushedW x s).items.length z.c) (pushedW x s).items z.F]) := fun w hH hS => by
  have h1 := hH (.row g t o A [.int .i64 x.trail, .int .i64 x.size, .slice a x.items.length c, r1, r2, r3] B) (by simp)
  have h2 := hH (.ow EStr 9 (.slice a x.items.length c) x.items F) (by simp)
  have hg : g ∉ F := fun hm => hS.1 (.ow EStr 9 (.slice a x.items.length c) x.items F) (by simp) (by simp [Pc.mu]) g (by simp [Pc.F]) hm
  have hAt : At OSendWindow t w g o A ([r1, r2, r3] ++ B) x F := ⟨[.int .i64 x.trail, .int .i64 x.size, .slice a x.items.length c], by simpa using h1.2, h1.1, ⟨_, rfl, h2.2⟩, h2.1, hg⟩
  refine (SendWindow_push_c x s t g o A _ F w hAt hl ht hs hz).mono ?_
  rintro e w' ⟨he, F', ⟨_, hrow, hp, ⟨v1, rfl, ho⟩, hn, hg'⟩, hF, hk⟩
  obtain ⟨a', c', rfl⟩ := ho.slice
  refine ⟨⟨a', c', F'⟩, trivial, he, hol2 ⟨hp, by simpa using hrow⟩ ⟨hn, ho⟩, ⟨fun q hq _ b hb hbq => ?_, ⟨by simp, trivial⟩⟩, hk.mono (fun b hb _ => by simpa [fp, Pc.F] using hb), fun p hp b hb => ?_⟩
  · simp at hq
    subst hq
    simp [Pc.F] at hb hbq
    subst hb
    exact hg' hbq
  · simp only [List.mem_cons, List.not_mem_nil, or_false] at hp
    rcases hp with rfl | rfl
    · exact .inr (.inl ⟨_, List.mem_cons_self .., by simpa [Pc.F] using hb⟩)
    · rcases hF b hb with h | h
      · exact .inr (.inl ⟨_, List.mem_cons_of_mem _ (List.mem_cons_self ..), h⟩)
      · exact .inl h
structure SeS where
  a : Option Addr
  c : Nat
  F : List Nat
  a2 : Option Addr
  c2 : Nat
  F2 : List Nat
set_option maxRecDepth 100000 in
theorem Ssend_f (x : SendWindow) (s : ByteArray) (hs : List Hold) (g t o : Nat) (A B : List Value) (a a2 : Option Addr) (c c2 : Nat) (cl q : Int) (F F2 : List Nat) (hl : x.items.length ≤ 6) (t0 : 0 ≤ x.trail) (t1 : x.trail ≤ 65535) (hss : s.size ≤ maxLen) (hz : 1 ≤ x.size) (hn : ∀ h ∈ hs, isSer h.number = true) :
    Fn Tryd.prog 203 [ptr g o 0, .string s] [] [.row g t o A [.int .i64 x.trail, .int .i64 x.size, .slice a x.items.length c, .int .i64 cl, .int .i64 q, .slice a2 hs.length c2] B, .ow EHold 223 (.slice a2 hs.length c2) hs F2, .ow EStr 9 (.slice a x.items.length c) x.items F] (fun (_ : SeS) => True) (fun _ => .agg #[.int .i64 1, .int .i64 (pushedP x s).number, .int .i64 (pushedP x s).trail, .int .i64 (pushedP x s).lead, .string s])
      (fun z => [.row g t o A [.int .i64 (pushedW x s).trail, .int .i64 (pushedW x s).size, .slice z.a (pushedW x s).items.length z.c, .int .i64 cl, .int .i64 0, .slice z.a2 (keepH (pushedW x s) hs).length z.c2] B, .ow EHold 223 (.slice z.a2 (keepH (pushedW x s) hs).length z.c2) (keepH (pushedW x s) hs) z.F2, .ow EStr 9 (.slice z.a (pushedW x s).items.length z.c) (pushedW x s).items z.F]) := by
  have hb := roomed_bd t0 t1
  refine enter Tryd.func203 rfl Tryd.ntmps203 fun w0 => ?_
  repeat (first | apply c_seq | apply c_reg | (apply wO; apply oc; rfl; exact ydE) | apply w_nil | apply n_cd | (apply wg_t; rfl; rfl) | (apply wg_f; rfl; rfl; rfl; rfl) | (apply wg_u; rfl; rfl; rfl) | (apply c_t; rfl) | (apply c_f; rfl) | apply c_skip | apply c_block | apply n_blk | apply c_exit | apply e_hit | apply e_cd | apply e_lp | (apply e_miss; rfl) | apply c_ret | (apply wO; apply o_box; rfl; rfl; rfl; intro _) | (apply wO; apply o_alloc; rfl; intro _) | (apply wO; apply o_st; rfl; rfl; rfl; (first | exact AggC.s | exact OneC.s); rfl; exact rplE; exact putE; rfl) | (apply wO; apply o_bs0; rfl; intro _) | (apply wO; apply o_bs; rfl; rfl; rfl; rfl; exact rptE; exact filE; intro _) | (apply wO; apply o_call; rfl; kernel_rfl; exact evsE))
  refine cf (push_f x s g t o A B _ _ _ a c F hl (isSer_iff.2 ⟨t0, t1⟩) hss hz) fun z _ => ?_
  refine t_app ?_
  repeat (first | apply c_seq | apply c_reg | (apply wO; apply oc; rfl; exact ydE) | apply w_nil | apply n_cd | (apply wg_t; rfl; rfl) | (apply wg_f; rfl; rfl; rfl; rfl) | (apply wg_u; rfl; rfl; rfl) | (apply c_t; rfl) | (apply c_f; rfl) | apply c_skip | apply c_block | apply n_blk | apply c_exit | apply e_hit | apply e_cd | apply e_lp | (apply e_miss; rfl) | apply c_ret | (apply wO; apply o_box; rfl; rfl; rfl; intro _) | (apply wO; apply o_alloc; rfl; intro _) | (apply wO; apply o_st; rfl; rfl; rfl; (first | exact AggC.s | exact OneC.s); rfl; exact rplE; exact putE; rfl) | (apply wO; apply o_bs0; rfl; intro _) | (apply wO; apply o_bs; rfl; rfl; rfl; rfl; exact rptE; exact filE; intro _) | (apply wO; apply o_call; rfl; kernel_rfl; exact evsE))
  refine cf (keepHolds_f (pushedW x s) hs g t o A B z.a a2 z.c c2 cl 0 z.F F2 hb.1 hb.2 hn) fun y _ => ?_
  refine t_app ?_
  repeat (first | apply c_seq | apply c_reg | (apply wO; apply oc; rfl; exact ydE) | apply w_nil | apply n_cd | (apply wg_t; rfl; rfl) | (apply wg_f; rfl; rfl; rfl; rfl) | (apply wg_u; rfl; rfl; rfl) | (apply c_t; rfl) | (apply c_f; rfl) | apply c_skip | apply c_block | apply n_blk | apply c_exit | apply e_hit | apply e_cd | apply e_lp | (apply e_miss; rfl) | apply c_ret | (apply wO; apply o_box; rfl; rfl; rfl; intro _) | (apply wO; apply o_alloc; rfl; intro _) | (apply wO; apply o_st; rfl; rfl; rfl; (first | exact AggC.s | exact OneC.s); rfl; exact rplE; exact putE; rfl) | (apply wO; apply o_bs0; rfl; intro _) | (apply wO; apply o_bs; rfl; rfl; rfl; rfl; exact rptE; exact filE; intro _) | (apply wO; apply o_call; rfl; kernel_rfl; exact evsE))
  refine ret ⟨z.a, z.c, z.F, y.1, y.2.1, y.2.2⟩ trivial rfl
def sentS (x : Source) (s : ByteArray) : Source := ⟨pushedW x.window s, x.clock, 0, keepH (pushedW x.window s) x.holds⟩
def zPk : Packet := ⟨0, 0, 0, 0, ⟨#[]⟩⟩
def okSendFrom (x : Source) (s : ByteArray) : Bool := goodSrc x && itm s
def resSendFrom (x : Source) (s : ByteArray) : Source × Packet × Bool := if okSendFrom x s then (sentS x s, pushedP x.window s, true) else (zSrc, zPk, false)
theorem resSendF_no {x : Source} {s : ByteArray} (h : okSendFrom x s = false) : resSendFrom x s = (zSrc, zPk, false) := by unfold resSendFrom; rw [h]; rfl
theorem resSendF_yes {x : Source} {s : ByteArray} (h : okSendFrom x s = true) : resSendFrom x s = (sentS x s, pushedP x.window s, true) := by unfold resSendFrom; rw [h]; rfl
theorem sendF_size {x : Source} {s : ByteArray} (h : s.size ≤ maxLen) : (resSendFrom x s).2.1.data.size ≤ maxLen := by
  unfold resSendFrom
  split
  · exact h
  · decide
def PS_SendFrom : Source × Packet × Bool → World → Ending → World → Prop := fun (r0, r1, r2) w e w' => ∃ u0 G0 u1 G1, e = .returned (.tuple #[u0, u1, .bool r2]) ∧ IsV ESource w' u0 r0 G0 ∧ IsV EPacket w' u1 r1 G1 ∧ Below w.heap.size w w'
def PI_SendFrom : Source × Packet × Bool → World → Ending → World → Prop := fun (r0, r1, r2) w e w' => ∃ u0 G0 u1 G1, e = .returned (.tuple #[u0, u1, .bool r2]) ∧ IsV OSource w' u0 r0 G0 ∧ IsV EPacket w' u1 r1 G1 ∧ (G0 ++ G1).Nodup ∧ (∀ b ∈ G0 ++ G1, w.heap.size ≤ b) ∧ Below w.heap.size w w'
set_option maxRecDepth 100000 in
theorem SendFrom_f (x : Source) (s : ByteArray) (v : Value) (F : List Nat) (hs : s.size ≤ maxLen) :
    Fn Tryd.prog 113 [v, .string s] [.isv ESource v x F] [] (fun (_ : SrcS) => True)
      (fun z => .tuple #[.agg #[.int .i64 (resSendFrom x s).1.window.trail, .int .i64 (resSendFrom x s).1.window.size, .slice z.a (resSendFrom x s).1.window.items.length z.c, .int .i64 (resSendFrom x s).1.clock, .int .i64 (resSendFrom x s).1.quiet, .slice z.a2 (resSendFrom x s).1.holds.length z.c2], .agg #[.int .i64 (resSendFrom x s).2.1.kind, .int .i64 (resSendFrom x s).2.1.number, .int .i64 (resSendFrom x s).2.1.trail, .int .i64 (resSendFrom x s).2.1.lead, .string (resSendFrom x s).2.1.data], .bool (resSendFrom x s).2.2]) (fun z => [.own OSource (.agg #[.int .i64 (resSendFrom x s).1.window.trail, .int .i64 (resSendFrom x s).1.window.size, .slice z.a (resSendFrom x s).1.window.items.length z.c, .int .i64 (resSendFrom x s).1.clock, .int .i64 (resSendFrom x s).1.quiet, .slice z.a2 (resSendFrom x s).1.holds.length z.c2]) (resSendFrom x s).1 z.F]) := by
  refine enter Tryd.func113 rfl Tryd.ntmps113 fun w0 => ?_
  refine t_nilow EStr 9 ?_
  refine t_nilow EHold 223 ?_
  refine closeOSource zSrc ?_
  refine openSource ?_
  rintro a1 c1 F1 a2 c2 F2 rfl l1 l2
  refine closeSendWindow x.window ?_
  generalize F1 = F3
  repeat (first | apply c_seq | apply c_reg | (apply wO; apply oc; rfl; exact ydE) | apply w_nil | apply n_cd | (apply wg_t; rfl; rfl) | (apply wg_f; rfl; rfl; rfl; rfl) | (apply wg_u; rfl; rfl; rfl) | (apply c_t; rfl) | (apply c_f; rfl) | apply c_skip | apply c_block | apply n_blk | apply c_exit | apply e_hit | apply e_cd | apply e_lp | (apply e_miss; rfl) | apply c_ret | (apply wO; apply o_box; rfl; rfl; rfl; intro _) | (apply wO; apply o_alloc; rfl; intro _) | (apply wO; apply o_st; rfl; rfl; rfl; (first | exact AggC.s | exact OneC.s); rfl; exact rplE; exact putE; rfl) | (apply wO; apply o_bs0; rfl; intro _) | (apply wO; apply o_bs; rfl; rfl; rfl; rfl; exact rptE; exact filE; intro _) | (apply wO; apply o_call; rfl; kernel_rfl; exact evsE))
  refine cb (fun w st => (IsValidSource_f x _ F).val w (hol1 (st.get (p := .isv ESource (.agg #[.int .i64 x.window.trail, .int .i64 x.window.size, .slice a1 x.window.items.length c1, .int .i64 x.clock, .int .i64 x.quiet, .slice a2 x.holds.length c2]) x F) (by simp)))) ?_
  cases g1 : goodSrc x
  · repeat (first | apply c_seq | apply c_reg | (apply wO; apply oc; rfl; exact ydE) | apply w_nil | apply n_cd | (apply wg_t; rfl; rfl) | (apply wg_f; rfl; rfl; rfl; rfl) | (apply wg_u; rfl; rfl; rfl) | (apply c_t; rfl) | (apply c_f; rfl) | apply c_skip | apply c_block | apply n_blk | apply c_exit | apply e_hit | apply e_cd | apply e_lp | (apply e_miss; rfl) | apply c_ret | (apply wO; apply o_box; rfl; rfl; rfl; intro _) | (apply wO; apply o_alloc; rfl; intro _) | (apply wO; apply o_st; rfl; rfl; rfl; (first | exact AggC.s | exact OneC.s); rfl; exact rplE; exact putE; rfl) | (apply wO; apply o_bs0; rfl; intro _) | (apply wO; apply o_bs; rfl; rfl; rfl; rfl; exact rptE; exact filE; intro _) | (apply wO; apply o_call; rfl; kernel_rfl; exact evsE))
    rw [resSendF_no (by unfold okSendFrom; rw [g1]; rfl)]
    refine ret ⟨none, 0, none, 0, []⟩ trivial rfl
  obtain ⟨gw, hl, t0, t1, k0, k1, hm, hn, hu, hb⟩ := goodS_of g1
  obtain ⟨-, ⟨z1, -⟩, -⟩ := goodWin_iff.1 gw
  repeat (first | apply c_seq | apply c_reg | (apply wO; apply oc; rfl; exact ydE) | apply w_nil | apply n_cd | (apply wg_t; rfl; rfl) | (apply wg_f; rfl; rfl; rfl; rfl) | (apply wg_u; rfl; rfl; rfl) | (apply c_t; rfl) | (apply c_f; rfl) | apply c_skip | apply c_block | apply n_blk | apply c_exit | apply e_hit | apply e_cd | apply e_lp | (apply e_miss; rfl) | apply c_ret | (apply wO; apply o_box; rfl; rfl; rfl; intro _) | (apply wO; apply o_alloc; rfl; intro _) | (apply wO; apply o_st; rfl; rfl; rfl; (first | exact AggC.s | exact OneC.s); rfl; exact rplE; exact putE; rfl) | (apply wO; apply o_bs0; rfl; intro _) | (apply wO; apply o_bs; rfl; rfl; rfl; rfl; exact rptE; exact filE; intro _) | (apply wO; apply o_call; rfl; kernel_rfl; exact evsE))
  refine cb (fun w s => isItem_c _ _ hs) ?_
  cases g2 : itm s
  · repeat (first | apply c_seq | apply c_reg | (apply wO; apply oc; rfl; exact ydE) | apply w_nil | apply n_cd | (apply wg_t; rfl; rfl) | (apply wg_f; rfl; rfl; rfl; rfl) | (apply wg_u; rfl; rfl; rfl) | (apply c_t; rfl) | (apply c_f; rfl) | apply c_skip | apply c_block | apply n_blk | apply c_exit | apply e_hit | apply e_cd | apply e_lp | (apply e_miss; rfl) | apply c_ret | (apply wO; apply o_box; rfl; rfl; rfl; intro _) | (apply wO; apply o_alloc; rfl; intro _) | (apply wO; apply o_st; rfl; rfl; rfl; (first | exact AggC.s | exact OneC.s); rfl; exact rplE; exact putE; rfl) | (apply wO; apply o_bs0; rfl; intro _) | (apply wO; apply o_bs; rfl; rfl; rfl; rfl; exact rptE; exact filE; intro _) | (apply wO; apply o_call; rfl; kernel_rfl; exact evsE))
    rw [resSendF_no (by unfold okSendFrom; rw [g1, g2]; rfl)]
    refine ret ⟨none, 0, none, 0, []⟩ trivial rfl
  rw [resSendF_yes (by unfold okSendFrom; rw [g1, g2]; rfl)]
  repeat (first | apply c_seq | apply c_reg | (apply wO; apply oc; rfl; exact ydE) | apply w_nil | apply n_cd | (apply wg_t; rfl; rfl) | (apply wg_f; rfl; rfl; rfl; rfl) | (apply wg_u; rfl; rfl; rfl) | (apply c_t; rfl) | (apply c_f; rfl) | apply c_skip | apply c_block | apply n_blk | apply c_exit | apply e_hit | apply e_cd | apply e_lp | (apply e_miss; rfl) | apply c_ret | (apply wO; apply o_box; rfl; rfl; rfl; intro _) | (apply wO; apply o_alloc; rfl; intro _) | (apply wO; apply o_st; rfl; rfl; rfl; (first | exact AggC.s | exact OneC.s); rfl; exact rplE; exact putE; rfl) | (apply wO; apply o_bs0; rfl; intro _) | (apply wO; apply o_bs; rfl; rfl; rfl; rfl; exact rptE; exact filE; intro _) | (apply wO; apply o_call; rfl; kernel_rfl; exact evsE))
  refine cf (Sclone_f x _ F (by omega) (by omega)) fun z _ => ?_
  refine t_app ?_
  refine openOSource ?_
  rintro a5 c5 F5 a6 c6 F6 e5 l5 l6
  rw [e5]
  repeat (first | apply c_seq | apply c_reg | (apply wO; apply oc; rfl; exact ydE) | apply w_nil | apply n_cd | (apply wg_t; rfl; rfl) | (apply wg_f; rfl; rfl; rfl; rfl) | (apply wg_u; rfl; rfl; rfl) | (apply c_t; rfl) | (apply c_f; rfl) | apply c_skip | apply c_block | apply n_blk | apply c_exit | apply e_hit | apply e_cd | apply e_lp | (apply e_miss; rfl) | apply c_ret | (apply wO; apply o_box; rfl; rfl; rfl; intro _) | (apply wO; apply o_alloc; rfl; intro _) | (apply wO; apply o_st; rfl; rfl; rfl; (first | exact AggC.s | exact OneC.s); rfl; exact rplE; exact putE; rfl) | (apply wO; apply o_bs0; rfl; intro _) | (apply wO; apply o_bs; rfl; rfl; rfl; rfl; exact rptE; exact filE; intro _) | (apply wO; apply o_call; rfl; kernel_rfl; exact evsE))
  refine cf (Ssend_f x.window s x.holds _ _ _ _ _ a5 a6 c5 c6 x.clock x.quiet F5 F6 hl t0 t1 hs z1 hn) fun q _ => ?_
  refine t_app ?_
  repeat (first | apply c_seq | apply c_reg | (apply wO; apply oc; rfl; exact ydE) | apply w_nil | apply n_cd | (apply wg_t; rfl; rfl) | (apply wg_f; rfl; rfl; rfl; rfl) | (apply wg_u; rfl; rfl; rfl) | (apply c_t; rfl) | (apply c_f; rfl) | apply c_skip | apply c_block | apply n_blk | apply c_exit | apply e_hit | apply e_cd | apply e_lp | (apply e_miss; rfl) | apply c_ret | (apply wO; apply o_box; rfl; rfl; rfl; intro _) | (apply wO; apply o_alloc; rfl; intro _) | (apply wO; apply o_st; rfl; rfl; rfl; (first | exact AggC.s | exact OneC.s); rfl; exact rplE; exact putE; rfl) | (apply wO; apply o_bs0; rfl; intro _) | (apply wO; apply o_bs; rfl; rfl; rfl; rfl; exact rptE; exact filE; intro _) | (apply wO; apply o_call; rfl; kernel_rfl; exact evsE))
  refine d_start [0, 1] [] ?_
  refine dt 0 ?_
  refine dt 1 ?_
  refine dO 2 (by kernel_rfl) (by rw [List.getElem?_toArray]; rfl) ?_
  apply o_st; rfl; rfl; rfl; (first | exact AggC.s | exact OneC.s); rfl; exact rplE; exact putE; rfl
  refine dk ?_
  refine dO 3 (by kernel_rfl) (by rw [List.getElem?_toArray]; rfl) ?_
  apply o_st; rfl; rfl; rfl; (first | exact AggC.s | exact OneC.s); rfl; exact rplE; exact putE; rfl
  refine dk ?_
  refine dt 4 ?_
  refine dd ?_
  repeat (first | apply c_seq | apply c_reg | (apply wO; apply oc; rfl; exact ydE) | apply w_nil | apply n_cd | (apply wg_t; rfl; rfl) | (apply wg_f; rfl; rfl; rfl; rfl) | (apply wg_u; rfl; rfl; rfl) | (apply c_t; rfl) | (apply c_f; rfl) | apply c_skip | apply c_block | apply n_blk | apply c_exit | apply e_hit | apply e_cd | apply e_lp | (apply e_miss; rfl) | apply c_ret | (apply wO; apply o_box; rfl; rfl; rfl; intro _) | (apply wO; apply o_alloc; rfl; intro _) | (apply wO; apply o_st; rfl; rfl; rfl; (first | exact AggC.s | exact OneC.s); rfl; exact rplE; exact putE; rfl) | (apply wO; apply o_bs0; rfl; intro _) | (apply wO; apply o_bs; rfl; rfl; rfl; rfl; exact rptE; exact filE; intro _) | (apply wO; apply o_call; rfl; kernel_rfl; exact evsE))
  refine closeOSource (sentS x s) ?_
  refine ret ⟨_, _, _, _, _⟩ trivial rfl
theorem SendFrom_c (v0 : Value) (x0 : Source) (F0 : List Nat) (x1 : ByteArray) (w : World) (h0 : IsV ESource w v0 x0 F0) (h1 : x1.size ≤ maxLen) :
    Calls Tryd.prog 113 #[v0, .string x1] w (PI_SendFrom (resSendFrom x0 x1) w) := by
  refine ((SendFrom_f x0 x1 v0 F0 h1).made w (hol1 h0) (fun _ => rfl)).mono ?_
  rintro e w' ⟨s, -, rfl, hH, hn, hF, hB⟩
  have a1 := hH _ (List.mem_cons_self ..)
  simp only [fp, Pc.F, List.append_nil] at hn hF
  exact ⟨_, s.F, _, [], rfl, a1.2, ⟨_, rfl, rfl, sendF_size h1, rfl⟩, by simpa using hn, by simpa using hF, hB⟩
end Go.Proofs.YtkcajnpdmgafjaaDoor
