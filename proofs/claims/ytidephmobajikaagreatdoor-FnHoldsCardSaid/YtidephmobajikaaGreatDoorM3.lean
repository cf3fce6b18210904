/- Part 3 of the proof: 39 texts, one behind the other. -/
import Derived.Test.YtidephmobajikaaGreatDoorShelf
import Derived.Lib.RowBridge
import Derived.Laws.IdiomStrings
import Derived.Laws.Bits64b
import Derived.Test.YtidephmobajikaaGreatDoorM2
/- Sources: TrimSource of the reference. -/
namespace Go.Proofs.YtidephmobajikaaGreatDoor
open Go.RowKit
def withU (x : Source) (W : SendWindow) : Source := ⟨W, x.clock, x.quiet, keepU W x.clock x.holds⟩
theorem withU_eq {x : Source} {W : SendWindow} (h : ∀ z ∈ x.holds, x.clock + 1 ≤ z.untl) : withU x W = withW x W := by unfold withU withW; rw [keepU_eq h]
set_option maxRecDepth 100000 in
theorem l11WithU_f (x : Source) (W : SendWindow) (v vw : Value) (F Fw : List Nat) (y0 : 0 ≤ W.trail) (y1 : W.trail ≤ 65535) (hl : x.holds.length ≤ 1000) (hn : wideH x.holds) :
    Fn Tryz.prog 98 [v, vw] [.isv ESource v x F, .isv ESendWindow vw W Fw] [] (fun (_ : SrcS) => True) (fun s => .agg #[.int .i64 W.trail, .int .i64 W.size, .slice s.a W.items.length s.c, .int .i64 x.clock, .int .i64 x.quiet, .slice s.a2 (keepU W x.clock x.holds).length s.c2])
      (fun s => [.isv ESource (.agg #[.int .i64 W.trail, .int .i64 W.size, .slice s.a W.items.length s.c, .int .i64 x.clock, .int .i64 x.quiet, .slice s.a2 (keepU W x.clock x.holds).length s.c2]) (withU x W) s.F]) := by
  refine enter Tryz.func98 rfl Tryz.ntmps98 fun w0 => ?_
  refine openSource ?_
  rintro a1 c1 F1 a2 c2 F2 rfl l1 l2
  refine openSendWindow (x := W) (F := Fw) ?_
  rintro a3 c3 F3 rfl l3
  repeat (first | apply c_seq | apply c_reg | (apply wO; apply oc; rfl; exact ydE) | apply w_nil | apply n_cd | (apply wg_t; rfl; rfl) | (apply wg_f; rfl; rfl; rfl; rfl) | (apply wg_u; rfl; rfl; rfl) | (apply c_t; rfl) | (apply c_f; rfl) | apply c_skip | apply c_block | apply n_blk | apply c_exit | apply e_hit | apply e_cd | apply e_lp | (apply e_miss; rfl) | apply c_ret | (apply wO; apply o_box; rfl; rfl; rfl; intro _) | (apply wO; apply o_alloc; rfl; intro _) | (apply wO; apply o_st; rfl; rfl; rfl; (first | exact AggC.s | exact OneC.s); rfl; exact rplE; exact putE; rfl) | (apply wO; apply o_bs0; rfl; intro _) | (apply wO; apply o_bs; rfl; rfl; rfl; rfl; exact rptE; exact filE; intro _) | (apply wO; apply o_call; rfl; kernel_rfl; exact evsE))
  refine d_start [1, 2] [] ?_
  refine dt 0 ?_
  refine dt 1 ?_
  refine dt 2 ?_
  refine dt 3 ?_
  refine dt 4 ?_
  refine dt 5 ?_
  refine dt 6 ?_
  refine dt 7 ?_
  refine dt 8 ?_
  refine dt 9 ?_
  refine dO 10 (by kernel_rfl) (by rw [List.getElem?_toArray]; rfl) ?_
  apply o_call; rfl; kernel_rfl; exact evsE
  refine cf (l11HoldsU_f W x.holds x.clock _ a2 c2 Fw F2 y0 y1 (by omega) hn) fun z _ => ?_
  refine t_app ?_
  refine dk ?_
  refine dt 11 ?_
  refine dO 12 (by kernel_rfl) (by rw [List.getElem?_toArray]; rfl) ?_
  apply o_st; rfl; rfl; rfl; (first | exact AggC.s | exact OneC.s); rfl; exact rplE; exact putE; rfl
  refine dk ?_
  refine dd ?_
  repeat (first | apply c_seq | apply c_reg | (apply wO; apply oc; rfl; exact ydE) | apply w_nil | apply n_cd | (apply wg_t; rfl; rfl) | (apply wg_f; rfl; rfl; rfl; rfl) | (apply wg_u; rfl; rfl; rfl) | (apply c_t; rfl) | (apply c_f; rfl) | apply c_skip | apply c_block | apply n_blk | apply c_exit | apply e_hit | apply e_cd | apply e_lp | (apply e_miss; rfl) | apply c_ret | (apply wO; apply o_box; rfl; rfl; rfl; intro _) | (apply wO; apply o_alloc; rfl; intro _) | (apply wO; apply o_st; rfl; rfl; rfl; (first | exact AggC.s | exact OneC.s); rfl; exact rplE; exact putE; rfl) | (apply wO; apply o_bs0; rfl; intro _) | (apply wO; apply o_bs; rfl; rfl; rfl; rfl; exact rptE; exact filE; intro _) | (apply wO; apply o_call; rfl; kernel_rfl; exact evsE))
  refine t_read (E := EHold) fun F9 => ?_
  refine closeSource (withU x W) ?_
  refine ret ⟨_, _, _, _, _⟩ trivial rfl
theorem l11With_f (x : Source) (W : SendWindow) (v vw : Value) (F Fw : List Nat) (y0 : 0 ≤ W.trail) (y1 : W.trail ≤ 65535) (hl : x.holds.length ≤ 1000) (hn : ∀ h ∈ x.holds, isSer h.number = true) (hu : ∀ h ∈ x.holds, x.clock + 1 ≤ h.untl) :
    Fn Tryz.prog 98 [v, vw] [.isv ESource v x F, .isv ESendWindow vw W Fw] [] (fun (_ : SrcS) => True) (fun s => .agg #[.int .i64 W.trail, .int .i64 W.size, .slice s.a W.items.length s.c, .int .i64 x.clock, .int .i64 x.quiet, .slice s.a2 (keepH W x.holds).length s.c2])
      (fun s => [.isv ESource (.agg #[.int .i64 W.trail, .int .i64 W.size, .slice s.a W.items.length s.c, .int .i64 x.clock, .int .i64 x.quiet, .slice s.a2 (keepH W x.holds).length s.c2]) (withW x W) s.F]) := by
  have h := l11WithU_f x W v vw F Fw y0 y1 hl (wide_of hn)
  rw [withU_eq hu, keepU_eq hu] at h
  exact h
set_option maxRecDepth 100000 in
theorem specTrimSource_f (x : Source) (n : Int) (v : Value) (F : List Nat) :
    Fn Tryz.prog 28 [v, .int .i64 n] [.isv ESource v x F] [] (fun (_ : SrcS) => True)
      (fun s => .tuple #[.agg #[.int .i64 (resTrimSource x n).1.window.trail, .int .i64 (resTrimSource x n).1.window.size, .slice s.a (resTrimSource x n).1.window.items.length s.c, .int .i64 (resTrimSource x n).1.clock, .int .i64 (resTrimSource x n).1.quiet, .slice s.a2 (resTrimSource x n).1.holds.length s.c2], .int .i64 (resTrimSource x n).2.1, .bool (resTrimSource x n).2.2]) (fun s => [.isv ESource (.agg #[.int .i64 (resTrimSource x n).1.window.trail, .int .i64 (resTrimSource x n).1.window.size, .slice s.a (resTrimSource x n).1.window.items.length s.c, .int .i64 (resTrimSource x n).1.clock, .int .i64 (resTrimSource x n).1.quiet, .slice s.a2 (resTrimSource x n).1.holds.length s.c2]) (resTrimSource x n).1 s.F]) := by
  refine enter Tryz.func28 rfl Tryz.ntmps28 fun w0 => ?_
  refine t_nilsl EStr (by decide) ?_
  refine t_nilsl EHold (by decide) ?_
  refine closeSource zSrc ?_
  refine openSource (x := x) (F := F) ?_
  rintro a1 c1 F1 a2 c2 F2 rfl l1 l2
  refine closeSendWindow x.window (a1 := a1) ?_
  generalize F1 = F3
  repeat (first | apply c_seq | apply c_reg | (apply wO; apply oc; rfl; exact ydE) | apply w_nil | apply n_cd | (apply wg_t; rfl; rfl) | (apply wg_f; rfl; rfl; rfl; rfl) | (apply wg_u; rfl; rfl; rfl) | (apply c_t; rfl) | (apply c_f; rfl) | apply c_skip | apply c_block | apply n_blk | apply c_exit | apply e_hit | apply e_cd | apply e_lp | (apply e_miss; rfl) | apply c_ret | (apply wO; apply o_box; rfl; rfl; rfl; intro _) | (apply wO; apply o_alloc; rfl; intro _) | (apply wO; apply o_st; rfl; rfl; rfl; (first | exact AggC.s | exact OneC.s); rfl; exact rplE; exact putE; rfl) | (apply wO; apply o_bs0; rfl; intro _) | (apply wO; apply o_bs; rfl; rfl; rfl; rfl; exact rptE; exact filE; intro _) | (apply wO; apply o_call; rfl; kernel_rfl; exact evsE))
  refine cf (specDrop_f x.window n _ F3) fun y _ => ?_
  refine t_app ?_
  refine openOSendWindow ?_
  rintro a7 c7 F7 e7 l7
  rw [e7]
  repeat (first | apply c_seq | apply c_reg | (apply wO; apply oc; rfl; exact ydE) | apply w_nil | apply n_cd | (apply wg_t; rfl; rfl) | (apply wg_f; rfl; rfl; rfl; rfl) | (apply wg_u; rfl; rfl; rfl) | (apply c_t; rfl) | (apply c_f; rfl) | apply c_skip | apply c_block | apply n_blk | apply c_exit | apply e_hit | apply e_cd | apply e_lp | (apply e_miss; rfl) | apply c_ret | (apply wO; apply o_box; rfl; rfl; rfl; intro _) | (apply wO; apply o_alloc; rfl; intro _) | (apply wO; apply o_st; rfl; rfl; rfl; (first | exact AggC.s | exact OneC.s); rfl; exact rplE; exact putE; rfl) | (apply wO; apply o_bs0; rfl; intro _) | (apply wO; apply o_bs; rfl; rfl; rfl; rfl; exact rptE; exact filE; intro _) | (apply wO; apply o_call; rfl; kernel_rfl; exact evsE))
  refine cb (fun w st => (l11Good_f x _ F).val w (hol1 (st.get (p := .isv ESource (.agg #[.int .i64 x.window.trail, .int .i64 x.window.size, .slice a1 x.window.items.length c1, .int .i64 x.clock, .int .i64 x.quiet, .slice a2 x.holds.length c2]) x F) (by simp)))) ?_
  cases g1 : goodSrc x
  · rw [resTrim_no (by unfold okTrimSource; rw [g1]; rfl)]
    repeat (first | apply c_seq | apply c_reg | (apply wO; apply oc; rfl; exact ydE) | apply w_nil | apply n_cd | (apply wg_t; rfl; rfl) | (apply wg_f; rfl; rfl; rfl; rfl) | (apply wg_u; rfl; rfl; rfl) | (apply c_t; rfl) | (apply c_f; rfl) | apply c_skip | apply c_block | apply n_blk | apply c_exit | apply e_hit | apply e_cd | apply e_lp | (apply e_miss; rfl) | apply c_ret | (apply wO; apply o_box; rfl; rfl; rfl; intro _) | (apply wO; apply o_alloc; rfl; intro _) | (apply wO; apply o_st; rfl; rfl; rfl; (first | exact AggC.s | exact OneC.s); rfl; exact rplE; exact putE; rfl) | (apply wO; apply o_bs0; rfl; intro _) | (apply wO; apply o_bs; rfl; rfl; rfl; rfl; exact rptE; exact filE; intro _) | (apply wO; apply o_call; rfl; kernel_rfl; exact evsE))
    refine ret ⟨none, 0, none, 0, [] ++ []⟩ trivial rfl
  obtain ⟨gw, hl, t0, t1, k0, k1, hm, hn, hu, hb⟩ := goodS_of g1
  cases g2 : okDropItems x.window n
  · rw [resTrim_no (by unfold okTrimSource; rw [g1, g2]; rfl), drop_no g2]
    repeat (first | apply c_seq | apply c_reg | (apply wO; apply oc; rfl; exact ydE) | apply w_nil | apply n_cd | (apply wg_t; rfl; rfl) | (apply wg_f; rfl; rfl; rfl; rfl) | (apply wg_u; rfl; rfl; rfl) | (apply c_t; rfl) | (apply c_f; rfl) | apply c_skip | apply c_block | apply n_blk | apply c_exit | apply e_hit | apply e_cd | apply e_lp | (apply e_miss; rfl) | apply c_ret | (apply wO; apply o_box; rfl; rfl; rfl; intro _) | (apply wO; apply o_alloc; rfl; intro _) | (apply wO; apply o_st; rfl; rfl; rfl; (first | exact AggC.s | exact OneC.s); rfl; exact rplE; exact putE; rfl) | (apply wO; apply o_bs0; rfl; intro _) | (apply wO; apply o_bs; rfl; rfl; rfl; rfl; exact rptE; exact filE; intro _) | (apply wO; apply o_call; rfl; kernel_rfl; exact evsE))
    refine ret ⟨none, 0, none, 0, [] ++ []⟩ trivial rfl
  obtain ⟨W, k, hr, w0, w1⟩ := drop_yes g2 t0 t1
  have hR : resTrimSource x n = (withW x W, k, true) := by unfold resTrimSource okTrimSource; rw [g1, g2, hr]; rfl
  rw [hR, hr]
  repeat (first | apply c_seq | apply c_reg | (apply wO; apply oc; rfl; exact ydE) | apply w_nil | apply n_cd | (apply wg_t; rfl; rfl) | (apply wg_f; rfl; rfl; rfl; rfl) | (apply wg_u; rfl; rfl; rfl) | (apply c_t; rfl) | (apply c_f; rfl) | apply c_skip | apply c_block | apply n_blk | apply c_exit | apply e_hit | apply e_cd | apply e_lp | (apply e_miss; rfl) | apply c_ret | (apply wO; apply o_box; rfl; rfl; rfl; intro _) | (apply wO; apply o_alloc; rfl; intro _) | (apply wO; apply o_st; rfl; rfl; rfl; (first | exact AggC.s | exact OneC.s); rfl; exact rplE; exact putE; rfl) | (apply wO; apply o_bs0; rfl; intro _) | (apply wO; apply o_bs; rfl; rfl; rfl; rfl; exact rptE; exact filE; intro _))
  refine t_read (xs := W.items) fun F8 => ?_
  refine closeSendWindow W (a1 := a7) ?_
  repeat (first | apply c_seq | apply c_reg | (apply wO; apply oc; rfl; exact ydE) | apply w_nil | apply n_cd | (apply wg_t; rfl; rfl) | (apply wg_f; rfl; rfl; rfl; rfl) | (apply wg_u; rfl; rfl; rfl) | (apply c_t; rfl) | (apply c_f; rfl) | apply c_skip | apply c_block | apply n_blk | apply c_exit | apply e_hit | apply e_cd | apply e_lp | (apply e_miss; rfl) | apply c_ret | (apply wO; apply o_box; rfl; rfl; rfl; intro _) | (apply wO; apply o_alloc; rfl; intro _) | (apply wO; apply o_st; rfl; rfl; rfl; (first | exact AggC.s | exact OneC.s); rfl; exact rplE; exact putE; rfl) | (apply wO; apply o_bs0; rfl; intro _) | (apply wO; apply o_bs; rfl; rfl; rfl; rfl; exact rptE; exact filE; intro _) | (apply wO; apply o_call; rfl; kernel_rfl; exact evsE))
  refine cf (l11With_f x W _ _ F F8 w0 w1 (by omega) hn hu) fun q _ => ?_
  refine t_app ?_
  repeat (first | apply c_seq | apply c_reg | (apply wO; apply oc; rfl; exact ydE) | apply w_nil | apply n_cd | (apply wg_t; rfl; rfl) | (apply wg_f; rfl; rfl; rfl; rfl) | (apply wg_u; rfl; rfl; rfl) | (apply c_t; rfl) | (apply c_f; rfl) | apply c_skip | apply c_block | apply n_blk | apply c_exit | apply e_hit | apply e_cd | apply e_lp | (apply e_miss; rfl) | apply c_ret | (apply wO; apply o_box; rfl; rfl; rfl; intro _) | (apply wO; apply o_alloc; rfl; intro _) | (apply wO; apply o_st; rfl; rfl; rfl; (first | exact AggC.s | exact OneC.s); rfl; exact rplE; exact putE; rfl) | (apply wO; apply o_bs0; rfl; intro _) | (apply wO; apply o_bs; rfl; rfl; rfl; rfl; exact rptE; exact filE; intro _) | (apply wO; apply o_call; rfl; kernel_rfl; exact evsE))
  refine ret ⟨_, _, _, _, _⟩ trivial rfl
end Go.Proofs.YtidephmobajikaaGreatDoor
/- The type Packet of the exact laws: how it reads, how it is owned; the walks of its size, copy, equality, mark and held. Written by wip/gentypes.py. -/
namespace Go.Proofs.YtidephmobajikaaGreatDoor
open Go.RowKit
structure Packet where
  kind : Int
  number : Int
  trail : Int
  lead : Int
  data : ByteArray
/-- read -/
def EPacket : Elem Packet where
  sz := 5
  rep _ cs x F := cs = [.int .i64 x.kind, .int .i64 x.number, .int .i64 x.trail, .int .i64 x.lead, .string x.data] ∧ x.data.size ≤ maxLen ∧ F = []
  len h := by obtain ⟨rfl, s1, rfl⟩ := h; rfl
  lt h := by obtain ⟨rfl, s1, rfl⟩ := h; simp
  frame h _ := h
theorem one_EPacket : One EPacket := fun h u hu => by
  obtain ⟨rfl, s1, rfl⟩ := h
  simp only [List.mem_cons, List.not_mem_nil, or_false] at hu
  rcases hu with rfl | rfl | rfl | rfl | rfl
  · rfl
  · rfl
  · rfl
  · rfl
  · rfl
end Go.Proofs.YtidephmobajikaaGreatDoor
/- slices.Delete on a slice of strings that one owns. -/
namespace Go.Proofs.YtidephmobajikaaGreatDoor
open Go.RowKit Go.Shelf
theorem str_flat (w : World) : ∀ {xs : List ByteArray}, (∀ x ∈ xs, x.size ≤ maxLen) → Flat EStr w (xs.map Value.string) xs []
  | [], _ => ⟨rfl, rfl⟩
  | x :: r, h => ⟨[.string x], r.map Value.string, [], [], rfl, rfl, ⟨rfl, h x (by simp), rfl⟩, str_flat w (fun y hy => h y (by simp [hy]))⟩
end Go.Proofs.YtidephmobajikaaGreatDoor
/- A reading of a struct goes over a change that leaves its blocks. Plain: no program in sight. -/
namespace Go.Proofs.YtidephmobajikaaGreatDoor
open Go.RowKit
theorem IsV.frame {α : Type} {E : Elem α} {w w' : World} {v x F} (h : IsV E w v x F) (hF : ∀ b ∈ F, w'.heap[b]? = w.heap[b]?) : IsV E w' v x F := by
  obtain ⟨cs, hv, h⟩ := h; exact ⟨cs, hv, E.frame h hF⟩
end Go.Proofs.YtidephmobajikaaGreatDoor
/- Walks: the lead of a window; an item pushed. -/
namespace Go.Proofs.YtidephmobajikaaGreatDoor
open Go.RowKit
theorem aft_aft (t n : Int) : aft (aft t 1) (n - 1) = aft t n := by unfold aft; omega
/-- the window that has room -/
def roomed (x : SendWindow) : SendWindow := if (x.items.length : Int) = x.size then ⟨aft x.trail 1, x.size, x.items.drop 1⟩ else x
def pushedW (x : SendWindow) (s : ByteArray) : SendWindow := ⟨(roomed x).trail, x.size, (roomed x).items ++ [s]⟩
def pushedP (x : SendWindow) (s : ByteArray) : Packet := ⟨1, aft x.trail x.items.length, (roomed x).trail, aft (roomed x).trail ((roomed x).items.length + 1), s⟩
theorem one_src (w : World) (t : TypeId) (s : ByteArray) : ∀ j u, [Value.string s][j]? = some u → (w.alloc (.cells #[.string s] t)).cell? ((⟨w.heap.size, 0, none⟩ : Addr).add j) = some u := by
  intro j u hu
  cases j with
  | zero =>
    simp at hu
    subst hu
    simp [Addr.add]
  | succ j => simp at hu
theorem SendWindow_lead_c (t z : Int) (a : Option Addr) (n c : Nat) (w : World) (h0 : 0 ≤ t) (h1 : t ≤ 65535) (hn : n ≤ 4294967296) :
    Calls Tryz.prog 167 #[.agg #[.int .i64 t, .int .i64 z, .slice a n c]] w fun e w' => e = .returned (.int .i64 (aft t n)) ∧ Below w.heap.size w w' := by
  go_enter Tryz.func167, Tryz.ntmps167
  go_wp2_with fail
  refine (after_c _ _ _ (by omega) (by omega)).mono ?_
  rintro e w' ⟨rfl, rfl⟩
  go_wp2_with fail
  go_ret
  exact ⟨rfl, (Below.refl _ _).alloc (Nat.le_refl _) _⟩
theorem l9Lead_c (t z : Int) (a : Option Addr) (n c : Nat) (w : World) (h0 : 0 ≤ t) (h1 : t ≤ 65535) (hn : n ≤ 4294967296) :
    Calls Tryz.prog 172 #[.agg #[.int .i64 t, .int .i64 z, .slice a n c]] w fun e w' => e = .returned (.int .i64 (aft t n)) ∧ Below w.heap.size w w' := by
  go_enter Tryz.func172, Tryz.ntmps172
  go_wp2_with fail
  refine (l2After_c _ _ _ (by omega) (by omega)).mono ?_
  rintro e w' ⟨rfl, rfl⟩
  go_wp2_with fail
  go_ret
  exact ⟨rfl, (Below.refl _ _).alloc (Nat.le_refl _) _⟩
end Go.Proofs.YtidephmobajikaaGreatDoor
/- Walks: PushItem, the program's. -/
namespace Go.Proofs.YtidephmobajikaaGreatDoor
open Go.RowKit
end Go.Proofs.YtidephmobajikaaGreatDoor
/- Walks: the reference's push of an item. -/
namespace Go.Proofs.YtidephmobajikaaGreatDoor
open Go.RowKit
theorem aft_zero {t : Int} (h0 : 0 ≤ t) (h1 : t ≤ 65535) : aft t 0 = t := by unfold aft; omega
set_option maxHeartbeats 3200000 in
set_option maxRecDepth 100000 in
theorem l9Push_c (v0 : Value) (x0 : SendWindow) (F0 : List Nat) (s : ByteArray) (w : World) (h0 : IsV ESendWindow w v0 x0 F0) (hl : x0.items.length ≤ 6) (t0 : 0 ≤ x0.trail) (t1 : x0.trail ≤ 65535) (hs : s.size ≤ maxLen) (hz : 1 ≤ x0.size) :
    Calls Tryz.prog 175 #[v0, .string s] w fun e w' => ∃ u G, e = .returned (.tuple #[u, .agg #[.int .i64 1, .int .i64 (pushedP x0 s).number, .int .i64 (pushedP x0 s).trail, .int .i64 (pushedP x0 s).lead, .string s]]) ∧ IsV ESendWindow w' u (pushedW x0 s) G ∧ (∀ b ∈ G, w.heap.size ≤ b) ∧ Below w.heap.size w w' := by
  have A0 := h0
  have lA0 := h0.lt
  obtain ⟨_, rfl, v0_1, rfl, h0_1⟩ := h0
  obtain ⟨a0_1, c0_1, rfl⟩ := h0_1.slice
  clear h0_1
  go_enter Tryz.func175, Tryz.ntmps175
  go_wp2_with fail
  have al : Below w.heap.size w (((w.alloc (.cells #[.int .i64 x0.trail, .int .i64 x0.size, .slice a0_1 x0.items.length c0_1] 52)).alloc (.cells #[.int .i64 0, .int .i64 0, .slice none 0 0] 52)).alloc (.cells #[.int .i64 0, .int .i64 0, .int .i64 0, .int .i64 0, .string ⟨#[]⟩] 76)) := by
    repeat refine Below.alloc ?_ (by simp <;> omega) _
    exact Below.refl _ _
  have n_R0 : Row (((w.alloc (.cells #[.int .i64 x0.trail, .int .i64 x0.size, .slice a0_1 x0.items.length c0_1] 52)).alloc (.cells #[.int .i64 0, .int .i64 0, .slice none 0 0] 52)).alloc (.cells #[.int .i64 0, .int .i64 0, .int .i64 0, .int .i64 0, .string ⟨#[]⟩] 76)) (w.heap.size) 52 [.int .i64 x0.trail, .int .i64 x0.size, .slice a0_1 x0.items.length c0_1] := by simp [row_alloc] <;> omega
  have n_RZ : Row (((w.alloc (.cells #[.int .i64 x0.trail, .int .i64 x0.size, .slice a0_1 x0.items.length c0_1] 52)).alloc (.cells #[.int .i64 0, .int .i64 0, .slice none 0 0] 52)).alloc (.cells #[.int .i64 0, .int .i64 0, .int .i64 0, .int .i64 0, .string ⟨#[]⟩] 76)) (w.heap.size + 1) 52 [.int .i64 0, .int .i64 0, .slice none 0 0] := by simp [row_alloc] <;> omega
  have n_RP : Row (((w.alloc (.cells #[.int .i64 x0.trail, .int .i64 x0.size, .slice a0_1 x0.items.length c0_1] 52)).alloc (.cells #[.int .i64 0, .int .i64 0, .slice none 0 0] 52)).alloc (.cells #[.int .i64 0, .int .i64 0, .int .i64 0, .int .i64 0, .string ⟨#[]⟩] 76)) (w.heap.size + 1 + 1) 76 [.int .i64 0, .int .i64 0, .int .i64 0, .int .i64 0, .string ⟨#[]⟩] := by simp [row_alloc] <;> omega
  have hs_w1 : w.heap.size + 1 + 1 < (((w.alloc (.cells #[.int .i64 x0.trail, .int .i64 x0.size, .slice a0_1 x0.items.length c0_1] 52)).alloc (.cells #[.int .i64 0, .int .i64 0, .slice none 0 0] 52)).alloc (.cells #[.int .i64 0, .int .i64 0, .int .i64 0, .int .i64 0, .string ⟨#[]⟩] 76)).heap.size := by simp <;> omega
  replace A0 := A0.below al
  have hB := al
  generalize (((w.alloc (.cells #[.int .i64 x0.trail, .int .i64 x0.size, .slice a0_1 x0.items.length c0_1] 52)).alloc (.cells #[.int .i64 0, .int .i64 0, .slice none 0 0] 52)).alloc (.cells #[.int .i64 0, .int .i64 0, .int .i64 0, .int .i64 0, .string ⟨#[]⟩] 76)) = w1 at *
  have R0 := n_R0; clear n_R0
  have RZ := n_RZ; clear n_RZ
  have RP := n_RP; clear n_RP
  clear al
  obtain ⟨y, hy_y⟩ : ∃ y, y = (⟨aft x0.trail ((0 : Nat) : Int), x0.size, x0.items.drop 0⟩ : SendWindow) := ⟨_, rfl⟩
  have hd := l9Drop_c _ x0 F0 0 _ A0 (by omega) (by omega) (isSer_iff.2 ⟨t0, t1⟩)
  rw [← hy_y] at hd
  replace hy_y := Lib.hid hy_y
  refine (hd).mono ?_
  rintro e w2 ⟨_, F5, rfl, ⟨_, rfl, v3, rfl, o5⟩, n5, g5, hb⟩
  have hs_w2 := hb.size
  replace R0 := R0.below hb
  replace RZ := RZ.below hb
  replace RP := RP.below hb
  replace A0 := A0.below hb
  replace hB := tr hB hb (Nat.le_refl _)
  clear hb
  clear hd
  obtain ⟨a5, c5, rfl⟩ := o5.slice
  have l5 := o5.lt
  by_cases hf : (x0.items.length : Int) = x0.size
  · have c_R0 := R0.cells; have f_R0 := R0.frozens; have d_R0 := fun o => (R0.alloc o).cells; have e_R0 := fun o => (R0.alloc o).frozens
    have c_RZ := RZ.cells; have f_RZ := RZ.frozens; have d_RZ := fun o => (RZ.alloc o).cells; have e_RZ := fun o => (RZ.alloc o).frozens
    have c_RP := RP.cells; have f_RP := RP.frozens; have d_RP := fun o => (RP.alloc o).cells; have e_RP := fun o => (RP.alloc o).frozens
    go_wp2_with fail
    clear c_R0 f_R0 d_R0 e_R0 c_RZ f_RZ d_RZ e_RZ c_RP f_RP d_RP e_RP
    have al : Below w2.heap.size w2 (w2.alloc (.cells #[.int .i64 y.trail, .int .i64 y.size, .slice a5 y.items.length c5] 52)) := by
      repeat refine Below.alloc ?_ (by simp <;> omega) _
      exact Below.refl _ _
    have n_RO := Row.made w2 52 [.int .i64 y.trail, .int .i64 y.size, .slice a5 y.items.length c5]
    have hs_w3 : w2.heap.size < (w2.alloc (.cells #[.int .i64 y.trail, .int .i64 y.size, .slice a5 y.items.length c5] 52)).heap.size := by simp
    replace R0 := R0.below al
    replace RZ := RZ.below al
    replace RP := RP.below al
    replace A0 := A0.below al
    replace o5 := o5.below al
    replace hB := tr hB al (Nat.le_refl _)
    generalize (w2.alloc (.cells #[.int .i64 y.trail, .int .i64 y.size, .slice a5 y.items.length c5] 52)) = w3 at *
    have RO := n_RO; clear n_RO
    clear al
    clear o5
    obtain ⟨y2, hy_y2⟩ : ∃ y, y = (⟨aft x0.trail ((1 : Nat) : Int), x0.size, x0.items.drop 1⟩ : SendWindow) := ⟨_, rfl⟩
    have hd := l9Drop_c _ x0 F0 1 _ A0 (by omega) (by omega) (isSer_iff.2 ⟨t0, t1⟩)
    rw [← hy_y2] at hd
    replace hy_y2 := Lib.hid hy_y2
    refine (hd).mono ?_
    rintro e w4 ⟨_, F7b, rfl, ⟨_, rfl, v3, rfl, o7b⟩, n7, g7, hb⟩
    have hs_w4 := hb.size
    replace R0 := R0.below hb
    replace RZ := RZ.below hb
    replace RP := RP.below hb
    replace RO := RO.below hb
    replace A0 := A0.below hb
    replace hB := tr hB hb (Nat.le_refl _)
    clear hb
    clear hd
    obtain ⟨a7, c7, rfl⟩ := o7b.slice
    have l7 := o7b.lt
    clear A0
    replace o7b := Lib.hid o7b
    have c_R0 := R0.cells; have f_R0 := R0.frozens
    have c_RZ := RZ.cells; have f_RZ := RZ.frozens
    have c_RP := RP.cells; have f_RP := RP.frozens
    have c_RO := RO.cells; have f_RO := RO.frozens
    go_wp2_with fail
    clear c_R0 f_R0 c_RZ f_RZ c_RP f_RP c_RO f_RO
    replace o7b := o7b.out
    have hlo := RO.lt
    have n_R0 := R0.keep (show (((w4.setCell ⟨w2.heap.size, 0, none⟩ (.int .i64 y2.trail)).setCell ⟨w2.heap.size, 1, none⟩ (.int .i64 y2.size)).setCell ⟨w2.heap.size, 2, none⟩ (.slice a7 y2.items.length c7)).heap[_]? = _ from by repeat rw [Below.heap_setCell _ _ _ _ (by simp <;> omega)])
    have n_RZ := RZ.keep (show (((w4.setCell ⟨w2.heap.size, 0, none⟩ (.int .i64 y2.trail)).setCell ⟨w2.heap.size, 1, none⟩ (.int .i64 y2.size)).setCell ⟨w2.heap.size, 2, none⟩ (.slice a7 y2.items.length c7)).heap[_]? = _ from by repeat rw [Below.heap_setCell _ _ _ _ (by simp <;> omega)])
    have n_RP := RP.keep (show (((w4.setCell ⟨w2.heap.size, 0, none⟩ (.int .i64 y2.trail)).setCell ⟨w2.heap.size, 1, none⟩ (.int .i64 y2.size)).setCell ⟨w2.heap.size, 2, none⟩ (.slice a7 y2.items.length c7)).heap[_]? = _ from by repeat rw [Below.heap_setCell _ _ _ _ (by simp <;> omega)])
    have n_RO : Row (((w4.setCell ⟨w2.heap.size, 0, none⟩ (.int .i64 y2.trail)).setCell ⟨w2.heap.size, 1, none⟩ (.int .i64 y2.size)).setCell ⟨w2.heap.size, 2, none⟩ (.slice a7 y2.items.length c7)) (w2.heap.size) 52 [.int .i64 y2.trail, .int .i64 y2.size, .slice a7 y2.items.length c7] := by simpa using (((RO.set 0 (.int .i64 y2.trail)).set 1 (.int .i64 y2.size)).set 2 (.slice a7 y2.items.length c7))
    have n_o7b := o7b.frame (w' := (((w4.setCell ⟨w2.heap.size, 0, none⟩ (.int .i64 y2.trail)).setCell ⟨w2.heap.size, 1, none⟩ (.int .i64 y2.size)).setCell ⟨w2.heap.size, 2, none⟩ (.slice a7 y2.items.length c7))) fun b hb => by
      have h6 := g7 b hb
      repeat rw [Below.heap_setCell _ _ _ _ (by simp <;> omega)]
    have n_hB : Below w.heap.size w (((w4.setCell ⟨w2.heap.size, 0, none⟩ (.int .i64 y2.trail)).setCell ⟨w2.heap.size, 1, none⟩ (.int .i64 y2.size)).setCell ⟨w2.heap.size, 2, none⟩ (.slice a7 y2.items.length c7)) := by
      repeat refine Below.setCell ?_ (by simp <;> omega) _
      exact hB
    clear hB R0 RZ RP RO o7b
    have hs_w5 : w4.heap.size ≤ (((w4.setCell ⟨w2.heap.size, 0, none⟩ (.int .i64 y2.trail)).setCell ⟨w2.heap.size, 1, none⟩ (.int .i64 y2.size)).setCell ⟨w2.heap.size, 2, none⟩ (.slice a7 y2.items.length c7)).heap.size := by simp
    generalize (((w4.setCell ⟨w2.heap.size, 0, none⟩ (.int .i64 y2.trail)).setCell ⟨w2.heap.size, 1, none⟩ (.int .i64 y2.size)).setCell ⟨w2.heap.size, 2, none⟩ (.slice a7 y2.items.length c7)) = w5 at *
    have hB := n_hB; clear n_hB
    have R0 := n_R0; clear n_R0
    have RZ := n_RZ; clear n_RZ
    have RP := n_RP; clear n_RP
    have RO := n_RO; clear n_RO
    have o7b := n_o7b; clear n_o7b
    have hry : roomed x0 = y2 := by unfold roomed; rw [if_pos hf, hy_y2.out]; rfl
    replace hry := Lib.hid hry
    have hyt0 : 0 ≤ y2.trail := by rw [hy_y2.out]; exact (aft_bd _ _).1
    have hyt1 : y2.trail ≤ 65535 := by rw [hy_y2.out]; exact (aft_bd _ _).2
    have hyl : y2.items.length ≤ 6 := by rw [hy_y2.out]; simp; omega
    have hyz : y2.size = x0.size := by rw [hy_y2.out]
    replace hyz := Lib.hid hyz
    have hnum : aft y2.trail y2.items.length = aft x0.trail x0.items.length := by
      rw [hy_y2.out, ← aft_aft x0.trail x0.items.length]
      have h1 : ((x0.items.drop 1).length : Int) = (x0.items.length : Int) - 1 := by simp; omega
      rw [← h1]; rfl
    replace hnum := Lib.hid hnum
    clear hy_y2 hy_y hf
    have hne : ∀ b ∈ F7b, b ≠ w2.heap.size := fun b hb => by have := g7 b hb; omega
    have g5 : ∀ b ∈ F7b, w.heap.size + 2 < b := fun b hb => by have := g7 b hb; omega
    refine (l9Lead_c y2.trail y2.size a7 y2.items.length c7 _ hyt0 hyt1 (by omega)).mono ?_
    rintro e w6_ ⟨rfl, hb⟩
    have hs_w6_ := hb.size
    replace R0 := R0.below hb
    replace RZ := RZ.below hb
    replace RP := RP.below hb
    replace RO := RO.below hb
    replace o7b := o7b.below hb
    replace hB := tr hB hb (Nat.le_refl _)
    clear hb
    rw [hnum.out]
    have lR := RO.lt
    have c_R0 := R0.cells; have f_R0 := R0.frozens; have d_R0 := fun o => (R0.alloc o).cells; have e_R0 := fun o => (R0.alloc o).frozens
    have c_RZ := RZ.cells; have f_RZ := RZ.frozens; have d_RZ := fun o => (RZ.alloc o).cells; have e_RZ := fun o => (RZ.alloc o).frozens
    have c_RP := RP.cells; have f_RP := RP.frozens; have d_RP := fun o => (RP.alloc o).cells; have e_RP := fun o => (RP.alloc o).frozens
    have c_RO := RO.cells; have f_RO := RO.frozens; have d_RO := fun o => (RO.alloc o).cells; have e_RO := fun o => (RO.alloc o).frozens
    go_wp2_with (at_builtin; refine wpList_apd one_EStr (by decide) (by rfl) _ _ _ (by rfl) 9 (.string ⟨#[]⟩) 16 Tryz.underlying29 info_string rfl (.slice a7 y2.items.length c7) y2.items F7b (by rfl) (o7b.below ((Below.refl _ _).alloc (Nat.le_refl _) _)) (Hd.of n7) (some ⟨w6_.heap.size, 0, none⟩) [s] 1 (by rfl) [.string s] [] (str_flat (xs := [s]) _ (by simpa using hs)) (.inr ⟨_, rfl, one_src _ _ _⟩) (by simp) (by simp; unfold maxLen; omega) (by simp; omega) ?_)
    clear c_R0 f_R0 d_R0 e_R0 c_RZ f_RZ d_RZ e_RZ c_RP f_RP d_RP e_RP c_RO f_RO d_RO e_RO
    intro v6 w7 F6 hA
    have o6 := hA.ow
    have m6 := hA.mem
    have K6 := hA.keep
    have hs_w7 := K6.size
    obtain ⟨a6, c6, rfl⟩ := o6.slice
    clear hA
    replace R0 := (R0.alloc (.cells #[.string s] 9)).keepK K6 (fun hm => by have h1 := g5 _ hm; omega)
    replace RZ := (RZ.alloc (.cells #[.string s] 9)).keepK K6 (fun hm => by have h1 := g5 _ hm; omega)
    replace RP := (RP.alloc (.cells #[.string s] 9)).keepK K6 (fun hm => by have h1 := g5 _ hm; omega)
    replace RO := (RO.alloc (.cells #[.string s] 9)).keepK K6 (fun hm => hne _ hm rfl)
    replace hB := (tr hB ((Below.refl _ _).alloc (Nat.le_refl _) (.cells #[.string s] 9)) (Nat.le_refl _)).trans (K6.below (B := w.heap.size) (by simp; omega) (fun b hm => by have h1 := g5 _ hm; omega))
    have g6 : ∀ b ∈ F6, b ≠ w2.heap.size ∧ w.heap.size + 2 < b := fun b hb => by
      rcases m6 b hb with h1 | h1 | h1
      · exact ⟨(hne b h1), g5 b h1⟩
      · simp at h1
      · simp at h1; omega
    clear K6 m6 o7b g5 hne
    have hlen : (y2.items ++ [s]).length = y2.items.length + 1 := by simp
    rw [hlen] at o6
    replace o6 := Lib.hid o6
    have c_R0 := R0.cells; have f_R0 := R0.frozens
    have c_RZ := RZ.cells; have f_RZ := RZ.frozens
    have c_RP := RP.cells; have f_RP := RP.frozens
    have c_RO := RO.cells; have f_RO := RO.frozens
    go_wp2_with fail
    clear c_R0 f_R0 c_RZ f_RZ c_RP f_RP c_RO f_RO
    replace o6 := o6.out
    have n_R0 := R0.keep (show (w7.setCell ⟨w2.heap.size, 2, none⟩ (.slice a6 (y2.items.length + 1) c6)).heap[_]? = _ from by repeat rw [Below.heap_setCell _ _ _ _ (by simp <;> omega)])
    have n_RZ := RZ.keep (show (w7.setCell ⟨w2.heap.size, 2, none⟩ (.slice a6 (y2.items.length + 1) c6)).heap[_]? = _ from by repeat rw [Below.heap_setCell _ _ _ _ (by simp <;> omega)])
    have n_RP := RP.keep (show (w7.setCell ⟨w2.heap.size, 2, none⟩ (.slice a6 (y2.items.length + 1) c6)).heap[_]? = _ from by repeat rw [Below.heap_setCell _ _ _ _ (by simp <;> omega)])
    have n_RO : Row (w7.setCell ⟨w2.heap.size, 2, none⟩ (.slice a6 (y2.items.length + 1) c6)) (w2.heap.size) 52 [.int .i64 y2.trail, .int .i64 y2.size, .slice a6 (y2.items.length + 1) c6] := by simpa using (RO.set 2 (.slice a6 (y2.items.length + 1) c6))
    have n_o6 := o6.frame (w' := (w7.setCell ⟨w2.heap.size, 2, none⟩ (.slice a6 (y2.items.length + 1) c6))) fun b hb => by
      have h6 := g6 b hb
      repeat rw [Below.heap_setCell _ _ _ _ (by simp <;> omega)]
    have n_hB : Below w.heap.size w (w7.setCell ⟨w2.heap.size, 2, none⟩ (.slice a6 (y2.items.length + 1) c6)) := by
      repeat refine Below.setCell ?_ (by simp <;> omega) _
      exact hB
    clear hB R0 RZ RP RO o6
    have hs_w8 : w7.heap.size ≤ (w7.setCell ⟨w2.heap.size, 2, none⟩ (.slice a6 (y2.items.length + 1) c6)).heap.size := by simp
    generalize (w7.setCell ⟨w2.heap.size, 2, none⟩ (.slice a6 (y2.items.length + 1) c6)) = w8 at *
    have hB := n_hB; clear n_hB
    have R0 := n_R0; clear n_R0
    have RZ := n_RZ; clear n_RZ
    have RP := n_RP; clear n_RP
    have RO := n_RO; clear n_RO
    have o6 := n_o6; clear n_o6
    rename_i K0 hK0
    refine AnyX.start (S := (fun w' => w'.cell? ⟨w2.heap.size, 0, none⟩ = some (.int .i64 y2.trail) ∧ w'.cell? ⟨w2.heap.size, 1, none⟩ = some (.int .i64 y2.size) ∧ w'.cell? ⟨w2.heap.size, 2, none⟩ = some (.slice a6 (y2.items.length + 1) c6))) (X := (fun _ => false)) (by kernel_rfl) ?_
    have al : Below w8.heap.size w8 w8.drew := belowDrewN (Below.refl _ _) 1
    have hs_w9 := al.size
    replace R0 := R0.below al
    replace RZ := RZ.below al
    replace RP := RP.below al
    replace RO := RO.below al
    replace o6 := o6.below al
    replace hB := tr hB al (Nat.le_refl _)
    generalize w8.drew = w9 at *
    clear al
    have hS : (fun w' => w'.cell? ⟨w2.heap.size, 0, none⟩ = some (.int .i64 y2.trail) ∧ w'.cell? ⟨w2.heap.size, 1, none⟩ = some (.int .i64 y2.size) ∧ w'.cell? ⟨w2.heap.size, 2, none⟩ = some (.slice a6 (y2.items.length + 1) c6)) w9 := ⟨RO.cells 0, RO.cells 1, RO.cells 2⟩
    refine AnyX.take (i := 0) (oi := _) (v := ?_) (by rw [List.getElem?_toArray]; rfl) (by kernel_rfl) (by kernel_rfl) (by kernel_rfl) (by kernel_rfl) (by kernel_rfl) (by exact fun _ _ _ h => h) (Or.inl ⟨by rfl, ?_⟩) hS ?_
    rotate_left
    · (intro wS hSw; (try dsimp only at hSw); go_simp; try with_reducible rfl)
    try simp only [Act.put, List.setIfInBounds_toArray, List.set_cons_zero, List.set_cons_succ]
    refine AnyX.take (i := 1) (oi := _) (v := ?_) (by rw [List.getElem?_toArray]; rfl) (by kernel_rfl) (by kernel_rfl) (by kernel_rfl) (by kernel_rfl) (by kernel_rfl) (by exact fun _ _ _ h => h) (Or.inl ⟨by rfl, ?_⟩) hS ?_
    rotate_left
    · (intro wS hSw; (try dsimp only at hSw); go_simp; try with_reducible rfl)
    try simp only [Act.put, List.setIfInBounds_toArray, List.set_cons_zero, List.set_cons_succ]
    refine AnyX.take (i := 2) (oi := _) (v := ?_) (by rw [List.getElem?_toArray]; rfl) (by kernel_rfl) (by kernel_rfl) (by kernel_rfl) (by kernel_rfl) (by kernel_rfl) (by exact fun _ _ _ h => h) (Or.inl ⟨by rfl, ?_⟩) hS ?_
    rotate_left
    · (intro wS hSw; (try dsimp only at hSw); go_simp; try with_reducible rfl)
    try simp only [Act.put, List.setIfInBounds_toArray, List.set_cons_zero, List.set_cons_succ]
    refine AnyX.take (i := 3) (oi := _) (v := ?_) (by rw [List.getElem?_toArray]; rfl) (by kernel_rfl) (by kernel_rfl) (by kernel_rfl) (by kernel_rfl) (by kernel_rfl) (by exact fun _ _ _ h => h) (Or.inl ⟨by rfl, ?_⟩) hS ?_
    rotate_left
    · (intro wS hSw; (try dsimp only at hSw); go_simp; try with_reducible rfl)
    try simp only [Act.put, List.setIfInBounds_toArray, List.set_cons_zero, List.set_cons_succ]
    refine AnyX.take (i := 4) (oi := _) (v := ?_) (by rw [List.getElem?_toArray]; rfl) (by kernel_rfl) (by kernel_rfl) (by kernel_rfl) (by kernel_rfl) (by kernel_rfl) (by exact fun _ _ _ h => h) (Or.inl ⟨by rfl, ?_⟩) hS ?_
    rotate_left
    · (intro wS hSw; (try dsimp only at hSw); go_simp; try with_reducible rfl)
    try simp only [Act.put, List.setIfInBounds_toArray, List.set_cons_zero, List.set_cons_succ]
    refine AnyX.take (i := 6) (oi := _) (v := ?_) (by rw [List.getElem?_toArray]; rfl) (by kernel_rfl) (by kernel_rfl) (by kernel_rfl) (by kernel_rfl) (by kernel_rfl) (by exact fun _ _ _ h => h) (Or.inl ⟨by rfl, ?_⟩) hS ?_
    rotate_left
    · (intro wS hSw; (try dsimp only at hSw); go_simp; try with_reducible rfl)
    try simp only [Act.put, List.setIfInBounds_toArray, List.set_cons_zero, List.set_cons_succ]
    refine AnyX.only (i := 5) (o := _) (by kernel_rfl) (by rw [List.getElem?_toArray]; rfl) (fun K hK => ?_)
    go_simp
    go_at_call 172
    refine (l9Lead_c y2.trail y2.size a6 (y2.items.length + 1) c6 _ hyt0 hyt1 (by omega)).mono ?_
    rintro e w10_ ⟨rfl, hb⟩
    have hs_w10_ := hb.size
    replace R0 := R0.below hb
    replace RZ := RZ.below hb
    replace RP := RP.below hb
    replace RO := RO.below hb
    replace o6 := o6.below hb
    replace hB := tr hB hb (Nat.le_refl _)
    clear hb
    clear hS
    have hS : (fun w' => w'.cell? ⟨w2.heap.size, 0, none⟩ = some (.int .i64 y2.trail) ∧ w'.cell? ⟨w2.heap.size, 1, none⟩ = some (.int .i64 y2.size) ∧ w'.cell? ⟨w2.heap.size, 2, none⟩ = some (.slice a6 (y2.items.length + 1) c6)) w10_ := ⟨RO.cells 0, RO.cells 1, RO.cells 2⟩
    refine hK.out _ _ (fun _ => hS) ?_
    clear hK K
    try simp only [Act.put, List.setIfInBounds_toArray, List.set_cons_zero, List.set_cons_succ]
    refine AnyX.take (i := 7) (oi := _) (v := ?_) (by rw [List.getElem?_toArray]; rfl) (by kernel_rfl) (by kernel_rfl) (by kernel_rfl) (by kernel_rfl) (by kernel_rfl) (by exact fun _ _ _ h => h) (Or.inl ⟨by rfl, ?_⟩) hS ?_
    rotate_left
    · (intro wS hSw; (try dsimp only at hSw); go_simp; try with_reducible rfl)
    try simp only [Act.put, List.setIfInBounds_toArray, List.set_cons_zero, List.set_cons_succ]
    refine AnyX.only (i := 8) (o := _) (by kernel_rfl) (by rw [List.getElem?_toArray]; rfl) (fun K hK => ?_)
    have c_R0 := R0.cells; have f_R0 := R0.frozens
    have c_RZ := RZ.cells; have f_RZ := RZ.frozens
    have c_RP := RP.cells; have f_RP := RP.frozens
    have c_RO := RO.cells; have f_RO := RO.frozens
    go_simp
    clear c_R0 f_R0 c_RZ f_RZ c_RP f_RP c_RO f_RO
    have n_R0 := R0.keep (show (((w10_.setCell ⟨w.heap.size + 1, 0, none⟩ (.int .i64 y2.trail)).setCell ⟨w.heap.size + 1, 1, none⟩ (.int .i64 y2.size)).setCell ⟨w.heap.size + 1, 2, none⟩ (.slice a6 (y2.items.length + 1) c6)).heap[_]? = _ from by repeat rw [Below.heap_setCell _ _ _ _ (by simp <;> omega)])
    have n_RP := RP.keep (show (((w10_.setCell ⟨w.heap.size + 1, 0, none⟩ (.int .i64 y2.trail)).setCell ⟨w.heap.size + 1, 1, none⟩ (.int .i64 y2.size)).setCell ⟨w.heap.size + 1, 2, none⟩ (.slice a6 (y2.items.length + 1) c6)).heap[_]? = _ from by repeat rw [Below.heap_setCell _ _ _ _ (by simp <;> omega)])
    have n_RO := RO.keep (show (((w10_.setCell ⟨w.heap.size + 1, 0, none⟩ (.int .i64 y2.trail)).setCell ⟨w.heap.size + 1, 1, none⟩ (.int .i64 y2.size)).setCell ⟨w.heap.size + 1, 2, none⟩ (.slice a6 (y2.items.length + 1) c6)).heap[_]? = _ from by repeat rw [Below.heap_setCell _ _ _ _ (by simp <;> omega)])
    have n_RZ : Row (((w10_.setCell ⟨w.heap.size + 1, 0, none⟩ (.int .i64 y2.trail)).setCell ⟨w.heap.size + 1, 1, none⟩ (.int .i64 y2.size)).setCell ⟨w.heap.size + 1, 2, none⟩ (.slice a6 (y2.items.length + 1) c6)) (w.heap.size + 1) 52 [.int .i64 y2.trail, .int .i64 y2.size, .slice a6 (y2.items.length + 1) c6] := by simpa using (((RZ.set 0 (.int .i64 y2.trail)).set 1 (.int .i64 y2.size)).set 2 (.slice a6 (y2.items.length + 1) c6))
    have n_o6 := o6.frame (w' := (((w10_.setCell ⟨w.heap.size + 1, 0, none⟩ (.int .i64 y2.trail)).setCell ⟨w.heap.size + 1, 1, none⟩ (.int .i64 y2.size)).setCell ⟨w.heap.size + 1, 2, none⟩ (.slice a6 (y2.items.length + 1) c6))) fun b hb => by
      have h6 := g6 b hb
      repeat rw [Below.heap_setCell _ _ _ _ (by simp <;> omega)]
    have n_hB : Below w.heap.size w (((w10_.setCell ⟨w.heap.size + 1, 0, none⟩ (.int .i64 y2.trail)).setCell ⟨w.heap.size + 1, 1, none⟩ (.int .i64 y2.size)).setCell ⟨w.heap.size + 1, 2, none⟩ (.slice a6 (y2.items.length + 1) c6)) := by
      repeat refine Below.setCell ?_ (by simp <;> omega) _
      exact hB
    clear hB R0 RZ RP RO o6
    have hs_w11 : w10_.heap.size ≤ (((w10_.setCell ⟨w.heap.size + 1, 0, none⟩ (.int .i64 y2.trail)).setCell ⟨w.heap.size + 1, 1, none⟩ (.int .i64 y2.size)).setCell ⟨w.heap.size + 1, 2, none⟩ (.slice a6 (y2.items.length + 1) c6)).heap.size := by simp
    generalize (((w10_.setCell ⟨w.heap.size + 1, 0, none⟩ (.int .i64 y2.trail)).setCell ⟨w.heap.size + 1, 1, none⟩ (.int .i64 y2.size)).setCell ⟨w.heap.size + 1, 2, none⟩ (.slice a6 (y2.items.length + 1) c6)) = w11 at *
    have hB := n_hB; clear n_hB
    have R0 := n_R0; clear n_R0
    have RZ := n_RZ; clear n_RZ
    have RP := n_RP; clear n_RP
    have RO := n_RO; clear n_RO
    have o6 := n_o6; clear n_o6
    clear hS
    have hS : (fun w' => w'.cell? ⟨w2.heap.size, 0, none⟩ = some (.int .i64 y2.trail) ∧ w'.cell? ⟨w2.heap.size, 1, none⟩ = some (.int .i64 y2.size) ∧ w'.cell? ⟨w2.heap.size, 2, none⟩ = some (.slice a6 (y2.items.length + 1) c6)) w11 := ⟨RO.cells 0, RO.cells 1, RO.cells 2⟩
    refine hK.out _ _ (fun _ => hS) ?_
    clear hK K
    try simp only [Act.put, List.setIfInBounds_toArray, List.set_cons_zero, List.set_cons_succ]
    refine AnyX.only (i := 9) (o := _) (by kernel_rfl) (by rw [List.getElem?_toArray]; rfl) (fun K hK => ?_)
    have c_R0 := R0.cells; have f_R0 := R0.frozens
    have c_RZ := RZ.cells; have f_RZ := RZ.frozens
    have c_RP := RP.cells; have f_RP := RP.frozens
    have c_RO := RO.cells; have f_RO := RO.frozens
    go_simp
    clear c_R0 f_R0 c_RZ f_RZ c_RP f_RP c_RO f_RO
    have n_R0 := R0.keep (show (((((w11.setCell ⟨w.heap.size + 1 + 1, 0, none⟩ (.int .i64 1)).setCell ⟨w.heap.size + 1 + 1, 1, none⟩ (.int .i64 (aft x0.trail x0.items.length))).setCell ⟨w.heap.size + 1 + 1, 2, none⟩ (.int .i64 y2.trail)).setCell ⟨w.heap.size + 1 + 1, 3, none⟩ (.int .i64 (aft y2.trail ((y2.items.length : Int) + 1)))).setCell ⟨w.heap.size + 1 + 1, 4, none⟩ (.string s)).heap[_]? = _ from by repeat rw [Below.heap_setCell _ _ _ _ (by simp <;> omega)])
    have n_RZ := RZ.keep (show (((((w11.setCell ⟨w.heap.size + 1 + 1, 0, none⟩ (.int .i64 1)).setCell ⟨w.heap.size + 1 + 1, 1, none⟩ (.int .i64 (aft x0.trail x0.items.length))).setCell ⟨w.heap.size + 1 + 1, 2, none⟩ (.int .i64 y2.trail)).setCell ⟨w.heap.size + 1 + 1, 3, none⟩ (.int .i64 (aft y2.trail ((y2.items.length : Int) + 1)))).setCell ⟨w.heap.size + 1 + 1, 4, none⟩ (.string s)).heap[_]? = _ from by repeat rw [Below.heap_setCell _ _ _ _ (by simp <;> omega)])
    have n_RO := RO.keep (show (((((w11.setCell ⟨w.heap.size + 1 + 1, 0, none⟩ (.int .i64 1)).setCell ⟨w.heap.size + 1 + 1, 1, none⟩ (.int .i64 (aft x0.trail x0.items.length))).setCell ⟨w.heap.size + 1 + 1, 2, none⟩ (.int .i64 y2.trail)).setCell ⟨w.heap.size + 1 + 1, 3, none⟩ (.int .i64 (aft y2.trail ((y2.items.length : Int) + 1)))).setCell ⟨w.heap.size + 1 + 1, 4, none⟩ (.string s)).heap[_]? = _ from by repeat rw [Below.heap_setCell _ _ _ _ (by simp <;> omega)])
    have n_RP : Row (((((w11.setCell ⟨w.heap.size + 1 + 1, 0, none⟩ (.int .i64 1)).setCell ⟨w.heap.size + 1 + 1, 1, none⟩ (.int .i64 (aft x0.trail x0.items.length))).setCell ⟨w.heap.size + 1 + 1, 2, none⟩ (.int .i64 y2.trail)).setCell ⟨w.heap.size + 1 + 1, 3, none⟩ (.int .i64 (aft y2.trail ((y2.items.length : Int) + 1)))).setCell ⟨w.heap.size + 1 + 1, 4, none⟩ (.string s)) (w.heap.size + 1 + 1) 76 [.int .i64 1, .int .i64 (aft x0.trail x0.items.length), .int .i64 y2.trail, .int .i64 (aft y2.trail ((y2.items.length : Int) + 1)), .string s] := by simpa using (((((RP.set 0 (.int .i64 1)).set 1 (.int .i64 (aft x0.trail x0.items.length))).set 2 (.int .i64 y2.trail)).set 3 (.int .i64 (aft y2.trail ((y2.items.length : Int) + 1)))).set 4 (.string s))
    have n_o6 := o6.frame (w' := (((((w11.setCell ⟨w.heap.size + 1 + 1, 0, none⟩ (.int .i64 1)).setCell ⟨w.heap.size + 1 + 1, 1, none⟩ (.int .i64 (aft x0.trail x0.items.length))).setCell ⟨w.heap.size + 1 + 1, 2, none⟩ (.int .i64 y2.trail)).setCell ⟨w.heap.size + 1 + 1, 3, none⟩ (.int .i64 (aft y2.trail ((y2.items.length : Int) + 1)))).setCell ⟨w.heap.size + 1 + 1, 4, none⟩ (.string s))) fun b hb => by
      have h6 := g6 b hb
      repeat rw [Below.heap_setCell _ _ _ _ (by simp <;> omega)]
    have n_hB : Below w.heap.size w (((((w11.setCell ⟨w.heap.size + 1 + 1, 0, none⟩ (.int .i64 1)).setCell ⟨w.heap.size + 1 + 1, 1, none⟩ (.int .i64 (aft x0.trail x0.items.length))).setCell ⟨w.heap.size + 1 + 1, 2, none⟩ (.int .i64 y2.trail)).setCell ⟨w.heap.size + 1 + 1, 3, none⟩ (.int .i64 (aft y2.trail ((y2.items.length : Int) + 1)))).setCell ⟨w.heap.size + 1 + 1, 4, none⟩ (.string s)) := by
      repeat refine Below.setCell ?_ (by simp <;> omega) _
      exact hB
    clear hB R0 RZ RP RO o6
    have hs_w12 : w11.heap.size ≤ (((((w11.setCell ⟨w.heap.size + 1 + 1, 0, none⟩ (.int .i64 1)).setCell ⟨w.heap.size + 1 + 1, 1, none⟩ (.int .i64 (aft x0.trail x0.items.length))).setCell ⟨w.heap.size + 1 + 1, 2, none⟩ (.int .i64 y2.trail)).setCell ⟨w.heap.size + 1 + 1, 3, none⟩ (.int .i64 (aft y2.trail ((y2.items.length : Int) + 1)))).setCell ⟨w.heap.size + 1 + 1, 4, none⟩ (.string s)).heap.size := by simp
    generalize (((((w11.setCell ⟨w.heap.size + 1 + 1, 0, none⟩ (.int .i64 1)).setCell ⟨w.heap.size + 1 + 1, 1, none⟩ (.int .i64 (aft x0.trail x0.items.length))).setCell ⟨w.heap.size + 1 + 1, 2, none⟩ (.int .i64 y2.trail)).setCell ⟨w.heap.size + 1 + 1, 3, none⟩ (.int .i64 (aft y2.trail ((y2.items.length : Int) + 1)))).setCell ⟨w.heap.size + 1 + 1, 4, none⟩ (.string s)) = w12 at *
    have hB := n_hB; clear n_hB
    have R0 := n_R0; clear n_R0
    have RZ := n_RZ; clear n_RZ
    have RP := n_RP; clear n_RP
    have RO := n_RO; clear n_RO
    have o6 := n_o6; clear n_o6
    clear hS
    have hS : (fun w' => w'.cell? ⟨w2.heap.size, 0, none⟩ = some (.int .i64 y2.trail) ∧ w'.cell? ⟨w2.heap.size, 1, none⟩ = some (.int .i64 y2.size) ∧ w'.cell? ⟨w2.heap.size, 2, none⟩ = some (.slice a6 (y2.items.length + 1) c6)) w12 := ⟨RO.cells 0, RO.cells 1, RO.cells 2⟩
    refine hK.out _ _ (fun _ => hS) ?_
    clear hK K
    try simp only [Act.put, List.setIfInBounds_toArray, List.set_cons_zero, List.set_cons_succ]
    refine AnyX.done (by kernel_rfl) ?_ _
    (try clear hS)
    refine hK0 _ _ ?_
    clear hK0 K0
    obtain ⟨F7, hF7, s7⟩ := o6.sl (Weak.refl _)
    clear o6
    replace s7 := Lib.hid s7
    have c_R0 := R0.cells; have f_R0 := R0.frozens
    have c_RZ := RZ.cells; have f_RZ := RZ.frozens
    have c_RP := RP.cells; have f_RP := RP.frozens
    have c_RO := RO.cells; have f_RO := RO.frozens
    go_wp2_with fail
    refine bodyPost_ret (v := .tuple #[.agg #[.int .i64 y2.trail, .int .i64 y2.size, .slice a6 (y2.items.length + 1) c6], .agg #[.int .i64 1, .int .i64 (aft x0.trail x0.items.length), .int .i64 y2.trail, .int .i64 (aft y2.trail ((y2.items.length : Int) + 1)), .string s]]) ?_ rfl ?_
    · simp [results, Tryz.results175, go_sem, c_RZ, f_RZ, c_RP, f_RP]
    · have hry2 := hry.out
      have hyz2 := hyz.out
      rw [show pushedW x0 s = ⟨y2.trail, y2.size, y2.items ++ [s]⟩ from by unfold pushedW; rw [hry2, hyz2]]
      refine ⟨_, F7, by unfold pushedP; rw [hry2], ⟨_, rfl, _, rfl, s7.out⟩, fun b hb => by have := g6 b (hF7 b hb); omega, hB⟩
  · have c_R0 := R0.cells; have f_R0 := R0.frozens; have d_R0 := fun o => (R0.alloc o).cells; have e_R0 := fun o => (R0.alloc o).frozens
    have c_RZ := RZ.cells; have f_RZ := RZ.frozens; have d_RZ := fun o => (RZ.alloc o).cells; have e_RZ := fun o => (RZ.alloc o).frozens
    have c_RP := RP.cells; have f_RP := RP.frozens; have d_RP := fun o => (RP.alloc o).cells; have e_RP := fun o => (RP.alloc o).frozens
    go_wp2_with fail
    clear c_R0 f_R0 d_R0 e_R0 c_RZ f_RZ d_RZ e_RZ c_RP f_RP d_RP e_RP
    have al : Below w2.heap.size w2 (w2.alloc (.cells #[.int .i64 y.trail, .int .i64 y.size, .slice a5 y.items.length c5] 52)) := by
      repeat refine Below.alloc ?_ (by simp <;> omega) _
      exact Below.refl _ _
    have n_RO := Row.made w2 52 [.int .i64 y.trail, .int .i64 y.size, .slice a5 y.items.length c5]
    have hs_w13 : w2.heap.size < (w2.alloc (.cells #[.int .i64 y.trail, .int .i64 y.size, .slice a5 y.items.length c5] 52)).heap.size := by simp
    replace R0 := R0.below al
    replace RZ := RZ.below al
    replace RP := RP.below al
    replace A0 := A0.below al
    replace o5 := o5.below al
    replace hB := tr hB al (Nat.le_refl _)
    generalize (w2.alloc (.cells #[.int .i64 y.trail, .int .i64 y.size, .slice a5 y.items.length c5] 52)) = w13 at *
    have RO := n_RO; clear n_RO
    clear al
    clear A0
    have hyx : y = x0 := by rw [hy_y.out]; show (⟨aft x0.trail 0, x0.size, x0.items⟩ : SendWindow) = x0; rw [aft_zero t0 t1]
    have hry : roomed x0 = y := by unfold roomed; rw [if_neg hf, hyx]
    replace hry := Lib.hid hry
    have hyt0 : 0 ≤ y.trail := by rw [hyx]; exact t0
    have hyt1 : y.trail ≤ 65535 := by rw [hyx]; exact t1
    have hyl : y.items.length ≤ 6 := by rw [hyx]; exact hl
    have hyz : y.size = x0.size := by rw [hyx]
    replace hyz := Lib.hid hyz
    have hnum : aft y.trail y.items.length = aft x0.trail x0.items.length := by rw [hyx]
    replace hnum := Lib.hid hnum
    clear hyx hy_y hf
    have hsP := RP.lt
    have hne : ∀ b ∈ F5, b ≠ w2.heap.size := fun b hb => by have := l5 b hb; omega
    have g5 : ∀ b ∈ F5, w.heap.size + 2 < b := fun b hb => by have := g5 b hb; omega
    refine (l9Lead_c y.trail y.size a5 y.items.length c5 _ hyt0 hyt1 (by omega)).mono ?_
    rintro e w14_ ⟨rfl, hb⟩
    have hs_w14_ := hb.size
    replace R0 := R0.below hb
    replace RZ := RZ.below hb
    replace RP := RP.below hb
    replace RO := RO.below hb
    replace o5 := o5.below hb
    replace hB := tr hB hb (Nat.le_refl _)
    clear hb
    rw [hnum.out]
    have lR := RO.lt
    have c_R0 := R0.cells; have f_R0 := R0.frozens; have d_R0 := fun o => (R0.alloc o).cells; have e_R0 := fun o => (R0.alloc o).frozens
    have c_RZ := RZ.cells; have f_RZ := RZ.frozens; have d_RZ := fun o => (RZ.alloc o).cells; have e_RZ := fun o => (RZ.alloc o).frozens
    have c_RP := RP.cells; have f_RP := RP.frozens; have d_RP := fun o => (RP.alloc o).cells; have e_RP := fun o => (RP.alloc o).frozens
    have c_RO := RO.cells; have f_RO := RO.frozens; have d_RO := fun o => (RO.alloc o).cells; have e_RO := fun o => (RO.alloc o).frozens
    go_wp2_with (at_builtin; refine wpList_apd one_EStr (by decide) (by rfl) _ _ _ (by rfl) 9 (.string ⟨#[]⟩) 16 Tryz.underlying29 info_string rfl (.slice a5 y.items.length c5) y.items F5 (by rfl) (o5.below ((Below.refl _ _).alloc (Nat.le_refl _) _)) (Hd.of n5) (some ⟨w14_.heap.size, 0, none⟩) [s] 1 (by rfl) [.string s] [] (str_flat (xs := [s]) _ (by simpa using hs)) (.inr ⟨_, rfl, one_src _ _ _⟩) (by simp) (by simp; unfold maxLen; omega) (by simp; omega) ?_)
    clear c_R0 f_R0 d_R0 e_R0 c_RZ f_RZ d_RZ e_RZ c_RP f_RP d_RP e_RP c_RO f_RO d_RO e_RO
    intro v6 w15 F6 hA
    have o6 := hA.ow
    have m6 := hA.mem
    have K6 := hA.keep
    have hs_w15 := K6.size
    obtain ⟨a6, c6, rfl⟩ := o6.slice
    clear hA
    replace R0 := (R0.alloc (.cells #[.string s] 9)).keepK K6 (fun hm => by have h1 := g5 _ hm; omega)
    replace RZ := (RZ.alloc (.cells #[.string s] 9)).keepK K6 (fun hm => by have h1 := g5 _ hm; omega)
    replace RP := (RP.alloc (.cells #[.string s] 9)).keepK K6 (fun hm => by have h1 := g5 _ hm; omega)
    replace RO := (RO.alloc (.cells #[.string s] 9)).keepK K6 (fun hm => hne _ hm rfl)
    replace hB := (tr hB ((Below.refl _ _).alloc (Nat.le_refl _) (.cells #[.string s] 9)) (Nat.le_refl _)).trans (K6.below (B := w.heap.size) (by simp; omega) (fun b hm => by have h1 := g5 _ hm; omega))
    have g6 : ∀ b ∈ F6, b ≠ w2.heap.size ∧ w.heap.size + 2 < b := fun b hb => by
      rcases m6 b hb with h1 | h1 | h1
      · exact ⟨(hne b h1), g5 b h1⟩
      · simp at h1
      · simp at h1; omega
    clear K6 m6 o5 g5 hne
    have hlen : (y.items ++ [s]).length = y.items.length + 1 := by simp
    rw [hlen] at o6
    replace o6 := Lib.hid o6
    have c_R0 := R0.cells; have f_R0 := R0.frozens
    have c_RZ := RZ.cells; have f_RZ := RZ.frozens
    have c_RP := RP.cells; have f_RP := RP.frozens
    have c_RO := RO.cells; have f_RO := RO.frozens
    go_wp2_with fail
    clear c_R0 f_R0 c_RZ f_RZ c_RP f_RP c_RO f_RO
    replace o6 := o6.out
    have n_R0 := R0.keep (show (w15.setCell ⟨w2.heap.size, 2, none⟩ (.slice a6 (y.items.length + 1) c6)).heap[_]? = _ from by repeat rw [Below.heap_setCell _ _ _ _ (by simp <;> omega)])
    have n_RZ := RZ.keep (show (w15.setCell ⟨w2.heap.size, 2, none⟩ (.slice a6 (y.items.length + 1) c6)).heap[_]? = _ from by repeat rw [Below.heap_setCell _ _ _ _ (by simp <;> omega)])
    have n_RP := RP.keep (show (w15.setCell ⟨w2.heap.size, 2, none⟩ (.slice a6 (y.items.length + 1) c6)).heap[_]? = _ from by repeat rw [Below.heap_setCell _ _ _ _ (by simp <;> omega)])
    have n_RO : Row (w15.setCell ⟨w2.heap.size, 2, none⟩ (.slice a6 (y.items.length + 1) c6)) (w2.heap.size) 52 [.int .i64 y.trail, .int .i64 y.size, .slice a6 (y.items.length + 1) c6] := by simpa using (RO.set 2 (.slice a6 (y.items.length + 1) c6))
    have n_o6 := o6.frame (w' := (w15.setCell ⟨w2.heap.size, 2, none⟩ (.slice a6 (y.items.length + 1) c6))) fun b hb => by
      have h6 := g6 b hb
      repeat rw [Below.heap_setCell _ _ _ _ (by simp <;> omega)]
    have n_hB : Below w.heap.size w (w15.setCell ⟨w2.heap.size, 2, none⟩ (.slice a6 (y.items.length + 1) c6)) := by
      repeat refine Below.setCell ?_ (by simp <;> omega) _
      exact hB
    clear hB R0 RZ RP RO o6
    have hs_w16 : w15.heap.size ≤ (w15.setCell ⟨w2.heap.size, 2, none⟩ (.slice a6 (y.items.length + 1) c6)).heap.size := by simp
    generalize (w15.setCell ⟨w2.heap.size, 2, none⟩ (.slice a6 (y.items.length + 1) c6)) = w16 at *
    have hB := n_hB; clear n_hB
    have R0 := n_R0; clear n_R0
    have RZ := n_RZ; clear n_RZ
    have RP := n_RP; clear n_RP
    have RO := n_RO; clear n_RO
    have o6 := n_o6; clear n_o6
    rename_i K0 hK0
    refine AnyX.start (S := (fun w' => w'.cell? ⟨w2.heap.size, 0, none⟩ = some (.int .i64 y.trail) ∧ w'.cell? ⟨w2.heap.size, 1, none⟩ = some (.int .i64 y.size) ∧ w'.cell? ⟨w2.heap.size, 2, none⟩ = some (.slice a6 (y.items.length + 1) c6))) (X := (fun _ => false)) (by kernel_rfl) ?_
    have al : Below w16.heap.size w16 w16.drew := belowDrewN (Below.refl _ _) 1
    have hs_w17 := al.size
    replace R0 := R0.below al
    replace RZ := RZ.below al
    replace RP := RP.below al
    replace RO := RO.below al
    replace o6 := o6.below al
    replace hB := tr hB al (Nat.le_refl _)
    generalize w16.drew = w17 at *
    clear al
    have hS : (fun w' => w'.cell? ⟨w2.heap.size, 0, none⟩ = some (.int .i64 y.trail) ∧ w'.cell? ⟨w2.heap.size, 1, none⟩ = some (.int .i64 y.size) ∧ w'.cell? ⟨w2.heap.size, 2, none⟩ = some (.slice a6 (y.items.length + 1) c6)) w17 := ⟨RO.cells 0, RO.cells 1, RO.cells 2⟩
    refine AnyX.take (i := 0) (oi := _) (v := ?_) (by rw [List.getElem?_toArray]; rfl) (by kernel_rfl) (by kernel_rfl) (by kernel_rfl) (by kernel_rfl) (by kernel_rfl) (by exact fun _ _ _ h => h) (Or.inl ⟨by rfl, ?_⟩) hS ?_
    rotate_left
    · (intro wS hSw; (try dsimp only at hSw); go_simp; try with_reducible rfl)
    try simp only [Act.put, List.setIfInBounds_toArray, List.set_cons_zero, List.set_cons_succ]
    refine AnyX.take (i := 1) (oi := _) (v := ?_) (by rw [List.getElem?_toArray]; rfl) (by kernel_rfl) (by kernel_rfl) (by kernel_rfl) (by kernel_rfl) (by kernel_rfl) (by exact fun _ _ _ h => h) (Or.inl ⟨by rfl, ?_⟩) hS ?_
    rotate_left
    · (intro wS hSw; (try dsimp only at hSw); go_simp; try with_reducible rfl)
    try simp only [Act.put, List.setIfInBounds_toArray, List.set_cons_zero, List.set_cons_succ]
    refine AnyX.take (i := 2) (oi := _) (v := ?_) (by rw [List.getElem?_toArray]; rfl) (by kernel_rfl) (by kernel_rfl) (by kernel_rfl) (by kernel_rfl) (by kernel_rfl) (by exact fun _ _ _ h => h) (Or.inl ⟨by rfl, ?_⟩) hS ?_
    rotate_left
    · (intro wS hSw; (try dsimp only at hSw); go_simp; try with_reducible rfl)
    try simp only [Act.put, List.setIfInBounds_toArray, List.set_cons_zero, List.set_cons_succ]
    refine AnyX.take (i := 3) (oi := _) (v := ?_) (by rw [List.getElem?_toArray]; rfl) (by kernel_rfl) (by kernel_rfl) (by kernel_rfl) (by kernel_rfl) (by kernel_rfl) (by exact fun _ _ _ h => h) (Or.inl ⟨by rfl, ?_⟩) hS ?_
    rotate_left
    · (intro wS hSw; (try dsimp only at hSw); go_simp; try with_reducible rfl)
    try simp only [Act.put, List.setIfInBounds_toArray, List.set_cons_zero, List.set_cons_succ]
    refine AnyX.take (i := 4) (oi := _) (v := ?_) (by rw [List.getElem?_toArray]; rfl) (by kernel_rfl) (by kernel_rfl) (by kernel_rfl) (by kernel_rfl) (by kernel_rfl) (by exact fun _ _ _ h => h) (Or.inl ⟨by rfl, ?_⟩) hS ?_
    rotate_left
    · (intro wS hSw; (try dsimp only at hSw); go_simp; try with_reducible rfl)
    try simp only [Act.put, List.setIfInBounds_toArray, List.set_cons_zero, List.set_cons_succ]
    refine AnyX.take (i := 6) (oi := _) (v := ?_) (by rw [List.getElem?_toArray]; rfl) (by kernel_rfl) (by kernel_rfl) (by kernel_rfl) (by kernel_rfl) (by kernel_rfl) (by exact fun _ _ _ h => h) (Or.inl ⟨by rfl, ?_⟩) hS ?_
    rotate_left
    · (intro wS hSw; (try dsimp only at hSw); go_simp; try with_reducible rfl)
    try simp only [Act.put, List.setIfInBounds_toArray, List.set_cons_zero, List.set_cons_succ]
    refine AnyX.only (i := 5) (o := _) (by kernel_rfl) (by rw [List.getElem?_toArray]; rfl) (fun K hK => ?_)
    go_simp
    go_at_call 172
    refine (l9Lead_c y.trail y.size a6 (y.items.length + 1) c6 _ hyt0 hyt1 (by omega)).mono ?_
    rintro e w18_ ⟨rfl, hb⟩
    have hs_w18_ := hb.size
    replace R0 := R0.below hb
    replace RZ := RZ.below hb
    replace RP := RP.below hb
    replace RO := RO.below hb
    replace o6 := o6.below hb
    replace hB := tr hB hb (Nat.le_refl _)
    clear hb
    clear hS
    have hS : (fun w' => w'.cell? ⟨w2.heap.size, 0, none⟩ = some (.int .i64 y.trail) ∧ w'.cell? ⟨w2.heap.size, 1, none⟩ = some (.int .i64 y.size) ∧ w'.cell? ⟨w2.heap.size, 2, none⟩ = some (.slice a6 (y.items.length + 1) c6)) w18_ := ⟨RO.cells 0, RO.cells 1, RO.cells 2⟩
    refine hK.out _ _ (fun _ => hS) ?_
    clear hK K
    try simp only [Act.put, List.setIfInBounds_toArray, List.set_cons_zero, List.set_cons_succ]
    refine AnyX.take (i := 7) (oi := _) (v := ?_) (by rw [List.getElem?_toArray]; rfl) (by kernel_rfl) (by kernel_rfl) (by kernel_rfl) (by kernel_rfl) (by kernel_rfl) (by exact fun _ _ _ h => h) (Or.inl ⟨by rfl, ?_⟩) hS ?_
    rotate_left
    · (intro wS hSw; (try dsimp only at hSw); go_simp; try with_reducible rfl)
    try simp only [Act.put, List.setIfInBounds_toArray, List.set_cons_zero, List.set_cons_succ]
    refine AnyX.only (i := 8) (o := _) (by kernel_rfl) (by rw [List.getElem?_toArray]; rfl) (fun K hK => ?_)
    have c_R0 := R0.cells; have f_R0 := R0.frozens
    have c_RZ := RZ.cells; have f_RZ := RZ.frozens
    have c_RP := RP.cells; have f_RP := RP.frozens
    have c_RO := RO.cells; have f_RO := RO.frozens
    go_simp
    clear c_R0 f_R0 c_RZ f_RZ c_RP f_RP c_RO f_RO
    have n_R0 := R0.keep (show (((w18_.setCell ⟨w.heap.size + 1, 0, none⟩ (.int .i64 y.trail)).setCell ⟨w.heap.size + 1, 1, none⟩ (.int .i64 y.size)).setCell ⟨w.heap.size + 1, 2, none⟩ (.slice a6 (y.items.length + 1) c6)).heap[_]? = _ from by repeat rw [Below.heap_setCell _ _ _ _ (by simp <;> omega)])
    have n_RP := RP.keep (show (((w18_.setCell ⟨w.heap.size + 1, 0, none⟩ (.int .i64 y.trail)).setCell ⟨w.heap.size + 1, 1, none⟩ (.int .i64 y.size)).setCell ⟨w.heap.size + 1, 2, none⟩ (.slice a6 (y.items.length + 1) c6)).heap[_]? = _ from by repeat rw [Below.heap_setCell _ _ _ _ (by simp <;> omega)])
    have n_RO := RO.keep (show (((w18_.setCell ⟨w.heap.size + 1, 0, none⟩ (.int .i64 y.trail)).setCell ⟨w.heap.size + 1, 1, none⟩ (.int .i64 y.size)).setCell ⟨w.heap.size + 1, 2, none⟩ (.slice a6 (y.items.length + 1) c6)).heap[_]? = _ from by repeat rw [Below.heap_setCell _ _ _ _ (by simp <;> omega)])
    have n_RZ : Row (((w18_.setCell ⟨w.heap.size + 1, 0, none⟩ (.int .i64 y.trail)).setCell ⟨w.heap.size + 1, 1, none⟩ (.int .i64 y.size)).setCell ⟨w.heap.size + 1, 2, none⟩ (.slice a6 (y.items.length + 1) c6)) (w.heap.size + 1) 52 [.int .i64 y.trail, .int .i64 y.size, .slice a6 (y.items.length + 1) c6] := by simpa using (((RZ.set 0 (.int .i64 y.trail)).set 1 (.int .i64 y.size)).set 2 (.slice a6 (y.items.length + 1) c6))
    have n_o6 := o6.frame (w' := (((w18_.setCell ⟨w.heap.size + 1, 0, none⟩ (.int .i64 y.trail)).setCell ⟨w.heap.size + 1, 1, none⟩ (.int .i64 y.size)).setCell ⟨w.heap.size + 1, 2, none⟩ (.slice a6 (y.items.length + 1) c6))) fun b hb => by
      have h6 := g6 b hb
      repeat rw [Below.heap_setCell _ _ _ _ (by simp <;> omega)]
    have n_hB : Below w.heap.size w (((w18_.setCell ⟨w.heap.size + 1, 0, none⟩ (.int .i64 y.trail)).setCell ⟨w.heap.size + 1, 1, none⟩ (.int .i64 y.size)).setCell ⟨w.heap.size + 1, 2, none⟩ (.slice a6 (y.items.length + 1) c6)) := by
      repeat refine Below.setCell ?_ (by simp <;> omega) _
      exact hB
    clear hB R0 RZ RP RO o6
    have hs_w19 : w18_.heap.size ≤ (((w18_.setCell ⟨w.heap.size + 1, 0, none⟩ (.int .i64 y.trail)).setCell ⟨w.heap.size + 1, 1, none⟩ (.int .i64 y.size)).setCell ⟨w.heap.size + 1, 2, none⟩ (.slice a6 (y.items.length + 1) c6)).heap.size := by simp
    generalize (((w18_.setCell ⟨w.heap.size + 1, 0, none⟩ (.int .i64 y.trail)).setCell ⟨w.heap.size + 1, 1, none⟩ (.int .i64 y.size)).setCell ⟨w.heap.size + 1, 2, none⟩ (.slice a6 (y.items.length + 1) c6)) = w19 at *
    have hB := n_hB; clear n_hB
    have R0 := n_R0; clear n_R0
    have RZ := n_RZ; clear n_RZ
    have RP := n_RP; clear n_RP
    have RO := n_RO; clear n_RO
    have o6 := n_o6; clear n_o6
    clear hS
    have hS : (fun w' => w'.cell? ⟨w2.heap.size, 0, none⟩ = some (.int .i64 y.trail) ∧ w'.cell? ⟨w2.heap.size, 1, none⟩ = some (.int .i64 y.size) ∧ w'.cell? ⟨w2.heap.size, 2, none⟩ = some (.slice a6 (y.items.length + 1) c6)) w19 := ⟨RO.cells 0, RO.cells 1, RO.cells 2⟩
    refine hK.out _ _ (fun _ => hS) ?_
    clear hK K
    try simp only [Act.put, List.setIfInBounds_toArray, List.set_cons_zero, List.set_cons_succ]
    refine AnyX.only (i := 9) (o := _) (by kernel_rfl) (by rw [List.getElem?_toArray]; rfl) (fun K hK => ?_)
    have c_R0 := R0.cells; have f_R0 := R0.frozens
    have c_RZ := RZ.cells; have f_RZ := RZ.frozens
    have c_RP := RP.cells; have f_RP := RP.frozens
    have c_RO := RO.cells; have f_RO := RO.frozens
    go_simp
    clear c_R0 f_R0 c_RZ f_RZ c_RP f_RP c_RO f_RO
    have n_R0 := R0.keep (show (((((w19.setCell ⟨w.heap.size + 1 + 1, 0, none⟩ (.int .i64 1)).setCell ⟨w.heap.size + 1 + 1, 1, none⟩ (.int .i64 (aft x0.trail x0.items.length))).setCell ⟨w.heap.size + 1 + 1, 2, none⟩ (.int .i64 y.trail)).setCell ⟨w.heap.size + 1 + 1, 3, none⟩ (.int .i64 (aft y.trail ((y.items.length : Int) + 1)))).setCell ⟨w.heap.size + 1 + 1, 4, none⟩ (.string s)).heap[_]? = _ from by repeat rw [Below.heap_setCell _ _ _ _ (by simp <;> omega)])
    have n_RZ := RZ.keep (show (((((w19.setCell ⟨w.heap.size + 1 + 1, 0, none⟩ (.int .i64 1)).setCell ⟨w.heap.size + 1 + 1, 1, none⟩ (.int .i64 (aft x0.trail x0.items.length))).setCell ⟨w.heap.size + 1 + 1, 2, none⟩ (.int .i64 y.trail)).setCell ⟨w.heap.size + 1 + 1, 3, none⟩ (.int .i64 (aft y.trail ((y.items.length : Int) + 1)))).setCell ⟨w.heap.size + 1 + 1, 4, none⟩ (.string s)).heap[_]? = _ from by repeat rw [Below.heap_setCell _ _ _ _ (by simp <;> omega)])
    have n_RO := RO.keep (show (((((w19.setCell ⟨w.heap.size + 1 + 1, 0, none⟩ (.int .i64 1)).setCell ⟨w.heap.size + 1 + 1, 1, none⟩ (.int .i64 (aft x0.trail x0.items.length))).setCell ⟨w.heap.size + 1 + 1, 2, none⟩ (.int .i64 y.trail)).setCell ⟨w.heap.size + 1 + 1, 3, none⟩ (.int .i64 (aft y.trail ((y.items.length : Int) + 1)))).setCell ⟨w.heap.size + 1 + 1, 4, none⟩ (.string s)).heap[_]? = _ from by repeat rw [Below.heap_setCell _ _ _ _ (by simp <;> omega)])
    have n_RP : Row (((((w19.setCell ⟨w.heap.size + 1 + 1, 0, none⟩ (.int .i64 1)).setCell ⟨w.heap.size + 1 + 1, 1, none⟩ (.int .i64 (aft x0.trail x0.items.length))).setCell ⟨w.heap.size + 1 + 1, 2, none⟩ (.int .i64 y.trail)).setCell ⟨w.heap.size + 1 + 1, 3, none⟩ (.int .i64 (aft y.trail ((y.items.length : Int) + 1)))).setCell ⟨w.heap.size + 1 + 1, 4, none⟩ (.string s)) (w.heap.size + 1 + 1) 76 [.int .i64 1, .int .i64 (aft x0.trail x0.items.length), .int .i64 y.trail, .int .i64 (aft y.trail ((y.items.length : Int) + 1)), .string s] := by simpa using (((((RP.set 0 (.int .i64 1)).set 1 (.int .i64 (aft x0.trail x0.items.length))).set 2 (.int .i64 y.trail)).set 3 (.int .i64 (aft y.trail ((y.items.length : Int) + 1)))).set 4 (.string s))
    have n_o6 := o6.frame (w' := (((((w19.setCell ⟨w.heap.size + 1 + 1, 0, none⟩ (.int .i64 1)).setCell ⟨w.heap.size + 1 + 1, 1, none⟩ (.int .i64 (aft x0.trail x0.items.length))).setCell ⟨w.heap.size + 1 + 1, 2, none⟩ (.int .i64 y.trail)).setCell ⟨w.heap.size + 1 + 1, 3, none⟩ (.int .i64 (aft y.trail ((y.items.length : Int) + 1)))).setCell ⟨w.heap.size + 1 + 1, 4, none⟩ (.string s))) fun b hb => by
      have h6 := g6 b hb
      repeat rw [Below.heap_setCell _ _ _ _ (by simp <;> omega)]
    have n_hB : Below w.heap.size w (((((w19.setCell ⟨w.heap.size + 1 + 1, 0, none⟩ (.int .i64 1)).setCell ⟨w.heap.size + 1 + 1, 1, none⟩ (.int .i64 (aft x0.trail x0.items.length))).setCell ⟨w.heap.size + 1 + 1, 2, none⟩ (.int .i64 y.trail)).setCell ⟨w.heap.size + 1 + 1, 3, none⟩ (.int .i64 (aft y.trail ((y.items.length : Int) + 1)))).setCell ⟨w.heap.size + 1 + 1, 4, none⟩ (.string s)) := by
      repeat refine Below.setCell ?_ (by simp <;> omega) _
      exact hB
    clear hB R0 RZ RP RO o6
    have hs_w20 : w19.heap.size ≤ (((((w19.setCell ⟨w.heap.size + 1 + 1, 0, none⟩ (.int .i64 1)).setCell ⟨w.heap.size + 1 + 1, 1, none⟩ (.int .i64 (aft x0.trail x0.items.length))).setCell ⟨w.heap.size + 1 + 1, 2, none⟩ (.int .i64 y.trail)).setCell ⟨w.heap.size + 1 + 1, 3, none⟩ (.int .i64 (aft y.trail ((y.items.length : Int) + 1)))).setCell ⟨w.heap.size + 1 + 1, 4, none⟩ (.string s)).heap.size := by simp
    generalize (((((w19.setCell ⟨w.heap.size + 1 + 1, 0, none⟩ (.int .i64 1)).setCell ⟨w.heap.size + 1 + 1, 1, none⟩ (.int .i64 (aft x0.trail x0.items.length))).setCell ⟨w.heap.size + 1 + 1, 2, none⟩ (.int .i64 y.trail)).setCell ⟨w.heap.size + 1 + 1, 3, none⟩ (.int .i64 (aft y.trail ((y.items.length : Int) + 1)))).setCell ⟨w.heap.size + 1 + 1, 4, none⟩ (.string s)) = w20 at *
    have hB := n_hB; clear n_hB
    have R0 := n_R0; clear n_R0
    have RZ := n_RZ; clear n_RZ
    have RP := n_RP; clear n_RP
    have RO := n_RO; clear n_RO
    have o6 := n_o6; clear n_o6
    clear hS
    have hS : (fun w' => w'.cell? ⟨w2.heap.size, 0, none⟩ = some (.int .i64 y.trail) ∧ w'.cell? ⟨w2.heap.size, 1, none⟩ = some (.int .i64 y.size) ∧ w'.cell? ⟨w2.heap.size, 2, none⟩ = some (.slice a6 (y.items.length + 1) c6)) w20 := ⟨RO.cells 0, RO.cells 1, RO.cells 2⟩
    refine hK.out _ _ (fun _ => hS) ?_
    clear hK K
    try simp only [Act.put, List.setIfInBounds_toArray, List.set_cons_zero, List.set_cons_succ]
    refine AnyX.done (by kernel_rfl) ?_ _
    (try clear hS)
    refine hK0 _ _ ?_
    clear hK0 K0
    obtain ⟨F7, hF7, s7⟩ := o6.sl (Weak.refl _)
    clear o6
    replace s7 := Lib.hid s7
    have c_R0 := R0.cells; have f_R0 := R0.frozens
    have c_RZ := RZ.cells; have f_RZ := RZ.frozens
    have c_RP := RP.cells; have f_RP := RP.frozens
    have c_RO := RO.cells; have f_RO := RO.frozens
    go_wp2_with fail
    refine bodyPost_ret (v := .tuple #[.agg #[.int .i64 y.trail, .int .i64 y.size, .slice a6 (y.items.length + 1) c6], .agg #[.int .i64 1, .int .i64 (aft x0.trail x0.items.length), .int .i64 y.trail, .int .i64 (aft y.trail ((y.items.length : Int) + 1)), .string s]]) ?_ rfl ?_
    · simp [results, Tryz.results175, go_sem, c_RZ, f_RZ, c_RP, f_RP]
    · have hry2 := hry.out
      have hyz2 := hyz.out
      rw [show pushedW x0 s = ⟨y.trail, y.size, y.items ++ [s]⟩ from by unfold pushedW; rw [hry2, hyz2]]
      refine ⟨_, F7, by unfold pushedP; rw [hry2], ⟨_, rfl, _, rfl, s7.out⟩, fun b hb => by have := g6 b (hF7 b hb); omega, hB⟩
end Go.Proofs.YtidephmobajikaaGreatDoor
/- Sources: SendFrom of the program. -/
namespace Go.Proofs.YtidephmobajikaaGreatDoor
open Go.RowKit
structure PuS where
  a : Option Addr
  c : Nat
  F : List Nat
theorem roomed_bd {x : SendWindow} (t0 : 0 ≤ x.trail) (t1 : x.trail ≤ 65535) : 0 ≤ (roomed x).trail ∧ (roomed x).trail ≤ 65535 := by
  unfold roomed
  split
  · exact aft_bd _ _
  · exact ⟨t0, t1⟩
structure SeS where
  a : Option Addr
  c : Nat
  F : List Nat
  a2 : Option Addr
  c2 : Nat
  F2 : List Nat
def zPk : Packet := ⟨0, 0, 0, 0, ⟨#[]⟩⟩
end Go.Proofs.YtidephmobajikaaGreatDoor
/- Walks: ResizeWindow, the program's and the reference's. -/
namespace Go.Proofs.YtidephmobajikaaGreatDoor
open Go.RowKit
end Go.Proofs.YtidephmobajikaaGreatDoor
/- Send windows: what is pushed, held, answered, dropped; plain laws. -/
namespace Go.Proofs.YtidephmobajikaaGreatDoor
open Go.RowKit
def leadW (x : SendWindow) : Int := aft x.trail x.items.length
def itemAt (x : SendWindow) (n : Int) : ByteArray := x.items.getD (gp x.trail n).toNat ⟨#[]⟩
def okHeld (x : SendWindow) (n : Int) : Bool := goodWin x && isSer n && heldB x n
def resHeld (x : SendWindow) (n : Int) : ByteArray × Bool := if okHeld x n then (itemAt x n, true) else (⟨#[]⟩, false)
def spanL (t : Int) (k : Nat) : List Int := (List.range k).map fun i => aft t (i : Nat)
def resSerials (x : SendWindow) : List Int × Bool := if goodWin x then (spanL x.trail x.items.length, true) else ([], false)
def statP (x : SendWindow) : Packet := ⟨5, x.trail, x.trail, leadW x, ⟨#[]⟩⟩
def goodPk (p : Packet) : Bool := btw 1 p.kind 5 && isSer p.number && isSer p.trail && isSer p.lead && itm p.data && decide (gp p.trail p.lead ≤ 32767) && (decide (p.data = ⟨#[]⟩) || decide (p.kind = 1) || decide (p.kind = 2))
def okAnswer (x : SendWindow) (p : Packet) : Bool := goodWin x && goodPk p && decide (p.kind = 3) && heldB x p.number
def ansP (x : SendWindow) (n : Int) : Packet := ⟨2, n, x.trail, leadW x, itemAt x n⟩
def resAnswer (x : SendWindow) (p : Packet) : Packet × Bool := if okAnswer x p then (ansP x p.number, true) else (zPk, false)
theorem spanL_mem {x : SendWindow} (hg : goodWin x = true) (n : Int) : (spanL x.trail x.items.length).contains n = (isSer n && heldB x n) := by
  obtain ⟨⟨t0, t1⟩, ⟨z0, z1⟩, hl, -⟩ := goodWin_iff.1 hg
  rw [Bool.eq_iff_iff]
  simp only [List.contains_iff_mem, Bool.and_eq_true, spanL, List.mem_map, List.mem_range, heldB, decide_eq_true_eq]
  constructor
  · rintro ⟨i, hi, rfl⟩
    refine ⟨isSer_iff.2 (aft_bd _ _), ?_⟩
    have : gp x.trail (aft x.trail (i : Nat)) = i := by unfold gp aft; omega
    omega
  · rintro ⟨h1, h2⟩
    obtain ⟨n0, n1⟩ := isSer_iff.1 h1
    have b := gp_bd x.trail n
    refine ⟨(gp x.trail n).toNat, by omega, ?_⟩
    have : (((gp x.trail n).toNat : Nat) : Int) = gp x.trail n := by omega
    rw [this]
    unfold aft gp
    omega
end Go.Proofs.YtidephmobajikaaGreatDoor
/- Structs of type Packet in a walk's state: opened, closed. -/
namespace Go.Proofs.YtidephmobajikaaGreatDoor
open Go.RowKit
section
variable {c : Cx} {fr : Fr} {H : List Pc} {Φ : Gl}
theorem flatPacket (x : Packet) (s1 : x.data.size ≤ maxLen) (w : World) : Flat EPacket w [.int .i64 x.kind, .int .i64 x.number, .int .i64 x.trail, .int .i64 x.lead, .string x.data] [x] [] := ⟨_, [], [], [], by simp, by simp, ⟨rfl, s1, rfl⟩, rfl, rfl⟩
end
end Go.Proofs.YtidephmobajikaaGreatDoor
/- Sources: TickSource of the program. -/
namespace Go.Proofs.YtidephmobajikaaGreatDoor
open Go.RowKit
set_option maxRecDepth 100000 in
theorem status_f (t z : Int) (a : Option Addr) (n c : Nat) (h0 : 0 ≤ t) (h1 : t ≤ 65535) (hn : n ≤ 4294967296) : Fn Tryz.prog 165 [.agg #[.int .i64 t, .int .i64 z, .slice a n c]] [] [] (fun (_ : Unit) => True) (fun _ => .agg #[.int .i64 5, .int .i64 t, .int .i64 t, .int .i64 (aft t n), .string ⟨#[]⟩]) (fun _ => []) := by
  refine enter Tryz.func165 rfl Tryz.ntmps165 fun w0 => ?_
  repeat (first | apply c_seq | apply c_reg | (apply wO; apply oc; rfl; exact ydE) | apply w_nil | apply n_cd | (apply wg_t; rfl; rfl) | (apply wg_f; rfl; rfl; rfl; rfl) | (apply wg_u; rfl; rfl; rfl) | (apply c_t; rfl) | (apply c_f; rfl) | apply c_skip | apply c_block | apply n_blk | apply c_exit | apply e_hit | apply e_cd | apply e_lp | (apply e_miss; rfl) | apply c_ret | (apply wO; apply o_box; rfl; rfl; rfl; intro _) | (apply wO; apply o_alloc; rfl; intro _) | (apply wO; apply o_st; rfl; rfl; rfl; (first | exact AggC.s | exact OneC.s); rfl; exact rplE; exact putE; rfl) | (apply wO; apply o_bs0; rfl; intro _) | (apply wO; apply o_bs; rfl; rfl; rfl; rfl; exact rptE; exact filE; intro _) | (apply wO; apply o_call; rfl; kernel_rfl; exact evsE))
  refine d_start [1] [7] ?_
  refine dt 0 ?_
  refine dt 1 ?_
  refine dt 2 ?_
  refine dt 3 ?_
  refine dt 4 ?_
  refine dO 5 (by kernel_rfl) (by rw [List.getElem?_toArray]; rfl) ?_
  apply o_call; rfl; kernel_rfl; exact evsE
  refine cb (fun w _ => SendWindow_lead_c t z a n c w h0 h1 hn) ?_
  refine dk ?_
  refine dt 6 ?_
  refine dO 7 (by kernel_rfl) (by rw [List.getElem?_toArray]; rfl) ?_
  apply o_st; rfl; rfl; rfl; (first | exact AggC.s | exact OneC.s); rfl; exact rplE; exact putE; rfl
  refine dkx ?_
  refine dd ?_
  repeat (first | apply c_seq | apply c_reg | (apply wO; apply oc; rfl; exact ydE) | apply w_nil | apply n_cd | (apply wg_t; rfl; rfl) | (apply wg_f; rfl; rfl; rfl; rfl) | (apply wg_u; rfl; rfl; rfl) | (apply c_t; rfl) | (apply c_f; rfl) | apply c_skip | apply c_block | apply n_blk | apply c_exit | apply e_hit | apply e_cd | apply e_lp | (apply e_miss; rfl) | apply c_ret | (apply wO; apply o_box; rfl; rfl; rfl; intro _) | (apply wO; apply o_alloc; rfl; intro _) | (apply wO; apply o_st; rfl; rfl; rfl; (first | exact AggC.s | exact OneC.s); rfl; exact rplE; exact putE; rfl) | (apply wO; apply o_bs0; rfl; intro _) | (apply wO; apply o_bs; rfl; rfl; rfl; rfl; exact rptE; exact filE; intro _) | (apply wO; apply o_call; rfl; kernel_rfl; exact evsE))
  refine ret () trivial rfl
set_option maxRecDepth 100000 in
theorem l9Status_f (t z : Int) (a : Option Addr) (n c : Nat) (h0 : 0 ≤ t) (h1 : t ≤ 65535) (hn : n ≤ 4294967296) : Fn Tryz.prog 171 [.agg #[.int .i64 t, .int .i64 z, .slice a n c]] [] [] (fun (_ : Unit) => True) (fun _ => .agg #[.int .i64 5, .int .i64 t, .int .i64 t, .int .i64 (aft t n), .string ⟨#[]⟩]) (fun _ => []) := by
  refine enter Tryz.func171 rfl Tryz.ntmps171 fun w0 => ?_
  repeat (first | apply c_seq | apply c_reg | (apply wO; apply oc; rfl; exact ydE) | apply w_nil | apply n_cd | (apply wg_t; rfl; rfl) | (apply wg_f; rfl; rfl; rfl; rfl) | (apply wg_u; rfl; rfl; rfl) | (apply c_t; rfl) | (apply c_f; rfl) | apply c_skip | apply c_block | apply n_blk | apply c_exit | apply e_hit | apply e_cd | apply e_lp | (apply e_miss; rfl) | apply c_ret | (apply wO; apply o_box; rfl; rfl; rfl; intro _) | (apply wO; apply o_alloc; rfl; intro _) | (apply wO; apply o_st; rfl; rfl; rfl; (first | exact AggC.s | exact OneC.s); rfl; exact rplE; exact putE; rfl) | (apply wO; apply o_bs0; rfl; intro _) | (apply wO; apply o_bs; rfl; rfl; rfl; rfl; exact rptE; exact filE; intro _) | (apply wO; apply o_call; rfl; kernel_rfl; exact evsE))
  refine d_start [1] [7] ?_
  refine dt 0 ?_
  refine dt 1 ?_
  refine dt 2 ?_
  refine dt 3 ?_
  refine dt 4 ?_
  refine dO 5 (by kernel_rfl) (by rw [List.getElem?_toArray]; rfl) ?_
  apply o_call; rfl; kernel_rfl; exact evsE
  refine cb (fun w _ => l9Lead_c t z a n c w h0 h1 hn) ?_
  refine dk ?_
  refine dt 6 ?_
  refine dO 7 (by kernel_rfl) (by rw [List.getElem?_toArray]; rfl) ?_
  apply o_st; rfl; rfl; rfl; (first | exact AggC.s | exact OneC.s); rfl; exact rplE; exact putE; rfl
  refine dkx ?_
  refine dd ?_
  repeat (first | apply c_seq | apply c_reg | (apply wO; apply oc; rfl; exact ydE) | apply w_nil | apply n_cd | (apply wg_t; rfl; rfl) | (apply wg_f; rfl; rfl; rfl; rfl) | (apply wg_u; rfl; rfl; rfl) | (apply c_t; rfl) | (apply c_f; rfl) | apply c_skip | apply c_block | apply n_blk | apply c_exit | apply e_hit | apply e_cd | apply e_lp | (apply e_miss; rfl) | apply c_ret | (apply wO; apply o_box; rfl; rfl; rfl; intro _) | (apply wO; apply o_alloc; rfl; intro _) | (apply wO; apply o_st; rfl; rfl; rfl; (first | exact AggC.s | exact OneC.s); rfl; exact rplE; exact putE; rfl) | (apply wO; apply o_bs0; rfl; intro _) | (apply wO; apply o_bs; rfl; rfl; rfl; rfl; exact rptE; exact filE; intro _) | (apply wO; apply o_call; rfl; kernel_rfl; exact evsE))
  refine ret () trivial rfl

def keepT (cl : Int) (hs : List Hold) : List Hold := hs.filter fun h => !decide (h.untl ≤ cl)
def tickQ (q : Int) : Int := if q + 1 < 4 then q + 1 else 0
def tickP (x : SendWindow) (q : Int) : List Packet := if q + 1 < 4 then [] else [statP x]
def tickS (x : Source) : Source := ⟨x.window, x.clock + 1, tickQ x.quiet, keepT (x.clock + 1) x.holds⟩
def okTickSource (x : Source) : Bool := goodSrc x && !decide (x.clock = 9999)
def resTickSource (x : Source) : Source × List Packet × Bool := if okTickSource x then (tickS x, tickP x.window x.quiet, true) else (zSrc, [], false)
theorem resTick_no {x : Source} (h : okTickSource x = false) : resTickSource x = (zSrc, [], false) := by unfold resTickSource; rw [h]; rfl
theorem resTick_yes {x : Source} (h : okTickSource x = true) : resTickSource x = (tickS x, tickP x.window x.quiet, true) := by unfold resTickSource; rw [h]; rfl
theorem quiet_bd {x : Source} (h : goodSrc x = true) : 0 ≤ x.quiet ∧ x.quiet ≤ 3 := by
  unfold goodSrc btw at h
  simp only [Bool.and_eq_true, decide_eq_true_eq] at h
  exact h.1.2
structure TiS where
  a : Option Addr
  c : Nat
  a2 : Option Addr
  c2 : Nat
  F : List Nat
  ae : Option Addr
  ce : Nat
  Fe : List Nat
set_option maxRecDepth 100000 in
theorem tick1_f (h : Hold) (gb g o : Nat) (u v0 v1 v2 q Hs : Value) (cl : Int) (G : List Nat) :
    Fn Tryz.prog 164 [u, ptr gb 0 0] [.isv EHold u h G, .cel gb 0 [ptr g o 0], .cel g o [v0, v1, v2, .int .i64 cl, q, Hs]] [] (fun (_ : Unit) => True) (fun _ => .bool (decide (h.untl ≤ cl))) (fun _ => []) := by
  refine enter Tryz.func164 rfl Tryz.ntmps164 fun w0 => ?_
  refine openHold ?_
  rintro _ rfl
  repeat (first | apply c_seq | apply c_reg | (apply wO; apply oc; rfl; exact ydE) | apply w_nil | apply n_cd | (apply wg_t; rfl; rfl) | (apply wg_f; rfl; rfl; rfl; rfl) | (apply wg_u; rfl; rfl; rfl) | (apply c_t; rfl) | (apply c_f; rfl) | apply c_skip | apply c_block | apply n_blk | apply c_exit | apply e_hit | apply e_cd | apply e_lp | (apply e_miss; rfl) | apply c_ret | (apply wO; apply o_box; rfl; rfl; rfl; intro _) | (apply wO; apply o_alloc; rfl; intro _) | (apply wO; apply o_st; rfl; rfl; rfl; (first | exact AggC.s | exact OneC.s); rfl; exact rplE; exact putE; rfl) | (apply wO; apply o_bs0; rfl; intro _) | (apply wO; apply o_bs; rfl; rfl; rfl; rfl; exact rptE; exact filE; intro _) | (apply wO; apply o_call; rfl; kernel_rfl; exact evsE))
  refine d_start [0, 2, 3] [] ?_
  refine dt 0 ?_
  refine dt 1 ?_
  refine dt 2 ?_
  refine dt 3 ?_
  refine dt 4 ?_
  refine dt 5 ?_
  refine dt 6 ?_
  refine dt 7 ?_
  refine dd ?_
  repeat (first | apply c_seq | apply c_reg | (apply wO; apply oc; rfl; exact ydE) | apply w_nil | apply n_cd | (apply wg_t; rfl; rfl) | (apply wg_f; rfl; rfl; rfl; rfl) | (apply wg_u; rfl; rfl; rfl) | (apply c_t; rfl) | (apply c_f; rfl) | apply c_skip | apply c_block | apply n_blk | apply c_exit | apply e_hit | apply e_cd | apply e_lp | (apply e_miss; rfl) | apply c_ret | (apply wO; apply o_box; rfl; rfl; rfl; intro _) | (apply wO; apply o_alloc; rfl; intro _) | (apply wO; apply o_st; rfl; rfl; rfl; (first | exact AggC.s | exact OneC.s); rfl; exact rplE; exact putE; rfl) | (apply wO; apply o_bs0; rfl; intro _) | (apply wO; apply o_bs; rfl; rfl; rfl; rfl; exact rptE; exact filE; intro _) | (apply wO; apply o_call; rfl; kernel_rfl; exact evsE))
  refine ret () trivial rfl
theorem tickD_f (hs : List Hold) (gb tb g t o : Nat) (A B : List Value) (v0 v1 v2 : Value) (v3 : Value) (a2 : Option Addr) (c2 : Nat) (cl q : Int) (F2 : List Nat) :
    Fn Tryz.prog 155 [.slice a2 hs.length c2, .func (.func 164) #[] #[ptr gb 0 0]] [] [.ow EHold 131 (.slice a2 hs.length c2) hs F2, .row gb tb 0 [] [ptr g o 0] [], .row g t o A [v0, v1, v2, .int .i64 cl, .int .i64 q, v3] B] (fun (_ : Option Addr × Nat × List Nat) => True)
      (fun z => .slice z.1 (keepT cl hs).length z.2.1) (fun z => [.ow EHold 131 (.slice z.1 (keepT cl hs).length z.2.1) (keepT cl hs) z.2.2, .row gb tb 0 [] [ptr g o 0] [], .row g t o A [v0, v1, v2, .int .i64 cl, .int .i64 q, v3] B]) := by
  refine fn_lib rfl fun w ⟨hnd, ho⟩ _ hk => ?_
  refine (DeleteFunc_Hold _ (body_of (by kernel_rfl)) #[ptr gb 0 0] _ hs F2 (fun h => decide (h.untl ≤ cl)) w ho hnd fun k hk2 wr u G hK hu => ?_).mono ?_
  · have hr := hk wr hK
    have r1 := hr (.row gb tb 0 [] [ptr g o 0] []) (by simp)
    have r2 := hr (.row g t o A [v0, v1, v2, .int .i64 cl, .int .i64 q, v3] B) (by simp)
    refine (tick1_f hs[k] gb g o u v0 v1 v2 (.int .i64 q) v3 cl G).val wr ?_
    intro p hp
    simp only [List.mem_cons, List.not_mem_nil, or_false] at hp
    rcases hp with rfl | rfl | rfl
    · exact hu
    · exact ⟨by simp, row_range r1⟩
    · exact ⟨by simp, row_range r2⟩
  · rintro e w' ⟨v', F', rfl, h1, h2, h3, h4⟩
    have e : (hs.filter fun x => !(fun h : Hold => decide (h.untl ≤ cl)) x) = keepT cl hs := rfl
    rw [e] at h1
    obtain ⟨a', c', rfl⟩ := h1.slice
    exact ⟨(a', c', F'), trivial, rfl, ⟨h2, h1⟩, fun b hb => .inl (h3 b hb), h4⟩
set_option maxRecDepth 100000 in
theorem Stick_f (W : SendWindow) (hs : List Hold) (g t o : Nat) (A B : List Value) (a a2 : Option Addr) (c c2 : Nat) (cl q : Int) (F2 : List Nat) (t0 : 0 ≤ W.trail) (t1 : W.trail ≤ 65535) (hl : W.items.length ≤ 6) (k0 : 0 ≤ cl) (k1 : cl ≤ 9999) (q0 : 0 ≤ q) (q3 : q ≤ 3) :
    Fn Tryz.prog 107 [ptr g o 0] [] [.row g t o A [.int .i64 W.trail, .int .i64 W.size, .slice a W.items.length c, .int .i64 cl, .int .i64 q, .slice a2 hs.length c2] B, .ow EHold 131 (.slice a2 hs.length c2) hs F2] (fun (_ : TiS) => True)
      (fun z => .slice z.ae (tickP W q).length z.ce) (fun z => [.row g t o A [.int .i64 W.trail, .int .i64 W.size, .slice a W.items.length c, .int .i64 (cl + 1), .int .i64 (tickQ q), .slice z.a2 (keepT (cl + 1) hs).length z.c2] B, .ow EHold 131 (.slice z.a2 (keepT (cl + 1) hs).length z.c2) (keepT (cl + 1) hs) z.F, .ow EPacket 76 (.slice z.ae (tickP W q).length z.ce) (tickP W q) z.Fe]) := by
  refine enter Tryz.func107 rfl Tryz.ntmps107 fun w0 => ?_
  repeat (first | apply c_seq | apply c_reg | (apply wO; apply oc; rfl; exact ydE) | apply w_nil | apply n_cd | (apply wg_t; rfl; rfl) | (apply wg_f; rfl; rfl; rfl; rfl) | (apply wg_u; rfl; rfl; rfl) | (apply c_t; rfl) | (apply c_f; rfl) | apply c_skip | apply c_block | apply n_blk | apply c_exit | apply e_hit | apply e_cd | apply e_lp | (apply e_miss; rfl) | apply c_ret | (apply wO; apply o_box; rfl; rfl; rfl; intro _) | (apply wO; apply o_alloc; rfl; intro _) | (apply wO; apply o_st; rfl; rfl; rfl; (first | exact AggC.s | exact OneC.s); rfl; exact rplE; exact putE; rfl) | (apply wO; apply o_bs0; rfl; intro _) | (apply wO; apply o_bs; rfl; rfl; rfl; rfl; exact rptE; exact filE; intro _) | (apply wO; apply o_call; rfl; kernel_rfl; exact evsE))
  refine d_start [0, 1] [9] ?_
  refine dt 0 ?_
  refine dt 1 ?_
  refine dt 2 ?_
  refine dt 3 ?_
  refine dt 4 ?_
  refine dt 5 ?_
  refine dO 6 (by kernel_rfl) (by rw [List.getElem?_toArray]; rfl) ?_
  apply o_call; rfl; kernel_rfl; exact evsE
  refine cf (tickD_f hs _ _ g t o A B _ _ _ _ a2 c2 (cl + 1) q F2) fun z _ => ?_
  refine t_app ?_
  refine dk ?_
  refine dt 7 ?_
  refine dt 8 ?_
  refine dO 9 (by kernel_rfl) (by rw [List.getElem?_toArray]; rfl) ?_
  apply o_st; rfl; rfl; rfl; (first | exact AggC.s | exact OneC.s); rfl; exact rplE; exact putE; rfl
  refine dkx ?_
  refine dd ?_
  repeat (first | apply c_seq | apply c_reg | (apply wO; apply oc; rfl; exact ydE) | apply w_nil | apply n_cd | (apply wg_t; rfl; rfl) | (apply wg_f; rfl; rfl; rfl; rfl) | (apply wg_u; rfl; rfl; rfl) | (apply c_t; rfl) | (apply c_f; rfl) | apply c_skip | apply c_block | apply n_blk | apply c_exit | apply e_hit | apply e_cd | apply e_lp | (apply e_miss; rfl) | apply c_ret | (apply wO; apply o_box; rfl; rfl; rfl; intro _) | (apply wO; apply o_alloc; rfl; intro _) | (apply wO; apply o_st; rfl; rfl; rfl; (first | exact AggC.s | exact OneC.s); rfl; exact rplE; exact putE; rfl) | (apply wO; apply o_bs0; rfl; intro _) | (apply wO; apply o_bs; rfl; rfl; rfl; rfl; exact rptE; exact filE; intro _) | (apply wO; apply o_call; rfl; kernel_rfl; exact evsE))
  refine c_if rfl (fun h1 => ?_) (fun h1 => ?_)
  · refine t_nilow EPacket 76 ?_
    repeat (first | apply c_seq | apply c_reg | (apply wO; apply oc; rfl; exact ydE) | apply w_nil | apply n_cd | (apply wg_t; rfl; rfl) | (apply wg_f; rfl; rfl; rfl; rfl) | (apply wg_u; rfl; rfl; rfl) | (apply c_t; rfl) | (apply c_f; rfl) | apply c_skip | apply c_block | apply n_blk | apply c_exit | apply e_hit | apply e_cd | apply e_lp | (apply e_miss; rfl) | apply c_ret | (apply wO; apply o_box; rfl; rfl; rfl; intro _) | (apply wO; apply o_alloc; rfl; intro _) | (apply wO; apply o_st; rfl; rfl; rfl; (first | exact AggC.s | exact OneC.s); rfl; exact rplE; exact putE; rfl) | (apply wO; apply o_bs0; rfl; intro _) | (apply wO; apply o_bs; rfl; rfl; rfl; rfl; exact rptE; exact filE; intro _) | (apply wO; apply o_call; rfl; kernel_rfl; exact evsE))
    rw [show tickQ q = q + 1 from if_pos h1, show tickP W q = [] from if_pos h1]
    refine ret ⟨none, 0, z.1, z.2.1, z.2.2, none, 0, []⟩ trivial rfl
  · repeat (first | apply c_seq | apply c_reg | (apply wO; apply oc; rfl; exact ydE) | apply w_nil | apply n_cd | (apply wg_t; rfl; rfl) | (apply wg_f; rfl; rfl; rfl; rfl) | (apply wg_u; rfl; rfl; rfl) | (apply c_t; rfl) | (apply c_f; rfl) | apply c_skip | apply c_block | apply n_blk | apply c_exit | apply e_hit | apply e_cd | apply e_lp | (apply e_miss; rfl) | apply c_ret | (apply wO; apply o_box; rfl; rfl; rfl; intro _) | (apply wO; apply o_alloc; rfl; intro _) | (apply wO; apply o_st; rfl; rfl; rfl; (first | exact AggC.s | exact OneC.s); rfl; exact rplE; exact putE; rfl) | (apply wO; apply o_bs0; rfl; intro _) | (apply wO; apply o_bs; rfl; rfl; rfl; rfl; exact rptE; exact filE; intro _) | (apply wO; apply o_call; rfl; kernel_rfl; exact evsE))
    refine cf (status_f W.trail W.size a W.items.length c t0 t1 (by omega)) fun _ _ => ?_
    refine t_app ?_
    repeat (first | apply c_seq | apply c_reg | (apply wO; apply oc; rfl; exact ydE) | apply w_nil | apply n_cd | (apply wg_t; rfl; rfl) | (apply wg_f; rfl; rfl; rfl; rfl) | (apply wg_u; rfl; rfl; rfl) | (apply c_t; rfl) | (apply c_f; rfl) | apply c_skip | apply c_block | apply n_blk | apply c_exit | apply e_hit | apply e_cd | apply e_lp | (apply e_miss; rfl) | apply c_ret | (apply wO; apply o_box; rfl; rfl; rfl; intro _) | (apply wO; apply o_alloc; rfl; intro _) | (apply wO; apply o_st; rfl; rfl; rfl; (first | exact AggC.s | exact OneC.s); rfl; exact rplE; exact putE; rfl) | (apply wO; apply o_bs0; rfl; intro _) | (apply wO; apply o_bs; rfl; rfl; rfl; rfl; exact rptE; exact filE; intro _) | (apply wO; apply o_call; rfl; kernel_rfl; exact evsE))
    refine t_row (xs := [statP W]) (flatPacket _ (by show (⟨#[]⟩ : ByteArray).size ≤ maxLen; decide)) ?_ (by simp)
    rw [show tickQ q = 0 from if_neg h1, show tickP W q = [statP W] from if_neg h1]
    refine ret ⟨none, 0, z.1, z.2.1, z.2.2, _, _, _⟩ trivial rfl
set_option maxRecDepth 100000 in
theorem TickSource_f (x : Source) (v : Value) (F : List Nat) :
    Fn Tryz.prog 37 [v] [.isv ESource v x F] [] (fun (_ : TiS) => True)
      (fun s => .tuple #[.agg #[.int .i64 (resTickSource x).1.window.trail, .int .i64 (resTickSource x).1.window.size, .slice s.a (resTickSource x).1.window.items.length s.c, .int .i64 (resTickSource x).1.clock, .int .i64 (resTickSource x).1.quiet, .slice s.a2 (resTickSource x).1.holds.length s.c2], .slice s.ae (resTickSource x).2.1.length s.ce, .bool (resTickSource x).2.2]) (fun s => [.own OSource (.agg #[.int .i64 (resTickSource x).1.window.trail, .int .i64 (resTickSource x).1.window.size, .slice s.a (resTickSource x).1.window.items.length s.c, .int .i64 (resTickSource x).1.clock, .int .i64 (resTickSource x).1.quiet, .slice s.a2 (resTickSource x).1.holds.length s.c2]) (resTickSource x).1 s.F, .ow EPacket 76 (.slice s.ae (resTickSource x).2.1.length s.ce) (resTickSource x).2.1 s.Fe]) := by
  refine enter Tryz.func37 rfl Tryz.ntmps37 fun w0 => ?_
  refine t_nilow EStr 9 ?_
  refine t_nilow EHold 131 ?_
  refine closeOSource zSrc ?_
  refine t_nilow EPacket 76 ?_
  refine openSource ?_
  rintro a1 c1 F1 a2 c2 F2 rfl l1 l2
  repeat (first | apply c_seq | apply c_reg | (apply wO; apply oc; rfl; exact ydE) | apply w_nil | apply n_cd | (apply wg_t; rfl; rfl) | (apply wg_f; rfl; rfl; rfl; rfl) | (apply wg_u; rfl; rfl; rfl) | (apply c_t; rfl) | (apply c_f; rfl) | apply c_skip | apply c_block | apply n_blk | apply c_exit | apply e_hit | apply e_cd | apply e_lp | (apply e_miss; rfl) | apply c_ret | (apply wO; apply o_box; rfl; rfl; rfl; intro _) | (apply wO; apply o_alloc; rfl; intro _) | (apply wO; apply o_st; rfl; rfl; rfl; (first | exact AggC.s | exact OneC.s); rfl; exact rplE; exact putE; rfl) | (apply wO; apply o_bs0; rfl; intro _) | (apply wO; apply o_bs; rfl; rfl; rfl; rfl; exact rptE; exact filE; intro _) | (apply wO; apply o_call; rfl; kernel_rfl; exact evsE))
  refine cb (fun w st => (IsValidSource_f x _ F).val w (hol1 (st.get (p := .isv ESource (.agg #[.int .i64 x.window.trail, .int .i64 x.window.size, .slice a1 x.window.items.length c1, .int .i64 x.clock, .int .i64 x.quiet, .slice a2 x.holds.length c2]) x F) (by simp)))) ?_
  cases g1 : goodSrc x
  · repeat (first | apply c_seq | apply c_reg | (apply wO; apply oc; rfl; exact ydE) | apply w_nil | apply n_cd | (apply wg_t; rfl; rfl) | (apply wg_f; rfl; rfl; rfl; rfl) | (apply wg_u; rfl; rfl; rfl) | (apply c_t; rfl) | (apply c_f; rfl) | apply c_skip | apply c_block | apply n_blk | apply c_exit | apply e_hit | apply e_cd | apply e_lp | (apply e_miss; rfl) | apply c_ret | (apply wO; apply o_box; rfl; rfl; rfl; intro _) | (apply wO; apply o_alloc; rfl; intro _) | (apply wO; apply o_st; rfl; rfl; rfl; (first | exact AggC.s | exact OneC.s); rfl; exact rplE; exact putE; rfl) | (apply wO; apply o_bs0; rfl; intro _) | (apply wO; apply o_bs; rfl; rfl; rfl; rfl; exact rptE; exact filE; intro _) | (apply wO; apply o_call; rfl; kernel_rfl; exact evsE))
    rw [resTick_no (by unfold okTickSource; rw [g1]; rfl)]
    refine ret ⟨none, 0, none, 0, _, none, 0, _⟩ trivial rfl
  obtain ⟨gw, hl, t0, t1, k0, k1, hm, hn, hu, hb⟩ := goodS_of g1
  obtain ⟨q0, q3⟩ := quiet_bd g1
  repeat (first | apply c_seq | apply c_reg | (apply wO; apply oc; rfl; exact ydE) | apply w_nil | apply n_cd | (apply wg_t; rfl; rfl) | (apply wg_f; rfl; rfl; rfl; rfl) | (apply wg_u; rfl; rfl; rfl) | (apply c_t; rfl) | (apply c_f; rfl) | apply c_skip | apply c_block | apply n_blk | apply c_exit | apply e_hit | apply e_cd | apply e_lp | (apply e_miss; rfl) | apply c_ret | (apply wO; apply o_box; rfl; rfl; rfl; intro _) | (apply wO; apply o_alloc; rfl; intro _) | (apply wO; apply o_st; rfl; rfl; rfl; (first | exact AggC.s | exact OneC.s); rfl; exact rplE; exact putE; rfl) | (apply wO; apply o_bs0; rfl; intro _) | (apply wO; apply o_bs; rfl; rfl; rfl; rfl; exact rptE; exact filE; intro _) | (apply wO; apply o_call; rfl; kernel_rfl; exact evsE))
  refine c_if rfl (fun h2 => ?_) (fun h2 => ?_)
  · repeat (first | apply c_seq | apply c_reg | (apply wO; apply oc; rfl; exact ydE) | apply w_nil | apply n_cd | (apply wg_t; rfl; rfl) | (apply wg_f; rfl; rfl; rfl; rfl) | (apply wg_u; rfl; rfl; rfl) | (apply c_t; rfl) | (apply c_f; rfl) | apply c_skip | apply c_block | apply n_blk | apply c_exit | apply e_hit | apply e_cd | apply e_lp | (apply e_miss; rfl) | apply c_ret | (apply wO; apply o_box; rfl; rfl; rfl; intro _) | (apply wO; apply o_alloc; rfl; intro _) | (apply wO; apply o_st; rfl; rfl; rfl; (first | exact AggC.s | exact OneC.s); rfl; exact rplE; exact putE; rfl) | (apply wO; apply o_bs0; rfl; intro _) | (apply wO; apply o_bs; rfl; rfl; rfl; rfl; exact rptE; exact filE; intro _) | (apply wO; apply o_call; rfl; kernel_rfl; exact evsE))
    rw [resTick_no (by unfold okTickSource; rw [g1, decide_eq_true h2]; rfl)]
    refine ret ⟨none, 0, none, 0, _, none, 0, _⟩ trivial rfl
  rw [resTick_yes (by unfold okTickSource; rw [g1, decide_eq_false h2]; rfl)]
  repeat (first | apply c_seq | apply c_reg | (apply wO; apply oc; rfl; exact ydE) | apply w_nil | apply n_cd | (apply wg_t; rfl; rfl) | (apply wg_f; rfl; rfl; rfl; rfl) | (apply wg_u; rfl; rfl; rfl) | (apply c_t; rfl) | (apply c_f; rfl) | apply c_skip | apply c_block | apply n_blk | apply c_exit | apply e_hit | apply e_cd | apply e_lp | (apply e_miss; rfl) | apply c_ret | (apply wO; apply o_box; rfl; rfl; rfl; intro _) | (apply wO; apply o_alloc; rfl; intro _) | (apply wO; apply o_st; rfl; rfl; rfl; (first | exact AggC.s | exact OneC.s); rfl; exact rplE; exact putE; rfl) | (apply wO; apply o_bs0; rfl; intro _) | (apply wO; apply o_bs; rfl; rfl; rfl; rfl; exact rptE; exact filE; intro _) | (apply wO; apply o_call; rfl; kernel_rfl; exact evsE))
  refine cf (Sclone_f x _ F (by omega) (by omega)) fun z _ => ?_
  refine t_app ?_
  refine openOSource ?_
  rintro a5 c5 F5 a6 c6 F6 e5 l5 l6
  rw [e5]
  repeat (first | apply c_seq | apply c_reg | (apply wO; apply oc; rfl; exact ydE) | apply w_nil | apply n_cd | (apply wg_t; rfl; rfl) | (apply wg_f; rfl; rfl; rfl; rfl) | (apply wg_u; rfl; rfl; rfl) | (apply c_t; rfl) | (apply c_f; rfl) | apply c_skip | apply c_block | apply n_blk | apply c_exit | apply e_hit | apply e_cd | apply e_lp | (apply e_miss; rfl) | apply c_ret | (apply wO; apply o_box; rfl; rfl; rfl; intro _) | (apply wO; apply o_alloc; rfl; intro _) | (apply wO; apply o_st; rfl; rfl; rfl; (first | exact AggC.s | exact OneC.s); rfl; exact rplE; exact putE; rfl) | (apply wO; apply o_bs0; rfl; intro _) | (apply wO; apply o_bs; rfl; rfl; rfl; rfl; exact rptE; exact filE; intro _) | (apply wO; apply o_call; rfl; kernel_rfl; exact evsE))
  refine cf (Stick_f x.window x.holds _ _ _ _ _ a5 a6 c5 c6 x.clock x.quiet F6 t0 t1 hl k0 k1 q0 q3) fun q _ => ?_
  refine t_app ?_
  repeat (first | apply c_seq | apply c_reg | (apply wO; apply oc; rfl; exact ydE) | apply w_nil | apply n_cd | (apply wg_t; rfl; rfl) | (apply wg_f; rfl; rfl; rfl; rfl) | (apply wg_u; rfl; rfl; rfl) | (apply c_t; rfl) | (apply c_f; rfl) | apply c_skip | apply c_block | apply n_blk | apply c_exit | apply e_hit | apply e_cd | apply e_lp | (apply e_miss; rfl) | apply c_ret | (apply wO; apply o_box; rfl; rfl; rfl; intro _) | (apply wO; apply o_alloc; rfl; intro _) | (apply wO; apply o_st; rfl; rfl; rfl; (first | exact AggC.s | exact OneC.s); rfl; exact rplE; exact putE; rfl) | (apply wO; apply o_bs0; rfl; intro _) | (apply wO; apply o_bs; rfl; rfl; rfl; rfl; exact rptE; exact filE; intro _) | (apply wO; apply o_call; rfl; kernel_rfl; exact evsE))
  refine closeOSource (tickS x) ?_
  refine ret ⟨_, _, _, _, _, _, _, _⟩ trivial rfl
end Go.Proofs.YtidephmobajikaaGreatDoor
/- Sources: TickSource of the reference. -/
namespace Go.Proofs.YtidephmobajikaaGreatDoor
open Go.RowKit
theorem l9Drop0_f (x : SendWindow) (v : Value) (F : List Nat) (t0 : 0 ≤ x.trail) (t1 : x.trail ≤ 65535) (hl : x.items.length ≤ 4294967296) : Fn Tryz.prog 158 [v, .int .i64 0] [.isv ESendWindow v x F] [] (fun (_ : Value × List Nat) => True) (fun s => s.1) (fun s => [.own OSendWindow s.1 x s.2]) := by
  have e0 : (⟨aft x.trail ((0 : Nat) : Int), x.size, x.items.drop 0⟩ : SendWindow) = x := by
    have : aft x.trail ((0 : Nat) : Int) = x.trail := by unfold aft; omega
    rw [this]; rfl
  refine fn_made fun w hA => (l9Drop_c v x F 0 w (hA (.isv ESendWindow v x F) (by simp)) (Nat.zero_le _) hl (isSer_iff.2 ⟨t0, t1⟩)).mono ?_
  rintro e w' ⟨u, G, he, ho, hn, hF, hB⟩
  rw [e0] at ho
  exact ⟨(u, G), trivial, he, ⟨hn, ho⟩, hF, hB⟩
def tickU (x : Source) : Source := ⟨x.window, x.clock + 1, tickQ x.quiet, keepU x.window (x.clock + 1) x.holds⟩
set_option maxRecDepth 100000 in
theorem l11TickU_f (x : Source) (v : Value) (F : List Nat) (t0 : 0 ≤ x.window.trail) (t1 : x.window.trail ≤ 65535) (hl : x.window.items.length ≤ 6) (k0 : 0 ≤ x.clock) (k1 : x.clock ≤ 99999) (q0 : 0 ≤ x.quiet) (q3 : x.quiet ≤ 3) (hm : x.holds.length ≤ 1000) (hn : wideH x.holds) :
    Fn Tryz.prog 118 [v] [.isv ESource v x F] [] (fun (_ : TiS) => True) (fun s => .tuple #[.agg #[.int .i64 (tickU x).window.trail, .int .i64 (tickU x).window.size, .slice s.a (tickU x).window.items.length s.c, .int .i64 (tickU x).clock, .int .i64 (tickU x).quiet, .slice s.a2 (tickU x).holds.length s.c2], .slice s.ae (tickP x.window x.quiet).length s.ce])
      (fun s => [.isv ESource (.agg #[.int .i64 (tickU x).window.trail, .int .i64 (tickU x).window.size, .slice s.a (tickU x).window.items.length s.c, .int .i64 (tickU x).clock, .int .i64 (tickU x).quiet, .slice s.a2 (tickU x).holds.length s.c2]) (tickU x) s.F, .ow EPacket 76 (.slice s.ae (tickP x.window x.quiet).length s.ce) (tickP x.window x.quiet) s.Fe]) := by
  refine enter Tryz.func118 rfl Tryz.ntmps118 fun w0 => ?_
  refine openSource ?_
  rintro a1 c1 F1 a2 c2 F2 rfl l1 l2
  refine closeSendWindow x.window (a1 := a1) ?_
  repeat (first | apply c_seq | apply c_reg | (apply wO; apply oc; rfl; exact ydE) | apply w_nil | apply n_cd | (apply wg_t; rfl; rfl) | (apply wg_f; rfl; rfl; rfl; rfl) | (apply wg_u; rfl; rfl; rfl) | (apply c_t; rfl) | (apply c_f; rfl) | apply c_skip | apply c_block | apply n_blk | apply c_exit | apply e_hit | apply e_cd | apply e_lp | (apply e_miss; rfl) | apply c_ret | (apply wO; apply o_box; rfl; rfl; rfl; intro _) | (apply wO; apply o_alloc; rfl; intro _) | (apply wO; apply o_st; rfl; rfl; rfl; (first | exact AggC.s | exact OneC.s); rfl; exact rplE; exact putE; rfl) | (apply wO; apply o_bs0; rfl; intro _) | (apply wO; apply o_bs; rfl; rfl; rfl; rfl; exact rptE; exact filE; intro _) | (apply wO; apply o_call; rfl; kernel_rfl; exact evsE))
  refine cf (l9Drop0_f x.window _ F1 t0 t1 (by omega)) fun y _ => ?_
  refine t_app ?_
  refine openOSendWindow ?_
  rintro a5 c5 F5 e5 l5
  rw [e5]
  have hH := fun v a c F G => l11HoldsU_f x.window x.holds (x.clock + 1) v a c F G t0 t1 (by omega) hn
  repeat (first | apply c_seq | apply c_reg | (apply wO; apply oc; rfl; exact ydE) | apply w_nil | apply n_cd | (apply wg_t; rfl; rfl) | (apply wg_f; rfl; rfl; rfl; rfl) | (apply wg_u; rfl; rfl; rfl) | (apply c_t; rfl) | (apply c_f; rfl) | apply c_skip | apply c_block | apply n_blk | apply c_exit | apply e_hit | apply e_cd | apply e_lp | (apply e_miss; rfl) | apply c_ret | (apply wO; apply o_box; rfl; rfl; rfl; intro _) | (apply wO; apply o_alloc; rfl; intro _) | (apply wO; apply o_st; rfl; rfl; rfl; (first | exact AggC.s | exact OneC.s); rfl; exact rplE; exact putE; rfl) | (apply wO; apply o_bs0; rfl; intro _) | (apply wO; apply o_bs; rfl; rfl; rfl; rfl; exact rptE; exact filE; intro _) | (apply wO; apply o_call; rfl; kernel_rfl; exact evsE))
  refine t_read (xs := x.window.items) fun F8 => ?_
  refine closeSendWindow x.window (a1 := a5) ?_
  refine d_start [2, 4] [] ?_
  refine dt 0 ?_
  refine dt 1 ?_
  refine dt 2 ?_
  refine dt 3 ?_
  refine dt 4 ?_
  refine dt 5 ?_
  refine dt 6 ?_
  refine dt 7 ?_
  refine dt 8 ?_
  refine dt 9 ?_
  refine dt 10 ?_
  refine dt 11 ?_
  refine dt 12 ?_
  refine dO2 13 15 (by kernel_rfl) (by rw [List.getElem?_toArray]; rfl) (by rw [List.getElem?_toArray]; rfl) ?_ ?_
  · apply o_call; rfl; kernel_rfl; exact evsE
    refine cf (hH _ a2 c2 _ _) fun z _ => ?_
    refine t_app ?_
    refine dk ?_
    refine dt 14 ?_
    refine dO 15 (by kernel_rfl) (by rw [List.getElem?_toArray]; rfl) ?_
    apply o_alloc; rfl; intro _
    refine dk ?_
    refine dO 16 (by kernel_rfl) (by rw [List.getElem?_toArray]; rfl) ?_
    apply o_st; rfl; rfl; rfl; (first | exact AggC.s | exact OneC.s); rfl; exact rplE; exact putE; rfl
    refine dk ?_
    refine dd ?_
    repeat (first | apply c_seq | apply c_reg | (apply wO; apply oc; rfl; exact ydE) | apply w_nil | apply n_cd | (apply wg_t; rfl; rfl) | (apply wg_f; rfl; rfl; rfl; rfl) | (apply wg_u; rfl; rfl; rfl) | (apply c_t; rfl) | (apply c_f; rfl) | apply c_skip | apply c_block | apply n_blk | apply c_exit | apply e_hit | apply e_cd | apply e_lp | (apply e_miss; rfl) | apply c_ret | (apply wO; apply o_box; rfl; rfl; rfl; intro _) | (apply wO; apply o_alloc; rfl; intro _) | (apply wO; apply o_st; rfl; rfl; rfl; (first | exact AggC.s | exact OneC.s); rfl; exact rplE; exact putE; rfl) | (apply wO; apply o_bs0; rfl; intro _) | (apply wO; apply o_bs; rfl; rfl; rfl; rfl; exact rptE; exact filE; intro _) | (apply wO; apply o_call; rfl; kernel_rfl; exact evsE))
    refine c_if rfl (fun h1 => ?_) (fun h1 => ?_)
    · rw [show tickU x = ⟨x.window, x.clock + 1, 0, keepU x.window (x.clock + 1) x.holds⟩ from by unfold tickU tickQ; rw [if_neg (by omega)], show tickP x.window x.quiet = [statP x.window] from if_neg (by omega)]
      repeat (first | apply c_seq | apply c_reg | (apply wO; apply oc; rfl; exact ydE) | apply w_nil | apply n_cd | (apply wg_t; rfl; rfl) | (apply wg_f; rfl; rfl; rfl; rfl) | (apply wg_u; rfl; rfl; rfl) | (apply c_t; rfl) | (apply c_f; rfl) | apply c_skip | apply c_block | apply n_blk | apply c_exit | apply e_hit | apply e_cd | apply e_lp | (apply e_miss; rfl) | apply c_ret | (apply wO; apply o_box; rfl; rfl; rfl; intro _) | (apply wO; apply o_alloc; rfl; intro _) | (apply wO; apply o_st; rfl; rfl; rfl; (first | exact AggC.s | exact OneC.s); rfl; exact rplE; exact putE; rfl) | (apply wO; apply o_bs0; rfl; intro _) | (apply wO; apply o_bs; rfl; rfl; rfl; rfl; exact rptE; exact filE; intro _) | (apply wO; apply o_call; rfl; kernel_rfl; exact evsE))
      refine t_read (E := EHold) fun F9 => ?_
      refine closeSource ⟨x.window, x.clock + 1, 0, keepU x.window (x.clock + 1) x.holds⟩ (a1 := a5) ?_
      refine d_start [2, 5] [] ?_
      refine dt 0 ?_
      refine dt 1 ?_
      refine dO 2 (by kernel_rfl) (by rw [List.getElem?_toArray]; rfl) ?_
      apply o_call; rfl; kernel_rfl; exact evsE
      refine cf (l9Status_f x.window.trail x.window.size _ x.window.items.length _ t0 t1 (by omega)) fun _ _ => ?_
      refine t_app ?_
      refine dk ?_
      refine dO2 3 4 (by kernel_rfl) (by rw [List.getElem?_toArray]; rfl) (by rw [List.getElem?_toArray]; rfl) ?_ ?_
      · apply o_bs; rfl; rfl; rfl; rfl; exact rptE; exact filE; intro _
        refine dk ?_
        refine dO 4 (by kernel_rfl) (by rw [List.getElem?_toArray]; rfl) ?_
        apply o_st; rfl; rfl; rfl; (first | exact AggC.s | exact OneC.s); rfl; exact rplE; exact putE; rfl
        refine dk ?_
        refine dt 5 ?_
        refine dd ?_
        repeat (first | apply c_seq | apply c_reg | (apply wO; apply oc; rfl; exact ydE) | apply w_nil | apply n_cd | (apply wg_t; rfl; rfl) | (apply wg_f; rfl; rfl; rfl; rfl) | (apply wg_u; rfl; rfl; rfl) | (apply c_t; rfl) | (apply c_f; rfl) | apply c_skip | apply c_block | apply n_blk | apply c_exit | apply e_hit | apply e_cd | apply e_lp | (apply e_miss; rfl) | apply c_ret | (apply wO; apply o_box; rfl; rfl; rfl; intro _) | (apply wO; apply o_alloc; rfl; intro _) | (apply wO; apply o_st; rfl; rfl; rfl; (first | exact AggC.s | exact OneC.s); rfl; exact rplE; exact putE; rfl) | (apply wO; apply o_bs0; rfl; intro _) | (apply wO; apply o_bs; rfl; rfl; rfl; rfl; exact rptE; exact filE; intro _) | (apply wO; apply o_call; rfl; kernel_rfl; exact evsE))
        refine t_row (xs := [statP x.window]) (flatPacket _ (by show (⟨#[]⟩ : ByteArray).size ≤ maxLen; decide)) ?_ (by simp)
        refine ret ⟨_, _, _, _, _, _, _, _⟩ trivial rfl
      · apply o_st; rfl; rfl; rfl; (first | exact AggC.s | exact OneC.s); rfl; exact rplE; exact putE; rfl
        refine dk ?_
        refine dO 3 (by kernel_rfl) (by rw [List.getElem?_toArray]; rfl) ?_
        apply o_bs; rfl; rfl; rfl; rfl; exact rptE; exact filE; intro _
        refine dk ?_
        refine dt 5 ?_
        refine dd ?_
        repeat (first | apply c_seq | apply c_reg | (apply wO; apply oc; rfl; exact ydE) | apply w_nil | apply n_cd | (apply wg_t; rfl; rfl) | (apply wg_f; rfl; rfl; rfl; rfl) | (apply wg_u; rfl; rfl; rfl) | (apply c_t; rfl) | (apply c_f; rfl) | apply c_skip | apply c_block | apply n_blk | apply c_exit | apply e_hit | apply e_cd | apply e_lp | (apply e_miss; rfl) | apply c_ret | (apply wO; apply o_box; rfl; rfl; rfl; intro _) | (apply wO; apply o_alloc; rfl; intro _) | (apply wO; apply o_st; rfl; rfl; rfl; (first | exact AggC.s | exact OneC.s); rfl; exact rplE; exact putE; rfl) | (apply wO; apply o_bs0; rfl; intro _) | (apply wO; apply o_bs; rfl; rfl; rfl; rfl; exact rptE; exact filE; intro _) | (apply wO; apply o_call; rfl; kernel_rfl; exact evsE))
        refine t_row (xs := [statP x.window]) (flatPacket _ (by show (⟨#[]⟩ : ByteArray).size ≤ maxLen; decide)) ?_ (by simp)
        refine ret ⟨_, _, _, _, _, _, _, _⟩ trivial rfl
    · rw [show tickU x = ⟨x.window, x.clock + 1, x.quiet + 1, keepU x.window (x.clock + 1) x.holds⟩ from by unfold tickU tickQ; rw [if_pos (by omega)], show tickP x.window x.quiet = [] from if_pos (by omega)]
      repeat (first | apply c_seq | apply c_reg | (apply wO; apply oc; rfl; exact ydE) | apply w_nil | apply n_cd | (apply wg_t; rfl; rfl) | (apply wg_f; rfl; rfl; rfl; rfl) | (apply wg_u; rfl; rfl; rfl) | (apply c_t; rfl) | (apply c_f; rfl) | apply c_skip | apply c_block | apply n_blk | apply c_exit | apply e_hit | apply e_cd | apply e_lp | (apply e_miss; rfl) | apply c_ret | (apply wO; apply o_box; rfl; rfl; rfl; intro _) | (apply wO; apply o_alloc; rfl; intro _) | (apply wO; apply o_st; rfl; rfl; rfl; (first | exact AggC.s | exact OneC.s); rfl; exact rplE; exact putE; rfl) | (apply wO; apply o_bs0; rfl; intro _) | (apply wO; apply o_bs; rfl; rfl; rfl; rfl; exact rptE; exact filE; intro _) | (apply wO; apply o_call; rfl; kernel_rfl; exact evsE))
      refine t_emp EPacket ?_
      refine t_read (E := EHold) fun F9 => ?_
      refine closeSource ⟨x.window, x.clock + 1, x.quiet + 1, keepU x.window (x.clock + 1) x.holds⟩ (a1 := a5) ?_
      refine ret ⟨_, _, _, _, _, _, _, _⟩ trivial rfl
  · apply o_alloc; rfl; intro _
    refine dk ?_
    refine dO 13 (by kernel_rfl) (by rw [List.getElem?_toArray]; rfl) ?_
    apply o_call; rfl; kernel_rfl; exact evsE
    refine cf (hH _ a2 c2 _ _) fun z _ => ?_
    refine t_app ?_
    refine dk ?_
    refine dt 14 ?_
    refine dO 16 (by kernel_rfl) (by rw [List.getElem?_toArray]; rfl) ?_
    apply o_st; rfl; rfl; rfl; (first | exact AggC.s | exact OneC.s); rfl; exact rplE; exact putE; rfl
    refine dk ?_
    refine dd ?_
    repeat (first | apply c_seq | apply c_reg | (apply wO; apply oc; rfl; exact ydE) | apply w_nil | apply n_cd | (apply wg_t; rfl; rfl) | (apply wg_f; rfl; rfl; rfl; rfl) | (apply wg_u; rfl; rfl; rfl) | (apply c_t; rfl) | (apply c_f; rfl) | apply c_skip | apply c_block | apply n_blk | apply c_exit | apply e_hit | apply e_cd | apply e_lp | (apply e_miss; rfl) | apply c_ret | (apply wO; apply o_box; rfl; rfl; rfl; intro _) | (apply wO; apply o_alloc; rfl; intro _) | (apply wO; apply o_st; rfl; rfl; rfl; (first | exact AggC.s | exact OneC.s); rfl; exact rplE; exact putE; rfl) | (apply wO; apply o_bs0; rfl; intro _) | (apply wO; apply o_bs; rfl; rfl; rfl; rfl; exact rptE; exact filE; intro _) | (apply wO; apply o_call; rfl; kernel_rfl; exact evsE))
    refine c_if rfl (fun h1 => ?_) (fun h1 => ?_)
    · rw [show tickU x = ⟨x.window, x.clock + 1, 0, keepU x.window (x.clock + 1) x.holds⟩ from by unfold tickU tickQ; rw [if_neg (by omega)], show tickP x.window x.quiet = [statP x.window] from if_neg (by omega)]
      repeat (first | apply c_seq | apply c_reg | (apply wO; apply oc; rfl; exact ydE) | apply w_nil | apply n_cd | (apply wg_t; rfl; rfl) | (apply wg_f; rfl; rfl; rfl; rfl) | (apply wg_u; rfl; rfl; rfl) | (apply c_t; rfl) | (apply c_f; rfl) | apply c_skip | apply c_block | apply n_blk | apply c_exit | apply e_hit | apply e_cd | apply e_lp | (apply e_miss; rfl) | apply c_ret | (apply wO; apply o_box; rfl; rfl; rfl; intro _) | (apply wO; apply o_alloc; rfl; intro _) | (apply wO; apply o_st; rfl; rfl; rfl; (first | exact AggC.s | exact OneC.s); rfl; exact rplE; exact putE; rfl) | (apply wO; apply o_bs0; rfl; intro _) | (apply wO; apply o_bs; rfl; rfl; rfl; rfl; exact rptE; exact filE; intro _) | (apply wO; apply o_call; rfl; kernel_rfl; exact evsE))
      refine t_read (E := EHold) fun F9 => ?_
      refine closeSource ⟨x.window, x.clock + 1, 0, keepU x.window (x.clock + 1) x.holds⟩ (a1 := a5) ?_
      refine d_start [2, 5] [] ?_
      refine dt 0 ?_
      refine dt 1 ?_
      refine dO 2 (by kernel_rfl) (by rw [List.getElem?_toArray]; rfl) ?_
      apply o_call; rfl; kernel_rfl; exact evsE
      refine cf (l9Status_f x.window.trail x.window.size _ x.window.items.length _ t0 t1 (by omega)) fun _ _ => ?_
      refine t_app ?_
      refine dk ?_
      refine dO2 3 4 (by kernel_rfl) (by rw [List.getElem?_toArray]; rfl) (by rw [List.getElem?_toArray]; rfl) ?_ ?_
      · apply o_bs; rfl; rfl; rfl; rfl; exact rptE; exact filE; intro _
        refine dk ?_
        refine dO 4 (by kernel_rfl) (by rw [List.getElem?_toArray]; rfl) ?_
        apply o_st; rfl; rfl; rfl; (first | exact AggC.s | exact OneC.s); rfl; exact rplE; exact putE; rfl
        refine dk ?_
        refine dt 5 ?_
        refine dd ?_
        repeat (first | apply c_seq | apply c_reg | (apply wO; apply oc; rfl; exact ydE) | apply w_nil | apply n_cd | (apply wg_t; rfl; rfl) | (apply wg_f; rfl; rfl; rfl; rfl) | (apply wg_u; rfl; rfl; rfl) | (apply c_t; rfl) | (apply c_f; rfl) | apply c_skip | apply c_block | apply n_blk | apply c_exit | apply e_hit | apply e_cd | apply e_lp | (apply e_miss; rfl) | apply c_ret | (apply wO; apply o_box; rfl; rfl; rfl; intro _) | (apply wO; apply o_alloc; rfl; intro _) | (apply wO; apply o_st; rfl; rfl; rfl; (first | exact AggC.s | exact OneC.s); rfl; exact rplE; exact putE; rfl) | (apply wO; apply o_bs0; rfl; intro _) | (apply wO; apply o_bs; rfl; rfl; rfl; rfl; exact rptE; exact filE; intro _) | (apply wO; apply o_call; rfl; kernel_rfl; exact evsE))
        refine t_row (xs := [statP x.window]) (flatPacket _ (by show (⟨#[]⟩ : ByteArray).size ≤ maxLen; decide)) ?_ (by simp)
        refine ret ⟨_, _, _, _, _, _, _, _⟩ trivial rfl
      · apply o_st; rfl; rfl; rfl; (first | exact AggC.s | exact OneC.s); rfl; exact rplE; exact putE; rfl
        refine dk ?_
        refine dO 3 (by kernel_rfl) (by rw [List.getElem?_toArray]; rfl) ?_
        apply o_bs; rfl; rfl; rfl; rfl; exact rptE; exact filE; intro _
        refine dk ?_
        refine dt 5 ?_
        refine dd ?_
        repeat (first | apply c_seq | apply c_reg | (apply wO; apply oc; rfl; exact ydE) | apply w_nil | apply n_cd | (apply wg_t; rfl; rfl) | (apply wg_f; rfl; rfl; rfl; rfl) | (apply wg_u; rfl; rfl; rfl) | (apply c_t; rfl) | (apply c_f; rfl) | apply c_skip | apply c_block | apply n_blk | apply c_exit | apply e_hit | apply e_cd | apply e_lp | (apply e_miss; rfl) | apply c_ret | (apply wO; apply o_box; rfl; rfl; rfl; intro _) | (apply wO; apply o_alloc; rfl; intro _) | (apply wO; apply o_st; rfl; rfl; rfl; (first | exact AggC.s | exact OneC.s); rfl; exact rplE; exact putE; rfl) | (apply wO; apply o_bs0; rfl; intro _) | (apply wO; apply o_bs; rfl; rfl; rfl; rfl; exact rptE; exact filE; intro _) | (apply wO; apply o_call; rfl; kernel_rfl; exact evsE))
        refine t_row (xs := [statP x.window]) (flatPacket _ (by show (⟨#[]⟩ : ByteArray).size ≤ maxLen; decide)) ?_ (by simp)
        refine ret ⟨_, _, _, _, _, _, _, _⟩ trivial rfl
    · rw [show tickU x = ⟨x.window, x.clock + 1, x.quiet + 1, keepU x.window (x.clock + 1) x.holds⟩ from by unfold tickU tickQ; rw [if_pos (by omega)], show tickP x.window x.quiet = [] from if_pos (by omega)]
      repeat (first | apply c_seq | apply c_reg | (apply wO; apply oc; rfl; exact ydE) | apply w_nil | apply n_cd | (apply wg_t; rfl; rfl) | (apply wg_f; rfl; rfl; rfl; rfl) | (apply wg_u; rfl; rfl; rfl) | (apply c_t; rfl) | (apply c_f; rfl) | apply c_skip | apply c_block | apply n_blk | apply c_exit | apply e_hit | apply e_cd | apply e_lp | (apply e_miss; rfl) | apply c_ret | (apply wO; apply o_box; rfl; rfl; rfl; intro _) | (apply wO; apply o_alloc; rfl; intro _) | (apply wO; apply o_st; rfl; rfl; rfl; (first | exact AggC.s | exact OneC.s); rfl; exact rplE; exact putE; rfl) | (apply wO; apply o_bs0; rfl; intro _) | (apply wO; apply o_bs; rfl; rfl; rfl; rfl; exact rptE; exact filE; intro _) | (apply wO; apply o_call; rfl; kernel_rfl; exact evsE))
      refine t_emp EPacket ?_
      refine t_read (E := EHold) fun F9 => ?_
      refine closeSource ⟨x.window, x.clock + 1, x.quiet + 1, keepU x.window (x.clock + 1) x.holds⟩ (a1 := a5) ?_
      refine ret ⟨_, _, _, _, _, _, _, _⟩ trivial rfl
end Go.Proofs.YtidephmobajikaaGreatDoor
/- '[]byte' of a string, a byte stored, and back. -/
namespace Go.Proofs.YtidephmobajikaaGreatDoor
open Go.RowKit
/-- a byte aS data -/
def EByte : Elem Int where
  sz := 1
  rep _ cs z F := cs = [.int .u8 z] ∧ 0 ≤ z ∧ z ≤ 255 ∧ F = []
  len h := by simp [h.1]
  lt h := by simp [h.2.2.2]
  frame h _ := h
/-- the bytes of l lie in block g -/
def ByteRow (w : World) (g : Nat) (l : List UInt8) : Prop :=
  g < w.heap.size ∧ ∀ j (hj : j < l.length), w.cell? ⟨g, j, none⟩ = some (.int .u8 (l[j].toNat : Int)) ∧ w.frozen? ⟨g, j, none⟩ = false
theorem ByteRow.below {w w' g l} (h : ByteRow w g l) (hb : Below w.heap.size w w') : ByteRow w' g l :=
  ⟨Nat.lt_of_lt_of_le h.1 hb.size, fun j hj => ⟨(hb.cell (p := ⟨g, j, none⟩) h.1).trans (h.2 j hj).1, (hb.frozen (p := ⟨g, j, none⟩) h.1).trans (h.2 j hj).2⟩⟩
theorem ByteRow.set {w g l} (h : ByteRow w g l) (k : Nat) (b : UInt8) (hk : k < l.length) : ByteRow (w.setCell ⟨g, k, none⟩ (.int .u8 (b.toNat : Int))) g (l.set k b) := by
  refine ⟨by simp [h.1], fun j hj => ?_⟩
  rw [List.length_set] at hj
  refine ⟨?_, ?_⟩
  · by_cases e : k = j
    · subst e
      rw [World.cell?_setCell_same _ _ _ (h.2 k hk).1]
      simp
    · rw [World.cell?_setCell_other _ _ _ _ (by intro q; cases q; exact e rfl), (h.2 j hj).1]
      simp [List.getElem_set, e]
  · rw [World.frozen?_setCell]; exact (h.2 j hj).2
end Go.Proofs.YtidephmobajikaaGreatDoor
/- Walks: the reference's draws: a cursor over bytes. -/
namespace Go.Proofs.YtidephmobajikaaGreatDoor
open Go.RowKit
section
variable {P : Program} {ops : Array Oper} {Q : Exit → Act → World → Prop} {md : Region.Mode} {S : World → Prop} {X : Nat → Bool}
/-- an operation that looks at no cell may be taken first, whatever has been stored -/
theorem AnyX.firstP {i : Nat} {oi : Oper} {v : Value} (hi : ops[i]? = some oi) (hsel : ∀ (j : Nat) (o : Oper) cs b, ops[j]? = some o → o.op ≠ .select cs b)
    (hQ : ∀ c a w, Q (.panic c) (a.put oi.dst v) w → Q (.panic c) a w) (hXi : X i = true) :
    ∀ (f : Nat) (listed : Array Bool) (a : Act) (w : World),
      (∀ j oj, ops[j]? = some oj → j ≠ i → listed.getD j true = false → (∀ e ∈ oj.after, Region.binds md e = true → e.on ≠ i) → oi.apart ops oj = true) →
      i ∈ Region.ready md ops listed → YieldsIf P ops (fun _ => True) oi v a → AnyX P md ops Q S X f (listed.setIfInBounds i true) (a.put oi.dst v) w → AnyX P md ops Q S X (f + 1) listed a w := by
  intro f
  induction f with
  | zero =>
    intro listed a w _ hr hy H
    refine ⟨fun h => (by rw [h] at hr; cases hr), fun j hj => ?_⟩
    by_cases hji : j = i
    · subst hji; exact hy.wpOp hi trivial ⟨(fun h => by rw [hXi] at h; cases h), H⟩
    · have := ready_mono hj hji
      rw [H.1] at this; cases this
  | succ f ih =>
    intro listed a w hfree hr hy H
    refine ⟨fun h => (by rw [h] at hr; cases hr), fun j hj => ?_⟩
    by_cases hji : j = i
    · subst hji; exact hy.wpOp hi trivial ⟨(fun h => by rw [hXi] at h; cases h), H⟩
    · obtain ⟨hju, oj, hoj, hall⟩ := mem_ready.1 hj
      have hiu := unlisted (mem_ready.1 hr).1
      have hnot : ∀ e ∈ oj.after, Region.binds md e = true → e.on ≠ i := fun e he hb heq => by
        have h1 := hall e he hb
        rw [heq, hiu] at h1; cases h1
      have h2 := wpOp_putIf hoj (hfree j oj hoj hji hju hnot) (fun cs b => hsel i oi cs b hi) (fun cs b => hsel j oj cs b hoj) hQ hy (H.2 j (ready_mono hj hji))
      refine wpOp_mono (fun a' w' h3 => ⟨h3.2.1, ih (listed.setIfInBounds j true) a' w' (fun k ok hk hki hun hno => hfree k ok hk hki ?_ hno) (ready_mono hr (Ne.symm hji)) h3.1 ?_⟩) h2
      · by_cases hjk : j = k
        · subst hjk; exact hju
        · rw [getD_set_ne true hjk] at hun; exact hun
      · rw [Array.setIfInBounds_comm _ _ hji]; exact h3.2.2
theorem AnyX.takeP {i : Nat} {oi : Oper} {v : Value} {f : Nat} {listed : Array Bool} {a : Act} {w : World} (hi : ops[i]? = some oi)
    (hs : Region.noSelect ops = true) (hf : Region.free md ops listed i = true) (hr : (Region.ready md ops listed).contains i = true) (hXi : X i = true)
    (hQ : ∀ c a w, Q (.panic c) (a.put oi.dst v) w → Q (.panic c) a w) (hy : YieldsIf P ops (fun _ => True) oi v a)
    (h : AnyX P md ops Q S X f (listed.setIfInBounds i true) (a.put oi.dst v) w) : AnyX P md ops Q S X (f + 1) listed a w :=
  AnyX.firstP hi (Region.noSelect_spec hs) hQ hXi f listed a w (Region.free_spec hi hf) (by simpa using hr) hy h
end
theorem Sl.byte {w v} {xs : List Int} {F} (h : Sl EByte w v xs F) : xs.length ≤ maxLen ∧ ∀ k (hk : k < xs.length), (0 ≤ xs[k] ∧ xs[k] ≤ 255) ∧ ∃ b off, v = .slice (some ⟨b, off, none⟩) xs.length (match v with | .slice _ _ c => c | _ => 0) ∧ b ∈ F ∧ w.cell? ⟨b, off + k, none⟩ = some (.int .u8 xs[k]) := by
  obtain ⟨a, cap, rfl, hl, ⟨rfl, rfl, _⟩ | ⟨b, off, F', rfl, hne, rfl, hc⟩⟩ := h
  · exact ⟨by simp, fun k hk => by simp at hk⟩
  · refine ⟨by omega, fun k hk => ?_⟩
    obtain ⟨cs, F1, ⟨rfl, h0, h1, rfl⟩, hcell, _⟩ := hc.get k hk
    refine ⟨⟨h0, h1⟩, b, off, rfl, by simp, ?_⟩
    simpa [EByte] using hcell 0 (by decide)
/-- the bytes that a cursor reads -/
structure CuF where
  code : List Int
  a : Option Addr
  c : Nat
  bs : List Nat
/-- the cursor lies in block g; its bytes in F, below it; it has moved at most B steps -/
def Cur (B : Nat) (w : World) (g : Nat) (F : CuF) : Prop :=
  ∃ (k : Nat) (seed : Int), Row w g 100 [.slice F.a F.code.length F.c, .int .i64 k, .int .u64 seed] ∧ Sl EByte w (.slice F.a F.code.length F.c) F.code F.bs ∧ g ∉ F.bs ∧ k ≤ B ∧ 0 ≤ seed ∧ seed < 18446744073709551616
theorem Cur.keep {B w w' g F K} (h : Cur B w g F) (hk : Keep K w w') (h1 : g ∉ K) (h2 : ∀ b ∈ F.bs, b ∉ K) : Cur B w' g F := by
  obtain ⟨k, seed, R, S, hF, h3⟩ := h
  exact ⟨k, seed, R.keepK hk h1, S.keep hk h2 (by decide), hF, h3⟩
theorem Cur.below {B w w' g F} (h : Cur B w g F) (hb : Below w.heap.size w w') : Cur B w' g F := by
  obtain ⟨k, seed, R, S, hF, h3⟩ := h
  exact ⟨k, seed, R.below hb, S.below (by decide) hb, hF, h3⟩
theorem Cur.mono {B B' w g F} (h : Cur B w g F) (hb : B ≤ B') : Cur B' w g F := by
  obtain ⟨k, seed, R, S, hF, h3, h4⟩ := h
  exact ⟨k, seed, R, S, hF, by omega, h4⟩
theorem Cur.lt {B w g F} (h : Cur B w g F) : g < w.heap.size := by
  obtain ⟨k, seed, R, _⟩ := h; exact R.lt
def PNext (B g : Nat) (F : CuF) (w : World) (e : Ending) (w' : World) : Prop := ∃ r : Nat, e = .returned (.int .i64 r) ∧ r ≤ 255 ∧ Cur (B + 1) w' g F ∧ Keep [g] w w'
set_option maxHeartbeats 3200000 in
set_option maxRecDepth 100000 in
theorem next_c (B g : Nat) (F : CuF) (w : World) (h : Cur B w g F) (hB0 : B ≤ 1099511627776) :
    Calls Tryz.prog 183 #[.pointer (some ⟨g, 0, none⟩)] w (PNext B g F w) := by
  obtain ⟨code, a, c, F⟩ := F
  obtain ⟨k, seed, R, S, hF, h2, h3, h4⟩ := h
  dsimp only at R S hF
  have hl := S.byte.1
  unfold maxLen at hl
  have hlt := S.lt (by decide)
  by_cases hk : k < code.length
  · obtain ⟨⟨hz0, hz1⟩, b, off, hv, hbF, hcell⟩ := S.byte.2 k hk
    simp only [Value.slice.injEq] at hv
    obtain ⟨rfl, -, -⟩ := hv
    generalize code[k] = z at *
    have hbg : b ≠ g := fun e => hF (e ▸ hbF)
    have hcl := fun w' (hb : Below w.heap.size w w') => kc hb hcell
    replace hcl := Lib.hid hcl
    clear hcell
    have hB := Below.refl w.heap.size w
    go_enter Tryz.func183, Tryz.ntmps183
    go_wp2_with fail
    refine AnyX.start (S := (fun w' => w'.cell? ⟨g, 0, none⟩ = some (.slice (some ⟨b, off, none⟩) code.length c) ∧ w'.cell? ⟨g, 1, none⟩ = some (.int .i64 k) ∧ w'.cell? ⟨g, 2, none⟩ = some (.int .u64 seed) ∧ w'.cell? ⟨b, off + k, none⟩ = some (.int .u8 z))) (X := (fun _ => false)) (by kernel_rfl) ?_
    have al : Below w.heap.size w w.drew := belowDrewN (Below.refl _ _) 1
    have hs_w1 := al.size
    replace R := R.below al
    replace S := S.below (by decide) al
    replace hB := tr hB al (Nat.le_refl _)
    generalize w.drew = w1 at *
    clear al
    have hS : (fun w' => w'.cell? ⟨g, 0, none⟩ = some (.slice (some ⟨b, off, none⟩) code.length c) ∧ w'.cell? ⟨g, 1, none⟩ = some (.int .i64 k) ∧ w'.cell? ⟨g, 2, none⟩ = some (.int .u64 seed) ∧ w'.cell? ⟨b, off + k, none⟩ = some (.int .u8 z)) w1 := ⟨R.cells 0, R.cells 1, R.cells 2, hcl.out _ hB⟩
    refine AnyX.take (i := 0) (oi := _) (v := ?_) (by rw [List.getElem?_toArray]; rfl) (by kernel_rfl) (by kernel_rfl) (by kernel_rfl) (by kernel_rfl) (by kernel_rfl) (by exact fun _ _ _ h => h) (Or.inl ⟨by rfl, ?_⟩) hS ?_
    rotate_left
    · (intro wS hSw; (try dsimp only at hSw); go_simp; try with_reducible rfl)
    try simp only [Act.put, List.setIfInBounds_toArray, List.set_cons_zero, List.set_cons_succ]
    refine AnyX.take (i := 1) (oi := _) (v := ?_) (by rw [List.getElem?_toArray]; rfl) (by kernel_rfl) (by kernel_rfl) (by kernel_rfl) (by kernel_rfl) (by kernel_rfl) (by exact fun _ _ _ h => h) (Or.inl ⟨by rfl, ?_⟩) hS ?_
    rotate_left
    · (intro wS hSw; (try dsimp only at hSw); go_simp; try with_reducible rfl)
    try simp only [Act.put, List.setIfInBounds_toArray, List.set_cons_zero, List.set_cons_succ]
    refine AnyX.take (i := 2) (oi := _) (v := ?_) (by rw [List.getElem?_toArray]; rfl) (by kernel_rfl) (by kernel_rfl) (by kernel_rfl) (by kernel_rfl) (by kernel_rfl) (by exact fun _ _ _ h => h) (Or.inl ⟨by rfl, ?_⟩) hS ?_
    rotate_left
    · (intro wS hSw; (try dsimp only at hSw); go_simp; try with_reducible rfl)
    try simp only [Act.put, List.setIfInBounds_toArray, List.set_cons_zero, List.set_cons_succ]
    refine AnyX.take (i := 3) (oi := _) (v := ?_) (by rw [List.getElem?_toArray]; rfl) (by kernel_rfl) (by kernel_rfl) (by kernel_rfl) (by kernel_rfl) (by kernel_rfl) (by exact fun _ _ _ h => h) (Or.inl ⟨by rfl, ?_⟩) hS ?_
    rotate_left
    · (intro wS hSw; (try dsimp only at hSw); go_simp; try with_reducible rfl)
    try simp only [Act.put, List.setIfInBounds_toArray, List.set_cons_zero, List.set_cons_succ]
    refine AnyX.take (i := 4) (oi := _) (v := ?_) (by rw [List.getElem?_toArray]; rfl) (by kernel_rfl) (by kernel_rfl) (by kernel_rfl) (by kernel_rfl) (by kernel_rfl) (by exact fun _ _ _ h => h) (Or.inl ⟨by rfl, ?_⟩) hS ?_
    rotate_left
    · (intro wS hSw; (try dsimp only at hSw); go_simp; try with_reducible rfl)
    try simp only [Act.put, List.setIfInBounds_toArray, List.set_cons_zero, List.set_cons_succ]
    refine AnyX.take (i := 5) (oi := _) (v := ?_) (by rw [List.getElem?_toArray]; rfl) (by kernel_rfl) (by kernel_rfl) (by kernel_rfl) (by kernel_rfl) (by kernel_rfl) (by exact fun _ _ _ h => h) (Or.inl ⟨by rfl, ?_⟩) hS ?_
    rotate_left
    · (intro wS hSw; (try dsimp only at hSw); go_simp; try with_reducible rfl)
    try simp only [Act.put, List.setIfInBounds_toArray, List.set_cons_zero, List.set_cons_succ]
    refine AnyX.take (i := 6) (oi := _) (v := ?_) (by rw [List.getElem?_toArray]; rfl) (by kernel_rfl) (by kernel_rfl) (by kernel_rfl) (by kernel_rfl) (by kernel_rfl) (by exact fun _ _ _ h => h) (Or.inl ⟨by rfl, ?_⟩) hS ?_
    rotate_left
    · (intro wS hSw; (try dsimp only at hSw); go_simp; try with_reducible rfl)
    try simp only [Act.put, List.setIfInBounds_toArray, List.set_cons_zero, List.set_cons_succ]
    refine AnyX.take (i := 7) (oi := _) (v := ?_) (by rw [List.getElem?_toArray]; rfl) (by kernel_rfl) (by kernel_rfl) (by kernel_rfl) (by kernel_rfl) (by kernel_rfl) (by exact fun _ _ _ h => h) (Or.inl ⟨by rfl, ?_⟩) hS ?_
    rotate_left
    · (intro wS hSw; (try dsimp only at hSw); go_simp; try with_reducible rfl)
    try simp only [Act.put, List.setIfInBounds_toArray, List.set_cons_zero, List.set_cons_succ]
    refine AnyX.take (i := 8) (oi := _) (v := ?_) (by rw [List.getElem?_toArray]; rfl) (by kernel_rfl) (by kernel_rfl) (by kernel_rfl) (by kernel_rfl) (by kernel_rfl) (by exact fun _ _ _ h => h) (Or.inl ⟨by rfl, ?_⟩) hS ?_
    rotate_left
    · (intro wS hSw; (try dsimp only at hSw); go_simp; try with_reducible rfl)
    try simp only [Act.put, List.setIfInBounds_toArray, List.set_cons_zero, List.set_cons_succ]
    refine AnyX.take (i := 9) (oi := _) (v := ?_) (by rw [List.getElem?_toArray]; rfl) (by kernel_rfl) (by kernel_rfl) (by kernel_rfl) (by kernel_rfl) (by kernel_rfl) (by exact fun _ _ _ h => h) (Or.inl ⟨by rfl, ?_⟩) hS ?_
    rotate_left
    · (intro wS hSw; (try dsimp only at hSw); go_simp; try with_reducible rfl)
    try simp only [Act.put, List.setIfInBounds_toArray, List.set_cons_zero, List.set_cons_succ]
    refine AnyX.done (by kernel_rfl) ?_ _
    (try clear hS)
    have c_R := R.cells; have f_R := R.frozens
    go_wp2_with fail
    clear c_R f_R
    rename_i K0 hK0
    refine AnyX.start (S := (fun w' => w'.cell? ⟨g, 0, none⟩ = some (.slice (some ⟨b, off, none⟩) code.length c) ∧ w'.cell? ⟨g, 1, none⟩ = some (.int .i64 k) ∧ w'.cell? ⟨g, 2, none⟩ = some (.int .u64 seed) ∧ w'.cell? ⟨b, off + k, none⟩ = some (.int .u8 z))) (X := (fun _ => false)) (by kernel_rfl) ?_
    have al : Below w1.heap.size w1 w1.drew := belowDrewN (Below.refl _ _) 1
    have hs_w2 := al.size
    replace R := R.below al
    replace S := S.below (by decide) al
    replace hB := tr hB al (Nat.le_refl _)
    generalize w1.drew = w2 at *
    clear al
    have hS : (fun w' => w'.cell? ⟨g, 0, none⟩ = some (.slice (some ⟨b, off, none⟩) code.length c) ∧ w'.cell? ⟨g, 1, none⟩ = some (.int .i64 k) ∧ w'.cell? ⟨g, 2, none⟩ = some (.int .u64 seed) ∧ w'.cell? ⟨b, off + k, none⟩ = some (.int .u8 z)) w2 := ⟨R.cells 0, R.cells 1, R.cells 2, hcl.out _ hB⟩
    refine AnyX.take (i := 0) (oi := _) (v := ?_) (by rw [List.getElem?_toArray]; rfl) (by kernel_rfl) (by kernel_rfl) (by kernel_rfl) (by kernel_rfl) (by kernel_rfl) (by exact fun _ _ _ h => h) (Or.inl ⟨by rfl, ?_⟩) hS ?_
    rotate_left
    · (intro wS hSw; (try dsimp only at hSw); go_simp; try with_reducible rfl)
    try simp only [Act.put, List.setIfInBounds_toArray, List.set_cons_zero, List.set_cons_succ]
    refine AnyX.take (i := 1) (oi := _) (v := ?_) (by rw [List.getElem?_toArray]; rfl) (by kernel_rfl) (by kernel_rfl) (by kernel_rfl) (by kernel_rfl) (by kernel_rfl) (by exact fun _ _ _ h => h) (Or.inl ⟨by rfl, ?_⟩) hS ?_
    rotate_left
    · (intro wS hSw; (try dsimp only at hSw); go_simp; try with_reducible rfl)
    try simp only [Act.put, List.setIfInBounds_toArray, List.set_cons_zero, List.set_cons_succ]
    refine AnyX.take (i := 2) (oi := _) (v := ?_) (by rw [List.getElem?_toArray]; rfl) (by kernel_rfl) (by kernel_rfl) (by kernel_rfl) (by kernel_rfl) (by kernel_rfl) (by exact fun _ _ _ h => h) (Or.inl ⟨by rfl, ?_⟩) hS ?_
    rotate_left
    · (intro wS hSw; (try dsimp only at hSw); go_simp; try with_reducible rfl)
    try simp only [Act.put, List.setIfInBounds_toArray, List.set_cons_zero, List.set_cons_succ]
    refine AnyX.take (i := 3) (oi := _) (v := ?_) (by rw [List.getElem?_toArray]; rfl) (by kernel_rfl) (by kernel_rfl) (by kernel_rfl) (by kernel_rfl) (by kernel_rfl) (by exact fun _ _ _ h => h) (Or.inl ⟨by rfl, ?_⟩) hS ?_
    rotate_left
    · (intro wS hSw; (try dsimp only at hSw); go_simp; try with_reducible rfl)
    try simp only [Act.put, List.setIfInBounds_toArray, List.set_cons_zero, List.set_cons_succ]
    refine AnyX.take (i := 4) (oi := _) (v := ?_) (by rw [List.getElem?_toArray]; rfl) (by kernel_rfl) (by kernel_rfl) (by kernel_rfl) (by kernel_rfl) (by kernel_rfl) (by exact fun _ _ _ h => h) (Or.inl ⟨by rfl, ?_⟩) hS ?_
    rotate_left
    · (intro wS hSw; (try dsimp only at hSw); go_simp; try with_reducible rfl)
    try simp only [Act.put, List.setIfInBounds_toArray, List.set_cons_zero, List.set_cons_succ]
    refine AnyX.take (i := 5) (oi := _) (v := ?_) (by rw [List.getElem?_toArray]; rfl) (by kernel_rfl) (by kernel_rfl) (by kernel_rfl) (by kernel_rfl) (by kernel_rfl) (by exact fun _ _ _ h => h) (Or.inl ⟨by rfl, ?_⟩) hS ?_
    rotate_left
    · (intro wS hSw; (try dsimp only at hSw); go_simp; try with_reducible rfl)
    try simp only [Act.put, List.setIfInBounds_toArray, List.set_cons_zero, List.set_cons_succ]
    refine AnyX.take (i := 6) (oi := _) (v := ?_) (by rw [List.getElem?_toArray]; rfl) (by kernel_rfl) (by kernel_rfl) (by kernel_rfl) (by kernel_rfl) (by kernel_rfl) (by exact fun _ _ _ h => h) (Or.inl ⟨by rfl, ?_⟩) hS ?_
    rotate_left
    · (intro wS hSw; (try dsimp only at hSw); go_simp; try with_reducible rfl)
    try simp only [Act.put, List.setIfInBounds_toArray, List.set_cons_zero, List.set_cons_succ]
    refine AnyX.take (i := 7) (oi := _) (v := ?_) (by rw [List.getElem?_toArray]; rfl) (by kernel_rfl) (by kernel_rfl) (by kernel_rfl) (by kernel_rfl) (by kernel_rfl) (by exact fun _ _ _ h => h) (Or.inl ⟨by rfl, ?_⟩) hS ?_
    rotate_left
    · (intro wS hSw; (try dsimp only at hSw); go_simp; try with_reducible rfl)
    try simp only [Act.put, List.setIfInBounds_toArray, List.set_cons_zero, List.set_cons_succ]
    refine AnyX.take (i := 8) (oi := _) (v := ?_) (by rw [List.getElem?_toArray]; rfl) (by kernel_rfl) (by kernel_rfl) (by kernel_rfl) (by kernel_rfl) (by kernel_rfl) (by exact fun _ _ _ h => h) (Or.inl ⟨by rfl, ?_⟩) hS ?_
    rotate_left
    · (intro wS hSw; (try dsimp only at hSw); go_simp; try with_reducible rfl)
    try simp only [Act.put, List.setIfInBounds_toArray, List.set_cons_zero, List.set_cons_succ]
    refine AnyX.take (i := 9) (oi := _) (v := ?_) (by rw [List.getElem?_toArray]; rfl) (by kernel_rfl) (by kernel_rfl) (by kernel_rfl) (by kernel_rfl) (by kernel_rfl) (by exact fun _ _ _ h => h) (Or.inl ⟨by rfl, ?_⟩) hS ?_
    rotate_left
    · (intro wS hSw; (try dsimp only at hSw); go_simp; try with_reducible rfl)
    try simp only [Act.put, List.setIfInBounds_toArray, List.set_cons_zero, List.set_cons_succ]
    refine AnyX.take (i := 10) (oi := _) (v := ?_) (by rw [List.getElem?_toArray]; rfl) (by kernel_rfl) (by kernel_rfl) (by kernel_rfl) (by kernel_rfl) (by kernel_rfl) (by exact fun _ _ _ h => h) (Or.inl ⟨by rfl, ?_⟩) hS ?_
    rotate_left
    · (intro wS hSw; (try dsimp only at hSw); go_simp; try with_reducible rfl)
    try simp only [Act.put, List.setIfInBounds_toArray, List.set_cons_zero, List.set_cons_succ]
    refine AnyX.only (i := 11) (o := _) (by kernel_rfl) (by rw [List.getElem?_toArray]; rfl) (fun K hK => ?_)
    try go_simp
    clear hS
    have hS : (fun w' => w'.cell? ⟨g, 0, none⟩ = some (.slice (some ⟨b, off, none⟩) code.length c) ∧ w'.cell? ⟨g, 1, none⟩ = some (.int .i64 k) ∧ w'.cell? ⟨g, 2, none⟩ = some (.int .u64 seed) ∧ w'.cell? ⟨b, off + k, none⟩ = some (.int .u8 z)) w2 := ⟨R.cells 0, R.cells 1, R.cells 2, hcl.out _ hB⟩
    refine hK.out _ _ (fun _ => hS) ?_
    clear hK K
    try simp only [Act.put, List.setIfInBounds_toArray, List.set_cons_zero, List.set_cons_succ]
    refine AnyX.done (by kernel_rfl) ?_ _
    (try clear hS)
    refine hK0 _ _ ?_
    clear hK0 K0
    have c_R := R.cells; have f_R := R.frozens
    go_wp2_with fail
    clear c_R f_R
    have n_K : Keep [g] w ((w2.setCell ⟨g, 1, none⟩ (.int .i64 ((k : Int) + 1))).setCell ⟨g, 2, none⟩ (.int .u64 (IntKind.u64.wrap (IntKind.u64.wrap (IntKind.u64.wrap (seed * 6364136223846793005) + z) + 840840)))) := ((Keep.ofBelow hB).setCell (p := ⟨g, 1, none⟩) (by simp) _).setCell (p := ⟨g, 2, none⟩) (by simp) _
    have n_R : Row ((w2.setCell ⟨g, 1, none⟩ (.int .i64 ((k : Int) + 1))).setCell ⟨g, 2, none⟩ (.int .u64 (IntKind.u64.wrap (IntKind.u64.wrap (IntKind.u64.wrap (seed * 6364136223846793005) + z) + 840840)))) g 100 [.slice (some ⟨b, off, none⟩) code.length c, .int .i64 ((k + 1 : Nat) : Int), .int .u64 (IntKind.u64.wrap (IntKind.u64.wrap (IntKind.u64.wrap (seed * 6364136223846793005) + z) + 840840))] := by simpa using ((R.set 1 (.int .i64 ((k : Int) + 1))).set 2 (.int .u64 (IntKind.u64.wrap (IntKind.u64.wrap (IntKind.u64.wrap (seed * 6364136223846793005) + z) + 840840))))
    have n_S : Sl EByte ((w2.setCell ⟨g, 1, none⟩ (.int .i64 ((k : Int) + 1))).setCell ⟨g, 2, none⟩ (.int .u64 (IntKind.u64.wrap (IntKind.u64.wrap (IntKind.u64.wrap (seed * 6364136223846793005) + z) + 840840)))) (Value.slice (some ⟨b, off, none⟩) code.length c) code F := S.frame (fun b hb => by have : b ≠ g := fun e => hF (e ▸ hb); repeat rw [Below.heap_setCell _ _ _ _ (by simp <;> omega)])
    have hs0 : 0 ≤ (IntKind.u64.wrap (IntKind.u64.wrap (IntKind.u64.wrap (seed * 6364136223846793005) + z) + 840840)) ∧ (IntKind.u64.wrap (IntKind.u64.wrap (IntKind.u64.wrap (seed * 6364136223846793005) + z) + 840840)) < 18446744073709551616 := by rw [IntKind.wrap_u64]; omega
    clear R S hB
    generalize (IntKind.u64.wrap (IntKind.u64.wrap (IntKind.u64.wrap (seed * 6364136223846793005) + z) + 840840)) = sd at *
    obtain ⟨hs0, hs1⟩ := hs0
    generalize ((w2.setCell ⟨g, 1, none⟩ (.int .i64 ((k : Int) + 1))).setCell ⟨g, 2, none⟩ (.int .u64 sd)) = w3 at *
    have R := n_R; clear n_R
    have S := n_S; clear n_S
    rename_i K0 hK0
    refine AnyX.start (S := (fun w' => w'.cell? ⟨g, 0, none⟩ = some (.slice (some ⟨b, off, none⟩) code.length c) ∧ w'.cell? ⟨g, 1, none⟩ = some (.int .i64 ((k + 1 : Nat) : Int)) ∧ w'.cell? ⟨g, 2, none⟩ = some (.int .u64 sd))) (X := (fun _ => false)) (by kernel_rfl) ?_
    have al : Below w3.heap.size w3 w3.drew := belowDrewN (Below.refl _ _) 1
    have hs_w4 := al.size
    replace R := R.below al
    replace S := S.below (by decide) al
    have hB := al
    generalize w3.drew = w4 at *
    clear al
    have hS : (fun w' => w'.cell? ⟨g, 0, none⟩ = some (.slice (some ⟨b, off, none⟩) code.length c) ∧ w'.cell? ⟨g, 1, none⟩ = some (.int .i64 ((k + 1 : Nat) : Int)) ∧ w'.cell? ⟨g, 2, none⟩ = some (.int .u64 sd)) w4 := ⟨R.cells 0, R.cells 1, R.cells 2⟩
    refine AnyX.take (i := 0) (oi := _) (v := ?_) (by rw [List.getElem?_toArray]; rfl) (by kernel_rfl) (by kernel_rfl) (by kernel_rfl) (by kernel_rfl) (by kernel_rfl) (by exact fun _ _ _ h => h) (Or.inl ⟨by rfl, ?_⟩) hS ?_
    rotate_left
    · (intro wS hSw; (try dsimp only at hSw); go_simp; try with_reducible rfl)
    try simp only [Act.put, List.setIfInBounds_toArray, List.set_cons_zero, List.set_cons_succ]
    refine AnyX.take (i := 1) (oi := _) (v := ?_) (by rw [List.getElem?_toArray]; rfl) (by kernel_rfl) (by kernel_rfl) (by kernel_rfl) (by kernel_rfl) (by kernel_rfl) (by exact fun _ _ _ h => h) (Or.inl ⟨by rfl, ?_⟩) hS ?_
    rotate_left
    · (intro wS hSw; (try dsimp only at hSw); go_simp; try with_reducible rfl)
    try simp only [Act.put, List.setIfInBounds_toArray, List.set_cons_zero, List.set_cons_succ]
    refine AnyX.take (i := 2) (oi := _) (v := ?_) (by rw [List.getElem?_toArray]; rfl) (by kernel_rfl) (by kernel_rfl) (by kernel_rfl) (by kernel_rfl) (by kernel_rfl) (by exact fun _ _ _ h => h) (Or.inl ⟨by rfl, ?_⟩) hS ?_
    rotate_left
    · (intro wS hSw; (try dsimp only at hSw); go_simp; try with_reducible rfl)
    try simp only [Act.put, List.setIfInBounds_toArray, List.set_cons_zero, List.set_cons_succ]
    refine AnyX.take (i := 3) (oi := _) (v := ?_) (by rw [List.getElem?_toArray]; rfl) (by kernel_rfl) (by kernel_rfl) (by kernel_rfl) (by kernel_rfl) (by kernel_rfl) (by exact fun _ _ _ h => h) (Or.inl ⟨by rfl, ?_⟩) hS ?_
    rotate_left
    · (intro wS hSw; (try dsimp only at hSw); go_simp; try with_reducible rfl)
    try simp only [Act.put, List.setIfInBounds_toArray, List.set_cons_zero, List.set_cons_succ]
    refine AnyX.take (i := 4) (oi := _) (v := ?_) (by rw [List.getElem?_toArray]; rfl) (by kernel_rfl) (by kernel_rfl) (by kernel_rfl) (by kernel_rfl) (by kernel_rfl) (by exact fun _ _ _ h => h) (Or.inl ⟨by rfl, ?_⟩) hS ?_
    rotate_left
    · (intro wS hSw; (try dsimp only at hSw); go_simp; try with_reducible rfl)
    try simp only [Act.put, List.setIfInBounds_toArray, List.set_cons_zero, List.set_cons_succ]
    refine AnyX.take (i := 5) (oi := _) (v := ?_) (by rw [List.getElem?_toArray]; rfl) (by kernel_rfl) (by kernel_rfl) (by kernel_rfl) (by kernel_rfl) (by kernel_rfl) (by exact fun _ _ _ h => h) (Or.inl ⟨by rfl, ?_⟩) hS ?_
    rotate_left
    · (intro wS hSw; (try dsimp only at hSw); go_simp; try with_reducible rfl)
    try simp only [Act.put, List.setIfInBounds_toArray, List.set_cons_zero, List.set_cons_succ]
    refine AnyX.take (i := 6) (oi := _) (v := ?_) (by rw [List.getElem?_toArray]; rfl) (by kernel_rfl) (by kernel_rfl) (by kernel_rfl) (by kernel_rfl) (by kernel_rfl) (by exact fun _ _ _ h => h) (Or.inl ⟨by rfl, ?_⟩) hS ?_
    rotate_left
    · (intro wS hSw; (try dsimp only at hSw); go_simp; try with_reducible rfl)
    try simp only [Act.put, List.setIfInBounds_toArray, List.set_cons_zero, List.set_cons_succ]
    refine AnyX.take (i := 7) (oi := _) (v := ?_) (by rw [List.getElem?_toArray]; rfl) (by kernel_rfl) (by kernel_rfl) (by kernel_rfl) (by kernel_rfl) (by kernel_rfl) (by exact fun _ _ _ h => h) (Or.inl ⟨by rfl, ?_⟩) hS ?_
    rotate_left
    · (intro wS hSw; (try dsimp only at hSw); go_simp; try with_reducible rfl)
    try simp only [Act.put, List.setIfInBounds_toArray, List.set_cons_zero, List.set_cons_succ]
    refine AnyX.take (i := 8) (oi := _) (v := ?_) (by rw [List.getElem?_toArray]; rfl) (by kernel_rfl) (by kernel_rfl) (by kernel_rfl) (by kernel_rfl) (by kernel_rfl) (by exact fun _ _ _ h => h) (Or.inl ⟨by rfl, ?_⟩) hS ?_
    rotate_left
    · (intro wS hSw; (try dsimp only at hSw); go_simp; try with_reducible rfl)
    try simp only [Act.put, List.setIfInBounds_toArray, List.set_cons_zero, List.set_cons_succ]
    refine AnyX.take (i := 9) (oi := _) (v := ?_) (by rw [List.getElem?_toArray]; rfl) (by kernel_rfl) (by kernel_rfl) (by kernel_rfl) (by kernel_rfl) (by kernel_rfl) (by exact fun _ _ _ h => h) (Or.inl ⟨by rfl, ?_⟩) hS ?_
    rotate_left
    · (intro wS hSw; (try dsimp only at hSw); go_simp; try with_reducible rfl)
    try simp only [Act.put, List.setIfInBounds_toArray, List.set_cons_zero, List.set_cons_succ]
    refine AnyX.done (by kernel_rfl) ?_ _
    (try clear hS)
    refine hK0 _ _ ?_
    clear hK0 K0
    have n_K2 := n_K.trans (Keep.ofBelow hB)
    have c_R := R.cells; have f_R := R.frozens
    go_wp2_with fail
    refine bodyPost_ret (v := .int .i64 (IntKind.i64.wrap z)) ?_ rfl ?_
    · simp [results, Tryz.results183, go_sem]
    · refine ⟨z.toNat, ?_, by omega, ⟨k + 1, sd, R, S, hF, by omega, hs0, hs1⟩, n_K2⟩
      rw [show IntKind.i64.wrap z = ((z.toNat : Nat) : Int) from by rw [IntKind.wrap_i64]; omega]
  · have hB := Below.refl w.heap.size w
    go_enter Tryz.func183, Tryz.ntmps183
    go_wp2_with fail
    refine AnyX.start (S := (fun w' => w'.cell? ⟨g, 0, none⟩ = some (.slice a code.length c) ∧ w'.cell? ⟨g, 1, none⟩ = some (.int .i64 k) ∧ w'.cell? ⟨g, 2, none⟩ = some (.int .u64 seed))) (X := (fun _ => false)) (by kernel_rfl) ?_
    have al : Below w.heap.size w w.drew := belowDrewN (Below.refl _ _) 1
    have hs_w5 := al.size
    replace R := R.below al
    replace S := S.below (by decide) al
    replace hB := tr hB al (Nat.le_refl _)
    generalize w.drew = w5 at *
    clear al
    have hS : (fun w' => w'.cell? ⟨g, 0, none⟩ = some (.slice a code.length c) ∧ w'.cell? ⟨g, 1, none⟩ = some (.int .i64 k) ∧ w'.cell? ⟨g, 2, none⟩ = some (.int .u64 seed)) w5 := ⟨R.cells 0, R.cells 1, R.cells 2⟩
    refine AnyX.take (i := 0) (oi := _) (v := ?_) (by rw [List.getElem?_toArray]; rfl) (by kernel_rfl) (by kernel_rfl) (by kernel_rfl) (by kernel_rfl) (by kernel_rfl) (by exact fun _ _ _ h => h) (Or.inl ⟨by rfl, ?_⟩) hS ?_
    rotate_left
    · (intro wS hSw; (try dsimp only at hSw); go_simp; try with_reducible rfl)
    try simp only [Act.put, List.setIfInBounds_toArray, List.set_cons_zero, List.set_cons_succ]
    refine AnyX.take (i := 1) (oi := _) (v := ?_) (by rw [List.getElem?_toArray]; rfl) (by kernel_rfl) (by kernel_rfl) (by kernel_rfl) (by kernel_rfl) (by kernel_rfl) (by exact fun _ _ _ h => h) (Or.inl ⟨by rfl, ?_⟩) hS ?_
    rotate_left
    · (intro wS hSw; (try dsimp only at hSw); go_simp; try with_reducible rfl)
    try simp only [Act.put, List.setIfInBounds_toArray, List.set_cons_zero, List.set_cons_succ]
    refine AnyX.take (i := 2) (oi := _) (v := ?_) (by rw [List.getElem?_toArray]; rfl) (by kernel_rfl) (by kernel_rfl) (by kernel_rfl) (by kernel_rfl) (by kernel_rfl) (by exact fun _ _ _ h => h) (Or.inl ⟨by rfl, ?_⟩) hS ?_
    rotate_left
    · (intro wS hSw; (try dsimp only at hSw); go_simp; try with_reducible rfl)
    try simp only [Act.put, List.setIfInBounds_toArray, List.set_cons_zero, List.set_cons_succ]
    refine AnyX.take (i := 3) (oi := _) (v := ?_) (by rw [List.getElem?_toArray]; rfl) (by kernel_rfl) (by kernel_rfl) (by kernel_rfl) (by kernel_rfl) (by kernel_rfl) (by exact fun _ _ _ h => h) (Or.inl ⟨by rfl, ?_⟩) hS ?_
    rotate_left
    · (intro wS hSw; (try dsimp only at hSw); go_simp; try with_reducible rfl)
    try simp only [Act.put, List.setIfInBounds_toArray, List.set_cons_zero, List.set_cons_succ]
    refine AnyX.take (i := 4) (oi := _) (v := ?_) (by rw [List.getElem?_toArray]; rfl) (by kernel_rfl) (by kernel_rfl) (by kernel_rfl) (by kernel_rfl) (by kernel_rfl) (by exact fun _ _ _ h => h) (Or.inl ⟨by rfl, ?_⟩) hS ?_
    rotate_left
    · (intro wS hSw; (try dsimp only at hSw); go_simp; try with_reducible rfl)
    try simp only [Act.put, List.setIfInBounds_toArray, List.set_cons_zero, List.set_cons_succ]
    refine AnyX.take (i := 5) (oi := _) (v := ?_) (by rw [List.getElem?_toArray]; rfl) (by kernel_rfl) (by kernel_rfl) (by kernel_rfl) (by kernel_rfl) (by kernel_rfl) (by exact fun _ _ _ h => h) (Or.inl ⟨by rfl, ?_⟩) hS ?_
    rotate_left
    · (intro wS hSw; (try dsimp only at hSw); go_simp; try with_reducible rfl)
    try simp only [Act.put, List.setIfInBounds_toArray, List.set_cons_zero, List.set_cons_succ]
    refine AnyX.take (i := 6) (oi := _) (v := ?_) (by rw [List.getElem?_toArray]; rfl) (by kernel_rfl) (by kernel_rfl) (by kernel_rfl) (by kernel_rfl) (by kernel_rfl) (by exact fun _ _ _ h => h) (Or.inl ⟨by rfl, ?_⟩) hS ?_
    rotate_left
    · (intro wS hSw; (try dsimp only at hSw); go_simp; try with_reducible rfl)
    try simp only [Act.put, List.setIfInBounds_toArray, List.set_cons_zero, List.set_cons_succ]
    refine AnyX.take (i := 7) (oi := _) (v := ?_) (by rw [List.getElem?_toArray]; rfl) (by kernel_rfl) (by kernel_rfl) (by kernel_rfl) (by kernel_rfl) (by kernel_rfl) (by exact fun _ _ _ h => h) (Or.inl ⟨by rfl, ?_⟩) hS ?_
    rotate_left
    · (intro wS hSw; (try dsimp only at hSw); go_simp; try with_reducible rfl)
    try simp only [Act.put, List.setIfInBounds_toArray, List.set_cons_zero, List.set_cons_succ]
    refine AnyX.take (i := 8) (oi := _) (v := ?_) (by rw [List.getElem?_toArray]; rfl) (by kernel_rfl) (by kernel_rfl) (by kernel_rfl) (by kernel_rfl) (by kernel_rfl) (by exact fun _ _ _ h => h) (Or.inl ⟨by rfl, ?_⟩) hS ?_
    rotate_left
    · (intro wS hSw; (try dsimp only at hSw); go_simp; try with_reducible rfl)
    try simp only [Act.put, List.setIfInBounds_toArray, List.set_cons_zero, List.set_cons_succ]
    refine AnyX.take (i := 9) (oi := _) (v := ?_) (by rw [List.getElem?_toArray]; rfl) (by kernel_rfl) (by kernel_rfl) (by kernel_rfl) (by kernel_rfl) (by kernel_rfl) (by exact fun _ _ _ h => h) (Or.inl ⟨by rfl, ?_⟩) hS ?_
    rotate_left
    · (intro wS hSw; (try dsimp only at hSw); go_simp; try with_reducible rfl)
    try simp only [Act.put, List.setIfInBounds_toArray, List.set_cons_zero, List.set_cons_succ]
    refine AnyX.done (by kernel_rfl) ?_ _
    (try clear hS)
    have c_R := R.cells; have f_R := R.frozens
    go_wp2_with fail
    clear c_R f_R
    have n_K : Keep [g] w ((w5.setCell ⟨g, 1, none⟩ (.int .i64 ((k : Int) + 1))).setCell ⟨g, 2, none⟩ (.int .u64 (IntKind.u64.wrap (IntKind.u64.wrap (IntKind.u64.wrap (seed * 6364136223846793005)) + 840840)))) := ((Keep.ofBelow hB).setCell (p := ⟨g, 1, none⟩) (by simp) _).setCell (p := ⟨g, 2, none⟩) (by simp) _
    have n_R : Row ((w5.setCell ⟨g, 1, none⟩ (.int .i64 ((k : Int) + 1))).setCell ⟨g, 2, none⟩ (.int .u64 (IntKind.u64.wrap (IntKind.u64.wrap (IntKind.u64.wrap (seed * 6364136223846793005)) + 840840)))) g 100 [.slice a code.length c, .int .i64 ((k + 1 : Nat) : Int), .int .u64 (IntKind.u64.wrap (IntKind.u64.wrap (IntKind.u64.wrap (seed * 6364136223846793005)) + 840840))] := by simpa using ((R.set 1 (.int .i64 ((k : Int) + 1))).set 2 (.int .u64 (IntKind.u64.wrap (IntKind.u64.wrap (IntKind.u64.wrap (seed * 6364136223846793005)) + 840840))))
    have n_S : Sl EByte ((w5.setCell ⟨g, 1, none⟩ (.int .i64 ((k : Int) + 1))).setCell ⟨g, 2, none⟩ (.int .u64 (IntKind.u64.wrap (IntKind.u64.wrap (IntKind.u64.wrap (seed * 6364136223846793005)) + 840840)))) (Value.slice a code.length c) code F := S.frame (fun b hb => by have : b ≠ g := fun e => hF (e ▸ hb); repeat rw [Below.heap_setCell _ _ _ _ (by simp <;> omega)])
    have hs0 : 0 ≤ (IntKind.u64.wrap (IntKind.u64.wrap (IntKind.u64.wrap (seed * 6364136223846793005)) + 840840)) ∧ (IntKind.u64.wrap (IntKind.u64.wrap (IntKind.u64.wrap (seed * 6364136223846793005)) + 840840)) < 18446744073709551616 := by rw [IntKind.wrap_u64]; omega
    clear R S hB
    generalize (IntKind.u64.wrap (IntKind.u64.wrap (IntKind.u64.wrap (seed * 6364136223846793005)) + 840840)) = sd at *
    obtain ⟨hs0, hs1⟩ := hs0
    generalize ((w5.setCell ⟨g, 1, none⟩ (.int .i64 ((k : Int) + 1))).setCell ⟨g, 2, none⟩ (.int .u64 sd)) = w6 at *
    have R := n_R; clear n_R
    have S := n_S; clear n_S
    rename_i K0 hK0
    refine AnyX.start (S := (fun w' => w'.cell? ⟨g, 0, none⟩ = some (.slice a code.length c) ∧ w'.cell? ⟨g, 1, none⟩ = some (.int .i64 ((k + 1 : Nat) : Int)) ∧ w'.cell? ⟨g, 2, none⟩ = some (.int .u64 sd))) (X := (fun _ => false)) (by kernel_rfl) ?_
    have al : Below w6.heap.size w6 w6.drew := belowDrewN (Below.refl _ _) 1
    have hs_w7 := al.size
    replace R := R.below al
    replace S := S.below (by decide) al
    have hB := al
    generalize w6.drew = w7 at *
    clear al
    have hS : (fun w' => w'.cell? ⟨g, 0, none⟩ = some (.slice a code.length c) ∧ w'.cell? ⟨g, 1, none⟩ = some (.int .i64 ((k + 1 : Nat) : Int)) ∧ w'.cell? ⟨g, 2, none⟩ = some (.int .u64 sd)) w7 := ⟨R.cells 0, R.cells 1, R.cells 2⟩
    refine AnyX.take (i := 0) (oi := _) (v := ?_) (by rw [List.getElem?_toArray]; rfl) (by kernel_rfl) (by kernel_rfl) (by kernel_rfl) (by kernel_rfl) (by kernel_rfl) (by exact fun _ _ _ h => h) (Or.inl ⟨by rfl, ?_⟩) hS ?_
    rotate_left
    · (intro wS hSw; (try dsimp only at hSw); go_simp; try with_reducible rfl)
    try simp only [Act.put, List.setIfInBounds_toArray, List.set_cons_zero, List.set_cons_succ]
    refine AnyX.take (i := 1) (oi := _) (v := ?_) (by rw [List.getElem?_toArray]; rfl) (by kernel_rfl) (by kernel_rfl) (by kernel_rfl) (by kernel_rfl) (by kernel_rfl) (by exact fun _ _ _ h => h) (Or.inl ⟨by rfl, ?_⟩) hS ?_
    rotate_left
    · (intro wS hSw; (try dsimp only at hSw); go_simp; try with_reducible rfl)
    try simp only [Act.put, List.setIfInBounds_toArray, List.set_cons_zero, List.set_cons_succ]
    refine AnyX.take (i := 2) (oi := _) (v := ?_) (by rw [List.getElem?_toArray]; rfl) (by kernel_rfl) (by kernel_rfl) (by kernel_rfl) (by kernel_rfl) (by kernel_rfl) (by exact fun _ _ _ h => h) (Or.inl ⟨by rfl, ?_⟩) hS ?_
    rotate_left
    · (intro wS hSw; (try dsimp only at hSw); go_simp; try with_reducible rfl)
    try simp only [Act.put, List.setIfInBounds_toArray, List.set_cons_zero, List.set_cons_succ]
    refine AnyX.take (i := 3) (oi := _) (v := ?_) (by rw [List.getElem?_toArray]; rfl) (by kernel_rfl) (by kernel_rfl) (by kernel_rfl) (by kernel_rfl) (by kernel_rfl) (by exact fun _ _ _ h => h) (Or.inl ⟨by rfl, ?_⟩) hS ?_
    rotate_left
    · (intro wS hSw; (try dsimp only at hSw); go_simp; try with_reducible rfl)
    try simp only [Act.put, List.setIfInBounds_toArray, List.set_cons_zero, List.set_cons_succ]
    refine AnyX.take (i := 4) (oi := _) (v := ?_) (by rw [List.getElem?_toArray]; rfl) (by kernel_rfl) (by kernel_rfl) (by kernel_rfl) (by kernel_rfl) (by kernel_rfl) (by exact fun _ _ _ h => h) (Or.inl ⟨by rfl, ?_⟩) hS ?_
    rotate_left
    · (intro wS hSw; (try dsimp only at hSw); go_simp; try with_reducible rfl)
    try simp only [Act.put, List.setIfInBounds_toArray, List.set_cons_zero, List.set_cons_succ]
    refine AnyX.take (i := 5) (oi := _) (v := ?_) (by rw [List.getElem?_toArray]; rfl) (by kernel_rfl) (by kernel_rfl) (by kernel_rfl) (by kernel_rfl) (by kernel_rfl) (by exact fun _ _ _ h => h) (Or.inl ⟨by rfl, ?_⟩) hS ?_
    rotate_left
    · (intro wS hSw; (try dsimp only at hSw); go_simp; try with_reducible rfl)
    try simp only [Act.put, List.setIfInBounds_toArray, List.set_cons_zero, List.set_cons_succ]
    refine AnyX.take (i := 6) (oi := _) (v := ?_) (by rw [List.getElem?_toArray]; rfl) (by kernel_rfl) (by kernel_rfl) (by kernel_rfl) (by kernel_rfl) (by kernel_rfl) (by exact fun _ _ _ h => h) (Or.inl ⟨by rfl, ?_⟩) hS ?_
    rotate_left
    · (intro wS hSw; (try dsimp only at hSw); go_simp; try with_reducible rfl)
    try simp only [Act.put, List.setIfInBounds_toArray, List.set_cons_zero, List.set_cons_succ]
    refine AnyX.take (i := 7) (oi := _) (v := ?_) (by rw [List.getElem?_toArray]; rfl) (by kernel_rfl) (by kernel_rfl) (by kernel_rfl) (by kernel_rfl) (by kernel_rfl) (by exact fun _ _ _ h => h) (Or.inl ⟨by rfl, ?_⟩) hS ?_
    rotate_left
    · (intro wS hSw; (try dsimp only at hSw); go_simp; try with_reducible rfl)
    try simp only [Act.put, List.setIfInBounds_toArray, List.set_cons_zero, List.set_cons_succ]
    refine AnyX.take (i := 8) (oi := _) (v := ?_) (by rw [List.getElem?_toArray]; rfl) (by kernel_rfl) (by kernel_rfl) (by kernel_rfl) (by kernel_rfl) (by kernel_rfl) (by exact fun _ _ _ h => h) (Or.inl ⟨by rfl, ?_⟩) hS ?_
    rotate_left
    · (intro wS hSw; (try dsimp only at hSw); go_simp; try with_reducible rfl)
    try simp only [Act.put, List.setIfInBounds_toArray, List.set_cons_zero, List.set_cons_succ]
    refine AnyX.take (i := 9) (oi := _) (v := ?_) (by rw [List.getElem?_toArray]; rfl) (by kernel_rfl) (by kernel_rfl) (by kernel_rfl) (by kernel_rfl) (by kernel_rfl) (by exact fun _ _ _ h => h) (Or.inl ⟨by rfl, ?_⟩) hS ?_
    rotate_left
    · (intro wS hSw; (try dsimp only at hSw); go_simp; try with_reducible rfl)
    try simp only [Act.put, List.setIfInBounds_toArray, List.set_cons_zero, List.set_cons_succ]
    refine AnyX.done (by kernel_rfl) ?_ _
    (try clear hS)
    refine hK0 _ _ ?_
    clear hK0 K0
    have n_K2 := n_K.trans (Keep.ofBelow hB)
    obtain ⟨q, hq, hq2⟩ : ∃ q : Nat, bits BinOp.and IntKind.u64 (sd / 1099511627776) 255 = (q : Int) ∧ q ≤ 255 := by
      refine ⟨(sd / 1099511627776).toNat &&& 255, ?_, Nat.and_le_right⟩
      rw [← bits_and_u64_nat _ _ (by omega) (by omega)]
      congr 1; omega
    have c_R := R.cells; have f_R := R.frozens
    go_wp2_with fail
    refine bodyPost_ret (v := .int .i64 (q : Int)) ?_ rfl ?_
    · simp [results, Tryz.results183, go_sem, hq]
    · exact ⟨q, rfl, hq2, ⟨k + 1, sd, R, S, hF, by omega, hs0, hs1⟩, n_K2⟩
def PPick (B g : Nat) (F : CuF) (n : Int) (w : World) (e : Ending) (w' : World) : Prop := ∃ r : Nat, e = .returned (.int .i64 r) ∧ (r = 0 ∨ (r : Int) < n) ∧ Cur (B + 2) w' g F ∧ Keep [g] w w'
set_option maxHeartbeats 1600000 in
set_option maxRecDepth 100000 in
theorem pick_c (B g : Nat) (F : CuF) (n : Int) (w : World) (h : Cur B w g F) (hB0 : B ≤ 1099511627774) (hn : n ≤ 1048576) :
    Calls Tryz.prog 132 #[.pointer (some ⟨g, 0, none⟩), .int .i64 n] w (PPick B g F n w) := by
  have hN1 := next_c B g F w h (by omega)
  have hN2 := fun w h => next_c (B + 1) g F w h (by omega)
  replace hN1 := Lib.hid hN1; replace hN2 := Lib.hid hN2
  by_cases h1 : n ≤ 1
  · go_enter Tryz.func132, Tryz.ntmps132
    go_wp2_with fail
    refine bodyPost_ret (v := .int .i64 0) ?_ rfl ⟨0, rfl, .inl rfl, h.mono (by omega), Keep.refl _ _⟩
    simp [results, Tryz.results132, go_sem]
  · by_cases h2 : n ≤ 200
    · go_enter Tryz.func132, Tryz.ntmps132
      go_wp2_with fail
      refine hN1.out.mono ?_
      rintro e w1 ⟨r, rfl, hr, hc, hk⟩
      have hm0 : 0 ≤ (r : Int) % n := Int.emod_nonneg _ (by omega)
      have hm1 : (r : Int) % n < n := Int.emod_lt_of_pos _ (by omega)
      go_wp2_with fail
      refine bodyPost_ret (v := .int .i64 ((r : Int) % n)) ?_ rfl ⟨((r : Int) % n).toNat, by rw [Int.toNat_of_nonneg hm0], .inr (by omega), hc.mono (by omega), hk⟩
      simp [results, Tryz.results132, go_sem]
    · go_enter Tryz.func132, Tryz.ntmps132
      go_wp2_with fail
      refine hN1.out.mono ?_
      rintro e w1 ⟨r, rfl, hr, hc, hk⟩
      go_wp2_with fail
      refine (hN2.out _ hc).mono ?_
      rintro e w2 ⟨r2, rfl, hr2, hc2, hk2⟩
      have hm0 : 0 ≤ ((r : Int) * 256 + r2) % n := Int.emod_nonneg _ (by omega)
      have hm1 : ((r : Int) * 256 + r2) % n < n := Int.emod_lt_of_pos _ (by omega)
      go_wp2_with fail
      refine bodyPost_ret (v := .int .i64 (((r : Int) * 256 + r2) % n)) ?_ rfl ⟨(((r : Int) * 256 + r2) % n).toNat, by rw [Int.toNat_of_nonneg hm0], .inr (by omega), hc2, hk.trans hk2⟩
      simp [results, Tryz.results132, go_sem]
def POne (B g : Nat) (F : CuF) (w : World) (e : Ending) (w' : World) : Prop := ∃ b : Bool, e = .returned (.bool b) ∧ Cur (B + 2) w' g F ∧ Keep [g] w w'
theorem one_c (B g : Nat) (F : CuF) (n : Int) (w : World) (h : Cur B w g F) (hB0 : B ≤ 1099511627774) (hn : n ≤ 1048576) :
    Calls Tryz.prog 67 #[.pointer (some ⟨g, 0, none⟩), .int .i64 n] w (POne B g F w) := by
  have hN1 := Lib.hid (pick_c B g F n w h hB0 hn)
  go_enter Tryz.func67, Tryz.ntmps67
  go_wp2_with fail
  refine hN1.out.mono ?_
  rintro e w1 ⟨r, rfl, hr, hc, hk⟩
  go_wp2_with fail
  refine bodyPost_ret (v := .bool ((r : Int) == 0)) ?_ rfl ⟨_, rfl, hc, hk⟩
  simp [results, Tryz.results67, go_sem]
def POf (B g : Nat) (F : CuF) (xs : List ByteArray) (w : World) (e : Ending) (w' : World) : Prop := ∃ s ∈ xs, e = .returned (.string s) ∧ Cur (B + 2) w' g F ∧ Keep [g] w w'
theorem of_c (B g : Nat) (F : CuF) (v : Value) (xs : List ByteArray) (K : List Nat) (w : World) (h : Cur B w g F) (hB0 : B ≤ 1099511627774) (hx : Sl EStr w v xs K) (h0 : 0 < xs.length) (h1 : xs.length ≤ 1048576) (hg : g ∉ K) :
    Calls Tryz.prog 68 #[.pointer (some ⟨g, 0, none⟩), v] w (POf B g F xs w) := by
  obtain ⟨a, c, rfl⟩ := hx.slice
  have hN1 := Lib.hid (pick_c B g F xs.length w h hB0 (by omega))
  go_enter Tryz.func68, Tryz.ntmps68
  go_wp2_with fail
  refine hN1.out.mono ?_
  rintro e w1 ⟨r, rfl, hr, hc, hk⟩
  have hr2 : r < xs.length := by omega
  obtain ⟨hsz, b, off, rfl, hcell⟩ := (hx.keep hk (fun b hb e => hg (by simp at e; rw [← e]; exact hb)) (by decide)).str.2.2 r hr2
  clear hr
  have hm := List.getElem_mem hr2
  generalize xs[r] = s at *
  go_wp2_with fail
  refine bodyPost_ret (v := .string s) ?_ rfl ⟨s, hm, rfl, hc, hk⟩
  simp [results, Tryz.results68, go_sem]
def PAmong (B g : Nat) (F : CuF) (xs : List Int) (w : World) (e : Ending) (w' : World) : Prop := ∃ s ∈ xs, e = .returned (.int .i64 s) ∧ Cur (B + 2) w' g F ∧ Keep [g] w w'
theorem among_c (B g : Nat) (F : CuF) (v : Value) (xs : List Int) (K : List Nat) (w : World) (h : Cur B w g F) (hB0 : B ≤ 1099511627774) (hx : Sl EInt w v xs K) (h0 : 0 < xs.length) (h1 : xs.length ≤ 1048576) (hg : g ∉ K) :
    Calls Tryz.prog 109 #[.pointer (some ⟨g, 0, none⟩), v] w (PAmong B g F xs w) := by
  obtain ⟨a, c, rfl⟩ := hx.slice
  have hN1 := Lib.hid (pick_c B g F xs.length w h hB0 (by omega))
  go_enter Tryz.func109, Tryz.ntmps109
  go_wp2_with fail
  refine hN1.out.mono ?_
  rintro e w1 ⟨r, rfl, hr, hc, hk⟩
  have hr2 : r < xs.length := by omega
  obtain ⟨b, off, rfl, hcell⟩ := (hx.keep hk (fun b hb e => hg (by simp at e; rw [← e]; exact hb)) (by decide)).int.2.2 r hr2
  clear hr
  have hm := List.getElem_mem hr2
  generalize xs[r] = s at *
  go_wp2_with fail
  refine bodyPost_ret (v := .int .i64 s) ?_ rfl ⟨s, hm, rfl, hc, hk⟩
  simp [results, Tryz.results109, go_sem]
end Go.Proofs.YtidephmobajikaaGreatDoor
/- Draws, for the engine: the cursor. -/
namespace Go.Proofs.YtidephmobajikaaGreatDoor
open Go.RowKit
structure CuS where
  k : Nat
  seed : Int
structure CuOk (B : Nat) (s : CuS) : Prop where
  k : s.k ≤ B
  s0 : 0 ≤ s.seed
  s1 : s.seed < 18446744073709551616
theorem CuOk.mono {B B' : Nat} {s : CuS} (h : CuOk B s) (hb : B ≤ B') : CuOk B' s := ⟨Nat.le_trans h.k hb, h.s0, h.s1⟩
theorem cu_fn {f : FuncId} {args : List Value} {σ : Type} {C : σ → Prop} {v : σ → Value} {B B' g : Nat} {F : CuF} {s : CuS} {X : List Pc} (hX : X.all (fun p => !p.mu) = true) (ok : CuOk B s)
    (h : ∀ w, Cur B w g F → Hol X w → (∀ p ∈ X, g ∉ p.F) → Calls Tryz.prog f args.toArray w fun e w' => ∃ r, C r ∧ e = .returned (v r) ∧ Cur B' w' g F ∧ Keep [g] w w') :
    Fn Tryz.prog f args (.sl EByte (.slice F.a F.code.length F.c) F.code F.bs :: X) [.row g 100 0 [] [.slice F.a F.code.length F.c, .int .i64 (s.k : Nat), .int .u64 s.seed] []] (fun (z : σ × CuS) => C z.1 ∧ CuOk B' z.2) (fun z => v z.1) (fun z => [.row g 100 0 [] [.slice F.a F.code.length F.c, .int .i64 (z.2.k : Nat), .int .u64 z.2.seed] []]) := fun w hH hS => by
  have h1 := hH (.row g 100 0 [] [.slice F.a F.code.length F.c, .int .i64 (s.k : Nat), .int .u64 s.seed] []) (by simp)
  have h2 := hH (.sl EByte (.slice F.a F.code.length F.c) F.code F.bs) (by simp)
  have ap := hS.1
  have hg : g ∉ F.bs := fun hm => ap (.sl EByte (.slice F.a F.code.length F.c) F.code F.bs) (by simp) (by simp [Pc.mu]) g (by simp [Pc.F]) hm
  refine (h w ⟨s.k, s.seed, by simpa using h1.2, h2.2, hg, ok.k, ok.s0, ok.s1⟩ (fun p hp => hH p (by simp [hp])) (fun p hp hm => ap p (by simp [hp]) (by simp [Pc.mu]) g (by simp [Pc.F]) hm)).mono ?_
  rintro e w' ⟨r, hC, he, ⟨k, seed, R, S, -, hk, h0, h3⟩, hK⟩
  refine ⟨(r, ⟨k, seed⟩), ⟨hC, hk, h0, h3⟩, he, hol1 ⟨rfl, by simpa using R⟩, ⟨by simp, trivial⟩, hK.mono (fun b hb _ => by simpa [fp, Pc.F] using hb), fun p hp b hb => ?_⟩
  simp at hp
  subst hp
  exact .inr (.inl ⟨_, List.mem_cons_self .., by simpa [Pc.F] using hb⟩)
theorem pick_f (B g : Nat) (F : CuF) (n : Int) (s : CuS) (ok : CuOk B s) (hB : B ≤ 1000000000000) (hn : n ≤ 1048576) :
    Fn Tryz.prog 132 [ptr g 0 0, .int .i64 n] [.sl EByte (.slice F.a F.code.length F.c) F.code F.bs] [.row g 100 0 [] [.slice F.a F.code.length F.c, .int .i64 (s.k : Nat), .int .u64 s.seed] []] (fun (z : Nat × CuS) => (z.1 = 0 ∨ (z.1 : Int) < n) ∧ CuOk (B + 2) z.2) (fun z => .int .i64 (z.1 : Nat)) (fun z => [.row g 100 0 [] [.slice F.a F.code.length F.c, .int .i64 (z.2.k : Nat), .int .u64 z.2.seed] []]) :=
  cu_fn (C := fun r : Nat => r = 0 ∨ (r : Int) < n) (v := fun r => .int .i64 (r : Nat)) (X := []) rfl ok fun w h _ _ => (pick_c B g F n w h (by omega) hn).mono fun _ _ ⟨r, he, h1, h2, h3⟩ => ⟨r, h1, he, h2, h3⟩
theorem one_f (B g : Nat) (F : CuF) (n : Int) (s : CuS) (ok : CuOk B s) (hB : B ≤ 1000000000000) (hn : n ≤ 1048576) :
    Fn Tryz.prog 67 [ptr g 0 0, .int .i64 n] [.sl EByte (.slice F.a F.code.length F.c) F.code F.bs] [.row g 100 0 [] [.slice F.a F.code.length F.c, .int .i64 (s.k : Nat), .int .u64 s.seed] []] (fun (z : Bool × CuS) => True ∧ CuOk (B + 2) z.2) (fun z => .bool z.1) (fun z => [.row g 100 0 [] [.slice F.a F.code.length F.c, .int .i64 (z.2.k : Nat), .int .u64 z.2.seed] []]) :=
  cu_fn (C := fun _ : Bool => True) (v := fun r => .bool r) (X := []) rfl ok fun w h _ _ => (one_c B g F n w h (by omega) hn).mono fun _ _ ⟨r, he, h2, h3⟩ => ⟨r, trivial, he, h2, h3⟩
theorem of_f (B g : Nat) (F : CuF) (v : Value) (xs : List ByteArray) (G : List Nat) (s : CuS) (ok : CuOk B s) (hB : B ≤ 1000000000000) (h0 : 0 < xs.length) (h1 : xs.length ≤ 1048576) :
    Fn Tryz.prog 68 [ptr g 0 0, v] [.sl EByte (.slice F.a F.code.length F.c) F.code F.bs, .sl EStr v xs G] [.row g 100 0 [] [.slice F.a F.code.length F.c, .int .i64 (s.k : Nat), .int .u64 s.seed] []] (fun (z : ByteArray × CuS) => z.1 ∈ xs ∧ CuOk (B + 2) z.2) (fun z => .string z.1) (fun z => [.row g 100 0 [] [.slice F.a F.code.length F.c, .int .i64 (z.2.k : Nat), .int .u64 z.2.seed] []]) :=
  cu_fn (C := fun r : ByteArray => r ∈ xs) (v := fun r => .string r) (X := [.sl EStr v xs G]) rfl ok fun w h hX hg => (of_c B g F v xs G w h (by omega) (hX (.sl EStr v xs G) (by simp)).2 h0 h1 (hg (.sl EStr v xs G) (by simp))).mono fun _ _ ⟨r, h1, he, h2, h3⟩ => ⟨r, h1, he, h2, h3⟩
theorem among_f (B g : Nat) (F : CuF) (v : Value) (xs : List Int) (G : List Nat) (s : CuS) (ok : CuOk B s) (hB : B ≤ 1000000000000) (h0 : 0 < xs.length) (h1 : xs.length ≤ 1048576) :
    Fn Tryz.prog 109 [ptr g 0 0, v] [.sl EByte (.slice F.a F.code.length F.c) F.code F.bs, .sl EInt v xs G] [.row g 100 0 [] [.slice F.a F.code.length F.c, .int .i64 (s.k : Nat), .int .u64 s.seed] []] (fun (z : Int × CuS) => z.1 ∈ xs ∧ CuOk (B + 2) z.2) (fun z => .int .i64 z.1) (fun z => [.row g 100 0 [] [.slice F.a F.code.length F.c, .int .i64 (z.2.k : Nat), .int .u64 z.2.seed] []]) :=
  cu_fn (C := fun r : Int => r ∈ xs) (v := fun r => .int .i64 r) (X := [.sl EInt v xs G]) rfl ok fun w h hX hg => (among_c B g F v xs G w h (by omega) (hX (.sl EInt v xs G) (by simp)).2 h0 h1 (hg (.sl EInt v xs G) (by simp))).mono fun _ _ ⟨r, h1, he, h2, h3⟩ => ⟨r, h1, he, h2, h3⟩
end Go.Proofs.YtidephmobajikaaGreatDoor
/- The type Slot of the exact laws: how it reads, how it is owned; the walks of its size, copy, equality, mark and held. Written by wip/gentypes.py. -/
namespace Go.Proofs.YtidephmobajikaaGreatDoor
open Go.RowKit
structure Slot where
  hav : Bool
  item : ByteArray
end Go.Proofs.YtidephmobajikaaGreatDoor
/- The type ReceiveWindow of the exact laws: how it reads, how it is owned; the walks of its size, copy, equality, mark and held. Written by wip/gentypes.py. -/
namespace Go.Proofs.YtidephmobajikaaGreatDoor
open Go.RowKit
structure ReceiveWindow where
  next : Int
  slots : List Slot
end Go.Proofs.YtidephmobajikaaGreatDoor
/- Structs of type ReceiveWindow in a walk's state: opened, closed. -/
namespace Go.Proofs.YtidephmobajikaaGreatDoor
open Go.RowKit
section
variable {c : Cx} {fr : Fr} {H : List Pc} {Φ : Gl}
end
end Go.Proofs.YtidephmobajikaaGreatDoor
/- Structs of type Slot in a walk's state: opened, closed. -/
namespace Go.Proofs.YtidephmobajikaaGreatDoor
open Go.RowKit
section
variable {c : Cx} {fr : Fr} {H : List Pc} {Φ : Gl}
end
end Go.Proofs.YtidephmobajikaaGreatDoor
/- Walks of Go's generic library functions on slices of impl.Slot. Written by wip/genlib.py. -/
namespace Go.Proofs.YtidephmobajikaaGreatDoor
open Go.RowKit
end Go.Proofs.YtidephmobajikaaGreatDoor
/- Receive windows: the check, what is there. -/
namespace Go.Proofs.YtidephmobajikaaGreatDoor
open Go.RowKit
end Go.Proofs.YtidephmobajikaaGreatDoor
/- Receive windows: the reference's check. -/
namespace Go.Proofs.YtidephmobajikaaGreatDoor
open Go.RowKit
end Go.Proofs.YtidephmobajikaaGreatDoor
/- Receive windows: what is released, what is taken. Plain lists. -/
namespace Go.Proofs.YtidephmobajikaaGreatDoor
open Go.RowKit
def plus (s : ByteArray) : ByteArray := ⟨#[43]⟩ ++ s
def rel : Int → List Slot → Int × List Slot × List ByteArray
  | n, [] => (n, [], [])
  | n, s :: r => if s.hav then ((rel (aft n 1) r).1, (rel (aft n 1) r).2.1, plus s.item :: (rel (aft n 1) r).2.2) else (n, s :: r, [])
end Go.Proofs.YtidephmobajikaaGreatDoor
/- Receive windows: the copy, a step, what is released. -/
namespace Go.Proofs.YtidephmobajikaaGreatDoor
open Go.RowKit
end Go.Proofs.YtidephmobajikaaGreatDoor
/- Receive windows: what is released. -/
namespace Go.Proofs.YtidephmobajikaaGreatDoor
open Go.RowKit
def relW (x : ReceiveWindow) : ReceiveWindow := ⟨(rel x.next x.slots).1, (rel x.next x.slots).2.1⟩
def relE (x : ReceiveWindow) : List ByteArray := (rel x.next x.slots).2.2
/-- events so far, the window, where both lie -/
structure RelS where
  es : List ByteArray
  y : ReceiveWindow
  a : Option Addr
  c : Nat
  F : List Nat
  ae : Option Addr
  ce : Nat
  Fe : List Nat
structure RelOk (x : ReceiveWindow) (s : RelS) : Prop where
  n0 : 0 ≤ s.y.next
  n1 : s.y.next ≤ 65535
  it : ∀ z ∈ s.y.slots, z.item.size ≤ 8
  ln : s.es.length + s.y.slots.length ≤ x.slots.length
  w : relW x = relW s.y
  e : relE x = s.es ++ relE s.y
end Go.Proofs.YtidephmobajikaaGreatDoor
/- Receive windows: what is taken, what is given up: in place. -/
namespace Go.Proofs.YtidephmobajikaaGreatDoor
open Go.RowKit
structure PadS where
  j : Nat
  a : Option Addr
  c : Nat
  F : List Nat
end Go.Proofs.YtidephmobajikaaGreatDoor
/- Receive windows: TakeItem and GiveUpTo of the program. -/
namespace Go.Proofs.YtidephmobajikaaGreatDoor
open Go.RowKit
structure GoodRW (x : ReceiveWindow) : Prop where
  n0 : 0 ≤ x.next
  n1 : x.next ≤ 65535
  l : x.slots.length ≤ 8
  it : ∀ s ∈ x.slots, s.item.size ≤ 8
end Go.Proofs.YtidephmobajikaaGreatDoor
/- Receive windows: the reference's. -/
namespace Go.Proofs.YtidephmobajikaaGreatDoor
open Go.RowKit
structure CpS where
  g : Nat
  a : Option Addr
  c : Nat
  F : List Nat
end Go.Proofs.YtidephmobajikaaGreatDoor
/- Receive windows: the reference's taking and giving up. -/
namespace Go.Proofs.YtidephmobajikaaGreatDoor
open Go.RowKit
end Go.Proofs.YtidephmobajikaaGreatDoor
/- Receive windows: the reference's GiveUpTo and TakeItem; the contracts that the laws ask. -/
namespace Go.Proofs.YtidephmobajikaaGreatDoor
open Go.RowKit
end Go.Proofs.YtidephmobajikaaGreatDoor
/- Receive windows: GiveUpTo and TakeItem of the reference; the contracts that the laws ask. -/
namespace Go.Proofs.YtidephmobajikaaGreatDoor
open Go.RowKit
end Go.Proofs.YtidephmobajikaaGreatDoor
/- Receive windows: what is counted, what is there, what is seen; serials. -/
namespace Go.Proofs.YtidephmobajikaaGreatDoor
open Go.RowKit
end Go.Proofs.YtidephmobajikaaGreatDoor
/- Draws, for the engine: serials, letters. -/
namespace Go.Proofs.YtidephmobajikaaGreatDoor
open Go.RowKit
theorem Fn.weak {P : Program} {f : FuncId} {args : List Value} {A M : List Pc} {σ : Type} {C C' : σ → Prop} {v : σ → Value} {N : σ → List Pc} (h : Fn P f args A M C v N) (hC : ∀ s, C s → C' s) : Fn P f args A M C' v N := fun w h1 h2 => (h w h1 h2).mono fun _ _ ⟨s, hc, r⟩ => ⟨s, hC s hc, r⟩
theorem flat_int (w : World) : ∀ xs : List Int, Flat EInt w (xs.map (Value.int .i64)) xs []
  | [] => ⟨rfl, rfl⟩
  | x :: r => ⟨[.int .i64 x], r.map (Value.int .i64), [], [], rfl, rfl, ⟨rfl, rfl⟩, flat_int w r⟩
theorem flat_s (w : World) : ∀ xs : List ByteArray, (∀ x ∈ xs, x.size ≤ maxLen) → Flat EStr w (xs.map Value.string) xs []
  | [], _ => ⟨rfl, rfl⟩
  | x :: r, h => ⟨[.string x], r.map Value.string, [], [], rfl, rfl, ⟨rfl, h x (by simp), rfl⟩, flat_s w r fun y hy => h y (by simp [hy])⟩
set_option maxRecDepth 100000 in
theorem serial_f (B g : Nat) (F : CuF) (s : CuS) (ok : CuOk B s) (hB : B ≤ 900000000000) :
    Fn Tryz.prog 131 [ptr g 0 0] [.sl EByte (.slice F.a F.code.length F.c) F.code F.bs] [.row g 100 0 [] [.slice F.a F.code.length F.c, .int .i64 (s.k : Nat), .int .u64 s.seed] []] (fun (z : Int × CuS) => (0 ≤ z.1 ∧ z.1 ≤ 65535) ∧ CuOk (B + 4) z.2) (fun z => .int .i64 z.1) (fun z => [.row g 100 0 [] [.slice F.a F.code.length F.c, .int .i64 (z.2.k : Nat), .int .u64 z.2.seed] []]) := by
  refine enter Tryz.func131 rfl Tryz.ntmps131 fun w0 => ?_
  repeat (first | apply c_seq | apply c_reg | (apply wO; apply oc; rfl; exact ydE) | apply w_nil | apply n_cd | (apply wg_t; rfl; rfl) | (apply wg_f; rfl; rfl; rfl; rfl) | (apply wg_u; rfl; rfl; rfl) | (apply c_t; rfl) | (apply c_f; rfl) | apply c_skip | apply c_block | apply n_blk | apply c_exit | apply e_hit | apply e_cd | apply e_lp | (apply e_miss; rfl) | apply c_ret | (apply wO; apply o_box; rfl; rfl; rfl; intro _) | (apply wO; apply o_alloc; rfl; intro _) | (apply wO; apply o_st; rfl; rfl; rfl; (first | exact AggC.s | exact OneC.s); rfl; exact rplE; exact putE; rfl) | (apply wO; apply o_bs0; rfl; intro _) | (apply wO; apply o_bs; rfl; rfl; rfl; rfl; exact rptE; exact filE; intro _))
  refine t_row (xs := [0, 1, 100, 32767, 32768, 65535, 65530, 4660]) (fun w => flat_int w _) ?_ (by decide)
  refine t_read (E := EInt) fun G => ?_
  repeat (first | apply c_seq | apply c_reg | (apply wO; apply oc; rfl; exact ydE) | apply w_nil | apply n_cd | (apply wg_t; rfl; rfl) | (apply wg_f; rfl; rfl; rfl; rfl) | (apply wg_u; rfl; rfl; rfl) | (apply c_t; rfl) | (apply c_f; rfl) | apply c_skip | apply c_block | apply n_blk | apply c_exit | apply e_hit | apply e_cd | apply e_lp | (apply e_miss; rfl) | apply c_ret | (apply wO; apply o_box; rfl; rfl; rfl; intro _) | (apply wO; apply o_alloc; rfl; intro _) | (apply wO; apply o_st; rfl; rfl; rfl; (first | exact AggC.s | exact OneC.s); rfl; exact rplE; exact putE; rfl) | (apply wO; apply o_bs0; rfl; intro _) | (apply wO; apply o_bs; rfl; rfl; rfl; rfl; exact rptE; exact filE; intro _) | (apply wO; apply o_call; rfl; kernel_rfl; exact evsE))
  refine cf (among_f B g F _ [0, 1, 100, 32767, 32768, 65535, 65530, 4660] G s ok (by omega) (by decide) (by decide)) fun z hz => ?_
  refine t_app ?_
  obtain ⟨hz1, hz2⟩ := hz
  have hz3 : 0 ≤ z.1 ∧ z.1 ≤ 65535 := by simp only [List.mem_cons, List.not_mem_nil, or_false] at hz1; omega
  repeat (first | apply c_seq | apply c_reg | (apply wO; apply oc; rfl; exact ydE) | apply w_nil | apply n_cd | (apply wg_t; rfl; rfl) | (apply wg_f; rfl; rfl; rfl; rfl) | (apply wg_u; rfl; rfl; rfl) | (apply c_t; rfl) | (apply c_f; rfl) | apply c_skip | apply c_block | apply n_blk | apply c_exit | apply e_hit | apply e_cd | apply e_lp | (apply e_miss; rfl) | apply c_ret | (apply wO; apply o_box; rfl; rfl; rfl; intro _) | (apply wO; apply o_alloc; rfl; intro _) | (apply wO; apply o_st; rfl; rfl; rfl; (first | exact AggC.s | exact OneC.s); rfl; exact rplE; exact putE; rfl) | (apply wO; apply o_bs0; rfl; intro _) | (apply wO; apply o_bs; rfl; rfl; rfl; rfl; exact rptE; exact filE; intro _) | (apply wO; apply o_call; rfl; kernel_rfl; exact evsE))
  refine cf (pick_f (B + 2) g F 12 z.2 hz2 (by omega) (by omega)) fun y hy => ?_
  refine t_app ?_
  obtain ⟨hy1, hy2⟩ := hy
  repeat (first | apply c_seq | apply c_reg | (apply wO; apply oc; rfl; exact ydE) | apply w_nil | apply n_cd | (apply wg_t; rfl; rfl) | (apply wg_f; rfl; rfl; rfl; rfl) | (apply wg_u; rfl; rfl; rfl) | (apply c_t; rfl) | (apply c_f; rfl) | apply c_skip | apply c_block | apply n_blk | apply c_exit | apply e_hit | apply e_cd | apply e_lp | (apply e_miss; rfl) | apply c_ret | (apply wO; apply o_box; rfl; rfl; rfl; intro _) | (apply wO; apply o_alloc; rfl; intro _) | (apply wO; apply o_st; rfl; rfl; rfl; (first | exact AggC.s | exact OneC.s); rfl; exact rplE; exact putE; rfl) | (apply wO; apply o_bs0; rfl; intro _) | (apply wO; apply o_bs; rfl; rfl; rfl; rfl; exact rptE; exact filE; intro _) | (apply wO; apply o_call; rfl; kernel_rfl; exact evsE))
  refine ce (fun w s => l2After_c _ _ _ (by omega) (by omega)) ?_
  repeat (first | apply c_seq | apply c_reg | (apply wO; apply oc; rfl; exact ydE) | apply w_nil | apply n_cd | (apply wg_t; rfl; rfl) | (apply wg_f; rfl; rfl; rfl; rfl) | (apply wg_u; rfl; rfl; rfl) | (apply c_t; rfl) | (apply c_f; rfl) | apply c_skip | apply c_block | apply n_blk | apply c_exit | apply e_hit | apply e_cd | apply e_lp | (apply e_miss; rfl) | apply c_ret | (apply wO; apply o_box; rfl; rfl; rfl; intro _) | (apply wO; apply o_alloc; rfl; intro _) | (apply wO; apply o_st; rfl; rfl; rfl; (first | exact AggC.s | exact OneC.s); rfl; exact rplE; exact putE; rfl) | (apply wO; apply o_bs0; rfl; intro _) | (apply wO; apply o_bs; rfl; rfl; rfl; rfl; exact rptE; exact filE; intro _) | (apply wO; apply o_call; rfl; kernel_rfl; exact evsE))
  refine ret (_, y.2) ⟨aft_bd _ _, hy2⟩ rfl
set_option maxRecDepth 100000 in
theorem anySerialW_f (B g : Nat) (F : CuF) (s : CuS) (ok : CuOk B s) (hB : B ≤ 890000000000) :
    Fn Tryz.prog 108 [ptr g 0 0] [.sl EByte (.slice F.a F.code.length F.c) F.code F.bs] [.row g 100 0 [] [.slice F.a F.code.length F.c, .int .i64 (s.k : Nat), .int .u64 s.seed] []] (fun (z : Int × CuS) => (-1 ≤ z.1 ∧ z.1 ≤ 65536) ∧ CuOk (B + 6) z.2) (fun z => .int .i64 z.1) (fun z => [.row g 100 0 [] [.slice F.a F.code.length F.c, .int .i64 (z.2.k : Nat), .int .u64 z.2.seed] []]) := by
  refine enter Tryz.func108 rfl Tryz.ntmps108 fun w0 => ?_
  repeat (first | apply c_seq | apply c_reg | (apply wO; apply oc; rfl; exact ydE) | apply w_nil | apply n_cd | (apply wg_t; rfl; rfl) | (apply wg_f; rfl; rfl; rfl; rfl) | (apply wg_u; rfl; rfl; rfl) | (apply c_t; rfl) | (apply c_f; rfl) | apply c_skip | apply c_block | apply n_blk | apply c_exit | apply e_hit | apply e_cd | apply e_lp | (apply e_miss; rfl) | apply c_ret | (apply wO; apply o_box; rfl; rfl; rfl; intro _) | (apply wO; apply o_alloc; rfl; intro _) | (apply wO; apply o_st; rfl; rfl; rfl; (first | exact AggC.s | exact OneC.s); rfl; exact rplE; exact putE; rfl) | (apply wO; apply o_bs0; rfl; intro _) | (apply wO; apply o_bs; rfl; rfl; rfl; rfl; exact rptE; exact filE; intro _) | (apply wO; apply o_call; rfl; kernel_rfl; exact evsE))
  refine cf (one_f B g F 20 s ok (by omega) (by omega)) fun q hq => ?_
  refine t_app ?_
  obtain ⟨b, s1⟩ := q
  obtain ⟨-, hq⟩ := hq
  cases b
  · repeat (first | apply c_seq | apply c_reg | (apply wO; apply oc; rfl; exact ydE) | apply w_nil | apply n_cd | (apply wg_t; rfl; rfl) | (apply wg_f; rfl; rfl; rfl; rfl) | (apply wg_u; rfl; rfl; rfl) | (apply c_t; rfl) | (apply c_f; rfl) | apply c_skip | apply c_block | apply n_blk | apply c_exit | apply e_hit | apply e_cd | apply e_lp | (apply e_miss; rfl) | apply c_ret | (apply wO; apply o_box; rfl; rfl; rfl; intro _) | (apply wO; apply o_alloc; rfl; intro _) | (apply wO; apply o_st; rfl; rfl; rfl; (first | exact AggC.s | exact OneC.s); rfl; exact rplE; exact putE; rfl) | (apply wO; apply o_bs0; rfl; intro _) | (apply wO; apply o_bs; rfl; rfl; rfl; rfl; exact rptE; exact filE; intro _) | (apply wO; apply o_call; rfl; kernel_rfl; exact evsE))
    refine cf (serial_f (B + 2) g F s1 hq (by omega)) fun z hz => ?_
    refine t_app ?_
    repeat (first | apply c_seq | apply c_reg | (apply wO; apply oc; rfl; exact ydE) | apply w_nil | apply n_cd | (apply wg_t; rfl; rfl) | (apply wg_f; rfl; rfl; rfl; rfl) | (apply wg_u; rfl; rfl; rfl) | (apply c_t; rfl) | (apply c_f; rfl) | apply c_skip | apply c_block | apply n_blk | apply c_exit | apply e_hit | apply e_cd | apply e_lp | (apply e_miss; rfl) | apply c_ret | (apply wO; apply o_box; rfl; rfl; rfl; intro _) | (apply wO; apply o_alloc; rfl; intro _) | (apply wO; apply o_st; rfl; rfl; rfl; (first | exact AggC.s | exact OneC.s); rfl; exact rplE; exact putE; rfl) | (apply wO; apply o_bs0; rfl; intro _) | (apply wO; apply o_bs; rfl; rfl; rfl; rfl; exact rptE; exact filE; intro _) | (apply wO; apply o_call; rfl; kernel_rfl; exact evsE))
    refine ret z ⟨by have := hz.1; omega, hz.2⟩ rfl
  · repeat (first | apply c_seq | apply c_reg | (apply wO; apply oc; rfl; exact ydE) | apply w_nil | apply n_cd | (apply wg_t; rfl; rfl) | (apply wg_f; rfl; rfl; rfl; rfl) | (apply wg_u; rfl; rfl; rfl) | (apply c_t; rfl) | (apply c_f; rfl) | apply c_skip | apply c_block | apply n_blk | apply c_exit | apply e_hit | apply e_cd | apply e_lp | (apply e_miss; rfl) | apply c_ret | (apply wO; apply o_box; rfl; rfl; rfl; intro _) | (apply wO; apply o_alloc; rfl; intro _) | (apply wO; apply o_st; rfl; rfl; rfl; (first | exact AggC.s | exact OneC.s); rfl; exact rplE; exact putE; rfl) | (apply wO; apply o_bs0; rfl; intro _) | (apply wO; apply o_bs; rfl; rfl; rfl; rfl; exact rptE; exact filE; intro _))
    refine t_row (xs := [-1, 65536, 65535]) (fun w => flat_int w _) ?_ (by decide)
    refine t_read (E := EInt) fun G => ?_
    repeat (first | apply c_seq | apply c_reg | (apply wO; apply oc; rfl; exact ydE) | apply w_nil | apply n_cd | (apply wg_t; rfl; rfl) | (apply wg_f; rfl; rfl; rfl; rfl) | (apply wg_u; rfl; rfl; rfl) | (apply c_t; rfl) | (apply c_f; rfl) | apply c_skip | apply c_block | apply n_blk | apply c_exit | apply e_hit | apply e_cd | apply e_lp | (apply e_miss; rfl) | apply c_ret | (apply wO; apply o_box; rfl; rfl; rfl; intro _) | (apply wO; apply o_alloc; rfl; intro _) | (apply wO; apply o_st; rfl; rfl; rfl; (first | exact AggC.s | exact OneC.s); rfl; exact rplE; exact putE; rfl) | (apply wO; apply o_bs0; rfl; intro _) | (apply wO; apply o_bs; rfl; rfl; rfl; rfl; exact rptE; exact filE; intro _) | (apply wO; apply o_call; rfl; kernel_rfl; exact evsE))
    refine cf (among_f (B + 2) g F _ [-1, 65536, 65535] G s1 hq (by omega) (by decide) (by decide)) fun z hz => ?_
    refine t_app ?_
    repeat (first | apply c_seq | apply c_reg | (apply wO; apply oc; rfl; exact ydE) | apply w_nil | apply n_cd | (apply wg_t; rfl; rfl) | (apply wg_f; rfl; rfl; rfl; rfl) | (apply wg_u; rfl; rfl; rfl) | (apply c_t; rfl) | (apply c_f; rfl) | apply c_skip | apply c_block | apply n_blk | apply c_exit | apply e_hit | apply e_cd | apply e_lp | (apply e_miss; rfl) | apply c_ret | (apply wO; apply o_box; rfl; rfl; rfl; intro _) | (apply wO; apply o_alloc; rfl; intro _) | (apply wO; apply o_st; rfl; rfl; rfl; (first | exact AggC.s | exact OneC.s); rfl; exact rplE; exact putE; rfl) | (apply wO; apply o_bs0; rfl; intro _) | (apply wO; apply o_bs; rfl; rfl; rfl; rfl; exact rptE; exact filE; intro _) | (apply wO; apply o_call; rfl; kernel_rfl; exact evsE))
    refine ret z ⟨by have := hz.1; simp only [List.mem_cons, List.not_mem_nil, or_false] at this; omega, hz.2.mono (by omega)⟩ rfl
theorem anySerial_f (B g : Nat) (F : CuF) (s : CuS) (ok : CuOk B s) (hB : B ≤ 890000000000) :
    Fn Tryz.prog 108 [ptr g 0 0] [.sl EByte (.slice F.a F.code.length F.c) F.code F.bs] [.row g 100 0 [] [.slice F.a F.code.length F.c, .int .i64 (s.k : Nat), .int .u64 s.seed] []] (fun (z : Int × CuS) => CuOk (B + 6) z.2) (fun z => .int .i64 z.1) (fun z => [.row g 100 0 [] [.slice F.a F.code.length F.c, .int .i64 (z.2.k : Nat), .int .u64 z.2.seed] []]) := (anySerialW_f B g F s ok hB).weak fun _ h => h.2
structure LeS where
  r : Nat
  t : ByteArray
  s : CuS
structure LeOk (B r0 : Nat) (z : LeS) : Prop where
  r : z.r ≤ r0
  s : CuOk (B + 2 + 2 * (r0 - z.r)) z.s
  t : z.t.size ≤ r0 - z.r
set_option maxRecDepth 100000 in
theorem letters_f (B g : Nat) (F : CuF) (s : CuS) (n : Int) (ok : CuOk B s) (hB : B ≤ 900000000000) (h0 : 0 ≤ n) (h8 : n ≤ 20) :
    Fn Tryz.prog 133 [ptr g 0 0, .int .i64 n] [.sl EByte (.slice F.a F.code.length F.c) F.code F.bs] [.row g 100 0 [] [.slice F.a F.code.length F.c, .int .i64 (s.k : Nat), .int .u64 s.seed] []] (fun (z : ByteArray × CuS) => z.1.size ≤ 20 ∧ CuOk (B + 42) z.2) (fun z => .string z.1) (fun z => [.row g 100 0 [] [.slice F.a F.code.length F.c, .int .i64 (z.2.k : Nat), .int .u64 z.2.seed] []]) := by
  refine enter Tryz.func133 rfl Tryz.ntmps133 fun w0 => ?_
  repeat (first | apply c_seq | apply c_reg | (apply wO; apply oc; rfl; exact ydE) | apply w_nil | apply n_cd | (apply wg_t; rfl; rfl) | (apply wg_f; rfl; rfl; rfl; rfl) | (apply wg_u; rfl; rfl; rfl) | (apply c_t; rfl) | (apply c_f; rfl) | apply c_skip | apply c_block | apply n_blk | apply c_exit | apply e_hit | apply e_cd | apply e_lp | (apply e_miss; rfl) | apply c_ret | (apply wO; apply o_box; rfl; rfl; rfl; intro _) | (apply wO; apply o_alloc; rfl; intro _) | (apply wO; apply o_st; rfl; rfl; rfl; (first | exact AggC.s | exact OneC.s); rfl; exact rplE; exact putE; rfl) | (apply wO; apply o_bs0; rfl; intro _) | (apply wO; apply o_bs; rfl; rfl; rfl; rfl; exact rptE; exact filE; intro _) | (apply wO; apply o_call; rfl; kernel_rfl; exact evsE))
  refine cf (pick_f B g F (n + 1) s ok (by omega) (by omega)) fun y hy => ?_
  refine t_app ?_
  obtain ⟨r0, s1⟩ := y
  obtain ⟨hy1, hy2⟩ := hy
  dsimp only at hy1 hy2 ⊢
  have hr0 : r0 ≤ 20 := by omega
  repeat (first | apply c_seq | apply c_reg | (apply wO; apply oc; rfl; exact ydE) | apply w_nil | apply n_cd | (apply wg_t; rfl; rfl) | (apply wg_f; rfl; rfl; rfl; rfl) | (apply wg_u; rfl; rfl; rfl) | (apply c_t; rfl) | (apply c_f; rfl) | apply c_skip | apply c_block | apply n_blk | apply c_exit | apply e_hit | apply e_cd | apply e_lp | (apply e_miss; rfl) | apply c_ret | (apply wO; apply o_box; rfl; rfl; rfl; intro _) | (apply wO; apply o_alloc; rfl; intro _) | (apply wO; apply o_st; rfl; rfl; rfl; (first | exact AggC.s | exact OneC.s); rfl; exact rplE; exact putE; rfl) | (apply wO; apply o_bs0; rfl; intro _) | (apply wO; apply o_bs; rfl; rfl; rfl; rfl; exact rptE; exact filE; intro _) | (apply wO; apply o_call; rfl; kernel_rfl; exact evsE))
  refine c_loopS [0, 4] (fun z : LeS => [(5, .string z.t), (6, .int .i64 (z.r : Nat))]) (fun z => [.row g 100 0 [] [.slice F.a F.code.length F.c, .int .i64 (z.s.k : Nat), .int .u64 z.s.seed] []]) (LeOk B r0) (fun z => z.r) ⟨r0, ⟨#[]⟩, s1⟩ ⟨Nat.le_refl _, by simpa using hy2, Nat.zero_le _⟩ fun z hz => ?_
  obtain ⟨z1, z2, z3⟩ := hz
  repeat (first | apply c_seq | apply c_reg | (apply wO; apply oc; rfl; exact ydE) | apply w_nil | apply n_cd | (apply wg_t; rfl; rfl) | (apply wg_f; rfl; rfl; rfl; rfl) | (apply wg_u; rfl; rfl; rfl) | (apply c_t; rfl) | (apply c_f; rfl) | apply c_skip | apply c_block | apply n_blk | apply c_exit | apply e_hit | apply e_cd | apply e_lp | (apply e_miss; rfl) | apply c_ret | (apply wO; apply o_box; rfl; rfl; rfl; intro _) | (apply wO; apply o_alloc; rfl; intro _) | (apply wO; apply o_st; rfl; rfl; rfl; (first | exact AggC.s | exact OneC.s); rfl; exact rplE; exact putE; rfl) | (apply wO; apply o_bs0; rfl; intro _) | (apply wO; apply o_bs; rfl; rfl; rfl; rfl; exact rptE; exact filE; intro _) | (apply wO; apply o_call; rfl; kernel_rfl; exact evsE))
  refine c_if rfl (fun h3 => ?_) (fun h3 => ?_)
  · repeat (first | apply c_seq | apply c_reg | (apply wO; apply oc; rfl; exact ydE) | apply w_nil | apply n_cd | (apply wg_t; rfl; rfl) | (apply wg_f; rfl; rfl; rfl; rfl) | (apply wg_u; rfl; rfl; rfl) | (apply c_t; rfl) | (apply c_f; rfl) | apply c_skip | apply c_block | apply n_blk | apply c_exit | apply e_hit | apply e_cd | apply e_lp | (apply e_miss; rfl) | apply c_ret | (apply wO; apply o_box; rfl; rfl; rfl; intro _) | (apply wO; apply o_alloc; rfl; intro _) | (apply wO; apply o_st; rfl; rfl; rfl; (first | exact AggC.s | exact OneC.s); rfl; exact rplE; exact putE; rfl) | (apply wO; apply o_bs0; rfl; intro _) | (apply wO; apply o_bs; rfl; rfl; rfl; rfl; exact rptE; exact filE; intro _))
    refine t_row (xs := [⟨#[97]⟩, ⟨#[98]⟩, ⟨#[99]⟩, ⟨#[120]⟩, ⟨#[122]⟩]) (fun w => flat_s w _ (by decide)) ?_ (by decide)
    refine t_read (E := EStr) fun G => ?_
    repeat (first | apply c_seq | apply c_reg | (apply wO; apply oc; rfl; exact ydE) | apply w_nil | apply n_cd | (apply wg_t; rfl; rfl) | (apply wg_f; rfl; rfl; rfl; rfl) | (apply wg_u; rfl; rfl; rfl) | (apply c_t; rfl) | (apply c_f; rfl) | apply c_skip | apply c_block | apply n_blk | apply c_exit | apply e_hit | apply e_cd | apply e_lp | (apply e_miss; rfl) | apply c_ret | (apply wO; apply o_box; rfl; rfl; rfl; intro _) | (apply wO; apply o_alloc; rfl; intro _) | (apply wO; apply o_st; rfl; rfl; rfl; (first | exact AggC.s | exact OneC.s); rfl; exact rplE; exact putE; rfl) | (apply wO; apply o_bs0; rfl; intro _) | (apply wO; apply o_bs; rfl; rfl; rfl; rfl; exact rptE; exact filE; intro _) | (apply wO; apply o_call; rfl; kernel_rfl; exact evsE))
    refine cf (of_f _ g F _ [⟨#[97]⟩, ⟨#[98]⟩, ⟨#[99]⟩, ⟨#[120]⟩, ⟨#[122]⟩] G z.s z2 (by omega) (by decide) (by decide)) fun q hq => ?_
    refine t_app ?_
    have hq1 : q.1.size = 1 := by
      have := hq.1
      simp only [List.mem_cons, List.not_mem_nil, or_false] at this
      rcases this with e | e | e | e | e <;> rw [e] <;> rfl
    repeat (first | apply c_seq | apply c_reg | (apply wO; apply oc; rfl; exact ydE) | apply w_nil | apply n_cd | (apply wg_t; rfl; rfl) | (apply wg_f; rfl; rfl; rfl; rfl) | (apply wg_u; rfl; rfl; rfl) | (apply c_t; rfl) | (apply c_f; rfl) | apply c_skip | apply c_block | apply n_blk | apply c_exit | apply e_hit | apply e_cd | apply e_lp | (apply e_miss; rfl) | apply c_ret | (apply wO; apply o_box; rfl; rfl; rfl; intro _) | (apply wO; apply o_alloc; rfl; intro _) | (apply wO; apply o_st; rfl; rfl; rfl; (first | exact AggC.s | exact OneC.s); rfl; exact rplE; exact putE; rfl) | (apply wO; apply o_bs0; rfl; intro _) | (apply wO; apply o_bs; rfl; rfl; rfl; rfl; exact rptE; exact filE; intro _) | (apply wO; apply o_call; rfl; kernel_rfl; exact evsE))
    rw [show ((z.r : Nat) : Int) - 1 = ((z.r - 1 : Nat) : Int) by omega]
    refine n_lp ⟨z.r - 1, z.t ++ q.1, q.2⟩ ⟨by show z.r - 1 ≤ r0; omega, hq.2.mono (by show _ ≤ B + 2 + 2 * (r0 - (z.r - 1)); omega), by show (z.t ++ q.1).size ≤ r0 - (z.r - 1); rw [ByteArray.size_append]; omega⟩ (by show z.r - 1 < _; omega)
  · repeat (first | apply c_seq | apply c_reg | (apply wO; apply oc; rfl; exact ydE) | apply w_nil | apply n_cd | (apply wg_t; rfl; rfl) | (apply wg_f; rfl; rfl; rfl; rfl) | (apply wg_u; rfl; rfl; rfl) | (apply c_t; rfl) | (apply c_f; rfl) | apply c_skip | apply c_block | apply n_blk | apply c_exit | apply e_hit | apply e_cd | apply e_lp | (apply e_miss; rfl) | apply c_ret | (apply wO; apply o_box; rfl; rfl; rfl; intro _) | (apply wO; apply o_alloc; rfl; intro _) | (apply wO; apply o_st; rfl; rfl; rfl; (first | exact AggC.s | exact OneC.s); rfl; exact rplE; exact putE; rfl) | (apply wO; apply o_bs0; rfl; intro _) | (apply wO; apply o_bs; rfl; rfl; rfl; rfl; exact rptE; exact filE; intro _) | (apply wO; apply o_call; rfl; kernel_rfl; exact evsE))
    refine ret (z.t, z.s) ⟨by show z.t.size ≤ 20; omega, z2.mono (by omega)⟩ rfl
end Go.Proofs.YtidephmobajikaaGreatDoor
/- Draws, for the engine: packets. -/
namespace Go.Proofs.YtidephmobajikaaGreatDoor
open Go.RowKit
end Go.Proofs.YtidephmobajikaaGreatDoor
/- Send windows: what is held, answered, told, on both sides. -/
namespace Go.Proofs.YtidephmobajikaaGreatDoor
open Go.RowKit
theorem resHeld_no {x : SendWindow} {n : Int} (h : okHeld x n = false) : resHeld x n = (⟨#[]⟩, false) := by unfold resHeld; rw [h]; rfl
theorem resHeld_yes {x : SendWindow} {n : Int} (h : okHeld x n = true) : resHeld x n = (itemAt x n, true) := by unfold resHeld; rw [h]; rfl
theorem resAnswer_no {x : SendWindow} {p : Packet} (h : okAnswer x p = false) : resAnswer x p = (zPk, false) := by unfold resAnswer; rw [h]; rfl
theorem resAnswer_yes {x : SendWindow} {p : Packet} (h : okAnswer x p = true) : resAnswer x p = (ansP x p.number, true) := by unfold resAnswer; rw [h]; rfl
theorem held_lt {x : SendWindow} {n : Int} (h : heldB x n = true) : (gp x.trail n).toNat < x.items.length := by
  have b := gp_bd x.trail n
  unfold heldB at h
  simp only [decide_eq_true_eq] at h
  omega
theorem itemAt_lt {x : SendWindow} {n : Int} (h : (gp x.trail n).toNat < x.items.length) : itemAt x n = x.items[(gp x.trail n).toNat] := by
  unfold itemAt
  rw [List.getD_eq_getElem?_getD, List.getElem?_eq_getElem h]; rfl
theorem goodPk_num {p : Packet} (h : goodPk p = true) : 0 ≤ p.number ∧ p.number ≤ 65535 := by
  unfold goodPk at h
  simp only [Bool.and_eq_true] at h
  exact isSer_iff.1 h.1.1.1.1.1.2
set_option maxRecDepth 100000 in
theorem HeldItem_f (x : SendWindow) (n : Int) (v : Value) (F : List Nat) : Fn Tryz.prog 33 [v, .int .i64 n] [.isv ESendWindow v x F] [] (fun (_ : Unit) => True) (fun _ => .tuple #[.string (resHeld x n).1, .bool (resHeld x n).2]) (fun _ => []) := by
  refine enter Tryz.func33 rfl Tryz.ntmps33 fun w0 => ?_
  refine openSendWindow ?_
  rintro a1 c1 F1 rfl l1
  repeat (first | apply c_seq | apply c_reg | (apply wO; apply oc; rfl; exact ydE) | apply w_nil | apply n_cd | (apply wg_t; rfl; rfl) | (apply wg_f; rfl; rfl; rfl; rfl) | (apply wg_u; rfl; rfl; rfl) | (apply c_t; rfl) | (apply c_f; rfl) | apply c_skip | apply c_block | apply n_blk | apply c_exit | apply e_hit | apply e_cd | apply e_lp | (apply e_miss; rfl) | apply c_ret | (apply wO; apply o_box; rfl; rfl; rfl; intro _) | (apply wO; apply o_alloc; rfl; intro _) | (apply wO; apply o_st; rfl; rfl; rfl; (first | exact AggC.s | exact OneC.s); rfl; exact rplE; exact putE; rfl) | (apply wO; apply o_bs0; rfl; intro _) | (apply wO; apply o_bs; rfl; rfl; rfl; rfl; exact rptE; exact filE; intro _) | (apply wO; apply o_call; rfl; kernel_rfl; exact evsE))
  refine cb (fun w st => IsValidSendWindow_c _ x _ w (st.get (p := .isv ESendWindow (.agg #[.int .i64 x.trail, .int .i64 x.size, .slice a1 x.items.length c1]) x F) (by simp))) ?_
  cases g1 : goodWin x
  · repeat (first | apply c_seq | apply c_reg | (apply wO; apply oc; rfl; exact ydE) | apply w_nil | apply n_cd | (apply wg_t; rfl; rfl) | (apply wg_f; rfl; rfl; rfl; rfl) | (apply wg_u; rfl; rfl; rfl) | (apply c_t; rfl) | (apply c_f; rfl) | apply c_skip | apply c_block | apply n_blk | apply c_exit | apply e_hit | apply e_cd | apply e_lp | (apply e_miss; rfl) | apply c_ret | (apply wO; apply o_box; rfl; rfl; rfl; intro _) | (apply wO; apply o_alloc; rfl; intro _) | (apply wO; apply o_st; rfl; rfl; rfl; (first | exact AggC.s | exact OneC.s); rfl; exact rplE; exact putE; rfl) | (apply wO; apply o_bs0; rfl; intro _) | (apply wO; apply o_bs; rfl; rfl; rfl; rfl; exact rptE; exact filE; intro _) | (apply wO; apply o_call; rfl; kernel_rfl; exact evsE))
    rw [resHeld_no (by unfold okHeld; rw [g1]; rfl)]
    refine ret () trivial rfl
  obtain ⟨⟨t0, t1⟩, ⟨z0, z1⟩, hl, hi⟩ := goodWin_iff.1 g1
  have hl6 : x.items.length ≤ 6 := by omega
  repeat (first | apply c_seq | apply c_reg | (apply wO; apply oc; rfl; exact ydE) | apply w_nil | apply n_cd | (apply wg_t; rfl; rfl) | (apply wg_f; rfl; rfl; rfl; rfl) | (apply wg_u; rfl; rfl; rfl) | (apply c_t; rfl) | (apply c_f; rfl) | apply c_skip | apply c_block | apply n_blk | apply c_exit | apply e_hit | apply e_cd | apply e_lp | (apply e_miss; rfl) | apply c_ret | (apply wO; apply o_box; rfl; rfl; rfl; intro _) | (apply wO; apply o_alloc; rfl; intro _) | (apply wO; apply o_st; rfl; rfl; rfl; (first | exact AggC.s | exact OneC.s); rfl; exact rplE; exact putE; rfl) | (apply wO; apply o_bs0; rfl; intro _) | (apply wO; apply o_bs; rfl; rfl; rfl; rfl; exact rptE; exact filE; intro _) | (apply wO; apply o_call; rfl; kernel_rfl; exact evsE))
  refine ce (fun w s => IsSerial_c _ _) ?_
  cases g2 : isSer n
  · repeat (first | apply c_seq | apply c_reg | (apply wO; apply oc; rfl; exact ydE) | apply w_nil | apply n_cd | (apply wg_t; rfl; rfl) | (apply wg_f; rfl; rfl; rfl; rfl) | (apply wg_u; rfl; rfl; rfl) | (apply c_t; rfl) | (apply c_f; rfl) | apply c_skip | apply c_block | apply n_blk | apply c_exit | apply e_hit | apply e_cd | apply e_lp | (apply e_miss; rfl) | apply c_ret | (apply wO; apply o_box; rfl; rfl; rfl; intro _) | (apply wO; apply o_alloc; rfl; intro _) | (apply wO; apply o_st; rfl; rfl; rfl; (first | exact AggC.s | exact OneC.s); rfl; exact rplE; exact putE; rfl) | (apply wO; apply o_bs0; rfl; intro _) | (apply wO; apply o_bs; rfl; rfl; rfl; rfl; exact rptE; exact filE; intro _) | (apply wO; apply o_call; rfl; kernel_rfl; exact evsE))
    rw [resHeld_no (by unfold okHeld; rw [g1, g2]; rfl)]
    refine ret () trivial rfl
  obtain ⟨n0, n1⟩ := isSer_iff.1 g2
  repeat (first | apply c_seq | apply c_reg | (apply wO; apply oc; rfl; exact ydE) | apply w_nil | apply n_cd | (apply wg_t; rfl; rfl) | (apply wg_f; rfl; rfl; rfl; rfl) | (apply wg_u; rfl; rfl; rfl) | (apply c_t; rfl) | (apply c_f; rfl) | apply c_skip | apply c_block | apply n_blk | apply c_exit | apply e_hit | apply e_cd | apply e_lp | (apply e_miss; rfl) | apply c_ret | (apply wO; apply o_box; rfl; rfl; rfl; intro _) | (apply wO; apply o_alloc; rfl; intro _) | (apply wO; apply o_st; rfl; rfl; rfl; (first | exact AggC.s | exact OneC.s); rfl; exact rplE; exact putE; rfl) | (apply wO; apply o_bs0; rfl; intro _) | (apply wO; apply o_bs; rfl; rfl; rfl; rfl; exact rptE; exact filE; intro _) | (apply wO; apply o_call; rfl; kernel_rfl; exact evsE))
  refine cb (fun w st => (isHeld_f x n _ F t0 t1 n0 n1).val w (hol1 (st.get (p := .isv ESendWindow (.agg #[.int .i64 x.trail, .int .i64 x.size, .slice a1 x.items.length c1]) x F) (by simp)))) ?_
  cases g3 : heldB x n
  · repeat (first | apply c_seq | apply c_reg | (apply wO; apply oc; rfl; exact ydE) | apply w_nil | apply n_cd | (apply wg_t; rfl; rfl) | (apply wg_f; rfl; rfl; rfl; rfl) | (apply wg_u; rfl; rfl; rfl) | (apply c_t; rfl) | (apply c_f; rfl) | apply c_skip | apply c_block | apply n_blk | apply c_exit | apply e_hit | apply e_cd | apply e_lp | (apply e_miss; rfl) | apply c_ret | (apply wO; apply o_box; rfl; rfl; rfl; intro _) | (apply wO; apply o_alloc; rfl; intro _) | (apply wO; apply o_st; rfl; rfl; rfl; (first | exact AggC.s | exact OneC.s); rfl; exact rplE; exact putE; rfl) | (apply wO; apply o_bs0; rfl; intro _) | (apply wO; apply o_bs; rfl; rfl; rfl; rfl; exact rptE; exact filE; intro _) | (apply wO; apply o_call; rfl; kernel_rfl; exact evsE))
    rw [resHeld_no (by unfold okHeld; rw [g1, g2, g3]; rfl)]
    refine ret () trivial rfl
  rw [resHeld_yes (by unfold okHeld; rw [g1, g2, g3]; rfl)]
  have b := gp_bd x.trail n
  have hk3 := held_lt g3
  rw [itemAt_lt hk3]
  refine at_str (xs := x.items) (gp x.trail n).toNat ?_
  rintro hi b2 o2 e s1
  rw [e]
  repeat (first | apply c_seq | apply c_reg | (apply wO; apply oc; rfl; exact ydE) | apply w_nil | apply n_cd | (apply wg_t; rfl; rfl) | (apply wg_f; rfl; rfl; rfl; rfl) | (apply wg_u; rfl; rfl; rfl) | (apply c_t; rfl) | (apply c_f; rfl) | apply c_skip | apply c_block | apply n_blk | apply c_exit | apply e_hit | apply e_cd | apply e_lp | (apply e_miss; rfl) | apply c_ret | (apply wO; apply o_box; rfl; rfl; rfl; intro _) | (apply wO; apply o_alloc; rfl; intro _) | (apply wO; apply o_st; rfl; rfl; rfl; (first | exact AggC.s | exact OneC.s); rfl; exact rplE; exact putE; rfl) | (apply wO; apply o_bs0; rfl; intro _) | (apply wO; apply o_bs; rfl; rfl; rfl; rfl; exact rptE; exact filE; intro _))
  refine d_start [0, 1] [] ?_
  refine dt 0 ?_
  refine dt 1 ?_
  refine dt 2 ?_
  refine dt 3 ?_
  refine dt 4 ?_
  refine dO 5 (by kernel_rfl) (by rw [List.getElem?_toArray]; rfl) ?_
  apply o_call; rfl; kernel_rfl; exact evsE
  refine ce (fun w s => gap_c _ _ _ (by omega) (by omega) (by omega) (by omega)) ?_
  refine dk ?_
  refine dt 6 ?_
  refine dt 7 ?_
  refine dt 8 ?_
  refine dt 9 ?_
  refine dd ?_
  repeat (first | apply c_seq | apply c_reg | (apply wO; apply oc; rfl; exact ydE) | apply w_nil | apply n_cd | (apply wg_t; rfl; rfl) | (apply wg_f; rfl; rfl; rfl; rfl) | (apply wg_u; rfl; rfl; rfl) | (apply c_t; rfl) | (apply c_f; rfl) | apply c_skip | apply c_block | apply n_blk | apply c_exit | apply e_hit | apply e_cd | apply e_lp | (apply e_miss; rfl) | apply c_ret | (apply wO; apply o_box; rfl; rfl; rfl; intro _) | (apply wO; apply o_alloc; rfl; intro _) | (apply wO; apply o_st; rfl; rfl; rfl; (first | exact AggC.s | exact OneC.s); rfl; exact rplE; exact putE; rfl) | (apply wO; apply o_bs0; rfl; intro _) | (apply wO; apply o_bs; rfl; rfl; rfl; rfl; exact rptE; exact filE; intro _) | (apply wO; apply o_call; rfl; kernel_rfl; exact evsE))
  refine ret () trivial rfl
set_option maxRecDepth 100000 in
theorem l4Good_f (p : Packet) (hs : p.data.size ≤ maxLen) : Fn Tryz.prog 114 [.agg #[.int .i64 p.kind, .int .i64 p.number, .int .i64 p.trail, .int .i64 p.lead, .string p.data]] [] [] (fun (_ : Unit) => True) (fun _ => .bool (goodPk p)) (fun _ => []) := by
  refine enter Tryz.func114 rfl Tryz.ntmps114 fun w0 => ?_
  repeat (first | apply c_seq | apply c_reg | (apply wO; apply oc; rfl; exact ydE) | apply w_nil | apply n_cd | (apply wg_t; rfl; rfl) | (apply wg_f; rfl; rfl; rfl; rfl) | (apply wg_u; rfl; rfl; rfl) | (apply c_t; rfl) | (apply c_f; rfl) | apply c_skip | apply c_block | apply n_blk | apply c_exit | apply e_hit | apply e_cd | apply e_lp | (apply e_miss; rfl) | apply c_ret | (apply wO; apply o_box; rfl; rfl; rfl; intro _) | (apply wO; apply o_alloc; rfl; intro _) | (apply wO; apply o_st; rfl; rfl; rfl; (first | exact AggC.s | exact OneC.s); rfl; exact rplE; exact putE; rfl) | (apply wO; apply o_bs0; rfl; intro _) | (apply wO; apply o_bs; rfl; rfl; rfl; rfl; exact rptE; exact filE; intro _) | (apply wO; apply o_call; rfl; kernel_rfl; exact evsE))
  refine ce (fun w s => l1In_c _ _ _ _) ?_
  cases g1 : btw 1 p.kind 5
  · repeat (first | apply c_seq | apply c_reg | (apply wO; apply oc; rfl; exact ydE) | apply w_nil | apply n_cd | (apply wg_t; rfl; rfl) | (apply wg_f; rfl; rfl; rfl; rfl) | (apply wg_u; rfl; rfl; rfl) | (apply c_t; rfl) | (apply c_f; rfl) | apply c_skip | apply c_block | apply n_blk | apply c_exit | apply e_hit | apply e_cd | apply e_lp | (apply e_miss; rfl) | apply c_ret | (apply wO; apply o_box; rfl; rfl; rfl; intro _) | (apply wO; apply o_alloc; rfl; intro _) | (apply wO; apply o_st; rfl; rfl; rfl; (first | exact AggC.s | exact OneC.s); rfl; exact rplE; exact putE; rfl) | (apply wO; apply o_bs0; rfl; intro _) | (apply wO; apply o_bs; rfl; rfl; rfl; rfl; exact rptE; exact filE; intro _) | (apply wO; apply o_call; rfl; kernel_rfl; exact evsE))
    refine ret () trivial ?_
    show Value.bool _ = Value.bool _; congr 1; unfold goodPk; simp [g1]
  repeat (first | apply c_seq | apply c_reg | (apply wO; apply oc; rfl; exact ydE) | apply w_nil | apply n_cd | (apply wg_t; rfl; rfl) | (apply wg_f; rfl; rfl; rfl; rfl) | (apply wg_u; rfl; rfl; rfl) | (apply c_t; rfl) | (apply c_f; rfl) | apply c_skip | apply c_block | apply n_blk | apply c_exit | apply e_hit | apply e_cd | apply e_lp | (apply e_miss; rfl) | apply c_ret | (apply wO; apply o_box; rfl; rfl; rfl; intro _) | (apply wO; apply o_alloc; rfl; intro _) | (apply wO; apply o_st; rfl; rfl; rfl; (first | exact AggC.s | exact OneC.s); rfl; exact rplE; exact putE; rfl) | (apply wO; apply o_bs0; rfl; intro _) | (apply wO; apply o_bs; rfl; rfl; rfl; rfl; exact rptE; exact filE; intro _) | (apply wO; apply o_call; rfl; kernel_rfl; exact evsE))
  refine ce (fun w s => l2Good_c _ _) ?_
  cases g2 : isSer p.number
  · repeat (first | apply c_seq | apply c_reg | (apply wO; apply oc; rfl; exact ydE) | apply w_nil | apply n_cd | (apply wg_t; rfl; rfl) | (apply wg_f; rfl; rfl; rfl; rfl) | (apply wg_u; rfl; rfl; rfl) | (apply c_t; rfl) | (apply c_f; rfl) | apply c_skip | apply c_block | apply n_blk | apply c_exit | apply e_hit | apply e_cd | apply e_lp | (apply e_miss; rfl) | apply c_ret | (apply wO; apply o_box; rfl; rfl; rfl; intro _) | (apply wO; apply o_alloc; rfl; intro _) | (apply wO; apply o_st; rfl; rfl; rfl; (first | exact AggC.s | exact OneC.s); rfl; exact rplE; exact putE; rfl) | (apply wO; apply o_bs0; rfl; intro _) | (apply wO; apply o_bs; rfl; rfl; rfl; rfl; exact rptE; exact filE; intro _) | (apply wO; apply o_call; rfl; kernel_rfl; exact evsE))
    refine ret () trivial ?_
    show Value.bool _ = Value.bool _; congr 1; unfold goodPk; simp [g2]
  repeat (first | apply c_seq | apply c_reg | (apply wO; apply oc; rfl; exact ydE) | apply w_nil | apply n_cd | (apply wg_t; rfl; rfl) | (apply wg_f; rfl; rfl; rfl; rfl) | (apply wg_u; rfl; rfl; rfl) | (apply c_t; rfl) | (apply c_f; rfl) | apply c_skip | apply c_block | apply n_blk | apply c_exit | apply e_hit | apply e_cd | apply e_lp | (apply e_miss; rfl) | apply c_ret | (apply wO; apply o_box; rfl; rfl; rfl; intro _) | (apply wO; apply o_alloc; rfl; intro _) | (apply wO; apply o_st; rfl; rfl; rfl; (first | exact AggC.s | exact OneC.s); rfl; exact rplE; exact putE; rfl) | (apply wO; apply o_bs0; rfl; intro _) | (apply wO; apply o_bs; rfl; rfl; rfl; rfl; exact rptE; exact filE; intro _) | (apply wO; apply o_call; rfl; kernel_rfl; exact evsE))
  refine ce (fun w s => l2Good_c _ _) ?_
  cases g3 : isSer p.trail
  · repeat (first | apply c_seq | apply c_reg | (apply wO; apply oc; rfl; exact ydE) | apply w_nil | apply n_cd | (apply wg_t; rfl; rfl) | (apply wg_f; rfl; rfl; rfl; rfl) | (apply wg_u; rfl; rfl; rfl) | (apply c_t; rfl) | (apply c_f; rfl) | apply c_skip | apply c_block | apply n_blk | apply c_exit | apply e_hit | apply e_cd | apply e_lp | (apply e_miss; rfl) | apply c_ret | (apply wO; apply o_box; rfl; rfl; rfl; intro _) | (apply wO; apply o_alloc; rfl; intro _) | (apply wO; apply o_st; rfl; rfl; rfl; (first | exact AggC.s | exact OneC.s); rfl; exact rplE; exact putE; rfl) | (apply wO; apply o_bs0; rfl; intro _) | (apply wO; apply o_bs; rfl; rfl; rfl; rfl; exact rptE; exact filE; intro _) | (apply wO; apply o_call; rfl; kernel_rfl; exact evsE))
    refine ret () trivial ?_
    show Value.bool _ = Value.bool _; congr 1; unfold goodPk; simp [g3]
  repeat (first | apply c_seq | apply c_reg | (apply wO; apply oc; rfl; exact ydE) | apply w_nil | apply n_cd | (apply wg_t; rfl; rfl) | (apply wg_f; rfl; rfl; rfl; rfl) | (apply wg_u; rfl; rfl; rfl) | (apply c_t; rfl) | (apply c_f; rfl) | apply c_skip | apply c_block | apply n_blk | apply c_exit | apply e_hit | apply e_cd | apply e_lp | (apply e_miss; rfl) | apply c_ret | (apply wO; apply o_box; rfl; rfl; rfl; intro _) | (apply wO; apply o_alloc; rfl; intro _) | (apply wO; apply o_st; rfl; rfl; rfl; (first | exact AggC.s | exact OneC.s); rfl; exact rplE; exact putE; rfl) | (apply wO; apply o_bs0; rfl; intro _) | (apply wO; apply o_bs; rfl; rfl; rfl; rfl; exact rptE; exact filE; intro _) | (apply wO; apply o_call; rfl; kernel_rfl; exact evsE))
  refine ce (fun w s => l2Good_c _ _) ?_
  cases g4 : isSer p.lead
  · repeat (first | apply c_seq | apply c_reg | (apply wO; apply oc; rfl; exact ydE) | apply w_nil | apply n_cd | (apply wg_t; rfl; rfl) | (apply wg_f; rfl; rfl; rfl; rfl) | (apply wg_u; rfl; rfl; rfl) | (apply c_t; rfl) | (apply c_f; rfl) | apply c_skip | apply c_block | apply n_blk | apply c_exit | apply e_hit | apply e_cd | apply e_lp | (apply e_miss; rfl) | apply c_ret | (apply wO; apply o_box; rfl; rfl; rfl; intro _) | (apply wO; apply o_alloc; rfl; intro _) | (apply wO; apply o_st; rfl; rfl; rfl; (first | exact AggC.s | exact OneC.s); rfl; exact rplE; exact putE; rfl) | (apply wO; apply o_bs0; rfl; intro _) | (apply wO; apply o_bs; rfl; rfl; rfl; rfl; exact rptE; exact filE; intro _) | (apply wO; apply o_call; rfl; kernel_rfl; exact evsE))
    refine ret () trivial ?_
    show Value.bool _ = Value.bool _; congr 1; unfold goodPk; simp [g4]
  obtain ⟨t0, t1⟩ := isSer_iff.1 g3
  obtain ⟨l0, l1⟩ := isSer_iff.1 g4
  repeat (first | apply c_seq | apply c_reg | (apply wO; apply oc; rfl; exact ydE) | apply w_nil | apply n_cd | (apply wg_t; rfl; rfl) | (apply wg_f; rfl; rfl; rfl; rfl) | (apply wg_u; rfl; rfl; rfl) | (apply c_t; rfl) | (apply c_f; rfl) | apply c_skip | apply c_block | apply n_blk | apply c_exit | apply e_hit | apply e_cd | apply e_lp | (apply e_miss; rfl) | apply c_ret | (apply wO; apply o_box; rfl; rfl; rfl; intro _) | (apply wO; apply o_alloc; rfl; intro _) | (apply wO; apply o_st; rfl; rfl; rfl; (first | exact AggC.s | exact OneC.s); rfl; exact rplE; exact putE; rfl) | (apply wO; apply o_bs0; rfl; intro _) | (apply wO; apply o_bs; rfl; rfl; rfl; rfl; exact rptE; exact filE; intro _) | (apply wO; apply o_call; rfl; kernel_rfl; exact evsE))
  refine ce (fun w s => l2Gap_c _ _ _ (by omega) (by omega)) ?_
  repeat (first | apply c_seq | apply c_reg | (apply wO; apply oc; rfl; exact ydE) | apply w_nil | apply n_cd | (apply wg_t; rfl; rfl) | (apply wg_f; rfl; rfl; rfl; rfl) | (apply wg_u; rfl; rfl; rfl) | (apply c_t; rfl) | (apply c_f; rfl) | apply c_skip | apply c_block | apply n_blk | apply c_exit | apply e_hit | apply e_cd | apply e_lp | (apply e_miss; rfl) | apply c_ret | (apply wO; apply o_box; rfl; rfl; rfl; intro _) | (apply wO; apply o_alloc; rfl; intro _) | (apply wO; apply o_st; rfl; rfl; rfl; (first | exact AggC.s | exact OneC.s); rfl; exact rplE; exact putE; rfl) | (apply wO; apply o_bs0; rfl; intro _) | (apply wO; apply o_bs; rfl; rfl; rfl; rfl; exact rptE; exact filE; intro _) | (apply wO; apply o_call; rfl; kernel_rfl; exact evsE))
  refine wg_if rfl rfl (fun h6 => ?_) (fun h6 => ?_)
  · repeat (first | apply c_seq | apply c_reg | (apply wO; apply oc; rfl; exact ydE) | apply w_nil | apply n_cd | (apply wg_t; rfl; rfl) | (apply wg_f; rfl; rfl; rfl; rfl) | (apply wg_u; rfl; rfl; rfl) | (apply c_t; rfl) | (apply c_f; rfl) | apply c_skip | apply c_block | apply n_blk | apply c_exit | apply e_hit | apply e_cd | apply e_lp | (apply e_miss; rfl) | apply c_ret | (apply wO; apply o_box; rfl; rfl; rfl; intro _) | (apply wO; apply o_alloc; rfl; intro _) | (apply wO; apply o_st; rfl; rfl; rfl; (first | exact AggC.s | exact OneC.s); rfl; exact rplE; exact putE; rfl) | (apply wO; apply o_bs0; rfl; intro _) | (apply wO; apply o_bs; rfl; rfl; rfl; rfl; exact rptE; exact filE; intro _) | (apply wO; apply o_call; rfl; kernel_rfl; exact evsE))
    refine ret () trivial ?_
    have h6 : ¬ gp p.trail p.lead ≤ 32767 := by omega
    show Value.bool _ = Value.bool _; congr 1; unfold goodPk; simp [h6]
  have h6 : gp p.trail p.lead ≤ 32767 := by omega
  repeat (first | apply c_seq | apply c_reg | (apply wO; apply oc; rfl; exact ydE) | apply w_nil | apply n_cd | (apply wg_t; rfl; rfl) | (apply wg_f; rfl; rfl; rfl; rfl) | (apply wg_u; rfl; rfl; rfl) | (apply c_t; rfl) | (apply c_f; rfl) | apply c_skip | apply c_block | apply n_blk | apply c_exit | apply e_hit | apply e_cd | apply e_lp | (apply e_miss; rfl) | apply c_ret | (apply wO; apply o_box; rfl; rfl; rfl; intro _) | (apply wO; apply o_alloc; rfl; intro _) | (apply wO; apply o_st; rfl; rfl; rfl; (first | exact AggC.s | exact OneC.s); rfl; exact rplE; exact putE; rfl) | (apply wO; apply o_bs0; rfl; intro _) | (apply wO; apply o_bs; rfl; rfl; rfl; rfl; exact rptE; exact filE; intro _) | (apply wO; apply o_call; rfl; kernel_rfl; exact evsE))
  refine ce (fun w s => l4Letters_c _ _ _ hs) ?_
  rw [show (decide ((p.data.size : Int) ≤ 8) && lows p.data.data.toList) = itm p.data from rfl]
  cases g5 : itm p.data
  · repeat (first | apply c_seq | apply c_reg | (apply wO; apply oc; rfl; exact ydE) | apply w_nil | apply n_cd | (apply wg_t; rfl; rfl) | (apply wg_f; rfl; rfl; rfl; rfl) | (apply wg_u; rfl; rfl; rfl) | (apply c_t; rfl) | (apply c_f; rfl) | apply c_skip | apply c_block | apply n_blk | apply c_exit | apply e_hit | apply e_cd | apply e_lp | (apply e_miss; rfl) | apply c_ret | (apply wO; apply o_box; rfl; rfl; rfl; intro _) | (apply wO; apply o_alloc; rfl; intro _) | (apply wO; apply o_st; rfl; rfl; rfl; (first | exact AggC.s | exact OneC.s); rfl; exact rplE; exact putE; rfl) | (apply wO; apply o_bs0; rfl; intro _) | (apply wO; apply o_bs; rfl; rfl; rfl; rfl; exact rptE; exact filE; intro _) | (apply wO; apply o_call; rfl; kernel_rfl; exact evsE))
    refine ret () trivial ?_
    show Value.bool _ = Value.bool _; congr 1; unfold goodPk; simp [g5]
  repeat (first | apply c_seq | apply c_reg | (apply wO; apply oc; rfl; exact ydE) | apply w_nil | apply n_cd | (apply wg_t; rfl; rfl) | (apply wg_f; rfl; rfl; rfl; rfl) | (apply wg_u; rfl; rfl; rfl) | (apply c_t; rfl) | (apply c_f; rfl) | apply c_skip | apply c_block | apply n_blk | apply c_exit | apply e_hit | apply e_cd | apply e_lp | (apply e_miss; rfl) | apply c_ret | (apply wO; apply o_box; rfl; rfl; rfl; intro _) | (apply wO; apply o_alloc; rfl; intro _) | (apply wO; apply o_st; rfl; rfl; rfl; (first | exact AggC.s | exact OneC.s); rfl; exact rplE; exact putE; rfl) | (apply wO; apply o_bs0; rfl; intro _) | (apply wO; apply o_bs; rfl; rfl; rfl; rfl; exact rptE; exact filE; intro _) | (apply wO; apply o_call; rfl; kernel_rfl; exact evsE))
  refine wg_if rfl rfl (fun h7 => ?_) (fun h7 => ?_)
  · repeat (first | apply c_seq | apply c_reg | (apply wO; apply oc; rfl; exact ydE) | apply w_nil | apply n_cd | (apply wg_t; rfl; rfl) | (apply wg_f; rfl; rfl; rfl; rfl) | (apply wg_u; rfl; rfl; rfl) | (apply c_t; rfl) | (apply c_f; rfl) | apply c_skip | apply c_block | apply n_blk | apply c_exit | apply e_hit | apply e_cd | apply e_lp | (apply e_miss; rfl) | apply c_ret | (apply wO; apply o_box; rfl; rfl; rfl; intro _) | (apply wO; apply o_alloc; rfl; intro _) | (apply wO; apply o_st; rfl; rfl; rfl; (first | exact AggC.s | exact OneC.s); rfl; exact rplE; exact putE; rfl) | (apply wO; apply o_bs0; rfl; intro _) | (apply wO; apply o_bs; rfl; rfl; rfl; rfl; exact rptE; exact filE; intro _) | (apply wO; apply o_call; rfl; kernel_rfl; exact evsE))
    refine ret () trivial ?_
    show Value.bool _ = Value.bool _; congr 1; unfold goodPk; rw [g1, g2, g3, g4, g5, decide_eq_true h6, decide_eq_true h7]; rfl
  repeat (first | apply c_seq | apply c_reg | (apply wO; apply oc; rfl; exact ydE) | apply w_nil | apply n_cd | (apply wg_t; rfl; rfl) | (apply wg_f; rfl; rfl; rfl; rfl) | (apply wg_u; rfl; rfl; rfl) | (apply c_t; rfl) | (apply c_f; rfl) | apply c_skip | apply c_block | apply n_blk | apply c_exit | apply e_hit | apply e_cd | apply e_lp | (apply e_miss; rfl) | apply c_ret | (apply wO; apply o_box; rfl; rfl; rfl; intro _) | (apply wO; apply o_alloc; rfl; intro _) | (apply wO; apply o_st; rfl; rfl; rfl; (first | exact AggC.s | exact OneC.s); rfl; exact rplE; exact putE; rfl) | (apply wO; apply o_bs0; rfl; intro _) | (apply wO; apply o_bs; rfl; rfl; rfl; rfl; exact rptE; exact filE; intro _) | (apply wO; apply o_call; rfl; kernel_rfl; exact evsE))
  refine wg_if rfl rfl (fun h8 => ?_) (fun h8 => ?_)
  · repeat (first | apply c_seq | apply c_reg | (apply wO; apply oc; rfl; exact ydE) | apply w_nil | apply n_cd | (apply wg_t; rfl; rfl) | (apply wg_f; rfl; rfl; rfl; rfl) | (apply wg_u; rfl; rfl; rfl) | (apply c_t; rfl) | (apply c_f; rfl) | apply c_skip | apply c_block | apply n_blk | apply c_exit | apply e_hit | apply e_cd | apply e_lp | (apply e_miss; rfl) | apply c_ret | (apply wO; apply o_box; rfl; rfl; rfl; intro _) | (apply wO; apply o_alloc; rfl; intro _) | (apply wO; apply o_st; rfl; rfl; rfl; (first | exact AggC.s | exact OneC.s); rfl; exact rplE; exact putE; rfl) | (apply wO; apply o_bs0; rfl; intro _) | (apply wO; apply o_bs; rfl; rfl; rfl; rfl; exact rptE; exact filE; intro _) | (apply wO; apply o_call; rfl; kernel_rfl; exact evsE))
    refine ret () trivial ?_
    show Value.bool _ = Value.bool _; congr 1; unfold goodPk; rw [g1, g2, g3, g4, g5, decide_eq_true h6, decide_eq_true h8]; simp
  · repeat (first | apply c_seq | apply c_reg | (apply wO; apply oc; rfl; exact ydE) | apply w_nil | apply n_cd | (apply wg_t; rfl; rfl) | (apply wg_f; rfl; rfl; rfl; rfl) | (apply wg_u; rfl; rfl; rfl) | (apply c_t; rfl) | (apply c_f; rfl) | apply c_skip | apply c_block | apply n_blk | apply c_exit | apply e_hit | apply e_cd | apply e_lp | (apply e_miss; rfl) | apply c_ret | (apply wO; apply o_box; rfl; rfl; rfl; intro _) | (apply wO; apply o_alloc; rfl; intro _) | (apply wO; apply o_st; rfl; rfl; rfl; (first | exact AggC.s | exact OneC.s); rfl; exact rplE; exact putE; rfl) | (apply wO; apply o_bs0; rfl; intro _) | (apply wO; apply o_bs; rfl; rfl; rfl; rfl; exact rptE; exact filE; intro _) | (apply wO; apply o_call; rfl; kernel_rfl; exact evsE))
    refine ret () trivial ?_
    show Value.bool _ = Value.bool _; congr 1; unfold goodPk; rw [g1, g2, g3, g4, g5, decide_eq_true h6, decide_eq_false h7, decide_eq_false h8]; rfl
set_option maxRecDepth 100000 in
theorem specAnswerTo_f (x : SendWindow) (p : Packet) (v : Value) (F : List Nat) (hs : p.data.size ≤ maxLen) : Fn Tryz.prog 173 [v, .agg #[.int .i64 p.kind, .int .i64 p.number, .int .i64 p.trail, .int .i64 p.lead, .string p.data]] [.isv ESendWindow v x F] [] (fun (_ : Unit) => True) (fun _ => .tuple #[.agg #[.int .i64 (resAnswer x p).1.kind, .int .i64 (resAnswer x p).1.number, .int .i64 (resAnswer x p).1.trail, .int .i64 (resAnswer x p).1.lead, .string (resAnswer x p).1.data], .bool (resAnswer x p).2]) (fun _ => []) := by
  refine enter Tryz.func173 rfl Tryz.ntmps173 fun w0 => ?_
  refine openSendWindow ?_
  rintro a1 c1 F1 rfl l1
  repeat (first | apply c_seq | apply c_reg | (apply wO; apply oc; rfl; exact ydE) | apply w_nil | apply n_cd | (apply wg_t; rfl; rfl) | (apply wg_f; rfl; rfl; rfl; rfl) | (apply wg_u; rfl; rfl; rfl) | (apply c_t; rfl) | (apply c_f; rfl) | apply c_skip | apply c_block | apply n_blk | apply c_exit | apply e_hit | apply e_cd | apply e_lp | (apply e_miss; rfl) | apply c_ret | (apply wO; apply o_box; rfl; rfl; rfl; intro _) | (apply wO; apply o_alloc; rfl; intro _) | (apply wO; apply o_st; rfl; rfl; rfl; (first | exact AggC.s | exact OneC.s); rfl; exact rplE; exact putE; rfl) | (apply wO; apply o_bs0; rfl; intro _) | (apply wO; apply o_bs; rfl; rfl; rfl; rfl; exact rptE; exact filE; intro _) | (apply wO; apply o_call; rfl; kernel_rfl; exact evsE))
  refine cb (fun w st => l9Good_c _ x _ w (st.get (p := .isv ESendWindow (.agg #[.int .i64 x.trail, .int .i64 x.size, .slice a1 x.items.length c1]) x F) (by simp))) ?_
  cases g1 : goodWin x
  · repeat (first | apply c_seq | apply c_reg | (apply wO; apply oc; rfl; exact ydE) | apply w_nil | apply n_cd | (apply wg_t; rfl; rfl) | (apply wg_f; rfl; rfl; rfl; rfl) | (apply wg_u; rfl; rfl; rfl) | (apply c_t; rfl) | (apply c_f; rfl) | apply c_skip | apply c_block | apply n_blk | apply c_exit | apply e_hit | apply e_cd | apply e_lp | (apply e_miss; rfl) | apply c_ret | (apply wO; apply o_box; rfl; rfl; rfl; intro _) | (apply wO; apply o_alloc; rfl; intro _) | (apply wO; apply o_st; rfl; rfl; rfl; (first | exact AggC.s | exact OneC.s); rfl; exact rplE; exact putE; rfl) | (apply wO; apply o_bs0; rfl; intro _) | (apply wO; apply o_bs; rfl; rfl; rfl; rfl; exact rptE; exact filE; intro _) | (apply wO; apply o_call; rfl; kernel_rfl; exact evsE))
    rw [resAnswer_no (by unfold okAnswer; rw [g1]; rfl)]
    refine ret () trivial rfl
  obtain ⟨⟨t0, t1⟩, ⟨z0, z1⟩, hl, hi⟩ := goodWin_iff.1 g1
  have hl6 : x.items.length ≤ 6 := by omega
  repeat (first | apply c_seq | apply c_reg | (apply wO; apply oc; rfl; exact ydE) | apply w_nil | apply n_cd | (apply wg_t; rfl; rfl) | (apply wg_f; rfl; rfl; rfl; rfl) | (apply wg_u; rfl; rfl; rfl) | (apply c_t; rfl) | (apply c_f; rfl) | apply c_skip | apply c_block | apply n_blk | apply c_exit | apply e_hit | apply e_cd | apply e_lp | (apply e_miss; rfl) | apply c_ret | (apply wO; apply o_box; rfl; rfl; rfl; intro _) | (apply wO; apply o_alloc; rfl; intro _) | (apply wO; apply o_st; rfl; rfl; rfl; (first | exact AggC.s | exact OneC.s); rfl; exact rplE; exact putE; rfl) | (apply wO; apply o_bs0; rfl; intro _) | (apply wO; apply o_bs; rfl; rfl; rfl; rfl; exact rptE; exact filE; intro _) | (apply wO; apply o_call; rfl; kernel_rfl; exact evsE))
  refine cf (l4Good_f p hs) fun _ _ => ?_
  refine t_app ?_
  cases g2 : goodPk p
  · repeat (first | apply c_seq | apply c_reg | (apply wO; apply oc; rfl; exact ydE) | apply w_nil | apply n_cd | (apply wg_t; rfl; rfl) | (apply wg_f; rfl; rfl; rfl; rfl) | (apply wg_u; rfl; rfl; rfl) | (apply c_t; rfl) | (apply c_f; rfl) | apply c_skip | apply c_block | apply n_blk | apply c_exit | apply e_hit | apply e_cd | apply e_lp | (apply e_miss; rfl) | apply c_ret | (apply wO; apply o_box; rfl; rfl; rfl; intro _) | (apply wO; apply o_alloc; rfl; intro _) | (apply wO; apply o_st; rfl; rfl; rfl; (first | exact AggC.s | exact OneC.s); rfl; exact rplE; exact putE; rfl) | (apply wO; apply o_bs0; rfl; intro _) | (apply wO; apply o_bs; rfl; rfl; rfl; rfl; exact rptE; exact filE; intro _) | (apply wO; apply o_call; rfl; kernel_rfl; exact evsE))
    rw [resAnswer_no (by unfold okAnswer; rw [g1, g2]; rfl)]
    refine ret () trivial rfl
  obtain ⟨n0, n1⟩ := goodPk_num g2
  repeat (first | apply c_seq | apply c_reg | (apply wO; apply oc; rfl; exact ydE) | apply w_nil | apply n_cd | (apply wg_t; rfl; rfl) | (apply wg_f; rfl; rfl; rfl; rfl) | (apply wg_u; rfl; rfl; rfl) | (apply c_t; rfl) | (apply c_f; rfl) | apply c_skip | apply c_block | apply n_blk | apply c_exit | apply e_hit | apply e_cd | apply e_lp | (apply e_miss; rfl) | apply c_ret | (apply wO; apply o_box; rfl; rfl; rfl; intro _) | (apply wO; apply o_alloc; rfl; intro _) | (apply wO; apply o_st; rfl; rfl; rfl; (first | exact AggC.s | exact OneC.s); rfl; exact rplE; exact putE; rfl) | (apply wO; apply o_bs0; rfl; intro _) | (apply wO; apply o_bs; rfl; rfl; rfl; rfl; exact rptE; exact filE; intro _) | (apply wO; apply o_call; rfl; kernel_rfl; exact evsE))
  refine wg_if rfl rfl (fun h3 => ?_) (fun h3 => ?_)
  · repeat (first | apply c_seq | apply c_reg | (apply wO; apply oc; rfl; exact ydE) | apply w_nil | apply n_cd | (apply wg_t; rfl; rfl) | (apply wg_f; rfl; rfl; rfl; rfl) | (apply wg_u; rfl; rfl; rfl) | (apply c_t; rfl) | (apply c_f; rfl) | apply c_skip | apply c_block | apply n_blk | apply c_exit | apply e_hit | apply e_cd | apply e_lp | (apply e_miss; rfl) | apply c_ret | (apply wO; apply o_box; rfl; rfl; rfl; intro _) | (apply wO; apply o_alloc; rfl; intro _) | (apply wO; apply o_st; rfl; rfl; rfl; (first | exact AggC.s | exact OneC.s); rfl; exact rplE; exact putE; rfl) | (apply wO; apply o_bs0; rfl; intro _) | (apply wO; apply o_bs; rfl; rfl; rfl; rfl; exact rptE; exact filE; intro _) | (apply wO; apply o_call; rfl; kernel_rfl; exact evsE))
    rw [resAnswer_no (by unfold okAnswer; rw [g1, g2, decide_eq_false h3]; rfl)]
    refine ret () trivial rfl
  have h3 := Decidable.not_not.1 h3
  repeat (first | apply c_seq | apply c_reg | (apply wO; apply oc; rfl; exact ydE) | apply w_nil | apply n_cd | (apply wg_t; rfl; rfl) | (apply wg_f; rfl; rfl; rfl; rfl) | (apply wg_u; rfl; rfl; rfl) | (apply c_t; rfl) | (apply c_f; rfl) | apply c_skip | apply c_block | apply n_blk | apply c_exit | apply e_hit | apply e_cd | apply e_lp | (apply e_miss; rfl) | apply c_ret | (apply wO; apply o_box; rfl; rfl; rfl; intro _) | (apply wO; apply o_alloc; rfl; intro _) | (apply wO; apply o_st; rfl; rfl; rfl; (first | exact AggC.s | exact OneC.s); rfl; exact rplE; exact putE; rfl) | (apply wO; apply o_bs0; rfl; intro _) | (apply wO; apply o_bs; rfl; rfl; rfl; rfl; exact rptE; exact filE; intro _) | (apply wO; apply o_call; rfl; kernel_rfl; exact evsE))
  refine cb (fun w st => (l9Held_f x p.number _ F t0 t1 n0 n1).val w (hol1 (st.get (p := .isv ESendWindow (.agg #[.int .i64 x.trail, .int .i64 x.size, .slice a1 x.items.length c1]) x F) (by simp)))) ?_
  cases g3 : heldB x p.number
  · repeat (first | apply c_seq | apply c_reg | (apply wO; apply oc; rfl; exact ydE) | apply w_nil | apply n_cd | (apply wg_t; rfl; rfl) | (apply wg_f; rfl; rfl; rfl; rfl) | (apply wg_u; rfl; rfl; rfl) | (apply c_t; rfl) | (apply c_f; rfl) | apply c_skip | apply c_block | apply n_blk | apply c_exit | apply e_hit | apply e_cd | apply e_lp | (apply e_miss; rfl) | apply c_ret | (apply wO; apply o_box; rfl; rfl; rfl; intro _) | (apply wO; apply o_alloc; rfl; intro _) | (apply wO; apply o_st; rfl; rfl; rfl; (first | exact AggC.s | exact OneC.s); rfl; exact rplE; exact putE; rfl) | (apply wO; apply o_bs0; rfl; intro _) | (apply wO; apply o_bs; rfl; rfl; rfl; rfl; exact rptE; exact filE; intro _) | (apply wO; apply o_call; rfl; kernel_rfl; exact evsE))
    rw [resAnswer_no (by unfold okAnswer; rw [g1, g2, g3]; simp)]
    refine ret () trivial rfl
  rw [resAnswer_yes (by unfold okAnswer; rw [g1, g2, g3, decide_eq_true h3]; rfl)]
  have b := gp_bd x.trail p.number
  have hk3 := held_lt g3
  rw [show ansP x p.number = ⟨2, p.number, x.trail, leadW x, x.items[(gp x.trail p.number).toNat]⟩ by unfold ansP; rw [itemAt_lt hk3]]
  refine at_str (xs := x.items) (gp x.trail p.number).toNat ?_
  rintro hi b2 o2 e s1
  rw [e]
  repeat (first | apply c_seq | apply c_reg | (apply wO; apply oc; rfl; exact ydE) | apply w_nil | apply n_cd | (apply wg_t; rfl; rfl) | (apply wg_f; rfl; rfl; rfl; rfl) | (apply wg_u; rfl; rfl; rfl) | (apply c_t; rfl) | (apply c_f; rfl) | apply c_skip | apply c_block | apply n_blk | apply c_exit | apply e_hit | apply e_cd | apply e_lp | (apply e_miss; rfl) | apply c_ret | (apply wO; apply o_box; rfl; rfl; rfl; intro _) | (apply wO; apply o_alloc; rfl; intro _) | (apply wO; apply o_st; rfl; rfl; rfl; (first | exact AggC.s | exact OneC.s); rfl; exact rplE; exact putE; rfl) | (apply wO; apply o_bs0; rfl; intro _) | (apply wO; apply o_bs; rfl; rfl; rfl; rfl; exact rptE; exact filE; intro _))
  refine d_start [0, 2, 3] [] ?_
  refine dt 0 ?_
  refine dt 1 ?_
  refine dt 2 ?_
  refine dt 3 ?_
  refine dt 4 ?_
  refine dt 6 ?_
  refine dt 7 ?_
  refine dt 8 ?_
  refine dt 9 ?_
  refine dt 10 ?_
  refine dt 11 ?_
  refine dO 5 (by kernel_rfl) (by rw [List.getElem?_toArray]; rfl) ?_
  apply o_call; rfl; kernel_rfl; exact evsE
  refine cb (fun w _ => l9Lead_c _ _ _ _ _ w t0 t1 (by omega)) ?_
  refine dk ?_
  refine dO 12 (by kernel_rfl) (by rw [List.getElem?_toArray]; rfl) ?_
  apply o_call; rfl; kernel_rfl; exact evsE
  refine ce (fun w s => l2Gap_c _ _ _ (by omega) (by omega)) ?_
  refine dk ?_
  refine dt 13 ?_
  refine dt 14 ?_
  refine dt 15 ?_
  refine dO 16 (by kernel_rfl) (by rw [List.getElem?_toArray]; rfl) ?_
  apply o_st; rfl; rfl; rfl; (first | exact AggC.s | exact OneC.s); rfl; exact rplE; exact putE; rfl
  refine dk ?_
  refine dt 17 ?_
  refine dd ?_
  repeat (first | apply c_seq | apply c_reg | (apply wO; apply oc; rfl; exact ydE) | apply w_nil | apply n_cd | (apply wg_t; rfl; rfl) | (apply wg_f; rfl; rfl; rfl; rfl) | (apply wg_u; rfl; rfl; rfl) | (apply c_t; rfl) | (apply c_f; rfl) | apply c_skip | apply c_block | apply n_blk | apply c_exit | apply e_hit | apply e_cd | apply e_lp | (apply e_miss; rfl) | apply c_ret | (apply wO; apply o_box; rfl; rfl; rfl; intro _) | (apply wO; apply o_alloc; rfl; intro _) | (apply wO; apply o_st; rfl; rfl; rfl; (first | exact AggC.s | exact OneC.s); rfl; exact rplE; exact putE; rfl) | (apply wO; apply o_bs0; rfl; intro _) | (apply wO; apply o_bs; rfl; rfl; rfl; rfl; exact rptE; exact filE; intro _) | (apply wO; apply o_call; rfl; kernel_rfl; exact evsE))
  refine ret () trivial rfl
end Go.Proofs.YtidephmobajikaaGreatDoor
/- Sources: what a request brings, that sources stay valid; plain laws. -/
namespace Go.Proofs.YtidephmobajikaaGreatDoor
open Go.RowKit
theorem tw_len {α : Type} {p : α → Bool} : ∀ {xs : List α} {k : Nat}, k ≤ xs.length → (∀ j (_ : j < k) (h : j < xs.length), p xs[j] = true) → (∀ h : k < xs.length, p xs[k] = false) → (xs.takeWhile p).length = k
  | [], k, hk, _, _ => by simp at hk; simp [hk]
  | x :: r, 0, _, _, h2 => by have := h2 (by simp); simp at this; simp [this]
  | x :: r, k + 1, hk, h1, h2 => by
    have hx : p x = true := h1 0 (by omega) (by simp)
    rw [List.takeWhile_cons_of_pos hx, List.length_cons, tw_len (xs := r) (k := k) (by simpa using hk) (fun j hj h => by have := h1 (j + 1) (by omega) (by simpa using h); simpa using this) (fun h => by have := h2 (by simpa using h); simpa using this)]
theorem tw_spec {α : Type} {p : α → Bool} : ∀ {xs : List α}, (xs.takeWhile p).length ≤ xs.length ∧ (∀ j (_ : j < (xs.takeWhile p).length) (h : j < xs.length), p xs[j] = true) ∧ ∀ h : (xs.takeWhile p).length < xs.length, p xs[(xs.takeWhile p).length] = false
  | [] => by simp
  | x :: r => by
    cases hx : p x
    · rw [List.takeWhile_cons_of_neg (by simp [hx])]; simp [hx]
    · rw [List.takeWhile_cons_of_pos hx]
      obtain ⟨h1, h2, h3⟩ := tw_spec (p := p) (xs := r)
      refine ⟨by simpa using h1, fun j hj h => ?_, fun h => ?_⟩
      · cases j with
        | zero => simpa using hx
        | succ j => simpa using h2 j (by simpa using hj) (by simpa using h)
      · simpa using h3 (by simpa using h)
def srt (t : Int) (hs : List Hold) : Prop := hs.Pairwise fun a b => gp t a.number < gp t b.number
theorem goodSrc_iff {x : Source} : goodSrc x = true ↔ goodWin x.window = true ∧ isClk x.clock = true ∧ btw 0 x.quiet 3 = true ∧ (∀ h ∈ x.holds, isSer h.number = true ∧ heldB x.window h.number = true ∧ btw (x.clock + 1) h.untl (x.clock + 3) = true) ∧ srt x.window.trail x.holds := by
  unfold goodSrc
  simp only [Bool.and_eq_true, List.all_eq_true, List.mem_range]
  constructor
  · rintro ⟨⟨⟨h1, h2⟩, h3⟩, h4⟩
    refine ⟨h1, h2, h3, fun h hh => ?_, ?_⟩
    · obtain ⟨i, hi, rfl⟩ := List.getElem_of_mem hh
      have := h4 i hi
      rw [chkH_at hi] at this
      simp only [Bool.and_eq_true] at this
      exact ⟨this.1.1.1, this.1.1.2, this.1.2⟩
    · have step : ∀ i (hi : i + 1 < x.holds.length), gp x.window.trail x.holds[i].number < gp x.window.trail x.holds[i + 1].number := fun i hi => by
        have := h4 (i + 1) hi
        rw [chkH_at hi] at this
        simp only [Bool.and_eq_true, Bool.or_eq_true, decide_eq_true_eq, Bool.not_eq_true', decide_eq_false_iff_not] at this
        have h := this.2
        rcases h with h | h
        · omega
        · simpa using h
      refine List.pairwise_iff_getElem.2 fun i j hi hj hij => ?_
      obtain ⟨d, rfl⟩ : ∃ d, j = i + 1 + d := ⟨j - i - 1, by omega⟩
      clear hij
      induction d with
      | zero => exact step i hj
      | succ d ih => exact Int.lt_trans (ih (by omega)) (step (i + 1 + d) hj)
  · rintro ⟨h1, h2, h3, h4, h5⟩
    refine ⟨⟨⟨h1, h2⟩, h3⟩, fun i hi => ?_⟩
    rw [chkH_at hi]
    obtain ⟨a, b, c⟩ := h4 x.holds[i] (List.getElem_mem hi)
    rw [a, b, c]
    simp only [Bool.true_and, Bool.or_eq_true, decide_eq_true_eq, Bool.not_eq_true', decide_eq_false_iff_not]
    rcases Nat.eq_zero_or_pos i with h0 | h0
    · exact .inl h0
    · have := List.pairwise_iff_getElem.1 h5 (i - 1) i (by omega) hi (by omega)
      right; omega
def holdAt (t : Int) (hs : List Hold) (n : Int) : Nat := (hs.takeWhile fun h => decide (gp t h.number < gp t n)).length
def thereB (t : Int) (hs : List Hold) (n : Int) : Bool := match hs[holdAt t hs n]? with | some h => decide (h.number = n) | none => false
def onB (hs : List Hold) (n : Int) : Bool := hs.any fun h => decide (h.number = n)
def addHold (hs : List Hold) (k : Nat) (h : Hold) : List Hold := hs.take k ++ h :: hs.drop k
def confP (W : SendWindow) (n : Int) : Packet := ⟨4, n, W.trail, leadW W, ⟨#[]⟩⟩
def reqSU (x : Source) (n : Int) : Source := if heldB x.window n && !thereB x.window.trail x.holds n then ⟨x.window, x.clock, x.quiet, addHold x.holds (holdAt x.window.trail x.holds n) ⟨n, x.clock + 3⟩⟩ else withU x x.window
def reqP (x : Source) (p : Packet) : List Packet := if heldB x.window p.number then (if thereB x.window.trail x.holds p.number then [confP x.window p.number] else [confP x.window p.number, (resAnswer x.window p).1]) else [statP x.window]
theorem holdAt_le (t : Int) (hs : List Hold) (n : Int) : holdAt t hs n ≤ hs.length := tw_spec.1
/-- in a valid list a serial is there where it would be, if anywhere -/
theorem there_on {t n : Int} {hs : List Hold} (hn : 0 ≤ n ∧ n ≤ 65535) (hser : ∀ h ∈ hs, isSer h.number = true) (hs' : srt t hs) : thereB t hs n = onB hs n := by
  obtain ⟨h1, h2, h3⟩ := tw_spec (p := fun h : Hold => decide (gp t h.number < gp t n)) (xs := hs)
  unfold thereB onB
  have hle := holdAt_le t hs n
  rw [Bool.eq_iff_iff, List.any_eq_true]
  constructor
  · intro h
    split at h
    · rename_i z hz
      exact ⟨z, List.mem_of_getElem? hz, h⟩
    · cases h
  · rintro ⟨z, hz, he⟩
    simp only [decide_eq_true_eq] at he
    obtain ⟨i, hi, rfl⟩ := List.getElem_of_mem hz
    have hk : holdAt t hs n = i := by
      refine tw_len (by omega) (fun j hj h => ?_) (fun h => ?_)
      · have := List.pairwise_iff_getElem.1 hs' j i h hi hj
        simp only [decide_eq_true_eq]; rw [← he]; exact this
      · simp only [decide_eq_false_iff_not]; rw [he]; omega
    rw [hk, List.getElem?_eq_getElem hi]
    simpa using he
theorem good_tick {x : Source} (hg : goodSrc x = true) (hc : x.clock < 9999) : goodSrc (tickS x) = true := by
  obtain ⟨h1, h2, h3, h4, h5⟩ := goodSrc_iff.1 hg
  have hk := clk_bd h2
  refine goodSrc_iff.2 ⟨h1, ?_, ?_, fun z hz => ?_, h5.sublist (List.filter_sublist)⟩
  · unfold tickS isClk btw; simp; omega
  · unfold btw at h3
    simp only [Bool.and_eq_true, decide_eq_true_eq] at h3
    unfold tickS tickQ btw
    dsimp only
    split <;> simp <;> omega
  · unfold tickS keepT at hz
    simp only [List.mem_filter] at hz
    obtain ⟨z1, z2⟩ := hz
    obtain ⟨a, b, c⟩ := h4 z z1
    refine ⟨a, b, ?_⟩
    unfold btw at c ⊢
    simp only [Bool.and_eq_true, decide_eq_true_eq, Bool.not_eq_true', decide_eq_false_iff_not] at c z2 ⊢
    show x.clock + 1 + 1 ≤ z.untl ∧ z.untl ≤ x.clock + 1 + 3
    omega
/-- a window that has moved on -/
theorem good_moved {x : Source} {W : SendWindow} (k : Nat) (q : Int) (hg : goodSrc x = true) (hw : goodWin W = true) (hq : btw 0 q 3 = true) (hk : k ≤ 6) (ht : W.trail = aft x.window.trail k) : goodSrc ⟨W, x.clock, q, keepH W x.holds⟩ = true := by
  obtain ⟨h1, h2, h3, h4, h5⟩ := goodSrc_iff.1 hg
  obtain ⟨-, ⟨z0, z1⟩, hl, -⟩ := goodWin_iff.1 hw
  have key : ∀ n, heldB W n = true → gp x.window.trail n = gp W.trail n + k := fun n hn => by
    unfold heldB at hn
    simp only [decide_eq_true_eq] at hn
    rw [ht] at hn ⊢
    have := gp_bd (aft x.window.trail k) n
    unfold gp aft at *
    omega
  refine goodSrc_iff.2 ⟨hw, h2, hq, fun z hz => ?_, ?_⟩
  · unfold keepH at hz
    simp only [List.mem_filter] at hz
    obtain ⟨a, b, c⟩ := h4 z hz.1
    exact ⟨a, hz.2, c⟩
  · unfold keepH srt
    show List.Pairwise (fun a b => gp W.trail a.number < gp W.trail b.number) (x.holds.filter fun h => heldB W h.number)
    have hp : List.Pairwise (fun a b => gp x.window.trail a.number < gp x.window.trail b.number) (x.holds.filter fun h => heldB W h.number) := h5.sublist (List.filter_sublist)
    refine List.Pairwise.imp_of_mem (fun {a b} ha hb h => ?_) hp
    simp only [List.mem_filter] at ha hb
    have e1 := key _ ha.2
    have e2 := key _ hb.2
    omega
theorem good_trim {x : Source} {n : Int} (h : okTrimSource x n = true) : goodSrc (resTrimSource x n).1 = true := by
  have h0 := h
  unfold okTrimSource at h
  simp only [Bool.and_eq_true] at h
  obtain ⟨hg, hd⟩ := h
  have hw := (goodSrc_iff.1 hg).1
  have hq := (goodSrc_iff.1 hg).2.2.1
  obtain ⟨⟨t0, t1⟩, ⟨z0, z1⟩, hl, hi⟩ := goodWin_iff.1 hw
  have hr : resDropItems x.window n = (⟨aft x.window.trail (gp x.window.trail n), x.window.size, x.window.items.drop (gp x.window.trail n).toNat⟩, gp x.window.trail n, true) := by unfold resDropItems; rw [hd]; rfl
  unfold okDropItems at hd
  simp only [Bool.and_eq_true, decide_eq_true_eq] at hd
  have b := gp_bd x.window.trail n
  unfold resTrimSource
  rw [h0, if_pos rfl, hr]
  refine good_moved (gp x.window.trail n).toNat x.quiet hg (goodWin_iff.2 ⟨aft_bd _ _, ⟨z0, z1⟩, ?_, ?_⟩) hq (by omega) ?_
  · show ((x.window.items.drop _).length : Int) ≤ x.window.size
    rw [List.length_drop]; omega
  · rw [List.all_eq_true] at hi ⊢
    exact fun z hz => hi z (List.mem_of_mem_drop hz)
  · show aft x.window.trail (gp x.window.trail n) = aft x.window.trail ((gp x.window.trail n).toNat : Int)
    congr 1; omega
theorem on_keep (W : SendWindow) (hs : List Hold) (n : Int) : onB (keepH W hs) n = (onB hs n && heldB W n) := by
  unfold onB keepH
  rw [Bool.eq_iff_iff]
  simp only [List.any_eq_true, List.mem_filter, decide_eq_true_eq, Bool.and_eq_true]
  constructor
  · rintro ⟨h, ⟨h1, h2⟩, rfl⟩; exact ⟨⟨h, h1, rfl⟩, h2⟩
  · rintro ⟨⟨h, h1, rfl⟩, h2⟩; exact ⟨h, ⟨h1, h2⟩, rfl⟩
theorem tick3 {x : Source} (hg : goodSrc x = true) : (tickS (tickS (tickS x))).holds = [] := by
  have hb := (goodS_of hg).b
  unfold tickS keepT
  refine List.filter_eq_nil_iff.2 fun z hz => ?_
  simp only [List.mem_filter] at hz
  have := hb z hz.1.1
  have h2 : z.untl ≤ x.clock + 1 + 1 + 1 := by omega
  simp only [decide_eq_true h2]
  simp
end Go.Proofs.YtidephmobajikaaGreatDoor
/- Insertion and search in lists of holds. -/
namespace Go.Proofs.YtidephmobajikaaGreatDoor
open Go.RowKit
theorem rep1_Hold (y : Hold) (w : World) : Flat EHold w [.int .i64 y.number, .int .i64 y.untl] [y] [] := ⟨_, [], [], [], by simp, by simp, ⟨rfl, rfl⟩, rfl, rfl⟩
instance : IntC Tryz.prog 210 .u64 := ⟨Tryz.underlying210⟩

end Go.Proofs.YtidephmobajikaaGreatDoor
/- Sources: RequestTo of the program. -/
namespace Go.Proofs.YtidephmobajikaaGreatDoor
open Go.RowKit
structure ReS where
  a : Option Addr
  c : Nat
  a2 : Option Addr
  c2 : Nat
  F : List Nat
  ae : Option Addr
  ce : Nat
  Fe : List Nat
end Go.Proofs.YtidephmobajikaaGreatDoor
