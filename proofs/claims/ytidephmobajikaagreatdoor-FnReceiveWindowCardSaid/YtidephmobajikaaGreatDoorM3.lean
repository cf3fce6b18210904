/- Part 3 of the proof: 45 texts, one behind the other. -/
import Derived.Test.YtidephmobajikaaGreatDoorShelf
import Derived.Lib.RowBridge
import Derived.Lib.Overlaps
import Derived.Lib.AppendZerosOnto
import Derived.Laws.IdiomCopy
import Derived.Lib.ItoaNum
import Derived.Lib.Bytealg
import Derived.Lib.Strings
import Derived.Lib.LaidTab
import Derived.Lib.ItoaMem
import Derived.WideLaws
import Derived.Test.YtidephmobajikaaGreatDoorM2
/- Draws, for the engine: serials, letters. -/
namespace Go.Proofs.YtidephmobajikaaGreatDoor
open Go.RowKit
theorem Fn.weak {P : Program} {f : FuncId} {args : List Value} {A M : List Pc} {σ : Type} {C C' : σ → Prop} {v : σ → Value} {N : σ → List Pc} (h : Fn P f args A M C v N) (hC : ∀ s, C s → C' s) : Fn P f args A M C' v N := fun w h1 h2 => (h w h1 h2).mono fun _ _ ⟨s, hc, r⟩ => ⟨s, hC s hc, r⟩
theorem flat_int (w : World) : ∀ xs : List Int, Flat EInt w (xs.map (Value.int .i64)) xs []
  | [] => ⟨rfl, rfl⟩
  | x :: r => ⟨[.int .i64 x], r.map (Value.int .i64), [], [], rfl, rfl, ⟨rfl, rfl⟩, flat_int w r⟩
theorem flat_s (w : World) : ∀ xs : List ByteArray, (∀ x ∈ xs, x.size ≤ maxLen) → Flat EStr w (xs.map Value.string) xs []
  | [], _ => ⟨rfl, rfl⟩
  | x :: r, h => ⟨[.string x], r.map Value.string, [], [], rfl, rfl, ⟨rfl, h x (by simp), rfl⟩, flat_s w r fun y hy => h y (by simp [hy])⟩
set_option maxRecDepth 100000 in
theorem serial_f (B g : Nat) (F : CuF) (s : CuS) (ok : CuOk B s) (hB : B ≤ 900000000000) :
    Fn Tryz.prog 131 [ptr g 0 0] [.sl EByte (.slice F.a F.code.length F.c) F.code F.bs] [.row g 100 0 [] [.slice F.a F.code.length F.c, .int .i64 (s.k : Nat), .int .u64 s.seed] []] (fun (z : Int × CuS) => (0 ≤ z.1 ∧ z.1 ≤ 65535) ∧ CuOk (B + 4) z.2) (fun z => .int .i64 z.1) (fun z => [.row g 100 0 [] [.slice F.a F.code.length F.c, .int .i64 (z.2.k : Nat), .int .u64 z.2.seed] []]) := by
  refine enter Tryz.func131 rfl Tryz.ntmps131 fun w0 => ?_
  repeat (first | apply c_seq | apply c_reg | (apply wO; apply oc; rfl; exact ydE) | apply w_nil | apply n_cd | (apply wg_t; rfl; rfl) | (apply wg_f; rfl; rfl; rfl; rfl) | (apply wg_u; rfl; rfl; rfl) | (apply c_t; rfl) | (apply c_f; rfl) | apply c_skip | apply c_block | apply n_blk | apply c_exit | apply e_hit | apply e_cd | apply e_lp | (apply e_miss; rfl) | apply c_ret | (apply wO; apply o_box; rfl; rfl; rfl; intro _) | (apply wO; apply o_alloc; rfl; intro _) | (apply wO; apply o_st; rfl; rfl; rfl; (first | exact AggC.s | exact OneC.s); rfl; exact rplE; exact putE; rfl) | (apply wO; apply o_bs0; rfl; intro _) | (apply wO; apply o_bs; rfl; rfl; rfl; rfl; exact rptE; exact filE; intro _))
  refine t_row (xs := [0, 1, 100, 32767, 32768, 65535, 65530, 4660]) (fun w => flat_int w _) ?_ (by decide)
  refine t_read (E := EInt) fun G => ?_
  repeat (first | apply c_seq | apply c_reg | (apply wO; apply oc; rfl; exact ydE) | apply w_nil | apply n_cd | (apply wg_t; rfl; rfl) | (apply wg_f; rfl; rfl; rfl; rfl) | (apply wg_u; rfl; rfl; rfl) | (apply c_t; rfl) | (apply c_f; rfl) | apply c_skip | apply c_block | apply n_blk | apply c_exit | apply e_hit | apply e_cd | apply e_lp | (apply e_miss; rfl) | apply c_ret | (apply wO; apply o_box; rfl; rfl; rfl; intro _) | (apply wO; apply o_alloc; rfl; intro _) | (apply wO; apply o_st; rfl; rfl; rfl; (first | exact AggC.s | exact OneC.s); rfl; exact rplE; exact putE; rfl) | (apply wO; apply o_bs0; rfl; intro _) | (apply wO; apply o_bs; rfl; rfl; rfl; rfl; exact rptE; exact filE; intro _) | (apply wO; apply o_call; rfl; kernel_rfl; exact evsE))
  refine cf (among_f B g F _ [0, 1, 100, 32767, 32768, 65535, 65530, 4660] G s ok (by omega) (by decide) (by decide)) fun z hz => ?_
  refine t_app ?_
  obtain ⟨hz1, hz2⟩ := hz
  have hz3 : 0 ≤ z.1 ∧ z.1 ≤ 65535 := by simp only [List.mem_cons, List.not_mem_nil, or_false] at hz1; omega
  repeat (first | apply c_seq | apply c_reg | (apply wO; apply oc; rfl; exact ydE) | apply w_nil | apply n_cd | (apply wg_t; rfl; rfl) | (apply wg_f; rfl; rfl; rfl; rfl) | (apply wg_u; rfl; rfl; rfl) | (apply c_t; rfl) | (apply c_f; rfl) | apply c_skip | apply c_block | apply n_blk | apply c_exit | apply e_hit | apply e_cd | apply e_lp | (apply e_miss; rfl) | apply c_ret | (apply wO; apply o_box; rfl; rfl; rfl; intro _) | (apply wO; apply o_alloc; rfl; intro _) | (apply wO; apply o_st; rfl; rfl; rfl; (first | exact AggC.s | exact OneC.s); rfl; exact rplE; exact putE; rfl) | (apply wO; apply o_bs0; rfl; intro _) | (apply wO; apply o_bs; rfl; rfl; rfl; rfl; exact rptE; exact filE; intro _) | (apply wO; apply o_call; rfl; kernel_rfl; exact evsE))
  refine cf (pick_f (B + 2) g F 12 z.2 hz2 (by omega) (by omega)) fun y hy => ?_
  refine t_app ?_
  obtain ⟨hy1, hy2⟩ := hy
  repeat (first | apply c_seq | apply c_reg | (apply wO; apply oc; rfl; exact ydE) | apply w_nil | apply n_cd | (apply wg_t; rfl; rfl) | (apply wg_f; rfl; rfl; rfl; rfl) | (apply wg_u; rfl; rfl; rfl) | (apply c_t; rfl) | (apply c_f; rfl) | apply c_skip | apply c_block | apply n_blk | apply c_exit | apply e_hit | apply e_cd | apply e_lp | (apply e_miss; rfl) | apply c_ret | (apply wO; apply o_box; rfl; rfl; rfl; intro _) | (apply wO; apply o_alloc; rfl; intro _) | (apply wO; apply o_st; rfl; rfl; rfl; (first | exact AggC.s | exact OneC.s); rfl; exact rplE; exact putE; rfl) | (apply wO; apply o_bs0; rfl; intro _) | (apply wO; apply o_bs; rfl; rfl; rfl; rfl; exact rptE; exact filE; intro _) | (apply wO; apply o_call; rfl; kernel_rfl; exact evsE))
  refine ce (fun w s => l2After_c _ _ _ (by omega) (by omega)) ?_
  repeat (first | apply c_seq | apply c_reg | (apply wO; apply oc; rfl; exact ydE) | apply w_nil | apply n_cd | (apply wg_t; rfl; rfl) | (apply wg_f; rfl; rfl; rfl; rfl) | (apply wg_u; rfl; rfl; rfl) | (apply c_t; rfl) | (apply c_f; rfl) | apply c_skip | apply c_block | apply n_blk | apply c_exit | apply e_hit | apply e_cd | apply e_lp | (apply e_miss; rfl) | apply c_ret | (apply wO; apply o_box; rfl; rfl; rfl; intro _) | (apply wO; apply o_alloc; rfl; intro _) | (apply wO; apply o_st; rfl; rfl; rfl; (first | exact AggC.s | exact OneC.s); rfl; exact rplE; exact putE; rfl) | (apply wO; apply o_bs0; rfl; intro _) | (apply wO; apply o_bs; rfl; rfl; rfl; rfl; exact rptE; exact filE; intro _) | (apply wO; apply o_call; rfl; kernel_rfl; exact evsE))
  refine ret (_, y.2) ⟨aft_bd _ _, hy2⟩ rfl
set_option maxRecDepth 100000 in
theorem anySerialW_f (B g : Nat) (F : CuF) (s : CuS) (ok : CuOk B s) (hB : B ≤ 890000000000) :
    Fn Tryz.prog 108 [ptr g 0 0] [.sl EByte (.slice F.a F.code.length F.c) F.code F.bs] [.row g 100 0 [] [.slice F.a F.code.length F.c, .int .i64 (s.k : Nat), .int .u64 s.seed] []] (fun (z : Int × CuS) => (-1 ≤ z.1 ∧ z.1 ≤ 65536) ∧ CuOk (B + 6) z.2) (fun z => .int .i64 z.1) (fun z => [.row g 100 0 [] [.slice F.a F.code.length F.c, .int .i64 (z.2.k : Nat), .int .u64 z.2.seed] []]) := by
  refine enter Tryz.func108 rfl Tryz.ntmps108 fun w0 => ?_
  repeat (first | apply c_seq | apply c_reg | (apply wO; apply oc; rfl; exact ydE) | apply w_nil | apply n_cd | (apply wg_t; rfl; rfl) | (apply wg_f; rfl; rfl; rfl; rfl) | (apply wg_u; rfl; rfl; rfl) | (apply c_t; rfl) | (apply c_f; rfl) | apply c_skip | apply c_block | apply n_blk | apply c_exit | apply e_hit | apply e_cd | apply e_lp | (apply e_miss; rfl) | apply c_ret | (apply wO; apply o_box; rfl; rfl; rfl; intro _) | (apply wO; apply o_alloc; rfl; intro _) | (apply wO; apply o_st; rfl; rfl; rfl; (first | exact AggC.s | exact OneC.s); rfl; exact rplE; exact putE; rfl) | (apply wO; apply o_bs0; rfl; intro _) | (apply wO; apply o_bs; rfl; rfl; rfl; rfl; exact rptE; exact filE; intro _) | (apply wO; apply o_call; rfl; kernel_rfl; exact evsE))
  refine cf (one_f B g F 20 s ok (by omega) (by omega)) fun q hq => ?_
  refine t_app ?_
  obtain ⟨b, s1⟩ := q
  obtain ⟨-, hq⟩ := hq
  cases b
  · repeat (first | apply c_seq | apply c_reg | (apply wO; apply oc; rfl; exact ydE) | apply w_nil | apply n_cd | (apply wg_t; rfl; rfl) | (apply wg_f; rfl; rfl; rfl; rfl) | (apply wg_u; rfl; rfl; rfl) | (apply c_t; rfl) | (apply c_f; rfl) | apply c_skip | apply c_block | apply n_blk | apply c_exit | apply e_hit | apply e_cd | apply e_lp | (apply e_miss; rfl) | apply c_ret | (apply wO; apply o_box; rfl; rfl; rfl; intro _) | (apply wO; apply o_alloc; rfl; intro _) | (apply wO; apply o_st; rfl; rfl; rfl; (first | exact AggC.s | exact OneC.s); rfl; exact rplE; exact putE; rfl) | (apply wO; apply o_bs0; rfl; intro _) | (apply wO; apply o_bs; rfl; rfl; rfl; rfl; exact rptE; exact filE; intro _) | (apply wO; apply o_call; rfl; kernel_rfl; exact evsE))
    refine cf (serial_f (B + 2) g F s1 hq (by omega)) fun z hz => ?_
    refine t_app ?_
    repeat (first | apply c_seq | apply c_reg | (apply wO; apply oc; rfl; exact ydE) | apply w_nil | apply n_cd | (apply wg_t; rfl; rfl) | (apply wg_f; rfl; rfl; rfl; rfl) | (apply wg_u; rfl; rfl; rfl) | (apply c_t; rfl) | (apply c_f; rfl) | apply c_skip | apply c_block | apply n_blk | apply c_exit | apply e_hit | apply e_cd | apply e_lp | (apply e_miss; rfl) | apply c_ret | (apply wO; apply o_box; rfl; rfl; rfl; intro _) | (apply wO; apply o_alloc; rfl; intro _) | (apply wO; apply o_st; rfl; rfl; rfl; (first | exact AggC.s | exact OneC.s); rfl; exact rplE; exact putE; rfl) | (apply wO; apply o_bs0; rfl; intro _) | (apply wO; apply o_bs; rfl; rfl; rfl; rfl; exact rptE; exact filE; intro _) | (apply wO; apply o_call; rfl; kernel_rfl; exact evsE))
    refine ret z ⟨by have := hz.1; omega, hz.2⟩ rfl
  · repeat (first | apply c_seq | apply c_reg | (apply wO; apply oc; rfl; exact ydE) | apply w_nil | apply n_cd | (apply wg_t; rfl; rfl) | (apply wg_f; rfl; rfl; rfl; rfl) | (apply wg_u; rfl; rfl; rfl) | (apply c_t; rfl) | (apply c_f; rfl) | apply c_skip | apply c_block | apply n_blk | apply c_exit | apply e_hit | apply e_cd | apply e_lp | (apply e_miss; rfl) | apply c_ret | (apply wO; apply o_box; rfl; rfl; rfl; intro _) | (apply wO; apply o_alloc; rfl; intro _) | (apply wO; apply o_st; rfl; rfl; rfl; (first | exact AggC.s | exact OneC.s); rfl; exact rplE; exact putE; rfl) | (apply wO; apply o_bs0; rfl; intro _) | (apply wO; apply o_bs; rfl; rfl; rfl; rfl; exact rptE; exact filE; intro _))
    refine t_row (xs := [-1, 65536, 65535]) (fun w => flat_int w _) ?_ (by decide)
    refine t_read (E := EInt) fun G => ?_
    repeat (first | apply c_seq | apply c_reg | (apply wO; apply oc; rfl; exact ydE) | apply w_nil | apply n_cd | (apply wg_t; rfl; rfl) | (apply wg_f; rfl; rfl; rfl; rfl) | (apply wg_u; rfl; rfl; rfl) | (apply c_t; rfl) | (apply c_f; rfl) | apply c_skip | apply c_block | apply n_blk | apply c_exit | apply e_hit | apply e_cd | apply e_lp | (apply e_miss; rfl) | apply c_ret | (apply wO; apply o_box; rfl; rfl; rfl; intro _) | (apply wO; apply o_alloc; rfl; intro _) | (apply wO; apply o_st; rfl; rfl; rfl; (first | exact AggC.s | exact OneC.s); rfl; exact rplE; exact putE; rfl) | (apply wO; apply o_bs0; rfl; intro _) | (apply wO; apply o_bs; rfl; rfl; rfl; rfl; exact rptE; exact filE; intro _) | (apply wO; apply o_call; rfl; kernel_rfl; exact evsE))
    refine cf (among_f (B + 2) g F _ [-1, 65536, 65535] G s1 hq (by omega) (by decide) (by decide)) fun z hz => ?_
    refine t_app ?_
    repeat (first | apply c_seq | apply c_reg | (apply wO; apply oc; rfl; exact ydE) | apply w_nil | apply n_cd | (apply wg_t; rfl; rfl) | (apply wg_f; rfl; rfl; rfl; rfl) | (apply wg_u; rfl; rfl; rfl) | (apply c_t; rfl) | (apply c_f; rfl) | apply c_skip | apply c_block | apply n_blk | apply c_exit | apply e_hit | apply e_cd | apply e_lp | (apply e_miss; rfl) | apply c_ret | (apply wO; apply o_box; rfl; rfl; rfl; intro _) | (apply wO; apply o_alloc; rfl; intro _) | (apply wO; apply o_st; rfl; rfl; rfl; (first | exact AggC.s | exact OneC.s); rfl; exact rplE; exact putE; rfl) | (apply wO; apply o_bs0; rfl; intro _) | (apply wO; apply o_bs; rfl; rfl; rfl; rfl; exact rptE; exact filE; intro _) | (apply wO; apply o_call; rfl; kernel_rfl; exact evsE))
    refine ret z ⟨by have := hz.1; simp only [List.mem_cons, List.not_mem_nil, or_false] at this; omega, hz.2.mono (by omega)⟩ rfl
theorem anySerial_f (B g : Nat) (F : CuF) (s : CuS) (ok : CuOk B s) (hB : B ≤ 890000000000) :
    Fn Tryz.prog 108 [ptr g 0 0] [.sl EByte (.slice F.a F.code.length F.c) F.code F.bs] [.row g 100 0 [] [.slice F.a F.code.length F.c, .int .i64 (s.k : Nat), .int .u64 s.seed] []] (fun (z : Int × CuS) => CuOk (B + 6) z.2) (fun z => .int .i64 z.1) (fun z => [.row g 100 0 [] [.slice F.a F.code.length F.c, .int .i64 (z.2.k : Nat), .int .u64 z.2.seed] []]) := (anySerialW_f B g F s ok hB).weak fun _ h => h.2
set_option maxRecDepth 100000 in
theorem ahead_f (B g : Nat) (F : CuF) (s : CuS) (x : ReceiveWindow) (v : Value) (Fx : List Nat) (ok : CuOk B s) (hB : B ≤ 800000000000) :
    Fn Tryz.prog 65 [ptr g 0 0, v] [.sl EByte (.slice F.a F.code.length F.c) F.code F.bs, .isv EReceiveWindow v x Fx] [.row g 100 0 [] [.slice F.a F.code.length F.c, .int .i64 (s.k : Nat), .int .u64 s.seed] []] (fun (z : Int × CuS) => CuOk (B + 8) z.2) (fun z => .int .i64 z.1) (fun z => [.row g 100 0 [] [.slice F.a F.code.length F.c, .int .i64 (z.2.k : Nat), .int .u64 z.2.seed] []]) := by
  refine enter Tryz.func65 rfl Tryz.ntmps65 fun w0 => ?_
  refine openReceiveWindow ?_
  rintro a1 c1 F1 rfl l1
  repeat (first | apply c_seq | apply c_reg | (apply wO; apply oc; rfl; exact ydE) | apply w_nil | apply n_cd | (apply wg_t; rfl; rfl) | (apply wg_f; rfl; rfl; rfl; rfl) | (apply wg_u; rfl; rfl; rfl) | (apply c_t; rfl) | (apply c_f; rfl) | apply c_skip | apply c_block | apply n_blk | apply c_exit | apply e_hit | apply e_cd | apply e_lp | (apply e_miss; rfl) | apply c_ret | (apply wO; apply o_box; rfl; rfl; rfl; intro _) | (apply wO; apply o_alloc; rfl; intro _) | (apply wO; apply o_st; rfl; rfl; rfl; (first | exact AggC.s | exact OneC.s); rfl; exact rplE; exact putE; rfl) | (apply wO; apply o_bs0; rfl; intro _) | (apply wO; apply o_bs; rfl; rfl; rfl; rfl; exact rptE; exact filE; intro _) | (apply wO; apply o_call; rfl; kernel_rfl; exact evsE))
  refine ce (fun w s => l2Good_c _ _) ?_
  cases g1 : isSer x.next
  · repeat (first | apply c_seq | apply c_reg | (apply wO; apply oc; rfl; exact ydE) | apply w_nil | apply n_cd | (apply wg_t; rfl; rfl) | (apply wg_f; rfl; rfl; rfl; rfl) | (apply wg_u; rfl; rfl; rfl) | (apply c_t; rfl) | (apply c_f; rfl) | apply c_skip | apply c_block | apply n_blk | apply c_exit | apply e_hit | apply e_cd | apply e_lp | (apply e_miss; rfl) | apply c_ret | (apply wO; apply o_box; rfl; rfl; rfl; intro _) | (apply wO; apply o_alloc; rfl; intro _) | (apply wO; apply o_st; rfl; rfl; rfl; (first | exact AggC.s | exact OneC.s); rfl; exact rplE; exact putE; rfl) | (apply wO; apply o_bs0; rfl; intro _) | (apply wO; apply o_bs; rfl; rfl; rfl; rfl; exact rptE; exact filE; intro _) | (apply wO; apply o_call; rfl; kernel_rfl; exact evsE))
    refine cf (anySerial_f B g F s ok (by omega)) fun z hz => ?_
    refine t_app ?_
    repeat (first | apply c_seq | apply c_reg | (apply wO; apply oc; rfl; exact ydE) | apply w_nil | apply n_cd | (apply wg_t; rfl; rfl) | (apply wg_f; rfl; rfl; rfl; rfl) | (apply wg_u; rfl; rfl; rfl) | (apply c_t; rfl) | (apply c_f; rfl) | apply c_skip | apply c_block | apply n_blk | apply c_exit | apply e_hit | apply e_cd | apply e_lp | (apply e_miss; rfl) | apply c_ret | (apply wO; apply o_box; rfl; rfl; rfl; intro _) | (apply wO; apply o_alloc; rfl; intro _) | (apply wO; apply o_st; rfl; rfl; rfl; (first | exact AggC.s | exact OneC.s); rfl; exact rplE; exact putE; rfl) | (apply wO; apply o_bs0; rfl; intro _) | (apply wO; apply o_bs; rfl; rfl; rfl; rfl; exact rptE; exact filE; intro _) | (apply wO; apply o_call; rfl; kernel_rfl; exact evsE))
    refine ret z (hz.mono (by omega)) rfl
  obtain ⟨n0, n1⟩ := isSer_iff.1 g1
  repeat (first | apply c_seq | apply c_reg | (apply wO; apply oc; rfl; exact ydE) | apply w_nil | apply n_cd | (apply wg_t; rfl; rfl) | (apply wg_f; rfl; rfl; rfl; rfl) | (apply wg_u; rfl; rfl; rfl) | (apply c_t; rfl) | (apply c_f; rfl) | apply c_skip | apply c_block | apply n_blk | apply c_exit | apply e_hit | apply e_cd | apply e_lp | (apply e_miss; rfl) | apply c_ret | (apply wO; apply o_box; rfl; rfl; rfl; intro _) | (apply wO; apply o_alloc; rfl; intro _) | (apply wO; apply o_st; rfl; rfl; rfl; (first | exact AggC.s | exact OneC.s); rfl; exact rplE; exact putE; rfl) | (apply wO; apply o_bs0; rfl; intro _) | (apply wO; apply o_bs; rfl; rfl; rfl; rfl; exact rptE; exact filE; intro _) | (apply wO; apply o_call; rfl; kernel_rfl; exact evsE))
  refine cf (one_f B g F 12 s ok (by omega) (by omega)) fun q hq => ?_
  refine t_app ?_
  cases hb : q.1
  · repeat (first | apply c_seq | apply c_reg | (apply wO; apply oc; rfl; exact ydE) | apply w_nil | apply n_cd | (apply wg_t; rfl; rfl) | (apply wg_f; rfl; rfl; rfl; rfl) | (apply wg_u; rfl; rfl; rfl) | (apply c_t; rfl) | (apply c_f; rfl) | apply c_skip | apply c_block | apply n_blk | apply c_exit | apply e_hit | apply e_cd | apply e_lp | (apply e_miss; rfl) | apply c_ret | (apply wO; apply o_box; rfl; rfl; rfl; intro _) | (apply wO; apply o_alloc; rfl; intro _) | (apply wO; apply o_st; rfl; rfl; rfl; (first | exact AggC.s | exact OneC.s); rfl; exact rplE; exact putE; rfl) | (apply wO; apply o_bs0; rfl; intro _) | (apply wO; apply o_bs; rfl; rfl; rfl; rfl; exact rptE; exact filE; intro _) | (apply wO; apply o_call; rfl; kernel_rfl; exact evsE))
    refine d_start [1] [] ?_
    refine dt 0 ?_
    refine dt 1 ?_
    refine dt 2 ?_
    refine dO 3 (by kernel_rfl) (by rw [List.getElem?_toArray]; rfl) ?_
    apply o_call; rfl; kernel_rfl; exact evsE
    refine cf (pick_f (B + 2) g F 12 q.2 hq.2 (by omega) (by omega)) fun y hy => ?_
    refine t_app ?_
    obtain ⟨hy1, hy2⟩ := hy
    refine dk ?_
    refine dt 4 ?_
    refine dO 5 (by kernel_rfl) (by rw [List.getElem?_toArray]; rfl) ?_
    apply o_call; rfl; kernel_rfl; exact evsE
    refine ce (fun w s => l2After_c _ _ _ (by omega) (by omega)) ?_
    refine dk ?_
    refine dt 6 ?_
    refine dd ?_
    repeat (first | apply c_seq | apply c_reg | (apply wO; apply oc; rfl; exact ydE) | apply w_nil | apply n_cd | (apply wg_t; rfl; rfl) | (apply wg_f; rfl; rfl; rfl; rfl) | (apply wg_u; rfl; rfl; rfl) | (apply c_t; rfl) | (apply c_f; rfl) | apply c_skip | apply c_block | apply n_blk | apply c_exit | apply e_hit | apply e_cd | apply e_lp | (apply e_miss; rfl) | apply c_ret | (apply wO; apply o_box; rfl; rfl; rfl; intro _) | (apply wO; apply o_alloc; rfl; intro _) | (apply wO; apply o_st; rfl; rfl; rfl; (first | exact AggC.s | exact OneC.s); rfl; exact rplE; exact putE; rfl) | (apply wO; apply o_bs0; rfl; intro _) | (apply wO; apply o_bs; rfl; rfl; rfl; rfl; exact rptE; exact filE; intro _) | (apply wO; apply o_call; rfl; kernel_rfl; exact evsE))
    refine ret (_, y.2) (hy2.mono (by omega)) rfl
  · repeat (first | apply c_seq | apply c_reg | (apply wO; apply oc; rfl; exact ydE) | apply w_nil | apply n_cd | (apply wg_t; rfl; rfl) | (apply wg_f; rfl; rfl; rfl; rfl) | (apply wg_u; rfl; rfl; rfl) | (apply c_t; rfl) | (apply c_f; rfl) | apply c_skip | apply c_block | apply n_blk | apply c_exit | apply e_hit | apply e_cd | apply e_lp | (apply e_miss; rfl) | apply c_ret | (apply wO; apply o_box; rfl; rfl; rfl; intro _) | (apply wO; apply o_alloc; rfl; intro _) | (apply wO; apply o_st; rfl; rfl; rfl; (first | exact AggC.s | exact OneC.s); rfl; exact rplE; exact putE; rfl) | (apply wO; apply o_bs0; rfl; intro _) | (apply wO; apply o_bs; rfl; rfl; rfl; rfl; exact rptE; exact filE; intro _) | (apply wO; apply o_call; rfl; kernel_rfl; exact evsE))
    refine cf (anySerial_f (B + 2) g F q.2 hq.2 (by omega)) fun z hz => ?_
    refine t_app ?_
    repeat (first | apply c_seq | apply c_reg | (apply wO; apply oc; rfl; exact ydE) | apply w_nil | apply n_cd | (apply wg_t; rfl; rfl) | (apply wg_f; rfl; rfl; rfl; rfl) | (apply wg_u; rfl; rfl; rfl) | (apply c_t; rfl) | (apply c_f; rfl) | apply c_skip | apply c_block | apply n_blk | apply c_exit | apply e_hit | apply e_cd | apply e_lp | (apply e_miss; rfl) | apply c_ret | (apply wO; apply o_box; rfl; rfl; rfl; intro _) | (apply wO; apply o_alloc; rfl; intro _) | (apply wO; apply o_st; rfl; rfl; rfl; (first | exact AggC.s | exact OneC.s); rfl; exact rplE; exact putE; rfl) | (apply wO; apply o_bs0; rfl; intro _) | (apply wO; apply o_bs; rfl; rfl; rfl; rfl; exact rptE; exact filE; intro _) | (apply wO; apply o_call; rfl; kernel_rfl; exact evsE))
    refine ret z hz rfl
structure LeS where
  r : Nat
  t : ByteArray
  s : CuS
structure LeOk (B r0 : Nat) (z : LeS) : Prop where
  r : z.r ≤ r0
  s : CuOk (B + 2 + 2 * (r0 - z.r)) z.s
  t : z.t.size ≤ r0 - z.r
set_option maxRecDepth 100000 in
theorem letters_f (B g : Nat) (F : CuF) (s : CuS) (n : Int) (ok : CuOk B s) (hB : B ≤ 900000000000) (h0 : 0 ≤ n) (h8 : n ≤ 20) :
    Fn Tryz.prog 133 [ptr g 0 0, .int .i64 n] [.sl EByte (.slice F.a F.code.length F.c) F.code F.bs] [.row g 100 0 [] [.slice F.a F.code.length F.c, .int .i64 (s.k : Nat), .int .u64 s.seed] []] (fun (z : ByteArray × CuS) => z.1.size ≤ 20 ∧ CuOk (B + 42) z.2) (fun z => .string z.1) (fun z => [.row g 100 0 [] [.slice F.a F.code.length F.c, .int .i64 (z.2.k : Nat), .int .u64 z.2.seed] []]) := by
  refine enter Tryz.func133 rfl Tryz.ntmps133 fun w0 => ?_
  repeat (first | apply c_seq | apply c_reg | (apply wO; apply oc; rfl; exact ydE) | apply w_nil | apply n_cd | (apply wg_t; rfl; rfl) | (apply wg_f; rfl; rfl; rfl; rfl) | (apply wg_u; rfl; rfl; rfl) | (apply c_t; rfl) | (apply c_f; rfl) | apply c_skip | apply c_block | apply n_blk | apply c_exit | apply e_hit | apply e_cd | apply e_lp | (apply e_miss; rfl) | apply c_ret | (apply wO; apply o_box; rfl; rfl; rfl; intro _) | (apply wO; apply o_alloc; rfl; intro _) | (apply wO; apply o_st; rfl; rfl; rfl; (first | exact AggC.s | exact OneC.s); rfl; exact rplE; exact putE; rfl) | (apply wO; apply o_bs0; rfl; intro _) | (apply wO; apply o_bs; rfl; rfl; rfl; rfl; exact rptE; exact filE; intro _) | (apply wO; apply o_call; rfl; kernel_rfl; exact evsE))
  refine cf (pick_f B g F (n + 1) s ok (by omega) (by omega)) fun y hy => ?_
  refine t_app ?_
  obtain ⟨r0, s1⟩ := y
  obtain ⟨hy1, hy2⟩ := hy
  dsimp only at hy1 hy2 ⊢
  have hr0 : r0 ≤ 20 := by omega
  repeat (first | apply c_seq | apply c_reg | (apply wO; apply oc; rfl; exact ydE) | apply w_nil | apply n_cd | (apply wg_t; rfl; rfl) | (apply wg_f; rfl; rfl; rfl; rfl) | (apply wg_u; rfl; rfl; rfl) | (apply c_t; rfl) | (apply c_f; rfl) | apply c_skip | apply c_block | apply n_blk | apply c_exit | apply e_hit | apply e_cd | apply e_lp | (apply e_miss; rfl) | apply c_ret | (apply wO; apply o_box; rfl; rfl; rfl; intro _) | (apply wO; apply o_alloc; rfl; intro _) | (apply wO; apply o_st; rfl; rfl; rfl; (first | exact AggC.s | exact OneC.s); rfl; exact rplE; exact putE; rfl) | (apply wO; apply o_bs0; rfl; intro _) | (apply wO; apply o_bs; rfl; rfl; rfl; rfl; exact rptE; exact filE; intro _) | (apply wO; apply o_call; rfl; kernel_rfl; exact evsE))
  refine c_loopS [0, 4] (fun z : LeS => [(5, .string z.t), (6, .int .i64 (z.r : Nat))]) (fun z => [.row g 100 0 [] [.slice F.a F.code.length F.c, .int .i64 (z.s.k : Nat), .int .u64 z.s.seed] []]) (LeOk B r0) (fun z => z.r) ⟨r0, ⟨#[]⟩, s1⟩ ⟨Nat.le_refl _, by simpa using hy2, Nat.zero_le _⟩ fun z hz => ?_
  obtain ⟨z1, z2, z3⟩ := hz
  repeat (first | apply c_seq | apply c_reg | (apply wO; apply oc; rfl; exact ydE) | apply w_nil | apply n_cd | (apply wg_t; rfl; rfl) | (apply wg_f; rfl; rfl; rfl; rfl) | (apply wg_u; rfl; rfl; rfl) | (apply c_t; rfl) | (apply c_f; rfl) | apply c_skip | apply c_block | apply n_blk | apply c_exit | apply e_hit | apply e_cd | apply e_lp | (apply e_miss; rfl) | apply c_ret | (apply wO; apply o_box; rfl; rfl; rfl; intro _) | (apply wO; apply o_alloc; rfl; intro _) | (apply wO; apply o_st; rfl; rfl; rfl; (first | exact AggC.s | exact OneC.s); rfl; exact rplE; exact putE; rfl) | (apply wO; apply o_bs0; rfl; intro _) | (apply wO; apply o_bs; rfl; rfl; rfl; rfl; exact rptE; exact filE; intro _) | (apply wO; apply o_call; rfl; kernel_rfl; exact evsE))
  refine c_if rfl (fun h3 => ?_) (fun h3 => ?_)
  · repeat (first | apply c_seq | apply c_reg | (apply wO; apply oc; rfl; exact ydE) | apply w_nil | apply n_cd | (apply wg_t; rfl; rfl) | (apply wg_f; rfl; rfl; rfl; rfl) | (apply wg_u; rfl; rfl; rfl) | (apply c_t; rfl) | (apply c_f; rfl) | apply c_skip | apply c_block | apply n_blk | apply c_exit | apply e_hit | apply e_cd | apply e_lp | (apply e_miss; rfl) | apply c_ret | (apply wO; apply o_box; rfl; rfl; rfl; intro _) | (apply wO; apply o_alloc; rfl; intro _) | (apply wO; apply o_st; rfl; rfl; rfl; (first | exact AggC.s | exact OneC.s); rfl; exact rplE; exact putE; rfl) | (apply wO; apply o_bs0; rfl; intro _) | (apply wO; apply o_bs; rfl; rfl; rfl; rfl; exact rptE; exact filE; intro _))
    refine t_row (xs := [⟨#[97]⟩, ⟨#[98]⟩, ⟨#[99]⟩, ⟨#[120]⟩, ⟨#[122]⟩]) (fun w => flat_s w _ (by decide)) ?_ (by decide)
    refine t_read (E := EStr) fun G => ?_
    repeat (first | apply c_seq | apply c_reg | (apply wO; apply oc; rfl; exact ydE) | apply w_nil | apply n_cd | (apply wg_t; rfl; rfl) | (apply wg_f; rfl; rfl; rfl; rfl) | (apply wg_u; rfl; rfl; rfl) | (apply c_t; rfl) | (apply c_f; rfl) | apply c_skip | apply c_block | apply n_blk | apply c_exit | apply e_hit | apply e_cd | apply e_lp | (apply e_miss; rfl) | apply c_ret | (apply wO; apply o_box; rfl; rfl; rfl; intro _) | (apply wO; apply o_alloc; rfl; intro _) | (apply wO; apply o_st; rfl; rfl; rfl; (first | exact AggC.s | exact OneC.s); rfl; exact rplE; exact putE; rfl) | (apply wO; apply o_bs0; rfl; intro _) | (apply wO; apply o_bs; rfl; rfl; rfl; rfl; exact rptE; exact filE; intro _) | (apply wO; apply o_call; rfl; kernel_rfl; exact evsE))
    refine cf (of_f _ g F _ [⟨#[97]⟩, ⟨#[98]⟩, ⟨#[99]⟩, ⟨#[120]⟩, ⟨#[122]⟩] G z.s z2 (by omega) (by decide) (by decide)) fun q hq => ?_
    refine t_app ?_
    have hq1 : q.1.size = 1 := by
      have := hq.1
      simp only [List.mem_cons, List.not_mem_nil, or_false] at this
      rcases this with e | e | e | e | e <;> rw [e] <;> rfl
    repeat (first | apply c_seq | apply c_reg | (apply wO; apply oc; rfl; exact ydE) | apply w_nil | apply n_cd | (apply wg_t; rfl; rfl) | (apply wg_f; rfl; rfl; rfl; rfl) | (apply wg_u; rfl; rfl; rfl) | (apply c_t; rfl) | (apply c_f; rfl) | apply c_skip | apply c_block | apply n_blk | apply c_exit | apply e_hit | apply e_cd | apply e_lp | (apply e_miss; rfl) | apply c_ret | (apply wO; apply o_box; rfl; rfl; rfl; intro _) | (apply wO; apply o_alloc; rfl; intro _) | (apply wO; apply o_st; rfl; rfl; rfl; (first | exact AggC.s | exact OneC.s); rfl; exact rplE; exact putE; rfl) | (apply wO; apply o_bs0; rfl; intro _) | (apply wO; apply o_bs; rfl; rfl; rfl; rfl; exact rptE; exact filE; intro _) | (apply wO; apply o_call; rfl; kernel_rfl; exact evsE))
    rw [show ((z.r : Nat) : Int) - 1 = ((z.r - 1 : Nat) : Int) by omega]
    refine n_lp ⟨z.r - 1, z.t ++ q.1, q.2⟩ ⟨by show z.r - 1 ≤ r0; omega, hq.2.mono (by show _ ≤ B + 2 + 2 * (r0 - (z.r - 1)); omega), by show (z.t ++ q.1).size ≤ r0 - (z.r - 1); rw [ByteArray.size_append]; omega⟩ (by show z.r - 1 < _; omega)
  · repeat (first | apply c_seq | apply c_reg | (apply wO; apply oc; rfl; exact ydE) | apply w_nil | apply n_cd | (apply wg_t; rfl; rfl) | (apply wg_f; rfl; rfl; rfl; rfl) | (apply wg_u; rfl; rfl; rfl) | (apply c_t; rfl) | (apply c_f; rfl) | apply c_skip | apply c_block | apply n_blk | apply c_exit | apply e_hit | apply e_cd | apply e_lp | (apply e_miss; rfl) | apply c_ret | (apply wO; apply o_box; rfl; rfl; rfl; intro _) | (apply wO; apply o_alloc; rfl; intro _) | (apply wO; apply o_st; rfl; rfl; rfl; (first | exact AggC.s | exact OneC.s); rfl; exact rplE; exact putE; rfl) | (apply wO; apply o_bs0; rfl; intro _) | (apply wO; apply o_bs; rfl; rfl; rfl; rfl; exact rptE; exact filE; intro _) | (apply wO; apply o_call; rfl; kernel_rfl; exact evsE))
    refine ret (z.t, z.s) ⟨by show z.t.size ≤ 20; omega, z2.mono (by omega)⟩ rfl
end Go.Proofs.YtidephmobajikaaGreatDoor
/- Draws, for the engine: receive windows. -/
namespace Go.Proofs.YtidephmobajikaaGreatDoor
open Go.RowKit
structure DwS where
  y : ReceiveWindow
  i : Nat
  a : Option Addr
  c : Nat
  F : List Nat
  s : CuS
structure DwOk (B r0 : Nat) (z : DwS) : Prop where
  l : z.y.slots.length = z.i
  i : z.i ≤ r0
  s : CuOk (B + 6 + 50 * z.i) z.s
structure DjS where
  y : ReceiveWindow
  a : Option Addr
  c : Nat
  F : List Nat
  s : CuS
structure DjOk (B : Nat) (z : DjS) : Prop where
  l : z.y.slots.length ≤ 8
  s : CuOk (B + 500) z.s
set_option maxRecDepth 100000 in
theorem drawRW_f (B g : Nat) (F : CuF) (s : CuS) (ok : CuOk B s) (hB : B ≤ 800000000000) :
    Fn Tryz.prog 64 [ptr g 0 0] [.sl EByte (.slice F.a F.code.length F.c) F.code F.bs] [.row g 100 0 [] [.slice F.a F.code.length F.c, .int .i64 (s.k : Nat), .int .u64 s.seed] []] (fun (z : DjS) => CuOk (B + 1000) z.s) (fun s => .agg #[.int .i64 s.y.next, .slice s.a s.y.slots.length s.c])
      (fun s => [.isv EReceiveWindow (.agg #[.int .i64 s.y.next, .slice s.a s.y.slots.length s.c]) s.y s.F, .row g 100 0 [] [.slice F.a F.code.length F.c, .int .i64 (s.s.k : Nat), .int .u64 s.s.seed] []]) := by
  refine enter Tryz.func64 rfl Tryz.ntmps64 fun w0 => ?_
  refine t_nilow ESlot 113 ?_
  repeat (first | apply c_seq | apply c_reg | (apply wO; apply oc; rfl; exact ydE) | apply w_nil | apply n_cd | (apply wg_t; rfl; rfl) | (apply wg_f; rfl; rfl; rfl; rfl) | (apply wg_u; rfl; rfl; rfl) | (apply c_t; rfl) | (apply c_f; rfl) | apply c_skip | apply c_block | apply n_blk | apply c_exit | apply e_hit | apply e_cd | apply e_lp | (apply e_miss; rfl) | apply c_ret | (apply wO; apply o_box; rfl; rfl; rfl; intro _) | (apply wO; apply o_alloc; rfl; intro _) | (apply wO; apply o_st; rfl; rfl; rfl; (first | exact AggC.s | exact OneC.s); rfl; exact rplE; exact putE; rfl) | (apply wO; apply o_bs0; rfl; intro _) | (apply wO; apply o_bs; rfl; rfl; rfl; rfl; exact rptE; exact filE; intro _) | (apply wO; apply o_call; rfl; kernel_rfl; exact evsE))
  refine cf (serial_f B g F s ok (by omega)) fun n hn => ?_
  refine t_app ?_
  obtain ⟨hn1, hn2⟩ := hn
  repeat (first | apply c_seq | apply c_reg | (apply wO; apply oc; rfl; exact ydE) | apply w_nil | apply n_cd | (apply wg_t; rfl; rfl) | (apply wg_f; rfl; rfl; rfl; rfl) | (apply wg_u; rfl; rfl; rfl) | (apply c_t; rfl) | (apply c_f; rfl) | apply c_skip | apply c_block | apply n_blk | apply c_exit | apply e_hit | apply e_cd | apply e_lp | (apply e_miss; rfl) | apply c_ret | (apply wO; apply o_box; rfl; rfl; rfl; intro _) | (apply wO; apply o_alloc; rfl; intro _) | (apply wO; apply o_st; rfl; rfl; rfl; (first | exact AggC.s | exact OneC.s); rfl; exact rplE; exact putE; rfl) | (apply wO; apply o_bs0; rfl; intro _) | (apply wO; apply o_bs; rfl; rfl; rfl; rfl; exact rptE; exact filE; intro _) | (apply wO; apply o_call; rfl; kernel_rfl; exact evsE))
  rename_i gg
  refine cf (pick_f (B + 4) g F 8 n.2 hn2 (by omega) (by omega)) fun y hy => ?_
  refine t_app ?_
  obtain ⟨r0, s1⟩ := y
  obtain ⟨hy1, hy2⟩ := hy
  dsimp only at hy1 hy2 ⊢
  have hr0 : r0 ≤ 8 := by omega
  repeat (first | apply c_seq | apply c_reg | (apply wO; apply oc; rfl; exact ydE) | apply w_nil | apply n_cd | (apply wg_t; rfl; rfl) | (apply wg_f; rfl; rfl; rfl; rfl) | (apply wg_u; rfl; rfl; rfl) | (apply c_t; rfl) | (apply c_f; rfl) | apply c_skip | apply c_block | apply n_blk | apply c_exit | apply e_hit | apply e_cd | apply e_lp | (apply e_miss; rfl) | apply c_ret | (apply wO; apply o_box; rfl; rfl; rfl; intro _) | (apply wO; apply o_alloc; rfl; intro _) | (apply wO; apply o_st; rfl; rfl; rfl; (first | exact AggC.s | exact OneC.s); rfl; exact rplE; exact putE; rfl) | (apply wO; apply o_bs0; rfl; intro _) | (apply wO; apply o_bs; rfl; rfl; rfl; rfl; exact rptE; exact filE; intro _) | (apply wO; apply o_call; rfl; kernel_rfl; exact evsE))
  refine c_joinS [0, 2] [2, 4] (fun _ : DjS => [(3, ptr gg 0 0)]) (fun z => [.row gg 26 0 [] [.int .i64 z.y.next, .slice z.a z.y.slots.length z.c] [], .ow ESlot 113 (.slice z.a z.y.slots.length z.c) z.y.slots z.F, .row g 100 0 [] [.slice F.a F.code.length F.c, .int .i64 (z.s.k : Nat), .int .u64 z.s.seed] []]) (DjOk B) ?_ fun z hz => ?_
  · refine c_if rfl (fun h1 => ?_) (fun h1 => ?_)
    · repeat (first | apply c_seq | apply c_reg | (apply wO; apply oc; rfl; exact ydE) | apply w_nil | apply n_cd | (apply wg_t; rfl; rfl) | (apply wg_f; rfl; rfl; rfl; rfl) | (apply wg_u; rfl; rfl; rfl) | (apply c_t; rfl) | (apply c_f; rfl) | apply c_skip | apply c_block | apply n_blk | apply c_exit | apply e_hit | apply e_cd | apply e_lp | (apply e_miss; rfl) | apply c_ret | (apply wO; apply o_box; rfl; rfl; rfl; intro _) | (apply wO; apply o_alloc; rfl; intro _) | (apply wO; apply o_st; rfl; rfl; rfl; (first | exact AggC.s | exact OneC.s); rfl; exact rplE; exact putE; rfl) | (apply wO; apply o_bs0; rfl; intro _) | (apply wO; apply o_bs; rfl; rfl; rfl; rfl; exact rptE; exact filE; intro _) | (apply wO; apply o_call; rfl; kernel_rfl; exact evsE))
      refine c_loopS [0, 2, 3, 4] (fun z : DwS => [(5, .int .i64 (z.i : Nat))]) (fun z => [.row gg 26 0 [] [.int .i64 z.y.next, .slice z.a z.y.slots.length z.c] [], .ow ESlot 113 (.slice z.a z.y.slots.length z.c) z.y.slots z.F, .row g 100 0 [] [.slice F.a F.code.length F.c, .int .i64 (z.s.k : Nat), .int .u64 z.s.seed] []]) (DwOk B r0) (fun z => r0 - z.i) ⟨⟨n.1, []⟩, 0, none, 0, [], s1⟩ ⟨rfl, Nat.zero_le _, hy2.mono (by show _ ≤ B + 6 + 50 * 0; omega)⟩ fun z hz => ?_
      obtain ⟨z1, z2, z3⟩ := hz
      repeat (first | apply c_seq | apply c_reg | (apply wO; apply oc; rfl; exact ydE) | apply w_nil | apply n_cd | (apply wg_t; rfl; rfl) | (apply wg_f; rfl; rfl; rfl; rfl) | (apply wg_u; rfl; rfl; rfl) | (apply c_t; rfl) | (apply c_f; rfl) | apply c_skip | apply c_block | apply n_blk | apply c_exit | apply e_hit | apply e_cd | apply e_lp | (apply e_miss; rfl) | apply c_ret | (apply wO; apply o_box; rfl; rfl; rfl; intro _) | (apply wO; apply o_alloc; rfl; intro _) | (apply wO; apply o_st; rfl; rfl; rfl; (first | exact AggC.s | exact OneC.s); rfl; exact rplE; exact putE; rfl) | (apply wO; apply o_bs0; rfl; intro _) | (apply wO; apply o_bs; rfl; rfl; rfl; rfl; exact rptE; exact filE; intro _) | (apply wO; apply o_call; rfl; kernel_rfl; exact evsE))
      refine c_if rfl (fun h2 => ?_) (fun h2 => ?_)
      · repeat (first | apply c_seq | apply c_reg | (apply wO; apply oc; rfl; exact ydE) | apply w_nil | apply n_cd | (apply wg_t; rfl; rfl) | (apply wg_f; rfl; rfl; rfl; rfl) | (apply wg_u; rfl; rfl; rfl) | (apply c_t; rfl) | (apply c_f; rfl) | apply c_skip | apply c_block | apply n_blk | apply c_exit | apply e_hit | apply e_cd | apply e_lp | (apply e_miss; rfl) | apply c_ret | (apply wO; apply o_box; rfl; rfl; rfl; intro _) | (apply wO; apply o_alloc; rfl; intro _) | (apply wO; apply o_st; rfl; rfl; rfl; (first | exact AggC.s | exact OneC.s); rfl; exact rplE; exact putE; rfl) | (apply wO; apply o_bs0; rfl; intro _) | (apply wO; apply o_bs; rfl; rfl; rfl; rfl; exact rptE; exact filE; intro _) | (apply wO; apply o_call; rfl; kernel_rfl; exact evsE))
        refine wg_if rfl rfl (fun h3 => ?_) (fun h3 => ?_)
        · repeat (first | apply c_seq | apply c_reg | (apply wO; apply oc; rfl; exact ydE) | apply w_nil | apply n_cd | (apply wg_t; rfl; rfl) | (apply wg_f; rfl; rfl; rfl; rfl) | (apply wg_u; rfl; rfl; rfl) | (apply c_t; rfl) | (apply c_f; rfl) | apply c_skip | apply c_block | apply n_blk | apply c_exit | apply e_hit | apply e_cd | apply e_lp | (apply e_miss; rfl) | apply c_ret | (apply wO; apply o_box; rfl; rfl; rfl; intro _) | (apply wO; apply o_alloc; rfl; intro _) | (apply wO; apply o_st; rfl; rfl; rfl; (first | exact AggC.s | exact OneC.s); rfl; exact rplE; exact putE; rfl) | (apply wO; apply o_bs0; rfl; intro _) | (apply wO; apply o_bs; rfl; rfl; rfl; rfl; exact rptE; exact filE; intro _) | (apply wO; apply o_call; rfl; kernel_rfl; exact evsE))
          refine wg_if rfl rfl (fun h4 => ?_) (fun h4 => ?_)
          · repeat (first | apply c_seq | apply c_reg | (apply wO; apply oc; rfl; exact ydE) | apply w_nil | apply n_cd | (apply wg_t; rfl; rfl) | (apply wg_f; rfl; rfl; rfl; rfl) | (apply wg_u; rfl; rfl; rfl) | (apply c_t; rfl) | (apply c_f; rfl) | apply c_skip | apply c_block | apply n_blk | apply c_exit | apply e_hit | apply e_cd | apply e_lp | (apply e_miss; rfl) | apply c_ret | (apply wO; apply o_box; rfl; rfl; rfl; intro _) | (apply wO; apply o_alloc; rfl; intro _) | (apply wO; apply o_st; rfl; rfl; rfl; (first | exact AggC.s | exact OneC.s); rfl; exact rplE; exact putE; rfl) | (apply wO; apply o_bs0; rfl; intro _) | (apply wO; apply o_bs; rfl; rfl; rfl; rfl; exact rptE; exact filE; intro _) | (apply wO; apply o_call; rfl; kernel_rfl; exact evsE))
            refine cf (letters_f _ g F z.s 4 z3 (by omega) (by omega) (by omega)) fun l hl => ?_
            refine t_app ?_
            obtain ⟨hl1, hl2⟩ := hl
            repeat (first | apply c_seq | apply c_reg | (apply wO; apply oc; rfl; exact ydE) | apply w_nil | apply n_cd | (apply wg_t; rfl; rfl) | (apply wg_f; rfl; rfl; rfl; rfl) | (apply wg_u; rfl; rfl; rfl) | (apply c_t; rfl) | (apply c_f; rfl) | apply c_skip | apply c_block | apply n_blk | apply c_exit | apply e_hit | apply e_cd | apply e_lp | (apply e_miss; rfl) | apply c_ret | (apply wO; apply o_box; rfl; rfl; rfl; intro _) | (apply wO; apply o_alloc; rfl; intro _) | (apply wO; apply o_st; rfl; rfl; rfl; (first | exact AggC.s | exact OneC.s); rfl; exact rplE; exact putE; rfl) | (apply wO; apply o_bs0; rfl; intro _) | (apply wO; apply o_bs; rfl; rfl; rfl; rfl; exact rptE; exact filE; intro _) | (apply wO; apply o_call; rfl; kernel_rfl; exact evsE))
            apply wO
            refine ap1 (rep_slot ⟨true, l.1⟩ (by show l.1.size ≤ maxLen; unfold maxLen; omega)) one_ESlot fun a9 c9 F9 => ?_
            repeat (first | apply c_seq | apply c_reg | (apply wO; apply oc; rfl; exact ydE) | apply w_nil | apply n_cd | (apply wg_t; rfl; rfl) | (apply wg_f; rfl; rfl; rfl; rfl) | (apply wg_u; rfl; rfl; rfl) | (apply c_t; rfl) | (apply c_f; rfl) | apply c_skip | apply c_block | apply n_blk | apply c_exit | apply e_hit | apply e_cd | apply e_lp | (apply e_miss; rfl) | apply c_ret | (apply wO; apply o_box; rfl; rfl; rfl; intro _) | (apply wO; apply o_alloc; rfl; intro _) | (apply wO; apply o_st; rfl; rfl; rfl; (first | exact AggC.s | exact OneC.s); rfl; exact rplE; exact putE; rfl) | (apply wO; apply o_bs0; rfl; intro _) | (apply wO; apply o_bs; rfl; rfl; rfl; rfl; exact rptE; exact filE; intro _) | (apply wO; apply o_call; rfl; kernel_rfl; exact evsE))
            refine n_lp ⟨⟨z.y.next, z.y.slots ++ [⟨true, l.1⟩]⟩, z.i + 1, a9, c9, F9, l.2⟩ ⟨by show (z.y.slots ++ [_]).length = z.i + 1; simp [z1], by show z.i + 1 ≤ r0; omega, hl2.mono (by show _ ≤ B + 6 + 50 * (z.i + 1); omega)⟩ (by show r0 - (z.i + 1) < _; omega)
          · repeat (first | apply c_seq | apply c_reg | (apply wO; apply oc; rfl; exact ydE) | apply w_nil | apply n_cd | (apply wg_t; rfl; rfl) | (apply wg_f; rfl; rfl; rfl; rfl) | (apply wg_u; rfl; rfl; rfl) | (apply c_t; rfl) | (apply c_f; rfl) | apply c_skip | apply c_block | apply n_blk | apply c_exit | apply e_hit | apply e_cd | apply e_lp | (apply e_miss; rfl) | apply c_ret | (apply wO; apply o_box; rfl; rfl; rfl; intro _) | (apply wO; apply o_alloc; rfl; intro _) | (apply wO; apply o_st; rfl; rfl; rfl; (first | exact AggC.s | exact OneC.s); rfl; exact rplE; exact putE; rfl) | (apply wO; apply o_bs0; rfl; intro _) | (apply wO; apply o_bs; rfl; rfl; rfl; rfl; exact rptE; exact filE; intro _) | (apply wO; apply o_call; rfl; kernel_rfl; exact evsE))
            refine cf (one_f _ g F 2 z.s z3 (by omega) (by omega)) fun q hq => ?_
            refine t_app ?_
            obtain ⟨b, s2⟩ := q
            obtain ⟨-, hq⟩ := hq
            dsimp only at hq ⊢
            cases b
            · repeat (first | apply c_seq | apply c_reg | (apply wO; apply oc; rfl; exact ydE) | apply w_nil | apply n_cd | (apply wg_t; rfl; rfl) | (apply wg_f; rfl; rfl; rfl; rfl) | (apply wg_u; rfl; rfl; rfl) | (apply c_t; rfl) | (apply c_f; rfl) | apply c_skip | apply c_block | apply n_blk | apply c_exit | apply e_hit | apply e_cd | apply e_lp | (apply e_miss; rfl) | apply c_ret | (apply wO; apply o_box; rfl; rfl; rfl; intro _) | (apply wO; apply o_alloc; rfl; intro _) | (apply wO; apply o_st; rfl; rfl; rfl; (first | exact AggC.s | exact OneC.s); rfl; exact rplE; exact putE; rfl) | (apply wO; apply o_bs0; rfl; intro _) | (apply wO; apply o_bs; rfl; rfl; rfl; rfl; exact rptE; exact filE; intro _) | (apply wO; apply o_call; rfl; kernel_rfl; exact evsE))
              apply wO
              refine ap1 (rep_slot ⟨false, ⟨#[]⟩⟩ (by decide)) one_ESlot fun a9 c9 F9 => ?_
              repeat (first | apply c_seq | apply c_reg | (apply wO; apply oc; rfl; exact ydE) | apply w_nil | apply n_cd | (apply wg_t; rfl; rfl) | (apply wg_f; rfl; rfl; rfl; rfl) | (apply wg_u; rfl; rfl; rfl) | (apply c_t; rfl) | (apply c_f; rfl) | apply c_skip | apply c_block | apply n_blk | apply c_exit | apply e_hit | apply e_cd | apply e_lp | (apply e_miss; rfl) | apply c_ret | (apply wO; apply o_box; rfl; rfl; rfl; intro _) | (apply wO; apply o_alloc; rfl; intro _) | (apply wO; apply o_st; rfl; rfl; rfl; (first | exact AggC.s | exact OneC.s); rfl; exact rplE; exact putE; rfl) | (apply wO; apply o_bs0; rfl; intro _) | (apply wO; apply o_bs; rfl; rfl; rfl; rfl; exact rptE; exact filE; intro _) | (apply wO; apply o_call; rfl; kernel_rfl; exact evsE))
              refine n_lp ⟨⟨z.y.next, z.y.slots ++ [⟨false, ⟨#[]⟩⟩]⟩, z.i + 1, a9, c9, F9, s2⟩ ⟨by show (z.y.slots ++ [_]).length = z.i + 1; simp [z1], by show z.i + 1 ≤ r0; omega, hq.mono (by show _ ≤ B + 6 + 50 * (z.i + 1); omega)⟩ (by show r0 - (z.i + 1) < _; omega)
            · repeat (first | apply c_seq | apply c_reg | (apply wO; apply oc; rfl; exact ydE) | apply w_nil | apply n_cd | (apply wg_t; rfl; rfl) | (apply wg_f; rfl; rfl; rfl; rfl) | (apply wg_u; rfl; rfl; rfl) | (apply c_t; rfl) | (apply c_f; rfl) | apply c_skip | apply c_block | apply n_blk | apply c_exit | apply e_hit | apply e_cd | apply e_lp | (apply e_miss; rfl) | apply c_ret | (apply wO; apply o_box; rfl; rfl; rfl; intro _) | (apply wO; apply o_alloc; rfl; intro _) | (apply wO; apply o_st; rfl; rfl; rfl; (first | exact AggC.s | exact OneC.s); rfl; exact rplE; exact putE; rfl) | (apply wO; apply o_bs0; rfl; intro _) | (apply wO; apply o_bs; rfl; rfl; rfl; rfl; exact rptE; exact filE; intro _) | (apply wO; apply o_call; rfl; kernel_rfl; exact evsE))
              refine cf (letters_f _ g F s2 4 hq (by omega) (by omega) (by omega)) fun l hl => ?_
              refine t_app ?_
              obtain ⟨hl1, hl2⟩ := hl
              repeat (first | apply c_seq | apply c_reg | (apply wO; apply oc; rfl; exact ydE) | apply w_nil | apply n_cd | (apply wg_t; rfl; rfl) | (apply wg_f; rfl; rfl; rfl; rfl) | (apply wg_u; rfl; rfl; rfl) | (apply c_t; rfl) | (apply c_f; rfl) | apply c_skip | apply c_block | apply n_blk | apply c_exit | apply e_hit | apply e_cd | apply e_lp | (apply e_miss; rfl) | apply c_ret | (apply wO; apply o_box; rfl; rfl; rfl; intro _) | (apply wO; apply o_alloc; rfl; intro _) | (apply wO; apply o_st; rfl; rfl; rfl; (first | exact AggC.s | exact OneC.s); rfl; exact rplE; exact putE; rfl) | (apply wO; apply o_bs0; rfl; intro _) | (apply wO; apply o_bs; rfl; rfl; rfl; rfl; exact rptE; exact filE; intro _) | (apply wO; apply o_call; rfl; kernel_rfl; exact evsE))
              apply wO
              refine ap1 (rep_slot ⟨true, l.1⟩ (by show l.1.size ≤ maxLen; unfold maxLen; omega)) one_ESlot fun a9 c9 F9 => ?_
              repeat (first | apply c_seq | apply c_reg | (apply wO; apply oc; rfl; exact ydE) | apply w_nil | apply n_cd | (apply wg_t; rfl; rfl) | (apply wg_f; rfl; rfl; rfl; rfl) | (apply wg_u; rfl; rfl; rfl) | (apply c_t; rfl) | (apply c_f; rfl) | apply c_skip | apply c_block | apply n_blk | apply c_exit | apply e_hit | apply e_cd | apply e_lp | (apply e_miss; rfl) | apply c_ret | (apply wO; apply o_box; rfl; rfl; rfl; intro _) | (apply wO; apply o_alloc; rfl; intro _) | (apply wO; apply o_st; rfl; rfl; rfl; (first | exact AggC.s | exact OneC.s); rfl; exact rplE; exact putE; rfl) | (apply wO; apply o_bs0; rfl; intro _) | (apply wO; apply o_bs; rfl; rfl; rfl; rfl; exact rptE; exact filE; intro _) | (apply wO; apply o_call; rfl; kernel_rfl; exact evsE))
              refine n_lp ⟨⟨z.y.next, z.y.slots ++ [⟨true, l.1⟩]⟩, z.i + 1, a9, c9, F9, l.2⟩ ⟨by show (z.y.slots ++ [_]).length = z.i + 1; simp [z1], by show z.i + 1 ≤ r0; omega, hl2.mono (by show _ ≤ B + 6 + 50 * (z.i + 1); omega)⟩ (by show r0 - (z.i + 1) < _; omega)
        · repeat (first | apply c_seq | apply c_reg | (apply wO; apply oc; rfl; exact ydE) | apply w_nil | apply n_cd | (apply wg_t; rfl; rfl) | (apply wg_f; rfl; rfl; rfl; rfl) | (apply wg_u; rfl; rfl; rfl) | (apply c_t; rfl) | (apply c_f; rfl) | apply c_skip | apply c_block | apply n_blk | apply c_exit | apply e_hit | apply e_cd | apply e_lp | (apply e_miss; rfl) | apply c_ret | (apply wO; apply o_box; rfl; rfl; rfl; intro _) | (apply wO; apply o_alloc; rfl; intro _) | (apply wO; apply o_st; rfl; rfl; rfl; (first | exact AggC.s | exact OneC.s); rfl; exact rplE; exact putE; rfl) | (apply wO; apply o_bs0; rfl; intro _) | (apply wO; apply o_bs; rfl; rfl; rfl; rfl; exact rptE; exact filE; intro _) | (apply wO; apply o_call; rfl; kernel_rfl; exact evsE))
          apply wO
          refine ap1 (rep_slot ⟨false, ⟨#[]⟩⟩ (by decide)) one_ESlot fun a9 c9 F9 => ?_
          repeat (first | apply c_seq | apply c_reg | (apply wO; apply oc; rfl; exact ydE) | apply w_nil | apply n_cd | (apply wg_t; rfl; rfl) | (apply wg_f; rfl; rfl; rfl; rfl) | (apply wg_u; rfl; rfl; rfl) | (apply c_t; rfl) | (apply c_f; rfl) | apply c_skip | apply c_block | apply n_blk | apply c_exit | apply e_hit | apply e_cd | apply e_lp | (apply e_miss; rfl) | apply c_ret | (apply wO; apply o_box; rfl; rfl; rfl; intro _) | (apply wO; apply o_alloc; rfl; intro _) | (apply wO; apply o_st; rfl; rfl; rfl; (first | exact AggC.s | exact OneC.s); rfl; exact rplE; exact putE; rfl) | (apply wO; apply o_bs0; rfl; intro _) | (apply wO; apply o_bs; rfl; rfl; rfl; rfl; exact rptE; exact filE; intro _) | (apply wO; apply o_call; rfl; kernel_rfl; exact evsE))
          refine n_lp ⟨⟨z.y.next, z.y.slots ++ [⟨false, ⟨#[]⟩⟩]⟩, z.i + 1, a9, c9, F9, z.s⟩ ⟨by show (z.y.slots ++ [_]).length = z.i + 1; simp [z1], by show z.i + 1 ≤ r0; omega, z3.mono (by show _ ≤ B + 6 + 50 * (z.i + 1); omega)⟩ (by show r0 - (z.i + 1) < _; omega)
      · repeat (first | apply c_seq | apply c_reg | (apply wO; apply oc; rfl; exact ydE) | apply w_nil | apply n_cd | (apply wg_t; rfl; rfl) | (apply wg_f; rfl; rfl; rfl; rfl) | (apply wg_u; rfl; rfl; rfl) | (apply c_t; rfl) | (apply c_f; rfl) | apply c_skip | apply c_block | apply n_blk | apply c_exit | apply e_hit | apply e_cd | apply e_lp | (apply e_miss; rfl) | apply c_ret | (apply wO; apply o_box; rfl; rfl; rfl; intro _) | (apply wO; apply o_alloc; rfl; intro _) | (apply wO; apply o_st; rfl; rfl; rfl; (first | exact AggC.s | exact OneC.s); rfl; exact rplE; exact putE; rfl) | (apply wO; apply o_bs0; rfl; intro _) | (apply wO; apply o_bs; rfl; rfl; rfl; rfl; exact rptE; exact filE; intro _) | (apply wO; apply o_call; rfl; kernel_rfl; exact evsE))
        refine n_join (⟨z.y, z.a, z.c, z.F, z.s⟩ : DjS) ⟨by show z.y.slots.length ≤ 8; omega, z3.mono (by omega)⟩
    · repeat (first | apply c_seq | apply c_reg | (apply wO; apply oc; rfl; exact ydE) | apply w_nil | apply n_cd | (apply wg_t; rfl; rfl) | (apply wg_f; rfl; rfl; rfl; rfl) | (apply wg_u; rfl; rfl; rfl) | (apply c_t; rfl) | (apply c_f; rfl) | apply c_skip | apply c_block | apply n_blk | apply c_exit | apply e_hit | apply e_cd | apply e_lp | (apply e_miss; rfl) | apply c_ret | (apply wO; apply o_box; rfl; rfl; rfl; intro _) | (apply wO; apply o_alloc; rfl; intro _) | (apply wO; apply o_st; rfl; rfl; rfl; (first | exact AggC.s | exact OneC.s); rfl; exact rplE; exact putE; rfl) | (apply wO; apply o_bs0; rfl; intro _) | (apply wO; apply o_bs; rfl; rfl; rfl; rfl; exact rptE; exact filE; intro _) | (apply wO; apply o_call; rfl; kernel_rfl; exact evsE))
      refine n_join (⟨⟨n.1, []⟩, none, 0, [], s1⟩ : DjS) ⟨by simp, hy2.mono (by omega)⟩
  · obtain ⟨l8, hzs⟩ := hz
    repeat (first | apply c_seq | apply c_reg | (apply wO; apply oc; rfl; exact ydE) | apply w_nil | apply n_cd | (apply wg_t; rfl; rfl) | (apply wg_f; rfl; rfl; rfl; rfl) | (apply wg_u; rfl; rfl; rfl) | (apply c_t; rfl) | (apply c_f; rfl) | apply c_skip | apply c_block | apply n_blk | apply c_exit | apply e_hit | apply e_cd | apply e_lp | (apply e_miss; rfl) | apply c_ret | (apply wO; apply o_box; rfl; rfl; rfl; intro _) | (apply wO; apply o_alloc; rfl; intro _) | (apply wO; apply o_st; rfl; rfl; rfl; (first | exact AggC.s | exact OneC.s); rfl; exact rplE; exact putE; rfl) | (apply wO; apply o_bs0; rfl; intro _) | (apply wO; apply o_bs; rfl; rfl; rfl; rfl; exact rptE; exact filE; intro _) | (apply wO; apply o_call; rfl; kernel_rfl; exact evsE))
    refine cf (pick_f _ g F 24 z.s hzs (by omega) (by omega)) fun p hp => ?_
    refine t_app ?_
    obtain ⟨r, s3⟩ := p
    obtain ⟨-, hp⟩ := hp
    dsimp only at hp ⊢
    repeat (first | apply c_seq | apply c_reg | (apply wO; apply oc; rfl; exact ydE) | apply w_nil | apply n_cd | (apply wg_t; rfl; rfl) | (apply wg_f; rfl; rfl; rfl; rfl) | (apply wg_u; rfl; rfl; rfl) | (apply c_t; rfl) | (apply c_f; rfl) | apply c_skip | apply c_block | apply n_blk | apply c_exit | apply e_hit | apply e_cd | apply e_lp | (apply e_miss; rfl) | apply c_ret | (apply wO; apply o_box; rfl; rfl; rfl; intro _) | (apply wO; apply o_alloc; rfl; intro _) | (apply wO; apply o_st; rfl; rfl; rfl; (first | exact AggC.s | exact OneC.s); rfl; exact rplE; exact putE; rfl) | (apply wO; apply o_bs0; rfl; intro _) | (apply wO; apply o_bs; rfl; rfl; rfl; rfl; exact rptE; exact filE; intro _) | (apply wO; apply o_call; rfl; kernel_rfl; exact evsE))
    refine c_if rfl (fun e0 => ?_) (fun e0 => ?_)
    · repeat (first | apply c_seq | apply c_reg | (apply wO; apply oc; rfl; exact ydE) | apply w_nil | apply n_cd | (apply wg_t; rfl; rfl) | (apply wg_f; rfl; rfl; rfl; rfl) | (apply wg_u; rfl; rfl; rfl) | (apply c_t; rfl) | (apply c_f; rfl) | apply c_skip | apply c_block | apply n_blk | apply c_exit | apply e_hit | apply e_cd | apply e_lp | (apply e_miss; rfl) | apply c_ret | (apply wO; apply o_box; rfl; rfl; rfl; intro _) | (apply wO; apply o_alloc; rfl; intro _) | (apply wO; apply o_st; rfl; rfl; rfl; (first | exact AggC.s | exact OneC.s); rfl; exact rplE; exact putE; rfl) | (apply wO; apply o_bs0; rfl; intro _) | (apply wO; apply o_bs; rfl; rfl; rfl; rfl; exact rptE; exact filE; intro _) | (apply wO; apply o_call; rfl; kernel_rfl; exact evsE))
      refine cf (anySerial_f _ g F s3 hp (by omega)) fun q hq => ?_
      refine t_app ?_
      repeat (first | apply c_seq | apply c_reg | (apply wO; apply oc; rfl; exact ydE) | apply w_nil | apply n_cd | (apply wg_t; rfl; rfl) | (apply wg_f; rfl; rfl; rfl; rfl) | (apply wg_u; rfl; rfl; rfl) | (apply c_t; rfl) | (apply c_f; rfl) | apply c_skip | apply c_block | apply n_blk | apply c_exit | apply e_hit | apply e_cd | apply e_lp | (apply e_miss; rfl) | apply c_ret | (apply wO; apply o_box; rfl; rfl; rfl; intro _) | (apply wO; apply o_alloc; rfl; intro _) | (apply wO; apply o_st; rfl; rfl; rfl; (first | exact AggC.s | exact OneC.s); rfl; exact rplE; exact putE; rfl) | (apply wO; apply o_bs0; rfl; intro _) | (apply wO; apply o_bs; rfl; rfl; rfl; rfl; exact rptE; exact filE; intro _) | (apply wO; apply o_call; rfl; kernel_rfl; exact evsE))
      refine t_read (E := ESlot) fun F9 => ?_
      refine closeReceiveWindow ⟨q.1, z.y.slots⟩ ?_
      refine ret ⟨⟨q.1, z.y.slots⟩, _, _, _, q.2⟩ (hq.mono (by omega)) rfl
    repeat (first | apply c_seq | apply c_reg | (apply wO; apply oc; rfl; exact ydE) | apply w_nil | apply n_cd | (apply wg_t; rfl; rfl) | (apply wg_f; rfl; rfl; rfl; rfl) | (apply wg_u; rfl; rfl; rfl) | (apply c_t; rfl) | (apply c_f; rfl) | apply c_skip | apply c_block | apply n_blk | apply c_exit | apply e_hit | apply e_cd | apply e_lp | (apply e_miss; rfl) | apply c_ret | (apply wO; apply o_box; rfl; rfl; rfl; intro _) | (apply wO; apply o_alloc; rfl; intro _) | (apply wO; apply o_st; rfl; rfl; rfl; (first | exact AggC.s | exact OneC.s); rfl; exact rplE; exact putE; rfl) | (apply wO; apply o_bs0; rfl; intro _) | (apply wO; apply o_bs; rfl; rfl; rfl; rfl; exact rptE; exact filE; intro _) | (apply wO; apply o_call; rfl; kernel_rfl; exact evsE))
    refine c_if rfl (fun e1 => ?_) (fun e1 => ?_)
    · repeat (first | apply c_seq | apply c_reg | (apply wO; apply oc; rfl; exact ydE) | apply w_nil | apply n_cd | (apply wg_t; rfl; rfl) | (apply wg_f; rfl; rfl; rfl; rfl) | (apply wg_u; rfl; rfl; rfl) | (apply c_t; rfl) | (apply c_f; rfl) | apply c_skip | apply c_block | apply n_blk | apply c_exit | apply e_hit | apply e_cd | apply e_lp | (apply e_miss; rfl) | apply c_ret | (apply wO; apply o_box; rfl; rfl; rfl; intro _) | (apply wO; apply o_alloc; rfl; intro _) | (apply wO; apply o_st; rfl; rfl; rfl; (first | exact AggC.s | exact OneC.s); rfl; exact rplE; exact putE; rfl) | (apply wO; apply o_bs0; rfl; intro _) | (apply wO; apply o_bs; rfl; rfl; rfl; rfl; exact rptE; exact filE; intro _) | (apply wO; apply o_call; rfl; kernel_rfl; exact evsE))
      apply wO
      refine ap1 (rep_slot ⟨false, ⟨#[]⟩⟩ (by decide)) one_ESlot fun a9 c9 F9 => ?_
      repeat (first | apply c_seq | apply c_reg | (apply wO; apply oc; rfl; exact ydE) | apply w_nil | apply n_cd | (apply wg_t; rfl; rfl) | (apply wg_f; rfl; rfl; rfl; rfl) | (apply wg_u; rfl; rfl; rfl) | (apply c_t; rfl) | (apply c_f; rfl) | apply c_skip | apply c_block | apply n_blk | apply c_exit | apply e_hit | apply e_cd | apply e_lp | (apply e_miss; rfl) | apply c_ret | (apply wO; apply o_box; rfl; rfl; rfl; intro _) | (apply wO; apply o_alloc; rfl; intro _) | (apply wO; apply o_st; rfl; rfl; rfl; (first | exact AggC.s | exact OneC.s); rfl; exact rplE; exact putE; rfl) | (apply wO; apply o_bs0; rfl; intro _) | (apply wO; apply o_bs; rfl; rfl; rfl; rfl; exact rptE; exact filE; intro _) | (apply wO; apply o_call; rfl; kernel_rfl; exact evsE))
      refine t_read (E := ESlot) fun F8 => ?_
      refine closeReceiveWindow ⟨z.y.next, z.y.slots ++ [⟨false, ⟨#[]⟩⟩]⟩ ?_
      refine ret ⟨⟨z.y.next, z.y.slots ++ [⟨false, ⟨#[]⟩⟩]⟩, _, _, _, s3⟩ (hp.mono (by omega)) rfl
    repeat (first | apply c_seq | apply c_reg | (apply wO; apply oc; rfl; exact ydE) | apply w_nil | apply n_cd | (apply wg_t; rfl; rfl) | (apply wg_f; rfl; rfl; rfl; rfl) | (apply wg_u; rfl; rfl; rfl) | (apply c_t; rfl) | (apply c_f; rfl) | apply c_skip | apply c_block | apply n_blk | apply c_exit | apply e_hit | apply e_cd | apply e_lp | (apply e_miss; rfl) | apply c_ret | (apply wO; apply o_box; rfl; rfl; rfl; intro _) | (apply wO; apply o_alloc; rfl; intro _) | (apply wO; apply o_st; rfl; rfl; rfl; (first | exact AggC.s | exact OneC.s); rfl; exact rplE; exact putE; rfl) | (apply wO; apply o_bs0; rfl; intro _) | (apply wO; apply o_bs; rfl; rfl; rfl; rfl; exact rptE; exact filE; intro _) | (apply wO; apply o_call; rfl; kernel_rfl; exact evsE))
    refine c_if rfl (fun e2 => ?_) (fun e2 => ?_)
    · repeat (first | apply c_seq | apply c_reg | (apply wO; apply oc; rfl; exact ydE) | apply w_nil | apply n_cd | (apply wg_t; rfl; rfl) | (apply wg_f; rfl; rfl; rfl; rfl) | (apply wg_u; rfl; rfl; rfl) | (apply c_t; rfl) | (apply c_f; rfl) | apply c_skip | apply c_block | apply n_blk | apply c_exit | apply e_hit | apply e_cd | apply e_lp | (apply e_miss; rfl) | apply c_ret | (apply wO; apply o_box; rfl; rfl; rfl; intro _) | (apply wO; apply o_alloc; rfl; intro _) | (apply wO; apply o_st; rfl; rfl; rfl; (first | exact AggC.s | exact OneC.s); rfl; exact rplE; exact putE; rfl) | (apply wO; apply o_bs0; rfl; intro _) | (apply wO; apply o_bs; rfl; rfl; rfl; rfl; exact rptE; exact filE; intro _))
      refine d_start [1] [11] ?_
      refine dt 0 ?_
      refine dt 1 ?_
      refine dt 2 ?_
      refine dt 4 ?_
      refine dO2 3 5 (by kernel_rfl) (by rw [List.getElem?_toArray]; rfl) (by rw [List.getElem?_toArray]; rfl) ?_ ?_
      · apply o_call; rfl; kernel_rfl; exact evsE
        refine cf (one_f _ g F 2 s3 hp (by omega) (by omega)) fun q hq => ?_
        refine t_app ?_
        obtain ⟨b, s4⟩ := q
        obtain ⟨-, hq⟩ := hq
        dsimp only at hq ⊢
        refine dk ?_
        refine dO 5 (by kernel_rfl) (by rw [List.getElem?_toArray]; rfl) ?_
        apply o_bs; rfl; rfl; rfl; rfl; exact rptE; exact filE; intro _
        refine t_row (xs := [⟨#[97]⟩, ⟨#[65]⟩, ⟨#[]⟩]) (fun w => flat_s w _ (by decide)) ?_ (by decide)
        refine t_read (E := EStr) fun G => ?_
        refine dk ?_
        refine dO 6 (by kernel_rfl) (by rw [List.getElem?_toArray]; rfl) ?_
        apply o_call; rfl; kernel_rfl; exact evsE
        refine cf (of_f _ g F _ [⟨#[97]⟩, ⟨#[65]⟩, ⟨#[]⟩] _ s4 hq (by omega) (by decide) (by decide)) fun q2 hq2 => ?_
        refine t_app ?_
        have hq3 : q2.1.size ≤ maxLen := by have := hq2.1; simp only [List.mem_cons, List.not_mem_nil, or_false] at this; rcases this with e | e | e <;> rw [e] <;> decide
        refine dk ?_
        refine dt 7 ?_
        refine dO 8 (by kernel_rfl) (by rw [List.getElem?_toArray]; rfl) ?_
        apply o_bs; rfl; rfl; rfl; rfl; exact rptE; exact filE; intro _
        refine dk ?_
        refine dO 9 (by kernel_rfl) (by rw [List.getElem?_toArray]; rfl) ?_
        refine ap1 (rep_slot ⟨b, q2.1⟩ hq3) one_ESlot fun a9 c9 F9 => ?_
        refine dk ?_
        refine dt 10 ?_
        refine dO 11 (by kernel_rfl) (by rw [List.getElem?_toArray]; rfl) ?_
        apply o_st; rfl; rfl; rfl; (first | exact AggC.s | exact OneC.s); rfl; exact rplE; exact putE; rfl
        refine dkx ?_
        refine dd ?_
        repeat (first | apply c_seq | apply c_reg | (apply wO; apply oc; rfl; exact ydE) | apply w_nil | apply n_cd | (apply wg_t; rfl; rfl) | (apply wg_f; rfl; rfl; rfl; rfl) | (apply wg_u; rfl; rfl; rfl) | (apply c_t; rfl) | (apply c_f; rfl) | apply c_skip | apply c_block | apply n_blk | apply c_exit | apply e_hit | apply e_cd | apply e_lp | (apply e_miss; rfl) | apply c_ret | (apply wO; apply o_box; rfl; rfl; rfl; intro _) | (apply wO; apply o_alloc; rfl; intro _) | (apply wO; apply o_st; rfl; rfl; rfl; (first | exact AggC.s | exact OneC.s); rfl; exact rplE; exact putE; rfl) | (apply wO; apply o_bs0; rfl; intro _) | (apply wO; apply o_bs; rfl; rfl; rfl; rfl; exact rptE; exact filE; intro _) | (apply wO; apply o_call; rfl; kernel_rfl; exact evsE))
        refine t_read (E := ESlot) fun F8 => ?_
        refine closeReceiveWindow ⟨z.y.next, z.y.slots ++ [⟨b, q2.1⟩]⟩ ?_
        refine ret ⟨⟨z.y.next, z.y.slots ++ [⟨b, q2.1⟩]⟩, _, _, _, q2.2⟩ (hq2.2.mono (by omega)) rfl
      · apply o_bs; rfl; rfl; rfl; rfl; exact rptE; exact filE; intro _
        refine t_row (xs := [⟨#[97]⟩, ⟨#[65]⟩, ⟨#[]⟩]) (fun w => flat_s w _ (by decide)) ?_ (by decide)
        refine t_read (E := EStr) fun G => ?_
        refine dk ?_
        refine dO 3 (by kernel_rfl) (by rw [List.getElem?_toArray]; rfl) ?_
        apply o_call; rfl; kernel_rfl; exact evsE
        refine cf (one_f _ g F 2 s3 hp (by omega) (by omega)) fun q hq => ?_
        refine t_app ?_
        obtain ⟨b, s4⟩ := q
        obtain ⟨-, hq⟩ := hq
        dsimp only at hq ⊢
        refine dk ?_
        refine dO 6 (by kernel_rfl) (by rw [List.getElem?_toArray]; rfl) ?_
        apply o_call; rfl; kernel_rfl; exact evsE
        refine cf (of_f _ g F _ [⟨#[97]⟩, ⟨#[65]⟩, ⟨#[]⟩] _ s4 hq (by omega) (by decide) (by decide)) fun q2 hq2 => ?_
        refine t_app ?_
        have hq3 : q2.1.size ≤ maxLen := by have := hq2.1; simp only [List.mem_cons, List.not_mem_nil, or_false] at this; rcases this with e | e | e <;> rw [e] <;> decide
        refine dk ?_
        refine dt 7 ?_
        refine dO 8 (by kernel_rfl) (by rw [List.getElem?_toArray]; rfl) ?_
        apply o_bs; rfl; rfl; rfl; rfl; exact rptE; exact filE; intro _
        refine dk ?_
        refine dO 9 (by kernel_rfl) (by rw [List.getElem?_toArray]; rfl) ?_
        refine ap1 (rep_slot ⟨b, q2.1⟩ hq3) one_ESlot fun a9 c9 F9 => ?_
        refine dk ?_
        refine dt 10 ?_
        refine dO 11 (by kernel_rfl) (by rw [List.getElem?_toArray]; rfl) ?_
        apply o_st; rfl; rfl; rfl; (first | exact AggC.s | exact OneC.s); rfl; exact rplE; exact putE; rfl
        refine dkx ?_
        refine dd ?_
        repeat (first | apply c_seq | apply c_reg | (apply wO; apply oc; rfl; exact ydE) | apply w_nil | apply n_cd | (apply wg_t; rfl; rfl) | (apply wg_f; rfl; rfl; rfl; rfl) | (apply wg_u; rfl; rfl; rfl) | (apply c_t; rfl) | (apply c_f; rfl) | apply c_skip | apply c_block | apply n_blk | apply c_exit | apply e_hit | apply e_cd | apply e_lp | (apply e_miss; rfl) | apply c_ret | (apply wO; apply o_box; rfl; rfl; rfl; intro _) | (apply wO; apply o_alloc; rfl; intro _) | (apply wO; apply o_st; rfl; rfl; rfl; (first | exact AggC.s | exact OneC.s); rfl; exact rplE; exact putE; rfl) | (apply wO; apply o_bs0; rfl; intro _) | (apply wO; apply o_bs; rfl; rfl; rfl; rfl; exact rptE; exact filE; intro _) | (apply wO; apply o_call; rfl; kernel_rfl; exact evsE))
        refine t_read (E := ESlot) fun F8 => ?_
        refine closeReceiveWindow ⟨z.y.next, z.y.slots ++ [⟨b, q2.1⟩]⟩ ?_
        refine ret ⟨⟨z.y.next, z.y.slots ++ [⟨b, q2.1⟩]⟩, _, _, _, q2.2⟩ (hq2.2.mono (by omega)) rfl
    repeat (first | apply c_seq | apply c_reg | (apply wO; apply oc; rfl; exact ydE) | apply w_nil | apply n_cd | (apply wg_t; rfl; rfl) | (apply wg_f; rfl; rfl; rfl; rfl) | (apply wg_u; rfl; rfl; rfl) | (apply c_t; rfl) | (apply c_f; rfl) | apply c_skip | apply c_block | apply n_blk | apply c_exit | apply e_hit | apply e_cd | apply e_lp | (apply e_miss; rfl) | apply c_ret | (apply wO; apply o_box; rfl; rfl; rfl; intro _) | (apply wO; apply o_alloc; rfl; intro _) | (apply wO; apply o_st; rfl; rfl; rfl; (first | exact AggC.s | exact OneC.s); rfl; exact rplE; exact putE; rfl) | (apply wO; apply o_bs0; rfl; intro _) | (apply wO; apply o_bs; rfl; rfl; rfl; rfl; exact rptE; exact filE; intro _) | (apply wO; apply o_call; rfl; kernel_rfl; exact evsE))
    refine c_if rfl (fun e3 => ?_) (fun e3 => ?_)
    · repeat (first | apply c_seq | apply c_reg | (apply wO; apply oc; rfl; exact ydE) | apply w_nil | apply n_cd | (apply wg_t; rfl; rfl) | (apply wg_f; rfl; rfl; rfl; rfl) | (apply wg_u; rfl; rfl; rfl) | (apply c_t; rfl) | (apply c_f; rfl) | apply c_skip | apply c_block | apply n_blk | apply c_exit | apply e_hit | apply e_cd | apply e_lp | (apply e_miss; rfl) | apply c_ret | (apply wO; apply o_box; rfl; rfl; rfl; intro _) | (apply wO; apply o_alloc; rfl; intro _) | (apply wO; apply o_st; rfl; rfl; rfl; (first | exact AggC.s | exact OneC.s); rfl; exact rplE; exact putE; rfl) | (apply wO; apply o_bs0; rfl; intro _) | (apply wO; apply o_bs; rfl; rfl; rfl; rfl; exact rptE; exact filE; intro _) | (apply wO; apply o_call; rfl; kernel_rfl; exact evsE))
      refine t_read (E := ESlot) (xs := z.y.slots) fun F8 => ?_
      refine t_row (xs := [(⟨false, ⟨#[]⟩⟩ : Slot)]) (rep_slot _ (by decide)) ?_ (by decide)
      apply wO
      refine aps (ys := z.y.slots) one_ESlot scal_ESlot fun a9 c9 F9 => ?_
      repeat (first | apply c_seq | apply c_reg | (apply wO; apply oc; rfl; exact ydE) | apply w_nil | apply n_cd | (apply wg_t; rfl; rfl) | (apply wg_f; rfl; rfl; rfl; rfl) | (apply wg_u; rfl; rfl; rfl) | (apply c_t; rfl) | (apply c_f; rfl) | apply c_skip | apply c_block | apply n_blk | apply c_exit | apply e_hit | apply e_cd | apply e_lp | (apply e_miss; rfl) | apply c_ret | (apply wO; apply o_box; rfl; rfl; rfl; intro _) | (apply wO; apply o_alloc; rfl; intro _) | (apply wO; apply o_st; rfl; rfl; rfl; (first | exact AggC.s | exact OneC.s); rfl; exact rplE; exact putE; rfl) | (apply wO; apply o_bs0; rfl; intro _) | (apply wO; apply o_bs; rfl; rfl; rfl; rfl; exact rptE; exact filE; intro _) | (apply wO; apply o_call; rfl; kernel_rfl; exact evsE))
      refine c_loopS [0, 2, 3] (fun _ : DjS => []) (fun z => [.row gg 26 0 [] [.int .i64 z.y.next, .slice z.a z.y.slots.length z.c] [], .ow ESlot 113 (.slice z.a z.y.slots.length z.c) z.y.slots z.F, .row g 100 0 [] [.slice F.a F.code.length F.c, .int .i64 (z.s.k : Nat), .int .u64 z.s.seed] []]) (fun z : DjS => z.y.slots.length ≤ 9 ∧ CuOk (B + 502 + 2 * z.y.slots.length) z.s) (fun z => 9 - z.y.slots.length) ⟨⟨z.y.next, [⟨false, ⟨#[]⟩⟩] ++ z.y.slots⟩, a9, c9, F9, s3⟩ ⟨by simp; omega, hp.mono (by omega)⟩ fun z hz => ?_
      obtain ⟨z1, z2⟩ := hz
      repeat (first | apply c_seq | apply c_reg | (apply wO; apply oc; rfl; exact ydE) | apply w_nil | apply n_cd | (apply wg_t; rfl; rfl) | (apply wg_f; rfl; rfl; rfl; rfl) | (apply wg_u; rfl; rfl; rfl) | (apply c_t; rfl) | (apply c_f; rfl) | apply c_skip | apply c_block | apply n_blk | apply c_exit | apply e_hit | apply e_cd | apply e_lp | (apply e_miss; rfl) | apply c_ret | (apply wO; apply o_box; rfl; rfl; rfl; intro _) | (apply wO; apply o_alloc; rfl; intro _) | (apply wO; apply o_st; rfl; rfl; rfl; (first | exact AggC.s | exact OneC.s); rfl; exact rplE; exact putE; rfl) | (apply wO; apply o_bs0; rfl; intro _) | (apply wO; apply o_bs; rfl; rfl; rfl; rfl; exact rptE; exact filE; intro _))
      refine d_start [0] [] ?_
      refine dt 0 ?_
      refine dt 1 ?_
      refine dt 2 ?_
      refine dt 3 ?_
      refine dO 4 (by kernel_rfl) (by rw [List.getElem?_toArray]; rfl) ?_
      apply o_call; rfl; kernel_rfl; exact evsE
      refine cf (pick_f _ g F 2 z.s z2 (by omega) (by omega)) fun p6 hp6 => ?_
      refine t_app ?_
      obtain ⟨r6, s6⟩ := p6
      obtain ⟨hr6, hp6⟩ := hp6
      dsimp only at hr6 hp6 ⊢
      refine dk ?_
      refine dt 5 ?_
      refine dt 6 ?_
      refine dd ?_
      repeat (first | apply c_seq | apply c_reg | (apply wO; apply oc; rfl; exact ydE) | apply w_nil | apply n_cd | (apply wg_t; rfl; rfl) | (apply wg_f; rfl; rfl; rfl; rfl) | (apply wg_u; rfl; rfl; rfl) | (apply c_t; rfl) | (apply c_f; rfl) | apply c_skip | apply c_block | apply n_blk | apply c_exit | apply e_hit | apply e_cd | apply e_lp | (apply e_miss; rfl) | apply c_ret | (apply wO; apply o_box; rfl; rfl; rfl; intro _) | (apply wO; apply o_alloc; rfl; intro _) | (apply wO; apply o_st; rfl; rfl; rfl; (first | exact AggC.s | exact OneC.s); rfl; exact rplE; exact putE; rfl) | (apply wO; apply o_bs0; rfl; intro _) | (apply wO; apply o_bs; rfl; rfl; rfl; rfl; exact rptE; exact filE; intro _) | (apply wO; apply o_call; rfl; kernel_rfl; exact evsE))
      refine c_if rfl (fun e4 => ?_) (fun e4 => ?_)
      · repeat (first | apply c_seq | apply c_reg | (apply wO; apply oc; rfl; exact ydE) | apply w_nil | apply n_cd | (apply wg_t; rfl; rfl) | (apply wg_f; rfl; rfl; rfl; rfl) | (apply wg_u; rfl; rfl; rfl) | (apply c_t; rfl) | (apply c_f; rfl) | apply c_skip | apply c_block | apply n_blk | apply c_exit | apply e_hit | apply e_cd | apply e_lp | (apply e_miss; rfl) | apply c_ret | (apply wO; apply o_box; rfl; rfl; rfl; intro _) | (apply wO; apply o_alloc; rfl; intro _) | (apply wO; apply o_st; rfl; rfl; rfl; (first | exact AggC.s | exact OneC.s); rfl; exact rplE; exact putE; rfl) | (apply wO; apply o_bs0; rfl; intro _) | (apply wO; apply o_bs; rfl; rfl; rfl; rfl; exact rptE; exact filE; intro _) | (apply wO; apply o_call; rfl; kernel_rfl; exact evsE))
        apply wO
        refine ap1 (rep_slot ⟨true, ⟨#[122]⟩⟩ (by decide)) one_ESlot fun a9 c9 F9 => ?_
        repeat (first | apply c_seq | apply c_reg | (apply wO; apply oc; rfl; exact ydE) | apply w_nil | apply n_cd | (apply wg_t; rfl; rfl) | (apply wg_f; rfl; rfl; rfl; rfl) | (apply wg_u; rfl; rfl; rfl) | (apply c_t; rfl) | (apply c_f; rfl) | apply c_skip | apply c_block | apply n_blk | apply c_exit | apply e_hit | apply e_cd | apply e_lp | (apply e_miss; rfl) | apply c_ret | (apply wO; apply o_box; rfl; rfl; rfl; intro _) | (apply wO; apply o_alloc; rfl; intro _) | (apply wO; apply o_st; rfl; rfl; rfl; (first | exact AggC.s | exact OneC.s); rfl; exact rplE; exact putE; rfl) | (apply wO; apply o_bs0; rfl; intro _) | (apply wO; apply o_bs; rfl; rfl; rfl; rfl; exact rptE; exact filE; intro _) | (apply wO; apply o_call; rfl; kernel_rfl; exact evsE))
        refine n_lp ⟨⟨z.y.next, z.y.slots ++ [⟨true, ⟨#[122]⟩⟩]⟩, a9, c9, F9, s6⟩ ⟨by show (z.y.slots ++ [_]).length ≤ 9; simp; omega, hp6.mono (by show _ ≤ B + 502 + 2 * (z.y.slots ++ [_]).length; simp; omega)⟩ (by show 9 - (z.y.slots ++ [_]).length < _; simp; omega)
      · repeat (first | apply c_seq | apply c_reg | (apply wO; apply oc; rfl; exact ydE) | apply w_nil | apply n_cd | (apply wg_t; rfl; rfl) | (apply wg_f; rfl; rfl; rfl; rfl) | (apply wg_u; rfl; rfl; rfl) | (apply c_t; rfl) | (apply c_f; rfl) | apply c_skip | apply c_block | apply n_blk | apply c_exit | apply e_hit | apply e_cd | apply e_lp | (apply e_miss; rfl) | apply c_ret | (apply wO; apply o_box; rfl; rfl; rfl; intro _) | (apply wO; apply o_alloc; rfl; intro _) | (apply wO; apply o_st; rfl; rfl; rfl; (first | exact AggC.s | exact OneC.s); rfl; exact rplE; exact putE; rfl) | (apply wO; apply o_bs0; rfl; intro _) | (apply wO; apply o_bs; rfl; rfl; rfl; rfl; exact rptE; exact filE; intro _) | (apply wO; apply o_call; rfl; kernel_rfl; exact evsE))
        refine t_read (E := ESlot) (xs := z.y.slots) fun F8 => ?_
        refine closeReceiveWindow z.y ?_
        refine ret ⟨z.y, _, _, _, s6⟩ (hp6.mono (by omega)) rfl
    · repeat (first | apply c_seq | apply c_reg | (apply wO; apply oc; rfl; exact ydE) | apply w_nil | apply n_cd | (apply wg_t; rfl; rfl) | (apply wg_f; rfl; rfl; rfl; rfl) | (apply wg_u; rfl; rfl; rfl) | (apply c_t; rfl) | (apply c_f; rfl) | apply c_skip | apply c_block | apply n_blk | apply c_exit | apply e_hit | apply e_cd | apply e_lp | (apply e_miss; rfl) | apply c_ret | (apply wO; apply o_box; rfl; rfl; rfl; intro _) | (apply wO; apply o_alloc; rfl; intro _) | (apply wO; apply o_st; rfl; rfl; rfl; (first | exact AggC.s | exact OneC.s); rfl; exact rplE; exact putE; rfl) | (apply wO; apply o_bs0; rfl; intro _) | (apply wO; apply o_bs; rfl; rfl; rfl; rfl; exact rptE; exact filE; intro _) | (apply wO; apply o_call; rfl; kernel_rfl; exact evsE))
      refine t_read (E := ESlot) fun F8 => ?_
      refine closeReceiveWindow z.y ?_
      refine ret ⟨z.y, _, _, _, s3⟩ (hp.mono (by omega)) rfl
end Go.Proofs.YtidephmobajikaaGreatDoor
/- Draws of receive windows. -/
namespace Go.Proofs.YtidephmobajikaaGreatDoor
open Go.RowKit
structure MiS where
  y : ReceiveWindow
  a : Option Addr
  c : Nat
  F : List Nat
  n : Int
set_option maxRecDepth 100000 in
theorem missing_f (v : Value) (code : List Int) (G : List Nat) : Fn Tryz.prog 17 [v] [.sl EByte v code G] [] (fun (_ : MiS) => True) (fun s => .tuple #[.agg #[.int .i64 s.y.next, .slice s.a s.y.slots.length s.c], .int .i64 s.n]) (fun s => [.isv EReceiveWindow (.agg #[.int .i64 s.y.next, .slice s.a s.y.slots.length s.c]) s.y s.F]) := by
  refine enter Tryz.func17 rfl Tryz.ntmps17 fun w0 => ?_
  refine t_sl (E := EByte) ?_
  rintro a c rfl l1 l2
  repeat (first | apply c_seq | apply c_reg | (apply wO; apply oc; rfl; exact ydE) | apply w_nil | apply n_cd | (apply wg_t; rfl; rfl) | (apply wg_f; rfl; rfl; rfl; rfl) | (apply wg_u; rfl; rfl; rfl) | (apply c_t; rfl) | (apply c_f; rfl) | apply c_skip | apply c_block | apply n_blk | apply c_exit | apply e_hit | apply e_cd | apply e_lp | (apply e_miss; rfl) | apply c_ret | (apply wO; apply o_box; rfl; rfl; rfl; intro _) | (apply wO; apply o_alloc; rfl; intro _) | (apply wO; apply o_st; rfl; rfl; rfl; (first | exact AggC.s | exact OneC.s); rfl; exact rplE; exact putE; rfl) | (apply wO; apply o_bs0; rfl; intro _) | (apply wO; apply o_bs; rfl; rfl; rfl; rfl; exact rptE; exact filE; intro _) | (apply wO; apply o_call; rfl; kernel_rfl; exact evsE))
  refine cf (drawRW_f 0 _ ⟨code, a, c, G⟩ ⟨0, 0⟩ ⟨Nat.le_refl _, by decide, by decide⟩ (by omega)) fun z hz => ?_
  refine t_app ?_
  repeat (first | apply c_seq | apply c_reg | (apply wO; apply oc; rfl; exact ydE) | apply w_nil | apply n_cd | (apply wg_t; rfl; rfl) | (apply wg_f; rfl; rfl; rfl; rfl) | (apply wg_u; rfl; rfl; rfl) | (apply c_t; rfl) | (apply c_f; rfl) | apply c_skip | apply c_block | apply n_blk | apply c_exit | apply e_hit | apply e_cd | apply e_lp | (apply e_miss; rfl) | apply c_ret | (apply wO; apply o_box; rfl; rfl; rfl; intro _) | (apply wO; apply o_alloc; rfl; intro _) | (apply wO; apply o_st; rfl; rfl; rfl; (first | exact AggC.s | exact OneC.s); rfl; exact rplE; exact putE; rfl) | (apply wO; apply o_bs0; rfl; intro _) | (apply wO; apply o_bs; rfl; rfl; rfl; rfl; exact rptE; exact filE; intro _) | (apply wO; apply o_call; rfl; kernel_rfl; exact evsE))
  refine d_start [0] [] ?_
  refine dt 0 ?_
  refine dt 1 ?_
  refine dt 2 ?_
  refine dO 3 (by kernel_rfl) (by rw [List.getElem?_toArray]; rfl) ?_
  apply o_call; rfl; kernel_rfl; exact evsE
  refine cf (ahead_f _ _ ⟨code, a, c, G⟩ z.s z.y _ z.F hz (by omega)) fun q hq => ?_
  refine t_app ?_
  refine dk ?_
  refine dO 4 (by kernel_rfl) (by rw [List.getElem?_toArray]; rfl) ?_
  apply o_st; rfl; rfl; rfl; (first | exact AggC.s | exact OneC.s); rfl; exact rplE; exact putE; rfl
  refine dk ?_
  refine dt 5 ?_
  refine dd ?_
  repeat (first | apply c_seq | apply c_reg | (apply wO; apply oc; rfl; exact ydE) | apply w_nil | apply n_cd | (apply wg_t; rfl; rfl) | (apply wg_f; rfl; rfl; rfl; rfl) | (apply wg_u; rfl; rfl; rfl) | (apply c_t; rfl) | (apply c_f; rfl) | apply c_skip | apply c_block | apply n_blk | apply c_exit | apply e_hit | apply e_cd | apply e_lp | (apply e_miss; rfl) | apply c_ret | (apply wO; apply o_box; rfl; rfl; rfl; intro _) | (apply wO; apply o_alloc; rfl; intro _) | (apply wO; apply o_st; rfl; rfl; rfl; (first | exact AggC.s | exact OneC.s); rfl; exact rplE; exact putE; rfl) | (apply wO; apply o_bs0; rfl; intro _) | (apply wO; apply o_bs; rfl; rfl; rfl; rfl; exact rptE; exact filE; intro _) | (apply wO; apply o_call; rfl; kernel_rfl; exact evsE))
  refine ret ⟨z.y, z.a, z.c, z.F, q.1⟩ trivial rfl
set_option maxRecDepth 100000 in
theorem drawValidRW_f (v : Value) (code : List Int) (G : List Nat) : Fn Tryz.prog 84 [v] [.sl EByte v code G] [] (fun (_ : DjS) => True) (fun s => .agg #[.int .i64 s.y.next, .slice s.a s.y.slots.length s.c]) (fun s => [.isv EReceiveWindow (.agg #[.int .i64 s.y.next, .slice s.a s.y.slots.length s.c]) s.y s.F]) := by
  refine enter Tryz.func84 rfl Tryz.ntmps84 fun w0 => ?_
  refine t_sl (E := EByte) ?_
  rintro a c rfl l1 l2
  repeat (first | apply c_seq | apply c_reg | (apply wO; apply oc; rfl; exact ydE) | apply w_nil | apply n_cd | (apply wg_t; rfl; rfl) | (apply wg_f; rfl; rfl; rfl; rfl) | (apply wg_u; rfl; rfl; rfl) | (apply c_t; rfl) | (apply c_f; rfl) | apply c_skip | apply c_block | apply n_blk | apply c_exit | apply e_hit | apply e_cd | apply e_lp | (apply e_miss; rfl) | apply c_ret | (apply wO; apply o_box; rfl; rfl; rfl; intro _) | (apply wO; apply o_alloc; rfl; intro _) | (apply wO; apply o_st; rfl; rfl; rfl; (first | exact AggC.s | exact OneC.s); rfl; exact rplE; exact putE; rfl) | (apply wO; apply o_bs0; rfl; intro _) | (apply wO; apply o_bs; rfl; rfl; rfl; rfl; exact rptE; exact filE; intro _) | (apply wO; apply o_call; rfl; kernel_rfl; exact evsE))
  refine cf (drawRW_f 0 _ ⟨code, a, c, G⟩ ⟨0, 0⟩ ⟨Nat.le_refl _, by decide, by decide⟩ (by omega)) fun z hz => ?_
  refine t_app ?_
  repeat (first | apply c_seq | apply c_reg | (apply wO; apply oc; rfl; exact ydE) | apply w_nil | apply n_cd | (apply wg_t; rfl; rfl) | (apply wg_f; rfl; rfl; rfl; rfl) | (apply wg_u; rfl; rfl; rfl) | (apply c_t; rfl) | (apply c_f; rfl) | apply c_skip | apply c_block | apply n_blk | apply c_exit | apply e_hit | apply e_cd | apply e_lp | (apply e_miss; rfl) | apply c_ret | (apply wO; apply o_box; rfl; rfl; rfl; intro _) | (apply wO; apply o_alloc; rfl; intro _) | (apply wO; apply o_st; rfl; rfl; rfl; (first | exact AggC.s | exact OneC.s); rfl; exact rplE; exact putE; rfl) | (apply wO; apply o_bs0; rfl; intro _) | (apply wO; apply o_bs; rfl; rfl; rfl; rfl; exact rptE; exact filE; intro _) | (apply wO; apply o_call; rfl; kernel_rfl; exact evsE))
  refine ret z trivial rfl
end Go.Proofs.YtidephmobajikaaGreatDoor
/- The type SendWindow of the exact laws: how it reads, how it is owned; the walks of its size, copy, equality, mark and held. Written by wip/gentypes.py. -/
namespace Go.Proofs.YtidephmobajikaaGreatDoor
open Go.RowKit
structure SendWindow where
  trail : Int
  size : Int
  items : List ByteArray
end Go.Proofs.YtidephmobajikaaGreatDoor
/- Walks of Go's generic library functions on slices of string. Written by wip/genlib.py. -/
namespace Go.Proofs.YtidephmobajikaaGreatDoor
open Go.RowKit
end Go.Proofs.YtidephmobajikaaGreatDoor
/- Walks: the window of a source. -/
namespace Go.Proofs.YtidephmobajikaaGreatDoor
open Go.RowKit

def goodWin (x : SendWindow) : Bool := isSer x.trail && btw 1 x.size 6 && decide ((x.items.length : Int) ≤ x.size) && x.items.all itm
end Go.Proofs.YtidephmobajikaaGreatDoor
/- Walks: DropItems, the program's and the reference's. -/
namespace Go.Proofs.YtidephmobajikaaGreatDoor
open Go.RowKit

end Go.Proofs.YtidephmobajikaaGreatDoor
/- The type Hold of the exact laws: how it reads, how it is owned; the walks of its size, copy, equality, mark and held. Written by wip/gentypes.py. -/
namespace Go.Proofs.YtidephmobajikaaGreatDoor
open Go.RowKit
structure Hold where
  number : Int
  untl : Int
end Go.Proofs.YtidephmobajikaaGreatDoor
/- The type Source of the exact laws: how it reads, how it is owned; the walks of its size, copy, equality, mark and held. Written by wip/gentypes.py. -/
namespace Go.Proofs.YtidephmobajikaaGreatDoor
open Go.RowKit
structure Source where
  window : SendWindow
  clock : Int
  quiet : Int
  holds : List Hold
end Go.Proofs.YtidephmobajikaaGreatDoor
/- Structs of type Source in a walk's state: opened, closed. -/
namespace Go.Proofs.YtidephmobajikaaGreatDoor
open Go.RowKit
section
variable {c : Cx} {fr : Fr} {H : List Pc} {Φ : Gl}
end
end Go.Proofs.YtidephmobajikaaGreatDoor
/- Structs of type Hold in a walk's state: opened, closed. -/
namespace Go.Proofs.YtidephmobajikaaGreatDoor
open Go.RowKit
section
variable {c : Cx} {fr : Fr} {H : List Pc} {Φ : Gl}
end
end Go.Proofs.YtidephmobajikaaGreatDoor
/- Structs of type SendWindow in a walk's state: opened, closed. -/
namespace Go.Proofs.YtidephmobajikaaGreatDoor
open Go.RowKit
section
variable {c : Cx} {fr : Fr} {H : List Pc} {Φ : Gl}
end
end Go.Proofs.YtidephmobajikaaGreatDoor
/- Sources: the check. -/
namespace Go.Proofs.YtidephmobajikaaGreatDoor
open Go.RowKit
end Go.Proofs.YtidephmobajikaaGreatDoor
/- Sources: the check of the reference. -/
namespace Go.Proofs.YtidephmobajikaaGreatDoor
open Go.RowKit
end Go.Proofs.YtidephmobajikaaGreatDoor
/- Walks of Go's generic library functions on slices of impl.Hold. Written by wip/genlib.py. -/
namespace Go.Proofs.YtidephmobajikaaGreatDoor
open Go.RowKit
end Go.Proofs.YtidephmobajikaaGreatDoor
/- Sources: the copy, the holds that are kept. -/
namespace Go.Proofs.YtidephmobajikaaGreatDoor
open Go.RowKit
end Go.Proofs.YtidephmobajikaaGreatDoor
/- Sources: TrimSource of the program. -/
namespace Go.Proofs.YtidephmobajikaaGreatDoor
open Go.RowKit
structure SrcS where
  a : Option Addr
  c : Nat
  a2 : Option Addr
  c2 : Nat
  F : List Nat
structure GoodS (x : Source) : Prop where
  w : goodWin x.window = true
  l : x.window.items.length ≤ 6
  t0 : 0 ≤ x.window.trail
  t1 : x.window.trail ≤ 65535
  k0 : 0 ≤ x.clock
  k1 : x.clock ≤ 9999
  m : x.holds.length ≤ 6
  n : ∀ h ∈ x.holds, isSer h.number = true
  u : ∀ h ∈ x.holds, x.clock + 1 ≤ h.untl
  b : ∀ h ∈ x.holds, h.untl ≤ x.clock + 3
end Go.Proofs.YtidephmobajikaaGreatDoor
/- Sources: what the reference drops, the holds that it keeps. -/
namespace Go.Proofs.YtidephmobajikaaGreatDoor
open Go.RowKit
structure HoS where
  k : Nat
  a : Option Addr
  c : Nat
  F : List Nat
end Go.Proofs.YtidephmobajikaaGreatDoor
/- Sources: TrimSource of the reference. -/
namespace Go.Proofs.YtidephmobajikaaGreatDoor
open Go.RowKit
end Go.Proofs.YtidephmobajikaaGreatDoor
/- The type Packet of the exact laws: how it reads, how it is owned; the walks of its size, copy, equality, mark and held. Written by wip/gentypes.py. -/
namespace Go.Proofs.YtidephmobajikaaGreatDoor
open Go.RowKit
structure Packet where
  kind : Int
  number : Int
  trail : Int
  lead : Int
  data : ByteArray
end Go.Proofs.YtidephmobajikaaGreatDoor
/- slices.Delete on a slice of strings that one owns. -/
namespace Go.Proofs.YtidephmobajikaaGreatDoor
open Go.RowKit Go.Shelf
end Go.Proofs.YtidephmobajikaaGreatDoor
/- A reading of a struct goes over a change that leaves its blocks. Plain: no program in sight. -/
namespace Go.Proofs.YtidephmobajikaaGreatDoor
open Go.RowKit
theorem IsV.frame {α : Type} {E : Elem α} {w w' : World} {v x F} (h : IsV E w v x F) (hF : ∀ b ∈ F, w'.heap[b]? = w.heap[b]?) : IsV E w' v x F := by
  obtain ⟨cs, hv, h⟩ := h; exact ⟨cs, hv, E.frame h hF⟩
end Go.Proofs.YtidephmobajikaaGreatDoor
/- Walks: the lead of a window; an item pushed. -/
namespace Go.Proofs.YtidephmobajikaaGreatDoor
open Go.RowKit
end Go.Proofs.YtidephmobajikaaGreatDoor
/- Walks: PushItem, the program's. -/
namespace Go.Proofs.YtidephmobajikaaGreatDoor
open Go.RowKit
end Go.Proofs.YtidephmobajikaaGreatDoor
/- Walks: the reference's push of an item. -/
namespace Go.Proofs.YtidephmobajikaaGreatDoor
open Go.RowKit
end Go.Proofs.YtidephmobajikaaGreatDoor
/- Sources: SendFrom of the program. -/
namespace Go.Proofs.YtidephmobajikaaGreatDoor
open Go.RowKit
structure PuS where
  a : Option Addr
  c : Nat
  F : List Nat
structure SeS where
  a : Option Addr
  c : Nat
  F : List Nat
  a2 : Option Addr
  c2 : Nat
  F2 : List Nat
end Go.Proofs.YtidephmobajikaaGreatDoor
/- Walks: ResizeWindow, the program's and the reference's. -/
namespace Go.Proofs.YtidephmobajikaaGreatDoor
open Go.RowKit
end Go.Proofs.YtidephmobajikaaGreatDoor
/- Send windows: what is pushed, held, answered, dropped; plain laws. -/
namespace Go.Proofs.YtidephmobajikaaGreatDoor
open Go.RowKit
def spanL (t : Int) (k : Nat) : List Int := (List.range k).map fun i => aft t (i : Nat)
end Go.Proofs.YtidephmobajikaaGreatDoor
/- Structs of type Packet in a walk's state: opened, closed. -/
namespace Go.Proofs.YtidephmobajikaaGreatDoor
open Go.RowKit
section
variable {c : Cx} {fr : Fr} {H : List Pc} {Φ : Gl}
end
end Go.Proofs.YtidephmobajikaaGreatDoor
/- Sources: TickSource of the program. -/
namespace Go.Proofs.YtidephmobajikaaGreatDoor
open Go.RowKit
structure TiS where
  a : Option Addr
  c : Nat
  a2 : Option Addr
  c2 : Nat
  F : List Nat
  ae : Option Addr
  ce : Nat
  Fe : List Nat
end Go.Proofs.YtidephmobajikaaGreatDoor
/- Sources: TickSource of the reference. -/
namespace Go.Proofs.YtidephmobajikaaGreatDoor
open Go.RowKit
end Go.Proofs.YtidephmobajikaaGreatDoor
/- Draws, for the engine: packets. -/
namespace Go.Proofs.YtidephmobajikaaGreatDoor
open Go.RowKit
end Go.Proofs.YtidephmobajikaaGreatDoor
/- Send windows: what is held, answered, told, on both sides. -/
namespace Go.Proofs.YtidephmobajikaaGreatDoor
open Go.RowKit
end Go.Proofs.YtidephmobajikaaGreatDoor
/- Texts that are alike; a code that is too long. -/
namespace Go.Proofs.YtidephmobajikaaGreatDoor
open Go.RowKit
set_option maxRecDepth 100000 in
theorem vTexts_f (v v2 : Value) (xs : List ByteArray) (F F2 : List Nat) : Fn Tryz.prog 12 [v, v2] [.sl EStr v xs F, .sl EStr v2 xs F2] [] (fun (_ : Unit) => True) (fun _ => .bool true) (fun _ => []) := by
  refine enter Tryz.func12 rfl Tryz.ntmps12 fun w0 => ?_
  refine t_sl (v := v) (xs := xs) (F := F) ?_
  rintro a c rfl l1 l2
  refine t_sl (v := v2) (xs := xs) (F := F2) ?_
  rintro a2 c2 rfl l3 l4
  repeat (first | apply c_seq | apply c_reg | (apply wO; apply oc; rfl; exact ydE) | apply w_nil | apply n_cd | (apply wg_t; rfl; rfl) | (apply wg_f; rfl; rfl; rfl; rfl) | (apply wg_u; rfl; rfl; rfl) | (apply c_t; rfl) | (apply c_f; rfl) | apply c_skip | apply c_block | apply n_blk | apply c_exit | apply e_hit | apply e_cd | apply e_lp | (apply e_miss; rfl) | apply c_ret | (apply wO; apply o_box; rfl; rfl; rfl; intro _) | (apply wO; apply o_alloc; rfl; intro _) | (apply wO; apply o_st; rfl; rfl; rfl; (first | exact AggC.s | exact OneC.s); rfl; exact rplE; exact putE; rfl) | (apply wO; apply o_bs0; rfl; intro _) | (apply wO; apply o_bs; rfl; rfl; rfl; rfl; exact rptE; exact filE; intro _) | (apply wO; apply o_call; rfl; kernel_rfl; exact evsE))
  refine c_if rfl (fun h => ?_) (fun h => ?_)
  · exact absurd rfl h
  repeat (first | apply c_seq | apply c_reg | (apply wO; apply oc; rfl; exact ydE) | apply w_nil | apply n_cd | (apply wg_t; rfl; rfl) | (apply wg_f; rfl; rfl; rfl; rfl) | (apply wg_u; rfl; rfl; rfl) | (apply c_t; rfl) | (apply c_f; rfl) | apply c_skip | apply c_block | apply n_blk | apply c_exit | apply e_hit | apply e_cd | apply e_lp | (apply e_miss; rfl) | apply c_ret | (apply wO; apply o_box; rfl; rfl; rfl; intro _) | (apply wO; apply o_alloc; rfl; intro _) | (apply wO; apply o_st; rfl; rfl; rfl; (first | exact AggC.s | exact OneC.s); rfl; exact rplE; exact putE; rfl) | (apply wO; apply o_bs0; rfl; intro _) | (apply wO; apply o_bs; rfl; rfl; rfl; rfl; exact rptE; exact filE; intro _) | (apply wO; apply o_call; rfl; kernel_rfl; exact evsE))
  refine c_loopR [0, 1, 4] (fun k : Nat => [(5, .int .i64 k)]) (fun k => k ≤ xs.length) (fun k => xs.length - k) 0 (Nat.zero_le _) fun k hk => ?_
  repeat (first | apply c_seq | apply c_reg | (apply wO; apply oc; rfl; exact ydE) | apply w_nil | apply n_cd | (apply wg_t; rfl; rfl) | (apply wg_f; rfl; rfl; rfl; rfl) | (apply wg_u; rfl; rfl; rfl) | (apply c_t; rfl) | (apply c_f; rfl) | apply c_skip | apply c_block | apply n_blk | apply c_exit | apply e_hit | apply e_cd | apply e_lp | (apply e_miss; rfl) | apply c_ret | (apply wO; apply o_box; rfl; rfl; rfl; intro _) | (apply wO; apply o_alloc; rfl; intro _) | (apply wO; apply o_st; rfl; rfl; rfl; (first | exact AggC.s | exact OneC.s); rfl; exact rplE; exact putE; rfl) | (apply wO; apply o_bs0; rfl; intro _) | (apply wO; apply o_bs; rfl; rfl; rfl; rfl; exact rptE; exact filE; intro _) | (apply wO; apply o_call; rfl; kernel_rfl; exact evsE))
  refine c_if rfl (fun h3 => ?_) (fun h3 => ?_)
  · have hk3 : k < xs.length := by omega
    refine at_str (a := a) (xs := xs) k ?_
    rintro hi b o e s1
    rw [e]
    refine at_str (a := a2) (xs := xs) k ?_
    rintro hi2 b2 o2 e2 s2
    rw [e2]
    repeat (first | apply c_seq | apply c_reg | (apply wO; apply oc; rfl; exact ydE) | apply w_nil | apply n_cd | (apply wg_t; rfl; rfl) | (apply wg_f; rfl; rfl; rfl; rfl) | (apply wg_u; rfl; rfl; rfl) | (apply c_t; rfl) | (apply c_f; rfl) | apply c_skip | apply c_block | apply n_blk | apply c_exit | apply e_hit | apply e_cd | apply e_lp | (apply e_miss; rfl) | apply c_ret | (apply wO; apply o_box; rfl; rfl; rfl; intro _) | (apply wO; apply o_alloc; rfl; intro _) | (apply wO; apply o_st; rfl; rfl; rfl; (first | exact AggC.s | exact OneC.s); rfl; exact rplE; exact putE; rfl) | (apply wO; apply o_bs0; rfl; intro _) | (apply wO; apply o_bs; rfl; rfl; rfl; rfl; exact rptE; exact filE; intro _))
    refine d_start [0, 1] [] ?_
    refine dt 0 ?_
    refine dt 1 ?_
    refine dt 2 ?_
    refine dt 3 ?_
    refine dt 4 ?_
    refine dt 5 ?_
    refine dt 6 ?_
    refine dt 7 ?_
    refine dt 8 ?_
    refine dd ?_
    repeat (first | apply c_seq | apply c_reg | (apply wO; apply oc; rfl; exact ydE) | apply w_nil | apply n_cd | (apply wg_t; rfl; rfl) | (apply wg_f; rfl; rfl; rfl; rfl) | (apply wg_u; rfl; rfl; rfl) | (apply c_t; rfl) | (apply c_f; rfl) | apply c_skip | apply c_block | apply n_blk | apply c_exit | apply e_hit | apply e_cd | apply e_lp | (apply e_miss; rfl) | apply c_ret | (apply wO; apply o_box; rfl; rfl; rfl; intro _) | (apply wO; apply o_alloc; rfl; intro _) | (apply wO; apply o_st; rfl; rfl; rfl; (first | exact AggC.s | exact OneC.s); rfl; exact rplE; exact putE; rfl) | (apply wO; apply o_bs0; rfl; intro _) | (apply wO; apply o_bs; rfl; rfl; rfl; rfl; exact rptE; exact filE; intro _) | (apply wO; apply o_call; rfl; kernel_rfl; exact evsE))
    refine c_if rfl (fun h4 => ?_) (fun h4 => ?_)
    · exact absurd rfl h4
    repeat (first | apply c_seq | apply c_reg | (apply wO; apply oc; rfl; exact ydE) | apply w_nil | apply n_cd | (apply wg_t; rfl; rfl) | (apply wg_f; rfl; rfl; rfl; rfl) | (apply wg_u; rfl; rfl; rfl) | (apply c_t; rfl) | (apply c_f; rfl) | apply c_skip | apply c_block | apply n_blk | apply c_exit | apply e_hit | apply e_cd | apply e_lp | (apply e_miss; rfl) | apply c_ret | (apply wO; apply o_box; rfl; rfl; rfl; intro _) | (apply wO; apply o_alloc; rfl; intro _) | (apply wO; apply o_st; rfl; rfl; rfl; (first | exact AggC.s | exact OneC.s); rfl; exact rplE; exact putE; rfl) | (apply wO; apply o_bs0; rfl; intro _) | (apply wO; apply o_bs; rfl; rfl; rfl; rfl; exact rptE; exact filE; intro _) | (apply wO; apply o_call; rfl; kernel_rfl; exact evsE))
    refine n_lp (k + 1) hk3 (by omega)
  · repeat (first | apply c_seq | apply c_reg | (apply wO; apply oc; rfl; exact ydE) | apply w_nil | apply n_cd | (apply wg_t; rfl; rfl) | (apply wg_f; rfl; rfl; rfl; rfl) | (apply wg_u; rfl; rfl; rfl) | (apply c_t; rfl) | (apply c_f; rfl) | apply c_skip | apply c_block | apply n_blk | apply c_exit | apply e_hit | apply e_cd | apply e_lp | (apply e_miss; rfl) | apply c_ret | (apply wO; apply o_box; rfl; rfl; rfl; intro _) | (apply wO; apply o_alloc; rfl; intro _) | (apply wO; apply o_st; rfl; rfl; rfl; (first | exact AggC.s | exact OneC.s); rfl; exact rplE; exact putE; rfl) | (apply wO; apply o_bs0; rfl; intro _) | (apply wO; apply o_bs; rfl; rfl; rfl; rfl; exact rptE; exact filE; intro _) | (apply wO; apply o_call; rfl; kernel_rfl; exact evsE))
    refine ret () trivial rfl
set_option maxRecDepth 100000 in
theorem vBig_f (v : Value) (code : List Int) (F : List Nat) : Fn Tryz.prog 7 [v] [.sl EByte v code F] [] (fun (_ : Unit) => True) (fun _ => .bool (decide (65536 < (code.length : Int)))) (fun _ => []) := by
  refine enter Tryz.func7 rfl Tryz.ntmps7 fun w0 => ?_
  refine t_sl (E := EByte) ?_
  rintro a c rfl l1 l2
  repeat (first | apply c_seq | apply c_reg | (apply wO; apply oc; rfl; exact ydE) | apply w_nil | apply n_cd | (apply wg_t; rfl; rfl) | (apply wg_f; rfl; rfl; rfl; rfl) | (apply wg_u; rfl; rfl; rfl) | (apply c_t; rfl) | (apply c_f; rfl) | apply c_skip | apply c_block | apply n_blk | apply c_exit | apply e_hit | apply e_cd | apply e_lp | (apply e_miss; rfl) | apply c_ret | (apply wO; apply o_box; rfl; rfl; rfl; intro _) | (apply wO; apply o_alloc; rfl; intro _) | (apply wO; apply o_st; rfl; rfl; rfl; (first | exact AggC.s | exact OneC.s); rfl; exact rplE; exact putE; rfl) | (apply wO; apply o_bs0; rfl; intro _) | (apply wO; apply o_bs; rfl; rfl; rfl; rfl; exact rptE; exact filE; intro _) | (apply wO; apply o_call; rfl; kernel_rfl; exact evsE))
  refine ret () trivial rfl
end Go.Proofs.YtidephmobajikaaGreatDoor
/- Sources: SendFrom of the reference. -/
namespace Go.Proofs.YtidephmobajikaaGreatDoor
open Go.RowKit
end Go.Proofs.YtidephmobajikaaGreatDoor
/- Send windows: serials that are held; windows and lists that are alike; items pushed, windows resized. -/
namespace Go.Proofs.YtidephmobajikaaGreatDoor
open Go.RowKit
theorem spanL_succ (t : Int) (k : Nat) : spanL t (k + 1) = spanL t k ++ [aft t (k : Nat)] := by unfold spanL; rw [List.range_succ, List.map_append]; rfl
theorem spanL_len (t : Int) (k : Nat) : (spanL t k).length = k := by unfold spanL; simp
theorem rep_int (n : Int) (w : World) : Flat EInt w [.int .i64 n] [n] [] := ⟨_, [], [], [], by simp, by simp, ⟨rfl, rfl⟩, rfl, rfl⟩
structure SpS where
  k : Nat
  a : Option Addr
  c : Nat
  F : List Nat
set_option maxRecDepth 100000 in
theorem span_f (t : Int) (n : Nat) (t0 : 0 ≤ t) (t1 : t ≤ 65535) (hn : n ≤ 65536) : Fn Tryz.prog 100 [.int .i64 t, .int .i64 (n : Nat)] [] [] (fun (_ : Option Addr × Nat × List Nat) => True) (fun s => .slice s.1 (spanL t n).length s.2.1) (fun s => [.ow EInt 3 (.slice s.1 (spanL t n).length s.2.1) (spanL t n) s.2.2]) := by
  refine enter Tryz.func100 rfl Tryz.ntmps100 fun w0 => ?_
  repeat (first | apply c_seq | apply c_reg | (apply wO; apply oc; rfl; exact ydE) | apply w_nil | apply n_cd | (apply wg_t; rfl; rfl) | (apply wg_f; rfl; rfl; rfl; rfl) | (apply wg_u; rfl; rfl; rfl) | (apply c_t; rfl) | (apply c_f; rfl) | apply c_skip | apply c_block | apply n_blk | apply c_exit | apply e_hit | apply e_cd | apply e_lp | (apply e_miss; rfl) | apply c_ret | (apply wO; apply o_box; rfl; rfl; rfl; intro _) | (apply wO; apply o_alloc; rfl; intro _) | (apply wO; apply o_st; rfl; rfl; rfl; (first | exact AggC.s | exact OneC.s); rfl; exact rplE; exact putE; rfl) | (apply wO; apply o_bs0; rfl; intro _) | (apply wO; apply o_bs; rfl; rfl; rfl; rfl; exact rptE; exact filE; intro _) | (apply wO; apply o_call; rfl; kernel_rfl; exact evsE))
  refine t_nilow EInt 3 ?_
  refine c_loopS [0, 4, 7] (fun s : SpS => [(5, .slice s.a (spanL t s.k).length s.c), (8, .int .i64 (s.k : Nat))]) (fun s => [.ow EInt 3 (.slice s.a (spanL t s.k).length s.c) (spanL t s.k) s.F]) (fun s => s.k ≤ n) (fun s => n - s.k) ⟨0, none, 0, []⟩ (Nat.zero_le _) fun s hs => ?_
  obtain ⟨k, a, c, F⟩ := s
  dsimp only at hs ⊢
  have hl := spanL_len t k
  repeat (first | apply c_seq | apply c_reg | (apply wO; apply oc; rfl; exact ydE) | apply w_nil | apply n_cd | (apply wg_t; rfl; rfl) | (apply wg_f; rfl; rfl; rfl; rfl) | (apply wg_u; rfl; rfl; rfl) | (apply c_t; rfl) | (apply c_f; rfl) | apply c_skip | apply c_block | apply n_blk | apply c_exit | apply e_hit | apply e_cd | apply e_lp | (apply e_miss; rfl) | apply c_ret | (apply wO; apply o_box; rfl; rfl; rfl; intro _) | (apply wO; apply o_alloc; rfl; intro _) | (apply wO; apply o_st; rfl; rfl; rfl; (first | exact AggC.s | exact OneC.s); rfl; exact rplE; exact putE; rfl) | (apply wO; apply o_bs0; rfl; intro _) | (apply wO; apply o_bs; rfl; rfl; rfl; rfl; exact rptE; exact filE; intro _) | (apply wO; apply o_call; rfl; kernel_rfl; exact evsE))
  refine c_if rfl (fun h1 => ?_) (fun h1 => ?_)
  · repeat (first | apply c_seq | apply c_reg | (apply wO; apply oc; rfl; exact ydE) | apply w_nil | apply n_cd | (apply wg_t; rfl; rfl) | (apply wg_f; rfl; rfl; rfl; rfl) | (apply wg_u; rfl; rfl; rfl) | (apply c_t; rfl) | (apply c_f; rfl) | apply c_skip | apply c_block | apply n_blk | apply c_exit | apply e_hit | apply e_cd | apply e_lp | (apply e_miss; rfl) | apply c_ret | (apply wO; apply o_box; rfl; rfl; rfl; intro _) | (apply wO; apply o_alloc; rfl; intro _) | (apply wO; apply o_st; rfl; rfl; rfl; (first | exact AggC.s | exact OneC.s); rfl; exact rplE; exact putE; rfl) | (apply wO; apply o_bs0; rfl; intro _) | (apply wO; apply o_bs; rfl; rfl; rfl; rfl; exact rptE; exact filE; intro _) | (apply wO; apply o_call; rfl; kernel_rfl; exact evsE))
    refine ce (fun w s => after_c _ _ _ (by omega) (by omega)) ?_
    repeat (first | apply c_seq | apply c_reg | (apply wO; apply oc; rfl; exact ydE) | apply w_nil | apply n_cd | (apply wg_t; rfl; rfl) | (apply wg_f; rfl; rfl; rfl; rfl) | (apply wg_u; rfl; rfl; rfl) | (apply c_t; rfl) | (apply c_f; rfl) | apply c_skip | apply c_block | apply n_blk | apply c_exit | apply e_hit | apply e_cd | apply e_lp | (apply e_miss; rfl) | apply c_ret | (apply wO; apply o_box; rfl; rfl; rfl; intro _) | (apply wO; apply o_alloc; rfl; intro _) | (apply wO; apply o_st; rfl; rfl; rfl; (first | exact AggC.s | exact OneC.s); rfl; exact rplE; exact putE; rfl) | (apply wO; apply o_bs0; rfl; intro _) | (apply wO; apply o_bs; rfl; rfl; rfl; rfl; exact rptE; exact filE; intro _) | (apply wO; apply o_call; rfl; kernel_rfl; exact evsE))
    apply wO
    refine ap1 (rep_int _) one_EInt fun a2 c2 F2 => ?_
    repeat (first | apply c_seq | apply c_reg | (apply wO; apply oc; rfl; exact ydE) | apply w_nil | apply n_cd | (apply wg_t; rfl; rfl) | (apply wg_f; rfl; rfl; rfl; rfl) | (apply wg_u; rfl; rfl; rfl) | (apply c_t; rfl) | (apply c_f; rfl) | apply c_skip | apply c_block | apply n_blk | apply c_exit | apply e_hit | apply e_cd | apply e_lp | (apply e_miss; rfl) | apply c_ret | (apply wO; apply o_box; rfl; rfl; rfl; intro _) | (apply wO; apply o_alloc; rfl; intro _) | (apply wO; apply o_st; rfl; rfl; rfl; (first | exact AggC.s | exact OneC.s); rfl; exact rplE; exact putE; rfl) | (apply wO; apply o_bs0; rfl; intro _) | (apply wO; apply o_bs; rfl; rfl; rfl; rfl; exact rptE; exact filE; intro _) | (apply wO; apply o_call; rfl; kernel_rfl; exact evsE))
    rw [← spanL_succ]
    refine n_lp ⟨k + 1, a2, c2, F2⟩ (by show k + 1 ≤ n; omega) (by show n - (k + 1) < n - k; omega)
  · have hk : k = n := by omega
    subst hk
    repeat (first | apply c_seq | apply c_reg | (apply wO; apply oc; rfl; exact ydE) | apply w_nil | apply n_cd | (apply wg_t; rfl; rfl) | (apply wg_f; rfl; rfl; rfl; rfl) | (apply wg_u; rfl; rfl; rfl) | (apply c_t; rfl) | (apply c_f; rfl) | apply c_skip | apply c_block | apply n_blk | apply c_exit | apply e_hit | apply e_cd | apply e_lp | (apply e_miss; rfl) | apply c_ret | (apply wO; apply o_box; rfl; rfl; rfl; intro _) | (apply wO; apply o_alloc; rfl; intro _) | (apply wO; apply o_st; rfl; rfl; rfl; (first | exact AggC.s | exact OneC.s); rfl; exact rplE; exact putE; rfl) | (apply wO; apply o_bs0; rfl; intro _) | (apply wO; apply o_bs; rfl; rfl; rfl; rfl; exact rptE; exact filE; intro _) | (apply wO; apply o_call; rfl; kernel_rfl; exact evsE))
    refine ret (a, c, F) trivial rfl
set_option maxRecDepth 100000 in
theorem vInts_f (v v2 : Value) (xs : List Int) (F F2 : List Nat) : Fn Tryz.prog 20 [v, v2] [.sl EInt v xs F, .sl EInt v2 xs F2] [] (fun (_ : Unit) => True) (fun _ => .bool true) (fun _ => []) := by
  refine enter Tryz.func20 rfl Tryz.ntmps20 fun w0 => ?_
  refine t_sl (v := v) (xs := xs) (F := F) ?_
  rintro a c rfl l1 l2
  refine t_sl (v := v2) (xs := xs) (F := F2) ?_
  rintro a2 c2 rfl l3 l4
  repeat (first | apply c_seq | apply c_reg | (apply wO; apply oc; rfl; exact ydE) | apply w_nil | apply n_cd | (apply wg_t; rfl; rfl) | (apply wg_f; rfl; rfl; rfl; rfl) | (apply wg_u; rfl; rfl; rfl) | (apply c_t; rfl) | (apply c_f; rfl) | apply c_skip | apply c_block | apply n_blk | apply c_exit | apply e_hit | apply e_cd | apply e_lp | (apply e_miss; rfl) | apply c_ret | (apply wO; apply o_box; rfl; rfl; rfl; intro _) | (apply wO; apply o_alloc; rfl; intro _) | (apply wO; apply o_st; rfl; rfl; rfl; (first | exact AggC.s | exact OneC.s); rfl; exact rplE; exact putE; rfl) | (apply wO; apply o_bs0; rfl; intro _) | (apply wO; apply o_bs; rfl; rfl; rfl; rfl; exact rptE; exact filE; intro _) | (apply wO; apply o_call; rfl; kernel_rfl; exact evsE))
  refine c_if rfl (fun h => ?_) (fun h => ?_)
  · exact absurd rfl h
  repeat (first | apply c_seq | apply c_reg | (apply wO; apply oc; rfl; exact ydE) | apply w_nil | apply n_cd | (apply wg_t; rfl; rfl) | (apply wg_f; rfl; rfl; rfl; rfl) | (apply wg_u; rfl; rfl; rfl) | (apply c_t; rfl) | (apply c_f; rfl) | apply c_skip | apply c_block | apply n_blk | apply c_exit | apply e_hit | apply e_cd | apply e_lp | (apply e_miss; rfl) | apply c_ret | (apply wO; apply o_box; rfl; rfl; rfl; intro _) | (apply wO; apply o_alloc; rfl; intro _) | (apply wO; apply o_st; rfl; rfl; rfl; (first | exact AggC.s | exact OneC.s); rfl; exact rplE; exact putE; rfl) | (apply wO; apply o_bs0; rfl; intro _) | (apply wO; apply o_bs; rfl; rfl; rfl; rfl; exact rptE; exact filE; intro _) | (apply wO; apply o_call; rfl; kernel_rfl; exact evsE))
  refine c_loopR [0, 1, 4] (fun k : Nat => [(5, .int .i64 k)]) (fun k => k ≤ xs.length) (fun k => xs.length - k) 0 (Nat.zero_le _) fun k hk => ?_
  repeat (first | apply c_seq | apply c_reg | (apply wO; apply oc; rfl; exact ydE) | apply w_nil | apply n_cd | (apply wg_t; rfl; rfl) | (apply wg_f; rfl; rfl; rfl; rfl) | (apply wg_u; rfl; rfl; rfl) | (apply c_t; rfl) | (apply c_f; rfl) | apply c_skip | apply c_block | apply n_blk | apply c_exit | apply e_hit | apply e_cd | apply e_lp | (apply e_miss; rfl) | apply c_ret | (apply wO; apply o_box; rfl; rfl; rfl; intro _) | (apply wO; apply o_alloc; rfl; intro _) | (apply wO; apply o_st; rfl; rfl; rfl; (first | exact AggC.s | exact OneC.s); rfl; exact rplE; exact putE; rfl) | (apply wO; apply o_bs0; rfl; intro _) | (apply wO; apply o_bs; rfl; rfl; rfl; rfl; exact rptE; exact filE; intro _) | (apply wO; apply o_call; rfl; kernel_rfl; exact evsE))
  refine c_if rfl (fun h3 => ?_) (fun h3 => ?_)
  · have hk3 : k < xs.length := by omega
    refine at_int (a := a) (xs := xs) k ?_
    rintro hi b o e
    rw [e]
    refine at_int (a := a2) (xs := xs) k ?_
    rintro hi2 b2 o2 e2
    rw [e2]
    repeat (first | apply c_seq | apply c_reg | (apply wO; apply oc; rfl; exact ydE) | apply w_nil | apply n_cd | (apply wg_t; rfl; rfl) | (apply wg_f; rfl; rfl; rfl; rfl) | (apply wg_u; rfl; rfl; rfl) | (apply c_t; rfl) | (apply c_f; rfl) | apply c_skip | apply c_block | apply n_blk | apply c_exit | apply e_hit | apply e_cd | apply e_lp | (apply e_miss; rfl) | apply c_ret | (apply wO; apply o_box; rfl; rfl; rfl; intro _) | (apply wO; apply o_alloc; rfl; intro _) | (apply wO; apply o_st; rfl; rfl; rfl; (first | exact AggC.s | exact OneC.s); rfl; exact rplE; exact putE; rfl) | (apply wO; apply o_bs0; rfl; intro _) | (apply wO; apply o_bs; rfl; rfl; rfl; rfl; exact rptE; exact filE; intro _))
    refine d_start [0, 1] [] ?_
    refine dt 0 ?_
    refine dt 1 ?_
    refine dt 2 ?_
    refine dt 3 ?_
    refine dt 4 ?_
    refine dt 5 ?_
    refine dt 6 ?_
    refine dt 7 ?_
    refine dt 8 ?_
    refine dd ?_
    repeat (first | apply c_seq | apply c_reg | (apply wO; apply oc; rfl; exact ydE) | apply w_nil | apply n_cd | (apply wg_t; rfl; rfl) | (apply wg_f; rfl; rfl; rfl; rfl) | (apply wg_u; rfl; rfl; rfl) | (apply c_t; rfl) | (apply c_f; rfl) | apply c_skip | apply c_block | apply n_blk | apply c_exit | apply e_hit | apply e_cd | apply e_lp | (apply e_miss; rfl) | apply c_ret | (apply wO; apply o_box; rfl; rfl; rfl; intro _) | (apply wO; apply o_alloc; rfl; intro _) | (apply wO; apply o_st; rfl; rfl; rfl; (first | exact AggC.s | exact OneC.s); rfl; exact rplE; exact putE; rfl) | (apply wO; apply o_bs0; rfl; intro _) | (apply wO; apply o_bs; rfl; rfl; rfl; rfl; exact rptE; exact filE; intro _) | (apply wO; apply o_call; rfl; kernel_rfl; exact evsE))
    refine c_if rfl (fun h4 => ?_) (fun h4 => ?_)
    · exact absurd rfl h4
    repeat (first | apply c_seq | apply c_reg | (apply wO; apply oc; rfl; exact ydE) | apply w_nil | apply n_cd | (apply wg_t; rfl; rfl) | (apply wg_f; rfl; rfl; rfl; rfl) | (apply wg_u; rfl; rfl; rfl) | (apply c_t; rfl) | (apply c_f; rfl) | apply c_skip | apply c_block | apply n_blk | apply c_exit | apply e_hit | apply e_cd | apply e_lp | (apply e_miss; rfl) | apply c_ret | (apply wO; apply o_box; rfl; rfl; rfl; intro _) | (apply wO; apply o_alloc; rfl; intro _) | (apply wO; apply o_st; rfl; rfl; rfl; (first | exact AggC.s | exact OneC.s); rfl; exact rplE; exact putE; rfl) | (apply wO; apply o_bs0; rfl; intro _) | (apply wO; apply o_bs; rfl; rfl; rfl; rfl; exact rptE; exact filE; intro _) | (apply wO; apply o_call; rfl; kernel_rfl; exact evsE))
    refine n_lp (k + 1) hk3 (by omega)
  · repeat (first | apply c_seq | apply c_reg | (apply wO; apply oc; rfl; exact ydE) | apply w_nil | apply n_cd | (apply wg_t; rfl; rfl) | (apply wg_f; rfl; rfl; rfl; rfl) | (apply wg_u; rfl; rfl; rfl) | (apply c_t; rfl) | (apply c_f; rfl) | apply c_skip | apply c_block | apply n_blk | apply c_exit | apply e_hit | apply e_cd | apply e_lp | (apply e_miss; rfl) | apply c_ret | (apply wO; apply o_box; rfl; rfl; rfl; intro _) | (apply wO; apply o_alloc; rfl; intro _) | (apply wO; apply o_st; rfl; rfl; rfl; (first | exact AggC.s | exact OneC.s); rfl; exact rplE; exact putE; rfl) | (apply wO; apply o_bs0; rfl; intro _) | (apply wO; apply o_bs; rfl; rfl; rfl; rfl; exact rptE; exact filE; intro _) | (apply wO; apply o_call; rfl; kernel_rfl; exact evsE))
    refine ret () trivial rfl
end Go.Proofs.YtidephmobajikaaGreatDoor
/- More operations: parts of texts, slices made, functions called by their value; a part of a slice that reads. -/
namespace Go.Proofs.YtidephmobajikaaGreatDoor
open Go.RowKit
section
variable {P : Program} {n : Nat} {fr : Fr} {H : List Pc} {ty : TypeId} {x y z : Operand}
theorem yd_sll {t : TypeId} {s : ByteArray} {kd : IntKind} {i : Int} [hS : StrC P t] (hx : ev fr x = some (.string s)) (hy : ev fr y = some (.int kd i)) (h0 : 0 ≤ i) (h1 : i ≤ s.size) : Yd P n fr H (.slice t x (some y) none none) ty (.string (s.extract i.toNat s.size)) := .mk fun a w d pos aft g hA _ => by
  have h3 : (Instr.sliceAt t (.string s) (some (.int kd i)) none none).run P w = .ok (.string (s.extract i.toNat s.size)) w := by
    rw [run_sliceAt_string (h := hS.u), run_slice_string_l (ht := hS.u) (h0 := h0) (h1 := h1)]
  simp only [execOp, Option.map_none, Option.map_some, hA.ev hx, hA.ev hy, Sem.run_bind, h3, Result.andThen_ok, Sem.run_pure]
theorem yd_slh {t : TypeId} {s : ByteArray} {kd : IntKind} {i : Int} [hS : StrC P t] (hx : ev fr x = some (.string s)) (hy : ev fr y = some (.int kd i)) (h0 : 0 ≤ i) (h1 : i ≤ s.size) : Yd P n fr H (.slice t x none (some y) none) ty (.string (s.extract 0 i.toNat)) := .mk fun a w d pos aft g hA _ => by
  have h3 : (Instr.sliceAt t (.string s) none (some (.int kd i)) none).run P w = .ok (.string (s.extract 0 i.toNat)) w := by
    rw [run_sliceAt_string (h := hS.u), run_slice_string_h (ht := hS.u) (h0 := h0) (h2 := h1)]
  simp only [execOp, Option.map_none, Option.map_some, hA.ev hx, hA.ev hy, Sem.run_bind, h3, Result.andThen_ok, Sem.run_pure]
end
section
variable {c : Cx} {fr : Fr} {H : List Pc} {k : List It} {Φ : Gl} {ops : Array Oper} {rest : List Oper} {d : Nat} {o : Op} {ty : TypeId} {v u : Value} {x y : Operand}
end
end Go.Proofs.YtidephmobajikaaGreatDoor
/- Rows written as wholes: an owned slice as its row and back, copying, appending that grows, functions that are entries of the model, parts of a slice as values. -/
namespace Go.Proofs.YtidephmobajikaaGreatDoor
open Go.RowKit
theorem hsub_refl : ∀ (H : List Pc), HSub H H
  | [] => .nil
  | _ :: R => .cons .here (hsub_refl R)
theorem Flat.all {α : Type} {E : Elem α} {w : World} {cs : List Value} {xs : List α} (h : Flat E w cs xs []) (w' : World) : Flat E w' cs xs [] := h.frame (by simp)
theorem Flat.cutL {α : Type} {E : Elem α} {w : World} {cs : List Value} {xs : List α} (h : Flat E w cs xs []) (i : Nat) (hi : i ≤ xs.length) : Flat E w (cs.take (i * E.sz)) (xs.take i) [] ∧ Flat E w (cs.drop (i * E.sz)) (xs.drop i) [] := by
  rw [← List.take_append_drop i xs] at h
  obtain ⟨c1, c2, G1, G2, rfl, hG, h1, h2⟩ := h.split
  obtain ⟨rfl, rfl⟩ := List.append_eq_nil_iff.1 hG.symm
  have hl := h1.len
  rw [List.length_take, Nat.min_eq_left hi] at hl
  rw [List.take_left' hl, List.drop_left' hl]
  exact ⟨h1, h2⟩
section
variable {P : Program} {n : Nat} {fr : Fr} {H : List Pc} {ty : TypeId} {x y z : Operand}
/-- what stands from i on, aS a value -/
theorem yd_slv {t e m i g o len cp : Nat} {kd : IntKind} {q : Int} [hS : SlC P t e m] (hx : ev fr x = some (.slice (some ⟨g, o, none⟩) len cp)) (hy : ev fr y = some (.int kd q)) (hq : q = (i : Int)) (hi : i ≤ len) (hc : i < cp) (hlc : len ≤ cp) : Yd P n fr H (.slice t x (some y) none none) ty (.slice (some ⟨g, o + i * m, none⟩) (len - i) (cp - i)) := .mk fun ac w d pos aft gd hA _ => by
  subst hq
  have he2 : P.elem t = e := by simp [Program.elem, hS.u]
  have h3 : (Instr.sliceAt t (.slice (some ⟨g, o, none⟩) len cp) (some (.int kd (i : Int))) none none).run P w = .ok (.slice (some ⟨g, o + i * m, none⟩) (len - i) (cp - i)) w := by
    rw [run_sliceAt_slice (h := by rw [he2]; exact hS.u), run_slice_l (ht := by rw [he2]; exact hS.u) (h0 := by omega) (h1 := by omega), he2, size_of hS.s]
    have h0 : ¬ (cp - i = 0) := by omega
    have h0' : ¬ (cp = i) := by omega
    simp [Result.andThen, sliced, h0, h0', Addr.add_lit]
  simp only [execOp, Option.map_none, Option.map_some, hA.ev hx, hA.ev hy, Sem.run_bind, h3, Result.andThen_ok, Sem.run_pure]
end
section
variable {c : Cx} {fr : Fr} {H k' : List Pc} {k : List It} {Φ : Gl} {d : Nat} {o : Op} {ty : TypeId} {v u : Value} {x y : Operand}
end
end Go.Proofs.YtidephmobajikaaGreatDoor
/- Functions bound to a receiver, clearing, loops beside pieces that are not told. -/
namespace Go.Proofs.YtidephmobajikaaGreatDoor
open Go.RowKit
section
variable {P : Program} {n : Nat} {fr : Fr} {H : List Pc} {ty : TypeId}
theorem yd_fnb {f : Nat} {bs caps : List Operand} {us vs : List Value} (hb : Evs fr bs us) (hc : Evs fr caps vs) : Yd P n fr H (.makeFunc (.func f) bs.toArray caps.toArray) ty (.func (.func f) us.toArray vs.toArray) := .mk fun c w d pos aft gd hA _ => by
  simp [execOp, Instr.makeFunc, hA.evs hb, hA.evs hc]
end
section
variable {c : Cx} {fr : Fr} {H : List Pc} {k : List It} {Φ : Gl} {d : Nat} {ty : TypeId} {x : Operand}
theorem o_callb {fo : Operand} {f : Nat} {bd caps : List Value} {aS : List Operand} {ts : Array TypeId} {vs : List Value} (hd : Nat.blt d c.n = true) (hf : ev fr fo = some (.func (.func f) bd.toArray caps.toArray)) (hb : bodyB c.P f = true) (ha : Evs fr aS vs) (h : Cl c fr H d f (bd ++ vs ++ caps) Φ) : On c fr H (some d) (.call { callee := .value fo, args := aS.toArray, argTypes := ts }) ty Φ := ⟨fun _ _ _ => ef_of fun Q a w s g => by
  have e : ∀ pos aft gd, (execOp a.eval ⟨some d, .call { callee := .value fo, args := aS.toArray, argTypes := ts }, ty, pos, aft, gd⟩).run c.P w = (callFunc f (bd ++ vs ++ caps).toArray).run c.P w := by
    intro pos aft gd
    simp [execOp, resolve, Deferred.ofValue, g.ev hf, invoke, g.evs ha]
  rw [e]
  obtain ⟨R, hc, hk⟩ := h.h w s
  refine (body_of hb).upon hc fun e w' hR => ?_
  obtain ⟨v, he, hv⟩ := hk e w' hR
  exact ⟨v, he, hv _ (g.put hd)⟩⟩
/-- where an owned slice of plain elements lies -/
theorem t_head {α : Type} {E : Elem α} (sc : Scal E) {t n cp : Nat} {a : Option Addr} {xs : List α} {F : List Nat} (h0 : xs ≠ [])
    (h : ∀ g, a = some ⟨g, 0, none⟩ → F = [g] → n = xs.length → n ≤ cp → cp ≤ 9223372036854775807 → T c fr H Φ) (hm : .ow E t (.slice a n cp) xs F ∈ H := by (repeat (first | exact .head _ | apply List.Mem.tail)); first | done | fail) : T c fr H Φ := .mk fun ac w s g' => by
  obtain ⟨hnd, ho⟩ := s.get hm
  have hF := ho.scal sc
  rcases ho with ⟨-, h2, -⟩ | ⟨g, cap, cs, rest, G, h1, h2, h3, h4, h5, h6, h7⟩
  · exact absurd h2 h0
  · cases h1
    exact (h g rfl (by simpa [Value.ownBlock] using hF) rfl h3 (by unfold maxLen at h4; omega)).h ac w s g'
theorem Flat.rep0 {α : Type} {E : Elem α} {w : World} {zs : List Value} {z : α} (h : E.rep w zs z []) : ∀ n, Flat E w (List.replicate n zs).flatten (List.replicate n z) []
  | 0 => ⟨rfl, rfl⟩
  | n + 1 => ⟨zs, (List.replicate n zs).flatten, [], [], by simp [List.replicate_succ], by simp, h, Flat.rep0 h n⟩
theorem zeroCells_flat (z : Array Value) (n : Nat) : (Builtin.zeroCells z n).toList = (List.replicate n z.toList).flatten := by
  have := madeCells_flat z n
  exact this
/-- the elements from i on are cleared -/
theorem o_clr {α : Type} {E : Elem α} (sc : Scal E) {t e m b g n cp i : Nat} {zv : Value} {z0 : α} [hS : SlC c.P t e m] [hE : ElT c.P e zv m b] (hz : ∀ w, E.rep w zv.cells.toList z0 []) (one : ∀ u ∈ zv.cells, u.oneCell' = true) (hm : E.sz = m) {xs : List α} {F : List Nat} {S : List Pc}
    (hx : ev fr x = some (.slice (some ⟨g, 0 + i * m, none⟩) (n - i) (cp - i))) (hi : i < n) (hn : n = xs.length) (hp : Pick H (.ow E e (.slice (some ⟨g, 0, none⟩) n cp) xs F) S) (h : T c fr (.ow E e (.slice (some ⟨g, 0, none⟩) n cp) (xs.take i ++ List.replicate (n - i) z0) F :: S) Φ) :
    On c fr H none (.call { callee := .builtin .clear, args := #[x], argTypes := #[t] }) ty Φ := ⟨fun _ _ _ => ef_of fun Q a w s ag => by
  subst hm
  have s1 := s.pick hp
  obtain ⟨hnd, ho⟩ := s1.on (.ow E e (.slice (some ⟨g, 0, none⟩) n cp) xs F) (by simp)
  have hF := ho.scal sc
  rcases ho with ⟨h1, -, -⟩ | ⟨g2, cap, cs, rest, G, h1, h2, h3, h4, h5, h6, h7⟩
  · cases h1
  cases h1
  have hG : G = [] := by rw [h7] at hF; simpa [Value.ownBlock] using hF
  subst hG h7
  have hl := h6.len
  obtain ⟨f1, f2⟩ := h6.cutL i (by omega)
  have hcs := List.take_append_drop (i * E.sz) cs
  have hd1 : (cs.take (i * E.sz)).length = i * E.sz := by have := f1.len; rw [List.length_take (l := xs), Nat.min_eq_left (by omega)] at this; exact this
  have hd2 : (cs.drop (i * E.sz)).length = (xs.length - i) * E.sz := by have := f2.len; rwa [List.length_drop (l := xs)] at this
  have hr := fun ty => run_clear_rows (P := c.P) w t e ty zv hS.u (zeroValue_of hE.i) one g (0 + i * E.sz) (xs.length - i) (cp - i) (by omega)
    (fun j hj => by rw [hE.s] at hj; rw [h2.cell, List.getElem?_eq_getElem (by rw [List.length_append, ← hcs, List.length_append, hd1, hd2]; omega)]; rfl) (fun j _ => h2.frozen _)
  have e1 : ∀ pos aft gd, (execOp a.eval ⟨none, .call { callee := .builtin .clear, args := #[x], argTypes := #[t] }, ty, pos, aft, gd⟩).run c.P w = .ok (.value (.tuple #[])) (w.setCells g (0 + i * E.sz) (Builtin.zeroCells zv.cells (xs.length - i)).toList) := by
    intro pos aft gd
    simp only [execOp, resolve, invoke, builtin, Sem.run_bind, Sem.run_pure, Result.andThen_ok, List.map_toArray, List.map_cons, List.map_nil, ag.ev hx, hr]
  rw [e1]
  have hzl : (Builtin.zeroCells zv.cells (xs.length - i)).toList.length = (xs.length - i) * E.sz := by rw [zeroCells_len, hE.s]
  have R0 : Row w g e (cs.take (i * E.sz) ++ cs.drop (i * E.sz) ++ rest) := by rw [hcs]; exact h2
  have R1 := Row.put (Builtin.zeroCells zv.cells (xs.length - i)).toList _ R0 (p := 0 + i * E.sz) (by omega) (by rw [hzl, hd2])
  have hk := putCells_keep (g := g) (Builtin.zeroCells zv.cells (xs.length - i)).toList w (0 + i * E.sz)
  rw [putCells_eq w g] at R1 hk
  have hW : (Pc.ow E e (.slice (some ⟨g, 0, none⟩) xs.length cp) (xs.take i ++ List.replicate (xs.length - i) z0) [g]).P (w.setCells g (0 + i * E.sz) (Builtin.zeroCells zv.cells (xs.length - i)).toList) := by
    have hll : (xs.take i ++ List.replicate (xs.length - i) z0).length = xs.length := by rw [List.length_append, List.length_take, List.length_replicate]; omega
    have hfl : Flat E (w.setCells g (0 + i * E.sz) (Builtin.zeroCells zv.cells (xs.length - i)).toList) (cs.take (i * E.sz) ++ (Builtin.zeroCells zv.cells (xs.length - i)).toList) (xs.take i ++ List.replicate (xs.length - i) z0) [] := by
      rw [zeroCells_flat]
      exact (f1.all _).append (Flat.rep0 (hz _) _)
    refine ⟨by simp, .inr ⟨g, cp, cs.take (i * E.sz) ++ (Builtin.zeroCells zv.cells (xs.length - i)).toList, rest, [], by rw [hll], R1, by rw [hll]; exact h3, h4, ?_, hfl, rfl⟩⟩
    rw [List.length_append, hzl, hd1, ← Nat.add_mul]
    rw [← h5, hl]
    congr 2
    omega
  exact h.h _ _ (St.turn (M := [.ow E e (.slice (some ⟨g, 0, none⟩) xs.length cp) xs [g]]) (N := [.ow E e (.slice (some ⟨g, 0, none⟩) xs.length cp) (xs.take i ++ List.replicate (xs.length - i) z0) [g]]) s1 (by simpa [List.filter, Pc.mu, fp, Pc.F] using hk) (by intro q hq; rw [List.mem_singleton] at hq; subst hq; exact hW) ⟨by simp, trivial⟩ (by
      intro q hq b hb
      rw [List.mem_singleton] at hq; subst hq
      exact .inr (.inl ⟨_, List.mem_singleton.2 rfl, rfl, hb⟩))) ag⟩
end
end Go.Proofs.YtidephmobajikaaGreatDoor
/- Deleting out of lists of integers, by the engine. -/
namespace Go.Proofs.YtidephmobajikaaGreatDoor
open Go.RowKit
set_option maxRecDepth 100000 in
theorem IdxInt_f (fid : FuncId) (bd caps : List Value) (A : List Pc) (hA : A.all (fun p => !p.mu) = true) (xs : List Int) (a : Option Addr) (c : Nat) (F : List Nat) (p : Int → Bool) (hb : bodyB Tryz.prog fid = true) (hl : xs.length ≤ 1000000000)
    (hp : ∀ x ∈ xs, ∀ w, Hol A w → Calls Tryz.prog fid (bd ++ [(.int .i64 x : Value)] ++ caps).toArray w fun e w' => e = .returned (.bool (p x)) ∧ Below w.heap.size w w') :
    Fn Tryz.prog 192 [.slice a xs.length c, .func (.func fid) bd.toArray caps.toArray] (.sl EInt (.slice a xs.length c) xs F :: A) [] (fun (_ : Unit) => True) (fun _ => .int .i64 (fidx p xs)) (fun _ => []) := by
  refine enter Tryz.func192 rfl Tryz.ntmps192 (fun w0 => ?_) rfl (by simpa [Pc.mu] using hA) .nil
  repeat (first | apply c_seq | apply c_reg | (apply wO; apply oc; rfl; exact ydE) | apply w_nil | apply n_cd | (apply wg_t; rfl; rfl) | (apply wg_f; rfl; rfl; rfl; rfl) | (apply wg_u; rfl; rfl; rfl) | (apply c_t; rfl) | (apply c_f; rfl) | apply c_skip | apply c_block | apply n_blk | apply c_exit | apply e_hit | apply e_cd | apply e_lp | (apply e_miss; rfl) | apply c_ret | (apply wO; apply o_box; rfl; rfl; rfl; intro _) | (apply wO; apply o_alloc; rfl; intro _) | (apply wO; apply o_st; rfl; rfl; rfl; (first | exact AggC.s | exact OneC.s); rfl; exact rplE; exact putE; rfl) | (apply wO; apply o_bs0; rfl; intro _) | (apply wO; apply o_bs; rfl; rfl; rfl; rfl; exact rptE; exact filE; intro _) | (apply wO; apply o_call; rfl; kernel_rfl; exact evsE))
  refine c_loopR [0, 1, 4, 7] (fun k : Nat => [(8, .int .i64 (k : Nat))]) (fun k => k ≤ xs.length ∧ ∀ j (_ : j < k) (hj : j < xs.length), p xs[j] = false) (fun k => xs.length - k) 0 ⟨Nat.zero_le _, fun j h => by omega⟩ fun k hk => ?_
  obtain ⟨hk1, hk2⟩ := hk
  repeat (first | apply c_seq | apply c_reg | (apply wO; apply oc; rfl; exact ydE) | apply w_nil | apply n_cd | (apply wg_t; rfl; rfl) | (apply wg_f; rfl; rfl; rfl; rfl) | (apply wg_u; rfl; rfl; rfl) | (apply c_t; rfl) | (apply c_f; rfl) | apply c_skip | apply c_block | apply n_blk | apply c_exit | apply e_hit | apply e_cd | apply e_lp | (apply e_miss; rfl) | apply c_ret | (apply wO; apply o_box; rfl; rfl; rfl; intro _) | (apply wO; apply o_alloc; rfl; intro _) | (apply wO; apply o_st; rfl; rfl; rfl; (first | exact AggC.s | exact OneC.s); rfl; exact rplE; exact putE; rfl) | (apply wO; apply o_bs0; rfl; intro _) | (apply wO; apply o_bs; rfl; rfl; rfl; rfl; exact rptE; exact filE; intro _) | (apply wO; apply o_call; rfl; kernel_rfl; exact evsE))
  refine c_if rfl (fun h5 => ?_) (fun h5 => ?_)
  · have hh : k < xs.length := by omega
    repeat (first | apply c_seq | apply c_reg | (apply wO; apply oc; rfl; exact ydE) | apply w_nil | apply n_cd | (apply wg_t; rfl; rfl) | (apply wg_f; rfl; rfl; rfl; rfl) | (apply wg_u; rfl; rfl; rfl) | (apply c_t; rfl) | (apply c_f; rfl) | apply c_skip | apply c_block | apply n_blk | apply c_exit | apply e_hit | apply e_cd | apply e_lp | (apply e_miss; rfl) | apply c_ret | (apply wO; apply o_box; rfl; rfl; rfl; intro _) | (apply wO; apply o_alloc; rfl; intro _) | (apply wO; apply o_st; rfl; rfl; rfl; (first | exact AggC.s | exact OneC.s); rfl; exact rplE; exact putE; rfl) | (apply wO; apply o_bs0; rfl; intro _) | (apply wO; apply o_bs; rfl; rfl; rfl; rfl; exact rptE; exact filE; intro _) | (apply wO; apply o_call; rfl; kernel_rfl; exact evsE))
    refine at_int (xs := xs) k ?_
    rintro hi b o e
    rw [e]
    repeat (first | apply c_seq | apply c_reg | (apply wO; apply oc; rfl; exact ydE) | apply w_nil | apply n_cd | (apply wg_t; rfl; rfl) | (apply wg_f; rfl; rfl; rfl; rfl) | (apply wg_u; rfl; rfl; rfl) | (apply c_t; rfl) | (apply c_f; rfl) | apply c_skip | apply c_block | apply n_blk | apply c_exit | apply e_hit | apply e_cd | apply e_lp | (apply e_miss; rfl) | apply c_ret | (apply wO; apply o_box; rfl; rfl; rfl; intro _) | (apply wO; apply o_alloc; rfl; intro _) | (apply wO; apply o_st; rfl; rfl; rfl; (first | exact AggC.s | exact OneC.s); rfl; exact rplE; exact putE; rfl) | (apply wO; apply o_bs0; rfl; intro _) | (apply wO; apply o_bs; rfl; rfl; rfl; rfl; exact rptE; exact filE; intro _) | (apply wO; apply o_call; rfl; kernel_rfl; exact evsE))
    apply wO
    refine o_callb rfl rfl hb evsE ?_
    refine cb (fun w st => hp xs[k] (List.getElem_mem hh) w (fun q hq => st.on q (by simp [hq]))) ?_
    cases hpk : p xs[k]
    · repeat (first | apply c_seq | apply c_reg | (apply wO; apply oc; rfl; exact ydE) | apply w_nil | apply n_cd | (apply wg_t; rfl; rfl) | (apply wg_f; rfl; rfl; rfl; rfl) | (apply wg_u; rfl; rfl; rfl) | (apply c_t; rfl) | (apply c_f; rfl) | apply c_skip | apply c_block | apply n_blk | apply c_exit | apply e_hit | apply e_cd | apply e_lp | (apply e_miss; rfl) | apply c_ret | (apply wO; apply o_box; rfl; rfl; rfl; intro _) | (apply wO; apply o_alloc; rfl; intro _) | (apply wO; apply o_st; rfl; rfl; rfl; (first | exact AggC.s | exact OneC.s); rfl; exact rplE; exact putE; rfl) | (apply wO; apply o_bs0; rfl; intro _) | (apply wO; apply o_bs; rfl; rfl; rfl; rfl; exact rptE; exact filE; intro _) | (apply wO; apply o_call; rfl; kernel_rfl; exact evsE))
      refine t_drop ?_
      refine n_lp (hH := hsub_refl _) (k + 1) ⟨hh, fun j hj h => ?_⟩ (by omega)
      rcases Nat.lt_or_eq_of_le (Nat.lt_succ_iff.1 hj) with h2 | rfl
      · exact hk2 j h2 h
      · exact hpk
    · repeat (first | apply c_seq | apply c_reg | (apply wO; apply oc; rfl; exact ydE) | apply w_nil | apply n_cd | (apply wg_t; rfl; rfl) | (apply wg_f; rfl; rfl; rfl; rfl) | (apply wg_u; rfl; rfl; rfl) | (apply c_t; rfl) | (apply c_f; rfl) | apply c_skip | apply c_block | apply n_blk | apply c_exit | apply e_hit | apply e_cd | apply e_lp | (apply e_miss; rfl) | apply c_ret | (apply wO; apply o_box; rfl; rfl; rfl; intro _) | (apply wO; apply o_alloc; rfl; intro _) | (apply wO; apply o_st; rfl; rfl; rfl; (first | exact AggC.s | exact OneC.s); rfl; exact rplE; exact putE; rfl) | (apply wO; apply o_bs0; rfl; intro _) | (apply wO; apply o_bs; rfl; rfl; rfl; rfl; exact rptE; exact filE; intro _) | (apply wO; apply o_call; rfl; kernel_rfl; exact evsE))
      refine ret () trivial ?_
      rw [fidx_hit hh hk2 hpk]; rfl
  · obtain rfl : k = xs.length := by omega
    repeat (first | apply c_seq | apply c_reg | (apply wO; apply oc; rfl; exact ydE) | apply w_nil | apply n_cd | (apply wg_t; rfl; rfl) | (apply wg_f; rfl; rfl; rfl; rfl) | (apply wg_u; rfl; rfl; rfl) | (apply c_t; rfl) | (apply c_f; rfl) | apply c_skip | apply c_block | apply n_blk | apply c_exit | apply e_hit | apply e_cd | apply e_lp | (apply e_miss; rfl) | apply c_ret | (apply wO; apply o_box; rfl; rfl; rfl; intro _) | (apply wO; apply o_alloc; rfl; intro _) | (apply wO; apply o_st; rfl; rfl; rfl; (first | exact AggC.s | exact OneC.s); rfl; exact rplE; exact putE; rfl) | (apply wO; apply o_bs0; rfl; intro _) | (apply wO; apply o_bs; rfl; rfl; rfl; rfl; exact rptE; exact filE; intro _) | (apply wO; apply o_call; rfl; kernel_rfl; exact evsE))
    refine ret () trivial ?_
    rw [fidx_none (fun j hj => hk2 j hj hj)]; rfl
structure DfInt where
  i : Nat
  j : Nat
  zs : List Int
set_option maxRecDepth 100000 in
theorem DelInt_f (fid : FuncId) (bd caps : List Value) (A : List Pc) (hA : A.all (fun p => !p.mu) = true) (xs : List Int) (a : Option Addr) (c : Nat) (F : List Nat) (p : Int → Bool) (hb : bodyB Tryz.prog fid = true) (hl : xs.length ≤ 1000000000)
    (hp : ∀ x ∈ xs, ∀ w, Hol A w → Calls Tryz.prog fid (bd ++ [(.int .i64 x : Value)] ++ caps).toArray w fun e w' => e = .returned (.bool (p x)) ∧ Below w.heap.size w w') :
    Fn Tryz.prog 145 [.slice a xs.length c, .func (.func fid) bd.toArray caps.toArray] A [.ow EInt 3 (.slice a xs.length c) xs F] (fun (_ : Option Addr × Nat × List Nat) => True)
      (fun z => .slice z.1 (xs.filter fun x => !p x).length z.2.1) (fun z => [.ow EInt 3 (.slice z.1 (xs.filter fun x => !p x).length z.2.1) (xs.filter fun x => !p x) z.2.2]) := by
  refine enter Tryz.func145 rfl Tryz.ntmps145 (fun w0 => ?_) rfl (by simpa [Pc.mu] using hA) (.cons .nil)
  repeat (first | apply c_seq | apply c_reg | (apply wO; apply oc; rfl; exact ydE) | apply w_nil | apply n_cd | (apply wg_t; rfl; rfl) | (apply wg_f; rfl; rfl; rfl; rfl) | (apply wg_u; rfl; rfl; rfl) | (apply c_t; rfl) | (apply c_f; rfl) | apply c_skip | apply c_block | apply n_blk | apply c_exit | apply e_hit | apply e_cd | apply e_lp | (apply e_miss; rfl) | apply c_ret | (apply wO; apply o_box; rfl; rfl; rfl; intro _) | (apply wO; apply o_alloc; rfl; intro _) | (apply wO; apply o_st; rfl; rfl; rfl; (first | exact AggC.s | exact OneC.s); rfl; exact rplE; exact putE; rfl) | (apply wO; apply o_bs0; rfl; intro _) | (apply wO; apply o_bs; rfl; rfl; rfl; rfl; exact rptE; exact filE; intro _) | (apply wO; apply o_call; rfl; kernel_rfl; exact evsE))
  refine cb (fun w st => by
    obtain ⟨Fw, -, hw⟩ := (st.get (p := .ow EInt 3 (.slice a xs.length c) xs F) (by simp)).2.read
    refine (IdxInt_f fid bd caps A hA xs a c Fw p hb hl hp).val w ?_ (by simpa [Pc.mu] using hA)
    intro q hq
    rcases List.mem_cons.1 hq with rfl | hq
    · exact ⟨by decide, hw⟩
    · exact st.on q (by simp [hq])) ?_
  by_cases hany : xs.any p = true
  · obtain ⟨i0, hi0, hfx, hpi, hfl⟩ := fidx_some hany
    rw [hfx]
    refine t_head (xs := xs) scal_EInt (by rintro rfl; simp at hi0) ?_
    rintro g rfl rfl - hc1 hc2
    repeat (first | apply c_seq | apply c_reg | (apply wO; apply oc; rfl; exact ydE) | apply w_nil | apply n_cd | (apply wg_t; rfl; rfl) | (apply wg_f; rfl; rfl; rfl; rfl) | (apply wg_u; rfl; rfl; rfl) | (apply c_t; rfl) | (apply c_f; rfl) | apply c_skip | apply c_block | apply n_blk | apply c_exit | apply e_hit | apply e_cd | apply e_lp | (apply e_miss; rfl) | apply c_ret | (apply wO; apply o_box; rfl; rfl; rfl; intro _) | (apply wO; apply o_alloc; rfl; intro _) | (apply wO; apply o_st; rfl; rfl; rfl; (first | exact AggC.s | exact OneC.s); rfl; exact rplE; exact putE; rfl) | (apply wO; apply o_bs0; rfl; intro _) | (apply wO; apply o_bs; rfl; rfl; rfl; rfl; exact rptE; exact filE; intro _) | (apply wO; apply o_call; rfl; kernel_rfl; exact evsE))
    refine c_loopS [0, 1, 4] (fun s : DfInt => [(5, .int .i64 (s.i : Nat)), (6, .int .i64 (s.j : Nat))]) (fun s => [.ow EInt 3 (.slice (some ⟨g, 0, none⟩) xs.length c) s.zs [g]]) (fun s => s.zs.length = xs.length ∧ s.j ≤ xs.length ∧ s.i < s.j ∧ s.zs.take s.i = (xs.take s.j).filter (fun x => !p x) ∧ s.zs.drop s.j = xs.drop s.j) (fun s => xs.length - s.j) ⟨i0, i0 + 1, xs⟩ ⟨rfl, hi0, Nat.lt_succ_self _, by rw [filter_take_no hi0 (by simp [hpi]), hfl], rfl⟩ fun s hs => ?_
    obtain ⟨i, j, zs⟩ := s
    obtain ⟨h1, h2, h3, h4, h5⟩ := hs
    dsimp only at h1 h2 h3 h4 h5 ⊢
    repeat (first | apply c_seq | apply c_reg | (apply wO; apply oc; rfl; exact ydE) | apply w_nil | apply n_cd | (apply wg_t; rfl; rfl) | (apply wg_f; rfl; rfl; rfl; rfl) | (apply wg_u; rfl; rfl; rfl) | (apply c_t; rfl) | (apply c_f; rfl) | apply c_skip | apply c_block | apply n_blk | apply c_exit | apply e_hit | apply e_cd | apply e_lp | (apply e_miss; rfl) | apply c_ret | (apply wO; apply o_box; rfl; rfl; rfl; intro _) | (apply wO; apply o_alloc; rfl; intro _) | (apply wO; apply o_st; rfl; rfl; rfl; (first | exact AggC.s | exact OneC.s); rfl; exact rplE; exact putE; rfl) | (apply wO; apply o_bs0; rfl; intro _) | (apply wO; apply o_bs; rfl; rfl; rfl; rfl; exact rptE; exact filE; intro _) | (apply wO; apply o_call; rfl; kernel_rfl; exact evsE))
    refine c_if rfl (fun h6 => ?_) (fun h6 => ?_)
    · have hj : j < xs.length := by omega
      have hjz : j < zs.length := by omega
      have hx : zs[j] = xs[j] := by
        have a1 := List.drop_eq_getElem_cons hjz
        have a2 := List.drop_eq_getElem_cons hj
        rw [h5, a2] at a1
        exact (List.cons.inj a1).1.symm
      have hdz : zs.drop (j + 1) = xs.drop (j + 1) := by
        rw [← List.drop_drop, h5, List.drop_drop]
      repeat (first | apply c_seq | apply c_reg | (apply wO; apply oc; rfl; exact ydE) | apply w_nil | apply n_cd | (apply wg_t; rfl; rfl) | (apply wg_f; rfl; rfl; rfl; rfl) | (apply wg_u; rfl; rfl; rfl) | (apply c_t; rfl) | (apply c_f; rfl) | apply c_skip | apply c_block | apply n_blk | apply c_exit | apply e_hit | apply e_cd | apply e_lp | (apply e_miss; rfl) | apply c_ret | (apply wO; apply o_box; rfl; rfl; rfl; intro _) | (apply wO; apply o_alloc; rfl; intro _) | (apply wO; apply o_st; rfl; rfl; rfl; (first | exact AggC.s | exact OneC.s); rfl; exact rplE; exact putE; rfl) | (apply wO; apply o_bs0; rfl; intro _) | (apply wO; apply o_bs; rfl; rfl; rfl; rfl; exact rptE; exact filE; intro _) | (apply wO; apply o_call; rfl; kernel_rfl; exact evsE))
      refine focF (m := 1) scal_EInt j ?_ (by repeat (first | exact .here | apply Pick.there)) rfl hjz
      rintro _ g2 A2 cs2 B2 e1 e2 hc3 hh
      cases e1
      obtain ⟨rfl, -⟩ := hc3 w0
      repeat (first | apply c_seq | apply c_reg | (apply wO; apply oc; rfl; exact ydE) | apply w_nil | apply n_cd | (apply wg_t; rfl; rfl) | (apply wg_f; rfl; rfl; rfl; rfl) | (apply wg_u; rfl; rfl; rfl) | (apply c_t; rfl) | (apply c_f; rfl) | apply c_skip | apply c_block | apply n_blk | apply c_exit | apply e_hit | apply e_cd | apply e_lp | (apply e_miss; rfl) | apply c_ret | (apply wO; apply o_box; rfl; rfl; rfl; intro _) | (apply wO; apply o_alloc; rfl; intro _) | (apply wO; apply o_st; rfl; rfl; rfl; (first | exact AggC.s | exact OneC.s); rfl; exact rplE; exact putE; rfl) | (apply wO; apply o_bs0; rfl; intro _) | (apply wO; apply o_bs; rfl; rfl; rfl; rfl; exact rptE; exact filE; intro _) | (apply wO; apply o_call; rfl; kernel_rfl; exact evsE))
      refine unfF zs[j] hh hc3 ?_
      rw [List.set_getElem_self, hx]
      apply wO
      refine o_callb rfl rfl hb evsE ?_
      refine cb (fun w st => hp xs[j] (List.getElem_mem hj) w (fun q hq => st.on q (by simp [hq]))) ?_
      cases hpj : p xs[j]
      · repeat (first | apply c_seq | apply c_reg | (apply wO; apply oc; rfl; exact ydE) | apply w_nil | apply n_cd | (apply wg_t; rfl; rfl) | (apply wg_f; rfl; rfl; rfl; rfl) | (apply wg_u; rfl; rfl; rfl) | (apply c_t; rfl) | (apply c_f; rfl) | apply c_skip | apply c_block | apply n_blk | apply c_exit | apply e_hit | apply e_cd | apply e_lp | (apply e_miss; rfl) | apply c_ret | (apply wO; apply o_box; rfl; rfl; rfl; intro _) | (apply wO; apply o_alloc; rfl; intro _) | (apply wO; apply o_st; rfl; rfl; rfl; (first | exact AggC.s | exact OneC.s); rfl; exact rplE; exact putE; rfl) | (apply wO; apply o_bs0; rfl; intro _) | (apply wO; apply o_bs; rfl; rfl; rfl; rfl; exact rptE; exact filE; intro _) | (apply wO; apply o_call; rfl; kernel_rfl; exact evsE))
        refine focF (m := 1) scal_EInt i ?_ (by repeat (first | exact .here | apply Pick.there)) rfl (by omega)
        rintro _ g3 A3 cs3 B3 e1 e2 hc4 hh3
        cases e1
        obtain ⟨rfl, -⟩ := hc4 w0
        repeat (first | apply c_seq | apply c_reg | (apply wO; apply oc; rfl; exact ydE) | apply w_nil | apply n_cd | (apply wg_t; rfl; rfl) | (apply wg_f; rfl; rfl; rfl; rfl) | (apply wg_u; rfl; rfl; rfl) | (apply c_t; rfl) | (apply c_f; rfl) | apply c_skip | apply c_block | apply n_blk | apply c_exit | apply e_hit | apply e_cd | apply e_lp | (apply e_miss; rfl) | apply c_ret | (apply wO; apply o_box; rfl; rfl; rfl; intro _) | (apply wO; apply o_alloc; rfl; intro _) | (apply wO; apply o_st; rfl; rfl; rfl; (first | exact AggC.s | exact OneC.s); rfl; exact rplE; exact putE; rfl) | (apply wO; apply o_bs0; rfl; intro _) | (apply wO; apply o_bs; rfl; rfl; rfl; rfl; exact rptE; exact filE; intro _) | (apply wO; apply o_call; rfl; kernel_rfl; exact evsE))
        refine unfF xs[j] hh3 (fun w => ⟨rfl, rfl⟩) ?_
        refine n_lp (hH := hsub_refl _) (⟨i + 1, j + 1, zs.set i xs[j]⟩ : DfInt) ⟨by simp [h1], hj, Nat.succ_lt_succ h3, ?_, ?_⟩ (by dsimp only; omega)
        · dsimp only
          rw [filter_take_yes hj (by simp [hpj]), ← h4, List.take_add_one, List.getElem?_set_self (by omega), List.take_set_of_le (Nat.le_refl _)]
          rfl
        · dsimp only
          rw [List.drop_set_of_lt (by omega), hdz]
      · repeat (first | apply c_seq | apply c_reg | (apply wO; apply oc; rfl; exact ydE) | apply w_nil | apply n_cd | (apply wg_t; rfl; rfl) | (apply wg_f; rfl; rfl; rfl; rfl) | (apply wg_u; rfl; rfl; rfl) | (apply c_t; rfl) | (apply c_f; rfl) | apply c_skip | apply c_block | apply n_blk | apply c_exit | apply e_hit | apply e_cd | apply e_lp | (apply e_miss; rfl) | apply c_ret | (apply wO; apply o_box; rfl; rfl; rfl; intro _) | (apply wO; apply o_alloc; rfl; intro _) | (apply wO; apply o_st; rfl; rfl; rfl; (first | exact AggC.s | exact OneC.s); rfl; exact rplE; exact putE; rfl) | (apply wO; apply o_bs0; rfl; intro _) | (apply wO; apply o_bs; rfl; rfl; rfl; rfl; exact rptE; exact filE; intro _) | (apply wO; apply o_call; rfl; kernel_rfl; exact evsE))
        refine n_lp (hH := hsub_refl _) (⟨i, j + 1, zs⟩ : DfInt) ⟨h1, hj, Nat.lt_succ_of_lt h3, ?_, hdz⟩ (by dsimp only; omega)
        dsimp only
        rw [filter_take_no hj (by simp [hpj]), h4]
    · obtain rfl : j = xs.length := by omega
      have h4' : zs.take i = xs.filter fun x => !p x := by rw [h4, List.take_length]
      have hil : (xs.filter fun x => !p x).length = i := by rw [← h4', List.length_take]; omega
      repeat (first | apply c_seq | apply c_reg | (apply wO; apply oc; rfl; exact ydE) | apply w_nil | apply n_cd | (apply wg_t; rfl; rfl) | (apply wg_f; rfl; rfl; rfl; rfl) | (apply wg_u; rfl; rfl; rfl) | (apply c_t; rfl) | (apply c_f; rfl) | apply c_skip | apply c_block | apply n_blk | apply c_exit | apply e_hit | apply e_cd | apply e_lp | (apply e_miss; rfl) | apply c_ret | (apply wO; apply o_box; rfl; rfl; rfl; intro _) | (apply wO; apply o_alloc; rfl; intro _) | (apply wO; apply o_st; rfl; rfl; rfl; (first | exact AggC.s | exact OneC.s); rfl; exact rplE; exact putE; rfl) | (apply wO; apply o_bs0; rfl; intro _) | (apply wO; apply o_bs; rfl; rfl; rfl; rfl; exact rptE; exact filE; intro _) | (apply wO; apply o_call; rfl; kernel_rfl; exact evsE))
      apply wO; apply oc; rfl; exact yd_slv (i := i) rfl rfl rfl (by omega) (by omega) (by omega)
      repeat (first | apply c_seq | apply c_reg | (apply wO; apply oc; rfl; exact ydE) | apply w_nil | apply n_cd | (apply wg_t; rfl; rfl) | (apply wg_f; rfl; rfl; rfl; rfl) | (apply wg_u; rfl; rfl; rfl) | (apply c_t; rfl) | (apply c_f; rfl) | apply c_skip | apply c_block | apply n_blk | apply c_exit | apply e_hit | apply e_cd | apply e_lp | (apply e_miss; rfl) | apply c_ret | (apply wO; apply o_box; rfl; rfl; rfl; intro _) | (apply wO; apply o_alloc; rfl; intro _) | (apply wO; apply o_st; rfl; rfl; rfl; (first | exact AggC.s | exact OneC.s); rfl; exact rplE; exact putE; rfl) | (apply wO; apply o_bs0; rfl; intro _) | (apply wO; apply o_bs; rfl; rfl; rfl; rfl; exact rptE; exact filE; intro _) | (apply wO; apply o_call; rfl; kernel_rfl; exact evsE))
      apply wO
      refine o_clr (z0 := 0) (n := xs.length) (cp := c) (i := i) (g := g) scal_EInt (fun w => ⟨rfl, rfl⟩) (by decide) rfl rfl h3 h1.symm (by repeat (first | exact .here | apply Pick.there)) ?_
      repeat (first | apply c_seq | apply c_reg | (apply wO; apply oc; rfl; exact ydE) | apply w_nil | apply n_cd | (apply wg_t; rfl; rfl) | (apply wg_f; rfl; rfl; rfl; rfl) | (apply wg_u; rfl; rfl; rfl) | (apply c_t; rfl) | (apply c_f; rfl) | apply c_skip | apply c_block | apply n_blk | apply c_exit | apply e_hit | apply e_cd | apply e_lp | (apply e_miss; rfl) | apply c_ret | (apply wO; apply o_box; rfl; rfl; rfl; intro _) | (apply wO; apply o_alloc; rfl; intro _) | (apply wO; apply o_st; rfl; rfl; rfl; (first | exact AggC.s | exact OneC.s); rfl; exact rplE; exact putE; rfl) | (apply wO; apply o_bs0; rfl; intro _) | (apply wO; apply o_bs; rfl; rfl; rfl; rfl; exact rptE; exact filE; intro _) | (apply wO; apply o_call; rfl; kernel_rfl; exact evsE))
      refine t_take (xs := zs.take i ++ List.replicate (xs.length - i) 0) i (fun F2 => ?_) (by rw [List.length_append, List.length_take, List.length_replicate]; omega)
      rw [List.take_left' (by rw [List.length_take]; omega), h4']
      apply wO; apply oc; rfl; exact yd_slt (i := i) rfl rfl rfl (by omega) (by omega)
      repeat (first | apply c_seq | apply c_reg | (apply wO; apply oc; rfl; exact ydE) | apply w_nil | apply n_cd | (apply wg_t; rfl; rfl) | (apply wg_f; rfl; rfl; rfl; rfl) | (apply wg_u; rfl; rfl; rfl) | (apply c_t; rfl) | (apply c_f; rfl) | apply c_skip | apply c_block | apply n_blk | apply c_exit | apply e_hit | apply e_cd | apply e_lp | (apply e_miss; rfl) | apply c_ret | (apply wO; apply o_box; rfl; rfl; rfl; intro _) | (apply wO; apply o_alloc; rfl; intro _) | (apply wO; apply o_st; rfl; rfl; rfl; (first | exact AggC.s | exact OneC.s); rfl; exact rplE; exact putE; rfl) | (apply wO; apply o_bs0; rfl; intro _) | (apply wO; apply o_bs; rfl; rfl; rfl; rfl; exact rptE; exact filE; intro _) | (apply wO; apply o_call; rfl; kernel_rfl; exact evsE))
      subst hil
      refine ret (_, c, F2) trivial rfl
  · obtain ⟨hfx, hfl⟩ := fidx_all hany
    rw [hfx, hfl]
    repeat (first | apply c_seq | apply c_reg | (apply wO; apply oc; rfl; exact ydE) | apply w_nil | apply n_cd | (apply wg_t; rfl; rfl) | (apply wg_f; rfl; rfl; rfl; rfl) | (apply wg_u; rfl; rfl; rfl) | (apply c_t; rfl) | (apply c_f; rfl) | apply c_skip | apply c_block | apply n_blk | apply c_exit | apply e_hit | apply e_cd | apply e_lp | (apply e_miss; rfl) | apply c_ret | (apply wO; apply o_box; rfl; rfl; rfl; intro _) | (apply wO; apply o_alloc; rfl; intro _) | (apply wO; apply o_st; rfl; rfl; rfl; (first | exact AggC.s | exact OneC.s); rfl; exact rplE; exact putE; rfl) | (apply wO; apply o_bs0; rfl; intro _) | (apply wO; apply o_bs; rfl; rfl; rfl; rfl; exact rptE; exact filE; intro _) | (apply wO; apply o_call; rfl; kernel_rfl; exact evsE))
    refine ret (a, c, F) trivial rfl
end Go.Proofs.YtidephmobajikaaGreatDoor
/- Receive windows: what is missing. -/
namespace Go.Proofs.YtidephmobajikaaGreatDoor
open Go.RowKit
def missL (x : ReceiveWindow) (n : Nat) : List Int := (spanL x.next n).filter fun k => !hasB x k
theorem mem_spanL {t k : Int} {n : Nat} (h : k ∈ spanL t n) : 0 ≤ k ∧ k ≤ 65535 := by
  unfold spanL at h
  obtain ⟨i, -, rfl⟩ := List.mem_map.1 h
  unfold aft; omega
def resMissing (x : ReceiveWindow) (n : Int) : List Int × Bool := if goodRW x && isSer n && !decide (8 < gp x.next n) then (missL x (gp x.next n).toNat, true) else ([], false)
set_option maxRecDepth 100000 in
theorem RWmissing_f (x : ReceiveWindow) (k : Int) (n : Nat) (v : Value) (F : List Nat) (h0 : 0 ≤ x.next) (h1 : x.next ≤ 65535) (h2 : 0 ≤ k) (h3 : k ≤ 65535) (hn : gp x.next k = n) :
    Fn Tryz.prog 81 [v, .int .i64 k] [.isv EReceiveWindow v x F] [] (fun (_ : Option Addr × Nat × List Nat) => True) (fun s => .slice s.1 (missL x n).length s.2.1) (fun s => [.ow EInt 3 (.slice s.1 (missL x n).length s.2.1) (missL x n) s.2.2]) := by
  have hg := gp_bd x.next k
  refine enter Tryz.func81 rfl Tryz.ntmps81 fun w0 => ?_
  refine openReceiveWindow ?_
  rintro a1 c1 F1 rfl l1
  repeat (first | apply c_seq | apply c_reg | (apply wO; apply oc; rfl; exact ydE) | apply w_nil | apply n_cd | (apply wg_t; rfl; rfl) | (apply wg_f; rfl; rfl; rfl; rfl) | (apply wg_u; rfl; rfl; rfl) | (apply c_t; rfl) | (apply c_f; rfl) | apply c_skip | apply c_block | apply n_blk | apply c_exit | apply e_hit | apply e_cd | apply e_lp | (apply e_miss; rfl) | apply c_ret | (apply wO; apply o_box; rfl; rfl; rfl; intro _) | (apply wO; apply o_alloc; rfl; intro _) | (apply wO; apply o_st; rfl; rfl; rfl; (first | exact AggC.s | exact OneC.s); rfl; exact rplE; exact putE; rfl) | (apply wO; apply o_bs0; rfl; intro _) | (apply wO; apply o_bs; rfl; rfl; rfl; rfl; exact rptE; exact filE; intro _) | (apply wO; apply o_call; rfl; kernel_rfl; exact evsE))
  refine d_start [0] [] ?_
  refine dt 0 ?_
  refine dt 1 ?_
  refine dt 2 ?_
  refine dt 3 ?_
  refine dt 4 ?_
  refine dt 7 ?_
  refine dt 8 ?_ (hy := yd_fnb evsE evsE)
  refine dO 5 (by kernel_rfl) (by rw [List.getElem?_toArray]; rfl) ?_
  apply o_call; rfl; kernel_rfl; exact evsE
  refine ce (fun w s => gap_c _ _ _ (by omega) (by omega) (by omega) (by omega)) ?_
  refine dk ?_
  refine dO 6 (by kernel_rfl) (by rw [List.getElem?_toArray]; rfl) ?_
  apply o_call; rfl; kernel_rfl; exact evsE
  rw [hn]
  refine cf (span_f x.next n (by omega) (by omega) (by omega)) fun s _ => ?_
  refine t_app ?_
  refine dk ?_
  refine dO 9 (by kernel_rfl) (by rw [List.getElem?_toArray]; rfl) ?_
  apply o_call; rfl; kernel_rfl; exact evsE
  refine cf (DelInt_f 139 [_] [] [.isv EReceiveWindow (.agg #[.int .i64 x.next, .slice a1 x.slots.length c1]) x F] rfl (spanL x.next n) s.1 s.2.1 s.2.2 (fun k => hasB x k) rfl (by rw [spanL_len]; omega) (fun k hk w hw => ?_)) fun q _ => ?_
  exact (RWhas_f x k _ F h0 h1 (mem_spanL hk).1 (mem_spanL hk).2).val w hw
  refine t_app ?_
  refine dk ?_
  refine dt 10 ?_
  refine dd ?_
  repeat (first | apply c_seq | apply c_reg | (apply wO; apply oc; rfl; exact ydE) | apply w_nil | apply n_cd | (apply wg_t; rfl; rfl) | (apply wg_f; rfl; rfl; rfl; rfl) | (apply wg_u; rfl; rfl; rfl) | (apply c_t; rfl) | (apply c_f; rfl) | apply c_skip | apply c_block | apply n_blk | apply c_exit | apply e_hit | apply e_cd | apply e_lp | (apply e_miss; rfl) | apply c_ret | (apply wO; apply o_box; rfl; rfl; rfl; intro _) | (apply wO; apply o_alloc; rfl; intro _) | (apply wO; apply o_st; rfl; rfl; rfl; (first | exact AggC.s | exact OneC.s); rfl; exact rplE; exact putE; rfl) | (apply wO; apply o_bs0; rfl; intro _) | (apply wO; apply o_bs; rfl; rfl; rfl; rfl; exact rptE; exact filE; intro _) | (apply wO; apply o_call; rfl; kernel_rfl; exact evsE))
  refine ret q trivial rfl
theorem missL_yes {x : ReceiveWindow} {k : Nat} (hk : k ≤ 65535) (h : havAt x.slots k = true) : missL x (k + 1) = missL x k := by
  have e : hasB x (aft x.next k) = true := by unfold hasB; rw [show gp x.next (aft x.next k) = k by unfold gp aft; omega, Int.toNat_natCast, h]
  unfold missL; rw [spanL_succ, List.filter_append, List.filter_cons]; simp [e]
theorem missL_no {x : ReceiveWindow} {k : Nat} (hk : k ≤ 65535) (h : havAt x.slots k = false) : missL x (k + 1) = missL x k ++ [aft x.next k] := by
  have e : hasB x (aft x.next k) = false := by unfold hasB; rw [show gp x.next (aft x.next k) = k by unfold gp aft; omega, Int.toNat_natCast, h]
  unfold missL; rw [spanL_succ, List.filter_append, List.filter_cons]; simp [e]
theorem missL_len (x : ReceiveWindow) (k : Nat) : (missL x k).length ≤ k := by
  unfold missL; have := List.length_filter_le (fun k => !hasB x k) (spanL x.next k); rw [spanL_len] at this; exact this
set_option maxRecDepth 100000 in
theorem l10Missing_f (x : ReceiveWindow) (k : Int) (n : Nat) (v : Value) (F : List Nat) (h0 : 0 ≤ x.next) (h1 : x.next ≤ 65535) (h2 : 0 ≤ k) (h3 : k ≤ 65535) (hn : gp x.next k = n) :
    Fn Tryz.prog 83 [v, .int .i64 k] [.isv EReceiveWindow v x F] [] (fun (_ : Option Addr × Nat × List Nat) => True) (fun s => .slice s.1 (missL x n).length s.2.1) (fun s => [.ow EInt 3 (.slice s.1 (missL x n).length s.2.1) (missL x n) s.2.2]) := by
  have hg := gp_bd x.next k
  refine enter Tryz.func83 rfl Tryz.ntmps83 fun w0 => ?_
  refine openReceiveWindow ?_
  rintro a1 c1 F1 rfl l1
  unfold maxLen at l1
  repeat (first | apply c_seq | apply c_reg | (apply wO; apply oc; rfl; exact ydE) | apply w_nil | apply n_cd | (apply wg_t; rfl; rfl) | (apply wg_f; rfl; rfl; rfl; rfl) | (apply wg_u; rfl; rfl; rfl) | (apply c_t; rfl) | (apply c_f; rfl) | apply c_skip | apply c_block | apply n_blk | apply c_exit | apply e_hit | apply e_cd | apply e_lp | (apply e_miss; rfl) | apply c_ret | (apply wO; apply o_box; rfl; rfl; rfl; intro _) | (apply wO; apply o_alloc; rfl; intro _) | (apply wO; apply o_st; rfl; rfl; rfl; (first | exact AggC.s | exact OneC.s); rfl; exact rplE; exact putE; rfl) | (apply wO; apply o_bs0; rfl; intro _) | (apply wO; apply o_bs; rfl; rfl; rfl; rfl; exact rptE; exact filE; intro _))
  refine t_emp EInt ?_
  repeat (first | apply c_seq | apply c_reg | (apply wO; apply oc; rfl; exact ydE) | apply w_nil | apply n_cd | (apply wg_t; rfl; rfl) | (apply wg_f; rfl; rfl; rfl; rfl) | (apply wg_u; rfl; rfl; rfl) | (apply c_t; rfl) | (apply c_f; rfl) | apply c_skip | apply c_block | apply n_blk | apply c_exit | apply e_hit | apply e_cd | apply e_lp | (apply e_miss; rfl) | apply c_ret | (apply wO; apply o_box; rfl; rfl; rfl; intro _) | (apply wO; apply o_alloc; rfl; intro _) | (apply wO; apply o_st; rfl; rfl; rfl; (first | exact AggC.s | exact OneC.s); rfl; exact rplE; exact putE; rfl) | (apply wO; apply o_bs0; rfl; intro _) | (apply wO; apply o_bs; rfl; rfl; rfl; rfl; exact rptE; exact filE; intro _) | (apply wO; apply o_call; rfl; kernel_rfl; exact evsE))
  refine c_loopS [1, 2, 4] (fun s : SpS => [(5, .slice s.a (missL x s.k).length s.c), (6, .int .i64 (s.k : Nat))]) (fun s => [.ow EInt 3 (.slice s.a (missL x s.k).length s.c) (missL x s.k) s.F]) (fun s => s.k ≤ n) (fun s => n - s.k) ⟨0, _, _, _⟩ (Nat.zero_le _) fun s hs => ?_
  obtain ⟨j, a, c, F5⟩ := s
  dsimp only at hs ⊢
  have hlk := missL_len x j
  repeat (first | apply c_seq | apply c_reg | (apply wO; apply oc; rfl; exact ydE) | apply w_nil | apply n_cd | (apply wg_t; rfl; rfl) | (apply wg_f; rfl; rfl; rfl; rfl) | (apply wg_u; rfl; rfl; rfl) | (apply c_t; rfl) | (apply c_f; rfl) | apply c_skip | apply c_block | apply n_blk | apply c_exit | apply e_hit | apply e_cd | apply e_lp | (apply e_miss; rfl) | apply c_ret | (apply wO; apply o_box; rfl; rfl; rfl; intro _) | (apply wO; apply o_alloc; rfl; intro _) | (apply wO; apply o_st; rfl; rfl; rfl; (first | exact AggC.s | exact OneC.s); rfl; exact rplE; exact putE; rfl) | (apply wO; apply o_bs0; rfl; intro _) | (apply wO; apply o_bs; rfl; rfl; rfl; rfl; exact rptE; exact filE; intro _) | (apply wO; apply o_call; rfl; kernel_rfl; exact evsE))
  refine ce (fun w s => l2Gap_c _ _ _ (by omega) (by omega)) ?_
  rw [hn]
  repeat (first | apply c_seq | apply c_reg | (apply wO; apply oc; rfl; exact ydE) | apply w_nil | apply n_cd | (apply wg_t; rfl; rfl) | (apply wg_f; rfl; rfl; rfl; rfl) | (apply wg_u; rfl; rfl; rfl) | (apply c_t; rfl) | (apply c_f; rfl) | apply c_skip | apply c_block | apply n_blk | apply c_exit | apply e_hit | apply e_cd | apply e_lp | (apply e_miss; rfl) | apply c_ret | (apply wO; apply o_box; rfl; rfl; rfl; intro _) | (apply wO; apply o_alloc; rfl; intro _) | (apply wO; apply o_st; rfl; rfl; rfl; (first | exact AggC.s | exact OneC.s); rfl; exact rplE; exact putE; rfl) | (apply wO; apply o_bs0; rfl; intro _) | (apply wO; apply o_bs; rfl; rfl; rfl; rfl; exact rptE; exact filE; intro _) | (apply wO; apply o_call; rfl; kernel_rfl; exact evsE))
  refine c_if rfl (fun h4 => ?_) (fun h4 => ?_)
  · repeat (first | apply c_seq | apply c_reg | (apply wO; apply oc; rfl; exact ydE) | apply w_nil | apply n_cd | (apply wg_t; rfl; rfl) | (apply wg_f; rfl; rfl; rfl; rfl) | (apply wg_u; rfl; rfl; rfl) | (apply c_t; rfl) | (apply c_f; rfl) | apply c_skip | apply c_block | apply n_blk | apply c_exit | apply e_hit | apply e_cd | apply e_lp | (apply e_miss; rfl) | apply c_ret | (apply wO; apply o_box; rfl; rfl; rfl; intro _) | (apply wO; apply o_alloc; rfl; intro _) | (apply wO; apply o_st; rfl; rfl; rfl; (first | exact AggC.s | exact OneC.s); rfl; exact rplE; exact putE; rfl) | (apply wO; apply o_bs0; rfl; intro _) | (apply wO; apply o_bs; rfl; rfl; rfl; rfl; exact rptE; exact filE; intro _) | (apply wO; apply o_call; rfl; kernel_rfl; exact evsE))
    refine wg_if rfl rfl (fun h5 => ?_) (fun h5 => ?_)
    · repeat (first | apply c_seq | apply c_reg | (apply wO; apply oc; rfl; exact ydE) | apply w_nil | apply n_cd | (apply wg_t; rfl; rfl) | (apply wg_f; rfl; rfl; rfl; rfl) | (apply wg_u; rfl; rfl; rfl) | (apply c_t; rfl) | (apply c_f; rfl) | apply c_skip | apply c_block | apply n_blk | apply c_exit | apply e_hit | apply e_cd | apply e_lp | (apply e_miss; rfl) | apply c_ret | (apply wO; apply o_box; rfl; rfl; rfl; intro _) | (apply wO; apply o_alloc; rfl; intro _) | (apply wO; apply o_st; rfl; rfl; rfl; (first | exact AggC.s | exact OneC.s); rfl; exact rplE; exact putE; rfl) | (apply wO; apply o_bs0; rfl; intro _) | (apply wO; apply o_bs; rfl; rfl; rfl; rfl; exact rptE; exact filE; intro _) | (apply wO; apply o_call; rfl; kernel_rfl; exact evsE))
      refine ce (fun w s => l2After_c _ _ _ (by omega) (by omega)) ?_
      repeat (first | apply c_seq | apply c_reg | (apply wO; apply oc; rfl; exact ydE) | apply w_nil | apply n_cd | (apply wg_t; rfl; rfl) | (apply wg_f; rfl; rfl; rfl; rfl) | (apply wg_u; rfl; rfl; rfl) | (apply c_t; rfl) | (apply c_f; rfl) | apply c_skip | apply c_block | apply n_blk | apply c_exit | apply e_hit | apply e_cd | apply e_lp | (apply e_miss; rfl) | apply c_ret | (apply wO; apply o_box; rfl; rfl; rfl; intro _) | (apply wO; apply o_alloc; rfl; intro _) | (apply wO; apply o_st; rfl; rfl; rfl; (first | exact AggC.s | exact OneC.s); rfl; exact rplE; exact putE; rfl) | (apply wO; apply o_bs0; rfl; intro _) | (apply wO; apply o_bs; rfl; rfl; rfl; rfl; exact rptE; exact filE; intro _) | (apply wO; apply o_call; rfl; kernel_rfl; exact evsE))
      apply wO
      refine ap1 (rep_int _) one_EInt fun a2 c2 F2 => ?_
      repeat (first | apply c_seq | apply c_reg | (apply wO; apply oc; rfl; exact ydE) | apply w_nil | apply n_cd | (apply wg_t; rfl; rfl) | (apply wg_f; rfl; rfl; rfl; rfl) | (apply wg_u; rfl; rfl; rfl) | (apply c_t; rfl) | (apply c_f; rfl) | apply c_skip | apply c_block | apply n_blk | apply c_exit | apply e_hit | apply e_cd | apply e_lp | (apply e_miss; rfl) | apply c_ret | (apply wO; apply o_box; rfl; rfl; rfl; intro _) | (apply wO; apply o_alloc; rfl; intro _) | (apply wO; apply o_st; rfl; rfl; rfl; (first | exact AggC.s | exact OneC.s); rfl; exact rplE; exact putE; rfl) | (apply wO; apply o_bs0; rfl; intro _) | (apply wO; apply o_bs; rfl; rfl; rfl; rfl; exact rptE; exact filE; intro _) | (apply wO; apply o_call; rfl; kernel_rfl; exact evsE))
      rw [← missL_no (by omega) (havAt_ge (by omega))]
      refine n_lp ⟨j + 1, a2, c2, F2⟩ (by show j + 1 ≤ n; omega) (by show n - (j + 1) < n - j; omega)
    · refine atSlot (xs := x.slots) j ?_
      rintro hi2 b2 o2 e s1
      rw [e]
      repeat (first | apply c_seq | apply c_reg | (apply wO; apply oc; rfl; exact ydE) | apply w_nil | apply n_cd | (apply wg_t; rfl; rfl) | (apply wg_f; rfl; rfl; rfl; rfl) | (apply wg_u; rfl; rfl; rfl) | (apply c_t; rfl) | (apply c_f; rfl) | apply c_skip | apply c_block | apply n_blk | apply c_exit | apply e_hit | apply e_cd | apply e_lp | (apply e_miss; rfl) | apply c_ret | (apply wO; apply o_box; rfl; rfl; rfl; intro _) | (apply wO; apply o_alloc; rfl; intro _) | (apply wO; apply o_st; rfl; rfl; rfl; (first | exact AggC.s | exact OneC.s); rfl; exact rplE; exact putE; rfl) | (apply wO; apply o_bs0; rfl; intro _) | (apply wO; apply o_bs; rfl; rfl; rfl; rfl; exact rptE; exact filE; intro _) | (apply wO; apply o_call; rfl; kernel_rfl; exact evsE))
      cases g2 : x.slots[j].hav
      · repeat (first | apply c_seq | apply c_reg | (apply wO; apply oc; rfl; exact ydE) | apply w_nil | apply n_cd | (apply wg_t; rfl; rfl) | (apply wg_f; rfl; rfl; rfl; rfl) | (apply wg_u; rfl; rfl; rfl) | (apply c_t; rfl) | (apply c_f; rfl) | apply c_skip | apply c_block | apply n_blk | apply c_exit | apply e_hit | apply e_cd | apply e_lp | (apply e_miss; rfl) | apply c_ret | (apply wO; apply o_box; rfl; rfl; rfl; intro _) | (apply wO; apply o_alloc; rfl; intro _) | (apply wO; apply o_st; rfl; rfl; rfl; (first | exact AggC.s | exact OneC.s); rfl; exact rplE; exact putE; rfl) | (apply wO; apply o_bs0; rfl; intro _) | (apply wO; apply o_bs; rfl; rfl; rfl; rfl; exact rptE; exact filE; intro _) | (apply wO; apply o_call; rfl; kernel_rfl; exact evsE))
        refine ce (fun w s => l2After_c _ _ _ (by omega) (by omega)) ?_
        repeat (first | apply c_seq | apply c_reg | (apply wO; apply oc; rfl; exact ydE) | apply w_nil | apply n_cd | (apply wg_t; rfl; rfl) | (apply wg_f; rfl; rfl; rfl; rfl) | (apply wg_u; rfl; rfl; rfl) | (apply c_t; rfl) | (apply c_f; rfl) | apply c_skip | apply c_block | apply n_blk | apply c_exit | apply e_hit | apply e_cd | apply e_lp | (apply e_miss; rfl) | apply c_ret | (apply wO; apply o_box; rfl; rfl; rfl; intro _) | (apply wO; apply o_alloc; rfl; intro _) | (apply wO; apply o_st; rfl; rfl; rfl; (first | exact AggC.s | exact OneC.s); rfl; exact rplE; exact putE; rfl) | (apply wO; apply o_bs0; rfl; intro _) | (apply wO; apply o_bs; rfl; rfl; rfl; rfl; exact rptE; exact filE; intro _) | (apply wO; apply o_call; rfl; kernel_rfl; exact evsE))
        apply wO
        refine ap1 (rep_int _) one_EInt fun a2 c2 F2 => ?_
        repeat (first | apply c_seq | apply c_reg | (apply wO; apply oc; rfl; exact ydE) | apply w_nil | apply n_cd | (apply wg_t; rfl; rfl) | (apply wg_f; rfl; rfl; rfl; rfl) | (apply wg_u; rfl; rfl; rfl) | (apply c_t; rfl) | (apply c_f; rfl) | apply c_skip | apply c_block | apply n_blk | apply c_exit | apply e_hit | apply e_cd | apply e_lp | (apply e_miss; rfl) | apply c_ret | (apply wO; apply o_box; rfl; rfl; rfl; intro _) | (apply wO; apply o_alloc; rfl; intro _) | (apply wO; apply o_st; rfl; rfl; rfl; (first | exact AggC.s | exact OneC.s); rfl; exact rplE; exact putE; rfl) | (apply wO; apply o_bs0; rfl; intro _) | (apply wO; apply o_bs; rfl; rfl; rfl; rfl; exact rptE; exact filE; intro _) | (apply wO; apply o_call; rfl; kernel_rfl; exact evsE))
        rw [← missL_no (by omega) (by rw [havAt_lt hi2]; exact g2)]
        refine n_lp ⟨j + 1, a2, c2, F2⟩ (by show j + 1 ≤ n; omega) (by show n - (j + 1) < n - j; omega)
      · repeat (first | apply c_seq | apply c_reg | (apply wO; apply oc; rfl; exact ydE) | apply w_nil | apply n_cd | (apply wg_t; rfl; rfl) | (apply wg_f; rfl; rfl; rfl; rfl) | (apply wg_u; rfl; rfl; rfl) | (apply c_t; rfl) | (apply c_f; rfl) | apply c_skip | apply c_block | apply n_blk | apply c_exit | apply e_hit | apply e_cd | apply e_lp | (apply e_miss; rfl) | apply c_ret | (apply wO; apply o_box; rfl; rfl; rfl; intro _) | (apply wO; apply o_alloc; rfl; intro _) | (apply wO; apply o_st; rfl; rfl; rfl; (first | exact AggC.s | exact OneC.s); rfl; exact rplE; exact putE; rfl) | (apply wO; apply o_bs0; rfl; intro _) | (apply wO; apply o_bs; rfl; rfl; rfl; rfl; exact rptE; exact filE; intro _) | (apply wO; apply o_call; rfl; kernel_rfl; exact evsE))
        rw [← missL_yes (x := x) (k := j) (by omega) (by rw [havAt_lt hi2]; exact g2)]
        refine n_lp ⟨j + 1, a, c, F5⟩ (by show j + 1 ≤ n; omega) (by show n - (j + 1) < n - j; omega)
  · obtain rfl : j = n := by omega
    repeat (first | apply c_seq | apply c_reg | (apply wO; apply oc; rfl; exact ydE) | apply w_nil | apply n_cd | (apply wg_t; rfl; rfl) | (apply wg_f; rfl; rfl; rfl; rfl) | (apply wg_u; rfl; rfl; rfl) | (apply c_t; rfl) | (apply c_f; rfl) | apply c_skip | apply c_block | apply n_blk | apply c_exit | apply e_hit | apply e_cd | apply e_lp | (apply e_miss; rfl) | apply c_ret | (apply wO; apply o_box; rfl; rfl; rfl; intro _) | (apply wO; apply o_alloc; rfl; intro _) | (apply wO; apply o_st; rfl; rfl; rfl; (first | exact AggC.s | exact OneC.s); rfl; exact rplE; exact putE; rfl) | (apply wO; apply o_bs0; rfl; intro _) | (apply wO; apply o_bs; rfl; rfl; rfl; rfl; exact rptE; exact filE; intro _) | (apply wO; apply o_call; rfl; kernel_rfl; exact evsE))
    refine ret (a, c, F5) trivial rfl
set_option maxRecDepth 100000 in
theorem MissingSerials_f (x : ReceiveWindow) (n : Int) (v : Value) (F : List Nat) : Fn Tryz.prog 18 [v, .int .i64 n] [.isv EReceiveWindow v x F] [] (fun (_ : Option Addr × Nat × List Nat) => True) (fun s => .tuple #[.slice s.1 (resMissing x n).1.length s.2.1, .bool (resMissing x n).2]) (fun s => [.ow EInt 3 (.slice s.1 (resMissing x n).1.length s.2.1) (resMissing x n).1 s.2.2]) := by
  have no : (goodRW x && isSer n && !decide (8 < gp x.next n)) = false → resMissing x n = ([], false) := fun h => by unfold resMissing; rw [h]; rfl
  have hg := gp_bd x.next n
  refine enter Tryz.func18 rfl Tryz.ntmps18 fun w0 => ?_
  refine openReceiveWindow ?_
  rintro a1 c1 F1 rfl l1
  repeat (first | apply c_seq | apply c_reg | (apply wO; apply oc; rfl; exact ydE) | apply w_nil | apply n_cd | (apply wg_t; rfl; rfl) | (apply wg_f; rfl; rfl; rfl; rfl) | (apply wg_u; rfl; rfl; rfl) | (apply c_t; rfl) | (apply c_f; rfl) | apply c_skip | apply c_block | apply n_blk | apply c_exit | apply e_hit | apply e_cd | apply e_lp | (apply e_miss; rfl) | apply c_ret | (apply wO; apply o_box; rfl; rfl; rfl; intro _) | (apply wO; apply o_alloc; rfl; intro _) | (apply wO; apply o_st; rfl; rfl; rfl; (first | exact AggC.s | exact OneC.s); rfl; exact rplE; exact putE; rfl) | (apply wO; apply o_bs0; rfl; intro _) | (apply wO; apply o_bs; rfl; rfl; rfl; rfl; exact rptE; exact filE; intro _) | (apply wO; apply o_call; rfl; kernel_rfl; exact evsE))
  refine cb (fun w st => (RWgood_f x _ F).val w (hol1 (st.get (p := .isv EReceiveWindow (.agg #[.int .i64 x.next, .slice a1 x.slots.length c1]) x F) (by simp)))) ?_
  cases g1 : goodRW x
  · rw [no (by rw [g1]; rfl)]
    refine t_nilow EInt 3 ?_
    repeat (first | apply c_seq | apply c_reg | (apply wO; apply oc; rfl; exact ydE) | apply w_nil | apply n_cd | (apply wg_t; rfl; rfl) | (apply wg_f; rfl; rfl; rfl; rfl) | (apply wg_u; rfl; rfl; rfl) | (apply c_t; rfl) | (apply c_f; rfl) | apply c_skip | apply c_block | apply n_blk | apply c_exit | apply e_hit | apply e_cd | apply e_lp | (apply e_miss; rfl) | apply c_ret | (apply wO; apply o_box; rfl; rfl; rfl; intro _) | (apply wO; apply o_alloc; rfl; intro _) | (apply wO; apply o_st; rfl; rfl; rfl; (first | exact AggC.s | exact OneC.s); rfl; exact rplE; exact putE; rfl) | (apply wO; apply o_bs0; rfl; intro _) | (apply wO; apply o_bs; rfl; rfl; rfl; rfl; exact rptE; exact filE; intro _) | (apply wO; apply o_call; rfl; kernel_rfl; exact evsE))
    refine ret (none, 0, []) trivial rfl
  obtain ⟨n0, n1, hl, hit⟩ := good_of g1
  repeat (first | apply c_seq | apply c_reg | (apply wO; apply oc; rfl; exact ydE) | apply w_nil | apply n_cd | (apply wg_t; rfl; rfl) | (apply wg_f; rfl; rfl; rfl; rfl) | (apply wg_u; rfl; rfl; rfl) | (apply c_t; rfl) | (apply c_f; rfl) | apply c_skip | apply c_block | apply n_blk | apply c_exit | apply e_hit | apply e_cd | apply e_lp | (apply e_miss; rfl) | apply c_ret | (apply wO; apply o_box; rfl; rfl; rfl; intro _) | (apply wO; apply o_alloc; rfl; intro _) | (apply wO; apply o_st; rfl; rfl; rfl; (first | exact AggC.s | exact OneC.s); rfl; exact rplE; exact putE; rfl) | (apply wO; apply o_bs0; rfl; intro _) | (apply wO; apply o_bs; rfl; rfl; rfl; rfl; exact rptE; exact filE; intro _) | (apply wO; apply o_call; rfl; kernel_rfl; exact evsE))
  refine ce (fun w s => IsSerial_c _ _) ?_
  cases g2 : isSer n
  · rw [no (by rw [g1, g2]; rfl)]
    refine t_nilow EInt 3 ?_
    repeat (first | apply c_seq | apply c_reg | (apply wO; apply oc; rfl; exact ydE) | apply w_nil | apply n_cd | (apply wg_t; rfl; rfl) | (apply wg_f; rfl; rfl; rfl; rfl) | (apply wg_u; rfl; rfl; rfl) | (apply c_t; rfl) | (apply c_f; rfl) | apply c_skip | apply c_block | apply n_blk | apply c_exit | apply e_hit | apply e_cd | apply e_lp | (apply e_miss; rfl) | apply c_ret | (apply wO; apply o_box; rfl; rfl; rfl; intro _) | (apply wO; apply o_alloc; rfl; intro _) | (apply wO; apply o_st; rfl; rfl; rfl; (first | exact AggC.s | exact OneC.s); rfl; exact rplE; exact putE; rfl) | (apply wO; apply o_bs0; rfl; intro _) | (apply wO; apply o_bs; rfl; rfl; rfl; rfl; exact rptE; exact filE; intro _) | (apply wO; apply o_call; rfl; kernel_rfl; exact evsE))
    refine ret (none, 0, []) trivial rfl
  obtain ⟨k0, k1⟩ := isSer_iff.1 g2
  repeat (first | apply c_seq | apply c_reg | (apply wO; apply oc; rfl; exact ydE) | apply w_nil | apply n_cd | (apply wg_t; rfl; rfl) | (apply wg_f; rfl; rfl; rfl; rfl) | (apply wg_u; rfl; rfl; rfl) | (apply c_t; rfl) | (apply c_f; rfl) | apply c_skip | apply c_block | apply n_blk | apply c_exit | apply e_hit | apply e_cd | apply e_lp | (apply e_miss; rfl) | apply c_ret | (apply wO; apply o_box; rfl; rfl; rfl; intro _) | (apply wO; apply o_alloc; rfl; intro _) | (apply wO; apply o_st; rfl; rfl; rfl; (first | exact AggC.s | exact OneC.s); rfl; exact rplE; exact putE; rfl) | (apply wO; apply o_bs0; rfl; intro _) | (apply wO; apply o_bs; rfl; rfl; rfl; rfl; exact rptE; exact filE; intro _) | (apply wO; apply o_call; rfl; kernel_rfl; exact evsE))
  refine ce (fun w s => gap_c _ _ _ (by omega) (by omega) (by omega) (by omega)) ?_
  repeat (first | apply c_seq | apply c_reg | (apply wO; apply oc; rfl; exact ydE) | apply w_nil | apply n_cd | (apply wg_t; rfl; rfl) | (apply wg_f; rfl; rfl; rfl; rfl) | (apply wg_u; rfl; rfl; rfl) | (apply c_t; rfl) | (apply c_f; rfl) | apply c_skip | apply c_block | apply n_blk | apply c_exit | apply e_hit | apply e_cd | apply e_lp | (apply e_miss; rfl) | apply c_ret | (apply wO; apply o_box; rfl; rfl; rfl; intro _) | (apply wO; apply o_alloc; rfl; intro _) | (apply wO; apply o_st; rfl; rfl; rfl; (first | exact AggC.s | exact OneC.s); rfl; exact rplE; exact putE; rfl) | (apply wO; apply o_bs0; rfl; intro _) | (apply wO; apply o_bs; rfl; rfl; rfl; rfl; exact rptE; exact filE; intro _) | (apply wO; apply o_call; rfl; kernel_rfl; exact evsE))
  refine c_if rfl (fun h => ?_) (fun h => ?_)
  · rw [no (by rw [g1, g2, decide_eq_true (by omega)]; rfl)]
    refine t_nilow EInt 3 ?_
    repeat (first | apply c_seq | apply c_reg | (apply wO; apply oc; rfl; exact ydE) | apply w_nil | apply n_cd | (apply wg_t; rfl; rfl) | (apply wg_f; rfl; rfl; rfl; rfl) | (apply wg_u; rfl; rfl; rfl) | (apply c_t; rfl) | (apply c_f; rfl) | apply c_skip | apply c_block | apply n_blk | apply c_exit | apply e_hit | apply e_cd | apply e_lp | (apply e_miss; rfl) | apply c_ret | (apply wO; apply o_box; rfl; rfl; rfl; intro _) | (apply wO; apply o_alloc; rfl; intro _) | (apply wO; apply o_st; rfl; rfl; rfl; (first | exact AggC.s | exact OneC.s); rfl; exact rplE; exact putE; rfl) | (apply wO; apply o_bs0; rfl; intro _) | (apply wO; apply o_bs; rfl; rfl; rfl; rfl; exact rptE; exact filE; intro _) | (apply wO; apply o_call; rfl; kernel_rfl; exact evsE))
    refine ret (none, 0, []) trivial rfl
  obtain ⟨m, hm⟩ : ∃ m : Nat, gp x.next n = m := ⟨(gp x.next n).toNat, by omega⟩
  rw [show resMissing x n = (missL x m, true) by unfold resMissing; rw [g1, g2, decide_eq_false (by omega), hm]; rfl]
  repeat (first | apply c_seq | apply c_reg | (apply wO; apply oc; rfl; exact ydE) | apply w_nil | apply n_cd | (apply wg_t; rfl; rfl) | (apply wg_f; rfl; rfl; rfl; rfl) | (apply wg_u; rfl; rfl; rfl) | (apply c_t; rfl) | (apply c_f; rfl) | apply c_skip | apply c_block | apply n_blk | apply c_exit | apply e_hit | apply e_cd | apply e_lp | (apply e_miss; rfl) | apply c_ret | (apply wO; apply o_box; rfl; rfl; rfl; intro _) | (apply wO; apply o_alloc; rfl; intro _) | (apply wO; apply o_st; rfl; rfl; rfl; (first | exact AggC.s | exact OneC.s); rfl; exact rplE; exact putE; rfl) | (apply wO; apply o_bs0; rfl; intro _) | (apply wO; apply o_bs; rfl; rfl; rfl; rfl; exact rptE; exact filE; intro _) | (apply wO; apply o_call; rfl; kernel_rfl; exact evsE))
  refine cf (RWmissing_f x n m _ F n0 n1 k0 k1 hm) fun s _ => ?_
  refine t_app ?_
  repeat (first | apply c_seq | apply c_reg | (apply wO; apply oc; rfl; exact ydE) | apply w_nil | apply n_cd | (apply wg_t; rfl; rfl) | (apply wg_f; rfl; rfl; rfl; rfl) | (apply wg_u; rfl; rfl; rfl) | (apply c_t; rfl) | (apply c_f; rfl) | apply c_skip | apply c_block | apply n_blk | apply c_exit | apply e_hit | apply e_cd | apply e_lp | (apply e_miss; rfl) | apply c_ret | (apply wO; apply o_box; rfl; rfl; rfl; intro _) | (apply wO; apply o_alloc; rfl; intro _) | (apply wO; apply o_st; rfl; rfl; rfl; (first | exact AggC.s | exact OneC.s); rfl; exact rplE; exact putE; rfl) | (apply wO; apply o_bs0; rfl; intro _) | (apply wO; apply o_bs; rfl; rfl; rfl; rfl; exact rptE; exact filE; intro _) | (apply wO; apply o_call; rfl; kernel_rfl; exact evsE))
  refine ret s trivial rfl
set_option maxRecDepth 100000 in
theorem specMissingSerials_f (x : ReceiveWindow) (n : Int) (v : Value) (F : List Nat) : Fn Tryz.prog 19 [v, .int .i64 n] [.isv EReceiveWindow v x F] [] (fun (_ : Option Addr × Nat × List Nat) => True) (fun s => .tuple #[.slice s.1 (resMissing x n).1.length s.2.1, .bool (resMissing x n).2]) (fun s => [.ow EInt 3 (.slice s.1 (resMissing x n).1.length s.2.1) (resMissing x n).1 s.2.2]) := by
  have no : (goodRW x && isSer n && !decide (8 < gp x.next n)) = false → resMissing x n = ([], false) := fun h => by unfold resMissing; rw [h]; rfl
  have hg := gp_bd x.next n
  refine enter Tryz.func19 rfl Tryz.ntmps19 fun w0 => ?_
  refine openReceiveWindow ?_
  rintro a1 c1 F1 rfl l1
  repeat (first | apply c_seq | apply c_reg | (apply wO; apply oc; rfl; exact ydE) | apply w_nil | apply n_cd | (apply wg_t; rfl; rfl) | (apply wg_f; rfl; rfl; rfl; rfl) | (apply wg_u; rfl; rfl; rfl) | (apply c_t; rfl) | (apply c_f; rfl) | apply c_skip | apply c_block | apply n_blk | apply c_exit | apply e_hit | apply e_cd | apply e_lp | (apply e_miss; rfl) | apply c_ret | (apply wO; apply o_box; rfl; rfl; rfl; intro _) | (apply wO; apply o_alloc; rfl; intro _) | (apply wO; apply o_st; rfl; rfl; rfl; (first | exact AggC.s | exact OneC.s); rfl; exact rplE; exact putE; rfl) | (apply wO; apply o_bs0; rfl; intro _) | (apply wO; apply o_bs; rfl; rfl; rfl; rfl; exact rptE; exact filE; intro _) | (apply wO; apply o_call; rfl; kernel_rfl; exact evsE))
  refine cb (fun w st => (l10Good_f x _ F).val w (hol1 (st.get (p := .isv EReceiveWindow (.agg #[.int .i64 x.next, .slice a1 x.slots.length c1]) x F) (by simp)))) ?_
  cases g1 : goodRW x
  · rw [no (by rw [g1]; rfl)]
    repeat (first | apply c_seq | apply c_reg | (apply wO; apply oc; rfl; exact ydE) | apply w_nil | apply n_cd | (apply wg_t; rfl; rfl) | (apply wg_f; rfl; rfl; rfl; rfl) | (apply wg_u; rfl; rfl; rfl) | (apply c_t; rfl) | (apply c_f; rfl) | apply c_skip | apply c_block | apply n_blk | apply c_exit | apply e_hit | apply e_cd | apply e_lp | (apply e_miss; rfl) | apply c_ret | (apply wO; apply o_box; rfl; rfl; rfl; intro _) | (apply wO; apply o_alloc; rfl; intro _) | (apply wO; apply o_st; rfl; rfl; rfl; (first | exact AggC.s | exact OneC.s); rfl; exact rplE; exact putE; rfl) | (apply wO; apply o_bs0; rfl; intro _) | (apply wO; apply o_bs; rfl; rfl; rfl; rfl; exact rptE; exact filE; intro _))
    refine t_emp EInt ?_
    repeat (first | apply c_seq | apply c_reg | (apply wO; apply oc; rfl; exact ydE) | apply w_nil | apply n_cd | (apply wg_t; rfl; rfl) | (apply wg_f; rfl; rfl; rfl; rfl) | (apply wg_u; rfl; rfl; rfl) | (apply c_t; rfl) | (apply c_f; rfl) | apply c_skip | apply c_block | apply n_blk | apply c_exit | apply e_hit | apply e_cd | apply e_lp | (apply e_miss; rfl) | apply c_ret | (apply wO; apply o_box; rfl; rfl; rfl; intro _) | (apply wO; apply o_alloc; rfl; intro _) | (apply wO; apply o_st; rfl; rfl; rfl; (first | exact AggC.s | exact OneC.s); rfl; exact rplE; exact putE; rfl) | (apply wO; apply o_bs0; rfl; intro _) | (apply wO; apply o_bs; rfl; rfl; rfl; rfl; exact rptE; exact filE; intro _) | (apply wO; apply o_call; rfl; kernel_rfl; exact evsE))
    refine ret (_, _, _) trivial rfl
  obtain ⟨n0, n1, hl, hit⟩ := good_of g1
  repeat (first | apply c_seq | apply c_reg | (apply wO; apply oc; rfl; exact ydE) | apply w_nil | apply n_cd | (apply wg_t; rfl; rfl) | (apply wg_f; rfl; rfl; rfl; rfl) | (apply wg_u; rfl; rfl; rfl) | (apply c_t; rfl) | (apply c_f; rfl) | apply c_skip | apply c_block | apply n_blk | apply c_exit | apply e_hit | apply e_cd | apply e_lp | (apply e_miss; rfl) | apply c_ret | (apply wO; apply o_box; rfl; rfl; rfl; intro _) | (apply wO; apply o_alloc; rfl; intro _) | (apply wO; apply o_st; rfl; rfl; rfl; (first | exact AggC.s | exact OneC.s); rfl; exact rplE; exact putE; rfl) | (apply wO; apply o_bs0; rfl; intro _) | (apply wO; apply o_bs; rfl; rfl; rfl; rfl; exact rptE; exact filE; intro _) | (apply wO; apply o_call; rfl; kernel_rfl; exact evsE))
  refine ce (fun w s => l2Good_c _ _) ?_
  cases g2 : isSer n
  · rw [no (by rw [g1, g2]; rfl)]
    repeat (first | apply c_seq | apply c_reg | (apply wO; apply oc; rfl; exact ydE) | apply w_nil | apply n_cd | (apply wg_t; rfl; rfl) | (apply wg_f; rfl; rfl; rfl; rfl) | (apply wg_u; rfl; rfl; rfl) | (apply c_t; rfl) | (apply c_f; rfl) | apply c_skip | apply c_block | apply n_blk | apply c_exit | apply e_hit | apply e_cd | apply e_lp | (apply e_miss; rfl) | apply c_ret | (apply wO; apply o_box; rfl; rfl; rfl; intro _) | (apply wO; apply o_alloc; rfl; intro _) | (apply wO; apply o_st; rfl; rfl; rfl; (first | exact AggC.s | exact OneC.s); rfl; exact rplE; exact putE; rfl) | (apply wO; apply o_bs0; rfl; intro _) | (apply wO; apply o_bs; rfl; rfl; rfl; rfl; exact rptE; exact filE; intro _))
    refine t_emp EInt ?_
    repeat (first | apply c_seq | apply c_reg | (apply wO; apply oc; rfl; exact ydE) | apply w_nil | apply n_cd | (apply wg_t; rfl; rfl) | (apply wg_f; rfl; rfl; rfl; rfl) | (apply wg_u; rfl; rfl; rfl) | (apply c_t; rfl) | (apply c_f; rfl) | apply c_skip | apply c_block | apply n_blk | apply c_exit | apply e_hit | apply e_cd | apply e_lp | (apply e_miss; rfl) | apply c_ret | (apply wO; apply o_box; rfl; rfl; rfl; intro _) | (apply wO; apply o_alloc; rfl; intro _) | (apply wO; apply o_st; rfl; rfl; rfl; (first | exact AggC.s | exact OneC.s); rfl; exact rplE; exact putE; rfl) | (apply wO; apply o_bs0; rfl; intro _) | (apply wO; apply o_bs; rfl; rfl; rfl; rfl; exact rptE; exact filE; intro _) | (apply wO; apply o_call; rfl; kernel_rfl; exact evsE))
    refine ret (_, _, _) trivial rfl
  obtain ⟨k0, k1⟩ := isSer_iff.1 g2
  repeat (first | apply c_seq | apply c_reg | (apply wO; apply oc; rfl; exact ydE) | apply w_nil | apply n_cd | (apply wg_t; rfl; rfl) | (apply wg_f; rfl; rfl; rfl; rfl) | (apply wg_u; rfl; rfl; rfl) | (apply c_t; rfl) | (apply c_f; rfl) | apply c_skip | apply c_block | apply n_blk | apply c_exit | apply e_hit | apply e_cd | apply e_lp | (apply e_miss; rfl) | apply c_ret | (apply wO; apply o_box; rfl; rfl; rfl; intro _) | (apply wO; apply o_alloc; rfl; intro _) | (apply wO; apply o_st; rfl; rfl; rfl; (first | exact AggC.s | exact OneC.s); rfl; exact rplE; exact putE; rfl) | (apply wO; apply o_bs0; rfl; intro _) | (apply wO; apply o_bs; rfl; rfl; rfl; rfl; exact rptE; exact filE; intro _) | (apply wO; apply o_call; rfl; kernel_rfl; exact evsE))
  refine ce (fun w s => l2Gap_c _ _ _ (by omega) (by omega)) ?_
  repeat (first | apply c_seq | apply c_reg | (apply wO; apply oc; rfl; exact ydE) | apply w_nil | apply n_cd | (apply wg_t; rfl; rfl) | (apply wg_f; rfl; rfl; rfl; rfl) | (apply wg_u; rfl; rfl; rfl) | (apply c_t; rfl) | (apply c_f; rfl) | apply c_skip | apply c_block | apply n_blk | apply c_exit | apply e_hit | apply e_cd | apply e_lp | (apply e_miss; rfl) | apply c_ret | (apply wO; apply o_box; rfl; rfl; rfl; intro _) | (apply wO; apply o_alloc; rfl; intro _) | (apply wO; apply o_st; rfl; rfl; rfl; (first | exact AggC.s | exact OneC.s); rfl; exact rplE; exact putE; rfl) | (apply wO; apply o_bs0; rfl; intro _) | (apply wO; apply o_bs; rfl; rfl; rfl; rfl; exact rptE; exact filE; intro _) | (apply wO; apply o_call; rfl; kernel_rfl; exact evsE))
  refine c_if rfl (fun h => ?_) (fun h => ?_)
  · rw [no (by rw [g1, g2, decide_eq_true (by omega)]; rfl)]
    repeat (first | apply c_seq | apply c_reg | (apply wO; apply oc; rfl; exact ydE) | apply w_nil | apply n_cd | (apply wg_t; rfl; rfl) | (apply wg_f; rfl; rfl; rfl; rfl) | (apply wg_u; rfl; rfl; rfl) | (apply c_t; rfl) | (apply c_f; rfl) | apply c_skip | apply c_block | apply n_blk | apply c_exit | apply e_hit | apply e_cd | apply e_lp | (apply e_miss; rfl) | apply c_ret | (apply wO; apply o_box; rfl; rfl; rfl; intro _) | (apply wO; apply o_alloc; rfl; intro _) | (apply wO; apply o_st; rfl; rfl; rfl; (first | exact AggC.s | exact OneC.s); rfl; exact rplE; exact putE; rfl) | (apply wO; apply o_bs0; rfl; intro _) | (apply wO; apply o_bs; rfl; rfl; rfl; rfl; exact rptE; exact filE; intro _))
    refine t_emp EInt ?_
    repeat (first | apply c_seq | apply c_reg | (apply wO; apply oc; rfl; exact ydE) | apply w_nil | apply n_cd | (apply wg_t; rfl; rfl) | (apply wg_f; rfl; rfl; rfl; rfl) | (apply wg_u; rfl; rfl; rfl) | (apply c_t; rfl) | (apply c_f; rfl) | apply c_skip | apply c_block | apply n_blk | apply c_exit | apply e_hit | apply e_cd | apply e_lp | (apply e_miss; rfl) | apply c_ret | (apply wO; apply o_box; rfl; rfl; rfl; intro _) | (apply wO; apply o_alloc; rfl; intro _) | (apply wO; apply o_st; rfl; rfl; rfl; (first | exact AggC.s | exact OneC.s); rfl; exact rplE; exact putE; rfl) | (apply wO; apply o_bs0; rfl; intro _) | (apply wO; apply o_bs; rfl; rfl; rfl; rfl; exact rptE; exact filE; intro _) | (apply wO; apply o_call; rfl; kernel_rfl; exact evsE))
    refine ret (_, _, _) trivial rfl
  obtain ⟨m, hm⟩ : ∃ m : Nat, gp x.next n = m := ⟨(gp x.next n).toNat, by omega⟩
  rw [show resMissing x n = (missL x m, true) by unfold resMissing; rw [g1, g2, decide_eq_false (by omega), hm]; rfl]
  repeat (first | apply c_seq | apply c_reg | (apply wO; apply oc; rfl; exact ydE) | apply w_nil | apply n_cd | (apply wg_t; rfl; rfl) | (apply wg_f; rfl; rfl; rfl; rfl) | (apply wg_u; rfl; rfl; rfl) | (apply c_t; rfl) | (apply c_f; rfl) | apply c_skip | apply c_block | apply n_blk | apply c_exit | apply e_hit | apply e_cd | apply e_lp | (apply e_miss; rfl) | apply c_ret | (apply wO; apply o_box; rfl; rfl; rfl; intro _) | (apply wO; apply o_alloc; rfl; intro _) | (apply wO; apply o_st; rfl; rfl; rfl; (first | exact AggC.s | exact OneC.s); rfl; exact rplE; exact putE; rfl) | (apply wO; apply o_bs0; rfl; intro _) | (apply wO; apply o_bs; rfl; rfl; rfl; rfl; exact rptE; exact filE; intro _) | (apply wO; apply o_call; rfl; kernel_rfl; exact evsE))
  refine cf (l10Missing_f x n m _ F n0 n1 k0 k1 hm) fun s _ => ?_
  refine t_app ?_
  repeat (first | apply c_seq | apply c_reg | (apply wO; apply oc; rfl; exact ydE) | apply w_nil | apply n_cd | (apply wg_t; rfl; rfl) | (apply wg_f; rfl; rfl; rfl; rfl) | (apply wg_u; rfl; rfl; rfl) | (apply c_t; rfl) | (apply c_f; rfl) | apply c_skip | apply c_block | apply n_blk | apply c_exit | apply e_hit | apply e_cd | apply e_lp | (apply e_miss; rfl) | apply c_ret | (apply wO; apply o_box; rfl; rfl; rfl; intro _) | (apply wO; apply o_alloc; rfl; intro _) | (apply wO; apply o_st; rfl; rfl; rfl; (first | exact AggC.s | exact OneC.s); rfl; exact rplE; exact putE; rfl) | (apply wO; apply o_bs0; rfl; intro _) | (apply wO; apply o_bs; rfl; rfl; rfl; rfl; exact rptE; exact filE; intro _) | (apply wO; apply o_call; rfl; kernel_rfl; exact evsE))
  refine ret s trivial rfl
end Go.Proofs.YtidephmobajikaaGreatDoor
/- The log's plain law: lines, records, what is accepted; what the reference reads is what the program reads. No program in sight. -/
namespace Go.Proofs.YtidephmobajikaaGreatDoor
open Go.RowKit
abbrev Bs := List UInt8
def upTo (b : UInt8) (l : Bs) : Bs := l.takeWhile (· != b)
def behind (b : UInt8) (l : Bs) : Bs := (l.dropWhile (· != b)).drop 1
/-- a line that is whole -/
def Whole (x : Bs) : Prop := ∃ y, x = y ++ [10] ∧ ∀ c ∈ y, c ≠ 10
/-- numbers, sums, lines of records -/
theorem digit_mem : ∀ (u : Nat) (c : UInt8), c ∈ Lib.decDigits u → 48 ≤ c.toNat ∧ c.toNat ≤ 57 := by
  intro u
  induction u using Nat.strongRecOn with
  | ind u ih =>
    intro c hc
    rw [Lib.decDigits] at hc
    have hd : ∀ d : Nat, d < 10 → 48 ≤ (UInt8.ofNat (48 + d)).toNat ∧ (UInt8.ofNat (48 + d)).toNat ≤ 57 := fun d hd => by
      rw [UInt8.toNat_ofNat']; omega
    split at hc
    · simp only [List.mem_singleton] at hc; subst hc; exact hd _ (by omega)
    · rcases List.mem_append.1 hc with h | h
      · exact ih _ (by omega) c h
      · simp only [List.mem_singleton] at h; subst h; exact hd _ (by omega)
theorem digit_ne {u : Nat} {b : UInt8} (hb : b.toNat < 48 ∨ 57 < b.toNat) : ∀ c ∈ Lib.decDigits u, c ≠ b := fun c hc e => by
  have := digit_mem u c hc; subst e; omega
theorem digit_len : ∀ (n u : Nat), u < 10 ^ (n + 1) → (Lib.decDigits u).length ≤ n + 1
  | 0, u, h => by rw [Lib.decDigits, dif_pos (by simpa using h)]; simp
  | n + 1, u, h => by
    rw [Lib.decDigits]
    split
    · simp
    · have := digit_len n (u / 10) (by rw [Nat.pow_succ] at h; omega)
      simp; omega
theorem digit_pos (u : Nat) : 1 ≤ (Lib.decDigits u).length := by
  rw [Lib.decDigits]; split <;> simp
def sumStep (h : Nat) (c : UInt8) : Nat := (41 * h + c.toNat + 1) % 999979
def sumL (l : Bs) : Nat := l.foldl sumStep 7
def sealL (l : Bs) : Bs := l ++ 35 :: Lib.decDigits (sumL l)
def bodyL (k : Nat) (c r : Bs) : Bs := Lib.decDigits k ++ 32 :: (c ++ 64 :: r)
def lineL (k : Nat) (c r : Bs) : Bs := sealL (bodyL k c r) ++ [10]
def goodL (c r : Bs) : Bool := btw 1 c.length 160 && decide ((r.length : Int) ≤ 200) && logText c && logText r && !stands 64 c
structure Good (c r : Bs) : Prop where
  c0 : 1 ≤ c.length
  c1 : c.length ≤ 160
  r1 : r.length ≤ 200
  ct : ∀ b ∈ c, (32 ≤ b.toNat ∧ b.toNat ≤ 126) ∧ b ≠ 35
  rt : ∀ b ∈ r, (32 ≤ b.toNat ∧ b.toNat ≤ 126) ∧ b ≠ 35
  ca : ∀ b ∈ c, b ≠ 64
/-- the encoding of a record, where there is one -/
def encL (k : Int) (c r : Bs) : Option Bs := if btw 0 k 59 && goodL c r then some (lineL k.toNat c r) else none
/-- what the program takes of a line -/
def tailL (x : Bs) : Bs := behind 32 (upTo 35 x)
def cmdL (x : Bs) : Bs := upTo 64 (tailL x)
def repL (x : Bs) : Bs := behind 64 (tailL x)
def okL (k : Nat) (x : Bs) : Bool := encL k (cmdL x) (repL x) == some x
/-- the lines that are accepted, from number k on -/
def acc : Nat → List Bs → List Bs
  | _, [] => []
  | k, x :: r => if okL k x then x :: acc (k + 1) r else []
end Go.Proofs.YtidephmobajikaaGreatDoor
/- Numbers as texts; what the library's variables read as: the environment as one piece. -/
namespace Go.Proofs.YtidephmobajikaaGreatDoor
open Go.RowKit
def bz (l : Bs) : ByteArray := ⟨l.toArray⟩
theorem bz_list (l : Bs) : (bz l).data.toList = l := by simp [bz]
theorem bz_of (s : ByteArray) : bz s.data.toList = s := by simp [bz]
theorem bz_size (l : Bs) : (bz l).size = l.length := by simp [bz, ByteArray.size]
theorem size_list (s : ByteArray) : s.data.toList.length = s.size := by simp
theorem bz_app (a b : Bs) : bz a ++ bz b = bz (a ++ b) := by apply ByteArray.ext; simp [bz, ByteArray.data_append]
theorem app_list (s t : ByteArray) : (s ++ t).data.toList = s.data.toList ++ t.data.toList := by simp [ByteArray.data_append]
theorem ret_str {a b : ByteArray} (h : a = b) : Ending.returned (.string a) = .returned (.string b) := by rw [h]
theorem below_grow (w : World) (k : Nat) (os : Array Obj) : Below w.heap.size w (Go.Sort.grow (w.drewN k) os) := by
  refine ⟨rfl, rfl, rfl, ?_, fun i hi => ?_⟩
  · simp [Go.Sort.grow, World.drewN]
  · simp [Go.Sort.grow, World.drewN, Array.getElem?_append_left hi]
/-- the library's variables lie where they lay -/
def EEnv : Elem Unit where
  sz := 0
  rep w cs _ F := cs = [] ∧ (Lib.TabIs Tryz.prog w "internal/strconv.uint64pow10" .u64 Lib.pow10Tab ∧ (∃ m, w.cell? ⟨0, 0, none⟩ = some (.int .i64 m)) ∧ (∃ tp p, w.var? Tryz.prog "strconv.ErrSyntax" = some #[.iface tp p]) ∧ (∃ tp p, w.var? Tryz.prog "strconv.ErrRange" = some #[.iface tp p])) ∧ F = [5, 0, 1, 2] ∧ ∀ b ∈ F, b < w.heap.size
  len h := by simp [h.1]
  lt h := h.2.2.2
  frame h hF := by
    obtain ⟨h1, ⟨h2, h3, h4, h5⟩, rfl, h6⟩ := h
    have e0 := hF 5 (by simp)
    have e1 := hF 0 (by simp)
    have e2 := hF 1 (by simp)
    have e3 := hF 2 (by simp)
    refine ⟨h1, ⟨?_, ?_, ?_, ?_⟩, rfl, fun b hb => ?_⟩
    · unfold Lib.TabIs World.var? at h2 ⊢
      rw [show Tryz.prog.globalNamed "internal/strconv.uint64pow10" = some 5 by kernel_rfl] at h2 ⊢
      simp only [Option.bind_some] at h2 ⊢
      rw [e0]; exact h2
    · obtain ⟨m, hm⟩ := h3
      refine ⟨m, ?_⟩
      unfold World.cell? at hm ⊢
      rw [e1]; exact hm
    · obtain ⟨tp, p, hm⟩ := h4
      refine ⟨tp, p, ?_⟩
      unfold World.var? at hm ⊢
      rw [show Tryz.prog.globalNamed "strconv.ErrSyntax" = some 1 by kernel_rfl] at hm ⊢
      simp only [Option.bind_some] at hm ⊢
      rw [e2]; exact hm
    · obtain ⟨tp, p, hm⟩ := h5
      refine ⟨tp, p, ?_⟩
      unfold World.var? at hm ⊢
      rw [show Tryz.prog.globalNamed "strconv.ErrRange" = some 2 by kernel_rfl] at hm ⊢
      simp only [Option.bind_some] at hm ⊢
      rw [e3]; exact hm
    · have e := hF b hb
      have := h6 b hb
      rw [Array.getElem?_eq_getElem this] at e
      exact (Array.getElem?_eq_some_iff.1 e).1
theorem dig_small : ∀ n : Nat, n < 10 → (⟨#[48, 49, 50, 51, 52, 53, 54, 55, 56, 57]⟩ : ByteArray).extract n (n + 1) = ⟨#[UInt8.ofNat (48 + n)]⟩ := by decide
set_option maxHeartbeats 400000 in
set_option maxRecDepth 100000 in
theorem l1Num_c : ∀ (k n : Nat) (w : World), n < 10 ^ (k + 1) → n ≤ 999999999999999999 →
    Calls Tryz.prog 150 #[.int .i64 (n : Int)] w fun e w' => e = .returned (.string (bz (Lib.decDigits n))) ∧ ∃ j, w' = w.drewN j := by
  intro k
  induction k with
  | zero =>
    intro n w h1 h2
    have h3 : n < 10 := by simpa using h1
    have hd := Lib.hid (dig_small n h3)
    have hn : ¬ ((n : Int) < 0) := by omega
    go_enter Tryz.func150, Tryz.ntmps150
    go_wp2_with fail
    go_ret
    refine ⟨ret_str ?_, 0, rfl⟩
    rw [hd.out, Lib.decDigits, dif_pos h3]; rfl
  | succ k ih =>
    intro n w h1 h2
    by_cases h3 : n < 10
    · have hd := Lib.hid (dig_small n h3)
      have hn : ¬ ((n : Int) < 0) := by omega
      go_enter Tryz.func150, Tryz.ntmps150
      go_wp2_with fail
      go_ret
      refine ⟨ret_str ?_, 0, rfl⟩
      rw [hd.out, Lib.decDigits, dif_pos h3]; rfl
    · have h4 : n / 10 < 10 ^ (k + 1) := by rw [Nat.pow_succ] at h1; omega
      have hc := fun w => ih (n / 10) w h4 (by omega)
      rw [show ((n / 10 : Nat) : Int) = (n : Int) / 10 from by omega] at hc
      have hn : ¬ ((n : Int) < 0) := by omega
      have h5 : ¬ ((n : Int) < 10) := by omega
      have hd := Lib.hid (dig_small (n % 10) (by omega))
      have b0 : (0 : Int) ≤ (n : Int) % 10 := by omega
      have b1 : (n : Int) % 10 ≤ 9 := by omega
      have e0 : IntKind.i64.wrap ((n : Int) / 10) = (n : Int) / 10 := by rw [IntKind.wrap_i64]; omega
      have e1 : IntKind.i64.wrap ((n : Int) % 10) = (n : Int) % 10 := by rw [IntKind.wrap_i64]; omega
      have e2 : IntKind.i64.wrap ((n : Int) % 10 + 1) = (n : Int) % 10 + 1 := by rw [IntKind.wrap_i64]; omega
      have e3 : ((n : Int) % 10).toNat = n % 10 := by omega
      have e4 : ((n : Int) % 10 + 1).toNat = n % 10 + 1 := by omega
      have e5 : (n : Int).tmod 10 = (n : Int) % 10 := Int.tmod_eq_emod_of_nonneg (by omega)
      have e6 : (n : Int).tdiv 10 = (n : Int) / 10 := Int.tdiv_eq_ediv_of_nonneg (by omega)
      have hsl : ∀ wx, (Instr.slice 9 (.string ⟨#[48, 49, 50, 51, 52, 53, 54, 55, 56, 57]⟩) (some (.int .i64 ((n : Int) % 10))) (some (.int .i64 ((n : Int) % 10 + 1))) none).run Tryz.prog wx = .ok (.string ⟨#[UInt8.ofNat (48 + n % 10)]⟩) wx := fun wx => by
        have h6 := run_slice_string (P := Tryz.prog) wx 9 ⟨#[48, 49, 50, 51, 52, 53, 54, 55, 56, 57]⟩ .i64 .i64 ((n : Int) % 10) ((n : Int) % 10 + 1) Tryz.underlying9 (by omega) (by omega) (by show _ ≤ ((10 : Nat) : Int); omega)
        rw [h6, e3, e4, hd.out]
      have hD : (bz (Lib.decDigits (n / 10))).size ≤ 18 := by rw [bz_size]; exact digit_len 17 _ (by omega)
      have hd1 : (⟨#[UInt8.ofNat (48 + n % 10)]⟩ : ByteArray).size ≤ 1 := by simp [ByteArray.size]
      have hR : Hid (bz (Lib.decDigits (n / 10)) ++ ⟨#[UInt8.ofNat (48 + n % 10)]⟩ = bz (Lib.decDigits n)) := by
        refine Lib.hid ?_
        conv => rhs; rw [Lib.decDigits, dif_neg (by omega), ← bz_app]
        rfl
      generalize bz (Lib.decDigits (n / 10)) = D at *
      generalize (⟨#[UInt8.ofNat (48 + n % 10)]⟩ : ByteArray) = d at *
      clear ih h1 e3 e4
      go_enter Tryz.func150, Tryz.ntmps150
      go_wp2_with fail
      go_quiet ((go_at_call 150; exact Calls.quiet_of (v := .string D) (hc (World.drewN _ _))))
      go_wp2_with fail
      go_ret
      refine ⟨ret_str ?_, _, rfl⟩
      exact hR.out
def EnvP (FT : List Nat) : Pc := .isv EEnv (.agg #[]) () FT
theorem EnvP.env {w : World} {FT : List Nat} (h : (EnvP FT).P w) : Lib.TabIs Tryz.prog w "internal/strconv.uint64pow10" .u64 Lib.pow10Tab ∧ (∃ m, w.cell? ⟨0, 0, none⟩ = some (.int .i64 m)) ∧ (∃ tp p, w.var? Tryz.prog "strconv.ErrSyntax" = some #[.iface tp p]) ∧ (∃ tp p, w.var? Tryz.prog "strconv.ErrRange" = some #[.iface tp p]) := by
  obtain ⟨cs, _, h⟩ := h; exact h.2.1
theorem itoa_c (n : Int) (h0 : -9223372036854775808 ≤ n) (h1 : n ≤ 9223372036854775807) (FT : List Nat) (w : World) (hT : (EnvP FT).P w) :
    Calls Tryz.prog 146 #[.int .i64 n] w fun e w' => e = .returned (.string (bz (Lib.itoa n))) ∧ Below w.heap.size w w' := by
  refine (Tryz.strconv_Itoa n h0 h1 w (EnvP.env hT).1).mono ?_
  rintro e w' ⟨rfl, k, os, rfl⟩
  exact ⟨rfl, below_grow w k os⟩
theorem cut_c (s : ByteArray) (sep : ByteArray) (hs : s.size < 4294967281) (FT : List Nat) (w : World) (hT : (EnvP FT).P w) :
    Calls Tryz.prog 86 #[.string s, .string sep] w fun e w' => e = .returned (.tuple #[.string (bz (Lib.cut s.data.toList sep.data.toList).1), .string (bz (Lib.cut s.data.toList sep.data.toList).2.1), .bool (Lib.cut s.data.toList sep.data.toList).2.2]) ∧ Below w.heap.size w w' := by
  obtain ⟨m, hm⟩ := (EnvP.env hT).2.1
  refine (Tryz.strings_Cut s sep m w hs hm).mono ?_
  rintro e w' ⟨rfl, k, rfl⟩
  exact ⟨rfl, belowDrewN (Below.refl _ _) k⟩
theorem flat_strs {w : World} : ∀ {l : List ByteArray}, (∀ s ∈ l, s.size ≤ maxLen) → Flat EStr w (l.map Value.string) l []
  | [], _ => ⟨rfl, rfl⟩
  | s :: l, h => ⟨[.string s], l.map Value.string, [], [], by simp, by simp, ⟨rfl, h s (by simp), rfl⟩, flat_strs fun t ht => h t (by simp [ht])⟩
theorem splitB_small (sep : ByteArray) (n : Nat) : ∀ (k : Nat) (s : ByteArray), s.size ≤ n → ∀ t ∈ Lib.splitB sep 0 k s, t.size ≤ n
  | 0, s, h, t, ht => by rw [Lib.splitB_zero, List.mem_singleton] at ht; subst ht; exact h
  | k + 1, s, h, t, ht => by
    unfold Lib.splitB at ht
    split at ht
    · rw [List.mem_singleton] at ht; subst ht; exact h
    · rcases List.mem_cons.1 ht with rfl | ht
      · simp [ByteArray.size_extract]; omega
      · exact splitB_small sep n k _ (by simp [ByteArray.size_extract]; omega) t ht
theorem split_c (s sep : ByteArray) (hs : s.size ≤ 1000000000) (h1 : 1 ≤ sep.size) (FT : List Nat) (w : World) (hT : (EnvP FT).P w) :
    Calls Tryz.prog 88 #[.string s, .string sep] w (RetNew EStr 9 (Lib.splitB sep 0 (Lib.countB s sep) s) w) := by
  obtain ⟨m, hm⟩ := (EnvP.env hT).2.1
  refine (Tryz.strings_Split s sep m w (by omega) hm h1).mono ?_
  rintro e w2 ⟨rfl, rfl⟩
  have hl := Lib.splitB_all sep h1 0 (Lib.countB s sep) s rfl
  have hc := Lib.countB_le sep h1 s.size s (Nat.le_refl _)
  have hb : Below w.heap.size w (w.alloc (.cells ((Lib.splitB sep 0 (Lib.countB s sep) s).map Value.string).toArray 9)) := below_alloc _ _
  refine ⟨_, [w.heap.size], rfl, .inr ⟨w.heap.size, Lib.countB s sep + 1, (Lib.splitB sep 0 (Lib.countB s sep) s).map Value.string, [], [], by rw [hl], by rw [List.append_nil]; exact Row.made _ _ _, by omega, by unfold maxLen; omega, by simp [hl, EStr], flat_strs fun t ht => ?_, rfl⟩, by simp, by simp, hb⟩
  have := splitB_small sep s.size _ s (Nat.le_refl _) t ht
  unfold maxLen; omega
theorem num_c (n : Nat) (hn : n ≤ 999999) (w : World) : Calls Tryz.prog 150 #[.int .i64 (n : Int)] w fun e w2 => e = .returned (.string (bz (Lib.decDigits n))) ∧ Below w.heap.size w w2 := by
  refine (l1Num_c 5 n w (by omega) (by omega)).mono ?_
  rintro e w2 ⟨rfl, j, rfl⟩
  exact ⟨rfl, belowDrewN (Below.refl _ _) j⟩
end Go.Proofs.YtidephmobajikaaGreatDoor
/- Receive windows as texts. -/
namespace Go.Proofs.YtidephmobajikaaGreatDoor
open Go.RowKit
def sword (s : Slot) : ByteArray := if s.hav then (if s.item = ⟨#[]⟩ then ⟨#[46]⟩ else s.item) else ⟨#[63]⟩
def slT (x : ReceiveWindow) (k : Nat) : ByteArray := (x.slots.take k).foldl (fun a s => a ++ (⟨#[32]⟩ ++ sword s)) (bz (Lib.decDigits x.next.toNat) ++ ⟨#[58]⟩)
def slTxt (x : ReceiveWindow) : ByteArray := slT x x.slots.length
theorem slT_succ {x : ReceiveWindow} {k : Nat} (hk : k < x.slots.length) : slT x (k + 1) = slT x k ++ (⟨#[32]⟩ ++ sword x.slots[k]) := by
  unfold slT; rw [← List.take_append_getElem hk, List.foldl_append]; rfl
theorem slT_q {x : ReceiveWindow} {k : Nat} (hk : k < x.slots.length) (h : x.slots[k].hav = false) : slT x k ++ ⟨#[32, 63]⟩ = slT x (k + 1) := by
  rw [slT_succ hk, sword, h]; rfl
theorem slT_d {x : ReceiveWindow} {k : Nat} (hk : k < x.slots.length) (h : x.slots[k].hav = true) (h2 : x.slots[k].item = ⟨#[]⟩) : slT x k ++ ⟨#[32, 46]⟩ = slT x (k + 1) := by
  rw [slT_succ hk, sword, h, if_pos rfl, if_pos h2]; rfl
theorem slT_w {x : ReceiveWindow} {k : Nat} (hk : k < x.slots.length) (h : x.slots[k].hav = true) (h2 : ¬ x.slots[k].item = ⟨#[]⟩) : slT x k ++ (⟨#[32]⟩ ++ x.slots[k].item) = slT x (k + 1) := by
  rw [slT_succ hk, sword, h, if_pos rfl, if_neg h2]
theorem sword_size {s : Slot} (h : s.item.size ≤ 8) : (sword s).size ≤ 8 := by
  unfold sword; split
  · split
    · decide
    · exact h
  · decide
theorem slT_size {x : ReceiveWindow} (hg : goodRW x = true) : ∀ k, (slT x k).size ≤ 6 + 9 * k
  | 0 => by
    obtain ⟨n0, n1, hl, hit⟩ := good_of hg
    unfold slT
    rw [List.take_zero, List.foldl_nil, ByteArray.size_append, bz_size]
    have := digit_len 4 x.next.toNat (by omega)
    have : (⟨#[58]⟩ : ByteArray).size = 1 := rfl
    omega
  | k + 1 => by
    have ih := slT_size hg k
    obtain ⟨n0, n1, hl, hit⟩ := good_of hg
    by_cases hk : k < x.slots.length
    · rw [slT_succ hk, ByteArray.size_append, ByteArray.size_append]
      have := sword_size (hit _ (List.getElem_mem hk))
      have : (⟨#[32]⟩ : ByteArray).size = 1 := rfl
      omega
    · have e : slT x (k + 1) = slT x k := by unfold slT; rw [List.take_of_length_le (by omega), List.take_of_length_le (by omega)]
      rw [e]; omega
set_option maxRecDepth 100000 in
theorem slotsText_f (x : ReceiveWindow) (v : Value) (F FT : List Nat) (hg : goodRW x = true) : Fn Tryz.prog 85 [v] [.isv EReceiveWindow v x F, EnvP FT] [] (fun (_ : Unit) => True) (fun _ => .string (slTxt x)) (fun _ => []) := by
  obtain ⟨n0, n1, hl, hit⟩ := good_of hg
  have hzd : (bz (Lib.decDigits x.next.toNat)).size ≤ 5 := by rw [bz_size]; exact digit_len 4 _ (by omega)
  have z58 : (⟨#[58]⟩ : ByteArray).size = 1 := rfl
  refine enter Tryz.func85 rfl Tryz.ntmps85 fun w0 => ?_
  refine openReceiveWindow ?_
  rintro a1 c1 F1 rfl l1
  unfold maxLen at l1
  repeat (first | apply c_seq | apply c_reg | (apply wO; apply oc; rfl; exact ydE) | apply w_nil | apply n_cd | (apply wg_t; rfl; rfl) | (apply wg_f; rfl; rfl; rfl; rfl) | (apply wg_u; rfl; rfl; rfl) | (apply c_t; rfl) | (apply c_f; rfl) | apply c_skip | apply c_block | apply n_blk | apply c_exit | apply e_hit | apply e_cd | apply e_lp | (apply e_miss; rfl) | apply c_ret | (apply wO; apply o_box; rfl; rfl; rfl; intro _) | (apply wO; apply o_alloc; rfl; intro _) | (apply wO; apply o_st; rfl; rfl; rfl; (first | exact AggC.s | exact OneC.s); rfl; exact rplE; exact putE; rfl) | (apply wO; apply o_bs0; rfl; intro _) | (apply wO; apply o_bs; rfl; rfl; rfl; rfl; exact rptE; exact filE; intro _) | (apply wO; apply o_call; rfl; kernel_rfl; exact evsE))
  refine cb (fun w st => itoa_c x.next (by omega) (by omega) FT w (st.get (p := EnvP FT) (by simp))) ?_
  rw [show Lib.itoa x.next = Lib.decDigits x.next.toNat by unfold Lib.itoa; rw [if_neg (by omega)]]
  repeat (first | apply c_seq | apply c_reg | (apply wO; apply oc; rfl; exact ydE) | apply w_nil | apply n_cd | (apply wg_t; rfl; rfl) | (apply wg_f; rfl; rfl; rfl; rfl) | (apply wg_u; rfl; rfl; rfl) | (apply c_t; rfl) | (apply c_f; rfl) | apply c_skip | apply c_block | apply n_blk | apply c_exit | apply e_hit | apply e_cd | apply e_lp | (apply e_miss; rfl) | apply c_ret | (apply wO; apply o_box; rfl; rfl; rfl; intro _) | (apply wO; apply o_alloc; rfl; intro _) | (apply wO; apply o_st; rfl; rfl; rfl; (first | exact AggC.s | exact OneC.s); rfl; exact rplE; exact putE; rfl) | (apply wO; apply o_bs0; rfl; intro _) | (apply wO; apply o_bs; rfl; rfl; rfl; rfl; exact rptE; exact filE; intro _) | (apply wO; apply o_call; rfl; kernel_rfl; exact evsE))
  refine c_loopR [2, 11, 12] (fun k : Nat => [(3, .string (slT x k)), (13, .int .i64 k)]) (fun k => k ≤ x.slots.length) (fun k => x.slots.length - k) 0 (Nat.zero_le _) fun k hk => ?_
  have hz := slT_size hg k
  have z2 : (⟨#[32, 63]⟩ : ByteArray).size = 2 := rfl
  have z3 : (⟨#[32, 46]⟩ : ByteArray).size = 2 := rfl
  have z1 : (⟨#[32]⟩ : ByteArray).size = 1 := rfl
  repeat (first | apply c_seq | apply c_reg | (apply wO; apply oc; rfl; exact ydE) | apply w_nil | apply n_cd | (apply wg_t; rfl; rfl) | (apply wg_f; rfl; rfl; rfl; rfl) | (apply wg_u; rfl; rfl; rfl) | (apply c_t; rfl) | (apply c_f; rfl) | apply c_skip | apply c_block | apply n_blk | apply c_exit | apply e_hit | apply e_cd | apply e_lp | (apply e_miss; rfl) | apply c_ret | (apply wO; apply o_box; rfl; rfl; rfl; intro _) | (apply wO; apply o_alloc; rfl; intro _) | (apply wO; apply o_st; rfl; rfl; rfl; (first | exact AggC.s | exact OneC.s); rfl; exact rplE; exact putE; rfl) | (apply wO; apply o_bs0; rfl; intro _) | (apply wO; apply o_bs; rfl; rfl; rfl; rfl; exact rptE; exact filE; intro _) | (apply wO; apply o_call; rfl; kernel_rfl; exact evsE))
  refine c_if rfl (fun h => ?_) (fun h => ?_)
  · have hk3 : k < x.slots.length := by omega
    have hs8 := hit _ (List.getElem_mem hk3)
    refine atSlot (xs := x.slots) k ?_
    rintro hi b o e s1
    rw [e]
    repeat (first | apply c_seq | apply c_reg | (apply wO; apply oc; rfl; exact ydE) | apply w_nil | apply n_cd | (apply wg_t; rfl; rfl) | (apply wg_f; rfl; rfl; rfl; rfl) | (apply wg_u; rfl; rfl; rfl) | (apply c_t; rfl) | (apply c_f; rfl) | apply c_skip | apply c_block | apply n_blk | apply c_exit | apply e_hit | apply e_cd | apply e_lp | (apply e_miss; rfl) | apply c_ret | (apply wO; apply o_box; rfl; rfl; rfl; intro _) | (apply wO; apply o_alloc; rfl; intro _) | (apply wO; apply o_st; rfl; rfl; rfl; (first | exact AggC.s | exact OneC.s); rfl; exact rplE; exact putE; rfl) | (apply wO; apply o_bs0; rfl; intro _) | (apply wO; apply o_bs; rfl; rfl; rfl; rfl; exact rptE; exact filE; intro _) | (apply wO; apply o_call; rfl; kernel_rfl; exact evsE))
    cases g2 : x.slots[k].hav
    · repeat (first | apply c_seq | apply c_reg | (apply wO; apply oc; rfl; exact ydE) | apply w_nil | apply n_cd | (apply wg_t; rfl; rfl) | (apply wg_f; rfl; rfl; rfl; rfl) | (apply wg_u; rfl; rfl; rfl) | (apply c_t; rfl) | (apply c_f; rfl) | apply c_skip | apply c_block | apply n_blk | apply c_exit | apply e_hit | apply e_cd | apply e_lp | (apply e_miss; rfl) | apply c_ret | (apply wO; apply o_box; rfl; rfl; rfl; intro _) | (apply wO; apply o_alloc; rfl; intro _) | (apply wO; apply o_st; rfl; rfl; rfl; (first | exact AggC.s | exact OneC.s); rfl; exact rplE; exact putE; rfl) | (apply wO; apply o_bs0; rfl; intro _) | (apply wO; apply o_bs; rfl; rfl; rfl; rfl; exact rptE; exact filE; intro _) | (apply wO; apply o_call; rfl; kernel_rfl; exact evsE))
      rw [slT_q hk3 g2]
      refine n_lp (k + 1) hk3 (by omega)
    · 
      repeat (first | apply c_seq | apply c_reg | (apply wO; apply oc; rfl; exact ydE) | apply w_nil | apply n_cd | (apply wg_t; rfl; rfl) | (apply wg_f; rfl; rfl; rfl; rfl) | (apply wg_u; rfl; rfl; rfl) | (apply c_t; rfl) | (apply c_f; rfl) | apply c_skip | apply c_block | apply n_blk | apply c_exit | apply e_hit | apply e_cd | apply e_lp | (apply e_miss; rfl) | apply c_ret | (apply wO; apply o_box; rfl; rfl; rfl; intro _) | (apply wO; apply o_alloc; rfl; intro _) | (apply wO; apply o_st; rfl; rfl; rfl; (first | exact AggC.s | exact OneC.s); rfl; exact rplE; exact putE; rfl) | (apply wO; apply o_bs0; rfl; intro _) | (apply wO; apply o_bs; rfl; rfl; rfl; rfl; exact rptE; exact filE; intro _) | (apply wO; apply o_call; rfl; kernel_rfl; exact evsE))
      by_cases g3 : x.slots[k].item = ⟨#[]⟩
      · rw [decide_eq_true g3]
        repeat (first | apply c_seq | apply c_reg | (apply wO; apply oc; rfl; exact ydE) | apply w_nil | apply n_cd | (apply wg_t; rfl; rfl) | (apply wg_f; rfl; rfl; rfl; rfl) | (apply wg_u; rfl; rfl; rfl) | (apply c_t; rfl) | (apply c_f; rfl) | apply c_skip | apply c_block | apply n_blk | apply c_exit | apply e_hit | apply e_cd | apply e_lp | (apply e_miss; rfl) | apply c_ret | (apply wO; apply o_box; rfl; rfl; rfl; intro _) | (apply wO; apply o_alloc; rfl; intro _) | (apply wO; apply o_st; rfl; rfl; rfl; (first | exact AggC.s | exact OneC.s); rfl; exact rplE; exact putE; rfl) | (apply wO; apply o_bs0; rfl; intro _) | (apply wO; apply o_bs; rfl; rfl; rfl; rfl; exact rptE; exact filE; intro _) | (apply wO; apply o_call; rfl; kernel_rfl; exact evsE))
        rw [slT_d hk3 g2 g3]
        refine n_lp (k + 1) hk3 (by omega)
      · rw [decide_eq_false g3]
        have z9 := ByteArray.size_append (a := ⟨#[32]⟩) (b := x.slots[k].item)
        repeat (first | apply c_seq | apply c_reg | (apply wO; apply oc; rfl; exact ydE) | apply w_nil | apply n_cd | (apply wg_t; rfl; rfl) | (apply wg_f; rfl; rfl; rfl; rfl) | (apply wg_u; rfl; rfl; rfl) | (apply c_t; rfl) | (apply c_f; rfl) | apply c_skip | apply c_block | apply n_blk | apply c_exit | apply e_hit | apply e_cd | apply e_lp | (apply e_miss; rfl) | apply c_ret | (apply wO; apply o_box; rfl; rfl; rfl; intro _) | (apply wO; apply o_alloc; rfl; intro _) | (apply wO; apply o_st; rfl; rfl; rfl; (first | exact AggC.s | exact OneC.s); rfl; exact rplE; exact putE; rfl) | (apply wO; apply o_bs0; rfl; intro _) | (apply wO; apply o_bs; rfl; rfl; rfl; rfl; exact rptE; exact filE; intro _) | (apply wO; apply o_call; rfl; kernel_rfl; exact evsE))
        rw [slT_w hk3 g2 g3]
        refine n_lp (k + 1) hk3 (by omega)
  · obtain rfl : k = x.slots.length := by omega
    repeat (first | apply c_seq | apply c_reg | (apply wO; apply oc; rfl; exact ydE) | apply w_nil | apply n_cd | (apply wg_t; rfl; rfl) | (apply wg_f; rfl; rfl; rfl; rfl) | (apply wg_u; rfl; rfl; rfl) | (apply c_t; rfl) | (apply c_f; rfl) | apply c_skip | apply c_block | apply n_blk | apply c_exit | apply e_hit | apply e_cd | apply e_lp | (apply e_miss; rfl) | apply c_ret | (apply wO; apply o_box; rfl; rfl; rfl; intro _) | (apply wO; apply o_alloc; rfl; intro _) | (apply wO; apply o_st; rfl; rfl; rfl; (first | exact AggC.s | exact OneC.s); rfl; exact rplE; exact putE; rfl) | (apply wO; apply o_bs0; rfl; intro _) | (apply wO; apply o_bs; rfl; rfl; rfl; rfl; exact rptE; exact filE; intro _) | (apply wO; apply o_call; rfl; kernel_rfl; exact evsE))
    refine ret () trivial ?_
    unfold slTxt; rfl
set_option maxRecDepth 100000 in
theorem l10Text_f (x : ReceiveWindow) (v : Value) (F FT : List Nat) (hg : goodRW x = true) : Fn Tryz.prog 89 [v] [.isv EReceiveWindow v x F, EnvP FT] [] (fun (_ : Unit) => True) (fun _ => .string (slTxt x)) (fun _ => []) := by
  obtain ⟨n0, n1, hl, hit⟩ := good_of hg
  have hzd : (bz (Lib.decDigits x.next.toNat)).size ≤ 5 := by rw [bz_size]; exact digit_len 4 _ (by omega)
  have z58 : (⟨#[58]⟩ : ByteArray).size = 1 := rfl
  refine enter Tryz.func89 rfl Tryz.ntmps89 fun w0 => ?_
  refine openReceiveWindow ?_
  rintro a1 c1 F1 rfl l1
  unfold maxLen at l1
  repeat (first | apply c_seq | apply c_reg | (apply wO; apply oc; rfl; exact ydE) | apply w_nil | apply n_cd | (apply wg_t; rfl; rfl) | (apply wg_f; rfl; rfl; rfl; rfl) | (apply wg_u; rfl; rfl; rfl) | (apply c_t; rfl) | (apply c_f; rfl) | apply c_skip | apply c_block | apply n_blk | apply c_exit | apply e_hit | apply e_cd | apply e_lp | (apply e_miss; rfl) | apply c_ret | (apply wO; apply o_box; rfl; rfl; rfl; intro _) | (apply wO; apply o_alloc; rfl; intro _) | (apply wO; apply o_st; rfl; rfl; rfl; (first | exact AggC.s | exact OneC.s); rfl; exact rplE; exact putE; rfl) | (apply wO; apply o_bs0; rfl; intro _) | (apply wO; apply o_bs; rfl; rfl; rfl; rfl; exact rptE; exact filE; intro _) | (apply wO; apply o_call; rfl; kernel_rfl; exact evsE))
  refine cb (fun w st => (by rw [show x.next = ((x.next.toNat : Nat) : Int) by omega]; exact num_c _ (by omega) w)) ?_
  repeat (first | apply c_seq | apply c_reg | (apply wO; apply oc; rfl; exact ydE) | apply w_nil | apply n_cd | (apply wg_t; rfl; rfl) | (apply wg_f; rfl; rfl; rfl; rfl) | (apply wg_u; rfl; rfl; rfl) | (apply c_t; rfl) | (apply c_f; rfl) | apply c_skip | apply c_block | apply n_blk | apply c_exit | apply e_hit | apply e_cd | apply e_lp | (apply e_miss; rfl) | apply c_ret | (apply wO; apply o_box; rfl; rfl; rfl; intro _) | (apply wO; apply o_alloc; rfl; intro _) | (apply wO; apply o_st; rfl; rfl; rfl; (first | exact AggC.s | exact OneC.s); rfl; exact rplE; exact putE; rfl) | (apply wO; apply o_bs0; rfl; intro _) | (apply wO; apply o_bs; rfl; rfl; rfl; rfl; exact rptE; exact filE; intro _) | (apply wO; apply o_call; rfl; kernel_rfl; exact evsE))
  refine c_loopR [1, 2] (fun k : Nat => [(3, .string (slT x k)), (4, .int .i64 k)]) (fun k => k ≤ x.slots.length) (fun k => x.slots.length - k) 0 (Nat.zero_le _) fun k hk => ?_
  have hz := slT_size hg k
  have z2 : (⟨#[32, 63]⟩ : ByteArray).size = 2 := rfl
  have z3 : (⟨#[32, 46]⟩ : ByteArray).size = 2 := rfl
  have z1 : (⟨#[32]⟩ : ByteArray).size = 1 := rfl
  repeat (first | apply c_seq | apply c_reg | (apply wO; apply oc; rfl; exact ydE) | apply w_nil | apply n_cd | (apply wg_t; rfl; rfl) | (apply wg_f; rfl; rfl; rfl; rfl) | (apply wg_u; rfl; rfl; rfl) | (apply c_t; rfl) | (apply c_f; rfl) | apply c_skip | apply c_block | apply n_blk | apply c_exit | apply e_hit | apply e_cd | apply e_lp | (apply e_miss; rfl) | apply c_ret | (apply wO; apply o_box; rfl; rfl; rfl; intro _) | (apply wO; apply o_alloc; rfl; intro _) | (apply wO; apply o_st; rfl; rfl; rfl; (first | exact AggC.s | exact OneC.s); rfl; exact rplE; exact putE; rfl) | (apply wO; apply o_bs0; rfl; intro _) | (apply wO; apply o_bs; rfl; rfl; rfl; rfl; exact rptE; exact filE; intro _) | (apply wO; apply o_call; rfl; kernel_rfl; exact evsE))
  refine c_if rfl (fun h => ?_) (fun h => ?_)
  · have hk3 : k < x.slots.length := by omega
    have hs8 := hit _ (List.getElem_mem hk3)
    refine atSlot (xs := x.slots) k ?_
    rintro hi b o e s1
    rw [e]
    repeat (first | apply c_seq | apply c_reg | (apply wO; apply oc; rfl; exact ydE) | apply w_nil | apply n_cd | (apply wg_t; rfl; rfl) | (apply wg_f; rfl; rfl; rfl; rfl) | (apply wg_u; rfl; rfl; rfl) | (apply c_t; rfl) | (apply c_f; rfl) | apply c_skip | apply c_block | apply n_blk | apply c_exit | apply e_hit | apply e_cd | apply e_lp | (apply e_miss; rfl) | apply c_ret | (apply wO; apply o_box; rfl; rfl; rfl; intro _) | (apply wO; apply o_alloc; rfl; intro _) | (apply wO; apply o_st; rfl; rfl; rfl; (first | exact AggC.s | exact OneC.s); rfl; exact rplE; exact putE; rfl) | (apply wO; apply o_bs0; rfl; intro _) | (apply wO; apply o_bs; rfl; rfl; rfl; rfl; exact rptE; exact filE; intro _) | (apply wO; apply o_call; rfl; kernel_rfl; exact evsE))
    cases g2 : x.slots[k].hav
    · repeat (first | apply c_seq | apply c_reg | (apply wO; apply oc; rfl; exact ydE) | apply w_nil | apply n_cd | (apply wg_t; rfl; rfl) | (apply wg_f; rfl; rfl; rfl; rfl) | (apply wg_u; rfl; rfl; rfl) | (apply c_t; rfl) | (apply c_f; rfl) | apply c_skip | apply c_block | apply n_blk | apply c_exit | apply e_hit | apply e_cd | apply e_lp | (apply e_miss; rfl) | apply c_ret | (apply wO; apply o_box; rfl; rfl; rfl; intro _) | (apply wO; apply o_alloc; rfl; intro _) | (apply wO; apply o_st; rfl; rfl; rfl; (first | exact AggC.s | exact OneC.s); rfl; exact rplE; exact putE; rfl) | (apply wO; apply o_bs0; rfl; intro _) | (apply wO; apply o_bs; rfl; rfl; rfl; rfl; exact rptE; exact filE; intro _) | (apply wO; apply o_call; rfl; kernel_rfl; exact evsE))
      rw [slT_q hk3 g2]
      refine n_lp (k + 1) hk3 (by omega)
    · 
      repeat (first | apply c_seq | apply c_reg | (apply wO; apply oc; rfl; exact ydE) | apply w_nil | apply n_cd | (apply wg_t; rfl; rfl) | (apply wg_f; rfl; rfl; rfl; rfl) | (apply wg_u; rfl; rfl; rfl) | (apply c_t; rfl) | (apply c_f; rfl) | apply c_skip | apply c_block | apply n_blk | apply c_exit | apply e_hit | apply e_cd | apply e_lp | (apply e_miss; rfl) | apply c_ret | (apply wO; apply o_box; rfl; rfl; rfl; intro _) | (apply wO; apply o_alloc; rfl; intro _) | (apply wO; apply o_st; rfl; rfl; rfl; (first | exact AggC.s | exact OneC.s); rfl; exact rplE; exact putE; rfl) | (apply wO; apply o_bs0; rfl; intro _) | (apply wO; apply o_bs; rfl; rfl; rfl; rfl; exact rptE; exact filE; intro _) | (apply wO; apply o_call; rfl; kernel_rfl; exact evsE))
      by_cases g3 : x.slots[k].item = ⟨#[]⟩
      · rw [decide_eq_true g3]
        repeat (first | apply c_seq | apply c_reg | (apply wO; apply oc; rfl; exact ydE) | apply w_nil | apply n_cd | (apply wg_t; rfl; rfl) | (apply wg_f; rfl; rfl; rfl; rfl) | (apply wg_u; rfl; rfl; rfl) | (apply c_t; rfl) | (apply c_f; rfl) | apply c_skip | apply c_block | apply n_blk | apply c_exit | apply e_hit | apply e_cd | apply e_lp | (apply e_miss; rfl) | apply c_ret | (apply wO; apply o_box; rfl; rfl; rfl; intro _) | (apply wO; apply o_alloc; rfl; intro _) | (apply wO; apply o_st; rfl; rfl; rfl; (first | exact AggC.s | exact OneC.s); rfl; exact rplE; exact putE; rfl) | (apply wO; apply o_bs0; rfl; intro _) | (apply wO; apply o_bs; rfl; rfl; rfl; rfl; exact rptE; exact filE; intro _) | (apply wO; apply o_call; rfl; kernel_rfl; exact evsE))
        rw [slT_d hk3 g2 g3]
        refine n_lp (k + 1) hk3 (by omega)
      · rw [decide_eq_false g3]
        have z9 := ByteArray.size_append (a := slT x k) (b := ⟨#[32]⟩)
        repeat (first | apply c_seq | apply c_reg | (apply wO; apply oc; rfl; exact ydE) | apply w_nil | apply n_cd | (apply wg_t; rfl; rfl) | (apply wg_f; rfl; rfl; rfl; rfl) | (apply wg_u; rfl; rfl; rfl) | (apply c_t; rfl) | (apply c_f; rfl) | apply c_skip | apply c_block | apply n_blk | apply c_exit | apply e_hit | apply e_cd | apply e_lp | (apply e_miss; rfl) | apply c_ret | (apply wO; apply o_box; rfl; rfl; rfl; intro _) | (apply wO; apply o_alloc; rfl; intro _) | (apply wO; apply o_st; rfl; rfl; rfl; (first | exact AggC.s | exact OneC.s); rfl; exact rplE; exact putE; rfl) | (apply wO; apply o_bs0; rfl; intro _) | (apply wO; apply o_bs; rfl; rfl; rfl; rfl; exact rptE; exact filE; intro _) | (apply wO; apply o_call; rfl; kernel_rfl; exact evsE))
        rw [ByteArray.append_assoc, slT_w hk3 g2 g3]
        refine n_lp (k + 1) hk3 (by omega)
  · obtain rfl : k = x.slots.length := by omega
    repeat (first | apply c_seq | apply c_reg | (apply wO; apply oc; rfl; exact ydE) | apply w_nil | apply n_cd | (apply wg_t; rfl; rfl) | (apply wg_f; rfl; rfl; rfl; rfl) | (apply wg_u; rfl; rfl; rfl) | (apply c_t; rfl) | (apply c_f; rfl) | apply c_skip | apply c_block | apply n_blk | apply c_exit | apply e_hit | apply e_cd | apply e_lp | (apply e_miss; rfl) | apply c_ret | (apply wO; apply o_box; rfl; rfl; rfl; intro _) | (apply wO; apply o_alloc; rfl; intro _) | (apply wO; apply o_st; rfl; rfl; rfl; (first | exact AggC.s | exact OneC.s); rfl; exact rplE; exact putE; rfl) | (apply wO; apply o_bs0; rfl; intro _) | (apply wO; apply o_bs; rfl; rfl; rfl; rfl; exact rptE; exact filE; intro _) | (apply wO; apply o_call; rfl; kernel_rfl; exact evsE))
    refine ret () trivial ?_
    unfold slTxt; rfl
end Go.Proofs.YtidephmobajikaaGreatDoor
/- Numbers read out of texts. -/
namespace Go.Proofs.YtidephmobajikaaGreatDoor
open Go.RowKit
section
variable {P : Program} {n : Nat} {fr : Fr} {H : List Pc} {ty : TypeId} {x : Operand} {t t2 : TypeId}
theorem yd_nen (hx : ev fr x = some .nilIface) (hu : P.underlying t = some (.interface (P.methodsAt t))) : Yd P n fr H (.binOp .neq t x (.const .nilIface) t2) ty (.bool false) := .mk fun c w d pos aft gd hA _ => by
  have e : binOp .neq t .nilIface .nilIface = (do pure (.bool (!(← Op.equal t .nilIface .nilIface)))) := rfl
  have eg : eqGuard .neq t x (.const .nilIface) .nilIface .nilIface = pure () := by unfold eqGuard; simp
  have ec : c.eval (.const .nilIface) = .nilIface := rfl
  simp only [execOp, hA.ev hx, ec, eg, e, Sem.run_bind, Sem.run_pure, Result.andThen_ok, run_equal_nil_nil w t hu]; rfl
theorem yd_nei {u : TypeId} {p : Value} (hx : ev fr x = some (.iface u p)) (hu : P.underlying t = some (.interface (P.methodsAt t))) : Yd P n fr H (.binOp .neq t x (.const .nilIface) t2) ty (.bool true) := .mk fun c w d pos aft gd hA _ => by
  have e : binOp .neq t (.iface u p) .nilIface = (do pure (.bool (!(← Op.equal t (.iface u p) .nilIface)))) := rfl
  have eg : eqGuard .neq t x (.const .nilIface) (.iface u p) .nilIface = pure () := by unfold eqGuard; simp
  have ec : c.eval (.const .nilIface) = .nilIface := rfl
  simp only [execOp, hA.ev hx, ec, eg, e, Sem.run_bind, Sem.run_pure, Result.andThen_ok, run_equal_held_nil w t u p hu]; rfl
end
section
variable {c : Cx} {fr : Fr} {H : List Pc} {d : Nat} {Φ : Gl}
/-- a call that returns one of these values; nothing that was there has turned -/
theorem cx {f : Nat} {vs : List Value} (V : Value → Prop) (hc : ∀ w, St c.G c.D c.w0 H w → Calls c.P f vs.toArray w fun e w' => ∃ v, V v ∧ e = .returned v ∧ Below w.heap.size w w') (h : ∀ v, V v → T c ((d, v) :: fr) H Φ) : Cl c fr H d f vs Φ :=
  cl_of hc fun w e w' s ⟨v, hv, he, hB⟩ => ⟨v, he, fun a g => (h v hv).h a w' (s.below hB) g⟩
end
def resPI (s : ByteArray) : Int × Bool := match Lib.atoiAll s.data.toList with
  | .ok v => if btw (-999999) v 999999 && decide (bz (Lib.itoa v) = s) then (v, true) else (0, false)
  | _ => (0, false)
set_option maxRecDepth 100000 in
theorem ParseInt_f (s : ByteArray) (FT : List Nat) (hs : s.size ≤ 1000000000) : Fn Tryz.prog 87 [.string s] [EnvP FT] [] (fun (_ : Unit) => True) (fun _ => .tuple #[.int .i64 (resPI s).1, .bool (resPI s).2]) (fun _ => []) := by
  have hu : Tryz.prog.underlying 167 = some (.interface (Tryz.prog.methodsAt 167)) := by kernel_rfl
  refine enter Tryz.func87 rfl Tryz.ntmps87 fun w0 => ?_
  repeat (first | apply c_seq | apply c_reg | (apply wO; apply oc; rfl; exact ydE) | apply w_nil | apply n_cd | (apply wg_t; rfl; rfl) | (apply wg_f; rfl; rfl; rfl; rfl) | (apply wg_u; rfl; rfl; rfl) | (apply c_t; rfl) | (apply c_f; rfl) | apply c_skip | apply c_block | apply n_blk | apply c_exit | apply e_hit | apply e_cd | apply e_lp | (apply e_miss; rfl) | apply c_ret | (apply wO; apply o_box; rfl; rfl; rfl; intro _) | (apply wO; apply o_alloc; rfl; intro _) | (apply wO; apply o_st; rfl; rfl; rfl; (first | exact AggC.s | exact OneC.s); rfl; exact rplE; exact putE; rfl) | (apply wO; apply o_bs0; rfl; intro _) | (apply wO; apply o_bs; rfl; rfl; rfl; rfl; exact rptE; exact filE; intro _) | (apply wO; apply o_call; rfl; kernel_rfl; exact evsE))
  have bad : (∀ v, Lib.atoiAll s.data.toList ≠ .ok v) → resPI s = (0, false) := fun h => by
    unfold resPI
    cases h2 : Lib.atoiAll s.data.toList with
    | ok v => exact absurd h2 (h v)
    | _ => rfl
  match h : Lib.atoiAll s.data.toList with
  | Lib.NumEnd.ok v =>
    obtain ⟨b0, b1⟩ := Lib.atoiAll_bounds h
    refine cb (fun w st => (Tryz.strconv_Atoi_ok s (by omega) v h w).mono fun e w' hh => ⟨hh.1, ?_⟩) ?_
    · rcases hh.2 with rfl | ⟨t, rfl⟩
      · exact Below.refl _ _
      · exact Lib.bytesWorld_below _ _ _
    repeat (first | apply c_seq | apply c_reg | (apply wO; apply oc; rfl; exact ydE) | apply w_nil | apply n_cd | (apply wg_t; rfl; rfl) | (apply wg_f; rfl; rfl; rfl; rfl) | (apply wg_u; rfl; rfl; rfl) | (apply c_t; rfl) | (apply c_f; rfl) | apply c_skip | apply c_block | apply n_blk | apply c_exit | apply e_hit | apply e_cd | apply e_lp | (apply e_miss; rfl) | apply c_ret | (apply wO; apply o_box; rfl; rfl; rfl; intro _) | (apply wO; apply o_alloc; rfl; intro _) | (apply wO; apply o_st; rfl; rfl; rfl; (first | exact AggC.s | exact OneC.s); rfl; exact rplE; exact putE; rfl) | (apply wO; apply o_bs0; rfl; intro _) | (apply wO; apply o_bs; rfl; rfl; rfl; rfl; exact rptE; exact filE; intro _) | (apply wO; apply o_call; rfl; kernel_rfl; exact evsE))
    apply wO; apply oc; rfl; exact yd_nen rfl hu
    repeat (first | apply c_seq | apply c_reg | (apply wO; apply oc; rfl; exact ydE) | apply w_nil | apply n_cd | (apply wg_t; rfl; rfl) | (apply wg_f; rfl; rfl; rfl; rfl) | (apply wg_u; rfl; rfl; rfl) | (apply c_t; rfl) | (apply c_f; rfl) | apply c_skip | apply c_block | apply n_blk | apply c_exit | apply e_hit | apply e_cd | apply e_lp | (apply e_miss; rfl) | apply c_ret | (apply wO; apply o_box; rfl; rfl; rfl; intro _) | (apply wO; apply o_alloc; rfl; intro _) | (apply wO; apply o_st; rfl; rfl; rfl; (first | exact AggC.s | exact OneC.s); rfl; exact rplE; exact putE; rfl) | (apply wO; apply o_bs0; rfl; intro _) | (apply wO; apply o_bs; rfl; rfl; rfl; rfl; exact rptE; exact filE; intro _) | (apply wO; apply o_call; rfl; kernel_rfl; exact evsE))
    refine ce (fun w s => within_c _ _ _ _) ?_
    cases g1 : btw (-999999) v 999999
    · repeat (first | apply c_seq | apply c_reg | (apply wO; apply oc; rfl; exact ydE) | apply w_nil | apply n_cd | (apply wg_t; rfl; rfl) | (apply wg_f; rfl; rfl; rfl; rfl) | (apply wg_u; rfl; rfl; rfl) | (apply c_t; rfl) | (apply c_f; rfl) | apply c_skip | apply c_block | apply n_blk | apply c_exit | apply e_hit | apply e_cd | apply e_lp | (apply e_miss; rfl) | apply c_ret | (apply wO; apply o_box; rfl; rfl; rfl; intro _) | (apply wO; apply o_alloc; rfl; intro _) | (apply wO; apply o_st; rfl; rfl; rfl; (first | exact AggC.s | exact OneC.s); rfl; exact rplE; exact putE; rfl) | (apply wO; apply o_bs0; rfl; intro _) | (apply wO; apply o_bs; rfl; rfl; rfl; rfl; exact rptE; exact filE; intro _) | (apply wO; apply o_call; rfl; kernel_rfl; exact evsE))
      rw [show resPI s = (0, false) by unfold resPI; rw [h]; simp [g1]]
      refine ret () trivial rfl
    repeat (first | apply c_seq | apply c_reg | (apply wO; apply oc; rfl; exact ydE) | apply w_nil | apply n_cd | (apply wg_t; rfl; rfl) | (apply wg_f; rfl; rfl; rfl; rfl) | (apply wg_u; rfl; rfl; rfl) | (apply c_t; rfl) | (apply c_f; rfl) | apply c_skip | apply c_block | apply n_blk | apply c_exit | apply e_hit | apply e_cd | apply e_lp | (apply e_miss; rfl) | apply c_ret | (apply wO; apply o_box; rfl; rfl; rfl; intro _) | (apply wO; apply o_alloc; rfl; intro _) | (apply wO; apply o_st; rfl; rfl; rfl; (first | exact AggC.s | exact OneC.s); rfl; exact rplE; exact putE; rfl) | (apply wO; apply o_bs0; rfl; intro _) | (apply wO; apply o_bs; rfl; rfl; rfl; rfl; exact rptE; exact filE; intro _) | (apply wO; apply o_call; rfl; kernel_rfl; exact evsE))
    refine cb (fun w st => itoa_c v (by omega) (by omega) FT w (st.get (p := EnvP FT) (by simp))) ?_
    repeat (first | apply c_seq | apply c_reg | (apply wO; apply oc; rfl; exact ydE) | apply w_nil | apply n_cd | (apply wg_t; rfl; rfl) | (apply wg_f; rfl; rfl; rfl; rfl) | (apply wg_u; rfl; rfl; rfl) | (apply c_t; rfl) | (apply c_f; rfl) | apply c_skip | apply c_block | apply n_blk | apply c_exit | apply e_hit | apply e_cd | apply e_lp | (apply e_miss; rfl) | apply c_ret | (apply wO; apply o_box; rfl; rfl; rfl; intro _) | (apply wO; apply o_alloc; rfl; intro _) | (apply wO; apply o_st; rfl; rfl; rfl; (first | exact AggC.s | exact OneC.s); rfl; exact rplE; exact putE; rfl) | (apply wO; apply o_bs0; rfl; intro _) | (apply wO; apply o_bs; rfl; rfl; rfl; rfl; exact rptE; exact filE; intro _) | (apply wO; apply o_call; rfl; kernel_rfl; exact evsE))
    by_cases g2 : bz (Lib.itoa v) = s
    · rw [decide_eq_false (by simpa using g2)]
      repeat (first | apply c_seq | apply c_reg | (apply wO; apply oc; rfl; exact ydE) | apply w_nil | apply n_cd | (apply wg_t; rfl; rfl) | (apply wg_f; rfl; rfl; rfl; rfl) | (apply wg_u; rfl; rfl; rfl) | (apply c_t; rfl) | (apply c_f; rfl) | apply c_skip | apply c_block | apply n_blk | apply c_exit | apply e_hit | apply e_cd | apply e_lp | (apply e_miss; rfl) | apply c_ret | (apply wO; apply o_box; rfl; rfl; rfl; intro _) | (apply wO; apply o_alloc; rfl; intro _) | (apply wO; apply o_st; rfl; rfl; rfl; (first | exact AggC.s | exact OneC.s); rfl; exact rplE; exact putE; rfl) | (apply wO; apply o_bs0; rfl; intro _) | (apply wO; apply o_bs; rfl; rfl; rfl; rfl; exact rptE; exact filE; intro _) | (apply wO; apply o_call; rfl; kernel_rfl; exact evsE))
      rw [show resPI s = (v, true) by unfold resPI; rw [h]; simp [g1, g2]]
      refine ret () trivial rfl
    · rw [decide_eq_true g2]
      repeat (first | apply c_seq | apply c_reg | (apply wO; apply oc; rfl; exact ydE) | apply w_nil | apply n_cd | (apply wg_t; rfl; rfl) | (apply wg_f; rfl; rfl; rfl; rfl) | (apply wg_u; rfl; rfl; rfl) | (apply c_t; rfl) | (apply c_f; rfl) | apply c_skip | apply c_block | apply n_blk | apply c_exit | apply e_hit | apply e_cd | apply e_lp | (apply e_miss; rfl) | apply c_ret | (apply wO; apply o_box; rfl; rfl; rfl; intro _) | (apply wO; apply o_alloc; rfl; intro _) | (apply wO; apply o_st; rfl; rfl; rfl; (first | exact AggC.s | exact OneC.s); rfl; exact rplE; exact putE; rfl) | (apply wO; apply o_bs0; rfl; intro _) | (apply wO; apply o_bs; rfl; rfl; rfl; rfl; exact rptE; exact filE; intro _) | (apply wO; apply o_call; rfl; kernel_rfl; exact evsE))
      rw [show resPI s = (0, false) by unfold resPI; rw [h]; simp [g2]]
      refine ret () trivial rfl
  | Lib.NumEnd.syntax =>
    rw [bad (by simp [h])]
    refine cx (fun v => ∃ n u p, v = .tuple #[.int .i64 n, .iface u p]) (fun w st => ?_) ?_
    · obtain ⟨tp, p, hv⟩ := (EnvP.env (st.get (p := EnvP FT) (by simp))).2.2.1
      refine (Tryz.strconv_Atoi_syntax_var s (by omega) h tp p w hv).mono ?_
      rintro e w' ⟨N, rfl, -, -, hB⟩
      exact ⟨_, ⟨_, _, _, rfl⟩, rfl, hB⟩
    rintro _ ⟨n, u, p, rfl⟩
    repeat (first | apply c_seq | apply c_reg | (apply wO; apply oc; rfl; exact ydE) | apply w_nil | apply n_cd | (apply wg_t; rfl; rfl) | (apply wg_f; rfl; rfl; rfl; rfl) | (apply wg_u; rfl; rfl; rfl) | (apply c_t; rfl) | (apply c_f; rfl) | apply c_skip | apply c_block | apply n_blk | apply c_exit | apply e_hit | apply e_cd | apply e_lp | (apply e_miss; rfl) | apply c_ret | (apply wO; apply o_box; rfl; rfl; rfl; intro _) | (apply wO; apply o_alloc; rfl; intro _) | (apply wO; apply o_st; rfl; rfl; rfl; (first | exact AggC.s | exact OneC.s); rfl; exact rplE; exact putE; rfl) | (apply wO; apply o_bs0; rfl; intro _) | (apply wO; apply o_bs; rfl; rfl; rfl; rfl; exact rptE; exact filE; intro _) | (apply wO; apply o_call; rfl; kernel_rfl; exact evsE))
    apply wO; apply oc; rfl; exact yd_nei rfl hu
    repeat (first | apply c_seq | apply c_reg | (apply wO; apply oc; rfl; exact ydE) | apply w_nil | apply n_cd | (apply wg_t; rfl; rfl) | (apply wg_f; rfl; rfl; rfl; rfl) | (apply wg_u; rfl; rfl; rfl) | (apply c_t; rfl) | (apply c_f; rfl) | apply c_skip | apply c_block | apply n_blk | apply c_exit | apply e_hit | apply e_cd | apply e_lp | (apply e_miss; rfl) | apply c_ret | (apply wO; apply o_box; rfl; rfl; rfl; intro _) | (apply wO; apply o_alloc; rfl; intro _) | (apply wO; apply o_st; rfl; rfl; rfl; (first | exact AggC.s | exact OneC.s); rfl; exact rplE; exact putE; rfl) | (apply wO; apply o_bs0; rfl; intro _) | (apply wO; apply o_bs; rfl; rfl; rfl; rfl; exact rptE; exact filE; intro _) | (apply wO; apply o_call; rfl; kernel_rfl; exact evsE))
    refine ret () trivial rfl
  | Lib.NumEnd.range =>
    rw [bad (by simp [h])]
    refine cx (fun v => ∃ n u p, v = .tuple #[.int .i64 n, .iface u p]) (fun w st => ?_) ?_
    · obtain ⟨tp, p, hv⟩ := (EnvP.env (st.get (p := EnvP FT) (by simp))).2.2.2
      refine (Tryz.strconv_Atoi_range_var s (by omega) h tp p w hv).mono ?_
      rintro e w' ⟨N, rfl, -, -, hB⟩
      exact ⟨_, ⟨_, _, _, rfl⟩, rfl, hB⟩
    rintro _ ⟨n, u, p, rfl⟩
    repeat (first | apply c_seq | apply c_reg | (apply wO; apply oc; rfl; exact ydE) | apply w_nil | apply n_cd | (apply wg_t; rfl; rfl) | (apply wg_f; rfl; rfl; rfl; rfl) | (apply wg_u; rfl; rfl; rfl) | (apply c_t; rfl) | (apply c_f; rfl) | apply c_skip | apply c_block | apply n_blk | apply c_exit | apply e_hit | apply e_cd | apply e_lp | (apply e_miss; rfl) | apply c_ret | (apply wO; apply o_box; rfl; rfl; rfl; intro _) | (apply wO; apply o_alloc; rfl; intro _) | (apply wO; apply o_st; rfl; rfl; rfl; (first | exact AggC.s | exact OneC.s); rfl; exact rplE; exact putE; rfl) | (apply wO; apply o_bs0; rfl; intro _) | (apply wO; apply o_bs; rfl; rfl; rfl; rfl; exact rptE; exact filE; intro _) | (apply wO; apply o_call; rfl; kernel_rfl; exact evsE))
    apply wO; apply oc; rfl; exact yd_nei rfl hu
    repeat (first | apply c_seq | apply c_reg | (apply wO; apply oc; rfl; exact ydE) | apply w_nil | apply n_cd | (apply wg_t; rfl; rfl) | (apply wg_f; rfl; rfl; rfl; rfl) | (apply wg_u; rfl; rfl; rfl) | (apply c_t; rfl) | (apply c_f; rfl) | apply c_skip | apply c_block | apply n_blk | apply c_exit | apply e_hit | apply e_cd | apply e_lp | (apply e_miss; rfl) | apply c_ret | (apply wO; apply o_box; rfl; rfl; rfl; intro _) | (apply wO; apply o_alloc; rfl; intro _) | (apply wO; apply o_st; rfl; rfl; rfl; (first | exact AggC.s | exact OneC.s); rfl; exact rplE; exact putE; rfl) | (apply wO; apply o_bs0; rfl; intro _) | (apply wO; apply o_bs; rfl; rfl; rfl; rfl; exact rptE; exact filE; intro _) | (apply wO; apply o_call; rfl; kernel_rfl; exact evsE))
    refine ret () trivial rfl
end Go.Proofs.YtidephmobajikaaGreatDoor
