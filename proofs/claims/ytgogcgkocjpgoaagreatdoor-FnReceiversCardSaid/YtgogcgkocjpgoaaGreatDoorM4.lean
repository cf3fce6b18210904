/- Part 4 of the proof: 22 texts, one behind the other. -/
import Derived.Laws.StructEq
import Derived.Test.YtgogcgkocjpgoaaGreatDoorCards
import Derived.Test.YtgogcgkocjpgoaaGreatDoorTie
import Derived.LaidMore
import Derived.Lay
import Derived.SevenTiedAt
import Derived.Stop.Joined
import Derived.Test.YtgogcgkocjpgoaaGreatDoorM3
/- Draws, for the engine: receive windows. -/
namespace Go.Proofs.YtgogcgkocjpgoaaGreatDoor
open Go.RowKit
structure DwS where
  y : ReceiveWindow
  i : Nat
  a : Option Addr
  c : Nat
  F : List Nat
  s : CuS
structure DwOk (B r0 : Nat) (z : DwS) : Prop where
  l : z.y.slots.length = z.i
  i : z.i ≤ r0
  s : CuOk (B + 6 + 50 * z.i) z.s
structure DjS where
  y : ReceiveWindow
  a : Option Addr
  c : Nat
  F : List Nat
  s : CuS
structure DjOk (B : Nat) (z : DjS) : Prop where
  l : z.y.slots.length ≤ 8
  s : CuOk (B + 500) z.s
set_option maxRecDepth 100000 in
theorem drawRW_f (B g : Nat) (F : CuF) (s : CuS) (ok : CuOk B s) (hB : B ≤ 800000000000) :
    Fn Tryz.prog 213 [ptr g 0 0] [.sl EByte (.slice F.a F.code.length F.c) F.code F.bs] [.row g 123 0 [] [.slice F.a F.code.length F.c, .int .i64 (s.k : Nat), .int .u64 s.seed] []] (fun (z : DjS) => CuOk (B + 1000) z.s) (fun s => .agg #[.int .i64 s.y.next, .slice s.a s.y.slots.length s.c])
      (fun s => [.isv EReceiveWindow (.agg #[.int .i64 s.y.next, .slice s.a s.y.slots.length s.c]) s.y s.F, .row g 123 0 [] [.slice F.a F.code.length F.c, .int .i64 (s.s.k : Nat), .int .u64 s.s.seed] []]) := by
  refine enter Tryz.func213 rfl Tryz.ntmps213 fun w0 => ?_
  refine t_nilow ESlot 213 ?_
  refine go ?_; intros
  refine cf (serial_f B g F s ok (by omega)) fun n hn => ?_
  refine t_app ?_
  obtain ⟨hn1, hn2⟩ := hn
  refine go ?_; intros
  rename_i gg
  refine cf (pick_f (B + 4) g F 8 n.2 hn2 (by omega) (by omega)) fun y hy => ?_
  refine t_app ?_
  obtain ⟨r0, s1⟩ := y
  obtain ⟨hy1, hy2⟩ := hy
  dsimp only at hy1 hy2 ⊢
  have hr0 : r0 ≤ 8 := by omega
  refine go ?_; intros
  refine c_joinS [0, 2] [2, 4] (fun _ : DjS => [(3, ptr gg 0 0)]) (fun z => [.row gg 46 0 [] [.int .i64 z.y.next, .slice z.a z.y.slots.length z.c] [], .ow ESlot 213 (.slice z.a z.y.slots.length z.c) z.y.slots z.F, .row g 123 0 [] [.slice F.a F.code.length F.c, .int .i64 (z.s.k : Nat), .int .u64 z.s.seed] []]) (DjOk B) ?_ fun z hz => ?_
  · refine c_if rfl (fun h1 => ?_) (fun h1 => ?_)
    · refine go ?_; intros
      refine c_loopS [0, 2, 3, 4] (fun z : DwS => [(5, .int .i64 (z.i : Nat))]) (fun z => [.row gg 46 0 [] [.int .i64 z.y.next, .slice z.a z.y.slots.length z.c] [], .ow ESlot 213 (.slice z.a z.y.slots.length z.c) z.y.slots z.F, .row g 123 0 [] [.slice F.a F.code.length F.c, .int .i64 (z.s.k : Nat), .int .u64 z.s.seed] []]) (DwOk B r0) (fun z => r0 - z.i) ⟨⟨n.1, []⟩, 0, none, 0, [], s1⟩ ⟨rfl, Nat.zero_le _, hy2.mono (by show _ ≤ B + 6 + 50 * 0; omega)⟩ fun z hz => ?_
      obtain ⟨z1, z2, z3⟩ := hz
      refine go ?_; intros
      refine c_if rfl (fun h2 => ?_) (fun h2 => ?_)
      · refine go ?_; intros
        refine wg_if rfl rfl (fun h3 => ?_) (fun h3 => ?_)
        · refine go ?_; intros
          refine wg_if rfl rfl (fun h4 => ?_) (fun h4 => ?_)
          · refine go ?_; intros
            refine cf (letters_f _ g F z.s 4 z3 (by omega) (by omega) (by omega)) fun l hl => ?_
            refine t_app ?_
            obtain ⟨hl1, hl2⟩ := hl
            refine go ?_; intros
            apply wO
            refine ap1 (rep_slot ⟨true, l.1⟩ (by show l.1.size ≤ maxLen; unfold maxLen; omega)) one_ESlot fun a9 c9 F9 => ?_
            refine go ?_; intros
            refine n_lp ⟨⟨z.y.next, z.y.slots ++ [⟨true, l.1⟩]⟩, z.i + 1, a9, c9, F9, l.2⟩ ⟨by show (z.y.slots ++ [_]).length = z.i + 1; simp [z1], by show z.i + 1 ≤ r0; omega, hl2.mono (by show _ ≤ B + 6 + 50 * (z.i + 1); omega)⟩ (by show r0 - (z.i + 1) < _; omega)
          · refine go ?_; intros
            refine cf (one_f _ g F 2 z.s z3 (by omega) (by omega)) fun q hq => ?_
            refine t_app ?_
            obtain ⟨b, s2⟩ := q
            obtain ⟨-, hq⟩ := hq
            dsimp only at hq ⊢
            cases b
            · refine go ?_; intros
              apply wO
              refine ap1 (rep_slot ⟨false, ⟨#[]⟩⟩ (by decide)) one_ESlot fun a9 c9 F9 => ?_
              refine go ?_; intros
              refine n_lp ⟨⟨z.y.next, z.y.slots ++ [⟨false, ⟨#[]⟩⟩]⟩, z.i + 1, a9, c9, F9, s2⟩ ⟨by show (z.y.slots ++ [_]).length = z.i + 1; simp [z1], by show z.i + 1 ≤ r0; omega, hq.mono (by show _ ≤ B + 6 + 50 * (z.i + 1); omega)⟩ (by show r0 - (z.i + 1) < _; omega)
            · refine go ?_; intros
              refine cf (letters_f _ g F s2 4 hq (by omega) (by omega) (by omega)) fun l hl => ?_
              refine t_app ?_
              obtain ⟨hl1, hl2⟩ := hl
              refine go ?_; intros
              apply wO
              refine ap1 (rep_slot ⟨true, l.1⟩ (by show l.1.size ≤ maxLen; unfold maxLen; omega)) one_ESlot fun a9 c9 F9 => ?_
              refine go ?_; intros
              refine n_lp ⟨⟨z.y.next, z.y.slots ++ [⟨true, l.1⟩]⟩, z.i + 1, a9, c9, F9, l.2⟩ ⟨by show (z.y.slots ++ [_]).length = z.i + 1; simp [z1], by show z.i + 1 ≤ r0; omega, hl2.mono (by show _ ≤ B + 6 + 50 * (z.i + 1); omega)⟩ (by show r0 - (z.i + 1) < _; omega)
        · refine go ?_; intros
          apply wO
          refine ap1 (rep_slot ⟨false, ⟨#[]⟩⟩ (by decide)) one_ESlot fun a9 c9 F9 => ?_
          refine go ?_; intros
          refine n_lp ⟨⟨z.y.next, z.y.slots ++ [⟨false, ⟨#[]⟩⟩]⟩, z.i + 1, a9, c9, F9, z.s⟩ ⟨by show (z.y.slots ++ [_]).length = z.i + 1; simp [z1], by show z.i + 1 ≤ r0; omega, z3.mono (by show _ ≤ B + 6 + 50 * (z.i + 1); omega)⟩ (by show r0 - (z.i + 1) < _; omega)
      · refine go ?_; intros
        refine n_join (⟨z.y, z.a, z.c, z.F, z.s⟩ : DjS) ⟨by show z.y.slots.length ≤ 8; omega, z3.mono (by omega)⟩
    · refine go ?_; intros
      refine n_join (⟨⟨n.1, []⟩, none, 0, [], s1⟩ : DjS) ⟨by simp, hy2.mono (by omega)⟩
  · obtain ⟨l8, hzs⟩ := hz
    refine go ?_; intros
    refine cf (pick_f _ g F 24 z.s hzs (by omega) (by omega)) fun p hp => ?_
    refine t_app ?_
    obtain ⟨r, s3⟩ := p
    obtain ⟨-, hp⟩ := hp
    dsimp only at hp ⊢
    refine go ?_; intros
    refine c_if rfl (fun e0 => ?_) (fun e0 => ?_)
    · refine go ?_; intros
      refine cf (anySerial_f _ g F s3 hp (by omega)) fun q hq => ?_
      refine t_app ?_
      refine go ?_; intros
      refine t_read (E := ESlot) fun F9 => ?_
      refine closeReceiveWindow ⟨q.1, z.y.slots⟩ ?_
      refine ret ⟨⟨q.1, z.y.slots⟩, _, _, _, q.2⟩ (hq.mono (by omega)) rfl
    refine go ?_; intros
    refine c_if rfl (fun e1 => ?_) (fun e1 => ?_)
    · refine go ?_; intros
      apply wO
      refine ap1 (rep_slot ⟨false, ⟨#[]⟩⟩ (by decide)) one_ESlot fun a9 c9 F9 => ?_
      refine go ?_; intros
      refine t_read (E := ESlot) fun F8 => ?_
      refine closeReceiveWindow ⟨z.y.next, z.y.slots ++ [⟨false, ⟨#[]⟩⟩]⟩ ?_
      refine ret ⟨⟨z.y.next, z.y.slots ++ [⟨false, ⟨#[]⟩⟩]⟩, _, _, _, s3⟩ (hp.mono (by omega)) rfl
    refine go ?_; intros
    refine c_if rfl (fun e2 => ?_) (fun e2 => ?_)
    · refine goN ?_; intros
      refine d_start [1] [11] ?_
      refine dt 0 ?_
      refine dt 1 ?_
      refine dt 2 ?_
      refine dt 4 ?_
      refine dO2 3 5 (by kernel_rfl) (by rw [List.getElem?_toArray]; rfl) (by rw [List.getElem?_toArray]; rfl) ?_ ?_
      · apply o_call; rfl; kernel_rfl; exact evsE
        refine cf (one_f _ g F 2 s3 hp (by omega) (by omega)) fun q hq => ?_
        refine t_app ?_
        obtain ⟨b, s4⟩ := q
        obtain ⟨-, hq⟩ := hq
        dsimp only at hq ⊢
        refine dk ?_
        refine dO 5 (by kernel_rfl) (by rw [List.getElem?_toArray]; rfl) ?_
        apply o_bs; rfl; rfl; rfl; rfl; exact rptE; exact filE; intro _
        refine t_row (xs := [⟨#[97]⟩, ⟨#[65]⟩, ⟨#[]⟩]) (fun w => flat_s w _ (by decide)) ?_ (by decide)
        refine t_read (E := EStr) fun G => ?_
        refine dk ?_
        refine dO 6 (by kernel_rfl) (by rw [List.getElem?_toArray]; rfl) ?_
        apply o_call; rfl; kernel_rfl; exact evsE
        refine cf (of_f _ g F _ [⟨#[97]⟩, ⟨#[65]⟩, ⟨#[]⟩] _ s4 hq (by omega) (by decide) (by decide)) fun q2 hq2 => ?_
        refine t_app ?_
        have hq3 : q2.1.size ≤ maxLen := by have := hq2.1; simp only [List.mem_cons, List.not_mem_nil, or_false] at this; rcases this with e | e | e <;> rw [e] <;> decide
        refine dk ?_
        refine dt 7 ?_
        refine dO 8 (by kernel_rfl) (by rw [List.getElem?_toArray]; rfl) ?_
        apply o_bs; rfl; rfl; rfl; rfl; exact rptE; exact filE; intro _
        refine dk ?_
        refine dO 9 (by kernel_rfl) (by rw [List.getElem?_toArray]; rfl) ?_
        refine ap1 (rep_slot ⟨b, q2.1⟩ hq3) one_ESlot fun a9 c9 F9 => ?_
        refine dk ?_
        refine dt 10 ?_
        refine dO 11 (by kernel_rfl) (by rw [List.getElem?_toArray]; rfl) ?_
        apply o_st; rfl; rfl; rfl; (first | exact AggC.s | exact OneC.s); rfl; exact rplE; exact putE; rfl
        refine dkx ?_
        refine dd ?_
        refine go ?_; intros
        refine t_read (E := ESlot) fun F8 => ?_
        refine closeReceiveWindow ⟨z.y.next, z.y.slots ++ [⟨b, q2.1⟩]⟩ ?_
        refine ret ⟨⟨z.y.next, z.y.slots ++ [⟨b, q2.1⟩]⟩, _, _, _, q2.2⟩ (hq2.2.mono (by omega)) rfl
      · apply o_bs; rfl; rfl; rfl; rfl; exact rptE; exact filE; intro _
        refine t_row (xs := [⟨#[97]⟩, ⟨#[65]⟩, ⟨#[]⟩]) (fun w => flat_s w _ (by decide)) ?_ (by decide)
        refine t_read (E := EStr) fun G => ?_
        refine dk ?_
        refine dO 3 (by kernel_rfl) (by rw [List.getElem?_toArray]; rfl) ?_
        apply o_call; rfl; kernel_rfl; exact evsE
        refine cf (one_f _ g F 2 s3 hp (by omega) (by omega)) fun q hq => ?_
        refine t_app ?_
        obtain ⟨b, s4⟩ := q
        obtain ⟨-, hq⟩ := hq
        dsimp only at hq ⊢
        refine dk ?_
        refine dO 6 (by kernel_rfl) (by rw [List.getElem?_toArray]; rfl) ?_
        apply o_call; rfl; kernel_rfl; exact evsE
        refine cf (of_f _ g F _ [⟨#[97]⟩, ⟨#[65]⟩, ⟨#[]⟩] _ s4 hq (by omega) (by decide) (by decide)) fun q2 hq2 => ?_
        refine t_app ?_
        have hq3 : q2.1.size ≤ maxLen := by have := hq2.1; simp only [List.mem_cons, List.not_mem_nil, or_false] at this; rcases this with e | e | e <;> rw [e] <;> decide
        refine dk ?_
        refine dt 7 ?_
        refine dO 8 (by kernel_rfl) (by rw [List.getElem?_toArray]; rfl) ?_
        apply o_bs; rfl; rfl; rfl; rfl; exact rptE; exact filE; intro _
        refine dk ?_
        refine dO 9 (by kernel_rfl) (by rw [List.getElem?_toArray]; rfl) ?_
        refine ap1 (rep_slot ⟨b, q2.1⟩ hq3) one_ESlot fun a9 c9 F9 => ?_
        refine dk ?_
        refine dt 10 ?_
        refine dO 11 (by kernel_rfl) (by rw [List.getElem?_toArray]; rfl) ?_
        apply o_st; rfl; rfl; rfl; (first | exact AggC.s | exact OneC.s); rfl; exact rplE; exact putE; rfl
        refine dkx ?_
        refine dd ?_
        refine go ?_; intros
        refine t_read (E := ESlot) fun F8 => ?_
        refine closeReceiveWindow ⟨z.y.next, z.y.slots ++ [⟨b, q2.1⟩]⟩ ?_
        refine ret ⟨⟨z.y.next, z.y.slots ++ [⟨b, q2.1⟩]⟩, _, _, _, q2.2⟩ (hq2.2.mono (by omega)) rfl
    refine go ?_; intros
    refine c_if rfl (fun e3 => ?_) (fun e3 => ?_)
    · refine go ?_; intros
      refine t_read (E := ESlot) (xs := z.y.slots) fun F8 => ?_
      refine t_row (xs := [(⟨false, ⟨#[]⟩⟩ : Slot)]) (rep_slot _ (by decide)) ?_ (by decide)
      apply wO
      refine aps (ys := z.y.slots) one_ESlot scal_ESlot fun a9 c9 F9 => ?_
      refine go ?_; intros
      refine c_loopS [0, 2, 3] (fun _ : DjS => []) (fun z => [.row gg 46 0 [] [.int .i64 z.y.next, .slice z.a z.y.slots.length z.c] [], .ow ESlot 213 (.slice z.a z.y.slots.length z.c) z.y.slots z.F, .row g 123 0 [] [.slice F.a F.code.length F.c, .int .i64 (z.s.k : Nat), .int .u64 z.s.seed] []]) (fun z : DjS => z.y.slots.length ≤ 9 ∧ CuOk (B + 502 + 2 * z.y.slots.length) z.s) (fun z => 9 - z.y.slots.length) ⟨⟨z.y.next, [⟨false, ⟨#[]⟩⟩] ++ z.y.slots⟩, a9, c9, F9, s3⟩ ⟨by simp; omega, hp.mono (by omega)⟩ fun z hz => ?_
      obtain ⟨z1, z2⟩ := hz
      refine goN ?_; intros
      refine d_start [0] [] ?_
      refine dt 0 ?_
      refine dt 1 ?_
      refine dt 2 ?_
      refine dt 3 ?_
      refine dO 4 (by kernel_rfl) (by rw [List.getElem?_toArray]; rfl) ?_
      apply o_call; rfl; kernel_rfl; exact evsE
      refine cf (pick_f _ g F 2 z.s z2 (by omega) (by omega)) fun p6 hp6 => ?_
      refine t_app ?_
      obtain ⟨r6, s6⟩ := p6
      obtain ⟨hr6, hp6⟩ := hp6
      dsimp only at hr6 hp6 ⊢
      refine dk ?_
      refine dt 5 ?_
      refine dt 6 ?_
      refine dd ?_
      refine go ?_; intros
      refine c_if rfl (fun e4 => ?_) (fun e4 => ?_)
      · refine go ?_; intros
        apply wO
        refine ap1 (rep_slot ⟨true, ⟨#[122]⟩⟩ (by decide)) one_ESlot fun a9 c9 F9 => ?_
        refine go ?_; intros
        refine n_lp ⟨⟨z.y.next, z.y.slots ++ [⟨true, ⟨#[122]⟩⟩]⟩, a9, c9, F9, s6⟩ ⟨by show (z.y.slots ++ [_]).length ≤ 9; simp; omega, hp6.mono (by show _ ≤ B + 502 + 2 * (z.y.slots ++ [_]).length; simp; omega)⟩ (by show 9 - (z.y.slots ++ [_]).length < _; simp; omega)
      · refine go ?_; intros
        refine t_read (E := ESlot) (xs := z.y.slots) fun F8 => ?_
        refine closeReceiveWindow z.y ?_
        refine ret ⟨z.y, _, _, _, s6⟩ (hp6.mono (by omega)) rfl
    · refine go ?_; intros
      refine t_read (E := ESlot) fun F8 => ?_
      refine closeReceiveWindow z.y ?_
      refine ret ⟨z.y, _, _, _, s3⟩ (hp.mono (by omega)) rfl
end Go.Proofs.YtgogcgkocjpgoaaGreatDoor
/- Draws, for the engine: numbers of requests, receivers. -/
namespace Go.Proofs.YtgogcgkocjpgoaaGreatDoor
open Go.RowKit
theorem tick_clock (r : Receiver) (d : Int) : (tickRec r d).clock = r.clock + 1 := by unfold tickRec; split <;> rfl
theorem hear_clock (r : Receiver) (p : Packet) (d : Int) : (hearR r p d).clock = r.clock := by unfold hearR; split <;> (try split) <;> rfl
theorem new_good {k : Nat} (hk : k ≤ 29) : resNewReceiver (k : Nat) = (⟨false, (k : Nat), ⟨0, []⟩, []⟩, true) ∧ GoodR ⟨false, (k : Nat), ⟨0, []⟩, []⟩ := by
  refine ⟨?_, by show (0 : Int) ≤ (k : Nat); omega, by show ((k : Nat) : Int) ≤ 9999; omega, by show goodRW ⟨0, []⟩ = true; decide, by show areQ [] 0 = true; decide, by simp, fun _ => ⟨rfl, rfl⟩⟩
  unfold resNewReceiver isClk btw
  rw [decide_eq_true (by omega), decide_eq_true (by omega)]; rfl
structure RcD where
  y : Receiver
  a : Option Addr
  c : Nat
  a2 : Option Addr
  c2 : Nat
  F : List Nat
  i : Nat
  s : CuS
structure RcOk (B r0 : Nat) (z : RcD) : Prop where
  g : GoodR z.y
  k : z.y.clock ≤ 29 + ((r0 - z.i : Nat) : Int)
  i : z.i ≤ r0
  s : CuOk (B + 10 + 120 * (r0 - z.i)) z.s
set_option maxRecDepth 100000 in
theorem receiver_f (B g : Nat) (F : CuF) (s : CuS) (ok : CuOk B s) (hB : B ≤ 600000000000) :
    Fn Tryz.prog 125 [ptr g 0 0] [.sl EByte (.slice F.a F.code.length F.c) F.code F.bs] [.row g 123 0 [] [.slice F.a F.code.length F.c, .int .i64 (s.k : Nat), .int .u64 s.seed] []] (fun (z : RcD) => z.y.requests.length ≤ 9 ∧ CuOk (B + 3000) z.s) (fun s => .agg #[.bool s.y.started, .int .i64 s.y.clock, .int .i64 s.y.window.next, .slice s.a s.y.window.slots.length s.c, .slice s.a2 s.y.requests.length s.c2])
      (fun s => [.isv EReceiver (.agg #[.bool s.y.started, .int .i64 s.y.clock, .int .i64 s.y.window.next, .slice s.a s.y.window.slots.length s.c, .slice s.a2 s.y.requests.length s.c2]) s.y s.F, .row g 123 0 [] [.slice F.a F.code.length F.c, .int .i64 (s.s.k : Nat), .int .u64 s.s.seed] []]) := by
  refine enter Tryz.func125 rfl Tryz.ntmps125 fun w0 => ?_
  refine go ?_; intros
  refine cf (pick_f B g F 30 s ok (by omega) (by omega)) fun y hy => ?_
  refine t_app ?_
  obtain ⟨k1, s1⟩ := y
  obtain ⟨r1, h1⟩ := hy
  dsimp only at r1 h1 ⊢
  have r1 : k1 ≤ 29 := by omega
  obtain ⟨en, gn⟩ := new_good r1
  refine go ?_; intros
  refine cf (specNewReceiver_f (k1 : Nat)) fun z0 _ => ?_
  refine t_app ?_
  rw [en]
  refine go ?_; intros
  rename_i gg
  refine cf (pick_f _ g F 9 s1 h1 (by omega) (by omega)) fun y hy => ?_
  refine t_app ?_
  obtain ⟨r0, s2⟩ := y
  obtain ⟨hr0, h2⟩ := hy
  dsimp only at hr0 h2 ⊢
  have hr0 : r0 ≤ 8 := by omega
  refine go ?_; intros
  refine c_loopS [0, 2, 3] (fun z : RcD => [(5, .int .i64 (z.i : Nat))]) (fun z => [.row gg 49 0 [] [.bool z.y.started, .int .i64 z.y.clock, .int .i64 z.y.window.next, .slice z.a z.y.window.slots.length z.c, .slice z.a2 z.y.requests.length z.c2] [], .isv EReceiver (.agg #[.bool z.y.started, .int .i64 z.y.clock, .int .i64 z.y.window.next, .slice z.a z.y.window.slots.length z.c, .slice z.a2 z.y.requests.length z.c2]) z.y z.F, .row g 123 0 [] [.slice F.a F.code.length F.c, .int .i64 (z.s.k : Nat), .int .u64 z.s.seed] []]) (RcOk B r0) (fun z => z.i) ⟨⟨false, (k1 : Nat), ⟨0, []⟩, []⟩, z0.a1, z0.c1, z0.a2, z0.c2, z0.F1, r0, s2⟩ ⟨gn, by show ((k1 : Nat) : Int) ≤ 29 + ((r0 - r0 : Nat) : Int); omega, Nat.le_refl _, h2.mono (by show _ ≤ B + 10 + 120 * (r0 - r0); omega)⟩ fun z hz => ?_
  obtain ⟨z1, z2, z3, z4⟩ := hz
  refine go ?_; intros
  refine c_if rfl (fun h3 => ?_) (fun h3 => ?_)
  · have hi0 : 0 < z.i := by omega
    refine go ?_; intros
    refine cf (one_f _ g F 3 z.s z4 (by omega) (by omega)) fun q hq => ?_
    refine t_app ?_
    obtain ⟨b, s4⟩ := q
    obtain ⟨-, hq⟩ := hq
    dsimp only at hq ⊢
    cases b
    rotate_left
    · refine goN ?_; intros
      refine d_start [1] [6, 7, 8, 9] ?_
      refine dt 0 ?_
      refine dt 1 ?_
      refine dO 2 (by kernel_rfl) (by rw [List.getElem?_toArray]; rfl) ?_
      apply o_call; rfl; kernel_rfl; exact evsE
      refine cf (pick_f _ g F 3 s4 hq (by omega) (by omega)) fun y hy => ?_
      refine t_app ?_
      obtain ⟨k5, s5⟩ := y
      obtain ⟨r5, h5⟩ := hy
      dsimp only at r5 h5 ⊢
      have r5 : k5 ≤ 2 := by omega
      refine dk ?_
      refine dt 3 ?_
      refine dO 4 (by kernel_rfl) (by rw [List.getElem?_toArray]; rfl) ?_
      apply o_call; rfl; kernel_rfl; exact evsE
      refine cf (l13Tick_f z.y (1 + (k5 : Nat)) _ z.F z1 (by omega) (by omega) (by have := z1.k1; omega)) fun q _ => ?_
      refine t_app ?_
      refine dk ?_
      refine dt 5 ?_
      refine dtp 6 ?_
      refine dtp 7 ?_
      refine dtp 8 ?_
      refine dO 9 (by kernel_rfl) (by rw [List.getElem?_toArray]; rfl) ?_
      apply o_st; rfl; rfl; rfl; (first | exact AggC.s | exact OneC.s); rfl; exact rplE; exact putE; rfl
      refine dkx ?_
      refine dd ?_
      refine go ?_; intros
      rw [show ((z.i : Nat) : Int) - 1 = ((z.i - 1 : Nat) : Int) by omega]
      refine n_lp ⟨tickRec z.y (1 + (k5 : Nat)), q.a1, q.c1, q.a2, q.c2, q.F1, z.i - 1, s5⟩ ⟨tick_good z1 (by omega) (by omega) (by omega), by show (tickRec z.y (1 + (k5 : Nat))).clock ≤ 29 + ((r0 - (z.i - 1) : Nat) : Int); rw [tick_clock]; omega, by show z.i - 1 ≤ r0; omega, h5.mono (by show _ ≤ B + 10 + 120 * (r0 - (z.i - 1)); omega)⟩ (by show z.i - 1 < z.i; omega)
    · refine goN ?_; intros
      refine d_start [1] [9, 10, 11] ?_
      refine dt 0 ?_
      refine dt 1 ?_
      refine dt 2 ?_
      refine dt 4 ?_
      refine dO 3 (by kernel_rfl) (by rw [List.getElem?_toArray]; rfl) ?_
      apply o_call; rfl; kernel_rfl; exact evsE
      refine cf (heard_f _ g F s4 z.y _ z.F hq (by omega)) fun u hu => ?_
      refine t_app ?_
      obtain ⟨p, s6⟩ := u
      obtain ⟨hp, h6⟩ := hu
      dsimp only at hp h6 ⊢
      refine dk ?_
      refine dO 5 (by kernel_rfl) (by rw [List.getElem?_toArray]; rfl) ?_
      apply o_call; rfl; kernel_rfl; exact evsE
      refine cf (pick_f _ g F 3 s6 h6 (by omega) (by omega)) fun y hy => ?_
      refine t_app ?_
      obtain ⟨k5, s5⟩ := y
      obtain ⟨r5, h5⟩ := hy
      dsimp only at r5 h5 ⊢
      have r5 : k5 ≤ 2 := by omega
      refine dk ?_
      refine dt 6 ?_
      refine dO 7 (by kernel_rfl) (by rw [List.getElem?_toArray]; rfl) ?_
      apply o_call; rfl; kernel_rfl; exact evsE
      refine cf (l13Hear_f z.y p (1 + (k5 : Nat)) _ z.F z1 hp (by omega) (by omega)) fun q _ => ?_
      refine t_app ?_
      refine dk ?_
      refine dt 8 ?_
      refine dtp 9 ?_
      refine dtp 10 ?_
      refine dO 11 (by kernel_rfl) (by rw [List.getElem?_toArray]; rfl) ?_
      apply o_st; rfl; rfl; rfl; (first | exact AggC.s | exact OneC.s); rfl; exact rplE; exact putE; rfl
      refine dkx ?_
      refine dd ?_
      refine go ?_; intros
      rw [show ((z.i : Nat) : Int) - 1 = ((z.i - 1 : Nat) : Int) by omega]
      refine n_lp ⟨hearR z.y p (1 + (k5 : Nat)), q.a1, q.c1, q.a2, q.c2, q.F1, z.i - 1, s5⟩ ⟨(hear_good z1 hp (by omega) (by omega)).1, by show (hearR z.y p (1 + (k5 : Nat))).clock ≤ 29 + ((r0 - (z.i - 1) : Nat) : Int); rw [hear_clock]; omega, by show z.i - 1 ≤ r0; omega, h5.mono (by show _ ≤ B + 10 + 120 * (r0 - (z.i - 1)); omega)⟩ (by show z.i - 1 < z.i; omega)
  · have hq8 := (areQ_iff.1 z1.q).2.1
    have hnx := next_ser z1.w
    refine go ?_; intros
    refine cf (pick_f _ g F 24 z.s z4 (by omega) (by omega)) fun p hp => ?_
    refine t_app ?_
    obtain ⟨r, s3⟩ := p
    obtain ⟨-, hp⟩ := hp
    dsimp only at hp ⊢
    refine openReceiver (x := z.y) (F := z.F) ?_
    rintro b1 d1 G1 b2 d2 G2 e5 m1 m2
    simp only [Value.agg.injEq, Array.mk.injEq, List.cons.injEq, Value.slice.injEq, Value.int.injEq, Value.bool.injEq, true_and, and_true] at e5
    obtain ⟨⟨rfl, rfl⟩, rfl, rfl⟩ := e5
    refine go ?_; intros
    refine c_if rfl (fun e0 => ?_) (fun e0 => ?_)
    · refine goN ?_; intros
      refine t_row (xs := [-1, 9999, 10000]) (fun w => flat_int w _) ?_ (by decide)
      refine t_read (E := EInt) fun G => ?_
      refine go ?_; intros
      refine cf (among_f _ g F _ [-1, 9999, 10000] G s3 hp (by omega) (by decide) (by decide)) fun q hq => ?_
      refine t_app ?_
      refine go ?_; intros
      refine closeReceiver ⟨z.y.started, q.1, z.y.window, z.y.requests⟩ (a1 := z.a) ?_
      refine ret ⟨⟨z.y.started, q.1, z.y.window, z.y.requests⟩, _, _, _, _, _, 0, q.2⟩ ⟨by show z.y.requests.length ≤ 9; omega, hq.2.mono (by omega)⟩ rfl
    refine go ?_; intros
    refine c_if rfl (fun e1 => ?_) (fun e1 => ?_)
    · refine go ?_; intros
      refine cf (drawRW_f _ g F s3 hp (by omega)) fun q hq => ?_
      refine t_app ?_
      refine openReceiveWindow (x := q.y) (F := q.F) ?_
      rintro b3 d3 G3 e6 m3
      simp only [Value.agg.injEq, Array.mk.injEq, List.cons.injEq, Value.slice.injEq, Value.int.injEq, true_and, and_true] at e6
      obtain ⟨rfl, rfl⟩ := e6
      refine go ?_; intros
      refine closeReceiver ⟨z.y.started, z.y.clock, q.y, z.y.requests⟩ (a1 := q.a) ?_
      refine ret ⟨⟨z.y.started, z.y.clock, q.y, z.y.requests⟩, _, _, _, _, _, 0, q.s⟩ ⟨by show z.y.requests.length ≤ 9; omega, hq.mono (by omega)⟩ rfl
    refine go ?_; intros
    refine c_if rfl (fun e2 => ?_) (fun e2 => ?_)
    · refine go ?_; intros
      refine cf (requests_f _ g F s3 z.y.window.next (by omega) hp (by omega)) fun q hq => ?_
      refine t_app ?_
      refine go ?_; intros
      refine t_read (E := ERequest) (xs := q.xs) fun G5 => ?_
      refine closeReceiver ⟨z.y.started, z.y.clock, z.y.window, q.xs⟩ (a1 := z.a) ?_
      refine ret ⟨⟨z.y.started, z.y.clock, z.y.window, q.xs⟩, _, _, _, _, _, 0, q.s⟩ ⟨hq.1, hq.2.mono (by omega)⟩ rfl
    refine go ?_; intros
    refine c_if rfl (fun e3 => ?_) (fun e3 => ?_)
    · refine go ?_; intros
      refine closeReceiver ⟨!z.y.started, z.y.clock, z.y.window, z.y.requests⟩ (a1 := z.a) ?_
      refine ret ⟨⟨!z.y.started, z.y.clock, z.y.window, z.y.requests⟩, _, _, _, _, _, 0, s3⟩ ⟨by show z.y.requests.length ≤ 9; omega, hp.mono (by omega)⟩ rfl
    · refine go ?_; intros
      refine closeReceiver z.y (a1 := z.a) ?_
      refine ret ⟨z.y, _, _, _, _, _, 0, s3⟩ ⟨by show z.y.requests.length ≤ 9; omega, hp.mono (by omega)⟩ rfl
end Go.Proofs.YtgogcgkocjpgoaaGreatDoor
/- Draws of receivers: ticks, states. -/
namespace Go.Proofs.YtgogcgkocjpgoaaGreatDoor
open Go.RowKit
structure RcN where
  y : Receiver
  a : Option Addr
  c : Nat
  a2 : Option Addr
  c2 : Nat
  F : List Nat
  n : Int
structure RcT (r0 : Nat) (z : RcD) : Prop where
  l : z.y.requests.length ≤ 9
  i : z.i ≤ r0
  s : CuOk (3100 + 10 * (r0 - z.i)) z.s
end Go.Proofs.YtgogcgkocjpgoaaGreatDoor
/- Draws of receivers: packets to hear. -/
namespace Go.Proofs.YtgogcgkocjpgoaaGreatDoor
open Go.RowKit
structure RcP where
  y : Receiver
  a : Option Addr
  c : Nat
  a2 : Option Addr
  c2 : Nat
  F : List Nat
  p : Packet
  n : Int
structure RcL where
  y : Receiver
  a : Option Addr
  c : Nat
  a2 : Option Addr
  c2 : Nat
  F : List Nat
  l : List Packet
  al : Option Addr
  cl : Nat
  Fl : List Nat
  n : Int
structure HlS where
  l : List Packet
  a : Option Addr
  c : Nat
  F : List Nat
  i : Nat
  s : CuS
set_option maxRecDepth 100000 in
theorem DrawHearP_f (v : Value) (code : List Int) (G : List Nat) : Fn Tryz.prog 62 [v] [.sl EByte v code G] [] (fun (s : RcP) => s.y.requests.length ≤ 9 ∧ s.p.data.size ≤ maxLen) (fun s => .tuple #[.agg #[.bool s.y.started, .int .i64 s.y.clock, .int .i64 s.y.window.next, .slice s.a s.y.window.slots.length s.c, .slice s.a2 s.y.requests.length s.c2], .agg #[.int .i64 s.p.kind, .int .i64 s.p.number, .int .i64 s.p.trail, .int .i64 s.p.lead, .string s.p.data], .int .i64 s.n]) (fun s => [.isv EReceiver (.agg #[.bool s.y.started, .int .i64 s.y.clock, .int .i64 s.y.window.next, .slice s.a s.y.window.slots.length s.c, .slice s.a2 s.y.requests.length s.c2]) s.y s.F]) := by
  refine enter Tryz.func62 rfl Tryz.ntmps62 fun w0 => ?_
  refine t_sl (E := EByte) ?_
  rintro a c rfl l1 l2
  refine go ?_; intros
  refine cf (receiver_f 0 _ ⟨code, a, c, G⟩ ⟨0, 0⟩ ⟨Nat.le_refl _, by decide, by decide⟩ (by omega)) fun z hz => ?_
  refine t_app ?_
  obtain ⟨hz1, hz2⟩ := hz
  refine go ?_; intros
  rename_i gt gp gc gg
  refine cf (heard_f _ gc ⟨code, a, c, G⟩ z.s z.y _ z.F hz2 (by omega)) fun u hu => ?_
  refine t_app ?_
  obtain ⟨hu1, hu2⟩ := hu
  have hu1 := (goodPk_bd hu1).2.2
  refine go ?_; intros
  rename_i gu
  refine cf (one_f _ gc ⟨code, a, c, G⟩ 16 u.2 hu2 (by omega) (by omega)) fun q hq => ?_
  refine t_app ?_
  obtain ⟨b, s4⟩ := q
  obtain ⟨-, hq⟩ := hq
  dsimp only at hq ⊢
  cases b
  rotate_left
  · refine go ?_; intros
    refine cf (anyPacket_f _ gc ⟨code, a, c, G⟩ s4 hq (by omega)) fun u hu => ?_
    refine t_app ?_
    obtain ⟨hu1, hu2⟩ := hu
    refine goN ?_; intros
    refine d_start [1, 2] [] ?_
    refine dt 0 ?_
    refine dt 1 ?_
    refine dt 2 ?_
    refine dO 3 (by kernel_rfl) (by rw [List.getElem?_toArray]; rfl) ?_
    apply o_call; rfl; kernel_rfl; exact evsE
    refine cf (delay_f _ _ ⟨code, a, c, G⟩ u.2 hu2 (by omega)) fun q _ => ?_
    refine t_app ?_
    refine dk ?_
    refine dO 4 (by kernel_rfl) (by rw [List.getElem?_toArray]; rfl) ?_
    apply o_st; rfl; rfl; rfl; (first | exact AggC.s | exact OneC.s); rfl; exact rplE; exact putE; rfl
    refine dk ?_
    refine dO 5 (by kernel_rfl) (by rw [List.getElem?_toArray]; rfl) ?_
    apply o_st; rfl; rfl; rfl; (first | exact AggC.s | exact OneC.s); rfl; exact rplE; exact putE; rfl
    refine dk ?_
    refine dt 6 ?_
    refine dd ?_
    refine go ?_; intros
    refine ret ⟨z.y, z.a, z.c, z.a2, z.c2, z.F, u.1, q.1⟩ ⟨hz1, hu1⟩ rfl
  · refine goN ?_; intros
    refine d_start [1, 2] [] ?_
    refine dt 0 ?_
    refine dt 1 ?_
    refine dt 2 ?_
    refine dO 3 (by kernel_rfl) (by rw [List.getElem?_toArray]; rfl) ?_
    apply o_call; rfl; kernel_rfl; exact evsE
    refine cf (delay_f _ _ ⟨code, a, c, G⟩ s4 hq (by omega)) fun q _ => ?_
    refine t_app ?_
    refine dk ?_
    refine dO 4 (by kernel_rfl) (by rw [List.getElem?_toArray]; rfl) ?_
    apply o_st; rfl; rfl; rfl; (first | exact AggC.s | exact OneC.s); rfl; exact rplE; exact putE; rfl
    refine dk ?_
    refine dO 5 (by kernel_rfl) (by rw [List.getElem?_toArray]; rfl) ?_
    apply o_st; rfl; rfl; rfl; (first | exact AggC.s | exact OneC.s); rfl; exact rplE; exact putE; rfl
    refine dk ?_
    refine dt 6 ?_
    refine dd ?_
    refine go ?_; intros
    refine ret ⟨z.y, z.a, z.c, z.a2, z.c2, z.F, u.1, q.1⟩ ⟨hz1, hu1⟩ rfl
set_option maxRecDepth 100000 in
theorem DrawHearL_f (v : Value) (code : List Int) (G : List Nat) : Fn Tryz.prog 67 [v] [.sl EByte v code G] [] (fun (s : RcL) => s.y.requests.length ≤ 9) (fun s => .tuple #[.agg #[.bool s.y.started, .int .i64 s.y.clock, .int .i64 s.y.window.next, .slice s.a s.y.window.slots.length s.c, .slice s.a2 s.y.requests.length s.c2], .slice s.al s.l.length s.cl, .int .i64 s.n]) (fun s => [.isv EReceiver (.agg #[.bool s.y.started, .int .i64 s.y.clock, .int .i64 s.y.window.next, .slice s.a s.y.window.slots.length s.c, .slice s.a2 s.y.requests.length s.c2]) s.y s.F, .sl EPacket (.slice s.al s.l.length s.cl) s.l s.Fl]) := by
  refine enter Tryz.func67 rfl Tryz.ntmps67 fun w0 => ?_
  refine t_sl (E := EByte) ?_
  rintro a c rfl l1 l2
  refine go ?_; intros
  refine cf (receiver_f 0 _ ⟨code, a, c, G⟩ ⟨0, 0⟩ ⟨Nat.le_refl _, by decide, by decide⟩ (by omega)) fun z hz => ?_
  refine t_app ?_
  obtain ⟨hz1, hz2⟩ := hz
  refine goN ?_; intros
  rename_i gt gc gg ge
  refine t_emp EPacket ?_
  refine go ?_; intros
  refine cf (pick_f _ gc ⟨code, a, c, G⟩ 5 z.s hz2 (by omega) (by omega)) fun y hy => ?_
  refine t_app ?_
  obtain ⟨r0, s2⟩ := y
  obtain ⟨hr0, h2⟩ := hy
  dsimp only at hr0 h2 ⊢
  have hr0 : r0 ≤ 4 := by omega
  refine go ?_; intros
  refine c_loopS [2, 3, 4, 5, 6] (fun u : HlS => [(7, .slice u.a u.l.length u.c), (8, .int .i64 (u.i : Nat))]) (fun u => [.ow EPacket 67 (.slice u.a u.l.length u.c) u.l u.F, .row gc 123 0 [] [.slice a code.length c, .int .i64 (u.s.k : Nat), .int .u64 u.s.seed] []]) (fun u => u.l.length + u.i = r0 ∧ CuOk (3100 + 200 * (r0 - u.i)) u.s) (fun u => u.i) ⟨[], _, _, _, r0, s2⟩ ⟨by simp, h2.mono (by show _ ≤ 3100 + 200 * (r0 - r0); omega)⟩ fun u hu => ?_
  obtain ⟨u1, u2⟩ := hu
  refine go ?_; intros
  refine c_if rfl (fun h3 => ?_) (fun h3 => ?_)
  · have hi0 : 0 < u.i := by omega
    refine go ?_; intros
    refine cf (heard_f _ gc ⟨code, a, c, G⟩ u.s z.y _ z.F u2 (by omega)) fun q hq => ?_
    refine t_app ?_
    obtain ⟨hq1, hq2⟩ := hq
    refine goN ?_; intros
    apply wO
    refine ap1 (flatPacket q.1 (goodPk_bd hq1).2.2) one_EPacket fun a9 c9 F9 => ?_
    refine go ?_; intros
    rw [show ((u.i : Nat) : Int) - 1 = ((u.i - 1 : Nat) : Int) by omega]
    refine n_lp ⟨u.l ++ [q.1], a9, c9, F9, u.i - 1, q.2⟩ ⟨by show (u.l ++ [_]).length + (u.i - 1) = r0; simp; omega, hq2.mono (by show _ ≤ 3100 + 200 * (r0 - (u.i - 1)); omega)⟩ (by show u.i - 1 < u.i; omega)
  have hu2 : CuOk 4000 u.s := u2.mono (by omega)
  refine go ?_; intros
  refine cf (pick_f _ gc ⟨code, a, c, G⟩ 24 u.s hu2 (by omega) (by omega)) fun p hp => ?_
  refine t_app ?_
  obtain ⟨r, s3⟩ := p
  obtain ⟨-, hp⟩ := hp
  dsimp only at hp ⊢
  refine go ?_; intros
  refine c_if rfl (fun e0 => ?_) (fun e0 => ?_)
  · refine go ?_; intros
    refine cf (anyPacket_f _ gc ⟨code, a, c, G⟩ s3 hp (by omega)) fun q hq => ?_
    refine t_app ?_
    refine goN ?_; intros
    apply wO
    refine ap1 (flatPacket q.1 hq.1) one_EPacket fun a9 c9 F9 => ?_
    refine goN ?_; intros
    refine d_start [2] [] ?_
    refine dt 0 ?_
    refine dt 1 ?_
    refine dt 2 ?_
    refine dO 3 (by kernel_rfl) (by rw [List.getElem?_toArray]; rfl) ?_
    apply o_call; rfl; kernel_rfl; exact evsE
    refine cf (delay_f _ gc ⟨code, a, c, G⟩ q.2 hq.2 (by omega)) fun qd _ => ?_
    refine t_app ?_
    refine dk ?_
    refine dO 4 (by kernel_rfl) (by rw [List.getElem?_toArray]; rfl) ?_
    apply o_st; rfl; rfl; rfl; (first | exact AggC.s | exact OneC.s); rfl; exact rplE; exact putE; rfl
    refine dk ?_
    refine dt 5 ?_
    refine dt 6 ?_
    refine dd ?_
    refine go ?_; intros
    refine t_read (E := EPacket) (xs := u.l ++ [q.1]) fun G5 => ?_
    refine ret ⟨z.y, z.a, z.c, z.a2, z.c2, z.F, u.l ++ [q.1], a9, c9, G5, qd.1⟩ hz1 rfl
  refine go ?_; intros
  refine c_if rfl (fun e1 => ?_) (fun e1 => ?_)
  rotate_left
  · refine goN ?_; intros
    refine d_start [2] [] ?_
    refine dt 0 ?_
    refine dt 1 ?_
    refine dt 2 ?_
    refine dO 3 (by kernel_rfl) (by rw [List.getElem?_toArray]; rfl) ?_
    apply o_call; rfl; kernel_rfl; exact evsE
    refine cf (delay_f _ gc ⟨code, a, c, G⟩ s3 hp (by omega)) fun qd _ => ?_
    refine t_app ?_
    refine dk ?_
    refine dO 4 (by kernel_rfl) (by rw [List.getElem?_toArray]; rfl) ?_
    apply o_st; rfl; rfl; rfl; (first | exact AggC.s | exact OneC.s); rfl; exact rplE; exact putE; rfl
    refine dk ?_
    refine dt 5 ?_
    refine dt 6 ?_
    refine dd ?_
    refine go ?_; intros
    refine t_read (E := EPacket) (xs := u.l) fun G5 => ?_
    refine ret ⟨z.y, z.a, z.c, z.a2, z.c2, z.F, u.l, u.a, u.c, G5, qd.1⟩ hz1 rfl
  refine go ?_; intros
  refine c_loopS [2, 3, 4, 5, 6] (fun u : HlS => [(7, .slice u.a u.l.length u.c), (9, .int .i64 (u.i : Nat))]) (fun u => [.ow EPacket 67 (.slice u.a u.l.length u.c) u.l u.F, .row gc 123 0 [] [.slice a code.length c, .int .i64 (u.s.k : Nat), .int .u64 u.s.seed] []]) (fun u => u.l.length ≤ 4 + u.i ∧ u.i ≤ 12 ∧ CuOk (4100 + 10 * u.i) u.s) (fun u => 12 - u.i) ⟨u.l, u.a, u.c, u.F, 0, s3⟩ ⟨by show u.l.length ≤ 4 + 0; omega, by show 0 ≤ 12; omega, hp.mono (by show _ ≤ 4100 + 10 * 0; omega)⟩ fun u hu => ?_
  obtain ⟨u1, u3, u2⟩ := hu
  refine go ?_; intros
  refine cf (pick_f _ gc ⟨code, a, c, G⟩ 2 u.s u2 (by omega) (by omega)) fun p hp => ?_
  refine t_app ?_
  obtain ⟨r5, s5⟩ := p
  obtain ⟨h5, hp5⟩ := hp
  dsimp only at h5 hp5 ⊢
  have h5 : r5 ≤ 1 := by omega
  refine go ?_; intros
  refine wg_if rfl rfl (fun h6 => ?_) (fun h6 => ?_)
  refine go ?_; intros
  refine c_if rfl (fun h7 => ?_) (fun h7 => ?_)
  · refine goN ?_; intros
    apply wO
    refine ap1 (flatPacket ⟨5, 0, 0, 0, ⟨#[]⟩⟩ (by decide)) one_EPacket fun a9 c9 F9 => ?_
    refine go ?_; intros
    refine n_lp ⟨u.l ++ [⟨5, 0, 0, 0, ⟨#[]⟩⟩], a9, c9, F9, u.i + 1, s5⟩ ⟨by show (u.l ++ [_]).length ≤ 4 + (u.i + 1); simp; omega, by show u.i + 1 ≤ 12; omega, hp5.mono (by show _ ≤ 4100 + 10 * (u.i + 1); omega)⟩ (by show 12 - (u.i + 1) < 12 - u.i; omega)
  all_goals
    refine goN ?_; intros
    refine d_start [2] [] ?_
    refine dt 0 ?_
    refine dt 1 ?_
    refine dt 2 ?_
    refine dO 3 (by kernel_rfl) (by rw [List.getElem?_toArray]; rfl) ?_
    apply o_call; rfl; kernel_rfl; exact evsE
    refine cf (delay_f _ gc ⟨code, a, c, G⟩ s5 hp5 (by omega)) fun qd _ => ?_
    refine t_app ?_
    refine dk ?_
    refine dO 4 (by kernel_rfl) (by rw [List.getElem?_toArray]; rfl) ?_
    apply o_st; rfl; rfl; rfl; (first | exact AggC.s | exact OneC.s); rfl; exact rplE; exact putE; rfl
    refine dk ?_
    refine dt 5 ?_
    refine dt 6 ?_
    refine dd ?_
    refine go ?_; intros
    refine t_read (E := EPacket) (xs := u.l) fun G5 => ?_
    refine ret ⟨z.y, z.a, z.c, z.a2, z.c2, z.F, u.l, u.a, u.c, G5, qd.1⟩ hz1 rfl
end Go.Proofs.YtgogcgkocjpgoaaGreatDoor
/- Receivers: AwaitedSerials, StateOf. -/
namespace Go.Proofs.YtgogcgkocjpgoaaGreatDoor
open Go.RowKit
def resAwaited (x : Receiver) : List Int × Bool := if goodRec x then (x.requests.map (·.number), true) else ([], false)
set_option maxRecDepth 100000 in
theorem AwaitedSerials_f (x : Receiver) (v : Value) (F : List Nat) : Fn Tryz.prog 49 [v] [.isv EReceiver v x F] [] (fun (_ : OwR) => True) (fun s => .tuple #[.slice s.a (resAwaited x).1.length s.c, .bool (resAwaited x).2]) (fun s => [.ow EInt 3 (.slice s.a (resAwaited x).1.length s.c) (resAwaited x).1 s.F]) := by
  refine enter Tryz.func49 rfl Tryz.ntmps49 fun w0 => ?_
  refine openReceiver (v := v) (x := x) (F := F) ?_
  rintro a1 c1 F1 a2 c2 F2 rfl l1 l2
  unfold maxLen at l1 l2
  refine t_nilow EInt 3 ?_
  refine go ?_; intros
  refine cf (IsValidReceiver_f x _ F) fun _ _ => ?_
  refine t_app ?_
  cases g1 : goodRec x
  · rw [show resAwaited x = ([], false) by unfold resAwaited; rw [g1]; rfl]
    refine go ?_; intros
    refine ret ⟨_, _, _⟩ trivial rfl
  have g5 := goodR_iff.1 g1
  have hq8 := (areQ_iff.1 g5.q).2.1
  rw [show resAwaited x = (x.requests.map (·.number), true) by unfold resAwaited; rw [g1]; rfl]
  refine go ?_; intros
  refine c_loopS [2, 3, 11, 12] (fun s : AwS => [(13, .int .i64 (s.i : Nat)), (4, .slice s.a ((x.requests.take s.i).map (·.number)).length s.c)]) (fun s => [.ow EInt 3 (.slice s.a ((x.requests.take s.i).map (·.number)).length s.c) ((x.requests.take s.i).map (·.number)) s.F]) (fun s => s.i ≤ x.requests.length) (fun s => x.requests.length - s.i) ⟨0, none, 0, []⟩ (Nat.zero_le _) fun s hs => ?_
  obtain ⟨i, a3, c3, F3⟩ := s
  dsimp only at hs ⊢
  have hl3 : ((x.requests.take i).map (·.number)).length ≤ i := by simp; omega
  refine go ?_; intros
  refine c_if rfl (fun h4 => ?_) (fun h4 => ?_)
  · have hi : i < x.requests.length := by omega
    have eo : (x.requests.take (i + 1)).map (·.number) = (x.requests.take i).map (·.number) ++ [x.requests[i].number] := by rw [List.take_add_one, List.getElem?_eq_getElem hi, List.map_append]; rfl
    refine atRequest (xs := x.requests) i ?_
    rintro hi2 b o e
    rw [e]
    refine go ?_; intros
    apply wO
    refine ap1 (rep_int _) one_EInt fun a7 c7 F7 => ?_
    refine go ?_; intros
    rw [← eo]
    refine n_lp (⟨i + 1, _, _, _⟩ : AwS) (by show i + 1 ≤ x.requests.length; omega) (by show x.requests.length - (i + 1) < x.requests.length - i; omega)
  have hi : i = x.requests.length := by omega
  subst hi
  rw [List.take_length]
  refine go ?_; intros
  refine ret ⟨_, _, _⟩ trivial rfl
end Go.Proofs.YtgogcgkocjpgoaaGreatDoor
/- Receivers: what the laws say of a tick, of a state and of hearing; plain. -/
namespace Go.Proofs.YtgogcgkocjpgoaaGreatDoor
open Go.RowKit
theorem gp_self (n : Int) : gp n n = 0 := by unfold gp; omega
def numsQ (r : Receiver) : List Int := r.requests.map (·.number)
theorem nums_yes {r : Receiver} {q : Request} (h : q ∈ r.requests) : (numsQ r).contains q.number = true := by
  rw [List.contains_iff_mem]; exact List.mem_map.2 ⟨q, h, rfl⟩
theorem nums_no {r : Receiver} {n : Int} (h : ∀ q ∈ r.requests, q.number ≠ n) : (numsQ r).contains n = false := by
  rw [← Bool.not_eq_true, List.contains_iff_mem]
  intro hm
  obtain ⟨q, hq, e⟩ := List.mem_map.1 hm
  exact h q hq e
theorem aw_yes {r : Receiver} (hg : GoodR r) : resAwaited r = (numsQ r, true) := by unfold resAwaited; rw [goodR_iff.2 hg]; rfl
theorem gap_yes {a b : ReceiveWindow} (ha : goodRW a = true) (hb : goodRW b = true) : resGap a.next b.next = (gp a.next b.next, true) := by
  unfold resGap; rw [isSer_iff.2 (next_ser ha), isSer_iff.2 (next_ser hb)]; rfl
def jumpE (es : List ByteArray) : Bool := decide (es.getLast? = some ⟨#[33]⟩)
theorem take_gap {w : ReceiveWindow} {n : Int} {s : ByteArray} (hg : goodRW w = true) (hn : isSer n = true) (hs : itm s = true) : (takeW w n s).next = aft w.next ((takeE w n s).length : Nat) := by
  obtain ⟨w0, w1⟩ := next_ser hg
  cases ht : takeOk w n
  · have e : (takeNo w n || !decide (gp w.next n < 8)) = true := by unfold takeOk at ht; simp only [Bool.or_eq_false_iff] at ht; rw [ht.1, ht.2]; rfl
    have e1 : takeW w n s = w := by unfold takeW; rw [if_pos e]
    have e2 : takeE w n s = [] := by unfold takeE; rw [if_pos e]
    rw [e1, e2]
    exact (aft_zeroN w0 w1).symm
  · have hok : okTakeItem w n s = true := by unfold okTakeItem; rw [hg, hn, hs, ht]; rfl
    have h := law_take w n s (by unfold resTakeItem; rw [hok]; rfl)
    rw [show resTakeItem w n s = (takeW w n s, takeE w n s, true) by unfold resTakeItem; rw [hok]; rfl] at h
    obtain ⟨-, -, h3, h4, -, -, h7, -⟩ := h
    dsimp only at h3 h4 h7
    obtain ⟨v0, v1⟩ := next_ser h3
    rw [← h4]
    unfold aft gp at *; omega
theorem mem_addQ_old {base n u : Int} {l : List Request} {q : Request} (h : q ∈ l) : q ∈ addQ base l n u := by
  unfold addQ
  split
  · exact h
  · unfold insQ
    rw [List.mem_append, List.mem_cons]
    rw [← List.take_append_drop (askAt base l n) l, List.mem_append] at h
    rcases h with h | h
    · exact .inl h
    · exact .inr (.inr h)
theorem mem_addQ_new {base n u : Int} {l : List Request} (h8 : gp base n < 8) : ∃ q ∈ addQ base l n u, q.number = n := by
  unfold addQ
  rw [decide_eq_true h8]
  cases ha : askOn base l n
  · exact ⟨newQ n u, by simp [insQ], rfl⟩
  · have hlt := askOn_lt ha
    rw [askOn_at hlt] at ha
    exact ⟨l[askAt base l n], by simp, of_decide_eq_true ha⟩
theorem mem_addAll_old {base u : Int} {q : Request} : ∀ (ns : List Int) (l : List Request), q ∈ l → q ∈ addAll base u l ns
  | [], _, h => h
  | n :: ns, l, h => mem_addAll_old ns (addQ base l n u) (mem_addQ_old h)
theorem mem_addAll_new {base u n : Int} (h8 : gp base n < 8) : ∀ (ns : List Int) (l : List Request), n ∈ ns → ∃ q ∈ addAll base u l ns, q.number = n
  | m :: ns, l, h => by
    rcases List.mem_cons.1 h with rfl | h
    · obtain ⟨q, hq, e⟩ := mem_addQ_new (base := base) (u := u) (l := l) h8
      exact ⟨q, mem_addAll_old ns _ hq, e⟩
    · exact mem_addAll_new h8 ns (addQ base l m u) h
theorem req_not {x : Receiver} (hg : GoodR x) {q : Request} (hq : q ∈ x.requests) : takeNo x.window q.number = false := by
  obtain ⟨a, b, c⟩ := req_at hg hq
  obtain ⟨n0, n1⟩ := isSer_iff.1 a
  obtain ⟨w0, w1⟩ := next_ser hg.w
  unfold takeNo
  rw [c, Bool.or_false]
  unfold bef btw
  have : ¬ (1 ≤ gp q.number x.window.next ∧ gp q.number x.window.next ≤ 32767) := by unfold gp at *; omega
  simpa using this
/-- news leave no missing item without a request -/
theorem news_all {r : Receiver} {p : Packet} {d : Int} (hG : GoodR (newsR r p d)) (hb : bef (newsW r p).next p.lead = true) (i : Nat) (h8 : i < 8) (hi : bef (aft (newsW r p).next i) p.lead = true) :
    takeNo (newsW r p) (aft (newsW r p).next i) = !(numsQ (newsR r p d)).contains (aft (newsW r p).next i) := by
  obtain ⟨w0, w1⟩ := next_ser hG.w
  have hlt : i < awaitN (newsW r p) p.lead := by
    have w0 : 0 ≤ (newsW r p).next := w0
    have w1 : (newsW r p).next ≤ 65535 := w1
    unfold awaitN
    unfold bef btw at hb hi
    simp only [Bool.and_eq_true, decide_eq_true_eq] at hb hi
    unfold gp aft at *; omega
  cases ht : takeNo (newsW r p) (aft (newsW r p).next i)
  · have hh : hasB (newsW r p) (aft (newsW r p).next i) = false := by unfold takeNo at ht; simp only [Bool.or_eq_false_iff] at ht; exact ht.2
    have hm : aft (newsW r p).next i ∈ missL (newsW r p) (awaitN (newsW r p) p.lead) := by
      unfold missL spanL
      exact List.mem_filter.2 ⟨List.mem_map.2 ⟨i, List.mem_range.2 hlt, rfl⟩, by rw [hh]; rfl⟩
    obtain ⟨q, hq, e⟩ := mem_addAll_new (base := (newsW r p).next) (u := r.clock + d) (missL_at (awaitN_le _ _) hm).2.1 _ (needed r.requests (newsW r p)) hm
    have hq' : q ∈ (newsR r p d).requests := by
      show q ∈ awaitQ (newsW r p) (needed r.requests (newsW r p)) p.lead (r.clock + d)
      unfold awaitQ; rw [hb]; exact hq
    have := nums_yes hq'
    rw [e] at this; rw [this]; rfl
  · rw [nums_no fun q hq e => by
      have h := req_not hG hq
      rw [e] at h
      have ht : takeNo (newsR r p d).window (aft (newsW r p).next i) = true := ht
      rw [ht] at h; cases h]
    rfl
theorem skip_gap {w : ReceiveWindow} {t : Int} (hg : goodRW w = true) (hj : (skipE w t).getLast? ≠ some ⟨#[33]⟩) : (skipW w t).next = aft w.next ((skipE w t).length : Nat) := by
  obtain ⟨w0, w1⟩ := next_ser hg
  unfold skipW skipE at *
  split
  · rename_i h1
    rw [if_pos h1] at hj
    split
    · exact (moved_at hg).1
    · rename_i h2
      rw [if_neg h2] at hj
      exact absurd rfl hj
  · exact (aft_zeroN w0 w1).symm
theorem law_hear (r : Receiver) (p : Packet) (d : Int) (h : (resHearPacket r p d).2.2 = true) : GoodR r ∧ goodPk p = true ∧ GoodR (resHearPacket r p d).1 ∧ (resHearPacket r p d).1.started = (r.started || isNews p)
    ∧ (r.started = true → jumpE (resHearPacket r p d).2.1 = false → gp r.window.next (resHearPacket r p d).1.window.next = ((resHearPacket r p d).2.1.length : Nat))
    ∧ (isNews p = true → bef (resHearPacket r p d).1.window.next p.lead = true → ∀ i : Nat, i < 8 → bef (aft (resHearPacket r p d).1.window.next i) p.lead = true → takeNo (resHearPacket r p d).1.window (aft (resHearPacket r p d).1.window.next i) = !(numsQ (resHearPacket r p d).1).contains (aft (resHearPacket r p d).1.window.next i)) := by
  cases hk : okHearPacket r p d
  · rw [resHP_no hk] at h; cases h
  rw [resHP_yes hk]
  unfold okHearPacket at hk
  simp only [Bool.and_eq_true] at hk
  obtain ⟨⟨h1, hp⟩, h3⟩ := hk
  have hg := goodR_iff.1 h1
  have hd : 1 ≤ d ∧ d ≤ 8 := by unfold isDel btw at h3; simpa using h3
  have hG := (hear_good hg hp hd.1 hd.2).1
  refine ⟨hg, hp, hG, ?_⟩
  dsimp only
  cases hn : isNews p
  · have eE : hearE r p = [] := by unfold hearE; rw [hn]; rfl
    have eW : (hearR r p d).window = r.window ∧ (hearR r p d).started = r.started := by
      unfold hearR; rw [hn]
      split
      · cases ‹false = true›
      · split <;> exact ⟨rfl, rfl⟩
    rw [eW.1, eW.2, eE]
    refine ⟨by simp, fun _ _ => gp_self _, fun h => by cases h⟩
  · have eE : hearE r p = newsE r p := by unfold hearE; rw [hn]; rfl
    have eR : hearR r p d = newsR r p d := by unfold hearR; rw [hn]; rfl
    rw [eR] at hG
    rw [eE, eR]
    refine ⟨by show true = _; simp, fun hs hj => ?_, fun _ hb i hi hi2 => news_all hG hb i hi hi2⟩
    obtain ⟨a1, a2⟩ := start_good hg hp
    obtain ⟨b1, -, b3⟩ := taken_good hg hp
    have hp' := hp
    unfold goodPk at hp'
    simp only [Bool.and_eq_true] at hp'
    have ht : (takenW r p).next = aft r.window.next ((takenE r p).length : Nat) := by
      have hw := next_ser hg.w
      unfold takenW takenE
      split
      · rw [a2 hs]; exact (aft_zeroN hw.1 hw.2).symm
      · rw [take_gap a1 hp'.1.1.1.1.1.2 hp'.1.1.2, a2 hs]
    have hk : (skipW (takenW r p) p.trail).next = aft (takenW r p).next ((skipE (takenW r p) p.trail).length : Nat) := by
      refine skip_gap b1 fun he => ?_
      unfold jumpE newsE at hj
      rw [List.getLast?_append, he] at hj
      simp at hj
    obtain ⟨-, -, c3⟩ := skip_good (t := p.trail) b1 hp'.1.1.1.1.2
    show gp r.window.next (skipW (takenW r p) p.trail).next = ((newsE r p).length : Nat)
    unfold newsE
    rw [hk, ht, aft_add, List.length_append]
    exact gp_aft _ _ (by omega)
end Go.Proofs.YtgogcgkocjpgoaaGreatDoor
/- Packets that are alike. -/
namespace Go.Proofs.YtgogcgkocjpgoaaGreatDoor
open Go.RowKit
end Go.Proofs.YtgogcgkocjpgoaaGreatDoor
/- Texts that are alike; a code that is too long. -/
namespace Go.Proofs.YtgogcgkocjpgoaaGreatDoor
open Go.RowKit
set_option maxRecDepth 100000 in
theorem vTexts_f (v v2 : Value) (xs : List ByteArray) (F F2 : List Nat) : Fn Tryz.prog 48 [v, v2] [.sl EStr v xs F, .sl EStr v2 xs F2] [] (fun (_ : Unit) => True) (fun _ => .bool true) (fun _ => []) := by
  refine enter Tryz.func48 rfl Tryz.ntmps48 fun w0 => ?_
  refine t_sl (v := v) (xs := xs) (F := F) ?_
  rintro a c rfl l1 l2
  refine t_sl (v := v2) (xs := xs) (F := F2) ?_
  rintro a2 c2 rfl l3 l4
  refine go ?_; intros
  refine c_if rfl (fun h => ?_) (fun h => ?_)
  · exact absurd rfl h
  refine go ?_; intros
  refine c_loopR [0, 1, 4] (fun k : Nat => [(5, .int .i64 k)]) (fun k => k ≤ xs.length) (fun k => xs.length - k) 0 (Nat.zero_le _) fun k hk => ?_
  refine go ?_; intros
  refine c_if rfl (fun h3 => ?_) (fun h3 => ?_)
  · have hk3 : k < xs.length := by omega
    refine at_str (a := a) (xs := xs) k ?_
    rintro hi b o e s1
    rw [e]
    refine at_str (a := a2) (xs := xs) k ?_
    rintro hi2 b2 o2 e2 s2
    rw [e2]
    refine goN ?_; intros
    refine d_start [0, 1] [] ?_
    refine dt 0 ?_
    refine dt 1 ?_
    refine dt 2 ?_
    refine dt 3 ?_
    refine dt 4 ?_
    refine dt 5 ?_
    refine dt 6 ?_
    refine dt 7 ?_
    refine dt 8 ?_
    refine dd ?_
    refine go ?_; intros
    refine c_if rfl (fun h4 => ?_) (fun h4 => ?_)
    · exact absurd rfl h4
    refine go ?_; intros
    refine n_lp (k + 1) hk3 (by omega)
  · refine go ?_; intros
    refine ret () trivial rfl
set_option maxRecDepth 100000 in
theorem vBig_f (v : Value) (code : List Int) (F : List Nat) : Fn Tryz.prog 10 [v] [.sl EByte v code F] [] (fun (_ : Unit) => True) (fun _ => .bool (decide (65536 < (code.length : Int)))) (fun _ => []) := by
  refine enter Tryz.func10 rfl Tryz.ntmps10 fun w0 => ?_
  refine t_sl (E := EByte) ?_
  rintro a c rfl l1 l2
  refine go ?_; intros
  refine ret () trivial rfl
end Go.Proofs.YtgogcgkocjpgoaaGreatDoor
/- Two slots that are the same are equal. -/
namespace Go.Proofs.YtgogcgkocjpgoaaGreatDoor
open Go.RowKit
theorem slot_eq (s : Slot) (w : World) : (Op.equalIn 10000 213 (.agg #[.bool s.hav, .string s.item]) (.agg #[.bool s.hav, .string s.item])).run Tryz.prog w = .ok true w := by
  have u1 := Tryz.underlying4
  have u2 := Tryz.underlying9
  have hS : Tryz.prog.underlying 213 = some (.struct (Tryz.prog.fieldsOf 213)) := by kernel_rfl
  rw [show (10000 : Nat) = 9999 + 1 from rfl, run_equalIn_agg w 9999 213 _ _ hS (by kernel_rfl)]
  have a1 := Tryz.isAgg4
  have a2 := Tryz.isAgg9
  simp only [Program.fieldsOf, Tryz.underlying213]
  go_simp
theorem yd_neSlot {n : Nat} {fr : Fr} {H : List Pc} {x y : Operand} {ty t' : TypeId} {s : Slot} (hx : ev fr x = some (.agg #[.bool s.hav, .string s.item])) (hy : ev fr y = some (.agg #[.bool s.hav, .string s.item])) : Yd Tryz.prog n fr H (.binOp .neq 213 x y t') ty (.bool false) := .mk fun c w d pos aft gd hA _ => by
  have h2 : (eqGuard .neq 213 x y (.agg #[.bool s.hav, .string s.item]) (.agg #[.bool s.hav, .string s.item])).run Tryz.prog w = .ok () w := run_eqGuard_agg w _ _ _ _ _ _ (by kernel_rfl)
  simp only [execOp, hA.ev hx, hA.ev hy, Sem.run_bind, h2, Result.andThen_ok, run_neq_struct, slot_eq, Sem.run_pure]
  rfl
end Go.Proofs.YtgogcgkocjpgoaaGreatDoor
/- Slots that are alike. -/
namespace Go.Proofs.YtgogcgkocjpgoaaGreatDoor
open Go.RowKit
set_option maxRecDepth 100000 in
theorem vSlots_f (v v2 : Value) (x : ReceiveWindow) (F F2 : List Nat) : Fn Tryz.prog 128 [v, v2] [.isv EReceiveWindow v x F, .isv EReceiveWindow v2 x F2] [] (fun (_ : Unit) => True) (fun _ => .bool true) (fun _ => []) := by
  refine enter Tryz.func128 rfl Tryz.ntmps128 fun w0 => ?_
  refine openReceiveWindow (v := v) (x := x) (F := F) ?_
  rintro a c F3 rfl l1
  unfold maxLen at l1
  refine openReceiveWindow (v := v2) (x := x) (F := F2) ?_
  rintro a2 c2 F4 rfl l3
  refine go ?_; intros
  refine wg_if rfl rfl (fun h => ?_) (fun h => ?_)
  · exact absurd rfl h
  refine go ?_; intros
  refine c_if rfl (fun h2 => ?_) (fun h2 => ?_)
  · exact absurd rfl h2
  refine go ?_; intros
  refine c_loopR [2, 3, 4] (fun k : Nat => [(5, .int .i64 k)]) (fun k => k ≤ x.slots.length) (fun k => x.slots.length - k) 0 (Nat.zero_le _) fun k hk => ?_
  refine go ?_; intros
  refine c_if rfl (fun h3 => ?_) (fun h3 => ?_)
  · have hk3 : k < x.slots.length := by omega
    refine atSlot (a := a) (xs := x.slots) k ?_
    rintro hi b o e s1
    rw [e]
    refine atSlot (a := a2) (xs := x.slots) k ?_
    rintro hi2 b2 o2 e2 s2
    rw [e2]
    refine goN ?_; intros
    refine d_start [0, 1, 2, 3] [] ?_
    refine dt 0 ?_
    refine dt 1 ?_
    refine dt 2 ?_
    refine dt 3 ?_
    refine dt 4 ?_
    refine dt 5 ?_
    refine dt 6 ?_
    refine dt 7 ?_
    refine dt 8 ?_
    refine dt 9 ?_
    refine dt 10 ?_ (hy := yd_neSlot rfl rfl)
    refine dd ?_
    refine go ?_; intros
    refine n_lp (k + 1) hk3 (by omega)
  · refine go ?_; intros
    refine ret () trivial rfl
end Go.Proofs.YtgogcgkocjpgoaaGreatDoor
/- Receivers are told apart: the same ones are not. -/
namespace Go.Proofs.YtgogcgkocjpgoaaGreatDoor
open Go.RowKit
theorem request_eq (s : Request) (w : World) : (Op.equalIn 10000 152 (.agg #[.int .i64 s.number, .int .i64 s.state, .int .i64 s.untl, .int .i64 s.tries]) (.agg #[.int .i64 s.number, .int .i64 s.state, .int .i64 s.untl, .int .i64 s.tries])).run Tryz.prog w = .ok true w := by
  have u0 := Tryz.underlying3
  have a0 := Tryz.isAgg3
  have hS : Tryz.prog.underlying 152 = some (.struct (Tryz.prog.fieldsOf 152)) := by kernel_rfl
  rw [show (10000 : Nat) = 9999 + 1 from rfl, run_equalIn_agg w 9999 152 _ _ hS (by kernel_rfl)]
  simp only [Program.fieldsOf, Tryz.underlying152]
  go_simp
theorem yd_neRequest {n : Nat} {fr : Fr} {H : List Pc} {x y : Operand} {ty t' : TypeId} {s : Request} (hx : ev fr x = some (.agg #[.int .i64 s.number, .int .i64 s.state, .int .i64 s.untl, .int .i64 s.tries])) (hy : ev fr y = some (.agg #[.int .i64 s.number, .int .i64 s.state, .int .i64 s.untl, .int .i64 s.tries])) : Yd Tryz.prog n fr H (.binOp .neq 152 x y t') ty (.bool false) := .mk fun c w d pos aft gd hA _ => by
  have h2 : (eqGuard .neq 152 x y (.agg #[.int .i64 s.number, .int .i64 s.state, .int .i64 s.untl, .int .i64 s.tries]) (.agg #[.int .i64 s.number, .int .i64 s.state, .int .i64 s.untl, .int .i64 s.tries])).run Tryz.prog w = .ok () w := run_eqGuard_agg w _ _ _ _ _ _ (by kernel_rfl)
  simp only [execOp, hA.ev hx, hA.ev hy, Sem.run_bind, h2, Result.andThen_ok, run_neq_struct, request_eq, Sem.run_pure]
  rfl

set_option maxRecDepth 100000 in
theorem vRequests_f (a a2 : Option Addr) (c c2 : Nat) (xs : List Request) (F F2 : List Nat) (hl : xs.length ≤ 9223372036854775807) : Fn Tryz.prog 129 [.slice a xs.length c, .slice a2 xs.length c2] [.sl ERequest (.slice a xs.length c) xs F, .sl ERequest (.slice a2 xs.length c2) xs F2] [] (fun (_ : Unit) => True) (fun _ => .bool true) (fun _ => []) := by
  refine enter Tryz.func129 rfl Tryz.ntmps129 fun w0 => ?_
  refine go ?_; intros
  refine c_if rfl (fun h2 => ?_) (fun h2 => ?_)
  · exact absurd rfl h2
  refine go ?_; intros
  refine c_loopR [0, 1, 4] (fun k : Nat => [(5, .int .i64 k)]) (fun k => k ≤ xs.length) (fun k => xs.length - k) 0 (Nat.zero_le _) fun k hk => ?_
  refine go ?_; intros
  refine c_if rfl (fun h3 => ?_) (fun h3 => ?_)
  · have hk3 : k < xs.length := by omega
    refine atRequest (a := a) (xs := xs) k ?_
    rintro hi b o e
    rw [e]
    refine atRequest (a := a2) (xs := xs) k ?_
    rintro hi2 b2 o2 e2
    rw [e2]
    refine goN ?_; intros
    refine d_start [0, 1] [] ?_
    refine dt 0 ?_
    refine dt 1 ?_
    refine dt 2 ?_
    refine dt 3 ?_
    refine dt 4 ?_
    refine dt 5 ?_
    refine dt 6 ?_
    refine dt 7 ?_
    refine dt 8 ?_ (hy := yd_neRequest rfl rfl)
    refine dd ?_
    refine go ?_; intros
    refine n_lp (k + 1) hk3 (by omega)
  · refine go ?_; intros
    refine ret () trivial rfl
set_option maxRecDepth 100000 in
theorem vReceiver_f (v v2 : Value) (x : Receiver) (F F2 : List Nat) : Fn Tryz.prog 46 [v, v2] [.isv EReceiver v x F, .isv EReceiver v2 x F2] [] (fun (_ : Unit) => True) (fun _ => .bool true) (fun _ => []) := by
  refine enter Tryz.func46 rfl Tryz.ntmps46 fun w0 => ?_
  refine openReceiver (v := v) (x := x) (F := F) ?_
  rintro a1 c1 F3 a2 c2 F4 rfl l1 l2
  unfold maxLen at l1 l2
  refine closeReceiveWindow x.window (a1 := a1) ?_
  generalize F3 = F5
  refine openReceiver (v := v2) (x := x) (F := F2) ?_
  rintro a3 c3 F6 a4 c4 F7 rfl l3 l4
  refine closeReceiveWindow x.window (a1 := a3) ?_
  generalize F6 = F8
  cases hs : x.started
  all_goals
    refine go ?_; intros
    refine wg_if rfl rfl (fun h => ?_) (fun h => ?_)
    rotate_left
    · exact absurd rfl h
    refine go ?_; intros
    refine cf (vSlots_f _ _ x.window F5 F8) fun _ _ => ?_
    refine t_app ?_
    refine go ?_; intros
    refine cf (vRequests_f a2 a4 c2 c4 x.requests F4 F7 (by omega)) fun _ _ => ?_
    refine t_app ?_
    refine go ?_; intros
    refine ret () trivial rfl
end Go.Proofs.YtgogcgkocjpgoaaGreatDoor
/- Lists of numbers, compared by the laws. -/
namespace Go.Proofs.YtgogcgkocjpgoaaGreatDoor
open Go.RowKit
theorem has_succ {l : List Int} {k : Nat} {n : Int} (h : k < l.length) (hp : (l.take k).contains n = false) (hn : ¬ l[k] = n) : (l.take (k + 1)).contains n = false := by
  rw [← List.take_append_getElem h]
  rw [Bool.eq_false_iff] at hp ⊢
  intro hc
  rw [List.contains_iff_mem, List.mem_append] at hc
  rcases hc with hc | hc
  · exact hp (List.contains_iff_mem.2 hc)
  · exact hn (List.mem_singleton.1 hc).symm
set_option maxRecDepth 100000 in
theorem vHas_f (v : Value) (xs : List Int) (F : List Nat) (n : Int) : Fn Tryz.prog 52 [v, .int .i64 n] [.sl EInt v xs F] [] (fun (_ : Unit) => True) (fun _ => .bool (xs.contains n)) (fun _ => []) := by
  refine enter Tryz.func52 rfl Tryz.ntmps52 fun w0 => ?_
  refine t_sl (E := EInt) (v := v) (xs := xs) (F := F) ?_
  rintro a c rfl l1 l2
  refine go ?_; intros
  refine c_loopR [0, 1, 4] (fun k : Nat => [(5, .int .i64 k)]) (fun k => k ≤ xs.length ∧ (xs.take k).contains n = false) (fun k => xs.length - k) 0 ⟨Nat.zero_le _, by simp⟩ fun k hk => ?_
  obtain ⟨hk, hc⟩ := hk
  refine go ?_; intros
  refine c_if rfl (fun h3 => ?_) (fun h3 => ?_)
  · have hk3 : k < xs.length := by omega
    refine at_int (xs := xs) k ?_
    rintro hi b o e
    rw [e]
    refine go ?_; intros
    refine c_if rfl (fun h4 => ?_) (fun h4 => ?_)
    · refine go ?_; intros
      refine ret () trivial ?_
      rw [show xs.contains n = true from List.contains_iff_mem.2 (h4 ▸ List.getElem_mem hk3)]
      rfl
    refine go ?_; intros
    refine n_lp (k + 1) ⟨hk3, has_succ hk3 hc h4⟩ (by omega)
  · have hkl : k = xs.length := by omega
    subst hkl
    rw [List.take_length] at hc
    rw [hc]
    refine go ?_; intros
    refine ret () trivial rfl
end Go.Proofs.YtgogcgkocjpgoaaGreatDoor
/- The law FnReceiverTicks: the walk. -/
namespace Go.Proofs.YtgogcgkocjpgoaaGreatDoor
open Go.RowKit
theorem neqB (b : Bool) : decide (¬ b = b) = false := by simp
end Go.Proofs.YtgogcgkocjpgoaaGreatDoor
/- HearAll of the reference. -/
namespace Go.Proofs.YtgogcgkocjpgoaaGreatDoor
open Go.RowKit
set_option maxRecDepth 100000 in
set_option maxHeartbeats 1000000 in
theorem specHearAll_f (x : Receiver) (l : List Packet) (d : Int) (v : Value) (F : List Nat) (al : Option Addr) (cl : Nat) (Fl : List Nat) :
    Fn Tryz.prog 42 [v, .slice al l.length cl, .int .i64 d] [.isv EReceiver v x F, .sl EPacket (.slice al l.length cl) l Fl] [] (fun (_ : NwS) => True) (fun s => .tuple #[.agg #[.bool ((resHearAll x l d).1).started, .int .i64 ((resHearAll x l d).1).clock, .int .i64 ((resHearAll x l d).1).window.next, .slice s.a1 ((resHearAll x l d).1).window.slots.length s.c1, .slice s.a2 ((resHearAll x l d).1).requests.length s.c2], .slice s.ae (resHearAll x l d).2.1.length s.ce, .bool (resHearAll x l d).2.2])
      (fun s => [.isv EReceiver (.agg #[.bool ((resHearAll x l d).1).started, .int .i64 ((resHearAll x l d).1).clock, .int .i64 ((resHearAll x l d).1).window.next, .slice s.a1 ((resHearAll x l d).1).window.slots.length s.c1, .slice s.a2 ((resHearAll x l d).1).requests.length s.c2]) (resHearAll x l d).1 s.F1, .ow EStr 9 (.slice s.ae (resHearAll x l d).2.1.length s.ce) (resHearAll x l d).2.1 s.Fe]) := by
  refine enter Tryz.func42 rfl Tryz.ntmps42 fun w0 => ?_
  refine t_each (E := EPacket) (xs := l) (fun p => p.data.size ≤ maxLen) (fun w cs x F h => h.2.1) fun hsz => ?_
  refine t_nilsl ESlot (by decide) ?_
  refine t_nilsl ERequest (by decide) ?_
  refine closeReceiver zRec ?_
  refine openReceiver (v := v) (x := x) (F := F) ?_
  rintro a1 c1 F1 a2 c2 F2 rfl l1 l2
  refine t_sl (E := EPacket) (xs := l) ?_
  rintro _ _ e8 cl0 cl1
  cases e8
  refine go ?_; intros
  refine cf (l13Good_f x _ F) fun _ _ => ?_
  refine t_app ?_
  cases g1 : goodRec x
  · skip
    refine go ?_; intros
    refine t_emp EStr ?_
    rw [resHA_no (by unfold okHearAll; simp [g1])]
    refine ret ⟨_, _, _, _, _, [], _, _, _⟩ trivial rfl
  have g5 := goodR_iff.1 g1
  have hw8 := (good_items g5.w).1
  have hq8 := (areQ_iff.1 g5.q).2.1
  refine go ?_; intros
  refine cf (l12Delay_f d) fun _ _ => ?_
  refine t_app ?_
  cases g2 : isDel d
  · skip
    refine go ?_; intros
    refine t_emp EStr ?_
    rw [resHA_no (by unfold okHearAll; simp [g1, g2])]
    refine ret ⟨_, _, _, _, _, [], _, _, _⟩ trivial rfl
  obtain ⟨hd0, hd1⟩ : 1 ≤ d ∧ d ≤ 8 := by unfold isDel btw at g2; simp only [Bool.and_eq_true, decide_eq_true_eq] at g2; omega
  refine go ?_; intros
  by_cases g3 : (l.length : Int) ≤ 10
  rotate_left
  · rw [decide_eq_true (show (10 : Int) < l.length by omega)]
    refine go ?_; intros
    refine t_emp EStr ?_
    rw [resHA_no (by unfold okHearAll; simp [g1, g2, g3])]
    refine ret ⟨_, _, _, _, _, [], _, _, _⟩ trivial rfl
  rw [decide_eq_false (show ¬ (10 : Int) < l.length by omega)]
  refine go ?_; intros
  refine cf (l13Own_f x _ F (by omega) (by omega)) fun u _ => ?_
  refine t_app ?_
  refine openOReceiver ?_
  rintro a5 c5 F5 a6 c6 F6 e6 - -
  rw [e6]
  refine t_read (E := ESlot) fun G5 => ?_
  refine t_read (E := ERequest) fun G6 => ?_
  refine closeReceiver (a1 := a5) x ?_
  generalize hFX : G5 ++ G6 = FX
  refine go ?_; intros
  rename_i g9 g10
  refine t_emp EStr ?_
  refine c_loopS [1, 2, 6, 7, 8, 9] (fun s : HaS => [(11, .int .i64 (s.k : Nat)), (10, .slice s.ae (hearsE d x (l.take s.k)).length s.ce)]) (fun s => [.row g9 49 0 [] [.bool (hearsR d x (l.take s.k)).started, .int .i64 (hearsR d x (l.take s.k)).clock, .int .i64 (hearsR d x (l.take s.k)).window.next, .slice s.a1 (hearsR d x (l.take s.k)).window.slots.length s.c1, .slice s.a2 (hearsR d x (l.take s.k)).requests.length s.c2] [], .isv EReceiver (.agg #[.bool ((hearsR d x (l.take s.k))).started, .int .i64 ((hearsR d x (l.take s.k))).clock, .int .i64 ((hearsR d x (l.take s.k))).window.next, .slice s.a1 ((hearsR d x (l.take s.k))).window.slots.length s.c1, .slice s.a2 ((hearsR d x (l.take s.k))).requests.length s.c2]) (hearsR d x (l.take s.k)) s.F1, .ow EStr 9 (.slice s.ae (hearsE d x (l.take s.k)).length s.ce) (hearsE d x (l.take s.k)) s.Fe]) (fun s => s.k ≤ l.length ∧ ∀ p ∈ l.take s.k, goodPk p = true) (fun s => l.length - s.k) ⟨0, a5, c5, FX, a6, c6, [], _, _, _⟩ ⟨Nat.zero_le _, fun p hp => by simp at hp⟩ fun s hs => ?_
  obtain ⟨k, a7, c7, F7, a8, c8, F8, ae, cE, Fe⟩ := s
  dsimp only at hs ⊢
  obtain ⟨hs, hgd⟩ := hs
  obtain ⟨hG, hE⟩ := hears_good hd0 hd1 (l.take k) x g5 hgd
  have hE2 : (hearsE d x (l.take k)).length ≤ 240 := by have : (l.take k).length ≤ 10 := by rw [List.length_take]; omega
                                                        omega
  refine go ?_; intros
  refine c_if rfl (fun h4 => ?_) (fun h4 => ?_)
  · have hi : k < l.length := by omega
    refine atPacket (xs := l) k ?_
    rintro hi2 b o e sz
    rw [e]
    refine go ?_; intros
    refine cf (l4Good_f l[k] (hsz _ (List.getElem_mem hi))) fun _ _ => ?_
    refine t_app ?_
    cases g4 : goodPk l[k]
    · have g4' : l.all goodPk = false := List.all_eq_false.2 ⟨l[k], List.getElem_mem hi, by simp [g4]⟩
      refine t_nilsl ESlot (by decide) ?_
      refine t_nilsl ERequest (by decide) ?_
      refine closeReceiver zRec ?_
      refine go ?_; intros
      refine t_emp EStr ?_
      rw [resHA_no (by unfold okHearAll; simp [g1, g2, g3, g4'])]
      refine ret ⟨_, _, _, _, _, [], _, _, _⟩ trivial rfl
    have hh := hear_good hG g4 hd0 hd1
    have hEl := hh.2
    have eR := hearsR_succ (d := d) (r := x) hi
    have eE := hearsE_succ (d := d) (r := x) hi
    have hgood : ∀ p ∈ l.take (k + 1), goodPk p = true := fun p hp => by
      rw [List.take_add_one, List.getElem?_eq_getElem hi] at hp
      rcases List.mem_append.1 hp with h | h
      · exact hgd p h
      · simp at h; rw [h]; exact g4
    refine go ?_; intros
    refine d_start [0, 1] [] ?_
    refine dt 0 ?_
    refine dt 1 ?_
    refine dt 2 ?_
    refine dt 3 ?_
    refine dt 4 ?_
    refine dt 5 ?_
    refine dO2 6 10 (by kernel_rfl) (by rw [List.getElem?_toArray]; rfl) (by rw [List.getElem?_toArray]; rfl) ?_ ?_
    · apply o_call; rfl; kernel_rfl; exact evsE
      refine cf (l13Hear_f (hearsR d x (l.take k)) l[k] d _ F7 hG g4 hd0 hd1) fun y _ => ?_
      refine t_app ?_
      rw [← eR]
      refine dk ?_
      refine dt 7 ?_
      refine dt 8 ?_
      refine dt 9 ?_
      refine dO 10 (by kernel_rfl) (by rw [List.getElem?_toArray]; rfl) ?_
      apply o_alloc; rfl; intro _
      refine dk ?_
      refine dO 11 (by kernel_rfl) (by rw [List.getElem?_toArray]; rfl) ?_
      apply o_st; rfl; rfl; rfl; (first | exact AggC.s | exact OneC.s); rfl; exact rplE; exact putE; rfl
      refine dk ?_
      refine dt 12 ?_
      refine dd ?_
      refine go ?_; intros
      refine t_read (E := EStr) (xs := hearE (hearsR d x (l.take k)) l[k]) fun G8 => ?_
      refine go ?_; intros
      apply wO
      refine aps (ys := hearE (hearsR d x (l.take k)) l[k]) one_EStr scal_EStr fun a9 c9 F9 => ?_
      rw [← eE]
      refine go ?_; intros
      refine n_lp (⟨k + 1, _, _, _, _, _, [], _, _, _⟩ : HaS) ⟨by show k + 1 ≤ l.length; omega, hgood⟩ (by show l.length - (k + 1) < l.length - k; omega)
    · apply o_alloc; rfl; intro _
      refine dk ?_
      refine dO 6 (by kernel_rfl) (by rw [List.getElem?_toArray]; rfl) ?_
      apply o_call; rfl; kernel_rfl; exact evsE
      refine cf (l13Hear_f (hearsR d x (l.take k)) l[k] d _ F7 hG g4 hd0 hd1) fun y _ => ?_
      refine t_app ?_
      rw [← eR]
      refine dk ?_
      refine dt 7 ?_
      refine dt 8 ?_
      refine dt 9 ?_
      refine dO 11 (by kernel_rfl) (by rw [List.getElem?_toArray]; rfl) ?_
      apply o_st; rfl; rfl; rfl; (first | exact AggC.s | exact OneC.s); rfl; exact rplE; exact putE; rfl
      refine dk ?_
      refine dt 12 ?_
      refine dd ?_
      refine go ?_; intros
      refine t_read (E := EStr) (xs := hearE (hearsR d x (l.take k)) l[k]) fun G8 => ?_
      refine go ?_; intros
      apply wO
      refine aps (ys := hearE (hearsR d x (l.take k)) l[k]) one_EStr scal_EStr fun a9 c9 F9 => ?_
      rw [← eE]
      refine go ?_; intros
      refine n_lp (⟨k + 1, _, _, _, _, _, [], _, _, _⟩ : HaS) ⟨by show k + 1 ≤ l.length; omega, hgood⟩ (by show l.length - (k + 1) < l.length - k; omega)
  have hi : k = l.length := by omega
  subst hi
  rw [List.take_length] at hgd
  rw [List.take_length]
  rw [resHA_yes (by unfold okHearAll; rw [g1, g2, decide_eq_true g3, List.all_eq_true.2 hgd]; rfl)]
  refine go ?_; intros
  refine ret ⟨_, _, _, _, _, [], _, _, _⟩ trivial rfl
end Go.Proofs.YtgogcgkocjpgoaaGreatDoor
/- TakeItem, GiveUpTo: bounds on the marks of their results. -/
namespace Go.Proofs.YtgogcgkocjpgoaaGreatDoor
open Go.RowKit
end Go.Proofs.YtgogcgkocjpgoaaGreatDoor
/- A bound on marks. -/
namespace Go.Proofs.YtgogcgkocjpgoaaGreatDoor
end Go.Proofs.YtgogcgkocjpgoaaGreatDoor
/- Receivers: a bound on marks. -/
namespace Go.Proofs.YtgogcgkocjpgoaaGreatDoor
open Go.RowKit
end Go.Proofs.YtgogcgkocjpgoaaGreatDoor
/- HearPacket: a bound on the marks of its result. -/
namespace Go.Proofs.YtgogcgkocjpgoaaGreatDoor
open Go.RowKit
end Go.Proofs.YtgogcgkocjpgoaaGreatDoor
/- HearAll: a bound on the marks of its result; the triples at any value of the list. -/
namespace Go.Proofs.YtgogcgkocjpgoaaGreatDoor
open Go.RowKit
theorem t_fnsl2 {P : Program} {f : FuncId} {α : Type} {E : Elem α} {u v : Value} {xs : List α} {F : List Nat} {q : Pc} {rest : List Value} {A M : List Pc} {σ : Type} {C : σ → Prop} {w : σ → Value} {N : σ → List Pc} (h : ∀ a c, Fn P f (u :: .slice a xs.length c :: rest) (q :: .sl E (.slice a xs.length c) xs F :: A) M C w N) : Fn P f (u :: v :: rest) (q :: .sl E v xs F :: A) M C w N := fun w0 hH hS => by
  obtain ⟨-, hs⟩ := hH (.sl E v xs F) (by simp)
  obtain ⟨a, c, rfl⟩ := hs.slice
  exact h a c w0 hH hS
theorem HearAllV_f (x : Receiver) (l : List Packet) (d : Int) (v : Value) (F : List Nat) (vl : Value) (Fl : List Nat) :
    Fn Tryz.prog 44 [v, vl, .int .i64 d] [.isv EReceiver v x F, .sl EPacket vl l Fl] [] (fun (_ : NwS) => True) (fun s => .tuple #[.agg #[.bool (resHearAll x l d).1.started, .int .i64 (resHearAll x l d).1.clock, .int .i64 (resHearAll x l d).1.window.next, .slice s.a1 (resHearAll x l d).1.window.slots.length s.c1, .slice s.a2 (resHearAll x l d).1.requests.length s.c2], .slice s.ae (resHearAll x l d).2.1.length s.ce, .bool (resHearAll x l d).2.2])
      (fun s => [.own OReceiver (.agg #[.bool (resHearAll x l d).1.started, .int .i64 (resHearAll x l d).1.clock, .int .i64 (resHearAll x l d).1.window.next, .slice s.a1 (resHearAll x l d).1.window.slots.length s.c1, .slice s.a2 (resHearAll x l d).1.requests.length s.c2]) (resHearAll x l d).1 s.F1, .ow EStr 9 (.slice s.ae (resHearAll x l d).2.1.length s.ce) (resHearAll x l d).2.1 s.Fe]) :=
  t_fnsl2 fun a c => HearAll_f x l d v F a c Fl
theorem specHearAllV_f (x : Receiver) (l : List Packet) (d : Int) (v : Value) (F : List Nat) (vl : Value) (Fl : List Nat) :
    Fn Tryz.prog 42 [v, vl, .int .i64 d] [.isv EReceiver v x F, .sl EPacket vl l Fl] [] (fun (_ : NwS) => True) (fun s => .tuple #[.agg #[.bool (resHearAll x l d).1.started, .int .i64 (resHearAll x l d).1.clock, .int .i64 (resHearAll x l d).1.window.next, .slice s.a1 (resHearAll x l d).1.window.slots.length s.c1, .slice s.a2 (resHearAll x l d).1.requests.length s.c2], .slice s.ae (resHearAll x l d).2.1.length s.ce, .bool (resHearAll x l d).2.2])
      (fun s => [.isv EReceiver (.agg #[.bool (resHearAll x l d).1.started, .int .i64 (resHearAll x l d).1.clock, .int .i64 (resHearAll x l d).1.window.next, .slice s.a1 (resHearAll x l d).1.window.slots.length s.c1, .slice s.a2 (resHearAll x l d).1.requests.length s.c2]) (resHearAll x l d).1 s.F1, .ow EStr 9 (.slice s.ae (resHearAll x l d).2.1.length s.ce) (resHearAll x l d).2.1 s.Fe]) :=
  t_fnsl2 fun a c => specHearAll_f x l d v F a c Fl
end Go.Proofs.YtgogcgkocjpgoaaGreatDoor
/- The law FnReceivers: the walk. -/
namespace Go.Proofs.YtgogcgkocjpgoaaGreatDoor
open Go.RowKit
theorem AfterSerial_f (x : Int) (hx : isSer x = true) : Fn Tryz.prog 66 [.int .i64 x, .int .i64 1] [] [] (fun (_ : Unit) => True) (fun _ => .tuple #[.int .i64 (aft x 1), .bool true]) (fun _ => []) := by
  obtain ⟨n0, n1⟩ := isSer_iff.1 hx
  refine enter Tryz.func66 rfl Tryz.ntmps66 fun w0 => ?_
  refine go ?_; intros
  refine ce (fun w s => IsSerial_c _ _) ?_
  rw [hx]
  refine go ?_; intros
  refine ce (fun w s => within_c _ _ _ _) ?_
  refine go ?_; intros
  refine ce (fun w s => after_c _ _ _ (by omega) (by omega)) ?_
  refine go ?_; intros
  refine ret () trivial rfl
theorem specValidR_f (x : Receiver) (v : Value) (F : List Nat) : Fn Tryz.prog 63 [v] [.isv EReceiver v x F] [] (fun (_ : Unit) => True) (fun _ => .bool (goodRec x)) (fun _ => []) := by
  refine enter Tryz.func63 rfl Tryz.ntmps63 fun w0 => ?_
  refine openReceiver (v := v) (x := x) (F := F) ?_
  rintro a1 c1 F1 a2 c2 F2 rfl l1 l2
  refine go ?_; intros
  refine cf (l13Good_f x _ F) fun _ _ => ?_
  refine t_app ?_
  refine go ?_; intros
  refine ret () trivial rfl
theorem hear_few (r : Receiver) (p : Packet) (d : Int) : (resHearPacket r p d).2.1.length ≤ 24 := by
  cases hk : okHearPacket r p d
  · rw [resHP_no hk]; exact Nat.zero_le _
  · rw [resHP_yes hk]
    unfold okHearPacket at hk
    simp only [Bool.and_eq_true] at hk
    obtain ⟨⟨h1, hp⟩, h3⟩ := hk
    have hd : 1 ≤ d ∧ d ≤ 8 := by unfold isDel btw at h3; simpa using h3
    exact (hear_good (goodR_iff.1 h1) hp hd.1 hd.2).2
theorem bef_yes {a b : Int} (ha : isSer a = true) (hb : isSer b = true) : resBef a b = (bef a b, true) := by unfold resBef; rw [ha, hb]; rfl
set_option maxRecDepth 100000 in
set_option maxHeartbeats 8000000 in
theorem receivers_f (v : Value) (code : List Int) (G : List Nat) : Fn Tryz.prog 8 [v] [.sl EByte v code G] [] (fun (_ : Unit) => True) (fun _ => .bool true) (fun _ => []) := by
  refine enter Tryz.func8 rfl Tryz.ntmps8 fun w0 => ?_
  refine go ?_; intros
  refine cb (fun w st => (vBig_f v code G).val w (hol1 (st.get (p := .sl EByte v code G) (by simp)))) ?_
  refine go ?_; intros
  refine c_if rfl (fun h => ?_) (fun h => ?_)
  · refine go ?_; intros
    refine ret () trivial rfl
  refine go ?_; intros
  refine cf (DrawHearP_f v code G) fun z hz => ?_
  refine t_app ?_
  obtain ⟨hz, hzd⟩ := hz
  refine go ?_; intros
  have hr := law_hear z.y z.p z.n
  have hfew := hear_few z.y z.p z.n
  have hP := HearPacket_f z.y z.p z.n (.agg #[.bool z.y.started, .int .i64 z.y.clock, .int .i64 z.y.window.next, .slice z.a z.y.window.slots.length z.c, .slice z.a2 z.y.requests.length z.c2]) z.F hzd
  have hQ := specHearPacket_f z.y z.p z.n (.agg #[.bool z.y.started, .int .i64 z.y.clock, .int .i64 z.y.window.next, .slice z.a z.y.window.slots.length z.c, .slice z.a2 z.y.requests.length z.c2]) z.F hzd
  obtain ⟨Y, es, b, e⟩ : ∃ Y es b, resHearPacket z.y z.p z.n = (Y, es, b) := ⟨_, _, _, rfl⟩
  rw [e] at hr hfew hP hQ
  dsimp only at hr hfew hP hQ
  refine cf hP fun p _ => ?_
  refine t_app ?_
  refine go ?_; intros
  refine cf hQ fun q _ => ?_
  refine t_app ?_
  refine openOReceiver (x := Y) ?_
  rintro a5 c5 F5 a6 c6 F6 e5 - -
  simp only [Value.agg.injEq, Array.mk.injEq, List.cons.injEq, Value.slice.injEq, Value.int.injEq, Value.bool.injEq, true_and, and_true] at e5
  obtain ⟨⟨rfl, rfl⟩, rfl, rfl⟩ := e5
  refine t_read (E := ESlot) (xs := Y.window.slots) fun F7 => ?_
  refine t_read (E := ERequest) (xs := Y.requests) fun F8 => ?_
  refine closeReceiver Y (a1 := p.a1) ?_
  refine t_read (E := EStr) (xs := es) fun F11 => ?_
  refine t_read (E := EStr) (xs := es) fun F12 => ?_
  refine goN ?_; intros
  refine d_start [0, 7, 9] [] ?_
  refine dt 0 ?_
  refine dt 1 ?_
  refine dt 2 ?_
  rw [neqB]
  refine dt 3 ?_
  refine dtg 4 ?_
  refine dtg 5 ?_
  refine d1g 6 ?_
  apply On.h
  apply o_call; rfl; kernel_rfl; exact evsE
  refine cf (vReceiver_f _ _ Y _ _) fun _ _ => ?_
  refine t_app ?_
  refine dk ?_
  refine dtg 7 ?_
  refine dt 8 ?_
  refine dt 9 ?_
  refine dtg 10 ?_
  refine dtg 11 ?_
  refine d1g 12 ?_
  apply On.h
  apply o_call; rfl; kernel_rfl; exact evsE
  refine cf (vTexts_f _ _ es _ _) fun _ _ => ?_
  refine t_app ?_
  refine dk ?_
  refine dtg 13 ?_
  refine dt 14 ?_
  refine dt 15 ?_
  refine dtg 16 ?_
  refine dtg 18 ?_
  refine d1g 17 ?_
  apply On.h
  apply o_call; rfl; kernel_rfl; exact evsE
  refine cf (IsValidReceiver_f z.y _ z.F) fun _ _ => ?_
  refine t_app ?_
  refine dk ?_
  refine d1g 19 ?_
  apply On.h
  apply o_call; rfl; kernel_rfl; exact evsE
  refine cf (specValidR_f z.y _ z.F) fun _ _ => ?_
  refine t_app ?_
  refine dk ?_
  refine dtg 20 ?_
  rw [neqB]
  refine dt 21 ?_
  refine dd ?_
  refine go ?_; intros
  refine c_joinS [0] [] (fun _ : Unit => []) (fun _ => [.sl EByte v code G]) (fun _ => True) ?_ fun _ _ => ?_
  · cases b
    · refine go ?_; intros
      refine n_join () trivial
    obtain ⟨g1, g2, g3, g4, g5, g6⟩ := hr rfl
    have hl : isSer z.p.lead = true := by have h := g2; unfold goodPk at h; simp only [Bool.and_eq_true] at h; exact h.1.1.1.2
    have hG := SerialGap_f z.y.window.next Y.window.next
    rw [gap_yes g1.w g3.w] at hG
    have hB := IsBefore_f Y.window.next z.p.lead
    rw [bef_yes (isSer_iff.2 (next_ser g3.w)) hl] at hB
    have hA := AwaitedSerials_f Y (.agg #[.bool Y.started, .int .i64 Y.clock, .int .i64 Y.window.next, .slice p.a1 Y.window.slots.length p.c1, .slice p.a2 Y.requests.length p.c2]) (F7 ++ F8)
    rw [aw_yes g3] at hA
    dsimp only at hG hB hA
    have hk : 1 ≤ z.p.kind ∧ z.p.kind ≤ 5 := by have h := g2; unfold goodPk btw at h; simp only [Bool.and_eq_true, decide_eq_true_eq] at h; exact h.1.1.1.1.1.1
    apply c_t; rfl
    apply c_seq
    refine c_joinS [0, 2, 3, 4, 6, 7] [1, 3, 4, 5, 7, 8, 9, 10, 11] (fun _ : Unit => [(12, .bool (isNews z.p))]) (fun _ => []) (fun _ => True) ?_ fun _ _ => ?_
    · refine go ?_; intros
      refine wg_if rfl rfl (fun h3 => ?_) (fun h3 => ?_)
      · have e : isNews z.p = decide (¬ z.p.kind = 4) := by
          unfold isNews
          have : z.p.kind = 1 ∨ z.p.kind = 2 ∨ z.p.kind = 4 ∨ z.p.kind = 5 := by omega
          rcases this with h | h | h | h <;> rw [h] <;> rfl
        rw [e]
        refine go ?_; intros
        refine n_join () trivial
      · have e : isNews z.p = false := by
          have : z.p.kind = 3 := by omega
          unfold isNews; rw [this]; rfl
        rw [e]
        refine go ?_; intros
        refine n_join () trivial
    refine go ?_; intros
    refine cf hG fun _ _ => ?_
    refine t_app ?_
    repeat (apply wO; apply oc; rfl; exact ydE)
    apply w_nil
    apply n_cd
    apply c_seq
    refine c_joinS [0, 2, 3, 4, 6, 7, 12, 13, 14] [0, 1, 2, 3, 4, 5, 6, 7, 8] (fun _ : Unit => [(15, .bool (jumpE es))]) (fun _ => []) (fun _ => True) ?_ fun _ _ => ?_
    · refine go ?_; intros
      refine wg_if rfl rfl (fun he => ?_) (fun he => ?_)
      · have hx : decide (es[es.length - 1] = ⟨#[33]⟩) = jumpE es := by unfold jumpE; rw [List.getLast?_eq_getElem?, List.getElem?_eq_getElem (by omega)]; simp
        refine at_str (a := p.ae) (xs := es) (es.length - 1) ?_
        rintro hi b o e s1
        rw [e]
        refine go ?_; intros
        rw [show ((es.length : Nat) : Int) - 1 = ((es.length - 1 : Nat) : Int) by omega]
        refine go ?_; intros
        rw [← hx]
        refine n_join () trivial
      · have hj : jumpE es = false := by
          have : es = [] := List.length_eq_zero_iff.1 (by omega)
          rw [this]; rfl
        rw [hj]
        refine go ?_; intros
        refine n_join () trivial
    apply n_cd
    apply c_seq
    apply c_seq
    refine c_joinS [0, 2, 4, 6, 12] [0, 1, 2, 3, 4, 5, 6, 7, 8] (fun _ : Unit => [(145, .bool false)]) (fun _ => []) (fun _ => True) ?_ fun _ _ => ?_
    · refine go ?_; intros
      refine cf (IsValidReceiver_f Y _ _) fun _ _ => ?_
      refine t_app ?_
      rw [goodR_iff.2 g3]
      have g4 := g4
      generalize Y.started = ys at g4 ⊢
      subst g4
      cases hst : z.y.started
      · cases hn : isNews z.p
        all_goals
          refine go ?_; intros
          refine n_join () trivial
      · cases hj : jumpE es
        · cases hn : isNews z.p
          all_goals
            refine go ?_; intros
            rw [show decide (¬ gp z.y.window.next Y.window.next = ((es.length : Nat) : Int)) = false by simp [g5 hst hj]]
            refine go ?_; intros
            refine n_join () trivial
        · cases hn : isNews z.p
          all_goals
            refine go ?_; intros
            refine n_join () trivial
    refine go ?_; intros
    refine cf hB fun _ _ => ?_
    refine t_app ?_
    cases hn : isNews z.p
    · refine go ?_; intros
      refine n_join () trivial
    cases hb : bef Y.window.next z.p.lead
    · refine go ?_; intros
      refine n_join () trivial
    refine go ?_; intros
    refine cf hA fun u _ => ?_
    refine t_app ?_
    refine t_read (E := EInt) (xs := numsQ Y) fun F13 => ?_
    refine closeReceiveWindow Y.window (a1 := p.a1) ?_
    refine go ?_; intros
    refine c_loopR [0, 2, 4, 6, 18, 19] (fun k : Int × Nat => [(20, .int .i64 k.1), (21, .int .i64 k.2)]) (fun k => k.1 = aft Y.window.next (k.2 : Nat) ∧ k.2 ≤ 8) (fun k => 8 - k.2) (Y.window.next, 0) ⟨(aft_zeroN (next_ser g3.w).1 (next_ser g3.w).2).symm, Nat.zero_le _⟩ fun k hk => ?_
    obtain ⟨m, i⟩ := k
    obtain ⟨hm, hi8⟩ := hk
    dsimp only at hm hi8 ⊢
    subst hm
    refine go ?_; intros
    refine c_if rfl (fun h7 => ?_) (fun h7 => ?_)
    rotate_left
    · refine go ?_; intros
      refine n_join () trivial
    refine go ?_; intros
    refine cf (IsBefore_f (aft Y.window.next (i : Nat)) z.p.lead) fun _ _ => ?_
    refine t_app ?_
    rw [bef_yes (aft_ser _ _) hl]
    cases hb2 : bef (aft Y.window.next (i : Nat)) z.p.lead
    · refine go ?_; intros
      refine n_join () trivial
    refine go ?_; intros
    refine cf (HaveItem_f Y.window (aft Y.window.next (i : Nat)) _ _) fun _ _ => ?_
    refine t_app ?_
    rw [resHave_yes (by rw [g3.w, aft_ser]; rfl)]
    refine go ?_; intros
    refine cf (vHas_f _ (numsQ Y) _ _) fun _ _ => ?_
    refine t_app ?_
    refine go ?_; intros
    rw [show decide (takeNo Y.window (aft Y.window.next (i : Nat)) = (numsQ Y).contains (aft Y.window.next (i : Nat))) = false by rw [g6 hn hb i (by omega) hb2]; simp]
    refine go ?_; intros
    refine cf (AfterSerial_f _ (aft_ser _ _)) fun _ _ => ?_
    refine t_app ?_
    refine go ?_; intros
    refine n_lp (aft (aft Y.window.next (i : Nat)) 1, i + 1) ⟨by show aft (aft Y.window.next (i : Nat)) 1 = aft Y.window.next ((i + 1 : Nat) : Int); unfold aft; omega, by show i + 1 ≤ 8; omega⟩ (by show 8 - (i + 1) < 8 - i; omega)
  refine go ?_; intros
  refine cf (DrawHearL_f v code G) fun z hz => ?_
  refine t_app ?_
  refine go ?_; intros
  have hP := HearAllV_f z.y z.l z.n (.agg #[.bool z.y.started, .int .i64 z.y.clock, .int .i64 z.y.window.next, .slice z.a z.y.window.slots.length z.c, .slice z.a2 z.y.requests.length z.c2]) z.F (.slice z.al z.l.length z.cl) z.Fl
  have hQ := specHearAllV_f z.y z.l z.n (.agg #[.bool z.y.started, .int .i64 z.y.clock, .int .i64 z.y.window.next, .slice z.a z.y.window.slots.length z.c, .slice z.a2 z.y.requests.length z.c2]) z.F (.slice z.al z.l.length z.cl) z.Fl
  obtain ⟨Y, es, b, e⟩ : ∃ Y es b, resHearAll z.y z.l z.n = (Y, es, b) := ⟨_, _, _, rfl⟩
  rw [e] at hP hQ
  dsimp only at hP hQ
  refine cf hP fun p _ => ?_
  refine t_app ?_
  refine go ?_; intros
  refine cf hQ fun q _ => ?_
  refine t_app ?_
  refine openOReceiver (x := Y) ?_
  rintro a5 c5 F5 a6 c6 F6 e5 - -
  simp only [Value.agg.injEq, Array.mk.injEq, List.cons.injEq, Value.slice.injEq, Value.int.injEq, Value.bool.injEq, true_and, and_true] at e5
  obtain ⟨⟨rfl, rfl⟩, rfl, rfl⟩ := e5
  refine t_read (E := ESlot) (xs := Y.window.slots) fun F7 => ?_
  refine t_read (E := ERequest) (xs := Y.requests) fun F8 => ?_
  refine closeReceiver Y (a1 := p.a1) ?_
  refine t_read (E := EStr) (xs := es) fun F11 => ?_
  refine t_read (E := EStr) (xs := es) fun F12 => ?_
  refine go ?_; intros
  rw [neqB]
  refine go ?_; intros
  refine cf (vReceiver_f _ _ Y _ _) fun _ _ => ?_
  refine t_app ?_
  refine go ?_; intros
  refine cf (vTexts_f _ _ es _ _) fun _ _ => ?_
  refine t_app ?_
  cases b
  · refine go ?_; intros
    refine ret () trivial rfl
  refine go ?_; intros
  refine c_if rfl (fun h1 => ?_) (fun h1 => ?_)
  rotate_left
  · refine go ?_; intros
    refine ret () trivial rfl
  · have hl0 : 0 < z.l.length := by omega
    have e2 : resHearPacket z.y z.l[0] z.n = (Y, es, true) := by
      rw [← e, ← resHP_all]
      congr 1
      obtain ⟨x, hx⟩ := List.length_eq_one_iff.1 (by omega : z.l.length = 1)
      simp [hx]
    refine atPacket (a := z.al) (xs := z.l) 0 ?_
    rintro hi b o ea s1
    have hH := HearPacket_f z.y z.l[0] z.n (.agg #[.bool z.y.started, .int .i64 z.y.clock, .int .i64 z.y.window.next, .slice z.a z.y.window.slots.length z.c, .slice z.a2 z.y.requests.length z.c2]) z.F s1
    rw [e2] at hH
    dsimp only at hH
    rw [ea]
    refine goN ?_; intros
    refine d_start [0, 9] [] ?_
    refine dt 0 ?_
    refine dt 1 ?_
    refine dt 2 ?_
    refine dt 3 ?_
    refine dt 4 ?_
    refine dO2 5 10 (by kernel_rfl) (by rw [List.getElem?_toArray]; rfl) (by rw [List.getElem?_toArray]; rfl) ?_ ?_
    · apply o_call; rfl; kernel_rfl; exact evsE
      refine cf hH fun u _ => ?_
      refine t_app ?_
      refine dk ?_
      refine dt 6 ?_
      refine dt 7 ?_
      refine dt 8 ?_
      refine dt 9 ?_
      refine dO 10 (by kernel_rfl) (by rw [List.getElem?_toArray]; rfl) ?_
      apply o_alloc; rfl; intro _
      refine dk ?_
      refine dO 11 (by kernel_rfl) (by rw [List.getElem?_toArray]; rfl) ?_
      apply o_st; rfl; rfl; rfl; (first | exact AggC.s | exact OneC.s); rfl; exact rplE; exact putE; rfl
      refine dk ?_
      refine dt 12 ?_
      refine dt 13 ?_
      refine dd ?_
      refine goN ?_; intros
      refine openOReceiver (x := Y) ?_
      rintro a7 c7 F15 a8 c8 F16 e7 - -
      simp only [Value.agg.injEq, Array.mk.injEq, List.cons.injEq, Value.slice.injEq, Value.int.injEq, Value.bool.injEq, true_and, and_true] at e7
      obtain ⟨⟨rfl, rfl⟩, rfl, rfl⟩ := e7
      refine t_read (E := ESlot) (xs := Y.window.slots) fun F17 => ?_
      refine t_read (E := ERequest) (xs := Y.requests) fun F18 => ?_
      refine closeReceiver Y (a1 := u.a1) ?_
      refine t_read (E := EStr) (xs := es) fun F19 => ?_
      refine go ?_; intros
      refine cf (vReceiver_f _ _ Y _ _) fun _ _ => ?_
      refine t_app ?_
      refine go ?_; intros
      refine cf (vTexts_f _ _ es _ _) fun _ _ => ?_
      refine t_app ?_
      refine go ?_; intros
      refine ret () trivial rfl
    · apply o_alloc; rfl; intro _
      refine dk ?_
      refine dO 5 (by kernel_rfl) (by rw [List.getElem?_toArray]; rfl) ?_
      apply o_call; rfl; kernel_rfl; exact evsE
      refine cf hH fun u _ => ?_
      refine t_app ?_
      refine dk ?_
      refine dt 6 ?_
      refine dt 7 ?_
      refine dt 8 ?_
      refine dt 9 ?_
      refine dO 11 (by kernel_rfl) (by rw [List.getElem?_toArray]; rfl) ?_
      apply o_st; rfl; rfl; rfl; (first | exact AggC.s | exact OneC.s); rfl; exact rplE; exact putE; rfl
      refine dk ?_
      refine dt 12 ?_
      refine dt 13 ?_
      refine dd ?_
      refine goN ?_; intros
      refine openOReceiver (x := Y) ?_
      rintro a7 c7 F15 a8 c8 F16 e7 - -
      simp only [Value.agg.injEq, Array.mk.injEq, List.cons.injEq, Value.slice.injEq, Value.int.injEq, Value.bool.injEq, true_and, and_true] at e7
      obtain ⟨⟨rfl, rfl⟩, rfl, rfl⟩ := e7
      refine t_read (E := ESlot) (xs := Y.window.slots) fun F17 => ?_
      refine t_read (E := ERequest) (xs := Y.requests) fun F18 => ?_
      refine closeReceiver Y (a1 := u.a1) ?_
      refine t_read (E := EStr) (xs := es) fun F19 => ?_
      refine go ?_; intros
      refine cf (vReceiver_f _ _ Y _ _) fun _ _ => ?_
      refine t_app ?_
      refine go ?_; intros
      refine cf (vTexts_f _ _ es _ _) fun _ _ => ?_
      refine t_app ?_
      refine go ?_; intros
      refine ret () trivial rfl
end Go.Proofs.YtgogcgkocjpgoaaGreatDoor
/- The law FnReceivers, lifted. -/
namespace Go.Proofs.YtgogcgkocjpgoaaGreatDoor
open Go.RowKit Go.ChangeShapes Go.WideShapes Go.ChangeAt
theorem reads_byte : Reads Tryz.prog EByte 5 := fun h => by
  obtain ⟨n, rfl, _, hw⟩ := DataW.trod_int Tryz.underlying5 h
  have hb := bounds_u8 hw
  exact ⟨n, [], rfl, hb.1, hb.2, rfl⟩
theorem law_FnReceivers (v0 : Value) (code : List Int) (F0 : List Nat) (w : World) (h0 : Sl EByte w v0 code F0) :
    Calls Tryz.prog 8 #[v0] w fun e' w' => e' = .returned (.bool true) ∧ Below w.heap.size w w' := (receivers_f v0 code F0).val w (hol1 ⟨by decide, h0⟩)
set_option maxRecDepth 100000 in
theorem lifted_FnReceivers (os : Os) (started : os.Started) (H : Type) (enc : TypeId × Value → H) :
    ReturnsInHanded {} Tryz.checked os 8 .any (fun w args => (Rows.fnReceiversSpec.pre enc Tryz.prog Tryz.f8 Rows.fnReceiversRow.domain false w args ∧ laidMetH Tryz.prog Rows.fnReceiversRow.laid w) ∧ sizedMet enc Tryz.prog Tryz.f8 (OpenSpec.ofChange Rows.fnReceiversSpec) false w args)
      (Rows.fnReceiversSpec.post enc Tryz.prog Tryz.f8 false true false false) := by
  refine returnsInHanded_of_change_and (C := Tryz.checked) (X := fun w _ => laidMetH Tryz.prog Rows.fnReceiversRow.laid w) (fun _ _ _ hh h => h.of_heap hh) (by kernel_rfl) started (by kernel_rfl) Tryz.func8
    (ChangeSpec.witness_shaped (enc := enc) (C := Tryz.checked) (os := os) (X := fun w _ => laidMetH Tryz.prog Rows.fnReceiversRow.laid w) false (World.laidAll Tryz.prog os Rows.fnReceiversRow.laid) #[.slice none 0 0] 8 (World.laidAll_os _ _ _)
      (World.shaped_of_ZipB (by kernel_rfl) (by kernel_rfl)) (by kernel_rfl) (by kernel_rfl) (by kernel_rfl)
      (by rw [MakeChecks.laidMetH_plain _ _ _ (by kernel_rfl)]; exact laidMet_laidAll _ (by kernel_rfl) (by kernel_rfl))) ?_
  intro W base args ds gs before hval0 hW hc_ _ hL _
  have hval : ∀ (j : Nat) t v, Tryz.f8.params[j]? = some t → args[j]? = some v → Value.okWide Tryz.prog W .any base t v := hval0
  have hW' := hW
  obtain ⟨p, q, hA0, hV, rfl, hfz, hnd⟩ := hW
  have hA : DataW.TrodAll enc Tryz.prog W 0 (fun _ => true) true Tryz.f8.params.toList args.toList ds p := hA0
  rw [Tryz.params8] at hA hval
  obtain ⟨v0, d0, rfl, rfl, h0⟩ := trodAll_one hA
  obtain ⟨a0, l0, c0, rfl⟩ := okWide_slice Tryz.underlying22 (hval 0 22 v0 rfl rfl)
  obtain ⟨fuel0, hf0⟩ := h0
  obtain ⟨x0, F0, u0, hu0, hs0⟩ := (reads_slice Tryz.underlying22 (by kernel_rfl) (by decide) reads_byte) hf0
  obtain rfl : Value.slice a0 l0 c0 = u0 := by simpa [Value.cells] using hu0
  refine (law_FnReceivers _ x0 F0 W hs0).mono fun e W' ⟨he, hB⟩ => ⟨_, he, law_post (tb := 4) (by kernel_rfl) ?_ Tryz.underlying4 (by kernel_rfl) rfl rfl hW' hB⟩
  rw [Tryz.params8]
  simp only [List.mem_cons, List.not_mem_nil, or_false, forall_eq]
  exact ⟨by kernel_rfl, of_decide_eq_true (by kernel_rfl)⟩
end Go.Proofs.YtgogcgkocjpgoaaGreatDoor
/- The law FnReceivers: what is counted of the program, each count by itself. -/
namespace Go.Proofs.YtgogcgkocjpgoaaGreatDoor
open Go.RowKit Go.ChangeShapes Go.WideShapes Go.ChangeAt
set_option maxRecDepth 100000 in
set_option maxHeartbeats 0 in
theorem jf_FnReceivers : joinedFacts Tryz.prog 8 Tryz.f8 Rows.fnReceiversSpec Rows.fnReceiversRow = true := by
  unfold joinedFacts
  simp only [Bool.and_eq_true]
  repeat' refine And.intro ?_ ?_
  all_goals (as_aux_lemma => kernel_rfl)
end Go.Proofs.YtgogcgkocjpgoaaGreatDoor
