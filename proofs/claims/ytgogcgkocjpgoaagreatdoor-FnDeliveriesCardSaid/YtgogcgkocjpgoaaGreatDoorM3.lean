/- Part 3 of the proof: 9 texts, one behind the other. -/
import Derived.Laws.StructEq
import Derived.Test.YtgogcgkocjpgoaaGreatDoorRows
import Derived.MakeChecks
import Derived.Stop.LaidErr
import Derived.Shelf.Vars
import Derived.LaidLaws
import Derived.ProofKit
import Derived.OpenShut
import Derived.Test.YtgogcgkocjpgoaaGreatDoorCards
import Derived.Test.YtgogcgkocjpgoaaGreatDoorTie
import Derived.LaidMore
import Derived.Lay
import Derived.SevenTiedAt
import Derived.Stop.Joined
import Derived.Test.YtgogcgkocjpgoaaGreatDoorM2
/- Draws, for the engine: deliveries. -/
namespace Go.Proofs.YtgogcgkocjpgoaaGreatDoor
open Go.RowKit
structure DlS where
  r : Int
  g : Nat
  s : CuS
set_option maxRecDepth 100000 in
theorem delivery_f (B g : Nat) (F : CuF) (s : CuS) (n : Int) (ok : CuOk B s) (hB : B ≤ 800000000000) :
    Fn Tryz.prog 161 [ptr g 0 0, .int .i64 n] [.sl EByte (.slice F.a F.code.length F.c) F.code F.bs] [.row g 123 0 [] [.slice F.a F.code.length F.c, .int .i64 (s.k : Nat), .int .u64 s.seed] []] (fun (z : Delivery × CuS) => CuOk (B + 20) z.2) (fun s => .agg #[.int .i64 s.1.receiver, .int .i64 s.1.got, .int .i64 s.1.repaired, .int .i64 s.1.lost]) (fun s => [.row g 123 0 [] [.slice F.a F.code.length F.c, .int .i64 (s.2.k : Nat), .int .u64 s.2.seed] []]) := by
  refine enter Tryz.func161 rfl Tryz.ntmps161 fun w0 => ?_
  refine goN ?_; intros
  refine t_row (xs := [0, 1, 2, 5, 120, 1000000]) (fun w => flat_int w _) ?_ (by simp)
  refine t_read (E := EInt) fun G => ?_
  refine go ?_; intros
  refine cf (among_f _ g F _ [0, 1, 2, 5, 120, 1000000] G s ok (by omega) (by simp) (by simp)) fun q1 hq1 => ?_
  refine t_app ?_
  have hb1 : 0 ≤ q1.1 ∧ q1.1 ≤ 1000000 := by have := hq1.1; simp only [List.mem_cons, List.not_mem_nil, or_false] at this; omega
  refine goN ?_; intros
  refine t_row (xs := [0, 0, 1, 7, 1000000]) (fun w => flat_int w _) ?_ (by simp)
  refine t_read (E := EInt) fun G => ?_
  refine go ?_; intros
  refine cf (among_f _ g F _ [0, 0, 1, 7, 1000000] G q1.2 hq1.2 (by omega) (by simp) (by simp)) fun q2 hq2 => ?_
  refine t_app ?_
  refine go ?_; intros
  rename_i gd
  refine d_start [0] [12] ?_
  refine dt 0 ?_
  refine dt 1 ?_
  refine dt 2 ?_
  refine dt 3 ?_
  refine dt 4 ?_
  refine dt 6 ?_
  refine dt 7 ?_
  refine dt 8 ?_
  refine dO 5 (by kernel_rfl) (by rw [List.getElem?_toArray]; rfl) ?_
  apply o_call; rfl; kernel_rfl; exact evsE
  refine cf (leastH_f 1 q1.1) fun _ _ => ?_
  refine t_app ?_
  refine dk ?_
  refine dO 9 (by kernel_rfl) (by rw [List.getElem?_toArray]; rfl) ?_
  apply o_bs; rfl; rfl; rfl; rfl; exact rptE; exact filE; intro _
  refine t_row (xs := [0, q1.1, min 1 q1.1, q1.1 / 2]) (fun w => flat_int w _) ?_ (by simp)
  refine t_read (E := EInt) fun G => ?_
  refine dk ?_
  refine dO 10 (by kernel_rfl) (by rw [List.getElem?_toArray]; rfl) ?_
  apply o_call; rfl; kernel_rfl; exact evsE
  refine cf (among_f _ g F _ [0, q1.1, min 1 q1.1, q1.1 / 2] G q2.2 hq2.2 (by omega) (by simp) (by simp)) fun q3 hq3 => ?_
  refine t_app ?_
  refine dk ?_
  refine dt 11 ?_
  refine dO 12 (by kernel_rfl) (by rw [List.getElem?_toArray]; rfl) ?_
  apply o_st; rfl; rfl; rfl; (first | exact AggC.s | exact OneC.s); rfl; exact rplE; exact putE; rfl
  refine dkx ?_
  refine dd ?_
  refine go ?_; intros
  refine cf (pick_f _ g F 60 q3.2 hq3.2 (by omega) (by omega)) fun p hp => ?_
  refine t_app ?_
  obtain ⟨r, s3⟩ := p
  obtain ⟨-, hp⟩ := hp
  dsimp only at hp ⊢
  refine go ?_; intros
  refine c_if rfl (fun e0 => ?_) (fun e0 => ?_)
  · refine goN ?_; intros
    refine t_row (xs := [0, 7, 8]) (fun w => flat_int w _) ?_ (by simp)
    refine t_read (E := EInt) fun G => ?_
    refine go ?_; intros
    refine cf (among_f _ g F _ [0, 7, 8] G s3 hp (by omega) (by simp) (by simp)) fun q4 hq4 => ?_
    refine t_app ?_
    refine go ?_; intros
    refine ret (⟨q4.1, q1.1, q3.1, q2.1⟩, q4.2) (hq4.2.mono (by omega)) rfl
  refine go ?_; intros
  refine c_if rfl (fun e1 => ?_) (fun e1 => ?_)
  · refine goN ?_; intros
    refine t_row (xs := [-1, 1000001]) (fun w => flat_int w _) ?_ (by simp)
    refine t_read (E := EInt) fun G => ?_
    refine go ?_; intros
    refine cf (among_f _ g F _ [-1, 1000001] G s3 hp (by omega) (by simp) (by simp)) fun q4 hq4 => ?_
    refine t_app ?_
    refine go ?_; intros
    refine ret (⟨n, q4.1, q3.1, q2.1⟩, q4.2) (hq4.2.mono (by omega)) rfl
  refine go ?_; intros
  refine c_if rfl (fun e2 => ?_) (fun e2 => ?_)
  · refine goN ?_; intros
    refine t_row (xs := [-1, q1.1 + 1]) (fun w => flat_int w _) ?_ (by simp)
    refine t_read (E := EInt) fun G => ?_
    refine go ?_; intros
    refine cf (among_f _ g F _ [-1, q1.1 + 1] G s3 hp (by omega) (by simp) (by simp)) fun q4 hq4 => ?_
    refine t_app ?_
    refine go ?_; intros
    refine ret (⟨n, q1.1, q4.1, q2.1⟩, q4.2) (hq4.2.mono (by omega)) rfl
  refine go ?_; intros
  refine c_if rfl (fun e3 => ?_) (fun e3 => ?_)
  · refine goN ?_; intros
    refine t_row (xs := [-1, 1000001]) (fun w => flat_int w _) ?_ (by simp)
    refine t_read (E := EInt) fun G => ?_
    refine go ?_; intros
    refine cf (among_f _ g F _ [-1, 1000001] G s3 hp (by omega) (by simp) (by simp)) fun q4 hq4 => ?_
    refine t_app ?_
    refine go ?_; intros
    refine ret (⟨n, q1.1, q3.1, q4.1⟩, q4.2) (hq4.2.mono (by omega)) rfl
  refine go ?_; intros
  refine ret (⟨n, q1.1, q3.1, q2.1⟩, s3) (hp.mono (by omega)) rfl
structure DlL where
  l : List Delivery
  i : Nat
  a : Option Addr
  c : Nat
  F : List Nat
  s : CuS
structure DlOk (B : Nat) (z : DlL) : Prop where
  l : z.l.length ≤ z.i
  i : z.i ≤ 7
  s : CuOk (B + 30 * z.i) z.s
set_option maxRecDepth 100000 in
theorem deliveries_f (B g : Nat) (F : CuF) (s : CuS) (ok : CuOk B s) (hB : B ≤ 700000000000) :
    Fn Tryz.prog 163 [ptr g 0 0] [.sl EByte (.slice F.a F.code.length F.c) F.code F.bs] [.row g 123 0 [] [.slice F.a F.code.length F.c, .int .i64 (s.k : Nat), .int .u64 s.seed] []] (fun (z : DlL) => z.l.length ≤ 7 ∧ CuOk (B + 300) z.s) (fun z => .slice z.a z.l.length z.c) (fun z => [.ow EDelivery 98 (.slice z.a z.l.length z.c) z.l z.F, .row g 123 0 [] [.slice F.a F.code.length F.c, .int .i64 (z.s.k : Nat), .int .u64 z.s.seed] []]) := by
  refine enter Tryz.func163 rfl Tryz.ntmps163 fun w0 => ?_
  refine goN ?_; intros
  refine t_emp EDelivery ?_
  refine go ?_; intros
  refine c_loopS [0, 2] (fun z : DlL => [(3, .slice z.a z.l.length z.c), (4, .int .i64 ((z.i + 1 : Nat) : Int))]) (fun z => [.ow EDelivery 98 (.slice z.a z.l.length z.c) z.l z.F, .row g 123 0 [] [.slice F.a F.code.length F.c, .int .i64 (z.s.k : Nat), .int .u64 z.s.seed] []]) (DlOk B) (fun z => 7 - z.i) ⟨[], 0, _, _, _, s⟩ ⟨Nat.le_refl _, by show 0 ≤ 7; omega, ok.mono (by omega)⟩ fun z hz => ?_
  obtain ⟨z1, z2, z3⟩ := hz
  refine go ?_; intros
  refine c_if rfl (fun h1 => ?_) (fun h1 => ?_)
  · have hi : z.i < 7 := by omega
    refine go ?_; intros
    refine cf (one_f _ g F 2 z.s z3 (by omega) (by omega)) fun q hq => ?_
    refine t_app ?_
    obtain ⟨b, s1⟩ := q
    obtain ⟨-, h2⟩ := hq
    dsimp only at h2 ⊢
    cases b
    · refine go ?_; intros
      refine n_lp ⟨z.l, z.i + 1, z.a, z.c, z.F, s1⟩ ⟨by show z.l.length ≤ z.i + 1; omega, by show z.i + 1 ≤ 7; omega, h2.mono (by show _ ≤ B + 30 * (z.i + 1); omega)⟩ (by show 7 - (z.i + 1) < 7 - z.i; omega)
    refine go ?_; intros
    refine cf (delivery_f _ g F s1 _ h2 (by omega)) fun q hq => ?_
    refine t_app ?_
    refine goN ?_; intros
    apply wO
    refine ap1 (flatDelivery q.1) one_EDelivery fun a9 c9 F9 => ?_
    refine go ?_; intros
    refine n_lp ⟨z.l ++ [q.1], z.i + 1, a9, c9, F9, q.2⟩ ⟨by show (z.l ++ [_]).length ≤ z.i + 1; simp; omega, by show z.i + 1 ≤ 7; omega, hq.mono (by show _ ≤ B + 30 * (z.i + 1); omega)⟩ (by show 7 - (z.i + 1) < 7 - z.i; omega)
  · refine go ?_; intros
    refine wg_if rfl rfl (fun h2 => ?_) (fun h2 => ?_)
    rotate_left
    · refine go ?_; intros
      refine ret z ⟨by omega, z3.mono (by omega)⟩ rfl
    refine go ?_; intros
    refine cf (one_f _ g F 24 z.s z3 (by omega) (by omega)) fun q hq => ?_
    refine t_app ?_
    obtain ⟨b, s1⟩ := q
    obtain ⟨-, h3⟩ := hq
    dsimp only at h3 ⊢
    cases b
    · refine go ?_; intros
      refine ret ⟨z.l, z.i, z.a, z.c, z.F, s1⟩ ⟨by show z.l.length ≤ 7; omega, h3.mono (by omega)⟩ rfl
    · have h1l : 1 < z.l.length := by omega
      refine focF (m := 4) scal_EDelivery 1 ?_ (by repeat (first | exact .here | apply Pick.there)) rfl h1l
      rintro _ g2 A2 cs2 B2 e1 eF hc3 hh
      obtain ⟨rfl, -⟩ := hc3 w0
      rw [e1]
      refine go ?_; intros
      refine unfF z.l[1] hh hc3 ?_
      rw [List.set_getElem_self]
      refine focF (m := 4) scal_EDelivery 0 ?_ (by repeat (first | exact .here | apply Pick.there)) rfl (by omega)
      rintro _ g3 A3 cs3 B3 e3 - hc4 hh4
      cases e3
      obtain ⟨rfl, -⟩ := hc4 w0
      refine go ?_; intros
      refine unfF z.l[1] hh4 (fun w => ⟨rfl, rfl⟩) ?_
      have e9 : z.l.length = (z.l.set 0 z.l[1]).length := by simp
      rw [e9]
      refine ret ⟨z.l.set 0 z.l[1], z.i, _, z.c, _, s1⟩ ⟨by show (z.l.set 0 z.l[1]).length ≤ 7; simp; omega, h3.mono (by omega)⟩ rfl
end Go.Proofs.YtgogcgkocjpgoaaGreatDoor
/- Draws of deliveries and reports; lists that are alike. -/
namespace Go.Proofs.YtgogcgkocjpgoaaGreatDoor
open Go.RowKit
theorem delivery_eq (s : Delivery) (w : World) : (Op.equalIn 10000 98 (.agg #[.int .i64 s.receiver, .int .i64 s.got, .int .i64 s.repaired, .int .i64 s.lost]) (.agg #[.int .i64 s.receiver, .int .i64 s.got, .int .i64 s.repaired, .int .i64 s.lost])).run Tryz.prog w = .ok true w := by
  have u0 := Tryz.underlying3
  have a0 := Tryz.isAgg3
  have hS : Tryz.prog.underlying 98 = some (.struct (Tryz.prog.fieldsOf 98)) := by kernel_rfl
  rw [show (10000 : Nat) = 9999 + 1 from rfl, run_equalIn_agg w 9999 98 _ _ hS (by kernel_rfl)]
  simp only [Program.fieldsOf, Tryz.underlying98]
  go_simp
theorem yd_neDelivery {n : Nat} {fr : Fr} {H : List Pc} {x y : Operand} {ty t' : TypeId} {s : Delivery} (hx : ev fr x = some (.agg #[.int .i64 s.receiver, .int .i64 s.got, .int .i64 s.repaired, .int .i64 s.lost])) (hy : ev fr y = some (.agg #[.int .i64 s.receiver, .int .i64 s.got, .int .i64 s.repaired, .int .i64 s.lost])) : Yd Tryz.prog n fr H (.binOp .neq 98 x y t') ty (.bool false) := .mk fun c w d pos aft gd hA _ => by
  have h2 : (eqGuard .neq 98 x y (.agg #[.int .i64 s.receiver, .int .i64 s.got, .int .i64 s.repaired, .int .i64 s.lost]) (.agg #[.int .i64 s.receiver, .int .i64 s.got, .int .i64 s.repaired, .int .i64 s.lost])).run Tryz.prog w = .ok () w := run_eqGuard_agg w _ _ _ _ _ _ (by kernel_rfl)
  simp only [execOp, hA.ev hx, hA.ev hy, Sem.run_bind, h2, Result.andThen_ok, run_neq_struct, delivery_eq, Sem.run_pure]
  rfl

set_option maxRecDepth 100000 in
theorem rDeliveries_f (a a2 : Option Addr) (c c2 : Nat) (xs : List Delivery) (F F2 : List Nat) (hl : xs.length ≤ 1000000000) : Fn Tryz.prog 80 [.slice a xs.length c, .slice a2 xs.length c2] [.sl EDelivery (.slice a xs.length c) xs F, .sl EDelivery (.slice a2 xs.length c2) xs F2] [] (fun (_ : Unit) => True) (fun _ => .bool true) (fun _ => []) := by
  refine enter Tryz.func80 rfl Tryz.ntmps80 fun w0 => ?_
  refine go ?_; intros
  refine c_if rfl (fun h2 => ?_) (fun h2 => ?_)
  · exact absurd rfl h2
  refine go ?_; intros
  refine c_loopR [0, 1, 4] (fun k : Nat => [(5, .int .i64 k)]) (fun k => k ≤ xs.length) (fun k => xs.length - k) 0 (Nat.zero_le _) fun k hk => ?_
  refine go ?_; intros
  refine c_if rfl (fun h3 => ?_) (fun h3 => ?_)
  · have hk3 : k < xs.length := by omega
    refine atDelivery (a := a) (xs := xs) k ?_
    rintro hi b o e
    rw [e]
    refine atDelivery (a := a2) (xs := xs) k ?_
    rintro hi2 b2 o2 e2
    rw [e2]
    refine goN ?_; intros
    refine d_start [0, 1] [] ?_
    refine dt 0 ?_
    refine dt 1 ?_
    refine dt 2 ?_
    refine dt 3 ?_
    refine dt 4 ?_
    refine dt 5 ?_
    refine dt 6 ?_
    refine dt 7 ?_
    refine dt 8 ?_ (hy := yd_neDelivery rfl rfl)
    refine dd ?_
    refine go ?_; intros
    refine n_lp (k + 1) hk3 (by omega)
  · refine go ?_; intros
    refine ret () trivial rfl
theorem rBig_f (v : Value) (code : List Int) (F : List Nat) : Fn Tryz.prog 68 [v] [.sl EByte v code F] [] (fun (_ : Unit) => True) (fun _ => .bool (decide (65536 < (code.length : Int)))) (fun _ => []) := by
  refine enter Tryz.func68 rfl Tryz.ntmps68 fun w0 => ?_
  refine t_sl (E := EByte) ?_
  rintro a c rfl l1 l2
  refine go ?_; intros
  refine ret () trivial rfl
set_option maxRecDepth 100000 in
theorem specDeliveryText_f (d : Delivery) (FT : List Nat) : Fn Tryz.prog 71 [.agg #[.int .i64 d.receiver, .int .i64 d.got, .int .i64 d.repaired, .int .i64 d.lost]] [EnvP FT] [] (fun (_ : Unit) => True) (fun _ => .tuple #[.string (resDT d).1, .bool (resDT d).2]) (fun _ => []) := by
  refine enter Tryz.func71 rfl Tryz.ntmps71 fun w0 => ?_
  refine go ?_; intros
  refine cf (l26One_f d) fun _ _ => ?_
  refine t_app ?_
  cases g1 : goodDel d
  · refine go ?_; intros
    rw [show resDT d = (⟨#[]⟩, false) by unfold resDT; rw [g1]; rfl]
    refine ret () trivial rfl
  rw [show resDT d = (delT d, true) by unfold resDT; rw [g1]; rfl]
  refine go ?_; intros
  refine cb (fun w st => (l26Text_f d FT g1).val w (hol1 (st.get (p := EnvP FT) (by simp)))) ?_
  refine go ?_; intros
  refine ret () trivial rfl
set_option maxRecDepth 100000 in
theorem specReportText_f (l : List Delivery) (a : Option Addr) (c : Nat) (F FT : List Nat) (hl : l.length ≤ 1000000000) : Fn Tryz.prog 78 [.slice a l.length c] [.sl EDelivery (.slice a l.length c) l F, EnvP FT] [] (fun (_ : Unit) => True) (fun _ => .tuple #[.string (resRT l).1, .bool (resRT l).2]) (fun _ => []) := by
  refine enter Tryz.func78 rfl Tryz.ntmps78 fun w0 => ?_
  refine go ?_; intros
  refine cf (l26Good_f l a c F hl) fun _ _ => ?_
  refine t_app ?_
  cases g : goodDels l
  · rw [show resRT l = (⟨#[]⟩, false) by unfold resRT; rw [g]; rfl]
    refine go ?_; intros
    refine ret () trivial rfl
  rw [show resRT l = (repT l, true) by unfold resRT; rw [g]; rfl]
  refine go ?_; intros
  cases l with
  | nil =>
    refine cf (l26Rep0_f a c) fun _ _ => ?_
    refine t_app ?_
    refine go ?_; intros
    refine ret () trivial rfl
  | cons d r =>
    refine cf (l26Report_f d r a c F FT g) fun _ _ => ?_
    refine t_app ?_
    refine go ?_; intros
    refine ret () trivial rfl
theorem resDT_size (d : Delivery) : (resDT d).1.size ≤ 80 := by
  unfold resDT
  cases g : goodDel d
  · exact Nat.zero_le _
  · exact delT_size g
theorem resRT_size (l : List Delivery) : (resRT l).1.size ≤ 600 := by
  unfold resRT
  cases g : goodDels l
  · exact Nat.zero_le _
  · exact repT_size g
set_option maxRecDepth 100000 in
theorem DrawValidD_f (v : Value) (code : List Int) (G : List Nat) : Fn Tryz.prog 153 [v] [.sl EByte v code G] [] (fun (s : Delivery) => True) (fun s => .agg #[.int .i64 s.receiver, .int .i64 s.got, .int .i64 s.repaired, .int .i64 s.lost]) (fun s => []) := by
  refine enter Tryz.func153 rfl Tryz.ntmps153 fun w0 => ?_
  refine t_sl (E := EByte) ?_
  rintro a c rfl l1 l2
  refine go ?_; intros
  refine cf (pick_f 0 _ ⟨code, a, c, G⟩ 7 ⟨0, 0⟩ ⟨Nat.le_refl _, by decide, by decide⟩ (by omega) (by omega)) fun y hy => ?_
  refine t_app ?_
  obtain ⟨k, s2⟩ := y
  obtain ⟨hk, h2⟩ := hy
  dsimp only at hk h2 ⊢
  have hk : k ≤ 6 := by omega
  refine go ?_; intros
  refine cf (delivery_f _ _ ⟨code, a, c, G⟩ s2 _ h2 (by omega)) fun q _ => ?_
  refine t_app ?_
  refine go ?_; intros
  refine ret q.1 trivial rfl
theorem DrawDeliveryText_f (v : Value) (code : List Int) (G : List Nat) : Fn Tryz.prog 69 [v] [.sl EByte v code G] [] (fun (_ : Delivery) => True) (fun s => .agg #[.int .i64 s.receiver, .int .i64 s.got, .int .i64 s.repaired, .int .i64 s.lost]) (fun _ => []) := by
  refine enter Tryz.func69 rfl Tryz.ntmps69 fun w0 => ?_
  refine go ?_; intros
  refine cf (DrawValidD_f v code G) fun z _ => ?_
  refine t_app ?_
  refine go ?_; intros
  refine ret z trivial rfl
set_option maxRecDepth 100000 in
theorem DrawParseD_f (v : Value) (code : List Int) (G FT : List Nat) : Fn Tryz.prog 74 [v] [.sl EByte v code G, EnvP FT] [] (fun (s : ByteArray) => s.size ≤ 1000) (fun s => .string s) (fun s => []) := by
  refine enter Tryz.func74 rfl Tryz.ntmps74 fun w0 => ?_
  refine t_sl (E := EByte) ?_
  rintro a c rfl l1 l2
  refine go ?_; intros
  refine cf (pick_f 0 _ ⟨code, a, c, G⟩ 7 ⟨0, 0⟩ ⟨Nat.le_refl _, by decide, by decide⟩ (by omega) (by omega)) fun y hy => ?_
  refine t_app ?_
  obtain ⟨k, s2⟩ := y
  obtain ⟨hk, h2⟩ := hy
  dsimp only at hk h2 ⊢
  have hk : k ≤ 6 := by omega
  refine go ?_; intros
  refine cf (delivery_f _ _ ⟨code, a, c, G⟩ s2 _ h2 (by omega)) fun q hq => ?_
  refine t_app ?_
  have hz := resDT_size q.1
  refine go ?_; intros
  refine cb (fun w st => (specDeliveryText_f q.1 FT).val w (hol1 (st.get (p := EnvP FT) (by simp)))) ?_
  refine go ?_; intros
  refine cf (one_f _ _ ⟨code, a, c, G⟩ 4 q.2 hq (by omega) (by omega)) fun q hq => ?_
  refine t_app ?_
  obtain ⟨b, s3⟩ := q
  obtain ⟨-, h3⟩ := hq
  dsimp only at h3 ⊢
  cases b
  · refine go ?_; intros
    refine ret (resDT q.1).1 (by omega) rfl
  · refine go ?_; intros
    refine cf (spoilt_f _ _ ⟨code, a, c, G⟩ s3 (resDT q.1).1 ⟨#[48, 46, 32, 49, 44, 110]⟩ h3 (by omega) (by omega) (by decide) (by decide)) fun q hq => ?_
    refine t_app ?_
    refine go ?_; intros
    refine ret q.1 (by have := hq.1; omega) rfl
set_option maxRecDepth 100000 in
theorem DrawReportText_f (v : Value) (code : List Int) (G : List Nat) : Fn Tryz.prog 76 [v] [.sl EByte v code G] [] (fun (s : DlL) => s.l.length ≤ 7) (fun s => .slice s.a s.l.length s.c) (fun s => [.sl EDelivery (.slice s.a s.l.length s.c) s.l s.F]) := by
  refine enter Tryz.func76 rfl Tryz.ntmps76 fun w0 => ?_
  refine t_sl (E := EByte) ?_
  rintro a c rfl l1 l2
  refine go ?_; intros
  refine cf (deliveries_f 0 _ ⟨code, a, c, G⟩ ⟨0, 0⟩ ⟨Nat.le_refl _, by decide, by decide⟩ (by omega)) fun z hz => ?_
  refine t_app ?_
  refine go ?_; intros
  refine t_read (E := EDelivery) (xs := z.l) fun F9 => ?_
  refine ret ⟨z.l, z.i, z.a, z.c, F9, z.s⟩ hz.1 rfl
set_option maxRecDepth 100000 in
theorem DrawParseR_f (v : Value) (code : List Int) (G FT : List Nat) : Fn Tryz.prog 81 [v] [.sl EByte v code G, EnvP FT] [] (fun (s : ByteArray) => s.size ≤ 1000) (fun s => .string s) (fun s => []) := by
  refine enter Tryz.func81 rfl Tryz.ntmps81 fun w0 => ?_
  refine t_sl (E := EByte) ?_
  rintro a c rfl l1 l2
  refine go ?_; intros
  refine cf (deliveries_f 0 _ ⟨code, a, c, G⟩ ⟨0, 0⟩ ⟨Nat.le_refl _, by decide, by decide⟩ (by omega)) fun z hz => ?_
  refine t_app ?_
  obtain ⟨hz1, hz2⟩ := hz
  have hz := resRT_size z.l
  refine t_read (E := EDelivery) (xs := z.l) fun F9 => ?_
  refine go ?_; intros
  refine cf (specReportText_f z.l z.a z.c F9 FT (by omega)) fun _ _ => ?_
  refine t_app ?_
  refine go ?_; intros
  refine cf (one_f _ _ ⟨code, a, c, G⟩ 4 z.s hz2 (by omega) (by omega)) fun q hq => ?_
  refine t_app ?_
  obtain ⟨b, s3⟩ := q
  obtain ⟨-, h3⟩ := hq
  dsimp only at h3 ⊢
  cases b
  · refine go ?_; intros
    refine ret (resRT z.l).1 (by omega) rfl
  · refine go ?_; intros
    refine cf (spoilt_f _ _ ⟨code, a, c, G⟩ s3 (resRT z.l).1 ⟨#[48, 46, 32, 49, 44, 110]⟩ h3 (by omega) (by omega) (by decide) (by decide)) fun q hq => ?_
    refine t_app ?_
    refine go ?_; intros
    refine ret q.1 (by have := hq.1; omega) rfl
end Go.Proofs.YtgogcgkocjpgoaaGreatDoor
/- What the walks of the exact laws need: structs by their cells as wholes, contracts of made values, marks. -/
namespace Go.Proofs.YtgogcgkocjpgoaaGreatDoor
open Go.RowKit
section
variable {c : Cx} {fr : Fr} {H H0 : List Pc} {k : List It} {Φ : Gl} {X : List Nat} {ops : Array Oper} {f : Nat} {listed : Array Bool} {d : Nat} {o : Op} {ty : TypeId} {v u : Value} {x y : Operand}
theorem Put.all : ∀ {zs l : List Value}, zs.length = l.length → Put zs 0 l l
  | [], [], _ => .zero
  | [], _ :: _, h => by simp at h
  | _ :: _, [], h => by simp at h
  | _ :: zs, _ :: l, h => .one (Put.all (by simpa using h))
end
/-! contracts, with what they ask read off pieces -/
section
variable {G D : List Nat} {w0 w : World} {H : List Pc}
end
end Go.Proofs.YtgogcgkocjpgoaaGreatDoor
/- The steps of the exact laws' walks, as one word. -/
namespace Go.Proofs.YtgogcgkocjpgoaaGreatDoor
open Go.RowKit
end Go.Proofs.YtgogcgkocjpgoaaGreatDoor
/- The law FnExactParseReport: the walk. -/
namespace Go.Proofs.YtgogcgkocjpgoaaGreatDoor
open Go.RowKit
theorem resPR_len (s : ByteArray) : (resPR s).1.length ≤ 7 := by
  unfold resPR
  split
  · exact Nat.zero_le _
  · split
    · rename_i h
      unfold okPRI at h
      simp only [Bool.and_eq_true] at h
      exact goodDels_len h.1.2
    · exact Nat.zero_le _
end Go.Proofs.YtgogcgkocjpgoaaGreatDoor
/- The law FnDeliveries: the walk. -/
namespace Go.Proofs.YtgogcgkocjpgoaaGreatDoor
open Go.RowKit
theorem neD (b : Bool) : decide (¬ b = b) = false := by simp
theorem eqD (b : Bool) : decide (b = b) = true := by simp
theorem neS (b : ByteArray) : decide (¬ b = b) = false := by simp
set_option maxRecDepth 100000 in
set_option maxHeartbeats 8000000 in
theorem deliveries_l (v : Value) (code : List Int) (G FT : List Nat) : Fn Tryz.prog 9 [v] [.sl EByte v code G, EnvP FT] [] (fun (_ : Unit) => True) (fun _ => .bool true) (fun _ => []) := by
  refine enter Tryz.func9 rfl Tryz.ntmps9 fun w0 => ?_
  refine go ?_; intros
  refine cb (fun w st => (rBig_f v code G).val w (hol1 (st.get (p := .sl EByte v code G) (by simp)))) ?_
  refine go ?_; intros
  refine c_if rfl (fun h => ?_) (fun h => ?_)
  · refine go ?_; intros
    refine ret () trivial rfl
  refine go ?_; intros
  refine cf (DrawDeliveryText_f v code G) fun d _ => ?_
  refine t_app ?_
  have hds := resDT_size d
  refine go ?_; intros
  refine cb (fun w st => (DeliveryText_f d FT).val w (hol1 (st.get (p := EnvP FT) (by simp)))) ?_
  refine go ?_; intros
  refine cb (fun w st => (specDeliveryText_f d FT).val w (hol1 (st.get (p := EnvP FT) (by simp)))) ?_
  refine go ?_; intros
  rw [neS]
  refine go ?_; intros
  rw [neD]
  refine go ?_; intros
  refine cf (IsValidDelivery_f d) fun _ _ => ?_
  refine t_app ?_
  refine go ?_; intros
  rw [show decide (¬ (resDT d).2 = goodDel d) = false by unfold resDT; cases goodDel d <;> rfl]
  refine go ?_; intros
  refine cb (fun w st => (ParseDelivery_f (resDT d).1 FT (by omega)).val w (hol1 (st.get (p := EnvP FT) (by simp)))) ?_
  cases g : goodDel d
  rotate_left
  rw [show resDT d = (delT d, true) by unfold resDT; rw [g]; rfl, show resPD (delT d, true).1 = (d, true) from resPD_back g]
  refine go ?_; intros
  apply wO; apply oc; rfl; exact yd_neDelivery rfl rfl
  rotate_left
  rw [show resDT d = (⟨#[]⟩, false) by unfold resDT; rw [g]; rfl]
  all_goals
    refine go ?_; intros
    refine cf (DrawParseD_f v code G FT) fun t ht => ?_
    refine t_app ?_
    refine go ?_; intros
    refine cb (fun w st => (ParseDelivery_f t FT (by omega)).val w (hol1 (st.get (p := EnvP FT) (by simp)))) ?_
    refine go ?_; intros
    refine cb (fun w st => (specParseDelivery_f t FT (by omega)).val w (hol1 (st.get (p := EnvP FT) (by simp)))) ?_
    refine go ?_; intros
    apply wO; apply oc; rfl; exact yd_neDelivery rfl rfl
    refine go ?_; intros
    rw [neD]
    refine go ?_; intros
    refine cf (DrawReportText_f v code G) fun z hz => ?_
    refine t_app ?_
    refine go ?_; intros
    refine cf (ReportText_f z.l z.a z.c z.F FT (by omega)) fun _ _ => ?_
    refine t_app ?_
    refine go ?_; intros
    refine cf (specReportText_f z.l z.a z.c z.F FT (by omega)) fun _ _ => ?_
    refine t_app ?_
    have hzs := resRT_size z.l
    refine go ?_; intros
    rw [neS]
    refine go ?_; intros
    rw [neD]
    refine go ?_; intros
    refine cf (ParseReport_f (resRT z.l).1 FT (by omega)) fun p _ => ?_
    refine t_app ?_
    refine t_read (E := EDelivery) (xs := (resPR (resRT z.l).1).1) fun F7 => ?_
    cases g2 : goodDels z.l
    rotate_left
    rw [show resRT z.l = (repT z.l, true) by unfold resRT; rw [g2]; rfl, show resPR (repT z.l, true).1 = (z.l, true) from resPR_back g2]
    refine go ?_; intros
    refine cf (rDeliveries_f p.a z.a p.c z.c z.l _ _ (by omega)) fun _ _ => ?_
    refine t_app ?_
    rotate_left
    rw [show resRT z.l = (⟨#[]⟩, false) by unfold resRT; rw [g2]; rfl]
    all_goals
      refine go ?_; intros
      refine cf (DrawParseR_f v code G FT) fun u hu => ?_
      refine t_app ?_
      refine go ?_; intros
      refine cf (ParseReport_f u FT (by omega)) fun p _ => ?_
      refine t_app ?_
      refine go ?_; intros
      refine cf (specParseReport_f u FT (by omega)) fun q _ => ?_
      refine t_app ?_
      refine t_read (E := EDelivery) (xs := (resPR u).1) fun F8 => ?_
      have h7 := resPR_len u
      refine go ?_; intros
      rw [eqD]
      refine go ?_; intros
      refine cf (rDeliveries_f p.a q.a p.c q.c (resPR u).1 _ _ (by omega)) fun _ _ => ?_
      refine t_app ?_
      refine go ?_; intros
      refine ret () trivial rfl
end Go.Proofs.YtgogcgkocjpgoaaGreatDoor
/- The library's variables as the rows give them when the call begins. -/
namespace Go.Proofs.YtgogcgkocjpgoaaGreatDoor
open Go.RowKit
theorem star_es : "*" ++ "errors.errorString" = "*errors.errorString" := by decide
theorem row_es : ∀ u, Tryz.prog.typeName? 3 u = some "*errors.errorString" → u = 302 := by
  intro u h
  exact typeName_ptr_named (nm := "errors.errorString") (by rw [star_es]; kernel_rfl) (by kernel_rfl) (by decide) u (by rw [star_es]; exact h)
theorem env_of {W : World} (hL : laidMetH Tryz.prog Rows.fnDeliveriesRow.laid W) (hsh : W.ShapedOpen Tryz.prog) : (EnvP [3, 0, 1, 2]).P W := by
  rw [MakeChecks.laidMetH_plain _ _ _ (by kernel_rfl)] at hL
  have h3 := hL.tail.tail
  have h5 := hL.tail.tail.tail.tail
  have h6 := hL.tail.tail.tail.tail.tail
  have e : (Rows.laid_internal_strconv_uint64pow10 : DataW Unit) = Lib.tabData .u64 Lib.pow10Tab := by kernel_rfl
  rw [e] at h3
  have ht : Lib.TabIs Tryz.prog W "internal/strconv.uint64pow10" .u64 Lib.pow10Tab := Lib.tabIs_of_head (g := 3) (t := 291) (e := 121) (n := 20) (by kernel_rfl) (by kernel_rfl) Tryz.underlying291 Tryz.underlying121 (by kernel_rfl) (by kernel_rfl) h3
  have hu : Tryz.prog.underlying 179 = some (.interface (Tryz.prog.methodsAt 179)) := by kernel_rfl
  obtain ⟨a1, s1, hv1, -, -, -⟩ := laid_sentinel (g := 2) (ti := 179) (tp := 302) (te := 304) (ts := 9) h5 (by kernel_rfl) (by kernel_rfl) hu row_es Tryz.underlying302 Tryz.underlying304 rfl rfl Tryz.underlying9 (by kernel_rfl) (by kernel_rfl)
  obtain ⟨a2, s2, hv2, -, -, -⟩ := laid_sentinel (g := 1) (ti := 179) (tp := 302) (te := 304) (ts := 9) h6 (by kernel_rfl) (by kernel_rfl) hu row_es Tryz.underlying302 Tryz.underlying304 rfl rfl Tryz.underlying9 (by kernel_rfl) (by kernel_rfl)
  obtain ⟨m, hm⟩ := cell_of_shapedOpen_int (P := Tryz.prog) (g := 0) (t := 3) (zero := #[.int .i64 0]) hsh (of_decide_eq_true (by kernel_rfl)) (by kernel_rfl) rfl (by kernel_rfl) (by kernel_rfl) Tryz.underlying3
  refine ⟨[], rfl, rfl, ⟨ht, ⟨m, hm⟩, ⟨_, _, hv2⟩, ⟨_, _, hv1⟩⟩, rfl, ?_⟩
  have hc := Lib.TabIs.cell ht (g := 3) (by kernel_rfl) 0 (by rw [Lib.pow10Tab_length]; omega)
  have b0 := World.block_lt_of_cell? W ⟨3, 0, none⟩ hc
  intro b hb
  have : b ≤ 3 := by
    simp only [List.mem_cons, List.not_mem_nil, or_false] at hb
    rcases hb with rfl | rfl | rfl | rfl <;> decide
  exact Nat.lt_of_le_of_lt this b0
end Go.Proofs.YtgogcgkocjpgoaaGreatDoor
/- What every law's proof shares: the step from 'returns true, and nothing that was there has turned' to the row's post; how arguments read. -/
namespace Go.Proofs.YtgogcgkocjpgoaaGreatDoor
open Go.ChangeShapes Go.WideShapes Go.ChangeAt Go.RowKit

theorem trodAll_below {H : Type} {enc : TypeId × Value → H} {P : Program} (hl : laidOutB P = true) {W W' : World} (hb : Below W.heap.size W W') :
    ∀ (ts : List TypeId) (vs : List Value) (ds : List (DataW H)) (ps : List MemPlace), (∀ t ∈ ts, P.readableRec t = true ∧ t < P.types.size) →
      DataW.TrodAll enc P W 0 (fun _ => true) true ts vs ds ps → (∀ x ∈ ps, x.block < W.heap.size) → DataW.TrodAll enc P W' 0 (fun b => decide (b < W.heap.size)) true ts vs ds ps
  | [], vs, ds, ps, _, h, _ => by obtain ⟨rfl, rfl, rfl⟩ := trodAll_nil h; exact rfl
  | t :: ts, vs, ds, ps, ht, h, hlt => by
    obtain ⟨v, vs', d, ds', p, q, rfl, rfl, rfl, h1, h2⟩ := trodAll_cons h
    have ⟨a, b⟩ := ht t (by simp)
    exact ⟨p, q, Below.trod hl a b h1 hb fun x hx => hlt x (by simp [hx]), trodAll_below hl hb ts vs' ds' q (fun t h => ht t (by simp [h])) h2 fun x hx => hlt x (by simp [hx]), rfl⟩

/-- A law returned true and left all that was there aS it was: the row's post. -/
theorem law_post {H : Type} {enc : TypeId × Value → H} {P : Program} {f : Func} {s : ChangeSpec} {tb : TypeId} (hl : laidOutB P = true) (hr : ∀ t ∈ f.params.toList, P.readableRec t = true ∧ t < P.types.size)
    (hb : P.underlying tb = some .bool) (hres : f.resultTypes = #[tb]) (hv : s.vars = []) {W W' : World} {args : Array Value} {ds gs : List (DataW H)} {before : List MemPlace}
    (hs : s.fn H ds = { results := [.lit (.bool true)], args := ds }) (hW : DataW.Whole enc P f.params.toList s.vars false W args.toList ds gs before) (hB : Below W.heap.size W W') :
    s.post enc P f false true false false W args (.bool true) W' := by
  have hlt := hW.lt
  have hW0 := hW
  obtain ⟨p, q, hA, hV, rfl, _, _⟩ := hW0
  rw [hv] at hV
  obtain ⟨rfl, rfl⟩ := trodVars_none hV
  refine ⟨ds, [], p ++ [], [], p, [], hW, ?_, ?_, ?_, hB.frame _, fun h => by cases h⟩
  · rw [List.append_nil, hs, hres]
    exact trodAll_mk1 (shut_bool hb true)
  · rw [List.append_nil, hs]
    exact trodAll_below hl hB _ _ _ _ hr hA fun x hx => hlt x (by simpa using hx)
  · rw [hv, List.append_nil, hs]; exact rfl

/-- what reads aS data at type t reads by E -/
def Reads (P : Program) {α : Type} (E : Elem α) (t : TypeId) : Prop :=
  ∀ {H : Type} {enc : TypeId × Value → H} {w : World} {fuel : Nat} {cs : List Value} {x : DataW H × List MemPlace}, DataW.trod enc P w 0 (fun _ => true) true fuel t cs = some x → ∃ y F, E.rep w cs y F

section
variable {P : Program}
theorem reads_cells {α : Type} {E : Elem α} {e : TypeId} (hsz : P.cellsOf e = E.sz) (he : Reads P E e) {H : Type} {enc : TypeId × Value → H} {w : World} {n b off : Nat} :
    ∀ (els : List (DataW H × List MemPlace)) (k : Nat), (∀ i, i < els.length → (w.cells? 0 ((⟨b, off, none⟩ : Addr).add ((k + i) * P.cellsOf e)) (P.cellsOf e)).bind (DataW.trod enc P w 0 (fun _ => true) true n e) = els[i]?) →
      ∃ ys F, ys.length = els.length ∧ Cells E w b (off + k * E.sz) ys F
  | [], _, _ => ⟨[], [], rfl, rfl⟩
  | x :: r, k, h => by
    have h0 := h 0 (by simp)
    simp only [Nat.add_zero, List.getElem?_cons_zero, Option.bind_eq_some_iff] at h0
    obtain ⟨cs, hc, hx⟩ := h0
    obtain ⟨y, F1, hy⟩ := he hx
    obtain ⟨ys, F2, hl, hys⟩ := reads_cells hsz he r (k + 1) fun i hi => by
      have := h (i + 1) (by simpa using hi)
      rw [show k + 1 + i = k + (i + 1) by omega]
      simpa using this
    refine ⟨y :: ys, F1 ++ F2, by simp [hl], cs, F1, F2, rfl, hy, fun j hj => ?_, by rwa [show off + k * E.sz + E.sz = off + (k + 1) * E.sz by rw [Nat.add_mul]; omega]⟩
    obtain ⟨_, hlen, hcell⟩ := World.cells?_some hc
    rw [← hcell j (by rw [hsz]; exact hj)]
    congr 1
    simp only [Addr.add, hsz]
    split <;> split <;> simp_all <;> omega
theorem reads_slice {α : Type} {E : Elem α} {t e : TypeId} (ht : P.underlying t = some (.slice e)) (hsz : P.cellsOf e = E.sz) (hz : 0 < E.sz) (he : Reads P E e) : Reads P (ESl E hz) t := fun h => by
  rcases DataW.trod_slice ht h with ⟨rfl, _⟩ | ⟨a, len, cap, elems, rest, n, rfl, rfl, _, _, hlc, hcm, hlen, hel, _, _⟩
  · exact ⟨[], [], _, rfl, none, 0, rfl, ⟨by simp, by simp⟩, .inl ⟨rfl, rfl, fun _ => rfl⟩⟩
  · by_cases h0 : len = 0
    · subst h0
      exact ⟨[], [], _, rfl, some a, cap, rfl, ⟨by simp, by omega⟩, .inl ⟨rfl, rfl, fun e => by cases e⟩⟩
    · have hs : a = ⟨a.block, a.off, none⟩ := by
        have := hel 0 (by omega)
        rw [List.getElem?_eq_getElem (by omega)] at this
        simp only [Option.bind_eq_some_iff] at this
        obtain ⟨cs, hc, _⟩ := this
        obtain ⟨_, hl2, hcell⟩ := World.cells?_some hc
        have h1 := hcell 0 (by omega)
        rw [List.getElem?_eq_getElem (by omega)] at h1
        simp [Addr.add, World.cell?] at h1
        split at h1 <;> simp_all
        cases a; simp_all
      obtain ⟨ys, F, hyl, hys⟩ := reads_cells hsz he elems 0 (n := n) (b := a.block) (off := a.off) (enc := _) (w := _) (by
        rw [← hs]; intro i hi; rw [Nat.zero_add]; exact hel i (by omega))
      refine ⟨ys, a.block :: F, _, rfl, some a, cap, by rw [hyl, hlen], ⟨by omega, by omega⟩, .inr ⟨a.block, a.off, F, by rw [← hs], ?_, rfl, by simpa using hys⟩⟩
      intro e; rw [e] at hyl; simp at hyl; omega
end

/-- the fields of a struct, one behind the other, each by its own reading -/
inductive FieldsOk (P : Program) : List Field → Nat → (α : Type) → Elem α → Prop
  | nil (off : Nat) : FieldsOk P [] off Unit EUnit
  | cons {f : Field} {r : List Field} {off : Nat} {α β : Type} {A : Elem α} {B : Elem β} (ho : f.offset = off) (hc : P.cellsOf f.type = A.sz) (hA : Reads P A f.type) (h : FieldsOk P r (off + A.sz) β B) : FieldsOk P (f :: r) off (α × β) (EProd A B)
end Go.Proofs.YtgogcgkocjpgoaaGreatDoor
/- The law FnDeliveries: what is counted of the program, each count by itself. -/
namespace Go.Proofs.YtgogcgkocjpgoaaGreatDoor
open Go.RowKit Go.ChangeShapes Go.WideShapes Go.ChangeAt
set_option maxRecDepth 100000 in
set_option maxHeartbeats 0 in
theorem jf_FnDeliveries : joinedFacts Tryz.prog 9 Tryz.f9 Rows.fnDeliveriesSpec Rows.fnDeliveriesRow = true := by
  unfold joinedFacts
  simp only [Bool.and_eq_true]
  repeat' refine And.intro ?_ ?_
  all_goals (as_aux_lemma => kernel_rfl)
end Go.Proofs.YtgogcgkocjpgoaaGreatDoor
