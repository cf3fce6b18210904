/- Part 4 of the proof: 15 texts, one behind the other. -/
import Derived.ProofKit
import Derived.OpenShut
import Derived.Test.YtgogcgkocjpgoaaGreatDoorCards
import Derived.Test.YtgogcgkocjpgoaaGreatDoorTie
import Derived.LaidMore
import Derived.Lay
import Derived.SevenTiedAt
import Derived.Stop.Joined
import Derived.Test.YtgogcgkocjpgoaaGreatDoorM3
/- Hearing: news of the reference. -/
namespace Go.Proofs.YtgogcgkocjpgoaaGreatDoor
open Go.RowKit
theorem leastH_f (a b : Int) : Fn Tryz.prog 233 [.int .i64 a, .int .i64 b] [] [] (fun (_ : Unit) => True) (fun _ => .int .i64 (min a b)) (fun _ => []) := by
  refine enter Tryz.func233 rfl Tryz.ntmps233 fun w0 => ?_
  refine go ?_; intros
  refine c_if rfl (fun h => ?_) (fun h => ?_)
  · refine go ?_; intros
    rw [show min a b = a by omega]
    refine ret () trivial rfl
  · refine go ?_; intros
    rw [show min a b = b by omega]
    refine ret () trivial rfl
set_option maxRecDepth 100000 in
set_option maxHeartbeats 1000000 in
theorem l13News_f (r : Receiver) (p : Packet) (d : Int) (v : Value) (F : List Nat) (hg : GoodR r) (hp : goodPk p = true) (d0 : 1 ≤ d) (d1 : d ≤ 8) :
    Fn Tryz.prog 208 [v, .agg #[.int .i64 p.kind, .int .i64 p.number, .int .i64 p.trail, .int .i64 p.lead, .string p.data], .int .i64 d] [.isv EReceiver v r F] [] (fun (_ : NwS) => True) (fun s => .tuple #[.agg #[.bool ((newsR r p d)).started, .int .i64 ((newsR r p d)).clock, .int .i64 ((newsR r p d)).window.next, .slice s.a1 ((newsR r p d)).window.slots.length s.c1, .slice s.a2 ((newsR r p d)).requests.length s.c2], .slice s.ae (newsE r p).length s.ce])
      (fun s => [.isv EReceiver (.agg #[.bool ((newsR r p d)).started, .int .i64 ((newsR r p d)).clock, .int .i64 ((newsR r p d)).window.next, .slice s.a1 ((newsR r p d)).window.slots.length s.c1, .slice s.a2 ((newsR r p d)).requests.length s.c2]) (newsR r p d) s.F1, .ow EStr 9 (.slice s.ae (newsE r p).length s.ce) (newsE r p) s.Fe]) := by
  have k0 := hg.k0
  have k1 := hg.k1
  obtain ⟨-, q1, q2, -⟩ := areQ_iff.1 hg.q
  have hser : ∀ q ∈ r.requests, isSer q.number = true := fun q hq => (req_at hg hq).1
  obtain ⟨hsg, -⟩ := start_good hg hp
  obtain ⟨htg, -, htl⟩ := taken_good hg hp
  obtain ⟨hng, hnq, -, hnl⟩ := news_good hg hp d0 d1 (by omega)
  obtain ⟨s0_, s1_⟩ := next_ser hsg
  obtain ⟨w0_, w1_⟩ := next_ser htg
  obtain ⟨v0_, v1_⟩ := next_ser hng
  obtain ⟨hw8, hit⟩ := good_items hsg
  obtain ⟨hu8, hiu⟩ := good_items htg
  obtain ⟨n0, n1⟩ := goodPk_num hp
  have hrw := (good_items hg.w).1
  have hp2 := hp
  unfold goodPk at hp2
  simp only [Bool.and_eq_true] at hp2
  obtain ⟨t0_, t1_⟩ := isSer_iff.1 hp2.1.1.1.1.2
  obtain ⟨l0_, l1_⟩ := isSer_iff.1 hp2.1.1.1.2
  have hps : p.data.size ≤ 8 := itm_size hp2.1.1.2
  refine enter Tryz.func208 rfl Tryz.ntmps208 fun w0 => ?_
  refine openReceiver (v := v) (x := r) (F := F) ?_
  rintro a1 c1 F1 a2 c2 F2 rfl - -
  refine go ?_; intros
  refine cf (l13Own_f r _ F (by omega) (by omega)) fun u _ => ?_
  refine t_app ?_
  refine openOReceiver ?_
  rintro a5 c5 F5 a6 c6 F6 e6 - -
  rw [e6]
  refine t_read (E := ESlot) fun G5 => ?_
  refine t_read (E := ERequest) fun G6 => ?_
  refine go ?_; intros
  rename_i g3 g4 g6 g8 g9
  refine t_emp EStr ?_
  refine c_joinS [2, 4, 6, 8, 9] [0, 2, 4, 5] (fun _ : List Nat => []) (fun s => [.row g8 49 0 [] [.bool true, .int .i64 r.clock, .int .i64 (startW r p).next, .slice a5 (startW r p).slots.length c5, .slice a6 r.requests.length c6] [], .isv EReceiveWindow (.agg #[.int .i64 (startW r p).next, .slice a5 (startW r p).slots.length c5]) (startW r p) s]) (fun _ => True) ?_ fun G7 _ => ?_
  · cases hs : r.started
    · by_cases hk : p.kind = 5
      · have e : startW r p = ⟨p.lead, r.window.slots⟩ := by unfold startW; rw [hs, if_pos hk]; rfl
        rw [e]
        refine go ?_; intros
        refine c_if rfl (fun _ => ?_) (fun h => absurd hk h)
        refine closeReceiveWindow (a1 := a5) ⟨p.lead, r.window.slots⟩ ?_
        refine go ?_; intros
        refine n_join G5 trivial
      · have e : startW r p = ⟨p.number, r.window.slots⟩ := by unfold startW; rw [hs, if_neg hk]; rfl
        rw [e]
        refine go ?_; intros
        refine c_if rfl (fun h => absurd h hk) (fun _ => ?_)
        refine closeReceiveWindow (a1 := a5) ⟨p.number, r.window.slots⟩ ?_
        refine go ?_; intros
        refine n_join G5 trivial
    · have e : startW r p = r.window := by unfold startW; rw [hs]; rfl
      rw [e]
      refine closeReceiveWindow (a1 := a5) r.window ?_
      refine go ?_; intros
      refine n_join G5 trivial
  repeat (first | apply c_skip | apply n_cd | apply c_seq)
  refine c_join2 [2, 4, 6, 8] [3, 4, 5] (fun s : SkS => [(9, .slice s.ae (takenE r p).length s.ce)]) (fun s => [.row g8 49 0 [] [.bool true, .int .i64 r.clock, .int .i64 (takenW r p).next, .slice s.a (takenW r p).slots.length s.c, .slice a6 r.requests.length c6] [], .isv EReceiveWindow (.agg #[.int .i64 (takenW r p).next, .slice s.a (takenW r p).slots.length s.c]) (takenW r p) s.F, .ow EStr 9 (.slice s.ae (takenE r p).length s.ce) (takenE r p) s.Fe]) (fun _ => True) ?_ fun s _ => ?_
  · by_cases hk : p.kind = 5
    · have e1 : takenW r p = startW r p := by unfold takenW; rw [if_pos hk]
      have e2 : takenE r p = [] := by unfold takenE; rw [if_pos hk]
      rw [e1, e2]
      refine go ?_; intros
      rw [decide_eq_false (show ¬ ¬ p.kind = 5 from fun h => h hk)]
      refine go ?_; intros
      refine n_join (⟨a5, c5, G7, _, _, _⟩ : SkS) trivial
    · have e1 : takenW r p = takeW (startW r p) p.number p.data := by unfold takenW; rw [if_neg hk]
      have e2 : takenE r p = takeE (startW r p) p.number p.data := by unfold takenE; rw [if_neg hk]
      rw [e1, e2]
      refine go ?_; intros
      rw [decide_eq_true (show ¬ p.kind = 5 from hk)]
      refine go ?_; intros
      refine cf (l10Reach_f (startW r p) p.number _ G7 s0_ s1_ n0 n1 hw8) fun _ _ => ?_
      refine t_app ?_
      cases hok : takeOk (startW r p) p.number
      · have e : (takeNo (startW r p) p.number || !decide (gp (startW r p).next p.number < 8)) = true := by unfold takeOk at hok; simp only [Bool.or_eq_false_iff] at hok; rw [hok.1, hok.2]; rfl
        have e3 : takeW (startW r p) p.number p.data = startW r p := by unfold takeW; rw [if_pos e]
        have e4 : takeE (startW r p) p.number p.data = [] := by unfold takeE; rw [if_pos e]
        rw [e3, e4]
        refine go ?_; intros
        refine n_join (⟨a5, c5, G7, _, _, _⟩ : SkS) trivial
      · refine go ?_; intros
        refine cf (l10Take_f (startW r p) p.number p.data _ G7 s0_ s1_ n0 n1 hw8 hit hps hok) fun y hy => ?_
        refine t_app ?_
        obtain ⟨hy1, hy2⟩ := hy
        have hyl : y.es.length ≤ 8 := by rw [hy2, ← e2]; exact htl
        refine t_read (E := EStr) (xs := y.es) fun G8 => ?_
        refine go ?_; intros
        apply wO
        refine aps (ys := y.es) one_EStr scal_EStr fun a9 c9 F9 => ?_
        rw [List.nil_append]
        rw [← hy1, ← hy2]
        refine go ?_; intros
        refine n_join (⟨y.a, y.c, y.F, _, _, _⟩ : SkS) trivial
  obtain ⟨a3, c3, F3, ae, cE, Fe⟩ := s
  dsimp only
  refine go ?_; intros
  refine ce (fun w s => l2Before_c _ _ _ (by omega) (by omega)) ?_
  refine go ?_; intros
  refine c_joinS [2, 4, 6, 8] [3, 4, 5] (fun s : SkS => [(9, .slice s.ae (newsE r p).length s.ce)]) (fun s => [.row g8 49 0 [] [.bool true, .int .i64 r.clock, .int .i64 (newsW r p).next, .slice s.a (newsW r p).slots.length s.c, .slice a6 r.requests.length c6] [], .isv EReceiveWindow (.agg #[.int .i64 (newsW r p).next, .slice s.a (newsW r p).slots.length s.c]) (newsW r p) s.F, .ow EStr 9 (.slice s.ae (newsE r p).length s.ce) (newsE r p) s.Fe]) (fun _ => True) ?_ fun s _ => ?_
  · cases hb : bef (takenW r p).next p.trail
    · have e1 : newsW r p = takenW r p := by show skipW _ _ = _; unfold skipW; rw [hb]; rfl
      have e2 : newsE r p = takenE r p := by unfold newsE skipE; rw [hb]; simp
      rw [e1, e2]
      refine go ?_; intros
      refine n_join (⟨a3, c3, F3, _, _, _⟩ : SkS) trivial
    refine go ?_; intros
    refine ce (fun w s => l2Gap_c _ _ _ (by omega) (by omega)) ?_
    refine go ?_; intros
    refine c_if rfl (fun h4 => ?_) (fun h4 => ?_)
    · have e1 : newsW r p = movedW (takenW r p) p.trail := by show skipW _ _ = _; unfold skipW; rw [hb, if_pos rfl, if_pos h4]
      have e2 : newsE r p = takenE r p ++ movedE (takenW r p) p.trail := by unfold newsE skipE; rw [hb, if_pos rfl, if_pos h4]
      have hl2 := hnl
      rw [e2, List.length_append] at hl2
      refine go ?_; intros
      refine cf (l10GiveUp_f (takenW r p) p.trail _ F3 w0_ w1_ t0_ t1_ hu8 hiu) fun y hy => ?_
      refine t_app ?_
      obtain ⟨hy1, hy2⟩ := hy
      have hyl : y.es.length ≤ 24 := by rw [hy2]; show (movedE (takenW r p) p.trail).length ≤ 24; omega
      refine t_read (E := EStr) (xs := y.es) fun G8 => ?_
      refine go ?_; intros
      apply wO
      refine aps (ys := y.es) one_EStr scal_EStr fun a9 c9 F9 => ?_
      rw [e1, e2, show movedW (takenW r p) p.trail = y.y from hy1.symm, show movedE (takenW r p) p.trail = y.es from hy2.symm]
      refine go ?_; intros
      refine n_join (⟨y.a, y.c, y.F, _, _, _⟩ : SkS) trivial
    · have e1 : newsW r p = ⟨p.trail, []⟩ := by show skipW _ _ = _; unfold skipW; rw [hb, if_pos rfl, if_neg h4]
      have e2 : newsE r p = takenE r p ++ [⟨#[33]⟩] := by unfold newsE skipE; rw [hb, if_pos rfl, if_neg h4]
      rw [e1, e2]
      refine go ?_; intros
      apply wO
      refine ap1 (rep_str ⟨#[33]⟩ (by decide)) one_EStr fun a9 c9 F9 => ?_
      refine t_nilsl ESlot (by decide) ?_
      refine closeReceiveWindow (a1 := none) ⟨p.trail, []⟩ ?_
      refine go ?_; intros
      refine n_join (⟨none, 0, _, _, _, _⟩ : SkS) trivial
  obtain ⟨a7, c7, F7, ae, cE, Fe⟩ := s
  dsimp only
  refine go ?_; intros
  refine cf (l13Needed_f r.requests (newsW r p) a6 c6 G6 _ F7 (by omega) hser v0_ v1_) fun z _ => ?_
  refine t_app ?_
  refine go ?_; intros
  refine ce (fun w s => l2Before_c _ _ _ (by omega) (by omega)) ?_
  have hNq8 := (areQ_iff.1 hnq).2.1
  cases hb : bef (newsW r p).next p.lead
  · have e1 : newsR r p d = ⟨true, r.clock, newsW r p, needed r.requests (newsW r p)⟩ := by unfold newsR awaitQ; rw [hb]; rfl
    rw [e1]
    refine go ?_; intros
    refine t_read (E := ERequest) (xs := needed r.requests (newsW r p)) fun F8 => ?_
    refine openReceiveWindow (x := newsW r p) ?_
    rintro b1 dd1 G1 e5 m1
    simp only [Value.agg.injEq, Array.mk.injEq, List.cons.injEq, Value.slice.injEq, true_and, and_true] at e5
    obtain ⟨rfl, rfl⟩ := e5
    refine closeReceiver ⟨true, r.clock, newsW r p, needed r.requests (newsW r p)⟩ ?_
    refine ret ⟨_, _, _, _, _, [], _, _, _⟩ trivial rfl
  obtain ⟨k, hk⟩ : ∃ k, k = awaitN (newsW r p) p.lead := ⟨_, rfl⟩
  have hk8 : k ≤ 8 := by rw [hk]; exact awaitN_le _ _
  have hgb := gp_bd (newsW r p).next p.lead
  have hkm : ((k : Nat) : Int) = min (gp (newsW r p).next p.lead) 8 := by rw [hk]; unfold awaitN; omega
  obtain ⟨N, hN⟩ : ∃ N, N = missL (newsW r p) k := ⟨_, rfl⟩
  have hNl : N.length ≤ 8 := by have := missL_len (newsW r p) k; rw [hN]; omega
  have e1 : newsR r p d = ⟨true, r.clock, newsW r p, addAll (newsW r p).next (r.clock + d) (needed r.requests (newsW r p)) N⟩ := by unfold newsR awaitQ; rw [hb, if_pos rfl, hN, hk]
  rw [e1]
  have hav := aft_bd (newsW r p).next (min (gp (newsW r p).next p.lead) 8)
  have hgp : gp (newsW r p).next (aft (newsW r p).next (min (gp (newsW r p).next p.lead) 8)) = (k : Nat) := by rw [← hkm]; unfold gp aft; omega
  refine go ?_; intros
  refine ce (fun w s => l2Gap_c _ _ _ (by omega) (by omega)) ?_
  refine go ?_; intros
  refine cf (leastH_f _ _) fun _ _ => ?_
  refine t_app ?_
  refine go ?_; intros
  refine ce (fun w s => l2After_c _ _ _ (by omega) (by omega)) ?_
  refine go ?_; intros
  refine cf (l10Missing_f (newsW r p) _ k _ F7 v0_ v1_ (by omega) (by omega) hgp) fun m _ => ?_
  refine t_app ?_
  rw [← hN]
  refine t_read (E := EInt) (xs := N) fun GN => ?_
  refine t_read (E := ERequest) (xs := needed r.requests (newsW r p)) fun F8 => ?_
  refine go ?_; intros
  refine c_loopS [2, 6, 8, 9, 14, 16] (fun s : AwS => [(17, .int .i64 (s.i : Nat))]) (fun s => [.row g8 49 0 [] [.bool true, .int .i64 r.clock, .int .i64 (newsW r p).next, .slice a7 (newsW r p).slots.length c7, .slice s.a (addAll (newsW r p).next (r.clock + d) (needed r.requests (newsW r p)) (N.take s.i)).length s.c] [], .sl ERequest (.slice s.a (addAll (newsW r p).next (r.clock + d) (needed r.requests (newsW r p)) (N.take s.i)).length s.c) (addAll (newsW r p).next (r.clock + d) (needed r.requests (newsW r p)) (N.take s.i)) s.F]) (fun s => s.i ≤ N.length) (fun s => N.length - s.i) ⟨0, z.1, z.2.1, F8⟩ (Nat.zero_le _) fun s hs => ?_
  obtain ⟨i, a3, c3, F3⟩ := s
  dsimp only at hs ⊢
  have hall := addAll_good (w := newsW r p) (u := r.clock + d) (by omega) (by omega) (N.take i) (needed r.requests (newsW r p)) (fun n hn => by
    have := missL_at (w := newsW r p) (n := n) hk8 (by rw [← hN]; exact List.mem_of_mem_take hn)
    exact ⟨this.1, this.2.2⟩) hnq needed_free
  have hLs : ∀ h : i < N.length, addAll (newsW r p).next (r.clock + d) (needed r.requests (newsW r p)) (N.take (i + 1)) = addQ (newsW r p).next (addAll (newsW r p).next (r.clock + d) (needed r.requests (newsW r p)) (N.take i)) N[i] (r.clock + d) := fun h => addAll_succ h
  generalize hLd : addAll (newsW r p).next (r.clock + d) (needed r.requests (newsW r p)) (N.take i) = L at *
  have hLq := hall.1
  have hL8 := (areQ_iff.1 hLq).2.1
  refine go ?_; intros
  refine c_if rfl (fun h4 => ?_) (fun h4 => ?_)
  · have hi : i < N.length := by omega
    have hni := missL_at (w := newsW r p) (n := N[i]) hk8 (by rw [← hN]; exact List.getElem_mem hi)
    refine at_int (xs := N) i ?_
    rintro hi2 b o2 e
    rw [e]
    refine go ?_; intros
    refine d_start [0, 1] [12] ?_
    refine dt 0 ?_
    refine dt 1 ?_
    refine dt 2 ?_
    refine dt 3 ?_
    refine dt 4 ?_
    refine dt 5 ?_
    refine dt 6 ?_
    refine dt 7 ?_
    refine dt 8 ?_
    refine dt 9 ?_
    refine dO 10 (by kernel_rfl) (by rw [List.getElem?_toArray]; rfl) ?_
    apply o_call; rfl; kernel_rfl; exact evsE
    refine cf (l12Add_f L (newsW r p).next N[i] r.clock d a3 c3 F3 hLq hni.1 k0 k1 d0 d1) fun u _ => ?_
    refine t_app ?_
    rw [← hLs hi]
    refine dk ?_
    refine dt 11 ?_
    refine dO 12 (by kernel_rfl) (by rw [List.getElem?_toArray]; rfl) ?_
    apply o_st; rfl; rfl; rfl; (first | exact AggC.s | exact OneC.s); rfl; exact rplE; exact putE; rfl
    refine dkx ?_
    refine dd ?_
    refine t_read (E := ERequest) fun F9 => ?_
    refine go ?_; intros
    refine n_lp (⟨i + 1, _, _, _⟩ : AwS) (by show i + 1 ≤ N.length; omega) (by show N.length - (i + 1) < N.length - i; omega)
  have hi : i = N.length := by omega
  subst hi
  rw [List.take_length] at hLd
  rw [hLd]
  refine go ?_; intros
  refine openReceiveWindow (x := newsW r p) ?_
  rintro b1 dd1 G1 e5 m1
  simp only [Value.agg.injEq, Array.mk.injEq, List.cons.injEq, Value.slice.injEq, true_and, and_true] at e5
  obtain ⟨rfl, rfl⟩ := e5
  refine closeReceiver ⟨true, r.clock, newsW r p, L⟩ ?_
  refine ret ⟨_, _, _, _, _, [], _, _, _⟩ trivial rfl
end Go.Proofs.YtgogcgkocjpgoaaGreatDoor
/- Hearing: a packet, the reference. -/
namespace Go.Proofs.YtgogcgkocjpgoaaGreatDoor
open Go.RowKit
set_option maxRecDepth 100000 in
set_option maxHeartbeats 800000 in
theorem l13Hear_f (r : Receiver) (p : Packet) (d : Int) (v : Value) (F : List Nat) (hg : GoodR r) (hp : goodPk p = true) (d0 : 1 ≤ d) (d1 : d ≤ 8) :
    Fn Tryz.prog 119 [v, .agg #[.int .i64 p.kind, .int .i64 p.number, .int .i64 p.trail, .int .i64 p.lead, .string p.data], .int .i64 d] [.isv EReceiver v r F] [] (fun (_ : NwS) => True) (fun s => .tuple #[.agg #[.bool ((hearR r p d)).started, .int .i64 ((hearR r p d)).clock, .int .i64 ((hearR r p d)).window.next, .slice s.a1 ((hearR r p d)).window.slots.length s.c1, .slice s.a2 ((hearR r p d)).requests.length s.c2], .slice s.ae (hearE r p).length s.ce])
      (fun s => [.isv EReceiver (.agg #[.bool ((hearR r p d)).started, .int .i64 ((hearR r p d)).clock, .int .i64 ((hearR r p d)).window.next, .slice s.a1 ((hearR r p d)).window.slots.length s.c1, .slice s.a2 ((hearR r p d)).requests.length s.c2]) (hearR r p d) s.F1, .ow EStr 9 (.slice s.ae (hearE r p).length s.ce) (hearE r p) s.Fe]) := by
  have k0 := hg.k0
  have k1 := hg.k1
  have hrw := (good_items hg.w).1
  obtain ⟨-, q1, q2, -⟩ := areQ_iff.1 hg.q
  obtain ⟨n0, n1⟩ := goodPk_num hp
  have hkd : 1 ≤ p.kind ∧ p.kind ≤ 5 := by unfold goodPk btw at hp; simp only [Bool.and_eq_true, decide_eq_true_eq] at hp; exact hp.1.1.1.1.1.1
  refine enter Tryz.func119 rfl Tryz.ntmps119 fun w0 => ?_
  refine openReceiver (v := v) (x := r) (F := F) ?_
  rintro a1 c1 F1 a2 c2 F2 rfl - -
  refine go ?_; intros
  by_cases hk4 : p.kind = 4
  · have hn : isNews p = false := by unfold isNews; simp [hk4]
    have eE : hearE r p = [] := by unfold hearE; rw [hn]; rfl
    rw [decide_eq_true hk4]
    cases hs : r.started
    · have eR : hearR r p d = r := by unfold hearR; rw [hn, hs]; simp
      refine go ?_; intros
      rw [decide_eq_true hk4]
      refine go ?_; intros
      refine cf (l13Own_f r _ F (by omega) (by omega)) fun u _ => ?_
      refine t_app ?_
      refine openOReceiver ?_
      rintro a5 c5 F5 a6 c6 F6 e6 - -
      rw [e6]
      refine t_read (E := ESlot) fun G5 => ?_
      refine t_read (E := ERequest) fun G6 => ?_
      refine go ?_; intros
      refine t_emp EStr ?_
      refine closeReceiver (a1 := a5) r ?_
      rw [eR, eE]
      rw [hs]
      refine ret ⟨_, _, _, _, _, [], _, _, _⟩ trivial rfl
    · have eR : hearR r p d = confR r p := by unfold hearR; rw [hn, hs, decide_eq_true hk4]; rfl
      refine go ?_; intros
      refine cf (l13Own_f r _ F (by omega) (by omega)) fun u _ => ?_
      refine t_app ?_
      refine openOReceiver ?_
      rintro a5 c5 F5 a6 c6 F6 e6 - -
      rw [e6]
      refine t_read (E := ESlot) fun G5 => ?_
      refine go ?_; intros
      refine cf (l12Confirm_f r.requests r.window.next p.number r.clock a2 c2 F2 hg.q (isSer_iff.2 ⟨n0, n1⟩) k0 k1) fun y _ => ?_
      refine t_app ?_
      refine t_read (E := ERequest) (xs := confQ r.window.next r.requests p.number (r.clock + 4)) fun G6 => ?_
      refine go ?_; intros
      refine t_emp EStr ?_
      refine closeReceiver (a1 := a5) (confR r p) ?_
      rw [eR, eE]
      refine ret ⟨_, _, _, _, _, [], _, _, _⟩ trivial rfl
  rw [decide_eq_false hk4]
  refine go ?_; intros
  rw [decide_eq_false hk4]
  refine go ?_; intros
  by_cases hk3 : p.kind = 3
  · have hn : isNews p = false := by unfold isNews; simp [hk3]
    have eE : hearE r p = [] := by unfold hearE; rw [hn]; rfl
    have eR : hearR r p d = r := by unfold hearR; rw [hn, decide_eq_false hk4]; rfl
    rw [decide_eq_true hk3]
    refine go ?_; intros
    refine cf (l13Own_f r _ F (by omega) (by omega)) fun u _ => ?_
    refine t_app ?_
    refine openOReceiver ?_
    rintro a5 c5 F5 a6 c6 F6 e6 - -
    rw [e6]
    refine t_read (E := ESlot) fun G5 => ?_
    refine t_read (E := ERequest) fun G6 => ?_
    refine go ?_; intros
    refine t_emp EStr ?_
    refine closeReceiver (a1 := a5) r ?_
    rw [eR, eE]
    refine ret ⟨_, _, _, _, _, [], _, _, _⟩ trivial rfl
  have hn : isNews p = true := by
    unfold isNews
    have : p.kind = 1 ∨ p.kind = 2 ∨ p.kind = 5 := by omega
    rcases this with h | h | h <;> simp [h]
  have eE : hearE r p = newsE r p := by unfold hearE; rw [hn]; rfl
  have eR : hearR r p d = newsR r p d := by unfold hearR; rw [hn]; rfl
  rw [decide_eq_false hk3, eE, eR]
  refine go ?_; intros
  refine cf (l13News_f r p d _ F hg hp d0 d1) fun s _ => ?_
  refine t_app ?_
  refine go ?_; intros
  refine ret ⟨s.a1, s.c1, s.F1, s.a2, s.c2, [], s.ae, s.ce, _⟩ trivial rfl
end Go.Proofs.YtgogcgkocjpgoaaGreatDoor
/- HearPacket, on both sides. -/
namespace Go.Proofs.YtgogcgkocjpgoaaGreatDoor
open Go.RowKit
end Go.Proofs.YtgogcgkocjpgoaaGreatDoor
/- HearAll of the reference. -/
namespace Go.Proofs.YtgogcgkocjpgoaaGreatDoor
open Go.RowKit
set_option maxRecDepth 100000 in
set_option maxHeartbeats 1000000 in
theorem specHearAll_f (x : Receiver) (l : List Packet) (d : Int) (v : Value) (F : List Nat) (al : Option Addr) (cl : Nat) (Fl : List Nat) :
    Fn Tryz.prog 42 [v, .slice al l.length cl, .int .i64 d] [.isv EReceiver v x F, .sl EPacket (.slice al l.length cl) l Fl] [] (fun (_ : NwS) => True) (fun s => .tuple #[.agg #[.bool ((resHearAll x l d).1).started, .int .i64 ((resHearAll x l d).1).clock, .int .i64 ((resHearAll x l d).1).window.next, .slice s.a1 ((resHearAll x l d).1).window.slots.length s.c1, .slice s.a2 ((resHearAll x l d).1).requests.length s.c2], .slice s.ae (resHearAll x l d).2.1.length s.ce, .bool (resHearAll x l d).2.2])
      (fun s => [.isv EReceiver (.agg #[.bool ((resHearAll x l d).1).started, .int .i64 ((resHearAll x l d).1).clock, .int .i64 ((resHearAll x l d).1).window.next, .slice s.a1 ((resHearAll x l d).1).window.slots.length s.c1, .slice s.a2 ((resHearAll x l d).1).requests.length s.c2]) (resHearAll x l d).1 s.F1, .ow EStr 9 (.slice s.ae (resHearAll x l d).2.1.length s.ce) (resHearAll x l d).2.1 s.Fe]) := by
  refine enter Tryz.func42 rfl Tryz.ntmps42 fun w0 => ?_
  refine t_each (E := EPacket) (xs := l) (fun p => p.data.size ≤ maxLen) (fun w cs x F h => h.2.1) fun hsz => ?_
  refine t_nilsl ESlot (by decide) ?_
  refine t_nilsl ERequest (by decide) ?_
  refine closeReceiver zRec ?_
  refine openReceiver (v := v) (x := x) (F := F) ?_
  rintro a1 c1 F1 a2 c2 F2 rfl l1 l2
  refine t_sl (E := EPacket) (xs := l) ?_
  rintro _ _ e8 cl0 cl1
  cases e8
  refine go ?_; intros
  refine cf (l13Good_f x _ F) fun _ _ => ?_
  refine t_app ?_
  cases g1 : goodRec x
  · skip
    refine go ?_; intros
    refine t_emp EStr ?_
    rw [resHA_no (by unfold okHearAll; simp [g1])]
    refine ret ⟨_, _, _, _, _, [], _, _, _⟩ trivial rfl
  have g5 := goodR_iff.1 g1
  have hw8 := (good_items g5.w).1
  have hq8 := (areQ_iff.1 g5.q).2.1
  refine go ?_; intros
  refine cf (l12Delay_f d) fun _ _ => ?_
  refine t_app ?_
  cases g2 : isDel d
  · skip
    refine go ?_; intros
    refine t_emp EStr ?_
    rw [resHA_no (by unfold okHearAll; simp [g1, g2])]
    refine ret ⟨_, _, _, _, _, [], _, _, _⟩ trivial rfl
  obtain ⟨hd0, hd1⟩ : 1 ≤ d ∧ d ≤ 8 := by unfold isDel btw at g2; simp only [Bool.and_eq_true, decide_eq_true_eq] at g2; omega
  refine go ?_; intros
  by_cases g3 : (l.length : Int) ≤ 10
  rotate_left
  · rw [decide_eq_true (show (10 : Int) < l.length by omega)]
    refine go ?_; intros
    refine t_emp EStr ?_
    rw [resHA_no (by unfold okHearAll; simp [g1, g2, g3])]
    refine ret ⟨_, _, _, _, _, [], _, _, _⟩ trivial rfl
  rw [decide_eq_false (show ¬ (10 : Int) < l.length by omega)]
  refine go ?_; intros
  refine cf (l13Own_f x _ F (by omega) (by omega)) fun u _ => ?_
  refine t_app ?_
  refine openOReceiver ?_
  rintro a5 c5 F5 a6 c6 F6 e6 - -
  rw [e6]
  refine t_read (E := ESlot) fun G5 => ?_
  refine t_read (E := ERequest) fun G6 => ?_
  refine closeReceiver (a1 := a5) x ?_
  generalize hFX : G5 ++ G6 = FX
  refine go ?_; intros
  rename_i g9 g10
  refine t_emp EStr ?_
  refine c_loopS [1, 2, 6, 7, 8, 9] (fun s : HaS => [(11, .int .i64 (s.k : Nat)), (10, .slice s.ae (hearsE d x (l.take s.k)).length s.ce)]) (fun s => [.row g9 49 0 [] [.bool (hearsR d x (l.take s.k)).started, .int .i64 (hearsR d x (l.take s.k)).clock, .int .i64 (hearsR d x (l.take s.k)).window.next, .slice s.a1 (hearsR d x (l.take s.k)).window.slots.length s.c1, .slice s.a2 (hearsR d x (l.take s.k)).requests.length s.c2] [], .isv EReceiver (.agg #[.bool ((hearsR d x (l.take s.k))).started, .int .i64 ((hearsR d x (l.take s.k))).clock, .int .i64 ((hearsR d x (l.take s.k))).window.next, .slice s.a1 ((hearsR d x (l.take s.k))).window.slots.length s.c1, .slice s.a2 ((hearsR d x (l.take s.k))).requests.length s.c2]) (hearsR d x (l.take s.k)) s.F1, .ow EStr 9 (.slice s.ae (hearsE d x (l.take s.k)).length s.ce) (hearsE d x (l.take s.k)) s.Fe]) (fun s => s.k ≤ l.length ∧ ∀ p ∈ l.take s.k, goodPk p = true) (fun s => l.length - s.k) ⟨0, a5, c5, FX, a6, c6, [], _, _, _⟩ ⟨Nat.zero_le _, fun p hp => by simp at hp⟩ fun s hs => ?_
  obtain ⟨k, a7, c7, F7, a8, c8, F8, ae, cE, Fe⟩ := s
  dsimp only at hs ⊢
  obtain ⟨hs, hgd⟩ := hs
  obtain ⟨hG, hE⟩ := hears_good hd0 hd1 (l.take k) x g5 hgd
  have hE2 : (hearsE d x (l.take k)).length ≤ 240 := by have : (l.take k).length ≤ 10 := by rw [List.length_take]; omega
                                                        omega
  refine go ?_; intros
  refine c_if rfl (fun h4 => ?_) (fun h4 => ?_)
  · have hi : k < l.length := by omega
    refine atPacket (xs := l) k ?_
    rintro hi2 b o e sz
    rw [e]
    refine go ?_; intros
    refine cf (l4Good_f l[k] (hsz _ (List.getElem_mem hi))) fun _ _ => ?_
    refine t_app ?_
    cases g4 : goodPk l[k]
    · have g4' : l.all goodPk = false := List.all_eq_false.2 ⟨l[k], List.getElem_mem hi, by simp [g4]⟩
      refine t_nilsl ESlot (by decide) ?_
      refine t_nilsl ERequest (by decide) ?_
      refine closeReceiver zRec ?_
      refine go ?_; intros
      refine t_emp EStr ?_
      rw [resHA_no (by unfold okHearAll; simp [g1, g2, g3, g4'])]
      refine ret ⟨_, _, _, _, _, [], _, _, _⟩ trivial rfl
    have hh := hear_good hG g4 hd0 hd1
    have hEl := hh.2
    have eR := hearsR_succ (d := d) (r := x) hi
    have eE := hearsE_succ (d := d) (r := x) hi
    have hgood : ∀ p ∈ l.take (k + 1), goodPk p = true := fun p hp => by
      rw [List.take_add_one, List.getElem?_eq_getElem hi] at hp
      rcases List.mem_append.1 hp with h | h
      · exact hgd p h
      · simp at h; rw [h]; exact g4
    refine go ?_; intros
    refine d_start [0, 1] [] ?_
    refine dt 0 ?_
    refine dt 1 ?_
    refine dt 2 ?_
    refine dt 3 ?_
    refine dt 4 ?_
    refine dt 5 ?_
    refine dO2 6 10 (by kernel_rfl) (by rw [List.getElem?_toArray]; rfl) (by rw [List.getElem?_toArray]; rfl) ?_ ?_
    · apply o_call; rfl; kernel_rfl; exact evsE
      refine cf (l13Hear_f (hearsR d x (l.take k)) l[k] d _ F7 hG g4 hd0 hd1) fun y _ => ?_
      refine t_app ?_
      rw [← eR]
      refine dk ?_
      refine dt 7 ?_
      refine dt 8 ?_
      refine dt 9 ?_
      refine dO 10 (by kernel_rfl) (by rw [List.getElem?_toArray]; rfl) ?_
      apply o_alloc; rfl; intro _
      refine dk ?_
      refine dO 11 (by kernel_rfl) (by rw [List.getElem?_toArray]; rfl) ?_
      apply o_st; rfl; rfl; rfl; (first | exact AggC.s | exact OneC.s); rfl; exact rplE; exact putE; rfl
      refine dk ?_
      refine dt 12 ?_
      refine dd ?_
      refine go ?_; intros
      refine t_read (E := EStr) (xs := hearE (hearsR d x (l.take k)) l[k]) fun G8 => ?_
      refine go ?_; intros
      apply wO
      refine aps (ys := hearE (hearsR d x (l.take k)) l[k]) one_EStr scal_EStr fun a9 c9 F9 => ?_
      rw [← eE]
      refine go ?_; intros
      refine n_lp (⟨k + 1, _, _, _, _, _, [], _, _, _⟩ : HaS) ⟨by show k + 1 ≤ l.length; omega, hgood⟩ (by show l.length - (k + 1) < l.length - k; omega)
    · apply o_alloc; rfl; intro _
      refine dk ?_
      refine dO 6 (by kernel_rfl) (by rw [List.getElem?_toArray]; rfl) ?_
      apply o_call; rfl; kernel_rfl; exact evsE
      refine cf (l13Hear_f (hearsR d x (l.take k)) l[k] d _ F7 hG g4 hd0 hd1) fun y _ => ?_
      refine t_app ?_
      rw [← eR]
      refine dk ?_
      refine dt 7 ?_
      refine dt 8 ?_
      refine dt 9 ?_
      refine dO 11 (by kernel_rfl) (by rw [List.getElem?_toArray]; rfl) ?_
      apply o_st; rfl; rfl; rfl; (first | exact AggC.s | exact OneC.s); rfl; exact rplE; exact putE; rfl
      refine dk ?_
      refine dt 12 ?_
      refine dd ?_
      refine go ?_; intros
      refine t_read (E := EStr) (xs := hearE (hearsR d x (l.take k)) l[k]) fun G8 => ?_
      refine go ?_; intros
      apply wO
      refine aps (ys := hearE (hearsR d x (l.take k)) l[k]) one_EStr scal_EStr fun a9 c9 F9 => ?_
      rw [← eE]
      refine go ?_; intros
      refine n_lp (⟨k + 1, _, _, _, _, _, [], _, _, _⟩ : HaS) ⟨by show k + 1 ≤ l.length; omega, hgood⟩ (by show l.length - (k + 1) < l.length - k; omega)
  have hi : k = l.length := by omega
  subst hi
  rw [List.take_length] at hgd
  rw [List.take_length]
  rw [resHA_yes (by unfold okHearAll; rw [g1, g2, decide_eq_true g3, List.all_eq_true.2 hgd]; rfl)]
  refine go ?_; intros
  refine ret ⟨_, _, _, _, _, [], _, _, _⟩ trivial rfl
end Go.Proofs.YtgogcgkocjpgoaaGreatDoor
/- TakeItem, GiveUpTo: bounds on the marks of their results. -/
namespace Go.Proofs.YtgogcgkocjpgoaaGreatDoor
open Go.RowKit
theorem cvRW_le (x : ReceiveWindow) : cvReceiveWindow x ≤ 2 * x.slots.length := by
  have : ∀ l : List Slot, cntL cntSlot l ≤ 2 * l.length := by
    intro l
    induction l with
    | nil => exact Nat.le_refl _
    | cons s r ih =>
      unfold cntL at ih ⊢
      simp only [List.map_cons, List.sum_cons, List.length_cons]; have : cntSlot s ≤ 2 := by simp [cntSlot, cntB, cntS]
      omega
  exact this _
end Go.Proofs.YtgogcgkocjpgoaaGreatDoor
/- A bound on marks. -/
namespace Go.Proofs.YtgogcgkocjpgoaaGreatDoor
theorem cntL_bd {α : Type} (f : α → Nat) (B : Nat) : ∀ xs : List α, (∀ x ∈ xs, f x ≤ B) → cntL f xs ≤ xs.length * B
  | [], _ => by simp [cntL]
  | x :: r, h => by
    have h1 := h x (by simp)
    have h2 := cntL_bd f B r fun y hy => h y (by simp [hy])
    have e : cntL f (x :: r) = f x + cntL f r := by simp [cntL]
    rw [e, List.length_cons, Nat.add_mul]; omega
end Go.Proofs.YtgogcgkocjpgoaaGreatDoor
/- Receivers: a bound on marks. -/
namespace Go.Proofs.YtgogcgkocjpgoaaGreatDoor
open Go.RowKit
theorem cvRec_le (r : Receiver) (h1 : r.window.slots.length ≤ 1000) (h2 : r.requests.length ≤ 1000) : cvReceiver r ≤ 4294967296 := by
  unfold cvReceiver
  have a := cvRW_le r.window
  have b := cntL_bd cntRequest 4 r.requests fun q _ => by simp [cntRequest, cntI]
  omega
end Go.Proofs.YtgogcgkocjpgoaaGreatDoor
/- HearPacket: a bound on the marks of its result. -/
namespace Go.Proofs.YtgogcgkocjpgoaaGreatDoor
open Go.RowKit
theorem goodR_cv {r : Receiver} (g : GoodR r) : cvReceiver r ≤ 4294967296 := by
  obtain ⟨hw8, -⟩ := good_items g.w
  have hq8 := (areQ_iff.1 g.q).2.1
  exact cvRec_le _ (by omega) (by omega)
end Go.Proofs.YtgogcgkocjpgoaaGreatDoor
/- HearAll: a bound on the marks of its result; the triples at any value of the list. -/
namespace Go.Proofs.YtgogcgkocjpgoaaGreatDoor
open Go.RowKit
theorem resHearAll_cv (x0 : Receiver) (x1 : List Packet) (x2 : Int) (_h0 : wtReceiver x0 ≤ 1048576) (_h1 : wtL wtPacket x1 ≤ 1048576) : cvReceiver ((resHearAll x0 x1 x2).1) ≤ 4294967296 ∧ cntL cntS ((resHearAll x0 x1 x2).2.1) ≤ 4294967296 := by
  cases hk : okHearAll x0 x1 x2
  · rw [resHA_no hk]; exact ⟨by decide, by decide⟩
  · rw [resHA_yes hk]
    unfold okHearAll at hk
    simp only [Bool.and_eq_true, decide_eq_true_eq, List.all_eq_true] at hk
    have hd : 1 ≤ x2 ∧ x2 ≤ 8 := by have := hk.1.1.2; unfold isDel btw at this; simp only [Bool.and_eq_true, decide_eq_true_eq] at this; omega
    obtain ⟨g, hl⟩ := hears_good hd.1 hd.2 x1 x0 (goodR_iff.1 hk.1.1.1) hk.2
    have := hk.1.2
    refine ⟨goodR_cv g, Nat.le_trans (cntL_bd cntS 1 _ fun p _ => by simp [cntS]) ?_⟩
    show (hearsE x2 x0 x1).length * 1 ≤ 4294967296
    omega
theorem slP {α : Type} {E : Elem α} {w : World} {v : Value} {xs : List α} (hz : 0 < E.sz) (h : ∃ F', Sl E w v xs F') : ∃ b, (Pc.sl E v xs b).P w := by
  obtain ⟨F', h⟩ := h
  exact ⟨F', hz, h⟩
theorem t_fnsl2 {P : Program} {f : FuncId} {α : Type} {E : Elem α} {u v : Value} {xs : List α} {F : List Nat} {q : Pc} {rest : List Value} {A M : List Pc} {σ : Type} {C : σ → Prop} {w : σ → Value} {N : σ → List Pc} (h : ∀ a c, Fn P f (u :: .slice a xs.length c :: rest) (q :: .sl E (.slice a xs.length c) xs F :: A) M C w N) : Fn P f (u :: v :: rest) (q :: .sl E v xs F :: A) M C w N := fun w0 hH hS => by
  obtain ⟨-, hs⟩ := hH (.sl E v xs F) (by simp)
  obtain ⟨a, c, rfl⟩ := hs.slice
  exact h a c w0 hH hS
theorem HearAllV_f (x : Receiver) (l : List Packet) (d : Int) (v : Value) (F : List Nat) (vl : Value) (Fl : List Nat) :
    Fn Tryz.prog 44 [v, vl, .int .i64 d] [.isv EReceiver v x F, .sl EPacket vl l Fl] [] (fun (_ : NwS) => True) (fun s => .tuple #[.agg #[.bool (resHearAll x l d).1.started, .int .i64 (resHearAll x l d).1.clock, .int .i64 (resHearAll x l d).1.window.next, .slice s.a1 (resHearAll x l d).1.window.slots.length s.c1, .slice s.a2 (resHearAll x l d).1.requests.length s.c2], .slice s.ae (resHearAll x l d).2.1.length s.ce, .bool (resHearAll x l d).2.2])
      (fun s => [.own OReceiver (.agg #[.bool (resHearAll x l d).1.started, .int .i64 (resHearAll x l d).1.clock, .int .i64 (resHearAll x l d).1.window.next, .slice s.a1 (resHearAll x l d).1.window.slots.length s.c1, .slice s.a2 (resHearAll x l d).1.requests.length s.c2]) (resHearAll x l d).1 s.F1, .ow EStr 9 (.slice s.ae (resHearAll x l d).2.1.length s.ce) (resHearAll x l d).2.1 s.Fe]) :=
  t_fnsl2 fun a c => HearAll_f x l d v F a c Fl
theorem specHearAllV_f (x : Receiver) (l : List Packet) (d : Int) (v : Value) (F : List Nat) (vl : Value) (Fl : List Nat) :
    Fn Tryz.prog 42 [v, vl, .int .i64 d] [.isv EReceiver v x F, .sl EPacket vl l Fl] [] (fun (_ : NwS) => True) (fun s => .tuple #[.agg #[.bool (resHearAll x l d).1.started, .int .i64 (resHearAll x l d).1.clock, .int .i64 (resHearAll x l d).1.window.next, .slice s.a1 (resHearAll x l d).1.window.slots.length s.c1, .slice s.a2 (resHearAll x l d).1.requests.length s.c2], .slice s.ae (resHearAll x l d).2.1.length s.ce, .bool (resHearAll x l d).2.2])
      (fun s => [.isv EReceiver (.agg #[.bool (resHearAll x l d).1.started, .int .i64 (resHearAll x l d).1.clock, .int .i64 (resHearAll x l d).1.window.next, .slice s.a1 (resHearAll x l d).1.window.slots.length s.c1, .slice s.a2 (resHearAll x l d).1.requests.length s.c2]) (resHearAll x l d).1 s.F1, .ow EStr 9 (.slice s.ae (resHearAll x l d).2.1.length s.ce) (resHearAll x l d).2.1 s.Fe]) :=
  t_fnsl2 fun a c => specHearAll_f x l d v F a c Fl
end Go.Proofs.YtgogcgkocjpgoaaGreatDoor
/- What every law's proof shares: the step from 'returns true, and nothing that was there has turned' to the row's post; how arguments read. -/
namespace Go.Proofs.YtgogcgkocjpgoaaGreatDoor
open Go.ChangeShapes Go.WideShapes Go.ChangeAt Go.RowKit

theorem trodAll_below {H : Type} {enc : TypeId × Value → H} {P : Program} (hl : laidOutB P = true) {W W' : World} (hb : Below W.heap.size W W') :
    ∀ (ts : List TypeId) (vs : List Value) (ds : List (DataW H)) (ps : List MemPlace), (∀ t ∈ ts, P.readableRec t = true ∧ t < P.types.size) →
      DataW.TrodAll enc P W 0 (fun _ => true) true ts vs ds ps → (∀ x ∈ ps, x.block < W.heap.size) → DataW.TrodAll enc P W' 0 (fun b => decide (b < W.heap.size)) true ts vs ds ps
  | [], vs, ds, ps, _, h, _ => by obtain ⟨rfl, rfl, rfl⟩ := trodAll_nil h; exact rfl
  | t :: ts, vs, ds, ps, ht, h, hlt => by
    obtain ⟨v, vs', d, ds', p, q, rfl, rfl, rfl, h1, h2⟩ := trodAll_cons h
    have ⟨a, b⟩ := ht t (by simp)
    exact ⟨p, q, Below.trod hl a b h1 hb fun x hx => hlt x (by simp [hx]), trodAll_below hl hb ts vs' ds' q (fun t h => ht t (by simp [h])) h2 fun x hx => hlt x (by simp [hx]), rfl⟩

/-- A law returned true and left all that was there aS it was: the row's post. -/
theorem law_post {H : Type} {enc : TypeId × Value → H} {P : Program} {f : Func} {s : ChangeSpec} {tb : TypeId} (hl : laidOutB P = true) (hr : ∀ t ∈ f.params.toList, P.readableRec t = true ∧ t < P.types.size)
    (hb : P.underlying tb = some .bool) (hres : f.resultTypes = #[tb]) (hv : s.vars = []) {W W' : World} {args : Array Value} {ds gs : List (DataW H)} {before : List MemPlace}
    (hs : s.fn H ds = { results := [.lit (.bool true)], args := ds }) (hW : DataW.Whole enc P f.params.toList s.vars false W args.toList ds gs before) (hB : Below W.heap.size W W') :
    s.post enc P f false true false false W args (.bool true) W' := by
  have hlt := hW.lt
  have hW0 := hW
  obtain ⟨p, q, hA, hV, rfl, _, _⟩ := hW0
  rw [hv] at hV
  obtain ⟨rfl, rfl⟩ := trodVars_none hV
  refine ⟨ds, [], p ++ [], [], p, [], hW, ?_, ?_, ?_, hB.frame _, fun h => by cases h⟩
  · rw [List.append_nil, hs, hres]
    exact trodAll_mk1 (shut_bool hb true)
  · rw [List.append_nil, hs]
    exact trodAll_below hl hB _ _ _ _ hr hA fun x hx => hlt x (by simpa using hx)
  · rw [hv, List.append_nil, hs]; exact rfl

/-- what reads aS data at type t reads by E -/
def Reads (P : Program) {α : Type} (E : Elem α) (t : TypeId) : Prop :=
  ∀ {H : Type} {enc : TypeId × Value → H} {w : World} {fuel : Nat} {cs : List Value} {x : DataW H × List MemPlace}, DataW.trod enc P w 0 (fun _ => true) true fuel t cs = some x → ∃ y F, E.rep w cs y F

section
variable {P : Program}
theorem reads_int {t : TypeId} (ht : P.underlying t = some (.int .i64)) : Reads P EInt t := fun h => by
  obtain ⟨n, rfl, _, _⟩ := DataW.trod_int ht h; exact ⟨n, [], rfl, rfl⟩
theorem reads_str {t : TypeId} (ht : P.underlying t = some .string) : Reads P EStr t := fun h => by
  obtain ⟨s, rfl, _, hs⟩ := DataW.trod_string ht h; exact ⟨s, [], rfl, hs, rfl⟩
theorem reads_bool {t : TypeId} (ht : P.underlying t = some .bool) : Reads P EBool t := fun {_ _ _ fuel _ _} h => by
  cases fuel with
  | zero => simp [DataW.trod] at h
  | succ n =>
    unfold DataW.trod at h
    rw [ht] at h
    split at h <;> simp_all
    all_goals simp [EBool]
theorem reads_cells {α : Type} {E : Elem α} {e : TypeId} (hsz : P.cellsOf e = E.sz) (he : Reads P E e) {H : Type} {enc : TypeId × Value → H} {w : World} {n b off : Nat} :
    ∀ (els : List (DataW H × List MemPlace)) (k : Nat), (∀ i, i < els.length → (w.cells? 0 ((⟨b, off, none⟩ : Addr).add ((k + i) * P.cellsOf e)) (P.cellsOf e)).bind (DataW.trod enc P w 0 (fun _ => true) true n e) = els[i]?) →
      ∃ ys F, ys.length = els.length ∧ Cells E w b (off + k * E.sz) ys F
  | [], _, _ => ⟨[], [], rfl, rfl⟩
  | x :: r, k, h => by
    have h0 := h 0 (by simp)
    simp only [Nat.add_zero, List.getElem?_cons_zero, Option.bind_eq_some_iff] at h0
    obtain ⟨cs, hc, hx⟩ := h0
    obtain ⟨y, F1, hy⟩ := he hx
    obtain ⟨ys, F2, hl, hys⟩ := reads_cells hsz he r (k + 1) fun i hi => by
      have := h (i + 1) (by simpa using hi)
      rw [show k + 1 + i = k + (i + 1) by omega]
      simpa using this
    refine ⟨y :: ys, F1 ++ F2, by simp [hl], cs, F1, F2, rfl, hy, fun j hj => ?_, by rwa [show off + k * E.sz + E.sz = off + (k + 1) * E.sz by rw [Nat.add_mul]; omega]⟩
    obtain ⟨_, hlen, hcell⟩ := World.cells?_some hc
    rw [← hcell j (by rw [hsz]; exact hj)]
    congr 1
    simp only [Addr.add, hsz]
    split <;> split <;> simp_all <;> omega
theorem reads_slice {α : Type} {E : Elem α} {t e : TypeId} (ht : P.underlying t = some (.slice e)) (hsz : P.cellsOf e = E.sz) (hz : 0 < E.sz) (he : Reads P E e) : Reads P (ESl E hz) t := fun h => by
  rcases DataW.trod_slice ht h with ⟨rfl, _⟩ | ⟨a, len, cap, elems, rest, n, rfl, rfl, _, _, hlc, hcm, hlen, hel, _, _⟩
  · exact ⟨[], [], _, rfl, none, 0, rfl, ⟨by simp, by simp⟩, .inl ⟨rfl, rfl, fun _ => rfl⟩⟩
  · by_cases h0 : len = 0
    · subst h0
      exact ⟨[], [], _, rfl, some a, cap, rfl, ⟨by simp, by omega⟩, .inl ⟨rfl, rfl, fun e => by cases e⟩⟩
    · have hs : a = ⟨a.block, a.off, none⟩ := by
        have := hel 0 (by omega)
        rw [List.getElem?_eq_getElem (by omega)] at this
        simp only [Option.bind_eq_some_iff] at this
        obtain ⟨cs, hc, _⟩ := this
        obtain ⟨_, hl2, hcell⟩ := World.cells?_some hc
        have h1 := hcell 0 (by omega)
        rw [List.getElem?_eq_getElem (by omega)] at h1
        simp [Addr.add, World.cell?] at h1
        split at h1 <;> simp_all
        cases a; simp_all
      obtain ⟨ys, F, hyl, hys⟩ := reads_cells hsz he elems 0 (n := n) (b := a.block) (off := a.off) (enc := _) (w := _) (by
        rw [← hs]; intro i hi; rw [Nat.zero_add]; exact hel i (by omega))
      refine ⟨ys, a.block :: F, _, rfl, some a, cap, by rw [hyl, hlen], ⟨by omega, by omega⟩, .inr ⟨a.block, a.off, F, by rw [← hs], ?_, rfl, by simpa using hys⟩⟩
      intro e; rw [e] at hyl; simp at hyl; omega
end

/-- the fields of a struct, one behind the other, each by its own reading -/
inductive FieldsOk (P : Program) : List Field → Nat → (α : Type) → Elem α → Prop
  | nil (off : Nat) : FieldsOk P [] off Unit EUnit
  | cons {f : Field} {r : List Field} {off : Nat} {α β : Type} {A : Elem α} {B : Elem β} (ho : f.offset = off) (hc : P.cellsOf f.type = A.sz) (hA : Reads P A f.type) (h : FieldsOk P r (off + A.sz) β B) : FieldsOk P (f :: r) off (α × β) (EProd A B)
theorem fields_read {P : Program} {H : Type} {enc : TypeId × Value → H} {w : World} {n : Nat} {cs : List Value} {fs : List Field} {off : Nat} {α : Type} {E : Elem α} (h : FieldsOk P fs off α E) :
    (∀ f ∈ fs, ∃ x, DataW.trod enc P w 0 (fun _ => true) true n f.type ((cs.drop f.offset).take (P.cellsOf f.type)) = some x) → off + E.sz = cs.length → ∃ y F, E.rep w (cs.drop off) y F := by
  induction h with
  | nil off => intro _ hl; exact ⟨(), [], List.drop_of_length_le (by simp [EUnit] at hl; omega), rfl⟩
  | @cons f r off α β A B ho hc hA _ ih =>
    intro hf hl
    obtain ⟨x, hx⟩ := hf f (by simp)
    obtain ⟨y, F1, hy⟩ := hA hx
    obtain ⟨y2, F2, hy2⟩ := ih (fun f h => hf f (by simp [h])) (by simp only [EProd] at hl; omega)
    subst ho
    exact ⟨(y, y2), F1 ++ F2, _, _, F1, F2, by rw [hc, ← List.drop_drop, List.take_append_drop], rfl, hy, hy2⟩
theorem reads_struct {P : Program} {t : TypeId} {fs : Array Field} {α : Type} {E : Elem α} (ht : P.underlying t = some (.struct fs)) (hC : P.cellsOf t = E.sz) (h : FieldsOk P fs.toList 0 α E) : Reads P E t := fun hh => by
  obtain ⟨xs, n, rfl, _, hcl, hxl, hx⟩ := DataW.trod_struct ht hh
  have := fields_read (enc := _) (w := _) (n := n) h (fun f hf => by
    obtain ⟨i, hi, rfl⟩ := List.getElem_of_mem hf
    have := hx i fs.toList[i] (by simp)
    rw [List.getElem?_eq_getElem (by simpa [hxl] using hi)] at this
    exact ⟨_, this⟩) (by rw [hcl, hC]; simp)
  simpa using this
end Go.Proofs.YtgogcgkocjpgoaaGreatDoor
/- What the walks of the exact laws need: structs by their cells as wholes, contracts of made values, marks. -/
namespace Go.Proofs.YtgogcgkocjpgoaaGreatDoor
open Go.RowKit
section
variable {c : Cx} {fr : Fr} {H H0 : List Pc} {k : List It} {Φ : Gl} {X : List Nat} {ops : Array Oper} {f : Nat} {listed : Array Bool} {d : Nat} {o : Op} {ty : TypeId} {v u : Value} {x y : Operand}
theorem t_weakV {α : Type} {O R : Elem α} (hW : Weak O R) {v : Value} {x : α} {F : List Nat} {S : List Pc} (h : ∀ F', T c fr (.isv R v x F' :: S) Φ) (hp : Pick H (.own O v x F) S := by (repeat (first | exact .here | apply Pick.there)); first | done | fail) : T c fr H Φ := .mk fun a w s g => by
  have s1 := s.pick hp
  obtain ⟨-, ho⟩ := s1.on (.own O v x F) (by simp)
  obtain ⟨F', hF, hs⟩ := IsV.weak hW ho
  exact (h F').h a w (s1.conv rfl hs hF) g
theorem t_weakL {α : Type} {O R : Elem α} (hW : Weak O R) {t : TypeId} {v : Value} {xs : List α} {F : List Nat} {S : List Pc} (h : ∀ F', T c fr (.sl R v xs F' :: S) Φ) (hp : Pick H (.ow O t v xs F) S := by (repeat (first | exact .here | apply Pick.there)); first | done | fail) (hz : 0 < R.sz := by decide) : T c fr H Φ := .mk fun a w s g => by
  have s1 := s.pick hp
  obtain ⟨-, ho⟩ := s1.on (.ow O t v xs F) (by simp)
  obtain ⟨F', hF, hs⟩ := ho.sl hW
  exact (h F').h a w (s1.conv rfl ⟨hz, hs⟩ hF) g
/-- a struct's value is its cells -/
theorem t_aggI {α : Type} {E : Elem α} {v : Value} {x : α} {F : List Nat} (one : One E) (h : ∀ cs : List Value, v = .agg cs.toArray → cs.length = E.sz → cs.all (·.oneCell') = true → T c fr H Φ) (hm : .isv E v x F ∈ H := by (repeat (first | exact .head _ | apply List.Mem.tail)); first | done | fail) : T c fr H Φ := .mk fun a w s g => by
  obtain ⟨cs, hv, hx⟩ := s.get hm
  exact (h cs hv (E.len hx) (List.all_eq_true.2 fun u hu => one hx u hu)).h a w s g
theorem t_aggO {α : Type} {E : Elem α} {v : Value} {x : α} {F : List Nat} (one : One E) (h : ∀ cs : List Value, v = .agg cs.toArray → cs.length = E.sz → cs.all (·.oneCell') = true → T c fr H Φ) (hm : .own E v x F ∈ H := by (repeat (first | exact .head _ | apply List.Mem.tail)); first | done | fail) : T c fr H Φ := .mk fun a w s g => by
  obtain ⟨-, cs, hv, hx⟩ := s.get hm
  exact (h cs hv (E.len hx) (List.all_eq_true.2 fun u hu => one hx u hu)).h a w s g
theorem Put.all : ∀ {zs l : List Value}, zs.length = l.length → Put zs 0 l l
  | [], [], _ => .zero
  | [], _ :: _, h => by simp at h
  | _ :: _, [], h => by simp at h
  | _ :: zs, _ :: l, h => .one (Put.all (by simpa using h))
/-- all of a box -/
theorem yd_ldw {P : Program} {n : Nat} {H : List Pc} {t g o tt m : Nat} {A cs B : List Value} [AggC P t m] (hx : ev fr x = some (ptr g o 0)) (hm : Pc.row g tt o A cs B ∈ H) (hl : cs.length = m) : Yd P n fr H (.load t x) ty (.agg cs.toArray) := yd_lda hx hm (hl ▸ Cut.whole cs)
/-- a call that makes values -/
theorem cm {f : Nat} {vs : List Value} {σ : Type} {C : σ → Prop} {vv : σ → Value} {N : σ → List Pc} (hc : ∀ w, St c.G c.D c.w0 H w → Calls c.P f vs.toArray w fun e w' => ∃ s, C s ∧ e = .returned (vv s) ∧ Hol (N s) w' ∧ (fp (N s)).Nodup ∧ (∀ b ∈ fp (N s), w.heap.size ≤ b) ∧ Below w.heap.size w w')
    (h : ∀ s, C s → T c ((d, vv s) :: fr) (N s ++ H) Φ) : Cl c fr H d f vs Φ :=
  cl_of hc (fun w e w' s hR => by
    obtain ⟨z, hz, he, hN, hn, hF, hB⟩ := hR
    have sep : ∀ {N : List Pc}, (fp N).Nodup → Sep N := by
      intro N
      induction N with
      | nil => intro _; trivial
      | cons p N ih =>
        intro h
        rw [fp, List.nodup_append] at h
        exact ⟨fun q hq _ b hb hq2 => h.2.2 b hb b (mem_fp.2 ⟨q, hq, hq2⟩) rfl, ih h.2.1⟩
    exact ⟨_, he, fun ac g => (h z hz).h ac w' (s.add (N := N z) hB hN (sep hn) (fun p hp b hb => .inl (hF b (mem_fp.2 ⟨p, hp, hb⟩)))) g⟩)
theorem d_startA {id : Nat} {l : List Oper} (X : List Nat) (h : T c fr H (.dx k H X l.toArray l.length (Array.replicate l.length false))) (hm : c.P.follows .mixedOrders = true := by kernel_rfl) : T c fr H (.code k (Code.region id l.toArray true)) := .mk fun a w s g => by
  refine AnyX.start (S := Hol H) (X := fun i => X.contains i) hm ?_
  have := h.h a w.drew (s.below (belowDrewN (Below.refl _ _) 1)) g
  simpa [Gl.sem] using this
/-- what is behind a box that is stored into -/
theorem o_stw {t g tt m : Nat} {cs l : List Value} {S : List Pc} (hx : ev fr x = some (ptr g 0 0)) (hy : ev fr y = some (.agg l.toArray)) (hs : (c.P.info? t).map (·.size) = some m) (hr : Rpl H (.row g tt 0 [] cs []) (.row g tt 0 [] l []) S) (hl : l.length = m) (hc : cs.length = m) (h1 : l.all (·.oneCell') = true) (h : T c fr S Φ) : On c fr H none (.store t x y) ty Φ :=
  o_st hx hy rfl hs hl hr (Put.all (by omega)) h1 h
end
/-! contracts, with what they ask read off pieces -/
theorem ex1 {α : Type} {A : α → Prop} {C : Prop} (f : ∀ a, A a → C) : (∃ a, A a) → C := fun ⟨a, h⟩ => f a h
theorem ex2 {α β : Type} {A : α → Prop} {B : β → Prop} {C : Prop} (f : ∀ a b, A a → B b → C) : (∃ a, A a) → (∃ b, B b) → C := fun ⟨a, h⟩ ⟨b, h2⟩ => f a b h h2
section
variable {G D : List Nat} {w0 w : World} {H : List Pc}
theorem St.rI {α : Type} {E : Elem α} {v : Value} {x : α} {F : List Nat} (s : St G D w0 H w) (hm : .isv E v x F ∈ H := by (repeat (first | exact .head _ | apply List.Mem.tail)); first | done | fail) : ∃ F', IsV E w v x F' := ⟨F, s.get hm⟩
theorem St.rO {α : Type} {O R : Elem α} (hW : Weak O R) {v : Value} {x : α} {F : List Nat} (s : St G D w0 H w) (hm : .own O v x F ∈ H := by (repeat (first | exact .head _ | apply List.Mem.tail)); first | done | fail) : ∃ F', IsV R w v x F' := by
  obtain ⟨-, ho⟩ := s.get hm
  obtain ⟨F', -, h⟩ := IsV.weak hW ho
  exact ⟨F', h⟩
theorem St.rS {α : Type} {E : Elem α} {v : Value} {xs : List α} {F : List Nat} (s : St G D w0 H w) (hm : .sl E v xs F ∈ H := by (repeat (first | exact .head _ | apply List.Mem.tail)); first | done | fail) : ∃ F', Sl E w v xs F' := ⟨F, (s.get hm).2⟩
theorem St.rL {α : Type} {O R : Elem α} (hW : Weak O R) {t : TypeId} {v : Value} {xs : List α} {F : List Nat} (s : St G D w0 H w) (hm : .ow O t v xs F ∈ H := by (repeat (first | exact .head _ | apply List.Mem.tail)); first | done | fail) : ∃ F', Sl R w v xs F' := by
  obtain ⟨-, ho⟩ := s.get hm
  obtain ⟨F', -, h⟩ := ho.sl hW
  exact ⟨F', h⟩
end
theorem fn_markV {P : Program} {α : Type} {O : Elem α} {f : FuncId} {v : Value} {x x' : α} {F : List Nat} {k m : Int} (h : ∀ w, IsV O w v x F → F.Nodup → Calls P f #[v, .int .i64 k] w (RetMarkV O v m x' F w)) : Fn P f [v, .int .i64 k] [] [.own O v x F] (fun (_ : Unit) => True) (fun _ => .int .i64 m) (fun _ => [.own O v x' F]) := fun w hH _ => by
  obtain ⟨hn, ho⟩ := hH (.own O v x F) (by simp)
  refine (h w ho hn).mono ?_
  rintro e w' ⟨he, h1, h2⟩
  refine ⟨(), trivial, he, hol1 ⟨hn, h1⟩, ⟨by simp, trivial⟩, by simpa [fp, Pc.F] using h2, fun p hp b hb => ?_⟩
  rw [List.mem_singleton] at hp; subst hp
  exact .inr (.inl ⟨_, List.mem_singleton.2 rfl, hb⟩)
theorem fn_markL {P : Program} {α : Type} {O : Elem α} {t : TypeId} {f : FuncId} {v : Value} {x x' : List α} {F : List Nat} {k m : Int} (h : ∀ w, Ow O t w v x F → F.Nodup → Calls P f #[v, .int .i64 k] w (RetMark O t v m x' F w)) : Fn P f [v, .int .i64 k] [] [.ow O t v x F] (fun (_ : Unit) => True) (fun _ => .int .i64 m) (fun _ => [.ow O t v x' F]) := fun w hH _ => by
  obtain ⟨hn, ho⟩ := hH (.ow O t v x F) (by simp)
  refine (h w ho hn).mono ?_
  rintro e w' ⟨he, h1, h2⟩
  refine ⟨(), trivial, he, hol1 ⟨hn, h1⟩, ⟨by simp, trivial⟩, by simpa [fp, Pc.F] using h2, fun p hp b hb => ?_⟩
  rw [List.mem_singleton] at hp; subst hp
  exact .inr (.inl ⟨_, List.mem_singleton.2 rfl, hb⟩)
end Go.Proofs.YtgogcgkocjpgoaaGreatDoor
/- The steps of the exact laws' walks, as one word. -/
namespace Go.Proofs.YtgogcgkocjpgoaaGreatDoor
open Go.RowKit
/-- the steps of an exact law -/
theorem goL {X : Prop} {c : Cx} {fr : Fr} {H : List Pc} {Φ : Gl} (h : X) (hs : Kp X → T c fr H Φ := by intro hX; (repeat (first | apply c_seq | apply c_reg | (apply wO; apply oc; rfl; exact ydE) | (apply wO; apply oc; rfl; apply yd_ldw; rfl; exact memE; assumption) | apply w_nil | apply n_cd | (apply wg_t; rfl; rfl) | (apply wg_f; rfl; rfl; rfl; rfl) | (apply wg_u; rfl; rfl; rfl) | (apply c_t; rfl) | (apply c_f; rfl) | apply c_skip | apply c_block | apply n_blk | apply c_exit | apply e_hit | apply e_cd | apply e_lp | (apply e_miss; rfl) | apply c_ret | (apply wO; apply o_boxX; rfl; rfl; rfl; exact hX; clear hX; intro _ hX) | (apply wO; apply o_allocX; rfl; exact hX; clear hX; intro _ hX) | (apply wO; apply o_st; rfl; rfl; rfl; (first | exact AggC.s | exact OneC.s); rfl; exact rplE; exact putE; rfl) | (apply wO; apply o_stw; rfl; rfl; exact AggC.s; exact rplE; assumption; rfl; assumption) | (apply wO; apply o_call; rfl; kernel_rfl; exact evsE) | (refine c_if rfl (fun h => absurd h (by first | omega | simp)) (fun h => ?_); clear h) | (refine wg_if rfl rfl (fun h => absurd h (by first | omega | simp)) (fun h => ?_); clear h))); exact hX.h) : T c fr H Φ := hs ⟨h⟩
end Go.Proofs.YtgogcgkocjpgoaaGreatDoor
/- The walk of the law FnExactHearAll. Written by wip/genlaw2.py. -/
namespace Go.Proofs.YtgogcgkocjpgoaaGreatDoor
open Go.RowKit
structure JHearAll where
  g0 : Nat
  L0 : List Value
  F0 : List Nat
  u1 : Value
  F1 : List Nat
set_option maxHeartbeats 4000000 in
set_option maxRecDepth 100000 in
theorem law_HearAll_f (v0 : Value) (x0 : Receiver) (F0 : List Nat) (v1 : Value) (x1 : List Packet) (F1 : List Nat) (x2 : Int) : Fn Tryz.prog 6 [v0, v1, .int .i64 x2] [.isv EReceiver v0 x0 F0, .sl EPacket v1 x1 F1] [] (fun (_ : Unit) => True) (fun _ => .bool true) (fun _ => []) := by
  refine enter Tryz.func6 rfl Tryz.ntmps6 fun w0 => ?_
  refine t_aggI (E := EReceiver) (v := v0) (x := x0) (F := F0) one_EReceiver ?_
  rintro ca0 rfl hla0 hoa0
  refine t_sl (E := EPacket) (v := v1) (xs := x1) (F := F1) ?_
  rintro pa1 pc1 rfl hpl1 hpm1
  have hI := fun V0 F0 V1 F1 => HearAllV_f x0 x1 x2 V0 F0 V1 F1
  have hS := fun V0 F0 V1 F1 => specHearAllV_f x0 x1 x2 V0 F0 V1 F1
  have hV := resHearAll_cv x0 x1 x2
  obtain ⟨r0, r1, r2, er⟩ : ∃ r0 r1 r2, resHearAll x0 x1 x2 = (r0, r1, r2) := ⟨_, _, _, rfl⟩
  rw [er] at hI hS hV
  dsimp only at hI hS hV
  refine goL ?_; intros
  refine cb (fun w st => ex1 (fun F h => szReceiver_c _ x0 F (1048576) w h (by omega) (by omega)) st.rI) ?_
  rcases szr_or (1048576) (wtReceiver x0) with ⟨e1, l1⟩ | ⟨e1, l1⟩
  · rw [e1]
    refine goL ?_; intros
    refine ret () trivial rfl
  rw [e1]
  clear e1
  have hw0 : wtReceiver x0 ≤ 1048576 := by omega
  refine goL ?_; intros
  refine cb (fun w st => ex1 (fun F h => szPacketS_c _ x1 F (1048576 - (wtReceiver x0)) w h (by omega) (by omega)) st.rS) ?_
  rcases szr_or (1048576 - (wtReceiver x0)) (wtL wtPacket x1) with ⟨e1, l1⟩ | ⟨e1, l1⟩
  · rw [e1]
    refine goL ?_; intros
    refine ret () trivial rfl
  rw [e1]
  clear e1
  have hw1 : wtL wtPacket x1 ≤ 1048576 := by omega
  have hc0 := cvReceiver_wt x0 hw0
  have hc1 := cntPacketS_wt x1 hw1
  obtain ⟨hV0, hV1⟩ := hV hw0 hw1
  refine goL ?_; intros
  refine cv (fun w st => ex1 (fun F h => toReceiver_c _ x0 F w h hw0) st.rI) fun y0 K0 => ?_
  refine t_weakV weak_Receiver fun K0 => ?_
  refine goL ?_; intros
  refine cn (fun w st => ex1 (fun F h => toPacketS_c _ x1 F w h hw1) st.rS) fun ya1 yc1 K1 => ?_
  refine t_weakL ((Weak.refl _)) fun K1 => ?_
  refine goL ?_; intros
  refine cf (hS _ _ _ _) fun z hz => ?_
  refine t_app ?_
  refine t_weakL (Weak.refl _) (xs := r1) fun Z1 => ?_
  refine goL ?_; intros
  refine cv (fun w st => ex1 (fun F h => toReceiver_c _ x0 F w h hw0) st.rI) fun yv0 KX0 => ?_
  refine t_aggO (E := OReceiver) (x := x0) (F := KX0) one_OReceiver ?_
  rintro cx0 rfl hlx0 hox0
  refine goL ?_; intros
  refine cn (fun w st => ex1 (fun F h => toPacketS_c _ x1 F w h hw1) st.rS) fun yv1 yc1 KX1 => ?_
  refine goL ?_; intros
  refine cm (fun w st => ex2 (fun F F2 h h2 => (hI _ F _ F2).made w (hol2 h h2) (fun _ => rfl)) (st.rO weak_Receiver) ((slP (by decide) (st.rL ((Weak.refl _)))))) fun z hz => ?_
  refine t_app ?_
  refine goL ?_; intros
  refine cb (fun w st => ex2 (fun Fa Fb ha hb => eqReceiver_c _ _ r0 Fa Fb w ha hb) (st.rO weak_Receiver) st.rI) ?_
  refine goL ?_; intros
  refine cb (fun w st => ex2 (fun Fa Fb ha hb => eqStringS_c _ _ r1 Fa Fb w ha hb) (st.rL ((Weak.refl _))) st.rS) ?_
  refine goL ?_; intros
  refine d_startA [] ?_
  refine dt 0 ?_ (hy := (by first | exact ydE | exact yd_ldw rfl (by exact memE) (by assumption)))
  refine dt 1 ?_ (hy := (by first | exact ydE | exact yd_ldw rfl (by exact memE) (by assumption)))
  refine dO 2 (by kernel_rfl) (by rw [List.getElem?_toArray]; rfl) ?_
  apply o_call; rfl; kernel_rfl; exact evsE
  refine cv (fun w st => ex1 (fun F h => toReceiver_c _ x0 F w h hw0) st.rI) fun y0 K0 => ?_
  refine t_weakV weak_Receiver fun K0 => ?_
  refine dk ?_
  refine dO 3 (by kernel_rfl) (by rw [List.getElem?_toArray]; rfl) ?_
  apply o_call; rfl; kernel_rfl; exact evsE
  refine cb (fun w st => ex2 (fun Fa Fb ha hb => eqReceiver_c _ _ x0 Fa Fb w ha hb) (st.rO weak_Receiver) st.rI) ?_
  refine dk ?_
  refine dt 4 ?_
  refine dd ?_
  refine goL ?_; intros
  refine cn (fun w st => ex1 (fun F h => toPacketS_c _ x1 F w h hw1) st.rS) fun ya1 yc1 K1 => ?_
  refine t_weakL ((Weak.refl _)) (xs := x1) fun K1 => ?_
  refine goL ?_; intros
  refine cb (fun w st => ex2 (fun Fa Fb ha hb => eqPacketS_c _ _ x1 Fa Fb w ha hb) (st.rL ((Weak.refl _))) st.rS) ?_
  refine goL ?_; intros
  refine cf (fn_markV (fun w h hn => markReceiver_c _ x0 _ (1) w h hn (by omega) (by omega))) fun _ _ => ?_
  refine t_app ?_
  refine goL ?_; intros
  refine cf (fn_markL (fun w h hn => markPacketS_c _ x1 _ (1 + cvReceiver x0) w h hn (by omega) (by omega))) fun _ _ => ?_
  refine t_app ?_
  refine goL ?_; intros
  refine cb (fun w st => ex2 (fun Fa Fb ha hb => eqReceiver_c _ _ r0 Fa Fb w ha hb) (st.rO weak_Receiver) st.rI) ?_
  refine goL ?_; intros
  refine cb (fun w st => ex2 (fun Fa Fb ha hb => eqStringS_c _ _ r1 Fa Fb w ha hb) (st.rL ((Weak.refl _))) st.rS) ?_
  refine goL ?_; intros
  refine cf (fn_markV (fun w h hn => markReceiver_c _ r0 _ (1) w h hn (by omega) (by omega))) fun _ _ => ?_
  refine t_app ?_
  refine goL ?_; intros
  refine cf (fn_markL (fun w h hn => markStringS_c _ r1 _ (1 + cvReceiver r0) w h hn (by omega) (by omega))) fun _ _ => ?_
  refine t_app ?_
  refine goL ?_; intros
  refine cb (fun w st => ex1 (fun F h => heldReceiver_c _ r0 F (1) w h (by omega) (by omega)) (st.rO weak_Receiver)) ?_
  refine goL ?_; intros
  refine cb (fun w st => ex1 (fun F h => heldStringS_c _ r1 F (1 + cvReceiver r0) w h (by omega) (by omega)) (st.rL ((Weak.refl _)))) ?_
  refine goL ?_; intros
  refine cv (fun w st => ex1 (fun F h => toReceiver_c _ x0 F w h hw0) st.rI) fun y0 K0 => ?_
  refine t_weakV weak_Receiver fun K0 => ?_
  refine goL ?_; intros
  refine cn (fun w st => ex1 (fun F h => toPacketS_c _ x1 F w h hw1) st.rS) fun ya1 yc1 K1 => ?_
  refine t_weakL ((Weak.refl _)) fun K1 => ?_
  refine goL ?_; intros
  refine cm (fun w st => ex2 (fun F F2 h h2 => (hI _ F _ F2).made w (hol2 h h2) (fun _ => rfl)) (st.rI) ((slP (by decide) st.rS))) fun z hz => ?_
  refine t_app ?_
  refine goL ?_; intros
  refine cb (fun w st => ex2 (fun Fa Fb ha hb => eqReceiver_c _ _ r0 Fa Fb w ha hb) (st.rO weak_Receiver) st.rI) ?_
  refine goL ?_; intros
  refine cb (fun w st => ex2 (fun Fa Fb ha hb => eqStringS_c _ _ r1 Fa Fb w ha hb) (st.rL ((Weak.refl _))) st.rS) ?_
  refine goL ?_; intros
  refine cb (fun w st => ex1 (fun F h => heldReceiver_c _ r0 F (1) w h (by omega) (by omega)) (st.rO weak_Receiver)) ?_
  refine goL ?_; intros
  refine cb (fun w st => ex1 (fun F h => heldStringS_c _ r1 F (1 + cvReceiver r0) w h (by omega) (by omega)) (st.rL ((Weak.refl _)))) ?_
  refine goL ?_; intros
  refine ret () trivial rfl
theorem law_HearAll (v0 : Value) (x0 : Receiver) (F0 : List Nat) (v1 : Value) (x1 : List Packet) (F1 : List Nat) (x2 : Int) (w : World) (h0 : IsV EReceiver w v0 x0 F0) (h1 : Sl EPacket w v1 x1 F1) :
    Calls Tryz.prog 6 #[v0, v1, .int .i64 x2] w fun e' w' => e' = .returned (.bool true) ∧ Below w.heap.size w w' := (law_HearAll_f v0 x0 F0 v1 x1 F1 x2).val w (hol2 (h0) (⟨by decide, h1⟩))
end Go.Proofs.YtgogcgkocjpgoaaGreatDoor
/- The law FnExactHearAll, lifted. Written by wip/genlaw.py. -/
namespace Go.Proofs.YtgogcgkocjpgoaaGreatDoor
open Go.RowKit Go.ChangeShapes Go.WideShapes Go.ChangeAt
theorem reads_Slot : Reads Tryz.prog ESlot 234 := fun hh => by
  obtain ⟨y, F, hy⟩ := reads_struct (E := (EProd EBool (EProd EStr EUnit))) Tryz.underlying234 (by kernel_rfl) (.cons rfl (by kernel_rfl) (reads_bool Tryz.underlying4) (.cons rfl (by kernel_rfl) (reads_str Tryz.underlying9) (.nil _))) hh
  obtain ⟨_, _, _, _, rfl, rfl, ⟨rfl, rfl⟩, ⟨_, _, _, _, rfl, rfl, ⟨rfl, s1, rfl⟩, ⟨rfl, rfl⟩⟩⟩ := hy
  exact ⟨⟨y.1, y.2.1⟩, [], rfl, s1, rfl⟩
theorem reads_ReceiveWindow : Reads Tryz.prog EReceiveWindow 39 := fun hh => by
  obtain ⟨y, F, hy⟩ := reads_struct (E := (EProd EInt (EProd (ESl ESlot (by decide)) EUnit))) Tryz.underlying39 (by kernel_rfl) (.cons rfl (by kernel_rfl) (reads_int Tryz.underlying3) (.cons rfl (by kernel_rfl) (reads_slice Tryz.underlying37 (by kernel_rfl) (by decide) reads_Slot) (.nil _))) hh
  obtain ⟨_, _, _, _, rfl, rfl, ⟨rfl, rfl⟩, ⟨_, _, _, _, rfl, rfl, ⟨u1, rfl, hs1⟩, ⟨rfl, rfl⟩⟩⟩ := hy
  exact ⟨⟨y.1, y.2.1⟩, _, u1, rfl, by simpa using hs1⟩
theorem reads_Request : Reads Tryz.prog ERequest 196 := fun hh => by
  obtain ⟨y, F, hy⟩ := reads_struct (E := (EProd EInt (EProd EInt (EProd EInt (EProd EInt EUnit))))) Tryz.underlying196 (by kernel_rfl) (.cons rfl (by kernel_rfl) (reads_int Tryz.underlying3) (.cons rfl (by kernel_rfl) (reads_int Tryz.underlying3) (.cons rfl (by kernel_rfl) (reads_int Tryz.underlying3) (.cons rfl (by kernel_rfl) (reads_int Tryz.underlying3) (.nil _))))) hh
  obtain ⟨_, _, _, _, rfl, rfl, ⟨rfl, rfl⟩, ⟨_, _, _, _, rfl, rfl, ⟨rfl, rfl⟩, ⟨_, _, _, _, rfl, rfl, ⟨rfl, rfl⟩, ⟨_, _, _, _, rfl, rfl, ⟨rfl, rfl⟩, ⟨rfl, rfl⟩⟩⟩⟩⟩ := hy
  exact ⟨⟨y.1, y.2.1, y.2.2.1, y.2.2.2.1⟩, [], rfl, rfl⟩
theorem reads_Receiver : Reads Tryz.prog EReceiver 42 := fun hh => by
  obtain ⟨y, F, hy⟩ := reads_struct (E := (EProd EBool (EProd EInt (EProd EReceiveWindow (EProd (ESl ERequest (by decide)) EUnit))))) Tryz.underlying42 (by kernel_rfl) (.cons rfl (by kernel_rfl) (reads_bool Tryz.underlying4) (.cons rfl (by kernel_rfl) (reads_int Tryz.underlying3) (.cons rfl (by kernel_rfl) reads_ReceiveWindow (.cons rfl (by kernel_rfl) (reads_slice Tryz.underlying40 (by kernel_rfl) (by decide) reads_Request) (.nil _))))) hh
  obtain ⟨_, _, _, _, rfl, rfl, ⟨rfl, rfl⟩, ⟨_, _, _, _, rfl, rfl, ⟨rfl, rfl⟩, ⟨_, _, _, _, rfl, rfl, ⟨u2_0, rfl, hs2_0⟩, ⟨_, _, _, _, rfl, rfl, ⟨u3, rfl, hs3⟩, ⟨rfl, rfl⟩⟩⟩⟩⟩ := hy
  exact ⟨⟨y.1, y.2.1, y.2.2.1, y.2.2.2.1⟩, _, u2_0, u3, _, _, rfl, hs2_0, hs3, rfl⟩
theorem reads_Packet : Reads Tryz.prog EPacket 63 := fun hh => by
  obtain ⟨y, F, hy⟩ := reads_struct (E := (EProd EInt (EProd EInt (EProd EInt (EProd EInt (EProd EStr EUnit)))))) Tryz.underlying63 (by kernel_rfl) (.cons rfl (by kernel_rfl) (reads_int Tryz.underlying3) (.cons rfl (by kernel_rfl) (reads_int Tryz.underlying3) (.cons rfl (by kernel_rfl) (reads_int Tryz.underlying3) (.cons rfl (by kernel_rfl) (reads_int Tryz.underlying3) (.cons rfl (by kernel_rfl) (reads_str Tryz.underlying9) (.nil _)))))) hh
  obtain ⟨_, _, _, _, rfl, rfl, ⟨rfl, rfl⟩, ⟨_, _, _, _, rfl, rfl, ⟨rfl, rfl⟩, ⟨_, _, _, _, rfl, rfl, ⟨rfl, rfl⟩, ⟨_, _, _, _, rfl, rfl, ⟨rfl, rfl⟩, ⟨_, _, _, _, rfl, rfl, ⟨rfl, s4, rfl⟩, ⟨rfl, rfl⟩⟩⟩⟩⟩⟩ := hy
  exact ⟨⟨y.1, y.2.1, y.2.2.1, y.2.2.2.1, y.2.2.2.2.1⟩, [], rfl, s4, rfl⟩
set_option maxRecDepth 100000 in
theorem lifted_HearAll (os : Os) (started : os.Started) (H : Type) (enc : TypeId × Value → H) :
    ReturnsInHanded {} Tryz.checked os 6 .any (fun w args => (Rows.fnExactHearAllSpec.pre enc Tryz.prog Tryz.f6 Rows.fnExactHearAllRow.domain false w args ∧ laidMetH Tryz.prog Rows.fnExactHearAllRow.laid w) ∧ sizedMet enc Tryz.prog Tryz.f6 (OpenSpec.ofChange Rows.fnExactHearAllSpec) false w args)
      (Rows.fnExactHearAllSpec.post enc Tryz.prog Tryz.f6 false true false false) := by
  refine returnsInHanded_of_change_and (C := Tryz.checked) (X := fun w _ => laidMetH Tryz.prog Rows.fnExactHearAllRow.laid w) (fun _ _ _ hh h => h.of_heap hh) (by kernel_rfl) started (by kernel_rfl) Tryz.func6
    (ChangeSpec.witness_shaped (enc := enc) (C := Tryz.checked) (os := os) (X := fun w _ => laidMetH Tryz.prog Rows.fnExactHearAllRow.laid w) false (World.laidAll Tryz.prog os Rows.fnExactHearAllRow.laid) #[.agg #[.bool false, .int .i64 0, .int .i64 0, .slice none 0 0, .slice none 0 0], .slice none 0 0, .int .i64 0] 8 (World.laidAll_os _ _ _)
      (World.shaped_of_ZipB (by kernel_rfl) (by kernel_rfl)) (by kernel_rfl) (by kernel_rfl) (by kernel_rfl)
      (by rw [MakeChecks.laidMetH_plain _ _ _ (by kernel_rfl)]; exact laidMet_laidAll _ (by kernel_rfl) (by kernel_rfl))) ?_
  intro W base args ds gs before hval0 hW hc_ _ hL _
  have hval : ∀ (j : Nat) t v, Tryz.f6.params[j]? = some t → args[j]? = some v → Value.okWide Tryz.prog W .any base t v := hval0
  have hW' := hW
  obtain ⟨p, q, hA0, hV, rfl, hfz, hnd⟩ := hW
  have hA : DataW.TrodAll enc Tryz.prog W 0 (fun _ => true) true Tryz.f6.params.toList args.toList ds p := hA0
  rw [Tryz.params6] at hA hval
  obtain ⟨v0, v1, v2, d0, d1, d2, p0, p1, p2, rfl, rfl, rfl, h0, h1, h2⟩ := trodAll_three hA
  obtain ⟨cs0, rfl, hsz0⟩ := okWide_struct Tryz.underlying42 (hval 0 42 v0 rfl rfl)
  obtain ⟨fuel0, hf0⟩ := h0
  obtain ⟨x0, F0, hx0⟩ := reads_Receiver hf0
  obtain ⟨a1, l1, c1, rfl⟩ := okWide_slice Tryz.underlying70 (hval 1 70 v1 rfl rfl)
  obtain ⟨fuel1, hf1⟩ := h1
  obtain ⟨x1, F1, u1, hu1, hs1⟩ := (reads_slice Tryz.underlying70 (by kernel_rfl) (by decide) reads_Packet) hf1
  obtain rfl : Value.slice a1 l1 c1 = u1 := by simpa [Value.cells] using hu1
  obtain ⟨c2, rfl⟩ := okWide_int Tryz.underlying3 (hval 2 3 v2 rfl rfl)
  refine (law_HearAll _ x0 F0 _ x1 F1 c2 W ⟨cs0.toList, by simp, by simpa [Value.cells] using hx0⟩ hs1).mono fun e W' ⟨he, hB⟩ => ⟨_, he, law_post (tb := 4) (by kernel_rfl) ?_ Tryz.underlying4 (by kernel_rfl) rfl rfl hW' hB⟩
  rw [Tryz.params6]
  intro t ht
  simp only [List.mem_cons, List.not_mem_nil, or_false] at ht
  rcases ht with rfl | rfl | rfl <;> exact ⟨by kernel_rfl, of_decide_eq_true (by kernel_rfl)⟩
end Go.Proofs.YtgogcgkocjpgoaaGreatDoor
/- The law FnExactHearAll: what is counted of the program, each count by itself. Written by wip/genlaw.py. -/
namespace Go.Proofs.YtgogcgkocjpgoaaGreatDoor
open Go.RowKit Go.ChangeShapes Go.WideShapes Go.ChangeAt
set_option maxRecDepth 100000 in
set_option maxHeartbeats 0 in
theorem jf_HearAll : joinedFacts Tryz.prog 6 Tryz.f6 Rows.fnExactHearAllSpec Rows.fnExactHearAllRow = true := by
  unfold joinedFacts
  simp only [Bool.and_eq_true]
  repeat' refine And.intro ?_ ?_
  all_goals (as_aux_lemma => kernel_rfl)
end Go.Proofs.YtgogcgkocjpgoaaGreatDoor
