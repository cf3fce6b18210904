/- Part 3 of the proof: 27 texts, one behind the other. -/
import Derived.Lib.SliceRun
import Derived.Test.YtgogcgkocjpgoaaGreatDoorM2
/- Requests: the checks. -/
namespace Go.Proofs.YtgogcgkocjpgoaaGreatDoor
open Go.RowKit
/-- a slice, its value by parts -/
theorem t_fnsl {P : Program} {f : FuncId} {α : Type} {E : Elem α} {v : Value} {xs : List α} {F : List Nat} {rest : List Value} {A M : List Pc} {σ : Type} {C : σ → Prop} {w : σ → Value} {N : σ → List Pc} (h : ∀ a c, Fn P f (.slice a xs.length c :: rest) (.sl E (.slice a xs.length c) xs F :: A) M C w N) : Fn P f (v :: rest) (.sl E v xs F :: A) M C w N := fun w0 hH hS => by
  obtain ⟨-, hs⟩ := hH (.sl E v xs F) (by simp)
  obtain ⟨a, c, rfl⟩ := hs.slice
  exact h a c w0 hH hS
theorem isDelay_f (d : Int) : Fn Tryz.prog 107 [.int .i64 d] [] [] (fun (_ : Unit) => True) (fun _ => .bool (isDel d)) (fun _ => []) := by
  refine enter Tryz.func107 rfl Tryz.ntmps107 fun w0 => ?_
  refine go ?_; intros
  refine ce (fun w s => within_c _ _ _ _) ?_
  refine go ?_; intros
  refine ret () trivial rfl
theorem l12Delay_f (d : Int) : Fn Tryz.prog 103 [.int .i64 d] [] [] (fun (_ : Unit) => True) (fun _ => .bool (isDel d)) (fun _ => []) := by
  refine enter Tryz.func103 rfl Tryz.ntmps103 fun w0 => ?_
  refine go ?_; intros
  refine ce (fun w s => l1In_c _ _ _ _) ?_
  refine go ?_; intros
  refine ret () trivial rfl
theorem isRequest_f (r : Request) (base : Int) (b0 : 0 ≤ base) (b1 : base ≤ 65535) : Fn Tryz.prog 218 [.agg #[.int .i64 r.number, .int .i64 r.state, .int .i64 r.untl, .int .i64 r.tries], .int .i64 base] [] [] (fun (_ : Unit) => True) (fun _ => .bool (okReq base r)) (fun _ => []) := by
  refine enter Tryz.func218 rfl Tryz.ntmps218 fun w0 => ?_
  refine go ?_; intros
  refine ce (fun w s => IsSerial_c _ _) ?_
  cases g1 : isSer r.number
  · refine go ?_; intros
    refine ret () trivial ?_
    simp [okReq, g1, tup]
  obtain ⟨n0, n1⟩ := isSer_iff.1 g1
  refine go ?_; intros
  refine ce (fun w s => gap_c _ _ _ (by omega) (by omega) (by omega) (by omega)) ?_
  refine go ?_; intros
  refine wg_if rfl rfl (fun g2 => ?_) (fun g2 => ?_)
  rotate_left
  · refine go ?_; intros
    refine ret () trivial ?_
    simp [okReq, g2, tup]
  refine go ?_; intros
  refine ce (fun w s => within_c _ _ _ _) ?_
  cases g3 : btw 1 r.state 3
  · refine go ?_; intros
    refine ret () trivial ?_
    simp [okReq, g3, tup]
  refine go ?_; intros
  refine ce (fun w s => within_c _ _ _ _) ?_
  cases g4 : btw 0 r.untl 10007
  · refine go ?_; intros
    refine ret () trivial ?_
    simp [okReq, g4, tup]
  refine go ?_; intros
  refine ce (fun w s => within_c _ _ _ _) ?_
  refine go ?_; intros
  refine ret () trivial ?_
  simp [okReq, g1, g2, g3, g4, tup]
set_option maxRecDepth 100000 in
theorem AreRequests_f (l : List Request) (base : Int) (v : Value) (F : List Nat) : Fn Tryz.prog 134 [v, .int .i64 base] [.sl ERequest v l F] [] (fun (_ : Unit) => True) (fun _ => .bool (areQ l base)) (fun _ => []) := by
  refine t_fnsl (fun a c => ?_)
  refine enter Tryz.func134 rfl Tryz.ntmps134 fun w0 => ?_
  refine go ?_; intros
  refine ce (fun w s => IsSerial_c _ _) ?_
  cases g1 : isSer base
  · refine go ?_; intros
    refine ret () trivial ?_
    simp [areQ, g1, tup]
  obtain ⟨b0, b1⟩ := isSer_iff.1 g1
  refine go ?_; intros
  refine c_if rfl (fun g2 => ?_) (fun g2 => ?_)
  · refine go ?_; intros
    refine ret () trivial ?_
    rw [show areQ l base = false by unfold areQ; rw [decide_eq_false (by omega)]; simp]; rfl
  refine go ?_; intros
  refine c_loopR [0, 1, 4, 15, 16] (fun k : Nat => [(17, .int .i64 (k : Nat))]) (fun k => k ≤ l.length ∧ ∀ j, j < k → chkQ l base j = true) (fun k => l.length - k) 0 ⟨Nat.zero_le _, fun j h => by omega⟩ fun k hk => ?_
  obtain ⟨hk1, hk2⟩ := hk
  refine go ?_; intros
  refine c_if rfl (fun h3 => ?_) (fun h3 => ?_)
  · have hk3 : k < l.length := by omega
    have bad : chkQ l base k = false → areQ l base = false := fun h => areQ_no hk3 h
    have hck := chkQ_at (base := base) hk3
    refine atRequest (xs := l) k ?_
    rintro hi b o e
    rw [e]
    have p4 : 0 < k → ∃ h : k - 1 < l.length, OkReq base l[k - 1] := fun h0 => by
      have hk4 : k - 1 < l.length := by omega
      have hp := hk2 (k - 1) (by omega)
      rw [chkQ_at hk4] at hp
      simp only [Bool.and_eq_true] at hp
      exact ⟨hk4, okReq_iff.1 hp.1⟩
    refine go ?_; intros
    cases g4 : okReq base l[k]
    · skip
      refine d_start [0] [] ?_
      refine dt 0 ?_
      refine dt 1 ?_
      refine dO 2 (by kernel_rfl) (by rw [List.getElem?_toArray]; rfl) ?_
      apply o_call; rfl; kernel_rfl; exact evsE
      refine cf (isRequest_f l[k] base b0 b1) fun _ _ => ?_
      refine t_app ?_
      rw [g4]
      refine dk ?_
      refine dt 3 ?_
      refine dt 4 ?_
      refine ds 5 ?_
      refine ds 6 ?_
      refine ds 7 ?_
      refine dsu 8 ?_
      refine dsu 9 ?_
      refine dsu 10 ?_
      refine dsu 11 ?_
      refine dsu 12 ?_
      refine dsu 13 ?_
      refine dsu 14 ?_
      refine dsu 15 ?_
      refine dsu 16 ?_
      refine dsu 17 ?_
      refine dsu 18 ?_
      refine dsu 19 ?_
      refine dsu 20 ?_
      refine ds 21 ?_
      refine dt 22 ?_
      refine dd ?_
      refine go ?_; intros
      refine ret () trivial ?_
      rw [bad (by rw [hck, g4]; rfl)]; rfl
    obtain ⟨q0, q1⟩ := isSer_iff.1 (okReq_iff.1 g4).n
    by_cases hk0 : 0 < k
    · obtain ⟨hk4, p5⟩ := p4 hk0
      obtain ⟨p0, p1⟩ := isSer_iff.1 p5.n
      rw [← e]
      refine atRequest (xs := l) (k - 1) ?_
      rintro hi5 b5 o5 e5
      rw [e5]
      refine d_start [0, 1] [] ?_
      refine dt 0 ?_
      refine dt 1 ?_
      refine dO 2 (by kernel_rfl) (by rw [List.getElem?_toArray]; rfl) ?_
      apply o_call; rfl; kernel_rfl; exact evsE
      refine cf (isRequest_f l[k] base b0 b1) fun _ _ => ?_
      refine t_app ?_
      rw [g4]
      refine dk ?_
      refine dt 3 ?_
      refine dt 4 ?_
      refine dtg 5 ?_
      refine dtg 6 ?_
      rw [decide_eq_true (show (0 : Int) < k by omega)]
      refine dtg 7 ?_
      refine dtg 8 ?_
      refine dtg 9 ?_
      refine dtg 10 ?_
      refine dtg 11 ?_
      rw [show (k : Int) - 1 = ((k - 1 : Nat) : Int) by omega]
      refine dtg 12 ?_
      refine dtg 13 ?_
      refine dtg 14 ?_
      refine dtg 16 ?_
      refine dtg 17 ?_
      refine dtg 18 ?_
      refine d1g 15 ?_
      apply On.h
      apply o_call; rfl; kernel_rfl; exact evsE
      refine ce (fun w s => gap_c _ _ _ (by omega) (by omega) (by omega) (by omega)) ?_
      refine dk ?_
      refine d1g 19 ?_
      apply On.h
      apply o_call; rfl; kernel_rfl; exact evsE
      refine ce (fun w s => gap_c _ _ _ (by omega) (by omega) (by omega) (by omega)) ?_
      refine dk ?_
      refine dtg 20 ?_
      refine dtg 21 ?_
      refine dt 22 ?_
      refine dd ?_
      refine go ?_; intros
      refine c_if rfl (fun h6 => ?_) (fun h6 => ?_)
      · refine go ?_; intros
        refine ret () trivial ?_
        rw [bad (by rw [hck, decide_eq_true h6, decide_eq_false (show ¬ k = 0 by omega)]; simp)]; rfl
      · refine go ?_; intros
        refine n_lp (k + 1) ⟨by omega, fun j hj => ?_⟩ (by omega)
        rcases Nat.lt_or_eq_of_le (Nat.lt_succ_iff.1 hj) with h | rfl
        · exact hk2 j h
        · rw [hck, g4, decide_eq_false h6]; simp
    · have hz : k = 0 := by omega
      refine d_start [0] [] ?_
      refine dt 0 ?_
      refine dt 1 ?_
      refine dO 2 (by kernel_rfl) (by rw [List.getElem?_toArray]; rfl) ?_
      apply o_call; rfl; kernel_rfl; exact evsE
      refine cf (isRequest_f l[k] base b0 b1) fun _ _ => ?_
      refine t_app ?_
      rw [g4]
      refine dk ?_
      refine dt 3 ?_
      refine dt 4 ?_
      refine dtg 5 ?_
      refine dtg 6 ?_
      rw [decide_eq_false (show ¬ (0 : Int) < k by omega)]
      refine dtg 7 ?_
      refine ds 8 ?_
      refine ds 9 ?_
      refine ds 10 ?_
      refine ds 11 ?_
      refine ds 12 ?_
      refine ds 13 ?_
      refine ds 14 ?_
      refine ds 15 ?_
      refine ds 16 ?_
      refine ds 17 ?_
      refine ds 18 ?_
      refine ds 19 ?_
      refine ds 20 ?_
      refine dtg 21 ?_
      refine dt 22 ?_
      refine dd ?_
      refine go ?_; intros
      refine n_lp (k + 1) ⟨by omega, fun j hj => ?_⟩ (by omega)
      rcases Nat.lt_or_eq_of_le (Nat.lt_succ_iff.1 hj) with h | rfl
      · exact hk2 j h
      · rw [hck, g4, decide_eq_true hz]; simp
  have hkl : k = l.length := by omega
  refine go ?_; intros
  refine ret () trivial ?_
  rw [areQ_yes g1 (by omega) (hkl ▸ hk2)]; rfl
set_option maxRecDepth 100000 in
theorem l12Good_f (l : List Request) (base : Int) (v : Value) (F : List Nat) : Fn Tryz.prog 190 [v, .int .i64 base] [.sl ERequest v l F] [] (fun (_ : Unit) => True) (fun _ => .bool (areQ l base)) (fun _ => []) := by
  refine t_fnsl (fun a c => ?_)
  refine enter Tryz.func190 rfl Tryz.ntmps190 fun w0 => ?_
  refine go ?_; intros
  refine ce (fun w s => l2Good_c _ _) ?_
  cases g1 : isSer base
  · refine go ?_; intros
    refine ret () trivial ?_
    simp [areQ, g1, tup]
  obtain ⟨b0, b1⟩ := isSer_iff.1 g1
  refine go ?_; intros
  refine c_if rfl (fun g2 => ?_) (fun g2 => ?_)
  · refine go ?_; intros
    refine ret () trivial ?_
    rw [show areQ l base = false by unfold areQ; rw [decide_eq_false (by omega)]; simp]; rfl
  refine go ?_; intros
  refine c_loopR [0, 1, 4] (fun k : Nat => [(5, .int .i64 (k : Nat))]) (fun k => k ≤ l.length ∧ ∀ j, j < k → chkQ l base j = true) (fun k => l.length - k) 0 ⟨Nat.zero_le _, fun j h => by omega⟩ fun k hk => ?_
  obtain ⟨hk1, hk2⟩ := hk
  refine go ?_; intros
  refine c_if rfl (fun h3 => ?_) (fun h3 => ?_)
  · have hk3 : k < l.length := by omega
    have bad : chkQ l base k = false → areQ l base = false := fun h => areQ_no hk3 h
    have hck := chkQ_at (base := base) hk3
    refine atRequest (xs := l) k ?_
    rintro hi b o e
    rw [e]
    have p4 : 0 < k → ∃ h : k - 1 < l.length, OkReq base l[k - 1] := fun h0 => by
      have hk4 : k - 1 < l.length := by omega
      have hp := hk2 (k - 1) (by omega)
      rw [chkQ_at hk4] at hp
      simp only [Bool.and_eq_true] at hp
      exact ⟨hk4, okReq_iff.1 hp.1⟩
    refine go ?_; intros
    refine ce (fun w s => l2Good_c _ _) ?_
    cases g5 : isSer l[k].number
    · refine go ?_; intros
      refine ret () trivial ?_
      rw [bad (by rw [hck, show okReq base l[k] = false by unfold okReq; simp [g5]]; rfl)]; rfl
    obtain ⟨q0, q1⟩ := isSer_iff.1 g5
    refine go ?_; intros
    refine ce (fun w s => l2Gap_c _ _ _ (by omega) (by omega)) ?_
    refine go ?_; intros
    refine wg_if rfl rfl (fun g6 => ?_) (fun g6 => ?_)
    · refine go ?_; intros
      refine ret () trivial ?_
      rw [bad (by rw [hck, show okReq base l[k] = false by unfold okReq; rw [decide_eq_false (by omega)]; simp]; rfl)]; rfl
    refine go ?_; intros
    refine ce (fun w s => l1In_c _ _ _ _) ?_
    cases g7 : btw 1 l[k].state 3
    · refine go ?_; intros
      refine ret () trivial ?_
      rw [bad (by rw [hck, show okReq base l[k] = false by unfold okReq; simp [g7]]; rfl)]; rfl
    refine go ?_; intros
    refine ce (fun w s => l1In_c _ _ _ _) ?_
    cases g8 : btw 0 l[k].untl 10007
    · refine go ?_; intros
      refine ret () trivial ?_
      rw [bad (by rw [hck, show okReq base l[k] = false by unfold okReq; simp [g8]]; rfl)]; rfl
    refine go ?_; intros
    refine ce (fun w s => l1In_c _ _ _ _) ?_
    cases g9 : btw 0 l[k].tries 3
    · refine go ?_; intros
      refine ret () trivial ?_
      rw [bad (by rw [hck, show okReq base l[k] = false by unfold okReq; simp [g9]]; rfl)]; rfl
    refine go ?_; intros
    have g4 : okReq base l[k] = true := by unfold okReq; rw [g5, g7, g8, g9, decide_eq_true (by omega)]; rfl
    by_cases hk0 : 0 < k
    · obtain ⟨hk4, p5⟩ := p4 hk0
      obtain ⟨p0, p1⟩ := isSer_iff.1 p5.n
      rw [← e]
      refine atRequest (xs := l) (k - 1) ?_
      rintro hi5 b5 o5 e5
      rw [e5]
      refine d_start [1, 0] [] ?_
      refine dt 0 ?_
      refine dt 1 ?_
      rw [decide_eq_true (show (0 : Int) < k by omega)]
      refine dt 2 ?_
      refine dtg 3 ?_
      refine dtg 4 ?_
      refine dtg 5 ?_
      refine dtg 6 ?_
      rw [show (k : Int) - 1 = ((k - 1 : Nat) : Int) by omega]
      refine dtg 7 ?_
      refine dtg 8 ?_
      refine dtg 9 ?_
      refine dtg 11 ?_
      refine dtg 12 ?_
      refine dtg 13 ?_
      refine d1g 10 ?_
      apply On.h
      apply o_call; rfl; kernel_rfl; exact evsE
      refine ce (fun w s => l2Gap_c _ _ _ (by omega) (by omega)) ?_
      refine dk ?_
      refine d1g 14 ?_
      apply On.h
      apply o_call; rfl; kernel_rfl; exact evsE
      refine ce (fun w s => l2Gap_c _ _ _ (by omega) (by omega)) ?_
      refine dk ?_
      refine dtg 15 ?_
      refine dt 16 ?_
      refine dd ?_
      refine go ?_; intros
      refine c_if rfl (fun h6 => ?_) (fun h6 => ?_)
      · refine go ?_; intros
        refine ret () trivial ?_
        rw [bad (by rw [hck, decide_eq_true h6, decide_eq_false (show ¬ k = 0 by omega)]; simp)]; rfl
      · refine go ?_; intros
        refine n_lp (k + 1) ⟨by omega, fun j hj => ?_⟩ (by omega)
        rcases Nat.lt_or_eq_of_le (Nat.lt_succ_iff.1 hj) with h | rfl
        · exact hk2 j h
        · rw [hck, g4, decide_eq_false h6]; simp
    · have hz : k = 0 := by omega
      refine d_start [0] [] ?_
      refine dt 0 ?_
      refine dt 1 ?_
      rw [decide_eq_false (show ¬ (0 : Int) < k by omega)]
      refine dt 2 ?_
      refine ds 3 ?_
      refine ds 4 ?_
      refine ds 5 ?_
      refine ds 6 ?_
      refine ds 7 ?_
      refine ds 8 ?_
      refine ds 9 ?_
      refine ds 10 ?_
      refine ds 11 ?_
      refine ds 12 ?_
      refine ds 13 ?_
      refine ds 14 ?_
      refine ds 15 ?_
      refine dt 16 ?_
      refine dd ?_
      refine go ?_; intros
      refine n_lp (k + 1) ⟨by omega, fun j hj => ?_⟩ (by omega)
      rcases Nat.lt_or_eq_of_le (Nat.lt_succ_iff.1 hj) with h | rfl
      · exact hk2 j h
      · rw [hck, g4, decide_eq_true hz]; simp
  have hkl : k = l.length := by omega
  refine go ?_; intros
  refine ret () trivial ?_
  rw [areQ_yes g1 (by omega) (hkl ▸ hk2)]; rfl
end Go.Proofs.YtgogcgkocjpgoaaGreatDoor
/- Copies of slices by the library. -/
namespace Go.Proofs.YtgogcgkocjpgoaaGreatDoor
open Go.RowKit
theorem yd_eqn {P : Program} {n : Nat} {fr : Fr} {H : List Pc} {ty t' : TypeId} {x : Operand} {t e m : Nat} [hS : SlC P t e m] {a : Option Addr} {l c : Nat} (hx : ev fr x = some (.slice a l c)) : Yd P n fr H (.binOp .eql t x (.const (.slice none 0 0)) t') ty (.bool a.isNone) := .mk fun ac w d pos aft gd hA _ => by
  have he : ac.eval (.const (.slice none 0 0)) = .slice none 0 0 := rfl
  have eg : eqGuard .eql t x (.const (.slice none 0 0)) (.slice a l c) (.slice none 0 0) = pure () := by unfold eqGuard; simp
  simp only [execOp, hA.ev hx, he, eg, Sem.run_bind, Sem.run_pure, Result.andThen_ok, Lib.run_eql_slice_nil w t e a l c 0 0 hS.u]
theorem t_none {c : Cx} {fr : Fr} {H : List Pc} {Φ : Gl} {α : Type} {E : Elem α} {n cp : Nat} {xs : List α} {F : List Nat} (h : xs = [] → T c fr H Φ) (hm : .sl E (.slice none n cp) xs F ∈ H := by (repeat (first | exact .head _ | apply List.Mem.tail)); first | done | fail) : T c fr H Φ := .mk fun ac w s g => by
  obtain ⟨-, a, cap, hv, -, ⟨rfl, -, -⟩ | ⟨b, off, F', rfl, -⟩⟩ := s.get hm
  · exact (h rfl).h ac w s g
  · cases hv

theorem ClRequest_f (xs : List Request) (a : Option Addr) (c : Nat) (F : List Nat) (hl : xs.length ≤ 1000000000) :
    Fn Tryz.prog 197 [.slice a xs.length c] [.sl ERequest (.slice a xs.length c) xs F] [] (fun (_ : Option Addr × Nat × List Nat) => True) (fun z => .slice z.1 xs.length z.2.1) (fun z => [.ow ERequest 152 (.slice z.1 xs.length z.2.1) xs z.2.2]) := by
  refine enter Tryz.func197 rfl Tryz.ntmps197 fun w0 => ?_
  refine go ?_; intros
  cases a with
  | none =>
    refine t_none (xs := xs) fun h0 => ?_
    subst h0
    apply wO; apply oc; rfl; exact yd_eqn rfl
    refine t_nilow ERequest 152 ?_
    refine go ?_; intros
    refine ret (none, 0, []) trivial rfl
  | some ad =>
    apply wO; apply oc; rfl; exact yd_eqn rfl
    refine go ?_; intros
    refine t_emp ERequest ?_
    apply wO
    refine aps one_ERequest scal_ERequest fun a2 c2 F2 => ?_
    rw [List.nil_append]
    refine go ?_; intros
    refine ret (a2, c2, F2) trivial rfl
end Go.Proofs.YtgogcgkocjpgoaaGreatDoor
/- A row of our own that is only read from here on. -/
namespace Go.Proofs.YtgogcgkocjpgoaaGreatDoor
open Go.RowKit
theorem t_rocel {c : Cx} {fr : Fr} {H S : List Pc} {Φ : Gl} {g t : Nat} {cs : List Value} (h : T c fr (.cel g 0 cs :: S) Φ) (h0 : cs ≠ []) (hp : Pick H (.row g t 0 [] cs []) S := by (repeat (first | exact .here | apply Pick.there)); first | done | fail) : T c fr H Φ := .mk fun ac w s ag => by
  have s1 := s.pick hp
  exact h.h ac w (s1.conv rfl ⟨h0, row_range (s1.on (.row g t 0 [] cs []) (by simp))⟩ (fun b hb => hb)) ag
/-- a part of a row, by itself; and back -/
theorem t_rin {c : Cx} {fr : Fr} {H S : List Pc} {Φ : Gl} {g t o k : Nat} {A B L : List Value} (X cs Y : List Value) (h : T c fr (.row g t (o + k) (A ++ X) cs (Y ++ B) :: S) Φ) (hL : L = X ++ cs ++ Y := by rfl) (hk : X.length = k := by rfl) (hp : Pick H (.row g t o A L B) S := by (repeat (first | exact .here | apply Pick.there)); first | done | fail) : T c fr H Φ := .mk fun ac w s ag => by
  subst hL hk
  have s1 := s.pick hp
  obtain ⟨hA, hr⟩ := s1.on (.row g t o A (X ++ cs ++ Y) B) (by simp)
  exact h.h ac w (s1.conv rfl ⟨by simp [hA], by simpa [List.append_assoc] using hr⟩ (fun b hb => hb)) ag
theorem t_rout {c : Cx} {fr : Fr} {H S : List Pc} {Φ : Gl} {g t o k : Nat} {A B L : List Value} (X cs Y : List Value) (h : T c fr (.row g t o A L B :: S) Φ) (hL : L = X ++ cs ++ Y := by rfl) (hk : X.length = k := by rfl) (hp : Pick H (.row g t (o + k) (A ++ X) cs (Y ++ B)) S := by (repeat (first | exact .here | apply Pick.there)); first | done | fail) : T c fr H Φ := .mk fun ac w s ag => by
  subst hL hk
  have s1 := s.pick hp
  obtain ⟨hA, hr⟩ := s1.on (.row g t (o + X.length) (A ++ X) cs (Y ++ B)) (by simp)
  exact h.h ac w (s1.conv rfl ⟨by simpa using hA, by simpa [List.append_assoc] using hr⟩ (fun b hb => hb)) ag
theorem hsub_skip {p : Pc} : ∀ (A : List Pc), HSub (p :: A) A
  | [] => .nil
  | _ :: r => .cons (.there .here) (hsub_skip r)
end Go.Proofs.YtgogcgkocjpgoaaGreatDoor
/- Receivers: the checks, copies. -/
namespace Go.Proofs.YtgogcgkocjpgoaaGreatDoor
open Go.RowKit
set_option maxRecDepth 100000 in
theorem IdxReq_f (fid : FuncId) (bd caps : List Value) (A : List Pc) (hA : A.all (fun p => !p.mu) = true) (xs : List Request) (a : Option Addr) (c : Nat) (F : List Nat) (p : Request → Bool) (hb : bodyB Tryz.prog fid = true) (hl : xs.length ≤ 1000000000)
    (hp : ∀ x ∈ xs, ∀ w, Hol A w → Calls Tryz.prog fid (bd ++ [(.agg #[.int .i64 (x).number, .int .i64 (x).state, .int .i64 (x).untl, .int .i64 (x).tries] : Value)] ++ caps).toArray w fun e w' => e = .returned (.bool (p x)) ∧ Below w.heap.size w w') :
    Fn Tryz.prog 219 [.slice a xs.length c, .func (.func fid) bd.toArray caps.toArray] (.sl ERequest (.slice a xs.length c) xs F :: A) [] (fun (_ : Unit) => True) (fun _ => .int .i64 (fidx p xs)) (fun _ => []) := by
  refine enter Tryz.func219 rfl Tryz.ntmps219 (fun w0 => ?_) rfl (by simpa [Pc.mu] using hA) .nil
  refine go ?_; intros
  refine c_loopR [0, 1, 4, 7] (fun k : Nat => [(8, .int .i64 (k : Nat))]) (fun k => k ≤ xs.length ∧ ∀ j (_ : j < k) (hj : j < xs.length), p xs[j] = false) (fun k => xs.length - k) 0 ⟨Nat.zero_le _, fun j h => by omega⟩ fun k hk => ?_
  obtain ⟨hk1, hk2⟩ := hk
  refine go ?_; intros
  refine c_if rfl (fun h5 => ?_) (fun h5 => ?_)
  · have hh : k < xs.length := by omega
    refine go ?_; intros
    refine atRequest (xs := xs) k ?_
    rintro hi b o e
    rw [e]
    refine go ?_; intros
    apply wO
    refine o_callb rfl rfl hb evsE ?_
    refine cb (fun w st => hp xs[k] (List.getElem_mem hh) w (fun q hq => st.on q (by simp [hq]))) ?_
    cases hpk : p xs[k]
    · refine go ?_; intros
      refine t_drop ?_
      refine n_lp (hH := hsub_refl _) (k + 1) ⟨hh, fun j hj h => ?_⟩ (by omega)
      rcases Nat.lt_or_eq_of_le (Nat.lt_succ_iff.1 hj) with h2 | rfl
      · exact hk2 j h2 h
      · exact hpk
    · refine go ?_; intros
      refine ret () trivial ?_
      rw [fidx_hit hh hk2 hpk]; rfl
  · obtain rfl : k = xs.length := by omega
    refine go ?_; intros
    refine ret () trivial ?_
    rw [fidx_none (fun j hj => hk2 j hj hj)]; rfl
structure DfReq where
  i : Nat
  j : Nat
  zs : List Request
set_option maxRecDepth 100000 in
theorem DelReq_f (fid : FuncId) (bd caps : List Value) (A : List Pc) (hA : A.all (fun p => !p.mu) = true) (xs : List Request) (a : Option Addr) (c : Nat) (F : List Nat) (p : Request → Bool) (hb : bodyB Tryz.prog fid = true) (hl : xs.length ≤ 1000000000)
    (hp : ∀ x ∈ xs, ∀ w, Hol A w → Calls Tryz.prog fid (bd ++ [(.agg #[.int .i64 (x).number, .int .i64 (x).state, .int .i64 (x).untl, .int .i64 (x).tries] : Value)] ++ caps).toArray w fun e w' => e = .returned (.bool (p x)) ∧ Below w.heap.size w w') :
    Fn Tryz.prog 255 [.slice a xs.length c, .func (.func fid) bd.toArray caps.toArray] A [.ow ERequest 152 (.slice a xs.length c) xs F] (fun (_ : Option Addr × Nat × List Nat) => True)
      (fun z => .slice z.1 (xs.filter fun x => !p x).length z.2.1) (fun z => [.ow ERequest 152 (.slice z.1 (xs.filter fun x => !p x).length z.2.1) (xs.filter fun x => !p x) z.2.2]) := by
  refine enter Tryz.func255 rfl Tryz.ntmps255 (fun w0 => ?_) rfl (by simpa [Pc.mu] using hA) (.cons .nil)
  refine go ?_; intros
  refine cb (fun w st => by
    obtain ⟨Fw, -, hw⟩ := (st.get (p := .ow ERequest 152 (.slice a xs.length c) xs F) (by simp)).2.read
    refine (IdxReq_f fid bd caps A hA xs a c Fw p hb hl hp).val w ?_ (by simpa [Pc.mu] using hA)
    intro q hq
    rcases List.mem_cons.1 hq with rfl | hq
    · exact ⟨by decide, hw⟩
    · exact st.on q (by simp [hq])) ?_
  by_cases hany : xs.any p = true
  · obtain ⟨i0, hi0, hfx, hpi, hfl⟩ := fidx_some hany
    rw [hfx]
    refine t_head (xs := xs) scal_ERequest (by rintro rfl; simp at hi0) ?_
    rintro g rfl rfl - hc1 hc2
    refine go ?_; intros
    refine c_loopS [0, 1, 4] (fun s : DfReq => [(5, .int .i64 (s.i : Nat)), (6, .int .i64 (s.j : Nat))]) (fun s => [.ow ERequest 152 (.slice (some ⟨g, 0, none⟩) xs.length c) s.zs [g]]) (fun s => s.zs.length = xs.length ∧ s.j ≤ xs.length ∧ s.i < s.j ∧ s.zs.take s.i = (xs.take s.j).filter (fun x => !p x) ∧ s.zs.drop s.j = xs.drop s.j) (fun s => xs.length - s.j) ⟨i0, i0 + 1, xs⟩ ⟨rfl, hi0, Nat.lt_succ_self _, by rw [filter_take_no hi0 (by simp [hpi]), hfl], rfl⟩ fun s hs => ?_
    obtain ⟨i, j, zs⟩ := s
    obtain ⟨h1, h2, h3, h4, h5⟩ := hs
    dsimp only at h1 h2 h3 h4 h5 ⊢
    refine go ?_; intros
    refine c_if rfl (fun h6 => ?_) (fun h6 => ?_)
    · have hj : j < xs.length := by omega
      have hjz : j < zs.length := by omega
      have hx : zs[j] = xs[j] := by
        have a1 := List.drop_eq_getElem_cons hjz
        have a2 := List.drop_eq_getElem_cons hj
        rw [h5, a2] at a1
        exact (List.cons.inj a1).1.symm
      have hdz : zs.drop (j + 1) = xs.drop (j + 1) := by
        rw [← List.drop_drop, h5, List.drop_drop]
      refine go ?_; intros
      refine focF (m := 4) scal_ERequest j ?_ (by repeat (first | exact .here | apply Pick.there)) rfl hjz
      rintro _ g2 A2 cs2 B2 e1 e2 hc3 hh
      cases e1
      obtain ⟨rfl, -⟩ := hc3 w0
      refine go ?_; intros
      refine unfF zs[j] hh hc3 ?_
      rw [List.set_getElem_self, hx]
      apply wO
      refine o_callb rfl rfl hb evsE ?_
      refine cb (fun w st => hp xs[j] (List.getElem_mem hj) w (fun q hq => st.on q (by simp [hq]))) ?_
      cases hpj : p xs[j]
      · refine go ?_; intros
        refine focF (m := 4) scal_ERequest i ?_ (by repeat (first | exact .here | apply Pick.there)) rfl (by omega)
        rintro _ g3 A3 cs3 B3 e1 e2 hc4 hh3
        cases e1
        obtain ⟨rfl, -⟩ := hc4 w0
        refine go ?_; intros
        refine unfF xs[j] hh3 (fun w => ⟨rfl, rfl⟩) ?_
        refine n_lp (hH := .cons .here (hsub_skip _)) (⟨i + 1, j + 1, zs.set i xs[j]⟩ : DfReq) ⟨by simp [h1], hj, Nat.succ_lt_succ h3, ?_, ?_⟩ (by dsimp only; omega)
        · dsimp only
          rw [filter_take_yes hj (by simp [hpj]), ← h4, List.take_add_one, List.getElem?_set_self (by omega), List.take_set_of_le (Nat.le_refl _)]
          rfl
        · dsimp only
          rw [List.drop_set_of_lt (by omega), hdz]
      · refine go ?_; intros
        refine n_lp (hH := .cons .here (hsub_skip _)) (⟨i, j + 1, zs⟩ : DfReq) ⟨h1, hj, Nat.lt_succ_of_lt h3, ?_, hdz⟩ (by dsimp only; omega)
        dsimp only
        rw [filter_take_no hj (by simp [hpj]), h4]
    · obtain rfl : j = xs.length := by omega
      have h4' : zs.take i = xs.filter fun x => !p x := by rw [h4, List.take_length]
      have hil : (xs.filter fun x => !p x).length = i := by rw [← h4', List.length_take]; omega
      refine go ?_; intros
      apply wO; apply oc; rfl; exact yd_slv (i := i) rfl rfl rfl (by omega) (by omega) (by omega)
      refine go ?_; intros
      apply wO
      refine o_clr (z0 := ⟨0, 0, 0, 0⟩) (n := xs.length) (cp := c) (i := i) (g := g) scal_ERequest (fun w => ⟨rfl, rfl⟩) (by decide) rfl rfl h3 h1.symm (by repeat (first | exact .here | apply Pick.there)) ?_
      refine go ?_; intros
      refine t_take (xs := zs.take i ++ List.replicate (xs.length - i) ⟨0, 0, 0, 0⟩) i (fun F2 => ?_) (by rw [List.length_append, List.length_take, List.length_replicate]; omega)
      rw [List.take_left' (by rw [List.length_take]; omega), h4']
      apply wO; apply oc; rfl; exact yd_slt (i := i) rfl rfl rfl (by omega) (by omega)
      refine go ?_; intros
      subst hil
      refine ret (_, c, F2) trivial rfl
  · obtain ⟨hfx, hfl⟩ := fidx_all hany
    rw [hfx, hfl]
    refine go ?_; intros
    refine ret (a, c, F) trivial rfl

theorem ConReq_f (fid : FuncId) (bd caps : List Value) (A : List Pc) (hA : A.all (fun p => !p.mu) = true) (xs : List Request) (a : Option Addr) (c : Nat) (F : List Nat) (p : Request → Bool) (hb : bodyB Tryz.prog fid = true) (hl : xs.length ≤ 1000000000)
    (hp : ∀ x ∈ xs, ∀ w, Hol A w → Calls Tryz.prog fid (bd ++ [(.agg #[.int .i64 (x).number, .int .i64 (x).state, .int .i64 (x).untl, .int .i64 (x).tries] : Value)] ++ caps).toArray w fun e w' => e = .returned (.bool (p x)) ∧ Below w.heap.size w w') :
    Fn Tryz.prog 135 [.slice a xs.length c, .func (.func fid) bd.toArray caps.toArray] (.sl ERequest (.slice a xs.length c) xs F :: A) [] (fun (_ : Unit) => True) (fun _ => .bool (xs.any p)) (fun _ => []) := by
  refine enter Tryz.func135 rfl Tryz.ntmps135 (fun w0 => ?_) rfl (by simpa [Pc.mu] using hA) .nil
  refine go ?_; intros
  refine cb (fun w st => (IdxReq_f fid bd caps A hA xs a c F p hb hl hp).val w (fun q hq => st.on q (by simpa using hq)) (by simpa [Pc.mu] using hA)) ?_
  refine go ?_; intros
  refine ret () trivial ?_
  rw [fidx_any]; rfl

theorem recv1_f (x : ReceiveWindow) (r : Request) (g : Nat) (b : Bool) (ck : Int) (q : Value) (a1 : Option Addr) (c1 : Nat) (F : List Nat) (h0 : 0 ≤ x.next) (h1 : x.next ≤ 65535) (n0 : 0 ≤ r.number) (n1 : r.number ≤ 65535) : Fn Tryz.prog 136 [.agg #[.int .i64 r.number, .int .i64 r.state, .int .i64 r.untl, .int .i64 r.tries], ptr g 0 0] [.cel g 0 [.bool b, .int .i64 ck, .int .i64 x.next, .slice a1 x.slots.length c1, q], .isv EReceiveWindow (.agg #[.int .i64 x.next, .slice a1 x.slots.length c1]) x F] [] (fun (_ : Unit) => True) (fun _ => .bool (hasB x r.number)) (fun _ => []) := by
  refine enter Tryz.func136 rfl Tryz.ntmps136 fun w0 => ?_
  refine go ?_; intros
  refine cf (RWhas_f x r.number _ F h0 h1 n0 n1) fun _ _ => ?_
  refine t_app ?_
  refine go ?_; intros
  refine ret () trivial rfl
set_option maxRecDepth 100000 in
theorem IsValidReceiver_f (x : Receiver) (v : Value) (F : List Nat) : Fn Tryz.prog 51 [v] [.isv EReceiver v x F] [] (fun (_ : Unit) => True) (fun _ => .bool (goodRec x)) (fun _ => []) := by
  refine enter Tryz.func51 rfl Tryz.ntmps51 fun w0 => ?_
  refine openReceiver ?_
  rintro a1 c1 F1 a2 c2 F2 rfl l1 l2
  unfold maxLen at l1 l2
  refine closeReceiveWindow x.window ?_
  generalize F1 = F3
  refine go ?_; intros
  refine ce (fun w s => isClock_c _ _) ?_
  cases g1 : isClk x.clock
  · refine go ?_; intros
    refine ret () trivial ?_
    simp [goodRec, g1, tup]
  refine go ?_; intros
  cases hs : x.started
  · have nog : zeroRec x = false → goodRec x = false := fun h => by unfold goodRec; rw [g1, hs]; simpa using h
    refine go ?_; intros
    refine wg_if rfl rfl (fun h1 => ?_) (fun h1 => ?_)
    rotate_left
    · refine go ?_; intros
      refine ret () trivial ?_
      rw [nog (by unfold zeroRec; rw [decide_eq_false h1]; rfl)]; rfl
    refine go ?_; intros
    refine wg_if rfl rfl (fun h2 => ?_) (fun h2 => ?_)
    rotate_left
    · refine go ?_; intros
      refine ret () trivial ?_
      rw [nog (by unfold zeroRec; rw [decide_eq_false (show ¬ x.window.slots.length = 0 by omega)]; simp)]; rfl
    refine go ?_; intros
    refine ret () trivial ?_
    rw [show goodRec x = decide ((x.requests.length : Int) = 0) by unfold goodRec; rw [g1, hs]; unfold zeroRec; rw [decide_eq_true h1, decide_eq_true (show x.window.slots.length = 0 by omega)]; simp]; rfl
  rename_i g
  refine t_rocel (cs := [.bool true, .int .i64 x.clock, .int .i64 x.window.next, .slice a1 x.window.slots.length c1, .slice a2 x.requests.length c2]) ?_ (by simp)
  refine go ?_; intros
  refine cf (RWgood_f x.window _ F3) fun _ _ => ?_
  refine t_app ?_
  cases g2 : goodRW x.window
  · refine go ?_; intros
    refine ret () trivial ?_
    simp [goodRec, g1, g2, hs, tup]
  obtain ⟨w0_, w1_⟩ := next_ser g2
  refine go ?_; intros
  refine cf (AreRequests_f x.requests x.window.next _ F2) fun _ _ => ?_
  refine t_app ?_
  cases g3 : areQ x.requests x.window.next
  · refine go ?_; intros
    refine ret () trivial ?_
    simp [goodRec, g1, g2, g3, hs, tup]
  obtain ⟨-, q1, q2, -⟩ := areQ_iff.1 g3
  refine go ?_; intros
  refine cb (fun w st => (ConReq_f 136 [] [ptr g 0 0] [.cel g 0 [.bool true, .int .i64 x.clock, .int .i64 x.window.next, .slice a1 x.window.slots.length c1, .slice a2 x.requests.length c2], .isv EReceiveWindow (.agg #[.int .i64 x.window.next, .slice a1 x.window.slots.length c1]) x.window F3] rfl x.requests a2 c2 F2 (fun z => hasB x.window z.number) (by kernel_rfl) (by omega) (fun z hz w hA => by
    obtain ⟨n0, n1⟩ := isSer_iff.1 (okReq_iff.1 (q2 z hz)).n
    exact (recv1_f x.window z g true x.clock _ a1 c1 F3 w0_ w1_ n0 n1).val w hA)).val w (fun q hq => by
      simp only [List.mem_cons, List.not_mem_nil, or_false] at hq
      rcases hq with rfl | rfl | rfl <;> exact st.get (by exact memE))) ?_
  refine go ?_; intros
  refine ret () trivial ?_
  rw [show goodRec x = !(x.requests.any fun z => hasB x.window z.number) by unfold goodRec freeQ; rw [g1, g2, g3, hs, List.not_any_eq_all_not]; simp]; rfl
theorem freeQ_no {x : Receiver} {k : Nat} (h : k < x.requests.length) (hh : hasB x.window x.requests[k].number = true) : freeQ x = false := List.all_eq_false.2 ⟨_, List.getElem_mem h, by simp [hh]⟩
theorem have_has {w : ReceiveWindow} {n : Int} (hw : goodRW w = true) (hn : isSer n = true) (h8 : gp w.next n < 8) : (bef n w.next || hasB w n) = hasB w n := by
  obtain ⟨w0, w1⟩ := next_ser hw
  obtain ⟨n0, n1⟩ := isSer_iff.1 hn
  have : bef n w.next = false := by
    have : ¬ (1 ≤ gp n w.next ∧ gp n w.next ≤ 32767) := by unfold gp at *; omega
    unfold bef btw
    simpa using this
  rw [this]; rfl
set_option maxRecDepth 100000 in
theorem l13Good_f (x : Receiver) (v : Value) (F : List Nat) : Fn Tryz.prog 102 [v] [.isv EReceiver v x F] [] (fun (_ : Unit) => True) (fun _ => .bool (goodRec x)) (fun _ => []) := by
  refine enter Tryz.func102 rfl Tryz.ntmps102 fun w0 => ?_
  refine openReceiver ?_
  rintro a1 c1 F1 a2 c2 F2 rfl l1 l2
  unfold maxLen at l1 l2
  refine closeReceiveWindow x.window ?_
  generalize F1 = F3
  refine go ?_; intros
  refine ce (fun w s => l11Clock_c _ _) ?_
  cases g1 : isClk x.clock
  · refine go ?_; intros
    refine ret () trivial ?_
    simp [goodRec, g1, tup]
  refine go ?_; intros
  refine cf (l10Good_f x.window _ F3) fun _ _ => ?_
  refine t_app ?_
  cases g2 : goodRW x.window
  · refine go ?_; intros
    refine ret () trivial ?_
    cases hg : goodRec x
    · rfl
    · rw [(goodR_iff.1 hg).w] at g2; cases g2
  obtain ⟨w0_, w1_⟩ := next_ser g2
  refine go ?_; intros
  refine cf (l12Good_f x.requests x.window.next _ F2) fun _ _ => ?_
  refine t_app ?_
  cases g3 : areQ x.requests x.window.next
  · refine go ?_; intros
    refine ret () trivial ?_
    cases hg : goodRec x
    · rfl
    · rw [(goodR_iff.1 hg).q] at g3; cases g3
  obtain ⟨-, q1, q2, -⟩ := areQ_iff.1 g3
  refine go ?_; intros
  cases hs : x.started
  · have nog : zeroRec x = false → goodRec x = false := fun h => by unfold goodRec; rw [g1, hs]; simpa using h
    refine go ?_; intros
    refine wg_if rfl rfl (fun h1 => ?_) (fun h1 => ?_)
    rotate_left
    · refine go ?_; intros
      refine ret () trivial ?_
      rw [nog (by unfold zeroRec; rw [decide_eq_false h1]; rfl)]; rfl
    refine go ?_; intros
    refine wg_if rfl rfl (fun h2 => ?_) (fun h2 => ?_)
    rotate_left
    · refine go ?_; intros
      refine ret () trivial ?_
      rw [nog (by unfold zeroRec; rw [decide_eq_false (show ¬ x.window.slots.length = 0 by omega)]; simp)]; rfl
    refine go ?_; intros
    refine ret () trivial ?_
    rw [show goodRec x = decide ((x.requests.length : Int) = 0) by unfold goodRec; rw [g1, hs]; unfold zeroRec; rw [decide_eq_true h1, decide_eq_true (show x.window.slots.length = 0 by omega)]; simp]; rfl
  refine go ?_; intros
  refine c_loopR [1, 2] (fun k : Nat => [(3, .int .i64 (k : Nat))]) (fun k => k ≤ x.requests.length ∧ ∀ j (_ : j < k) (h : j < x.requests.length), hasB x.window x.requests[j].number = false) (fun k => x.requests.length - k) 0 ⟨Nat.zero_le _, fun j h => by omega⟩ fun k hk => ?_
  obtain ⟨hk1, hk2⟩ := hk
  refine go ?_; intros
  refine c_if rfl (fun h3 => ?_) (fun h3 => ?_)
  · have hk3 : k < x.requests.length := by omega
    have hq := okReq_iff.1 (q2 _ (List.getElem_mem hk3))
    obtain ⟨n0, n1⟩ := isSer_iff.1 hq.n
    refine atRequest (xs := x.requests) k ?_
    rintro hi b o e
    rw [e]
    refine go ?_; intros
    refine d_start [0, 1] [] ?_
    refine dt 0 ?_
    refine dt 1 ?_
    refine dt 2 ?_
    refine dt 3 ?_
    refine dt 4 ?_
    refine dt 5 ?_
    refine dt 6 ?_
    refine dt 7 ?_
    refine dO 8 (by kernel_rfl) (by rw [List.getElem?_toArray]; rfl) ?_
    apply o_call; rfl; kernel_rfl; exact evsE
    refine cf (l10Have_f x.window x.requests[k].number _ F3 w0_ w1_ n0 n1) fun _ _ => ?_
    refine t_app ?_
    refine dk ?_
    refine dd ?_
    rw [show takeNo x.window x.requests[k].number = hasB x.window x.requests[k].number from have_has g2 hq.n hq.g]
    cases g5 : hasB x.window x.requests[k].number
    · refine go ?_; intros
      refine n_lp (k + 1) ⟨by omega, fun j hj h => ?_⟩ (by omega)
      rcases Nat.lt_or_eq_of_le (Nat.lt_succ_iff.1 hj) with h' | rfl
      · exact hk2 j h' h
      · exact g5
    · refine go ?_; intros
      refine ret () trivial ?_
      rw [show goodRec x = false by unfold goodRec; rw [g1, g2, g3, hs, freeQ_no hk3 g5]; rfl]; rfl
  have hkl : k = x.requests.length := by omega
  refine go ?_; intros
  refine ret () trivial ?_
  rw [show goodRec x = true by
    unfold goodRec freeQ; rw [g1, g2, g3, hs, List.all_eq_true.2 fun z hz => ?_]; rfl
    obtain ⟨i, hi, rfl⟩ := List.getElem_of_mem hz
    rw [hk2 i (by omega) hi]; rfl]; rfl
end Go.Proofs.YtgogcgkocjpgoaaGreatDoor
/- Requests: a tick. -/
namespace Go.Proofs.YtgogcgkocjpgoaaGreatDoor
open Go.RowKit
theorem fm_succ {α β : Type} {f : α → Option β} {l : List α} {k : Nat} (h : k < l.length) : (l.take (k + 1)).filterMap f = (l.take k).filterMap f ++ (f l[k]).toList := by
  rw [List.take_add_one, List.getElem?_eq_getElem h, List.filterMap_append]
  cases hf : f l[k] <;> simp [hf]
theorem fm_len {α β : Type} (f : α → Option β) (l : List α) (k : Nat) : ((l.take k).filterMap f).length ≤ k := by
  have := List.length_filterMap_le f (l.take k)
  rw [List.length_take] at this; omega
structure TkS where
  k : Nat
  a : Option Addr
  c : Nat
  F : List Nat
  a2 : Option Addr
  c2 : Nat
  F2 : List Nat
  a3 : Option Addr
  c3 : Nat
  F3 : List Nat
set_option maxRecDepth 100000 in
set_option maxHeartbeats 800000 in
theorem l12Tick_f (l : List Request) (c d : Int) (a0 : Option Addr) (c0 : Nat) (F : List Nat) (hl : l.length ≤ 1000000) (ht : ∀ r ∈ l, 0 ≤ r.tries ∧ r.tries ≤ 3) (c0_ : 0 ≤ c) (c1_ : c ≤ 1000000) (d0_ : -1000000 ≤ d) (d1_ : d ≤ 1000000) :
    Fn Tryz.prog 191 [.slice a0 l.length c0, .int .i64 c, .int .i64 d] [.sl ERequest (.slice a0 l.length c0) l F] [] (fun (_ : TkS) => True) (fun s => .tuple #[.slice s.a (l.filterMap (tkO c d)).length s.c, .slice s.a2 (l.filterMap (tkS c)).length s.c2, .slice s.a3 (l.filterMap (tkL c)).length s.c3]) (fun s => [.ow ERequest 152 (.slice s.a (l.filterMap (tkO c d)).length s.c) (l.filterMap (tkO c d)) s.F, .ow EInt 3 (.slice s.a2 (l.filterMap (tkS c)).length s.c2) (l.filterMap (tkS c)) s.F2, .ow EInt 3 (.slice s.a3 (l.filterMap (tkL c)).length s.c3) (l.filterMap (tkL c)) s.F3]) := by
  refine enter Tryz.func191 rfl Tryz.ntmps191 fun w0 => ?_
  refine go ?_; intros
  refine t_emp EInt ?_
  refine t_emp EInt ?_
  refine t_emp ERequest ?_
  refine c_loopS [0, 1, 2, 6, 7, 8] (fun s : TkS => [(12, .int .i64 (s.k : Nat)), (9, .slice s.a ((l.take s.k).filterMap (tkO c d)).length s.c), (10, .slice s.a2 ((l.take s.k).filterMap (tkS c)).length s.c2), (11, .slice s.a3 ((l.take s.k).filterMap (tkL c)).length s.c3)]) (fun s => [.ow ERequest 152 (.slice s.a ((l.take s.k).filterMap (tkO c d)).length s.c) ((l.take s.k).filterMap (tkO c d)) s.F, .ow EInt 3 (.slice s.a2 ((l.take s.k).filterMap (tkS c)).length s.c2) ((l.take s.k).filterMap (tkS c)) s.F2, .ow EInt 3 (.slice s.a3 ((l.take s.k).filterMap (tkL c)).length s.c3) ((l.take s.k).filterMap (tkL c)) s.F3]) (fun s => s.k ≤ l.length) (fun s => l.length - s.k) ⟨0, _, _, _, _, _, _, _, _, _⟩ (Nat.zero_le _) fun s hs => ?_
  obtain ⟨k, a4, c4, F4, a5, c5, F5, a6, c6, F6⟩ := s
  dsimp only at hs ⊢
  have h1 := fm_len (tkO c d) l k
  have h2 := fm_len (tkS c) l k
  have h3 := fm_len (tkL c) l k
  refine go ?_; intros
  refine c_if rfl (fun h4 => ?_) (fun h4 => ?_)
  · have hk : k < l.length := by omega
    obtain ⟨t0, t1⟩ := ht _ (List.getElem_mem hk)
    refine atRequest (xs := l) k ?_
    rintro hi b o e
    rw [e]
    refine go ?_; intros
    refine c_if rfl (fun h5 => ?_) (fun h5 => ?_)
    · have h5' : c < l[k].untl := by omega
      refine go ?_; intros
      have eo : ((l.take (k + 1)).filterMap (tkO c d)) = ((l.take k).filterMap (tkO c d)) ++ [l[k]] := by rw [fm_succ hk]; simp [tkO, h5']
      have es : ((l.take (k + 1)).filterMap (tkS c)) = ((l.take k).filterMap (tkS c)) := by rw [fm_succ hk]; simp [tkS, h5']
      have el : ((l.take (k + 1)).filterMap (tkL c)) = ((l.take k).filterMap (tkL c)) := by rw [fm_succ hk]; simp [tkL, h5']
      apply wO
      refine ap1 (ys := [l[k]]) (flatRequest l[k]) one_ERequest fun a7 c7 F7 => ?_
      refine go ?_; intros
      rw [← eo, ← es, ← el]
      refine n_lp (⟨k + 1, _, _, _, _, _, _, _, _, _⟩ : TkS) (by show k + 1 ≤ l.length; omega) (by show l.length - (k + 1) < l.length - k; omega)
    refine go ?_; intros
    refine c_if rfl (fun h6 => ?_) (fun h6 => ?_)
    · refine go ?_; intros
      have eo : ((l.take (k + 1)).filterMap (tkO c d)) = ((l.take k).filterMap (tkO c d)) := by rw [fm_succ hk]; simp [tkO, h5, h6]
      have es : ((l.take (k + 1)).filterMap (tkS c)) = ((l.take k).filterMap (tkS c)) := by rw [fm_succ hk]; simp [tkS, h5, h6]
      have el : ((l.take (k + 1)).filterMap (tkL c)) = ((l.take k).filterMap (tkL c)) ++ [l[k].number] := by rw [fm_succ hk]; simp [tkL, h5, h6]
      apply wO
      refine ap1 (ys := [l[k].number]) (rep_int _) one_EInt fun a8 c8 F8 => ?_
      refine go ?_; intros
      rw [← eo, ← es, ← el]
      refine n_lp (⟨k + 1, _, _, _, _, _, _, _, _, _⟩ : TkS) (by show k + 1 ≤ l.length; omega) (by show l.length - (k + 1) < l.length - k; omega)
    refine go ?_; intros
    refine c_if rfl (fun h7 => ?_) (fun h7 => ?_)
    · refine go ?_; intros
      have eo : ((l.take (k + 1)).filterMap (tkO c d)) = ((l.take k).filterMap (tkO c d)) ++ [(⟨l[k].number, 2, c + 3, l[k].tries + 1⟩ : Request)] := by rw [fm_succ hk]; simp [tkO, h5, h6, h7]
      have es : ((l.take (k + 1)).filterMap (tkS c)) = ((l.take k).filterMap (tkS c)) ++ [l[k].number] := by rw [fm_succ hk]; simp [tkS, h5, h6, h7]
      have el : ((l.take (k + 1)).filterMap (tkL c)) = ((l.take k).filterMap (tkL c)) := by rw [fm_succ hk]; simp [tkL, h5, h6, h7]
      apply wO
      refine ap1 (ys := [l[k].number]) (rep_int _) one_EInt fun a8 c8 F8 => ?_
      refine go ?_; intros
      apply wO
      refine ap1 (ys := [(⟨l[k].number, 2, c + 3, l[k].tries + 1⟩ : Request)]) (flatRequest (⟨l[k].number, 2, c + 3, l[k].tries + 1⟩ : Request)) one_ERequest fun a7 c7 F7 => ?_
      refine go ?_; intros
      rw [← eo, ← es, ← el]
      refine n_lp (⟨k + 1, _, _, _, _, _, _, _, _, _⟩ : TkS) (by show k + 1 ≤ l.length; omega) (by show l.length - (k + 1) < l.length - k; omega)
    · refine go ?_; intros
      have eo : ((l.take (k + 1)).filterMap (tkO c d)) = ((l.take k).filterMap (tkO c d)) ++ [(⟨l[k].number, 1, c + d, l[k].tries⟩ : Request)] := by rw [fm_succ hk]; simp [tkO, h5, h6, h7]
      have es : ((l.take (k + 1)).filterMap (tkS c)) = ((l.take k).filterMap (tkS c)) := by rw [fm_succ hk]; simp [tkS, h5, h6, h7]
      have el : ((l.take (k + 1)).filterMap (tkL c)) = ((l.take k).filterMap (tkL c)) := by rw [fm_succ hk]; simp [tkL, h5, h6, h7]
      apply wO
      refine ap1 (ys := [(⟨l[k].number, 1, c + d, l[k].tries⟩ : Request)]) (flatRequest (⟨l[k].number, 1, c + d, l[k].tries⟩ : Request)) one_ERequest fun a7 c7 F7 => ?_
      refine go ?_; intros
      rw [← eo, ← es, ← el]
      refine n_lp (⟨k + 1, _, _, _, _, _, _, _, _, _⟩ : TkS) (by show k + 1 ≤ l.length; omega) (by show l.length - (k + 1) < l.length - k; omega)
  · obtain rfl : k = l.length := by omega
    rw [List.take_length]
    refine go ?_; intros
    refine ret ⟨0, _, _, _, _, _, _, _, _, _⟩ trivial rfl
end Go.Proofs.YtgogcgkocjpgoaaGreatDoor
/- Receivers: a tick of the program. -/
namespace Go.Proofs.YtgogcgkocjpgoaaGreatDoor
open Go.RowKit
set_option maxRecDepth 100000 in
theorem Rclone_f (x : Receiver) (v : Value) (F : List Nat) (hl : x.window.slots.length ≤ 1000000000) (hl2 : x.requests.length ≤ 1000000000) : Fn Tryz.prog 108 [v] [.isv EReceiver v x F] [] (fun (_ : Value × List Nat) => True) (fun s => s.1) (fun s => [.own OReceiver s.1 x s.2]) := by
  refine enter Tryz.func108 rfl Tryz.ntmps108 fun w0 => ?_
  refine openReceiver ?_
  rintro a1 c1 F1 a2 c2 F2 rfl l1 l2
  refine closeReceiveWindow x.window ?_
  generalize F1 = F3
  refine go ?_; intros
  refine cf (RWclone_f x.window _ F3 (by omega)) fun z _ => ?_
  refine t_app ?_
  refine go ?_; intros
  refine cf (ClRequest_f x.requests a2 c2 F2 hl2) fun q _ => ?_
  refine t_app ?_
  refine go ?_; intros
  refine closeOReceiver x ?_
  refine ret (_, _) trivial rfl
theorem tkReq_len (r : Receiver) (d : Int) : (tkReq r d).length ≤ r.requests.length := List.length_filterMap_le _ _
theorem tkLost_len (r : Receiver) : (tkLost r).length ≤ r.requests.length := List.length_filterMap_le _ _
theorem tickR_no {r : Receiver} {d : Int} (h : tkLost r = []) : tickRec r d = ⟨r.started, r.clock + 1, r.window, tkReq r d⟩ := if_pos h
theorem tickR_yes {r : Receiver} {d : Int} (h : tkLost r ≠ []) : tickRec r d = ⟨r.started, r.clock + 1, movedW r.window (lostTrail (tkLost r)), noBef (tkReq r d) (movedW r.window (lostTrail (tkLost r))).next⟩ := if_neg h
theorem tickE_no {r : Receiver} (h : tkLost r = []) : tickEv r = [] := if_pos h
theorem tickE_yes {r : Receiver} (h : tkLost r ≠ []) : tickEv r = movedE r.window (lostTrail (tkLost r)) := if_neg h
theorem lost_last {l : List Int} (h : l ≠ []) : lostTrail l = aft (l[l.length - 1]'(by have := List.length_pos_iff.2 h; omega)) 1 := by
  unfold lostTrail
  rw [List.getLastD_eq_getLast?, List.getLast?_eq_getElem?, List.getElem?_eq_getElem (by have := List.length_pos_iff.2 h; omega)]
  rfl
theorem good_items {x : ReceiveWindow} (hg : goodRW x = true) : x.slots.length ≤ 8 ∧ ∀ s ∈ x.slots, s.item.size ≤ 8 := by
  have hg0 := hg
  unfold goodRW at hg
  simp only [Bool.and_eq_true, decide_eq_true_eq] at hg
  refine ⟨by have := hg.1.1.2; omega, fun s hs => ?_⟩
  have := List.all_eq_true.1 hg.1.2 s hs
  unfold okSlot at this
  simp only [Bool.and_eq_true] at this
  exact itm_size this.1
structure PkS where
  k : Nat
  a : Option Addr
  c : Nat
  F : List Nat
structure TkR where
  a1 : Option Addr
  c1 : Nat
  F1 : List Nat
  a2 : Option Addr
  c2 : Nat
  F2 : List Nat
  a3 : Option Addr
  c3 : Nat
  F3 : List Nat
  a4 : Option Addr
  c4 : Nat
  F4 : List Nat
end Go.Proofs.YtgogcgkocjpgoaaGreatDoor
/- Receivers: a tick of the reference. -/
namespace Go.Proofs.YtgogcgkocjpgoaaGreatDoor
open Go.RowKit
structure OwnS where
  g : Nat
  a : Option Addr
  c : Nat
  F : List Nat
set_option maxRecDepth 100000 in
theorem l13Own_f (x : Receiver) (v : Value) (F : List Nat) (hl : x.window.slots.length ≤ 1000000000) (hl2 : x.requests.length ≤ 1000000000) : Fn Tryz.prog 120 [v] [.isv EReceiver v x F] [] (fun (_ : Value × List Nat) => True) (fun s => s.1) (fun s => [.own OReceiver s.1 x s.2]) := by
  refine enter Tryz.func120 rfl Tryz.ntmps120 fun w0 => ?_
  refine openReceiver ?_
  rintro a1 c1 F1 a2 c2 F2 rfl l1 l2
  refine go ?_; intros
  refine c_joinS [1, 2] [0, 1, 2, 3, 4] (fun s : OwnS => [(3, ptr s.g 0 0)]) (fun s => [.row s.g 46 0 [] [.int .i64 x.window.next, .slice s.a x.window.slots.length s.c] [], .ow ESlot 213 (.slice s.a x.window.slots.length s.c) x.window.slots s.F]) (fun _ => True) ?_ fun s _ => ?_
  · skip
    refine d_start [1] [] ?_
    refine dt 0 ?_
    refine dt 1 ?_
    refine dt 2 ?_
    refine dt 4 ?_
    refine dt 5 ?_
    refine dt 6 ?_
    refine dO2 3 9 (by kernel_rfl) (by rw [List.getElem?_toArray]; rfl) (by rw [List.getElem?_toArray]; rfl) ?_ ?_
    · apply o_bs0; rfl; intro _
      refine t_emp ESlot ?_
      refine dk ?_
      refine dO2 7 9 (by kernel_rfl) (by rw [List.getElem?_toArray]; rfl) (by rw [List.getElem?_toArray]; rfl) ?_ ?_
      · refine aps one_ESlot scal_ESlot fun a5 c5 F5 => ?_
        rw [List.nil_append]
        refine dk ?_
        refine dt 8 ?_
        refine dO 9 (by kernel_rfl) (by rw [List.getElem?_toArray]; rfl) ?_
        apply o_alloc; rfl; intro _
        refine dk ?_
        refine dO 10 (by kernel_rfl) (by rw [List.getElem?_toArray]; rfl) ?_
        apply o_st; rfl; rfl; rfl; (first | exact AggC.s | exact OneC.s); rfl; exact rplE; exact putE; rfl
        refine dk ?_
        refine dd ?_
        refine n_join (⟨_, _, _, _⟩ : OwnS) trivial
      · apply o_alloc; rfl; intro _
        refine dk ?_
        refine dO 7 (by kernel_rfl) (by rw [List.getElem?_toArray]; rfl) ?_
        refine aps one_ESlot scal_ESlot fun a5 c5 F5 => ?_
        rw [List.nil_append]
        refine dk ?_
        refine dt 8 ?_
        refine dO 10 (by kernel_rfl) (by rw [List.getElem?_toArray]; rfl) ?_
        apply o_st; rfl; rfl; rfl; (first | exact AggC.s | exact OneC.s); rfl; exact rplE; exact putE; rfl
        refine dk ?_
        refine dd ?_
        refine n_join (⟨_, _, _, _⟩ : OwnS) trivial
    · apply o_alloc; rfl; intro _
      refine dk ?_
      refine dO 3 (by kernel_rfl) (by rw [List.getElem?_toArray]; rfl) ?_
      apply o_bs0; rfl; intro _
      refine t_emp ESlot ?_
      refine dk ?_
      refine dO 7 (by kernel_rfl) (by rw [List.getElem?_toArray]; rfl) ?_
      refine aps one_ESlot scal_ESlot fun a5 c5 F5 => ?_
      rw [List.nil_append]
      refine dk ?_
      refine dt 8 ?_
      refine dO 10 (by kernel_rfl) (by rw [List.getElem?_toArray]; rfl) ?_
      apply o_st; rfl; rfl; rfl; (first | exact AggC.s | exact OneC.s); rfl; exact rplE; exact putE; rfl
      refine dk ?_
      refine dd ?_
      refine n_join (⟨_, _, _, _⟩ : OwnS) trivial
  obtain ⟨g3, a5, c5, F5⟩ := s
  dsimp only
  refine go ?_; intros
  refine d_start [0, 3] [] ?_
  refine dt 0 ?_
  refine dt 1 ?_
  refine dt 2 ?_
  refine dt 3 ?_
  refine dt 4 ?_
  refine dt 6 ?_
  refine dt 7 ?_
  refine dO 5 (by kernel_rfl) (by rw [List.getElem?_toArray]; rfl) ?_
  apply o_bs0; rfl; intro _
  refine t_emp ERequest ?_
  refine dk ?_
  refine dO 8 (by kernel_rfl) (by rw [List.getElem?_toArray]; rfl) ?_
  refine aps one_ERequest scal_ERequest fun a6 c6 F6 => ?_
  rw [List.nil_append]
  refine dk ?_
  refine dt 9 ?_
  refine dO 10 (by kernel_rfl) (by rw [List.getElem?_toArray]; rfl) ?_
  apply o_st; rfl; rfl; rfl; (first | exact AggC.s | exact OneC.s); rfl; exact rplE; exact putE; rfl
  refine dk ?_
  refine dd ?_
  refine go ?_; intros
  refine closeOReceiver x ?_
  refine ret (_, _) trivial rfl
set_option maxRecDepth 100000 in
theorem l13Needed_f (l : List Request) (w : ReceiveWindow) (a : Option Addr) (c : Nat) (F : List Nat) (v : Value) (Fw : List Nat) (hl : l.length ≤ 1000000) (hs : ∀ q ∈ l, isSer q.number = true) (w0_ : 0 ≤ w.next) (w1_ : w.next ≤ 65535) : Fn Tryz.prog 193 [.slice a l.length c, v] [.sl ERequest (.slice a l.length c) l F, .isv EReceiveWindow v w Fw] [] (fun (_ : Option Addr × Nat × List Nat) => True) (fun z => .slice z.1 (needed l w).length z.2.1) (fun z => [.ow ERequest 152 (.slice z.1 (needed l w).length z.2.1) (needed l w) z.2.2]) := by
  refine enter Tryz.func193 rfl Tryz.ntmps193 fun w0 => ?_
  refine openReceiveWindow ?_
  rintro a1 c1 F1 rfl l1
  refine go ?_; intros
  refine t_emp ERequest ?_
  refine c_loopS [0, 3, 4] (fun s : PkS => [(6, .int .i64 (s.k : Nat)), (5, .slice s.a (needed (l.take s.k) w).length s.c)]) (fun s => [.ow ERequest 152 (.slice s.a (needed (l.take s.k) w).length s.c) (needed (l.take s.k) w) s.F]) (fun s => s.k ≤ l.length) (fun s => l.length - s.k) ⟨0, _, _, _⟩ (Nat.zero_le _) fun s hk => ?_
  obtain ⟨k, a4, c4, F4⟩ := s
  dsimp only at hk ⊢
  refine go ?_; intros
  refine c_if rfl (fun h4 => ?_) (fun h4 => ?_)
  · have hk : k < l.length := by omega
    have hkl : (needed (l.take k) w).length ≤ k := Nat.le_trans (List.length_filter_le _ _) (by rw [List.length_take]; omega)
    have hsk := hs _ (List.getElem_mem hk)
    obtain ⟨n0, n1⟩ := isSer_iff.1 hsk
    have en : ∀ b, (!(bef l[k].number w.next || hasB w l[k].number) && decide (gp w.next l[k].number < 8)) = b → needed (l.take (k + 1)) w = needed (l.take k) w ++ if b then [l[k]] else [] := fun b hb => by
      unfold needed
      rw [List.take_add_one, List.getElem?_eq_getElem hk, List.filter_append]
      congr 1
      show ([l[k]].filter _) = _
      rw [List.filter_cons, List.filter_nil, hb]
    refine atRequest (xs := l) k ?_
    rintro hi b o e
    rw [e]
    refine go ?_; intros
    cases g5 : (bef l[k].number w.next || hasB w l[k].number)
    · skip
      refine d_start [0, 2] [] ?_
      refine dt 0 ?_
      refine dt 1 ?_
      refine dt 2 ?_
      refine dt 3 ?_
      refine dt 4 ?_
      refine dt 5 ?_
      refine dO 6 (by kernel_rfl) (by rw [List.getElem?_toArray]; rfl) ?_
      apply o_call; rfl; kernel_rfl; exact evsE
      refine cf (l10Have_f w l[k].number _ Fw w0_ w1_ n0 n1) fun _ _ => ?_
      refine t_app ?_
      rw [show takeNo w l[k].number = (bef l[k].number w.next || hasB w l[k].number) from rfl, g5]
      refine dk ?_
      refine dt 7 ?_
      refine dt 8 ?_
      refine dtg 9 ?_
      refine dtg 10 ?_
      refine dtg 11 ?_
      refine dtg 12 ?_
      refine dtg 13 ?_
      refine dtg 14 ?_
      refine dtg 15 ?_
      refine d1g 16 ?_
      apply On.h
      apply o_call; rfl; kernel_rfl; exact evsE
      refine ce (fun w s => l2Gap_c _ _ _ (by omega) (by omega)) ?_
      refine dk ?_
      refine dtg 17 ?_
      refine dt 18 ?_
      refine dd ?_
      refine go ?_; intros
      refine c_if rfl (fun h6 => ?_) (fun h6 => ?_)
      · have e1 := en true (by rw [g5, decide_eq_true h6]; rfl)
        refine go ?_; intros
        apply wO
        refine ap1 (ys := [l[k]]) (flatRequest l[k]) one_ERequest fun a7 c7 F7 => ?_
        refine go ?_; intros
        rw [show needed (l.take k) w ++ [l[k]] = needed (l.take (k + 1)) w from e1.symm]
        refine n_lp (⟨k + 1, _, _, _⟩ : PkS) (by show k + 1 ≤ l.length; omega) (by show l.length - (k + 1) < l.length - k; omega)
      · have e1 := en false (by rw [g5, decide_eq_false h6]; rfl)
        refine go ?_; intros
        rw [show needed (l.take k) w = needed (l.take (k + 1)) w by rw [e1]; simp]
        refine n_lp (⟨k + 1, _, _, _⟩ : PkS) (by show k + 1 ≤ l.length; omega) (by show l.length - (k + 1) < l.length - k; omega)
    · skip
      refine d_start [0, 2] [] ?_
      refine dt 0 ?_
      refine dt 1 ?_
      refine dt 2 ?_
      refine dt 3 ?_
      refine dt 4 ?_
      refine dt 5 ?_
      refine dO 6 (by kernel_rfl) (by rw [List.getElem?_toArray]; rfl) ?_
      apply o_call; rfl; kernel_rfl; exact evsE
      refine cf (l10Have_f w l[k].number _ Fw w0_ w1_ n0 n1) fun _ _ => ?_
      refine t_app ?_
      rw [show takeNo w l[k].number = (bef l[k].number w.next || hasB w l[k].number) from rfl, g5]
      refine dk ?_
      refine dt 7 ?_
      refine dt 8 ?_
      refine ds 9 ?_
      refine ds 10 ?_
      refine ds 11 ?_
      refine ds 12 ?_
      refine ds 13 ?_
      refine ds 14 ?_
      refine ds 15 ?_
      refine ds 16 ?_
      refine ds 17 ?_
      refine dt 18 ?_
      refine dd ?_
      have e1 := en false (by rw [g5]; rfl)
      refine go ?_; intros
      rw [show needed (l.take k) w = needed (l.take (k + 1)) w by rw [e1]; simp]
      refine n_lp (⟨k + 1, _, _, _⟩ : PkS) (by show k + 1 ≤ l.length; omega) (by show l.length - (k + 1) < l.length - k; omega)
  have hk : k = l.length := by omega
  subst hk
  rw [List.take_length]
  refine go ?_; intros
  refine ret (_, _, _) trivial rfl
end Go.Proofs.YtgogcgkocjpgoaaGreatDoor
/- Regions that draw: pure operations that may stand behind a store. -/
namespace Go.Proofs.YtgogcgkocjpgoaaGreatDoor
open Go.RowKit
section
variable {c : Cx} {fr : Fr} {H H0 : List Pc} {k : List It} {X : List Nat} {ops : Array Oper} {f : Nat} {listed : Array Bool} {d : Nat} {o : Op} {ty : TypeId} {pos : String} {aft : Array Edge} {v : Value}
theorem dtp (i : Nat) (h : T c ((d, v) :: fr) H (.dx k H0 X ops f (listed.setIfInBounds i true))) (ho : ops[i]? = some ⟨some d, o, ty, pos, aft, none⟩ := by rw [List.getElem?_toArray]; rfl) (hy : Yd c.P c.n fr [] o ty v := by exact ydE) (hX : X.contains i = true := by rfl)
    (h1 : Region.noSelect ops = true := by kernel_rfl) (h2 : Region.free .any ops listed i = true := by kernel_rfl) (h3 : (Region.ready .any ops listed).contains i = true := by kernel_rfl) (hR : PanOk c := by exact panOk) (hd : Nat.blt d c.n = true := by rfl) :
    T c fr H (.dx k H0 X ops (f + 1) listed) := .mk fun a w s g =>
  AnyX.takeP (v := v) ho h1 h2 h3 hX (fun ch a w hp => by rw [run_panic] at hp ⊢; exact hR _ _ _ _ _ hp) (.inl ⟨rfl, fun w' _ => hy.h a w' _ _ _ _ g (by intro p hp; simp at hp)⟩) (h.h _ _ s (g.put hd))
/-- ways that meet behind a region and the test that follows it -/
theorem c_join2 {c : Cx} {fr : Fr} {H : List Pc} {k : List It} {x y : Code} {σ : Type} {cst : Fr} {rest : List Pc} (ks rs : List Nat) (upd : σ → Fr) (chg : σ → List Pc) (C : σ → Prop) (h : T c fr H (.code (.cd y :: .lp (Jn c (fun s => upd s ++ cst) (fun s => chg s ++ rest) C) :: k) x)) (h2 : ∀ s, C s → T c (upd s ++ cst) (chg s ++ rest) (.norm k))
    (_hk : Kf fr ks cst := by repeat (first | exact Kf.nil | apply Kf.cons (by rfl))) (_hr : Sel H rs rest := by repeat constructor) : T c fr H (.code (.cd y :: k) x) := .mk fun a w s g => by
  refine wp_mono (h.h a w s g) fun e a1 w1 he => ?_
  cases e with
  | normal =>
    refine wp_mono he fun e a2 w2 he => ?_
    cases e with
    | normal => obtain ⟨s, hC, hs, hg⟩ := he; exact (h2 s hC).h a2 w2 hs hg
    | _ => exact he
  | _ => exact he
end
end Go.Proofs.YtgogcgkocjpgoaaGreatDoor
/- Draws, for the engine: packets that a receiver may hear, delays. -/
namespace Go.Proofs.YtgogcgkocjpgoaaGreatDoor
open Go.RowKit
structure HdS where
  t : Int
  l : Int
  s : CuS
structure HdOk (B : Nat) (z : HdS) : Prop where
  t : 0 ≤ z.t ∧ z.t ≤ 65535
  l : 0 ≤ z.l ∧ z.l ≤ 65535
  g : gp z.t z.l ≤ 20
  s : CuOk B z.s
set_option maxRecDepth 100000 in
theorem heard_f (B g : Nat) (F : CuF) (s : CuS) (x : Receiver) (v : Value) (Fx : List Nat) (ok : CuOk B s) (hB : B ≤ 700000000000) :
    Fn Tryz.prog 148 [ptr g 0 0, v] [.sl EByte (.slice F.a F.code.length F.c) F.code F.bs, .isv EReceiver v x Fx] [.row g 123 0 [] [.slice F.a F.code.length F.c, .int .i64 (s.k : Nat), .int .u64 s.seed] []] (fun (z : Packet × CuS) => goodPk z.1 = true ∧ CuOk (B + 100) z.2) (fun s => .agg #[.int .i64 s.1.kind, .int .i64 s.1.number, .int .i64 s.1.trail, .int .i64 s.1.lead, .string s.1.data]) (fun s => [.row g 123 0 [] [.slice F.a F.code.length F.c, .int .i64 (s.2.k : Nat), .int .u64 s.2.seed] []]) := by
  refine enter Tryz.func148 rfl Tryz.ntmps148 fun w0 => ?_
  refine openReceiver (v := v) (x := x) (F := Fx) ?_
  rintro a1 c1 F1 a2 c2 F2 rfl l1 l2
  cases hs : x.started
  · refine go ?_; intros
    refine cf (packetG_f _ g F s ok (by omega)) fun z hz => ?_
    refine t_app ?_
    refine go ?_; intros
    refine ret z ⟨hz.1, hz.2.mono (by omega)⟩ rfl
  refine go ?_; intros
  refine ce (fun w s => l2Good_c _ _) ?_
  cases g1 : isSer x.window.next
  · refine go ?_; intros
    refine cf (packetG_f _ g F s ok (by omega)) fun z hz => ?_
    refine t_app ?_
    refine go ?_; intros
    refine ret z ⟨hz.1, hz.2.mono (by omega)⟩ rfl
  obtain ⟨n0, n1⟩ := isSer_iff.1 g1
  refine go ?_; intros
  refine cf (one_f B g F 8 s ok (by omega) (by omega)) fun q hq => ?_
  refine t_app ?_
  obtain ⟨b, s1⟩ := q
  obtain ⟨-, hq⟩ := hq
  dsimp only at hq ⊢
  cases b
  rotate_left
  · refine go ?_; intros
    refine cf (packetG_f _ g F s1 hq (by omega)) fun z hz => ?_
    refine t_app ?_
    refine go ?_; intros
    refine ret z ⟨hz.1, hz.2.mono (by omega)⟩ rfl
  refine goN ?_; intros
  refine t_row (xs := [1, 1, 1, 2, 2, 4, 5]) (fun w => flat_int w _) ?_ (by decide)
  refine t_read (E := EInt) fun G => ?_
  refine go ?_; intros
  refine cf (among_f _ g F _ [1, 1, 1, 2, 2, 4, 5] G s1 hq (by omega) (by decide) (by decide)) fun q hq => ?_
  refine t_app ?_
  obtain ⟨k, s2⟩ := q
  obtain ⟨hk, h2⟩ := hq
  dsimp only at hk h2 ⊢
  have hk : k = 1 ∨ k = 2 ∨ k = 4 ∨ k = 5 := by simp only [List.mem_cons, List.not_mem_nil, or_false] at hk; omega
  refine go ?_; intros
  refine cf (pick_f _ g F 10 s2 h2 (by omega) (by omega)) fun y hy => ?_
  refine t_app ?_
  obtain ⟨k3, s3⟩ := y
  obtain ⟨r3, h3⟩ := hy
  dsimp only at r3 h3 ⊢
  have r3 : k3 ≤ 9 := by omega
  refine go ?_; intros
  refine ce (fun w s => l2After_c _ _ _ (by omega) (by omega)) ?_
  refine go ?_; intros
  refine cf (pick_f _ g F 5 s3 h3 (by omega) (by omega)) fun y hy => ?_
  refine t_app ?_
  obtain ⟨k4, s4⟩ := y
  obtain ⟨r4, h4⟩ := hy
  dsimp only at r4 h4 ⊢
  have r4 : k4 ≤ 4 := by omega
  refine go ?_; intros
  refine ce (fun w s => l2After_c _ _ _ (by omega) (by omega)) ?_
  refine go ?_; intros
  rename_i gq
  refine cf (pick_f _ g F 9 s4 h4 (by omega) (by omega)) fun y hy => ?_
  refine t_app ?_
  obtain ⟨k5, s5⟩ := y
  obtain ⟨r5, h5⟩ := hy
  dsimp only at r5 h5 ⊢
  have r5 : k5 ≤ 8 := by omega
  refine go ?_; intros
  refine ce (fun w s => l2After_c _ _ _ (by omega) (by omega)) ?_
  refine go ?_; intros
  refine cf (one_f _ g F 12 s5 h5 (by omega) (by omega)) fun q hq => ?_
  refine t_app ?_
  obtain ⟨b, s6⟩ := q
  obtain ⟨-, h6⟩ := hq
  dsimp only at h6 ⊢
  refine go ?_; intros
  refine c_joinS [0, 4, 5, 6] [3, 7] (fun _ : HdS => []) (fun z => [.row gq 67 0 [] [.int .i64 k, .int .i64 (aft x.window.next ((k3 : Nat) - 1)), .int .i64 z.t, .int .i64 z.l, .string ⟨#[]⟩] [], .row g 123 0 [] [.slice F.a F.code.length F.c, .int .i64 (z.s.k : Nat), .int .u64 z.s.seed] []]) (HdOk (B + 40)) ?_ fun z hz => ?_
  · cases b
    · refine go ?_; intros
      refine n_join (⟨aft x.window.next ((k4 : Nat) - 3), aft x.window.next (1 + (k5 : Nat)), s6⟩ : HdS) ⟨aft_bd _ _, aft_bd _ _, by show gp (aft x.window.next ((k4 : Nat) - 3)) (aft x.window.next (1 + (k5 : Nat))) ≤ 20; unfold gp aft; omega, h6.mono (by omega)⟩
    refine go ?_; intros
    refine cf (pick_f _ g F 6 s6 h6 (by omega) (by omega)) fun y hy => ?_
    refine t_app ?_
    obtain ⟨k7, s7⟩ := y
    obtain ⟨r7, h7⟩ := hy
    dsimp only at r7 h7 ⊢
    have r7 : k7 ≤ 5 := by omega
    refine go ?_; intros
    refine ce (fun w s => l2After_c _ _ _ (by omega) (by omega)) ?_
    refine goN ?_; intros
    refine d_start [1] [6] ?_
    refine dt 0 ?_
    refine dt 1 ?_
    refine dt 2 ?_
    refine dO 3 (by kernel_rfl) (by rw [List.getElem?_toArray]; rfl) ?_
    apply o_call; rfl; kernel_rfl; exact evsE
    refine cf (pick_f _ g F 6 s7 h7 (by omega) (by omega)) fun y8 hy8 => ?_
    refine t_app ?_
    obtain ⟨k8, s8⟩ := y8
    obtain ⟨r8, h8⟩ := hy8
    dsimp only at r8 h8 ⊢
    have r8 : k8 ≤ 5 := by omega
    refine dk ?_
    refine dO 4 (by kernel_rfl) (by rw [List.getElem?_toArray]; rfl) ?_
    apply o_call; rfl; kernel_rfl; exact evsE
    have hb7 := aft_bd x.window.next (6 + ((k7 : Nat) : Int))
    refine ce (fun w s => l2After_c _ _ _ (by omega) (by omega)) ?_
    refine dk ?_
    refine dt 5 ?_
    refine dO 6 (by kernel_rfl) (by rw [List.getElem?_toArray]; rfl) ?_
    apply o_st; rfl; rfl; rfl; (first | exact AggC.s | exact OneC.s); rfl; exact rplE; exact putE; rfl
    refine dkx ?_
    refine dd ?_
    refine go ?_; intros
    refine n_join (⟨aft x.window.next (6 + (k7 : Nat)), aft (aft x.window.next (6 + (k7 : Nat))) (k8 : Nat), s8⟩ : HdS) ⟨aft_bd _ _, aft_bd _ _, by show gp (aft x.window.next (6 + (k7 : Nat))) (aft (aft x.window.next (6 + (k7 : Nat))) (k8 : Nat)) ≤ 20; unfold gp aft; omega, h8.mono (by omega)⟩
  obtain ⟨z1, z2, z3, z4⟩ := hz
  refine go ?_; intros
  refine c_if rfl (fun h9 => ?_) (fun h9 => ?_)
  · refine go ?_; intros
    refine cf (letters_f _ g F z.s 3 z4 (by omega) (by omega) (by omega)) fun l hl => ?_
    refine t_app ?_
    obtain ⟨⟨-, hl1, hl2⟩, hl3⟩ := hl
    refine go ?_; intros
    refine ret (⟨k, aft x.window.next ((k3 : Nat) - 1), z.t, z.l, l.1⟩, l.2) ⟨goodPk_mk (by omega) (aft_ser _ _) (isSer_iff.2 z1) (isSer_iff.2 z2) (by omega) (itm_mk (by omega) hl2) (.inr h9), hl3.mono (by omega)⟩ rfl
  · refine go ?_; intros
    refine ret (⟨k, aft x.window.next ((k3 : Nat) - 1), z.t, z.l, ⟨#[]⟩⟩, z.s) ⟨goodPk_mk (by omega) (aft_ser _ _) (isSer_iff.2 z1) (isSer_iff.2 z2) (by omega) (by decide) (.inl rfl), z4.mono (by omega)⟩ rfl
set_option maxRecDepth 100000 in
theorem delay_f (B g : Nat) (F : CuF) (s : CuS) (ok : CuOk B s) (hB : B ≤ 800000000000) :
    Fn Tryz.prog 127 [ptr g 0 0] [.sl EByte (.slice F.a F.code.length F.c) F.code F.bs] [.row g 123 0 [] [.slice F.a F.code.length F.c, .int .i64 (s.k : Nat), .int .u64 s.seed] []] (fun (z : Int × CuS) => CuOk (B + 2) z.2) (fun z => .int .i64 z.1) (fun z => [.row g 123 0 [] [.slice F.a F.code.length F.c, .int .i64 (z.2.k : Nat), .int .u64 z.2.seed] []]) := by
  refine enter Tryz.func127 rfl Tryz.ntmps127 fun w0 => ?_
  refine goN ?_; intros
  refine t_row (xs := [1, 1, 2, 2, 3, 5, 8, 1, 4, 9, 0]) (fun w => flat_int w _) ?_ (by decide)
  refine t_read (E := EInt) fun G => ?_
  refine go ?_; intros
  refine cf (among_f _ g F _ [1, 1, 2, 2, 3, 5, 8, 1, 4, 9, 0] G s ok (by omega) (by decide) (by decide)) fun q hq => ?_
  refine t_app ?_
  refine go ?_; intros
  refine ret q hq.2 rfl
end Go.Proofs.YtgogcgkocjpgoaaGreatDoor
/- The first elements that satisfy a test: how many; plain. -/
namespace Go.Proofs.YtgogcgkocjpgoaaGreatDoor
theorem tw_len {α : Type} {p : α → Bool} : ∀ {xs : List α} {k : Nat}, k ≤ xs.length → (∀ j (_ : j < k) (h : j < xs.length), p xs[j] = true) → (∀ h : k < xs.length, p xs[k] = false) → (xs.takeWhile p).length = k
  | [], k, hk, _, _ => by simp at hk; simp [hk]
  | x :: r, 0, _, _, h2 => by have := h2 (by simp); simp at this; simp [this]
  | x :: r, k + 1, hk, h1, h2 => by
    have hx : p x = true := h1 0 (by omega) (by simp)
    rw [List.takeWhile_cons_of_pos hx, List.length_cons, tw_len (xs := r) (k := k) (by simpa using hk) (fun j hj h => by have := h1 (j + 1) (by omega) (by simpa using h); simpa using this) (fun h => by have := h2 (by simpa using h); simpa using this)]
theorem tw_spec {α : Type} {p : α → Bool} : ∀ {xs : List α}, (xs.takeWhile p).length ≤ xs.length ∧ (∀ j (_ : j < (xs.takeWhile p).length) (h : j < xs.length), p xs[j] = true) ∧ ∀ h : (xs.takeWhile p).length < xs.length, p xs[(xs.takeWhile p).length] = false
  | [] => by simp
  | x :: r => by
    cases hx : p x
    · rw [List.takeWhile_cons_of_neg (by simp [hx])]; simp [hx]
    · rw [List.takeWhile_cons_of_pos hx]
      obtain ⟨h1, h2, h3⟩ := tw_spec (p := p) (xs := r)
      refine ⟨by simpa using h1, fun j hj h => ?_, fun h => ?_⟩
      · cases j with
        | zero => simpa using hx
        | succ j => simpa using h2 j (by simpa using hj) (by simpa using h)
      · simpa using h3 (by simpa using h)
def hitB {α : Type} (f : α → Int) : Option α → Bool
  | some x => decide (f x = 0)
  | none => false
end Go.Proofs.YtgogcgkocjpgoaaGreatDoor
/- Hearing: what a packet changes in a receiver; plain laws. -/
namespace Go.Proofs.YtgogcgkocjpgoaaGreatDoor
open Go.RowKit
theorem gpInj {t a b : Int} (ha : isSer a = true) (hb : isSer b = true) (h : gp t a = gp t b) : a = b := by
  obtain ⟨a0, a1⟩ := isSer_iff.1 ha
  obtain ⟨b0, b1⟩ := isSer_iff.1 hb
  unfold gp at h; omega
def askAt (base : Int) (l : List Request) (n : Int) : Nat := (l.takeWhile fun r => decide (gp base r.number < gp base n)).length
def askOn (base : Int) (l : List Request) (n : Int) : Bool := match l[askAt base l n]? with | some r => decide (r.number = n) | none => false
def newQ (n u : Int) : Request := ⟨n, 1, u, 0⟩
def insQ (base : Int) (l : List Request) (n u : Int) : List Request := l.take (askAt base l n) ++ newQ n u :: l.drop (askAt base l n)
def addQ (base : Int) (l : List Request) (n u : Int) : List Request := if askOn base l n || !decide (gp base n < 8) then l else insQ base l n u
def confQ (base : Int) (l : List Request) (n u : Int) : List Request := match l[askAt base l n]? with | some r => if r.number = n then l.set (askAt base l n) ⟨n, 3, u, r.tries⟩ else l | none => l
theorem askAt_le (base : Int) (l : List Request) (n : Int) : askAt base l n ≤ l.length := tw_spec.1
theorem askOn_at {base : Int} {l : List Request} {n : Int} (h : askAt base l n < l.length) : askOn base l n = decide (l[askAt base l n].number = n) := by unfold askOn; rw [List.getElem?_eq_getElem h]
theorem askOn_end {base : Int} {l : List Request} {n : Int} (h : ¬ askAt base l n < l.length) : askOn base l n = false := by unfold askOn; rw [List.getElem?_eq_none (by omega)]
theorem askOn_lt {base : Int} {l : List Request} {n : Int} (h : askOn base l n = true) : askAt base l n < l.length := by
  by_cases h2 : askAt base l n < l.length
  · exact h2
  · rw [askOn_end h2] at h; cases h
theorem confQ_no {base : Int} {l : List Request} {n u : Int} (h : askOn base l n = false) : confQ base l n u = l := by
  unfold confQ
  unfold askOn at h
  cases hq : l[askAt base l n]? with
  | none => rfl
  | some r => rw [hq] at h; dsimp only at h ⊢; rw [if_neg (by simpa using h)]
theorem confQ_yes {base : Int} {l : List Request} {n u : Int} (h : askOn base l n = true) : confQ base l n u = l.set (askAt base l n) ⟨n, 3, u, (l[askAt base l n]'(askOn_lt h)).tries⟩ := by
  have h2 := askOn_lt h
  rw [askOn_at h2] at h
  unfold confQ
  rw [List.getElem?_eq_getElem h2]
  dsimp only
  rw [if_pos (by simpa using h)]
theorem confQ_len (base : Int) (l : List Request) (n u : Int) : (confQ base l n u).length = l.length := by
  cases h : askOn base l n
  · rw [confQ_no h]
  · rw [confQ_yes h, List.length_set]
/-- where a serial is put, none is that is not less -/
theorem ask_ne {base n : Int} {l : List Request} (hq : areQ l base = true) (hn : isSer n = true) (h : askOn base l n = false) : ∀ r ∈ l, gp base r.number ≠ gp base n := by
  obtain ⟨-, -, h3, h4⟩ := areQ_iff.1 hq
  obtain ⟨t1, t2, t3⟩ := tw_spec (p := fun r : Request => decide (gp base r.number < gp base n)) (xs := l)
  intro r hr e
  obtain ⟨i, hi, rfl⟩ := List.getElem_of_mem hr
  have e2 := gpInj (okReq_iff.1 (h3 _ hr)).n hn e
  have hk : askAt base l n = i := tw_len (by omega) (fun j hj h => by
    have := List.pairwise_iff_getElem.1 h4 j i h hi hj
    simp only [decide_eq_true_eq]; omega) (fun h => by simp only [decide_eq_false_iff_not]; omega)
  rw [askOn_at (by omega)] at h
  simp only [hk] at h
  simp [e2] at h
theorem pw_len {base : Int} {l : List Request} (hp : l.Pairwise fun a b => gp base a.number < gp base b.number) (h8 : ∀ q ∈ l, gp base q.number < 8) : l.length ≤ 8 := by
  have key : ∀ i (h : i < l.length), (i : Int) ≤ gp base l[i].number := by
    intro i
    induction i with
    | zero => intro h; exact (gp_bd _ _).1
    | succ i ih =>
      intro h
      have a := ih (by omega)
      have b := List.pairwise_iff_getElem.1 hp i (i + 1) (by omega) h (by omega)
      omega
  by_cases h : l.length ≤ 8
  · exact h
  · have a := key 8 (by omega)
    have b := h8 _ (List.getElem_mem (show 8 < l.length by omega))
    omega
theorem insQ_len (base : Int) (l : List Request) (n u : Int) : (insQ base l n u).length = l.length + 1 := by
  have := askAt_le base l n
  unfold insQ
  rw [List.length_append, List.length_cons, List.length_take, List.length_drop]; omega
theorem insQ_good {base n u : Int} {l : List Request} (hq : areQ l base = true) (hn : isSer n = true) (h8 : gp base n < 8) (u0 : 0 ≤ u) (u1 : u ≤ 10007) (h : askOn base l n = false) : areQ (insQ base l n u) base = true := by
  have hne := ask_ne hq hn h
  obtain ⟨h1, h2, h3, h4⟩ := areQ_iff.1 hq
  obtain ⟨t1, t2, t3⟩ := tw_spec (p := fun r : Request => decide (gp base r.number < gp base n)) (xs := l)
  have hle := askAt_le base l n
  have hok : ∀ r ∈ insQ base l n u, okReq base r = true := by
    intro r hr
    unfold insQ at hr
    rcases List.mem_append.1 hr with h | h
    · exact h3 r (List.mem_of_mem_take h)
    · rcases List.mem_cons.1 h with rfl | h
      · exact okReq_iff.2 ⟨hn, h8, by show (1 : Int) ≤ 1; decide, by show (1 : Int) ≤ 3; decide, u0, u1, by show (0 : Int) ≤ 0; decide, by show (0 : Int) ≤ 3; decide⟩
      · exact h3 r (List.mem_of_mem_drop h)
  have hpw : (insQ base l n u).Pairwise fun a b => gp base a.number < gp base b.number := by
    unfold insQ
    rw [List.pairwise_append]
    refine ⟨h4.sublist (List.take_sublist _ _), ?_, ?_⟩
    · rw [List.pairwise_cons]
      refine ⟨fun b hb => ?_, h4.sublist (List.drop_sublist _ _)⟩
      obtain ⟨j, hj, rfl⟩ := List.getElem_of_mem hb
      rw [List.getElem_drop]
      rw [List.length_drop] at hj
      have hk : askAt base l n < l.length := by omega
      have h0 := t3 hk
      simp only [decide_eq_false_iff_not, Int.not_lt] at h0
      have h00 : gp base n ≤ gp base (l[askAt base l n]'hk).number := h0
      have hd := hne _ (List.getElem_mem hk)
      show gp base n < _
      rcases Nat.eq_zero_or_pos j with e | e
      · subst e; simp only [Nat.add_zero]; omega
      · have h5 := List.pairwise_iff_getElem.1 h4 (askAt base l n) (askAt base l n + j) hk (by omega) (by omega)
        omega
    · intro a ha b hb
      obtain ⟨i, hi, rfl⟩ := List.getElem_of_mem ha
      rw [List.length_take] at hi
      rw [List.getElem_take]
      have ha2 := t2 i (by show i < askAt base l n; omega) (by omega)
      simp only [decide_eq_true_eq] at ha2
      rcases List.mem_cons.1 hb with rfl | hb
      · exact ha2
      · obtain ⟨j, hj, rfl⟩ := List.getElem_of_mem hb
        rw [List.getElem_drop]
        rw [List.length_drop] at hj
        exact List.pairwise_iff_getElem.1 h4 i (askAt base l n + j) (by omega) (by omega) (by omega)
  exact areQ_iff.2 ⟨h1, pw_len hpw fun q hq => (okReq_iff.1 (hok q hq)).g, hok, hpw⟩
theorem addQ_good {base n u : Int} {l : List Request} (hq : areQ l base = true) (hn : isSer n = true) (u0 : 0 ≤ u) (u1 : u ≤ 10007) : areQ (addQ base l n u) base = true := by
  unfold addQ
  split
  · exact hq
  · rename_i h
    simp only [Bool.or_eq_true, Bool.not_eq_true', not_or, Bool.not_eq_false, Bool.not_eq_true, decide_eq_true_eq] at h
    exact insQ_good hq hn h.2 u0 u1 h.1
theorem mem_addQ {base n u : Int} {l : List Request} {q : Request} (h : q ∈ addQ base l n u) : q ∈ l ∨ q.number = n := by
  unfold addQ insQ at h
  split at h
  · exact .inl h
  · rcases List.mem_append.1 h with h | h
    · exact .inl (List.mem_of_mem_take h)
    · rcases List.mem_cons.1 h with rfl | h
      · exact .inr rfl
      · exact .inl (List.mem_of_mem_drop h)
theorem confQ_good {base n u : Int} {l : List Request} (hq : areQ l base = true) (u0 : 0 ≤ u) (u1 : u ≤ 10007) : areQ (confQ base l n u) base = true := by
  cases h : askOn base l n
  · rw [confQ_no h]; exact hq
  obtain ⟨h1, h2, h3, h4⟩ := areQ_iff.1 hq
  have hk := askOn_lt h
  have hn : l[askAt base l n].number = n := by rw [askOn_at hk] at h; simpa using h
  have ho := okReq_iff.1 (h3 _ (List.getElem_mem hk))
  rw [confQ_yes h]
  have hnum : ∀ i (h : i < (l.set (askAt base l n) ⟨n, 3, u, l[askAt base l n].tries⟩).length), (l.set (askAt base l n) ⟨n, 3, u, l[askAt base l n].tries⟩)[i].number = (l[i]'(by simpa using h)).number := fun i h => by
    rw [List.getElem_set]
    split
    · rename_i e; subst e; exact hn.symm
    · rfl
  refine areQ_iff.2 ⟨h1, by simpa using h2, fun r hr => ?_, ?_⟩
  · have gn := ho.n
    have gg := ho.g
    rw [hn] at gn gg
    rcases List.mem_or_eq_of_mem_set hr with h | rfl
    · exact h3 r h
    · exact okReq_iff.2 ⟨gn, gg, by show (1 : Int) ≤ 3; decide, by show (3 : Int) ≤ 3; decide, u0, u1, ho.t0, ho.t1⟩
  · refine List.pairwise_iff_getElem.2 fun i j hi hj hij => ?_
    rw [hnum i hi, hnum j hj]
    exact List.pairwise_iff_getElem.1 h4 i j _ _ hij
theorem mem_confQ {base n u : Int} {l : List Request} {q : Request} (h : q ∈ confQ base l n u) : ∃ r ∈ l, r.number = q.number := by
  cases h2 : askOn base l n
  · rw [confQ_no h2] at h; exact ⟨q, h, rfl⟩
  have hk := askOn_lt h2
  have hn : l[askAt base l n].number = n := by rw [askOn_at hk] at h2; simpa using h2
  rw [confQ_yes h2] at h
  rcases List.mem_or_eq_of_mem_set h with h | rfl
  · exact ⟨q, h, rfl⟩
  · exact ⟨_, List.getElem_mem hk, hn⟩
/-- what news change -/
def startW (r : Receiver) (p : Packet) : ReceiveWindow := if r.started then r.window else ⟨if p.kind = 5 then p.lead else p.number, r.window.slots⟩
def takenW (r : Receiver) (p : Packet) : ReceiveWindow := if p.kind = 5 then startW r p else takeW (startW r p) p.number p.data
def takenE (r : Receiver) (p : Packet) : List ByteArray := if p.kind = 5 then [] else takeE (startW r p) p.number p.data
def skipW (w : ReceiveWindow) (t : Int) : ReceiveWindow := if bef w.next t then (if gp w.next t ≤ 8 then movedW w t else ⟨t, []⟩) else w
def skipE (w : ReceiveWindow) (t : Int) : List ByteArray := if bef w.next t then (if gp w.next t ≤ 8 then movedE w t else [⟨#[33]⟩]) else []
def newsW (r : Receiver) (p : Packet) : ReceiveWindow := skipW (takenW r p) p.trail
def newsE (r : Receiver) (p : Packet) : List ByteArray := takenE r p ++ skipE (takenW r p) p.trail
def addAll (base u : Int) (l : List Request) (ns : List Int) : List Request := ns.foldl (fun l n => addQ base l n u) l
def awaitN (w : ReceiveWindow) (lead : Int) : Nat := (min (gp w.next lead) 8).toNat
def awaitQ (w : ReceiveWindow) (l : List Request) (lead u : Int) : List Request := if bef w.next lead then addAll w.next u l (missL w (awaitN w lead)) else l
def newsR (r : Receiver) (p : Packet) (d : Int) : Receiver := ⟨true, r.clock, newsW r p, awaitQ (newsW r p) (needed r.requests (newsW r p)) p.lead (r.clock + d)⟩
def isNews (p : Packet) : Bool := decide (p.kind = 1) || decide (p.kind = 2) || decide (p.kind = 5)
def confR (r : Receiver) (p : Packet) : Receiver := ⟨r.started, r.clock, r.window, confQ r.window.next r.requests p.number (r.clock + 4)⟩
def hearR (r : Receiver) (p : Packet) (d : Int) : Receiver := if isNews p then newsR r p d else if decide (p.kind = 4) && r.started then confR r p else r
def hearE (r : Receiver) (p : Packet) : List ByteArray := if isNews p then newsE r p else []
theorem take_good {w : ReceiveWindow} {n : Int} {s : ByteArray} (hg : goodRW w = true) (hn : isSer n = true) (hs : itm s = true) : goodRW (takeW w n s) = true ∧ (∃ m : Nat, m ≤ 8 ∧ (takeW w n s).next = aft w.next m) ∧ (takeE w n s).length ≤ 8 := by
  obtain ⟨w0, w1⟩ := next_ser hg
  cases ht : takeOk w n
  · have e : (takeNo w n || !decide (gp w.next n < 8)) = true := by unfold takeOk at ht; simp only [Bool.or_eq_false_iff] at ht; rw [ht.1, ht.2]; rfl
    have e1 : takeW w n s = w := by unfold takeW; rw [if_pos e]
    have e2 : takeE w n s = [] := by unfold takeE; rw [if_pos e]
    rw [e1, e2]
    exact ⟨hg, ⟨0, by omega, (aft_zeroN w0 w1).symm⟩, by simp⟩
  · have hok : okTakeItem w n s = true := by unfold okTakeItem; rw [hg, hn, hs, ht]; rfl
    have h := law_take w n s (by unfold resTakeItem; rw [hok]; rfl)
    rw [show resTakeItem w n s = (takeW w n s, takeE w n s, true) by unfold resTakeItem; rw [hok]; rfl] at h
    obtain ⟨-, -, h3, h4, -, -, h7, -⟩ := h
    dsimp only at h3 h4 h7
    refine ⟨h3, ⟨_, h7, ?_⟩, h7⟩
    obtain ⟨v0, v1⟩ := next_ser h3
    rw [← h4]
    unfold aft gp at *; omega
theorem start_good {r : Receiver} {p : Packet} (hg : GoodR r) (hp : goodPk p = true) : goodRW (startW r p) = true ∧ (r.started = true → startW r p = r.window) := by
  unfold startW
  unfold goodPk at hp
  simp only [Bool.and_eq_true] at hp
  cases hs : r.started
  · refine ⟨?_, fun h => by cases h⟩
    rw [(hg.z hs).1]
    simp only [Bool.false_eq_true, if_false]
    unfold goodRW
    split
    · rw [hp.1.1.1.2]; rfl
    · rw [hp.1.1.1.1.1.2]; rfl
  · exact ⟨hg.w, fun _ => rfl⟩
theorem taken_good {r : Receiver} {p : Packet} (hg : GoodR r) (hp : goodPk p = true) : goodRW (takenW r p) = true ∧ (∃ m : Nat, m ≤ 8 ∧ (takenW r p).next = aft (startW r p).next m) ∧ (takenE r p).length ≤ 8 := by
  have h1 := (start_good hg hp).1
  obtain ⟨w0, w1⟩ := next_ser h1
  unfold takenW takenE
  split
  · exact ⟨h1, ⟨0, by omega, (aft_zeroN w0 w1).symm⟩, by simp⟩
  · unfold goodPk at hp
    simp only [Bool.and_eq_true] at hp
    exact take_good h1 hp.1.1.1.1.1.2 hp.1.1.2
theorem skip_good {w : ReceiveWindow} {t : Int} (hg : goodRW w = true) (ht : isSer t = true) : goodRW (skipW w t) = true ∧ (∃ m : Nat, m ≤ 32767 ∧ (skipW w t).next = aft w.next m) ∧ (skipE w t).length ≤ 16 := by
  obtain ⟨w0, w1⟩ := next_ser hg
  obtain ⟨t0, t1⟩ := isSer_iff.1 ht
  unfold skipW skipE
  cases hb : bef w.next t
  · exact ⟨hg, ⟨0, by omega, (aft_zeroN w0 w1).symm⟩, by simp⟩
  · simp only [if_true]
    split
    · obtain ⟨e1, e2, e3, e4⟩ := moved_at (t := t) hg
      have := @stepsN_gp w.next t
      exact ⟨giveUp_good _ _ hg, ⟨_, by omega, e1⟩, by omega⟩
    · refine ⟨by unfold goodRW; rw [ht]; rfl, ⟨(gp w.next t).toNat, ?_, ?_⟩, by simp⟩
      · unfold bef btw at hb; simp only [Bool.and_eq_true, decide_eq_true_eq] at hb; omega
      · have := gp_bd w.next t
        show t = _
        unfold aft gp at *; omega
theorem needed_good {l : List Request} {b : Int} {w : ReceiveWindow} {m : Nat} (hm : m ≤ 65528) (hq : areQ l b = true) (hw : goodRW w = true) (e : w.next = aft b m) : areQ (needed l w) w.next = true := by
  obtain ⟨h1, h2, h3, h4⟩ := areQ_iff.1 hq
  obtain ⟨b0, b1⟩ := isSer_iff.1 h1
  have key : ∀ q ∈ l, gp w.next q.number < 8 → gp w.next q.number = gp b q.number - m := fun q hq h => by
    have ho := okReq_iff.1 (h3 q hq)
    obtain ⟨n0, n1⟩ := isSer_iff.1 ho.n
    have := ho.g
    rw [e] at h ⊢
    unfold gp aft at *; omega
  have hin : ∀ q ∈ needed l w, q ∈ l ∧ gp w.next q.number < 8 := fun q hq => by
    unfold needed at hq
    rw [List.mem_filter] at hq
    simp only [Bool.and_eq_true, decide_eq_true_eq] at hq
    exact ⟨hq.1, hq.2.2⟩
  refine areQ_iff.2 ⟨isSer_iff.2 (next_ser hw), Nat.le_trans (List.length_filter_le _ _) h2, fun q hq => ?_, ?_⟩
  · obtain ⟨a, c⟩ := hin q hq
    have ho := okReq_iff.1 (h3 q a)
    exact okReq_iff.2 ⟨ho.n, c, ho.s0, ho.s1, ho.u0, ho.u1, ho.t0, ho.t1⟩
  · have h5 : (needed l w).Pairwise fun a b' => gp b a.number < gp b b'.number := h4.sublist List.filter_sublist
    refine h5.imp_of_mem fun ha hb h => ?_
    rw [key _ (hin _ ha).1 (hin _ ha).2, key _ (hin _ hb).1 (hin _ hb).2]; omega
theorem needed_free {l : List Request} {w : ReceiveWindow} : ∀ q ∈ needed l w, hasB w q.number = false := fun q hq => by
  unfold needed at hq
  rw [List.mem_filter] at hq
  simp only [Bool.and_eq_true, Bool.not_eq_true', Bool.or_eq_false_iff] at hq
  exact hq.2.1.2
theorem missL_at {w : ReceiveWindow} {k : Nat} (hk : k ≤ 8) {n : Int} (h : n ∈ missL w k) : isSer n = true ∧ gp w.next n < 8 ∧ hasB w n = false := by
  unfold missL spanL at h
  obtain ⟨h1, h2⟩ := List.mem_filter.1 h
  obtain ⟨i, hi, rfl⟩ := List.mem_map.1 h1
  rw [List.mem_range] at hi
  refine ⟨aft_ser _ _, ?_, by simpa using h2⟩
  unfold gp aft; omega
theorem addAll_good {w : ReceiveWindow} {u : Int} (u0 : 0 ≤ u) (u1 : u ≤ 10007) : ∀ (ns : List Int) (l : List Request), (∀ n ∈ ns, isSer n = true ∧ hasB w n = false) → areQ l w.next = true → (∀ q ∈ l, hasB w q.number = false) → areQ (addAll w.next u l ns) w.next = true ∧ ∀ q ∈ addAll w.next u l ns, hasB w q.number = false
  | [], l, _, h2, h3 => ⟨h2, h3⟩
  | n :: ns, l, h1, h2, h3 => by
    obtain ⟨a, b⟩ := h1 n (by simp)
    refine addAll_good u0 u1 ns (addQ w.next l n u) (fun n hn => h1 n (by simp [hn])) (addQ_good h2 a u0 u1) fun q hq => ?_
    rcases mem_addQ hq with h | h
    · exact h3 q h
    · rw [h]; exact b
theorem addAll_succ {base u : Int} {l : List Request} {ns : List Int} {k : Nat} (h : k < ns.length) : addAll base u l (ns.take (k + 1)) = addQ base (addAll base u l (ns.take k)) ns[k] u := by
  unfold addAll
  rw [List.take_add_one, List.getElem?_eq_getElem h, List.foldl_append]; rfl
theorem awaitN_le (w : ReceiveWindow) (t : Int) : awaitN w t ≤ 8 := by unfold awaitN; omega
theorem news_good {r : Receiver} {p : Packet} {d : Int} (hg : GoodR r) (hp : goodPk p = true) (d0 : 1 ≤ d) (d1 : d ≤ 8) (hk : r.clock + d ≤ 10007) : goodRW (newsW r p) = true ∧ areQ (needed r.requests (newsW r p)) (newsW r p).next = true ∧ GoodR (newsR r p d) ∧ (newsE r p).length ≤ 24 := by
  obtain ⟨a1, a2⟩ := start_good hg hp
  obtain ⟨b1, ⟨m, hm, em⟩, b3⟩ := taken_good hg hp
  have htr : isSer p.trail = true := by unfold goodPk at hp; simp only [Bool.and_eq_true] at hp; exact hp.1.1.1.1.2
  obtain ⟨c1, ⟨k, hk2, ek⟩, c3⟩ := skip_good b1 htr
  have hk0 := hg.k0
  have hq : areQ (needed r.requests (newsW r p)) (newsW r p).next = true := by
    cases hs : r.started
    · rw [(hg.z hs).2]
      exact (areQ_iff (l := [])).2 ⟨isSer_iff.2 (next_ser c1), Nat.zero_le 8, fun r hr => (by cases hr), List.Pairwise.nil⟩
    · refine needed_good (m := m + k) (by omega) hg.q c1 ?_
      show (newsW r p).next = _
      rw [show (newsW r p).next = aft (takenW r p).next k from ek, em, a2 hs, aft_add]
  have hn : newsW r p = skipW (takenW r p) p.trail := rfl
  refine ⟨c1, hq, ⟨hg.k0, hg.k1, c1, ?_, ?_, fun h => by cases h⟩, by unfold newsE; rw [List.length_append]; omega⟩
  · show areQ (awaitQ (newsW r p) (needed r.requests (newsW r p)) p.lead (r.clock + d)) (newsW r p).next = true
    unfold awaitQ
    split
    · exact (addAll_good (by omega) (by omega) _ _ (fun n hn => ⟨(missL_at (awaitN_le _ _) hn).1, (missL_at (awaitN_le _ _) hn).2.2⟩) hq needed_free).1
    · exact hq
  · show ∀ q ∈ awaitQ (newsW r p) (needed r.requests (newsW r p)) p.lead (r.clock + d), hasB (newsW r p) q.number = false
    unfold awaitQ
    split
    · exact (addAll_good (by omega) (by omega) _ _ (fun n hn => ⟨(missL_at (awaitN_le _ _) hn).1, (missL_at (awaitN_le _ _) hn).2.2⟩) hq needed_free).2
    · exact needed_free
theorem hear_good {r : Receiver} {p : Packet} {d : Int} (hg : GoodR r) (hp : goodPk p = true) (d0 : 1 ≤ d) (d1 : d ≤ 8) : GoodR (hearR r p d) ∧ (hearE r p).length ≤ 24 := by
  have hk1 := hg.k1
  have hk0 := hg.k0
  unfold hearR hearE
  split
  · exact ⟨(news_good hg hp d0 d1 (by omega)).2.2.1, (news_good hg hp d0 d1 (by omega)).2.2.2⟩
  · refine ⟨?_, by simp⟩
    split
    · rename_i h
      simp only [Bool.and_eq_true, decide_eq_true_eq] at h
      refine ⟨hk0, hk1, hg.w, confQ_good hg.q (by omega) (by omega), fun q hq => ?_, fun hs => ?_⟩
      · obtain ⟨r', hr, e⟩ := mem_confQ hq
        show hasB r.window q.number = false
        rw [← e]; exact hg.f r' hr
      · have : r.started = false := hs
        rw [h.2] at this; cases this
    · exact hg
/-- packets, one after the other -/
def hearsR (d : Int) (r : Receiver) (l : List Packet) : Receiver := l.foldl (fun r p => hearR r p d) r
def hearsE (d : Int) : Receiver → List Packet → List ByteArray
  | _, [] => []
  | r, p :: l => hearE r p ++ hearsE d (hearR r p d) l
theorem hearsE_append (d : Int) : ∀ (a : List Packet) (r : Receiver) (b : List Packet), hearsE d r (a ++ b) = hearsE d r a ++ hearsE d (hearsR d r a) b
  | [], r, b => rfl
  | p :: a, r, b => by
    show hearE r p ++ hearsE d (hearR r p d) (a ++ b) = _
    rw [hearsE_append d a]
    show _ = (hearE r p ++ hearsE d (hearR r p d) a) ++ _
    rw [List.append_assoc]; rfl
theorem hearsR_succ {d : Int} {r : Receiver} {l : List Packet} {k : Nat} (h : k < l.length) : hearsR d r (l.take (k + 1)) = hearR (hearsR d r (l.take k)) l[k] d := by
  unfold hearsR
  rw [List.take_add_one, List.getElem?_eq_getElem h, List.foldl_append]; rfl
theorem hearsE_succ {d : Int} {r : Receiver} {l : List Packet} {k : Nat} (h : k < l.length) : hearsE d r (l.take (k + 1)) = hearsE d r (l.take k) ++ hearE (hearsR d r (l.take k)) l[k] := by
  rw [List.take_add_one, List.getElem?_eq_getElem h, hearsE_append]
  show _ = _
  simp [hearsE]
theorem hears_good {d : Int} (d0 : 1 ≤ d) (d1 : d ≤ 8) : ∀ (l : List Packet) (r : Receiver), GoodR r → (∀ p ∈ l, goodPk p = true) → GoodR (hearsR d r l) ∧ (hearsE d r l).length ≤ 24 * l.length
  | [], r, hg, _ => ⟨hg, by simp [hearsE]⟩
  | p :: l, r, hg, h => by
    obtain ⟨a, b⟩ := hear_good hg (h p (by simp)) d0 d1
    obtain ⟨c, e⟩ := hears_good d0 d1 l (hearR r p d) a fun q hq => h q (by simp [hq])
    refine ⟨c, ?_⟩
    show (hearE r p ++ hearsE d (hearR r p d) l).length ≤ _
    rw [List.length_append, List.length_cons]; omega
def okHearAll (r : Receiver) (l : List Packet) (d : Int) : Bool := goodRec r && isDel d && decide ((l.length : Int) ≤ 10) && l.all goodPk
def resHearAll (r : Receiver) (l : List Packet) (d : Int) : Receiver × List ByteArray × Bool := if okHearAll r l d then (hearsR d r l, hearsE d r l, true) else (zRec, [], false)
theorem resHA_no {r : Receiver} {l : List Packet} {d : Int} (h : okHearAll r l d = false) : resHearAll r l d = (zRec, [], false) := by unfold resHearAll; rw [h]; rfl
theorem resHA_yes {r : Receiver} {l : List Packet} {d : Int} (h : okHearAll r l d = true) : resHearAll r l d = (hearsR d r l, hearsE d r l, true) := by unfold resHearAll; rw [h]; rfl
end Go.Proofs.YtgogcgkocjpgoaaGreatDoor
/- Hearing: the place of a serial among the requests. -/
namespace Go.Proofs.YtgogcgkocjpgoaaGreatDoor
open Go.RowKit
theorem rep1_Request (y : Request) (w : World) : Flat ERequest w [.int .i64 y.number, .int .i64 y.state, .int .i64 y.untl, .int .i64 y.tries] [y] [] := ⟨_, [], [], [], by simp, by simp, ⟨rfl, rfl⟩, rfl, rfl⟩
set_option maxRecDepth 100000 in
set_option maxHeartbeats 1000000 in
theorem InsReq_f (xs : List Request) (y : Request) (i : Nat) (a : Option Addr) (c vb : Nat) (F : List Nat) (hi : i ≤ xs.length) (hl : xs.length ≤ 1000000) :
    Fn Tryz.prog 310 [.slice a xs.length c, .int .i64 i, .slice (some ⟨vb, 0, none⟩) 1 1] [] [.ow ERequest 152 (.slice a xs.length c) xs F, .row vb 152 0 [] [.int .i64 y.number, .int .i64 y.state, .int .i64 y.untl, .int .i64 y.tries] []] (fun (_ : Option Addr × Nat × List Nat) => True)
      (fun z => .slice z.1 (xs.take i ++ y :: xs.drop i).length z.2.1) (fun z => [.ow ERequest 152 (.slice z.1 (xs.take i ++ y :: xs.drop i).length z.2.1) (xs.take i ++ y :: xs.drop i) z.2.2]) := by
  have hone : ∀ w' : World, ∀ cs : List Value, Flat ERequest w' cs xs [] → ∀ u ∈ cs, u.oneCell' = true := fun w' cs h => h.one' one_ERequest
  have hy := rep1_Request y
  have h1y : ∀ u ∈ ([.int .i64 y.number, .int .i64 y.state, .int .i64 y.untl, .int .i64 y.tries] : List Value), u.oneCell' = true := by intro u hu; simp at hu; rcases hu with rfl | rfl | rfl | rfl <;> rfl
  refine enter Tryz.func310 rfl Tryz.ntmps310 fun w0 => ?_
  refine t_cap (E := ERequest) fun hc1 hc2 => ?_
  refine go ?_; intros
  apply wO
  refine o_slany rfl rfl rfl rfl hi (fun _ => ?_) hc1
  refine go ?_; intros
  refine c_if rfl (fun h1 => ?_) (fun h1 => ?_)
  · have hin : i = xs.length := by omega
    subst hin
    have e : xs.take xs.length ++ y :: xs.drop xs.length = xs ++ [y] := by simp
    refine go ?_; intros
    apply wO
    refine ap1 hy one_ERequest fun a2 c2 F2 => ?_
    rw [e]
    refine go ?_; intros
    refine ret (a2, c2, F2) trivial rfl
  · have hlt : i < xs.length := by omega
    refine t_rowof (xs := xs) scal_ERequest (by rintro rfl; simp at hlt) ?_
    rintro g cs rest rfl - - - hcl hcr hfl
    rw [show ERequest.sz = 4 from rfl] at hcl hcr
    have h1c := hone w0 cs (hfl w0)
    obtain ⟨A, B, hcs, hA, hB⟩ : ∃ A B, cs = A ++ B ∧ A = cs.take (i * 4) ∧ B = cs.drop (i * 4) := ⟨_, _, (List.take_append_drop _ _).symm, rfl, rfl⟩
    have hAl : A.length = i * 4 := by rw [hA, List.length_take]; omega
    have hBl : B.length = (xs.length - i) * 4 := by rw [hB, List.length_drop]; omega
    have hins : ∀ w, Flat ERequest w (A ++ [.int .i64 y.number, .int .i64 y.state, .int .i64 y.untl, .int .i64 y.tries] ++ B) (xs.take i ++ y :: xs.drop i) [] := fun w => by rw [hA, hB]; exact (hfl w).insL (hy w) i hi
    have h1A : ∀ u ∈ A, u.oneCell' = true := fun u hu => h1c u (by rw [hcs]; simp [hu])
    have h1B : ∀ u ∈ B, u.oneCell' = true := fun u hu => h1c u (by rw [hcs]; simp [hu])
    have hlen : (xs.take i ++ y :: xs.drop i).length = xs.length + 1 := by simp; omega
    clear hA hB hfl hone
    subst hcs
    have eA : A = ((A ++ B ++ rest).drop 0).take (i * 4) := by rw [List.drop_zero, List.append_assoc, List.take_left' hAl]
    have eB : B = ((A ++ B ++ rest).drop (0 + i * 4)).take ((xs.length - i) * 4) := by rw [Nat.zero_add, List.append_assoc, List.drop_left' hAl, List.take_left' hBl]
    rw [hlen]
    refine go ?_; intros
    apply wO; apply oc; rfl; exact yd_cap rfl
    refine go ?_; intros
    refine c_if rfl (fun h2 => ?_) (fun h2 => ?_)
    · refine go ?_; intros
      apply wO; apply oc; rfl; exact yd_slt (i := i) rfl rfl rfl (by omega) (by omega)
      refine go ?_; intros
      apply wO
      refine o_apgz (k := xs.length + 1 - i) (olds := A) rfl rfl rfl (by omega) (src_row (m := i * 4) (.head _) eA) (by omega) (by decide) (by omega) (by omega) (by omega) (by omega) fun g' cp' Z rest' h3 h4 h5 h6 => ?_
      rw [show i + (xs.length + 1 - i) = xs.length + 1 by omega] at h3 ⊢
      obtain ⟨Z1, Z2, rfl, hZ1, hZ2⟩ : ∃ Z1 Z2, Z = Z1 ++ Z2 ∧ Z1.length = 4 ∧ Z2.length = B.length := ⟨Z.take 4, Z.drop 4, (List.take_append_drop _ _).symm, by rw [List.length_take]; omega, by rw [List.length_drop]; omega⟩
      refine go ?_; intros
      apply wO; apply oc; rfl; exact yd_slv (i := i) rfl rfl rfl (by omega) (by omega) (by omega)
      refine go ?_; intros
      apply wO
      refine o_cpy (cs := [.int .i64 y.number, .int .i64 y.state, .int .i64 y.untl, .int .i64 y.tries]) (L' := A ++ [.int .i64 y.number, .int .i64 y.state, .int .i64 y.untl, .int .i64 y.tries] ++ (Z2 ++ rest')) rfl rfl rfl (src_row (L := [.int .i64 y.number, .int .i64 y.state, .int .i64 y.untl, .int .i64 y.tries]) (o := 0) (m := 4) (by exact memE) rfl) .here (cpyM (M := Z1) (by simp [List.append_assoc]) (by omega) (by simpa using hZ1)) (by show 4 = min 1 (xs.length + 1 - i) * 4; omega) (by simp only [List.length_append, List.length_cons, List.length_nil]; omega) h1y ?_
      refine go ?_; intros
      refine d_start [] [] ?_
      refine dt 0 ?_
      refine dt 1 ?_
      refine dt 2 ?_
      refine dt 3 ?_
      refine dt 4 ?_ (hy := yd_slv (i := i + 1) rfl rfl (by omega) (by omega) (by omega) (by omega))
      refine dt 5 ?_
      refine dt 6 ?_
      refine dt 7 ?_ (hy := yd_slv (i := i) rfl rfl (by omega) (by omega) (by omega) (by omega))
      refine dO 8 (by kernel_rfl) (by rw [List.getElem?_toArray]; rfl) ?_
      refine o_cpy (cs := B) (L' := A ++ [.int .i64 y.number, .int .i64 y.state, .int .i64 y.untl, .int .i64 y.tries] ++ B ++ rest') rfl rfl rfl (src_row (by exact memE) eB) .here (cpyM (P := A ++ [.int .i64 y.number, .int .i64 y.state, .int .i64 y.untl, .int .i64 y.tries]) (M := Z2) (by simp [List.append_assoc]) (by simp only [List.length_append, List.length_cons, List.length_nil]; omega) hZ2) (by rw [hBl]; congr 1; show _ = min (xs.length - i) (xs.length + 1 - (i + 1)); omega) (by simp only [List.length_append, List.length_cons, List.length_nil]; omega) h1B ?_
      refine dk ?_
      refine dd ?_
      refine t_owof (cs := A ++ [.int .i64 y.number, .int .i64 y.state, .int .i64 y.untl, .int .i64 y.tries] ++ B) (rest := rest') (xs := xs.take i ++ y :: xs.drop i) cp' rfl hins (by omega) h4 (by rw [show ERequest.sz = 4 from rfl]; simp only [List.length_append, List.length_cons, List.length_nil] at h6 ⊢; omega) ?_
      rw [hlen]
      refine go ?_; intros
      refine ret (_, cp', [g']) trivial rfl
    · have hcx : xs.length + 1 ≤ c := by omega
      obtain ⟨X, Y, hXY, hX, hY⟩ := shiftL (B := B) (R := rest) 4 (by omega)
      refine go ?_; intros
      apply wO; apply oc; rfl; exact yd_slt (i := xs.length + 1) rfl rfl (by omega) (by omega) (by omega)
      refine go ?_; intros
      apply wO; apply oc; rfl; exact yd_slv (i := i + 1) rfl rfl (by omega) (by omega) (by omega) (by omega)
      refine goN ?_; intros
      apply wO
      refine o_ext rfl evsE (ovl (tS := 47) (tR := 4) (run_callFunc_extern Tryz.func323 (by kernel_rfl) (by kernel_rfl) (by kernel_rfl) (e := Extern.SlicesOverlaps.overlaps #[47, 47] #[4]) (by kernel_rfl)) (.there .here) (.head _) (by intro e; have := congrArg List.length e; simp only [List.length_append, List.length_nil] at this; omega)) ?_
      refine go ?_; intros
      refine d_start [] [] ?_
      refine dt 0 ?_
      refine dt 1 ?_
      refine dt 2 ?_
      refine dt 3 ?_
      refine dt 4 ?_ (hy := yd_slv (i := i + 1) rfl rfl (by omega) (by omega) (by omega) (by omega))
      refine dt 5 ?_
      refine dt 6 ?_
      refine dt 7 ?_ (hy := yd_slv (i := i) rfl rfl (by omega) (by omega) (by omega) (by omega))
      refine dO 8 (by kernel_rfl) (by rw [List.getElem?_toArray]; rfl) ?_
      refine o_cpy (cs := B) (L' := A ++ X ++ B ++ rest.drop 4) rfl rfl rfl (src_row (by exact memE) eB) .here (cpyM (P := A ++ X) (M := Y) (by rw [List.append_assoc A B rest, hXY]; simp [List.append_assoc]) (by simp only [List.length_append]; omega) hY) (by rw [hBl]; congr 1; show _ = min (xs.length + 1 - i) (xs.length + 1 - (i + 1)); omega) (by simp only [List.length_append]; omega) h1B ?_
      refine dk ?_
      refine dd ?_
      refine go ?_; intros
      apply wO; apply oc; rfl; exact yd_slv (i := i) rfl rfl rfl (by omega) (by omega) (by omega)
      refine go ?_; intros
      apply wO
      refine o_cpy (cs := [.int .i64 y.number, .int .i64 y.state, .int .i64 y.untl, .int .i64 y.tries]) (L' := A ++ [.int .i64 y.number, .int .i64 y.state, .int .i64 y.untl, .int .i64 y.tries] ++ (B ++ rest.drop 4)) rfl rfl rfl (src_row (L := [.int .i64 y.number, .int .i64 y.state, .int .i64 y.untl, .int .i64 y.tries]) (o := 0) (m := 4) (by exact memE) rfl) .here (cpyM (M := X) (by simp [List.append_assoc]) (by omega) (by simpa using hX)) (by show 4 = min 1 (xs.length + 1 - i) * 4; omega) (by simp only [List.length_append, List.length_cons, List.length_nil]; omega) h1y ?_
      refine go ?_; intros
      refine t_owof (L := A ++ [.int .i64 y.number, .int .i64 y.state, .int .i64 y.untl, .int .i64 y.tries] ++ (B ++ rest.drop 4)) (cs := A ++ [.int .i64 y.number, .int .i64 y.state, .int .i64 y.untl, .int .i64 y.tries] ++ B) (rest := rest.drop 4) (xs := xs.take i ++ y :: xs.drop i) c (by simp [List.append_assoc]) hins (by omega) (by omega) (by rw [show ERequest.sz = 4 from rfl]; simp only [List.length_append, List.length_cons, List.length_nil, List.length_drop]; omega) ?_
      rw [hlen]
      refine ret (_, c, [g]) trivial rfl

instance : IntC Tryz.prog 248 .u64 := ⟨Tryz.underlying248⟩

set_option maxRecDepth 100000 in
theorem SrchReq_f (fid : FuncId) (caps : List Value) (A : List Pc) (hA : A.all (fun p => !p.mu) = true) (xs : List Request) (a : Option Addr) (c : Nat) (F : List Nat) (tv : Value) (f : Request → Int) (hm : ∀ i j (_ : i ≤ j) (hj : j < xs.length), f xs[j] < 0 → f (xs[i]'(by omega)) < 0) (hb : bodyB Tryz.prog fid = true) (hl : xs.length ≤ 1000000)
    (hp : ∀ x ∈ xs, ∀ w, Hol A w → Calls Tryz.prog fid ([.agg #[.int .i64 x.number, .int .i64 x.state, .int .i64 x.untl, .int .i64 x.tries], tv] ++ caps).toArray w fun e w' => e = .returned (.int .i64 (f x)) ∧ Below w.heap.size w w') :
    Fn Tryz.prog 220 [.slice a xs.length c, tv, .func (.func fid) #[] caps.toArray] (.sl ERequest (.slice a xs.length c) xs F :: A) [] (fun (_ : Unit) => True) (fun _ => .tuple #[.int .i64 ((xs.takeWhile fun x => decide (f x < 0)).length : Nat), .bool (hitB f xs[(xs.takeWhile fun x => decide (f x < 0)).length]?)]) (fun _ => []) := by
  refine enter Tryz.func220 rfl Tryz.ntmps220 (fun w0 => ?_) rfl (by simpa [Pc.mu] using hA) .nil
  refine go ?_; intros
  refine c_loopR [0, 1, 2, 6, 7, 8] (fun s : Nat × Nat => [(9, .int .i64 (s.1 : Nat)), (10, .int .i64 (s.2 : Nat))]) (fun s => s.1 ≤ s.2 ∧ s.2 ≤ xs.length ∧ (∀ j (_ : j < s.1) (h : j < xs.length), f xs[j] < 0) ∧ (∀ j (_ : s.2 ≤ j) (h : j < xs.length), ¬ f xs[j] < 0)) (fun s => s.2 - s.1) (0, xs.length) ⟨Nat.zero_le _, Nat.le_refl _, fun j h => by omega, fun j h1 h2 => by omega⟩ fun s hs => ?_
  obtain ⟨i, j⟩ := s
  obtain ⟨h1, h2, h3, h4⟩ := hs
  dsimp only at h1 h2 h3 h4 ⊢
  refine go ?_; intros
  refine c_if rfl (fun h5 => ?_) (fun h5 => ?_)
  · have hh : (i + j) / 2 < xs.length := by omega
    have e2 : ((i : Int) + (j : Int)) / 2 = (((i + j) / 2 : Nat) : Int) := by omega
    refine go ?_; intros
    apply wO; apply oc; rfl; exact yd_cvu rfl (by omega) (by omega)
    refine go ?_; intros
    apply wO; apply oc; rfl; exact yd_shr1 rfl
    rw [e2]
    apply wO; apply oc; rfl; exact yd_cv rfl (by omega) (by omega)
    generalize hq : (i + j) / 2 = q at hh
    refine go ?_; intros
    refine atRequest (xs := xs) q ?_
    rintro hi b o e
    rw [e]
    refine go ?_; intros
    apply wO
    refine o_callv rfl rfl hb evsE ?_
    refine cb (fun w st => hp xs[q] (List.getElem_mem hh) w (fun p hp => st.on p (by simp [hp]))) ?_
    refine go ?_; intros
    refine c_if rfl (fun h6 => ?_) (fun h6 => ?_)
    · refine go ?_; intros
      refine t_drop ?_
      refine n_lp (hH := hsub_refl _) (q + 1, j) ⟨by show q + 1 ≤ j; omega, h2, fun k hk h => hm k q (by have : k < q + 1 := hk; omega) hh h6, h4⟩ (by show j - (q + 1) < j - i; omega)
    · refine go ?_; intros
      refine t_drop ?_
      refine n_lp (hH := hsub_refl _) (i, q) ⟨by show i ≤ q; omega, by show q ≤ xs.length; omega, h3, fun k hk h hn => h6 (hm q k hk h hn)⟩ (by show q - i < j - i; omega)
  · have hij : i = j := by omega
    subst hij
    have hk : (xs.takeWhile fun x => decide (f x < 0)).length = i := tw_len h2 (fun j hj h => decide_eq_true (h3 j hj h)) (fun h => decide_eq_false (h4 i (Nat.le_refl _) h))
    rw [hk]
    refine go ?_; intros
    refine wg_if rfl rfl (fun h6 => ?_) (fun h6 => ?_)
    · have hh : i < xs.length := by omega
      rw [List.getElem?_eq_getElem hh]
      refine go ?_; intros
      refine atRequest (xs := xs) i ?_
      rintro hi b o e
      rw [e]
      refine go ?_; intros
      apply wO
      refine o_callv rfl rfl hb evsE ?_
      refine cb (fun w st => hp xs[i] (List.getElem_mem hh) w (fun p hp => st.on p (by simp [hp]))) ?_
      refine go ?_; intros
      refine ret () trivial rfl
    · rw [List.getElem?_eq_none (by omega)]
      refine go ?_; intros
      refine ret () trivial rfl

theorem srch_ask {base n : Int} {l : List Request} (hser : ∀ q ∈ l, isSer q.number = true) (hn : isSer n = true) : (l.takeWhile fun x => decide (gp base x.number - gp base n < 0)).length = askAt base l n ∧
    hitB (fun x : Request => gp base x.number - gp base n) l[(l.takeWhile fun x => decide (gp base x.number - gp base n < 0)).length]? = askOn base l n := by
  have e : (fun x : Request => decide (gp base x.number - gp base n < 0)) = fun h => decide (gp base h.number < gp base n) := by
    funext x; rw [decide_eq_decide]; omega
  have e1 : (l.takeWhile fun x => decide (gp base x.number - gp base n < 0)).length = askAt base l n := by unfold askAt; rw [e]
  refine ⟨e1, ?_⟩
  rw [e1]
  unfold askOn
  cases hq : l[askAt base l n]? with
  | none => rfl
  | some z =>
    show decide (gp base z.number - gp base n = 0) = decide (z.number = n)
    rw [decide_eq_decide]
    exact ⟨fun h => gpInj (t := base) (hser z (List.mem_of_getElem? hq)) hn (by omega), fun h => by rw [h]; omega⟩
set_option maxRecDepth 100000 in
theorem fr1_f (r : Request) (n t : Int) (gb : Nat) (t0 : 0 ≤ t) (t1 : t ≤ 65535) (n0 : 0 ≤ n) (n1 : n ≤ 65535) (m0 : 0 ≤ r.number) (m1 : r.number ≤ 65535) :
    Fn Tryz.prog 221 [.agg #[.int .i64 r.number, .int .i64 r.state, .int .i64 r.untl, .int .i64 r.tries], .int .i64 n, ptr gb 0 0] [.cel gb 0 [.int .i64 t]] [] (fun (_ : Unit) => True) (fun _ => .int .i64 (gp t r.number - gp t n)) (fun _ => []) := by
  have b1 := gp_bd t r.number
  have b2 := gp_bd t n
  refine enter Tryz.func221 rfl Tryz.ntmps221 fun w0 => ?_
  refine go ?_; intros
  refine d_start [0, 1] [] ?_
  refine dt 0 ?_
  refine dt 1 ?_
  refine dt 2 ?_
  refine dt 4 ?_
  refine dt 5 ?_
  refine dO 3 (by kernel_rfl) (by rw [List.getElem?_toArray]; rfl) ?_
  apply o_call; rfl; kernel_rfl; exact evsE
  refine ce (fun w s => gap_c _ _ _ (by omega) (by omega) (by omega) (by omega)) ?_
  refine dk ?_
  refine dO 6 (by kernel_rfl) (by rw [List.getElem?_toArray]; rfl) ?_
  apply o_call; rfl; kernel_rfl; exact evsE
  refine ce (fun w s => gap_c _ _ _ (by omega) (by omega) (by omega) (by omega)) ?_
  refine dk ?_
  refine dt 7 ?_
  refine dt 8 ?_
  refine dd ?_
  refine go ?_; intros
  refine ret () trivial rfl
set_option maxRecDepth 100000 in
theorem findRequest_f (l : List Request) (base n : Int) (a : Option Addr) (c : Nat) (F : List Nat) (hq : areQ l base = true) (hn : isSer n = true) :
    Fn Tryz.prog 139 [.slice a l.length c, .int .i64 base, .int .i64 n] [.sl ERequest (.slice a l.length c) l F] [] (fun (_ : Unit) => True) (fun _ => .tuple #[.int .i64 (askAt base l n : Nat), .bool (askOn base l n)]) (fun _ => []) := by
  obtain ⟨q1, q2, q3, q4⟩ := areQ_iff.1 hq
  have hser : ∀ q ∈ l, isSer q.number = true := fun q h => (okReq_iff.1 (q3 q h)).n
  obtain ⟨b0, b1⟩ := isSer_iff.1 q1
  obtain ⟨n0, n1⟩ := isSer_iff.1 hn
  obtain ⟨e1, e2⟩ := srch_ask (base := base) hser hn
  refine enter Tryz.func139 rfl Tryz.ntmps139 fun w0 => ?_
  refine go ?_; intros
  rename_i gb
  refine cb (fun w st => by
    have r1 := st.get (p := .row gb 3 0 [] [.int .i64 base] []) (by simp)
    have hw := (st.get (p := .sl ERequest (.slice a l.length c) l F) (by simp)).2
    refine (SrchReq_f 221 [ptr gb 0 0] [.cel gb 0 [.int .i64 base]] rfl l a c F (.int .i64 n) (fun r => gp base r.number - gp base n) (fun i j hij hj h => ?_) (by kernel_rfl) (by omega) fun x hx w' hA => ?_).val w ?_
    · rcases Nat.lt_or_eq_of_le hij with h2 | rfl
      · have := List.pairwise_iff_getElem.1 q4 i j (by omega) hj h2; omega
      · exact h
    · obtain ⟨m0, m1⟩ := isSer_iff.1 (hser x hx)
      exact (fr1_f x n base gb b0 b1 n0 n1 m0 m1).val w' hA
    · intro p hp
      simp only [List.mem_cons, List.not_mem_nil, or_false] at hp
      rcases hp with rfl | rfl
      · exact st.get (by simp)
      · exact ⟨by simp, row_range r1⟩) ?_
  rw [e2, e1]
  refine go ?_; intros
  refine ret () trivial rfl
set_option maxRecDepth 100000 in
theorem l12Place_f (l : List Request) (base n : Int) (a : Option Addr) (c : Nat) (F : List Nat) (hq : areQ l base = true) (hn : isSer n = true) :
    Fn Tryz.prog 143 [.slice a l.length c, .int .i64 base, .int .i64 n] [.sl ERequest (.slice a l.length c) l F] [] (fun (_ : Unit) => True) (fun _ => .tuple #[.int .i64 (askAt base l n : Nat), .bool (askOn base l n)]) (fun _ => []) := by
  obtain ⟨q1, q2, q3, q4⟩ := areQ_iff.1 hq
  have hser : ∀ q ∈ l, isSer q.number = true := fun q h => (okReq_iff.1 (q3 q h)).n
  obtain ⟨b0, b1⟩ := isSer_iff.1 q1
  obtain ⟨n0, n1⟩ := isSer_iff.1 hn
  obtain ⟨t1, t2, t3⟩ := tw_spec (p := fun r : Request => decide (gp base r.number < gp base n)) (xs := l)
  have hle := askAt_le base l n
  have hb2 := gp_bd base n
  refine enter Tryz.func143 rfl Tryz.ntmps143 fun w0 => ?_
  refine go ?_; intros
  refine c_loopS [0, 1, 2, 6, 7] (fun k : Nat => [(8, .int .i64 (k : Nat))]) (fun _ => []) (fun k => k ≤ askAt base l n) (fun k => l.length - k) 0 (Nat.zero_le _) fun k hk => ?_
  have leaf : ∀ h : k < l.length, decide (gp base l[k].number < gp base n) = decide (k < askAt base l n) := fun h => by
    by_cases h2 : k < askAt base l n
    · rw [decide_eq_true h2]; exact t2 k h2 h
    · have e : k = askAt base l n := by omega
      subst e
      rw [decide_eq_false h2]; exact t3 h
  refine go ?_; intros
  refine wg_if rfl rfl (fun h4 => ?_) (fun h4 => ?_)
  · have hi : k < l.length := by omega
    refine go ?_; intros
    refine atRequest (xs := l) k ?_
    rintro hi b o e
    rw [e]
    refine go ?_; intros
    obtain ⟨m0, m1⟩ := isSer_iff.1 (hser _ (List.getElem_mem hi))
    have hb1 := gp_bd base l[k].number
    refine ce (fun w s => l2Gap_c _ _ _ (by omega) (by omega)) ?_
    refine go ?_; intros
    refine ce (fun w s => l2Gap_c _ _ _ (by omega) (by omega)) ?_
    have lf := leaf hi
    refine go ?_; intros
    refine c_if rfl (fun h5 => ?_) (fun h5 => ?_)
    · have h6 : k < askAt base l n := by rw [decide_eq_true h5] at lf; simpa using lf.symm
      refine go ?_; intros
      refine n_lp (k + 1) (by show k + 1 ≤ askAt base l n; omega) (by show l.length - (k + 1) < l.length - k; omega)
    · have h6 : k = askAt base l n := by rw [decide_eq_false h5] at lf; have : ¬ k < askAt base l n := by simpa using lf.symm
                                         omega
      refine go ?_; intros
      refine d_start [0] [] ?_
      refine dt 0 ?_
      refine dt 1 ?_
      refine dt 2 ?_
      refine dt 3 ?_
      refine dt 4 ?_
      rw [decide_eq_true h4]
      refine dt 5 ?_
      refine dtg 6 ?_
      refine dtg 7 ?_
      refine dtg 8 ?_
      refine dtg 9 ?_
      refine dtg 10 ?_
      refine dtg 11 ?_
      refine dtg 12 ?_
      refine dt 13 ?_
      refine dt 14 ?_
      refine dt 15 ?_
      refine dd ?_
      rw [askOn_at (by omega)]
      subst h6
      refine go ?_; intros
      refine ret () trivial rfl
  · have h6 : k = askAt base l n := by omega
    refine go ?_; intros
    refine d_start [0] [] ?_
    refine dt 0 ?_
    refine dt 1 ?_
    refine dt 2 ?_
    refine dt 3 ?_
    refine dt 4 ?_
    rw [decide_eq_false h4]
    refine dt 5 ?_
    refine ds 6 ?_
    refine ds 7 ?_
    refine ds 8 ?_
    refine ds 9 ?_
    refine ds 10 ?_
    refine ds 11 ?_
    refine ds 12 ?_
    refine dt 13 ?_
    refine dt 14 ?_
    refine dt 15 ?_
    refine dd ?_
    rw [askOn_end (by omega)]
    subst h6
    refine go ?_; intros
    refine ret () trivial rfl
end Go.Proofs.YtgogcgkocjpgoaaGreatDoor
/- Draws, for the engine: requests. -/
namespace Go.Proofs.YtgogcgkocjpgoaaGreatDoor
open Go.RowKit
theorem mostQ_f (a b : Int) : Fn Tryz.prog 267 [.int .i64 a, .int .i64 b] [] [] (fun (_ : Unit) => True) (fun _ => .int .i64 (max a b)) (fun _ => []) := by
  refine enter Tryz.func267 rfl Tryz.ntmps267 fun w0 => ?_
  refine go ?_; intros
  refine c_if rfl (fun h => ?_) (fun h => ?_)
  · refine go ?_; intros
    rw [show max a b = a by omega]
    refine ret () trivial rfl
  · refine go ?_; intros
    rw [show max a b = b by omega]
    refine ret () trivial rfl
structure RqD where
  xs : List Request
  i : Nat
  a : Option Addr
  c : Nat
  F : List Nat
  s : CuS
structure RqOk (B : Nat) (z : RqD) : Prop where
  l : z.xs.length ≤ z.i
  i : z.i ≤ 8
  s : CuOk (B + 10 * z.i) z.s
set_option maxRecDepth 100000 in
theorem requests_f (B g : Nat) (F : CuF) (s : CuS) (base : Int) (hb : base ≤ 1000000000) (ok : CuOk B s) (hB : B ≤ 700000000000) :
    Fn Tryz.prog 214 [ptr g 0 0, .int .i64 base] [.sl EByte (.slice F.a F.code.length F.c) F.code F.bs] [.row g 123 0 [] [.slice F.a F.code.length F.c, .int .i64 (s.k : Nat), .int .u64 s.seed] []] (fun (z : RqD) => z.xs.length ≤ 9 ∧ CuOk (B + 100) z.s) (fun z => .slice z.a z.xs.length z.c) (fun z => [.ow ERequest 152 (.slice z.a z.xs.length z.c) z.xs z.F, .row g 123 0 [] [.slice F.a F.code.length F.c, .int .i64 (z.s.k : Nat), .int .u64 z.s.seed] []]) := by
  refine enter Tryz.func214 rfl Tryz.ntmps214 fun w0 => ?_
  refine go ?_; intros
  refine t_emp ERequest ?_
  refine go ?_; intros
  refine c_loopS [0, 1, 4] (fun z : RqD => [(5, .slice z.a z.xs.length z.c), (6, .int .i64 (z.i : Nat))]) (fun z => [.ow ERequest 152 (.slice z.a z.xs.length z.c) z.xs z.F, .row g 123 0 [] [.slice F.a F.code.length F.c, .int .i64 (z.s.k : Nat), .int .u64 z.s.seed] []]) (RqOk B) (fun z => 8 - z.i) ⟨[], 0, _, _, _, s⟩ ⟨Nat.le_refl _, by show 0 ≤ 8; omega, ok.mono (by omega)⟩ fun z hz => ?_
  obtain ⟨z1, z2, z3⟩ := hz
  refine go ?_; intros
  refine wg_if rfl rfl (fun h1 => ?_) (fun h1 => ?_)
  refine go ?_; intros
  refine ce (fun w s => l2Good_c _ _) ?_
  cases g1 : isSer base
  rotate_left
  · obtain ⟨n0, n1⟩ := isSer_iff.1 g1
    refine go ?_; intros
    refine cf (one_f _ g F 3 z.s z3 (by omega) (by omega)) fun q hq => ?_
    refine t_app ?_
    obtain ⟨b, s1⟩ := q
    obtain ⟨-, h2⟩ := hq
    dsimp only at h2 ⊢
    cases b
    · refine go ?_; intros
      refine n_lp ⟨z.xs, z.i + 1, z.a, z.c, z.F, s1⟩ ⟨by show z.xs.length ≤ z.i + 1; omega, by show z.i + 1 ≤ 8; omega, h2.mono (by show _ ≤ B + 10 * (z.i + 1); omega)⟩ (by show 8 - (z.i + 1) < 8 - z.i; omega)
    refine go ?_; intros
    refine ce (fun w s => l2After_c _ _ _ (by omega) (by omega)) ?_
    refine go ?_; intros
    refine cf (pick_f _ g F 3 s1 h2 (by omega) (by omega)) fun y hy => ?_
    refine t_app ?_
    obtain ⟨k3, s3⟩ := y
    obtain ⟨r3, h3⟩ := hy
    dsimp only at r3 h3 ⊢
    have r3 : k3 ≤ 2 := by omega
    refine go ?_; intros
    refine cf (pick_f _ g F 12 s3 h3 (by omega) (by omega)) fun y hy => ?_
    refine t_app ?_
    obtain ⟨k4, s4⟩ := y
    obtain ⟨r4, h4⟩ := hy
    dsimp only at r4 h4 ⊢
    have r4 : k4 ≤ 11 := by omega
    refine go ?_; intros
    refine cf (pick_f _ g F 4 s4 h4 (by omega) (by omega)) fun y hy => ?_
    refine t_app ?_
    obtain ⟨k5, s5⟩ := y
    obtain ⟨r5, h5⟩ := hy
    dsimp only at r5 h5 ⊢
    have r5 : k5 ≤ 3 := by omega
    refine goN ?_; intros
    apply wO
    refine ap1 (rep1_Request ⟨aft base (z.i : Nat), 1 + (k3 : Nat), 10 + (k4 : Nat), (k5 : Nat)⟩) one_ERequest fun a9 c9 F9 => ?_
    refine go ?_; intros
    refine n_lp ⟨z.xs ++ [⟨aft base (z.i : Nat), 1 + (k3 : Nat), 10 + (k4 : Nat), (k5 : Nat)⟩], z.i + 1, a9, c9, F9, s5⟩ ⟨by show (z.xs ++ [_]).length ≤ z.i + 1; simp; omega, by show z.i + 1 ≤ 8; omega, h5.mono (by show _ ≤ B + 10 * (z.i + 1); omega)⟩ (by show 8 - (z.i + 1) < 8 - z.i; omega)
  all_goals
    refine go ?_; intros
    refine cf (pick_f _ g F 24 z.s z3 (by omega) (by omega)) fun p hp => ?_
    refine t_app ?_
    obtain ⟨r, s3⟩ := p
    obtain ⟨-, hp⟩ := hp
    dsimp only at hp ⊢
    refine go ?_; intros
    refine c_if rfl (fun e0 => ?_) (fun e0 => ?_)
    · refine go ?_; intros
      refine cf (anySerial_f _ g F s3 hp (by omega)) fun q hq => ?_
      refine t_app ?_
      refine goN ?_; intros
      apply wO
      refine ap1 (rep1_Request ⟨q.1, 1, 0, 0⟩) one_ERequest fun a9 c9 F9 => ?_
      refine go ?_; intros
      refine ret ⟨z.xs ++ [⟨q.1, 1, 0, 0⟩], 0, a9, c9, F9, q.2⟩ ⟨by show (z.xs ++ [_]).length ≤ 9; simp; omega, hq.mono (by omega)⟩ rfl
    refine go ?_; intros
    refine c_if rfl (fun e1 => ?_) (fun e1 => ?_)
    · refine goN ?_; intros
      refine t_row (xs := [0, 4, 1]) (fun w => flat_int w _) ?_ (by decide)
      refine t_read (E := EInt) fun G => ?_
      refine go ?_; intros
      refine cf (among_f _ g F _ [0, 4, 1] G s3 hp (by omega) (by decide) (by decide)) fun q hq => ?_
      refine t_app ?_
      refine goN ?_; intros
      refine t_row (xs := [-1, 10007, 10008]) (fun w => flat_int w _) ?_ (by decide)
      refine t_read (E := EInt) fun G => ?_
      refine go ?_; intros
      refine cf (among_f _ g F _ [-1, 10007, 10008] G q.2 hq.2 (by omega) (by decide) (by decide)) fun u hu => ?_
      refine t_app ?_
      refine goN ?_; intros
      apply wO
      refine ap1 (rep1_Request ⟨base, q.1, u.1, 0⟩) one_ERequest fun a9 c9 F9 => ?_
      refine go ?_; intros
      refine ret ⟨z.xs ++ [⟨base, q.1, u.1, 0⟩], 0, a9, c9, F9, u.2⟩ ⟨by show (z.xs ++ [_]).length ≤ 9; simp; omega, hu.2.mono (by omega)⟩ rfl
    refine go ?_; intros
    refine c_if rfl (fun e2 => ?_) (fun e2 => ?_)
    · refine go ?_; intros
      refine cf (mostQ_f _ _) fun _ _ => ?_
      refine t_app ?_
      refine go ?_; intros
      refine ce (fun w s => l2After_c _ _ _ (by omega) (by omega)) ?_
      refine goN ?_; intros
      refine t_row (xs := [-1, 3, 4]) (fun w => flat_int w _) ?_ (by decide)
      refine t_read (E := EInt) fun G => ?_
      refine go ?_; intros
      refine cf (among_f _ g F _ [-1, 3, 4] G s3 hp (by omega) (by decide) (by decide)) fun q hq => ?_
      refine t_app ?_
      refine goN ?_; intros
      apply wO
      refine ap1 (rep1_Request ⟨aft (max base 0) 7, 2, 0, q.1⟩) one_ERequest fun a9 c9 F9 => ?_
      refine go ?_; intros
      refine ret ⟨z.xs ++ [⟨aft (max base 0) 7, 2, 0, q.1⟩], 0, a9, c9, F9, q.2⟩ ⟨by show (z.xs ++ [_]).length ≤ 9; simp; omega, hq.2.mono (by omega)⟩ rfl
    refine go ?_; intros
    refine ret ⟨z.xs, 0, z.a, z.c, z.F, s3⟩ ⟨by show z.xs.length ≤ 9; omega, hp.mono (by omega)⟩ rfl
end Go.Proofs.YtgogcgkocjpgoaaGreatDoor
/- Hearing: a request more, on both sides. -/
namespace Go.Proofs.YtgogcgkocjpgoaaGreatDoor
open Go.RowKit
def addL (base : Int) (l : List Request) (n u : Int) : List Request := if askOn base l n then [] else insQ base l n u
structure OwR where
  a : Option Addr
  c : Nat
  F : List Nat
set_option maxRecDepth 100000 in
theorem AddRequest_f (l : List Request) (base n ck d : Int) (a : Option Addr) (c : Nat) (F : List Nat) (hq : areQ l base = true) (hn : isSer n = true) (h8 : gp base n < 8) (k0 : 0 ≤ ck) (k1 : ck ≤ 9999) (d0 : 1 ≤ d) (d1 : d ≤ 8) :
    Fn Tryz.prog 290 [.slice a l.length c, .int .i64 base, .int .i64 n, .int .i64 ck, .int .i64 d] [.sl ERequest (.slice a l.length c) l F] [] (fun (_ : OwR) => True) (fun s => .tuple #[.slice s.a (addL base l n (ck + d)).length s.c, .bool (!askOn base l n)]) (fun s => [.ow ERequest 152 (.slice s.a (addL base l n (ck + d)).length s.c) (addL base l n (ck + d)) s.F]) := by
  have hle := askAt_le base l n
  obtain ⟨q1, q2, q3, q4⟩ := areQ_iff.1 hq
  have hck : isClk ck = true := by unfold isClk btw; simp; omega
  have hdl : isDel d = true := by unfold isDel btw; simp; omega
  refine enter Tryz.func290 rfl Tryz.ntmps290 fun w0 => ?_
  refine go ?_; intros
  refine cf (AreRequests_f l base _ F) fun _ _ => ?_
  refine t_app ?_
  rw [hq]
  refine go ?_; intros
  refine ce (fun w s => IsSerial_c _ _) ?_
  rw [hn]
  refine go ?_; intros
  refine ce (fun w s => isClock_c _ _) ?_
  rw [hck]
  refine go ?_; intros
  refine cf (isDelay_f d) fun _ _ => ?_
  refine t_app ?_
  rw [hdl]
  refine go ?_; intros
  refine cf (findRequest_f l base n a c F hq hn) fun _ _ => ?_
  refine t_app ?_
  cases ho : askOn base l n
  · rw [show addL base l n (ck + d) = insQ base l n (ck + d) by unfold addL; rw [ho]; rfl]
    have hln := insQ_len base l n (ck + d)
    refine go ?_; intros
    refine cf (ClRequest_f l a c F (by omega)) fun z _ => ?_
    refine t_app ?_
    refine go ?_; intros
    refine cf (InsReq_f l ⟨n, 1, ck + d, 0⟩ (askAt base l n) z.1 z.2.1 _ z.2.2 hle (by omega)) fun y _ => ?_
    refine t_app ?_
    rw [show l.take (askAt base l n) ++ (⟨n, 1, ck + d, 0⟩ : Request) :: l.drop (askAt base l n) = insQ base l n (ck + d) from rfl]
    refine go ?_; intros
    refine cb (fun w st => by obtain ⟨Fw, -, hw⟩ := (st.get (p := .ow ERequest 152 (.slice y.1 (insQ base l n (ck + d)).length y.2.1) (insQ base l n (ck + d)) y.2.2) (by simp)).2.read; exact (AreRequests_f (insQ base l n (ck + d)) base _ Fw).val w (hol1 ⟨by decide, hw⟩)) ?_
    rw [insQ_good hq hn h8 (by omega) (by omega) ho]
    refine go ?_; intros
    refine ret ⟨_, _, _⟩ trivial rfl
  · rw [show addL base l n (ck + d) = [] by unfold addL; rw [ho]; rfl]
    refine go ?_; intros
    refine t_nilow ERequest 152 ?_
    refine ret ⟨none, 0, []⟩ trivial rfl
set_option maxRecDepth 100000 in
theorem l12Add_f (l : List Request) (base n ck d : Int) (a : Option Addr) (c : Nat) (F : List Nat) (hq : areQ l base = true) (hn : isSer n = true) (k0 : 0 ≤ ck) (k1 : ck ≤ 9999) (d0 : 1 ≤ d) (d1 : d ≤ 8) :
    Fn Tryz.prog 261 [.slice a l.length c, .int .i64 base, .int .i64 n, .int .i64 ck, .int .i64 d] [.sl ERequest (.slice a l.length c) l F] [] (fun (_ : OwR) => True) (fun s => .slice s.a (addQ base l n (ck + d)).length s.c) (fun s => [.ow ERequest 152 (.slice s.a (addQ base l n (ck + d)).length s.c) (addQ base l n (ck + d)) s.F]) := by
  have hle := askAt_le base l n
  obtain ⟨q1, q2, q3, q4⟩ := areQ_iff.1 hq
  obtain ⟨b0, b1⟩ := isSer_iff.1 q1
  obtain ⟨n0, n1⟩ := isSer_iff.1 hn
  have hbd := gp_bd base n
  refine enter Tryz.func261 rfl Tryz.ntmps261 fun w0 => ?_
  refine go ?_; intros
  refine cf (l12Place_f l base n a c F hq hn) fun _ _ => ?_
  refine t_app ?_
  cases ho : askOn base l n
  rotate_left
  · rw [show addQ base l n (ck + d) = l by unfold addQ; rw [ho]; rfl]
    refine goN ?_; intros
    refine t_emp ERequest ?_
    refine go ?_; intros
    apply wO
    refine aps one_ERequest scal_ERequest fun a5 c5 F5 => ?_
    rw [List.nil_append]
    refine go ?_; intros
    refine ret ⟨_, _, _⟩ trivial rfl
  refine go ?_; intros
  refine ce (fun w s => l2Gap_c _ _ _ (by omega) (by omega)) ?_
  refine go ?_; intros
  refine c_if rfl (fun h4 => ?_) (fun h4 => ?_)
  · rw [show addQ base l n (ck + d) = l by unfold addQ; rw [ho, decide_eq_false (show ¬ gp base n < 8 by omega)]; rfl]
    refine goN ?_; intros
    refine t_emp ERequest ?_
    refine go ?_; intros
    apply wO
    refine aps one_ERequest scal_ERequest fun a5 c5 F5 => ?_
    rw [List.nil_append]
    refine go ?_; intros
    refine ret ⟨_, _, _⟩ trivial rfl
  rw [show addQ base l n (ck + d) = insQ base l n (ck + d) by unfold addQ; rw [ho, decide_eq_true (show gp base n < 8 by omega)]; rfl]
  refine t_sl (E := ERequest) (xs := l) ?_
  rintro _ _ e8 c0 c1
  cases e8
  refine t_rtake (E := ERequest) (xs := l) (askAt base l n) (fun FT => ?_) hle
  obtain ⟨T1, hT1⟩ : ∃ T1, T1 = l.take (askAt base l n) := ⟨_, rfl⟩
  have hT1l : T1.length = askAt base l n := by rw [hT1, List.length_take]; omega
  rw [← hT1]
  have hAdd : T1 ++ [(⟨n, 1, ck + d, 0⟩ : Request)] ++ l.drop (askAt base l n) = insQ base l n (ck + d) := by rw [hT1]; unfold insQ newQ; simp
  refine go ?_; intros
  refine d_start [0, 1] [] ?_
  refine dt 1 ?_
  refine dt 2 ?_
  refine dt 3 ?_ (hy := yd_slt (i := T1.length) rfl rfl (by rw [hT1l]) (by omega) (by omega))
  refine dt 5 ?_
  refine dt 8 ?_
  refine dt 9 ?_
  refine dsld 10 (askAt base l n) (fun a6 c6 F6 => ?_)
  refine dO2 0 6 (by kernel_rfl) (by rw [List.getElem?_toArray]; rfl) (by rw [List.getElem?_toArray]; rfl) ?_ ?_
  · apply o_bs0; rfl; intro _
    refine t_emp ERequest ?_
    refine dk ?_
    refine dO2 4 6 (by kernel_rfl) (by rw [List.getElem?_toArray]; rfl) (by rw [List.getElem?_toArray]; rfl) ?_ ?_
    · refine aps (ys := T1) one_ERequest scal_ERequest fun a7 c7 F7 => ?_
      rw [List.nil_append]
      refine dk ?_
      refine dO 6 (by kernel_rfl) (by rw [List.getElem?_toArray]; rfl) ?_
      apply o_bs; rfl; rfl; rfl; rfl; exact rptE; exact filE; intro _
      refine dk ?_
      refine dO 7 (by kernel_rfl) (by rw [List.getElem?_toArray]; rfl) ?_
      refine ap1 (rep1_Request ⟨n, 1, ck + d, 0⟩) one_ERequest fun a8 c8 F8 => ?_
      refine dk ?_
      refine dO 11 (by kernel_rfl) (by rw [List.getElem?_toArray]; rfl) ?_
      refine aps (ys := l.drop (askAt base l n)) one_ERequest scal_ERequest (h63 := by simp; omega) (hby := by simp; omega) fun a9 c9 F9 => ?_
      refine dk ?_
      refine dt 12 ?_
      refine dd ?_
      rw [hAdd]
      refine go ?_; intros
      refine ret ⟨_, _, _⟩ trivial rfl
    · apply o_bs; rfl; rfl; rfl; rfl; exact rptE; exact filE; intro _
      refine dk ?_
      refine dO 4 (by kernel_rfl) (by rw [List.getElem?_toArray]; rfl) ?_
      refine aps (ys := T1) one_ERequest scal_ERequest fun a7 c7 F7 => ?_
      rw [List.nil_append]
      refine dk ?_
      refine dO 7 (by kernel_rfl) (by rw [List.getElem?_toArray]; rfl) ?_
      refine ap1 (rep1_Request ⟨n, 1, ck + d, 0⟩) one_ERequest fun a8 c8 F8 => ?_
      refine dk ?_
      refine dO 11 (by kernel_rfl) (by rw [List.getElem?_toArray]; rfl) ?_
      refine aps (ys := l.drop (askAt base l n)) one_ERequest scal_ERequest (h63 := by simp; omega) (hby := by simp; omega) fun a9 c9 F9 => ?_
      refine dk ?_
      refine dt 12 ?_
      refine dd ?_
      rw [hAdd]
      refine go ?_; intros
      refine ret ⟨_, _, _⟩ trivial rfl
  · apply o_bs; rfl; rfl; rfl; rfl; exact rptE; exact filE; intro _
    refine dk ?_
    refine dO 0 (by kernel_rfl) (by rw [List.getElem?_toArray]; rfl) ?_
    apply o_bs0; rfl; intro _
    refine t_emp ERequest ?_
    refine dk ?_
    refine dO 4 (by kernel_rfl) (by rw [List.getElem?_toArray]; rfl) ?_
    refine aps (ys := T1) one_ERequest scal_ERequest fun a7 c7 F7 => ?_
    rw [List.nil_append]
    refine dk ?_
    refine dO 7 (by kernel_rfl) (by rw [List.getElem?_toArray]; rfl) ?_
    refine ap1 (rep1_Request ⟨n, 1, ck + d, 0⟩) one_ERequest fun a8 c8 F8 => ?_
    refine dk ?_
    refine dO 11 (by kernel_rfl) (by rw [List.getElem?_toArray]; rfl) ?_
    refine aps (ys := l.drop (askAt base l n)) one_ERequest scal_ERequest (h63 := by simp; omega) (hby := by simp; omega) fun a9 c9 F9 => ?_
    refine dk ?_
    refine dt 12 ?_
    refine dd ?_
    rw [hAdd]
    refine go ?_; intros
    refine ret ⟨_, _, _⟩ trivial rfl
end Go.Proofs.YtgogcgkocjpgoaaGreatDoor
/- Hearing: a request is confirmed, on both sides. -/
namespace Go.Proofs.YtgogcgkocjpgoaaGreatDoor
open Go.RowKit
set_option maxRecDepth 100000 in
theorem ConfirmRequest_f (l : List Request) (base n ck : Int) (a : Option Addr) (c : Nat) (F : List Nat) (hq : areQ l base = true) (hn : isSer n = true) (k0 : 0 ≤ ck) (k1 : ck ≤ 9999) :
    Fn Tryz.prog 212 [.slice a l.length c, .int .i64 base, .int .i64 n, .int .i64 ck] [.sl ERequest (.slice a l.length c) l F] [] (fun (_ : OwR) => True) (fun s => .tuple #[.slice s.a (confQ base l n (ck + 4)).length s.c, .bool true]) (fun s => [.ow ERequest 152 (.slice s.a (confQ base l n (ck + 4)).length s.c) (confQ base l n (ck + 4)) s.F]) := by
  have hle := askAt_le base l n
  obtain ⟨q1, q2, q3, q4⟩ := areQ_iff.1 hq
  have hck : isClk ck = true := by unfold isClk btw; simp; omega
  refine enter Tryz.func212 rfl Tryz.ntmps212 fun w0 => ?_
  refine go ?_; intros
  refine cf (AreRequests_f l base _ F) fun _ _ => ?_
  refine t_app ?_
  rw [hq]
  refine go ?_; intros
  refine ce (fun w s => IsSerial_c _ _) ?_
  rw [hn]
  refine go ?_; intros
  refine ce (fun w s => isClock_c _ _) ?_
  rw [hck]
  refine go ?_; intros
  refine cf (ClRequest_f l a c F (by omega)) fun z _ => ?_
  refine t_app ?_
  refine go ?_; intros
  refine cb (fun w st => by obtain ⟨Fw, -, hw⟩ := (st.get (p := .ow ERequest 152 (.slice z.1 (l).length z.2.1) (l) z.2.2) (by simp)).2.read; exact (findRequest_f l base n z.1 z.2.1 Fw hq hn).val w (hol1 ⟨by decide, hw⟩)) ?_
  have hcl := confQ_len base l n (ck + 4)
  cases ho : askOn base l n
  · rw [confQ_no ho]
    refine go ?_; intros
    refine ret ⟨_, _, _⟩ trivial rfl
  · have hlt := askOn_lt ho
    refine go ?_; intros
    refine focRequest (xs := l) (askAt base l n) ?_ (hi := hlt)
    rintro hi g A B ha hF hh
    rw [ha]
    refine go ?_; intros
    refine unfF (⟨n, 3, ck + 4, l[askAt base l n].tries⟩ : Request) hh (fun w => ?_) ?_
    · rw [askOn_at hi] at ho
      have e : l[askAt base l n].number = n := by simpa using ho
      rw [e]; exact ⟨rfl, rfl⟩
    rw [← confQ_yes ho]
    refine go ?_; intros
    rw [show l.length = (confQ base l n (ck + 4)).length from hcl.symm]
    refine ret ⟨_, _, _⟩ trivial rfl
set_option maxRecDepth 100000 in
theorem l12Confirm_f (l : List Request) (base n ck : Int) (a : Option Addr) (c : Nat) (F : List Nat) (hq : areQ l base = true) (hn : isSer n = true) (k0 : 0 ≤ ck) (k1 : ck ≤ 9999) :
    Fn Tryz.prog 207 [.slice a l.length c, .int .i64 base, .int .i64 n, .int .i64 ck] [.sl ERequest (.slice a l.length c) l F] [] (fun (_ : OwR) => True) (fun s => .slice s.a (confQ base l n (ck + 4)).length s.c) (fun s => [.ow ERequest 152 (.slice s.a (confQ base l n (ck + 4)).length s.c) (confQ base l n (ck + 4)) s.F]) := by
  have hle := askAt_le base l n
  obtain ⟨q1, q2, q3, q4⟩ := areQ_iff.1 hq
  have hcl := confQ_len base l n (ck + 4)
  refine enter Tryz.func207 rfl Tryz.ntmps207 fun w0 => ?_
  refine goN ?_; intros
  refine t_emp ERequest ?_
  refine go ?_; intros
  apply wO
  refine aps one_ERequest scal_ERequest fun a5 c5 F5 => ?_
  rw [List.nil_append]
  refine go ?_; intros
  refine cf (l12Place_f l base n a c F hq hn) fun _ _ => ?_
  refine t_app ?_
  cases ho : askOn base l n
  · rw [confQ_no ho]
    refine go ?_; intros
    refine ret ⟨_, _, _⟩ trivial rfl
  · have hlt := askOn_lt ho
    refine go ?_; intros
    refine atRequest (xs := l) (askAt base l n) ?_
    rintro hi b o e
    rw [e]
    refine focRequest (xs := l) (a := a5) (askAt base l n) ?_ (hi := hlt)
    rintro hi g A B ha hF hh
    rw [ha]
    refine go ?_; intros
    refine unfF (⟨n, 3, ck + 4, l[askAt base l n].tries⟩ : Request) hh (fun w => ⟨rfl, rfl⟩) ?_
    rw [← confQ_yes ho]
    refine go ?_; intros
    rw [show l.length = (confQ base l n (ck + 4)).length from hcl.symm]
    refine ret ⟨_, _, _⟩ trivial rfl
end Go.Proofs.YtgogcgkocjpgoaaGreatDoor
/- A call that reads what is owned, and gives new pieces. -/
namespace Go.Proofs.YtgogcgkocjpgoaaGreatDoor
open Go.RowKit
theorem sep_roA : ∀ (A : List Pc), A.all (fun p => !p.mu) = true → Sep A
  | [], _ => trivial
  | p :: A, h => by
    simp only [List.all_cons, Bool.and_eq_true, Bool.not_eq_true'] at h
    exact ⟨fun q hq hm => by
      have hq' := List.all_eq_true.1 h.2 q hq
      simp only [Bool.not_eq_true'] at hq'
      rw [h.1, hq'] at hm; simp at hm, sep_roA A h.2⟩
section
variable {c : Cx} {fr : Fr} {H : List Pc} {d : Nat} {Φ : Gl}
theorem cfr {f : Nat} {vs : List Value} {σ : Type} {C : σ → Prop} {vv : σ → Value} {N : σ → List Pc} (hf : ∀ w, St c.G c.D c.w0 H w → ∃ A, Hol A w ∧ A.all (fun p => !p.mu) = true ∧ Fn c.P f vs A [] C vv N)
    (h : ∀ s, C s → T c ((d, vv s) :: fr) (N s ++ H) Φ) (hN : ∀ s, (N s).all (·.mu) = true := by intro s; rfl) : Cl c fr H d f vs Φ :=
  cl_of (R := fun w e w' => ∃ s, C s ∧ e = .returned (vv s) ∧ Hol (N s) w' ∧ Sep (N s) ∧ Keep [] w w' ∧ ∀ p ∈ N s, ∀ b ∈ p.F, w.heap.size ≤ b)
    (fun w s => by
      obtain ⟨A, hA, hm, hF⟩ := hf w s
      refine (hF w (by simpa using hA) (by simpa using sep_roA A hm)).mono fun e w' ⟨z, hz, he, h1, h2, h3, h4⟩ => ⟨z, hz, he, h1, h2, h3, fun p hp b hb => ?_⟩
      rcases h4 p hp b hb with h | ⟨q, hq, -⟩ | ⟨hp', -⟩
      · exact h
      · cases hq
      · have := List.all_eq_true.1 (hN z) p hp
        rw [hp'] at this; cases this)
    (fun w e w' s ⟨z, hz, he, h1, h2, h3, h4⟩ => ⟨_, he, fun a g => (h z hz).h a w' (St.turn (M := []) (R := H) (N := N z) s h3 h1 h2 fun p hp b hb => .inl (h4 p hp b hb)) g⟩)
theorem sep_lend {M A R : List Pc} (hm : M.all (·.mu) = true) (hA : A.all (fun p => !p.mu) = true) (hb : ∀ p ∈ A, ∀ b ∈ p.F, ∃ q ∈ R, b ∈ q.F) : Sep (M ++ R) → Sep (M ++ A) := by
  induction M with
  | nil => intro _; exact sep_roA A hA
  | cons p M ih =>
    simp only [List.all_cons, Bool.and_eq_true] at hm
    intro s
    refine ⟨fun q hq => ?_, ih hm.2 s.2⟩
    rcases List.mem_append.1 hq with h | h
    · exact s.1 q (by simp [h])
    · intro _ b hp hq2
      obtain ⟨r, hr, hbr⟩ := hb q h b hq2
      exact s.1 r (by simp [hr]) (by rw [hm.1]; rfl) b hp hbr
/-- a call that turns the pieces M and reads others that stand in its caller's hands -/
theorem cfm {f : Nat} {vs : List Value} {M R : List Pc} {σ : Type} {C : σ → Prop} {vv : σ → Value} {N : σ → List Pc} (hM : Picks H M R) (hf : ∀ w, St c.G c.D c.w0 (M ++ R) w → ∃ A, Hol A w ∧ A.all (fun p => !p.mu) = true ∧ (∀ p ∈ A, ∀ b ∈ p.F, ∃ q ∈ R, b ∈ q.F) ∧ Fn c.P f vs A M C vv N)
    (h : ∀ s, C s → T c ((d, vv s) :: fr) (N s ++ R) Φ) (hmM : M.all (·.mu) = true := by rfl) (hN : ∀ s, (N s).all (·.mu) = true := by intro s; rfl) : Cl c fr H d f vs Φ :=
  have hMR : ∀ w, St c.G c.D c.w0 H w → St c.G c.D c.w0 (M ++ R) w := fun w s => by simpa using hM.st (X := []) (by simpa using s)
  have hmu : ∀ p ∈ M, p.mu = true := fun p hp => List.all_eq_true.1 hmM p hp
  cl_of (R := fun w e w' => ∃ s, C s ∧ e = .returned (vv s) ∧ Hol (N s) w' ∧ Sep (N s) ∧ Keep (fp M) w w' ∧ ∀ p ∈ N s, ∀ b ∈ p.F, w.heap.size ≤ b ∨ ∃ q ∈ M, b ∈ q.F)
    (fun w s => by
      obtain ⟨A, hA, hm, hb, hF⟩ := hf w (hMR w s)
      have s2 := hMR w s
      refine (hF w (fun p hp => ?_) (sep_lend hmM hm hb s2.sep)).mono fun e w' ⟨z, hz, he, h1, h2, h3, h4⟩ => ⟨z, hz, he, h1, h2, h3, fun p hp b hb => ?_⟩
      · rcases List.mem_append.1 hp with hp | hp
        · exact s2.on p (by simp [hp])
        · exact hA p hp
      · rcases h4 p hp b hb with h | h | ⟨hp', -⟩
        · exact .inl h
        · exact .inr h
        · have := List.all_eq_true.1 (hN z) p hp
          rw [hp'] at this; cases this)
    (fun w e w' s ⟨z, hz, he, h1, h2, h3, h4⟩ => ⟨_, he, fun a g => (h z hz).h a w' (St.turn (hMR w s) (by rwa [List.filter_eq_self.2 hmu]) h1 h2 fun p hp b hb => by
      rcases h4 p hp b hb with h | ⟨q, hq, hqb⟩
      · exact .inl h
      · exact .inr (.inl ⟨q, hq, hmu q hq, hqb⟩)) g⟩)
/-- what every element of a slice has -/
theorem t_each {α : Type} {E : Elem α} (Q : α → Prop) (hQ : ∀ w cs x F, E.rep w cs x F → Q x) {a : Option Addr} {n cp : Nat} {xs : List α} {F : List Nat} (h : (∀ x ∈ xs, Q x) → T c fr H Φ) (hm : .sl E (.slice a n cp) xs F ∈ H := by (repeat (first | exact .head _ | apply List.Mem.tail)); first | done | fail) : T c fr H Φ := .mk fun ac w s g =>
  (h fun x hx => by
    obtain ⟨k, hk, rfl⟩ := List.getElem_of_mem hx
    obtain ⟨-, hs⟩ := s.get hm
    obtain ⟨-, -, cs, F1, -, h1, -, -⟩ := hs.at k hk
    exact hQ _ _ _ _ h1).h ac w s g
/-- the end of a body without results -/
theorem t_fall {P : Program} {fn : Func} {G D : List Nat} {w0 : World} {n : Nat} {R : Ending → World → Prop} (h : T ⟨P, G, D, w0, n, bodyPost P fn R⟩ fr H (.fin .ret)) : T ⟨P, G, D, w0, n, bodyPost P fn R⟩ fr H (.norm []) := n_end ⟨fun a w s g => h.h a w s g⟩
end
end Go.Proofs.YtgogcgkocjpgoaaGreatDoor
/- Hearing: skipping and awaiting, the program's. -/
namespace Go.Proofs.YtgogcgkocjpgoaaGreatDoor
open Go.RowKit
structure SkS where
  a : Option Addr
  c : Nat
  F : List Nat
  ae : Option Addr
  ce : Nat
  Fe : List Nat
set_option maxRecDepth 100000 in
theorem Rskip_f (w : ReceiveWindow) (st : Bool) (ck tr : Int) (q : Value) (g t o : Nat) (A B : List Value) (a1 : Option Addr) (c1 : Nat) (F1 : List Nat) (hg : goodRW w = true) (ht : isSer tr = true) :
    Fn Tryz.prog 264 [ptr g o 0, .int .i64 tr] [] [.row g t o A [.bool st, .int .i64 ck, .int .i64 (w).next, .slice a1 (w).slots.length c1, q] B, .ow ESlot 213 (.slice a1 (w).slots.length c1) (w).slots F1] (fun (_ : SkS) => True)
      (fun s => .slice s.ae (skipE w tr).length s.ce) (fun s => [.row g t o A [.bool st, .int .i64 ck, .int .i64 (skipW w tr).next, .slice s.a (skipW w tr).slots.length s.c, q] B, .ow ESlot 213 (.slice s.a (skipW w tr).slots.length s.c) (skipW w tr).slots s.F, .ow EStr 9 (.slice s.ae (skipE w tr).length s.ce) (skipE w tr) s.Fe]) := by
  obtain ⟨w0_, w1_⟩ := next_ser hg
  obtain ⟨t0_, t1_⟩ := isSer_iff.1 ht
  obtain ⟨hw8, hit⟩ := good_items hg
  have hgb := gp_bd w.next tr
  refine enter Tryz.func264 rfl Tryz.ntmps264 fun w0 => ?_
  refine go ?_; intros
  refine ce (fun w s => isBefore_c _ _ _ (by omega) (by omega) (by omega) (by omega)) ?_
  cases hb : bef w.next tr
  · have e1 : skipW w tr = w := by unfold skipW; rw [hb]; rfl
    have e2 : skipE w tr = [] := by unfold skipE; rw [hb]; rfl
    rw [e1, e2]
    refine t_nilow EStr 9 ?_
    refine go ?_; intros
    refine ret ⟨_, _, _, _, _, _⟩ trivial rfl
  refine go ?_; intros
  refine ce (fun w s => gap_c _ _ _ (by omega) (by omega) (by omega) (by omega)) ?_
  refine go ?_; intros
  refine c_if rfl (fun h4 => ?_) (fun h4 => ?_)
  · have e1 : skipW w tr = movedW w tr := by unfold skipW; rw [hb, if_pos rfl, if_pos h4]
    have e2 : skipE w tr = movedE w tr := by unfold skipE; rw [hb, if_pos rfl, if_pos h4]
    rw [e1, e2]
    refine t_rin [.bool st, .int .i64 ck] [.int .i64 w.next, .slice a1 w.slots.length c1] [q] ?_
    refine go ?_; intros
    refine cf (RWgive_f w tr g t (o + 2) (A ++ [.bool st, .int .i64 ck]) _ a1 c1 F1 w0_ w1_ t0_ t1_ hw8 hit) fun y hy => ?_
    refine t_app ?_
    obtain ⟨hy1, hy2⟩ := hy
    refine t_rout [.bool st, .int .i64 ck] [.int .i64 y.y.next, .slice y.a y.y.slots.length y.c] [q] ?_
    rw [show movedW w tr = y.y from hy1.symm, show movedE w tr = y.es from hy2.symm]
    refine go ?_; intros
    refine ret ⟨_, _, _, _, _, _⟩ trivial rfl
  · have e1 : skipW w tr = ⟨tr, []⟩ := by unfold skipW; rw [hb, if_pos rfl, if_neg h4]
    have e2 : skipE w tr = [⟨#[33]⟩] := by unfold skipE; rw [hb, if_pos rfl, if_neg h4]
    rw [e1, e2]
    refine t_nilow ESlot 213 ?_
    refine goN ?_; intros
    refine t_row (xs := [(⟨#[33]⟩ : ByteArray)]) (rep_str _ (by decide)) ?_ (by simp)
    refine go ?_; intros
    refine ret ⟨none, 0, [], _, _, _⟩ trivial rfl
structure AwS where
  i : Nat
  a : Option Addr
  c : Nat
  F : List Nat
set_option maxRecDepth 100000 in
set_option maxHeartbeats 800000 in
theorem Rawait_f (x : ReceiveWindow) (l : List Request) (st : Bool) (ck lead d : Int) (g t o : Nat) (A B : List Value) (a1 : Option Addr) (c1 : Nat) (F1 : List Nat) (a2 : Option Addr) (c2 : Nat) (F2 : List Nat) (hg : goodRW x = true) (hq : areQ l x.next = true) (hf : ∀ q ∈ l, hasB x q.number = false) (hl : isSer lead = true) (k0 : 0 ≤ ck) (k1 : ck ≤ 9999) (d0 : 1 ≤ d) (d1 : d ≤ 8) :
    Fn Tryz.prog 266 [ptr g o 0, .int .i64 lead, .int .i64 d] [] [.row g t o A [.bool st, .int .i64 ck, .int .i64 (x).next, .slice a1 (x).slots.length c1, .slice a2 (l).length c2] B, .ow ESlot 213 (.slice a1 (x).slots.length c1) (x).slots F1, .ow ERequest 152 (.slice a2 (l).length c2) (l) F2] (fun (_ : OwR) => True)
      (fun _ => .tuple #[]) (fun s => [.row g t o A [.bool st, .int .i64 ck, .int .i64 (x).next, .slice a1 (x).slots.length c1, .slice s.a (awaitQ x l lead (ck + d)).length s.c] B, .ow ESlot 213 (.slice a1 (x).slots.length c1) (x).slots F1, .ow ERequest 152 (.slice s.a (awaitQ x l lead (ck + d)).length s.c) (awaitQ x l lead (ck + d)) s.F]) := by
  obtain ⟨w0_, w1_⟩ := next_ser hg
  obtain ⟨l0_, l1_⟩ := isSer_iff.1 hl
  have hgb := gp_bd x.next lead
  refine enter Tryz.func266 rfl Tryz.ntmps266 fun w0 => ?_
  refine go ?_; intros
  refine ce (fun w s => isBefore_c _ _ _ (by omega) (by omega) (by omega) (by omega)) ?_
  cases hb : bef x.next lead
  · have e1 : awaitQ x l lead (ck + d) = l := by unfold awaitQ; rw [hb]; rfl
    rw [e1]
    refine go ?_; intros
    refine ret ⟨_, _, _⟩ trivial rfl
  obtain ⟨k, hk⟩ : ∃ k, k = awaitN x lead := ⟨_, rfl⟩
  have hk8 : k ≤ 8 := by rw [hk]; exact awaitN_le _ _
  have hkm : ((k : Nat) : Int) = min (gp x.next lead) 8 := by rw [hk]; unfold awaitN; omega
  obtain ⟨N, hN⟩ : ∃ N, N = missL x k := ⟨_, rfl⟩
  have hNl : N.length ≤ 8 := by have := missL_len x k; rw [hN]; omega
  have e1 : awaitQ x l lead (ck + d) = addAll x.next (ck + d) l N := by unfold awaitQ; rw [hb, if_pos rfl, hN, hk]
  rw [e1]
  have hav := aft_bd x.next (min (gp x.next lead) 8)
  have hgp : gp x.next (aft x.next (min (gp x.next lead) 8)) = (k : Nat) := by rw [← hkm]; unfold gp aft; omega
  refine go ?_; intros
  refine d_start [0] [] ?_
  refine dt 0 ?_
  refine dt 1 ?_
  refine dt 2 ?_
  refine dt 3 ?_
  refine dt 4 ?_
  refine dt 5 ?_
  refine dt 6 ?_
  refine dt 12 ?_
  refine dO 7 (by kernel_rfl) (by rw [List.getElem?_toArray]; rfl) ?_
  apply o_call; rfl; kernel_rfl; exact evsE
  refine ce (fun w s => gap_c _ _ _ (by omega) (by omega) (by omega) (by omega)) ?_
  refine dk ?_
  refine dt 8 ?_
  refine dO 9 (by kernel_rfl) (by rw [List.getElem?_toArray]; rfl) ?_
  apply o_call; rfl; kernel_rfl; exact evsE
  refine ce (fun w s => after_c _ _ _ (by omega) (by omega)) ?_
  refine dk ?_
  refine dO 10 (by kernel_rfl) (by rw [List.getElem?_toArray]; rfl) ?_
  apply o_call; rfl; kernel_rfl; exact evsE
  refine cfr (fun w st => by obtain ⟨F9, hF9⟩ := rdRW (st.get (p := .ow ESlot 213 (.slice a1 (x).slots.length c1) (x).slots F1) (by simp)); exact ⟨_, hol1 hF9, rfl, RWmissing_f x _ k _ F9 w0_ w1_ (by omega) (by omega) hgp⟩) (fun m _ => ?_)
  refine dk ?_
  refine dt 11 ?_
  refine dd ?_
  rw [← hN]
  refine t_read (E := EInt) (xs := N) fun GN => ?_
  refine go ?_; intros
  refine c_loopS [0, 2, 6, 30, 31] (fun s : AwS => [(32, .int .i64 (s.i : Nat))]) (fun s => [.row g t o A [.bool st, .int .i64 ck, .int .i64 (x).next, .slice a1 (x).slots.length c1, .slice s.a (addAll x.next (ck + d) l (N.take s.i)).length s.c] B, .ow ERequest 152 (.slice s.a (addAll x.next (ck + d) l (N.take s.i)).length s.c) (addAll x.next (ck + d) l (N.take s.i)) s.F]) (fun s => s.i ≤ N.length) (fun s => N.length - s.i) ⟨0, a2, c2, F2⟩ (Nat.zero_le _) fun s hs => ?_
  obtain ⟨i, a3, c3, F3⟩ := s
  dsimp only at hs ⊢
  have hall := addAll_good (w := x) (u := ck + d) (by omega) (by omega) (N.take i) l (fun n hn => by
    have := missL_at (w := x) (n := n) hk8 (by rw [← hN]; exact List.mem_of_mem_take hn)
    exact ⟨this.1, this.2.2⟩) hq hf
  have hLs : ∀ h : i < N.length, addAll x.next (ck + d) l (N.take (i + 1)) = addQ x.next (addAll x.next (ck + d) l (N.take i)) N[i] (ck + d) := fun h => addAll_succ h
  generalize hLd : addAll x.next (ck + d) l (N.take i) = L at *
  have hLq := hall.1
  have hL8 := (areQ_iff.1 hLq).2.1
  refine go ?_; intros
  refine c_if rfl (fun h4 => ?_) (fun h4 => ?_)
  · have hi : i < N.length := by omega
    have hni := missL_at (w := x) (n := N[i]) hk8 (by rw [← hN]; exact List.getElem_mem hi)
    refine at_int (xs := N) i ?_
    rintro hi2 b o2 e
    rw [e]
    refine go ?_; intros
    refine d_start [1] [] ?_
    refine dt 0 ?_
    refine dt 1 ?_
    refine dt 2 ?_
    refine dt 3 ?_
    refine dt 4 ?_
    refine dt 5 ?_
    refine dt 6 ?_
    refine dt 7 ?_
    refine dt 8 ?_
    refine dt 9 ?_
    refine dt 10 ?_
    refine dO 11 (by kernel_rfl) (by rw [List.getElem?_toArray]; rfl) ?_
    apply o_call; rfl; kernel_rfl; exact evsE
    refine cfr (fun w st => by obtain ⟨Fq, -, hq9⟩ := (st.get (p := .ow ERequest 152 (.slice a3 (L).length c3) (L) F3) (by simp)).2.read; exact ⟨[.sl ERequest (.slice a3 L.length c3) L Fq], hol1 ⟨by decide, hq9⟩, rfl, AddRequest_f L x.next N[i] ck d a3 c3 Fq hLq hni.1 hni.2.1 k0 k1 d0 d1⟩) (fun u _ => ?_)
    refine dk ?_
    refine dt 12 ?_
    refine dt 13 ?_
    refine dt 14 ?_
    refine dt 15 ?_
    refine dt 16 ?_
    refine dd ?_
    refine go ?_; intros
    cases ho : askOn x.next L N[i]
    · have eA : addAll x.next (ck + d) l (N.take (i + 1)) = addL x.next L N[i] (ck + d) := by rw [hLs hi]; unfold addQ addL; rw [ho, decide_eq_true hni.2.1]; rfl
      refine go ?_; intros
      rw [← eA]
      refine n_lp (⟨i + 1, _, _, _⟩ : AwS) (by show i + 1 ≤ N.length; omega) (by show N.length - (i + 1) < N.length - i; omega)
    · have eA : addAll x.next (ck + d) l (N.take (i + 1)) = L := by rw [hLs hi]; unfold addQ; rw [ho]; rfl
      refine go ?_; intros
      rw [← eA]
      refine n_lp (⟨i + 1, _, _, _⟩ : AwS) (by show i + 1 ≤ N.length; omega) (by show N.length - (i + 1) < N.length - i; omega)
  have hi : i = N.length := by omega
  subst hi
  rw [List.take_length] at hLd
  rw [hLd]
  refine go ?_; intros
  refine t_fall ?_
  refine ret (⟨_, _, _⟩ : OwR) trivial rfl
end Go.Proofs.YtgogcgkocjpgoaaGreatDoor
/- Valid packets, on both sides. -/
namespace Go.Proofs.YtgogcgkocjpgoaaGreatDoor
open Go.RowKit
set_option maxRecDepth 100000 in
theorem IsValidPacket_f (p : Packet) (hs : p.data.size ≤ maxLen) : Fn Tryz.prog 123 [.agg #[.int .i64 p.kind, .int .i64 p.number, .int .i64 p.trail, .int .i64 p.lead, .string p.data]] [] [] (fun (_ : Unit) => True) (fun _ => .bool (goodPk p)) (fun _ => []) := by
  refine enter Tryz.func123 rfl Tryz.ntmps123 fun w0 => ?_
  refine go ?_; intros
  refine ce (fun w s => within_c _ _ _ _) ?_
  cases g1 : btw 1 p.kind 5
  · refine go ?_; intros
    refine ret () trivial ?_
    show Value.bool _ = Value.bool _; congr 1; unfold goodPk; simp [g1]
  refine go ?_; intros
  refine ce (fun w s => IsSerial_c _ _) ?_
  cases g2 : isSer p.number
  · refine go ?_; intros
    refine ret () trivial ?_
    show Value.bool _ = Value.bool _; congr 1; unfold goodPk; simp [g2]
  refine go ?_; intros
  refine ce (fun w s => IsSerial_c _ _) ?_
  cases g3 : isSer p.trail
  · refine go ?_; intros
    refine ret () trivial ?_
    show Value.bool _ = Value.bool _; congr 1; unfold goodPk; simp [g3]
  refine go ?_; intros
  refine ce (fun w s => IsSerial_c _ _) ?_
  cases g4 : isSer p.lead
  · refine go ?_; intros
    refine ret () trivial ?_
    show Value.bool _ = Value.bool _; congr 1; unfold goodPk; simp [g4]
  refine go ?_; intros
  refine cb (fun w s => isItem_c _ _ hs) ?_
  cases g5 : itm p.data
  · refine go ?_; intros
    refine ret () trivial ?_
    show Value.bool _ = Value.bool _; congr 1; unfold goodPk; simp [g5]
  obtain ⟨t0, t1⟩ := isSer_iff.1 g3
  obtain ⟨l0, l1⟩ := isSer_iff.1 g4
  refine go ?_; intros
  refine ce (fun w s => gap_c _ _ _ (by omega) (by omega) (by omega) (by omega)) ?_
  refine go ?_; intros
  refine wg_if rfl rfl (fun h6 => ?_) (fun h6 => ?_)
  · refine go ?_; intros
    refine wg_if rfl rfl (fun h7 => ?_) (fun h7 => ?_)
    · refine go ?_; intros
      refine ret () trivial ?_
      show Value.bool _ = Value.bool _; congr 1; unfold goodPk; rw [g1, g2, g3, g4, g5, decide_eq_true h6, decide_eq_true h7]; rfl
    refine go ?_; intros
    refine wg_if rfl rfl (fun h8 => ?_) (fun h8 => ?_)
    · refine go ?_; intros
      refine ret () trivial ?_
      show Value.bool _ = Value.bool _; congr 1; unfold goodPk; rw [g1, g2, g3, g4, g5, decide_eq_true h6, decide_eq_true h8]; simp
    · refine go ?_; intros
      refine ret () trivial ?_
      show Value.bool _ = Value.bool _; congr 1; unfold goodPk; rw [g1, g2, g3, g4, g5, decide_eq_true h6, decide_eq_false h7, decide_eq_false h8]; rfl
  · refine go ?_; intros
    refine ret () trivial ?_
    show Value.bool _ = Value.bool _; congr 1; unfold goodPk; simp [h6]
set_option maxRecDepth 100000 in
theorem l4Good_f (p : Packet) (hs : p.data.size ≤ maxLen) : Fn Tryz.prog 118 [.agg #[.int .i64 p.kind, .int .i64 p.number, .int .i64 p.trail, .int .i64 p.lead, .string p.data]] [] [] (fun (_ : Unit) => True) (fun _ => .bool (goodPk p)) (fun _ => []) := by
  refine enter Tryz.func118 rfl Tryz.ntmps118 fun w0 => ?_
  refine go ?_; intros
  refine ce (fun w s => l1In_c _ _ _ _) ?_
  cases g1 : btw 1 p.kind 5
  · refine go ?_; intros
    refine ret () trivial ?_
    show Value.bool _ = Value.bool _; congr 1; unfold goodPk; simp [g1]
  refine go ?_; intros
  refine ce (fun w s => l2Good_c _ _) ?_
  cases g2 : isSer p.number
  · refine go ?_; intros
    refine ret () trivial ?_
    show Value.bool _ = Value.bool _; congr 1; unfold goodPk; simp [g2]
  refine go ?_; intros
  refine ce (fun w s => l2Good_c _ _) ?_
  cases g3 : isSer p.trail
  · refine go ?_; intros
    refine ret () trivial ?_
    show Value.bool _ = Value.bool _; congr 1; unfold goodPk; simp [g3]
  refine go ?_; intros
  refine ce (fun w s => l2Good_c _ _) ?_
  cases g4 : isSer p.lead
  · refine go ?_; intros
    refine ret () trivial ?_
    show Value.bool _ = Value.bool _; congr 1; unfold goodPk; simp [g4]
  obtain ⟨t0, t1⟩ := isSer_iff.1 g3
  obtain ⟨l0, l1⟩ := isSer_iff.1 g4
  refine go ?_; intros
  refine ce (fun w s => l2Gap_c _ _ _ (by omega) (by omega)) ?_
  refine go ?_; intros
  refine wg_if rfl rfl (fun h6 => ?_) (fun h6 => ?_)
  · refine go ?_; intros
    refine ret () trivial ?_
    have h6 : ¬ gp p.trail p.lead ≤ 32767 := by omega
    show Value.bool _ = Value.bool _; congr 1; unfold goodPk; simp [h6]
  have h6 : gp p.trail p.lead ≤ 32767 := by omega
  refine go ?_; intros
  refine ce (fun w s => l4Letters_c _ _ _ hs) ?_
  rw [show (decide ((p.data.size : Int) ≤ 8) && lows p.data.data.toList) = itm p.data from rfl]
  cases g5 : itm p.data
  · refine go ?_; intros
    refine ret () trivial ?_
    show Value.bool _ = Value.bool _; congr 1; unfold goodPk; simp [g5]
  refine go ?_; intros
  refine wg_if rfl rfl (fun h7 => ?_) (fun h7 => ?_)
  · refine go ?_; intros
    refine ret () trivial ?_
    show Value.bool _ = Value.bool _; congr 1; unfold goodPk; rw [g1, g2, g3, g4, g5, decide_eq_true h6, decide_eq_true h7]; rfl
  refine go ?_; intros
  refine wg_if rfl rfl (fun h8 => ?_) (fun h8 => ?_)
  · refine go ?_; intros
    refine ret () trivial ?_
    show Value.bool _ = Value.bool _; congr 1; unfold goodPk; rw [g1, g2, g3, g4, g5, decide_eq_true h6, decide_eq_true h8]; simp
  · refine go ?_; intros
    refine ret () trivial ?_
    show Value.bool _ = Value.bool _; congr 1; unfold goodPk; rw [g1, g2, g3, g4, g5, decide_eq_true h6, decide_eq_false h7, decide_eq_false h8]; rfl
end Go.Proofs.YtgogcgkocjpgoaaGreatDoor
/- Hearing: news, the program's. -/
namespace Go.Proofs.YtgogcgkocjpgoaaGreatDoor
open Go.RowKit
def delB (x : ReceiveWindow) (q : Request) : Bool := bef q.number x.next || decide (8 ≤ gp x.next q.number) || hasB x q.number
theorem need_eq {l : List Request} {x : ReceiveWindow} : (l.filter fun q => !delB x q) = needed l x := by
  unfold needed delB
  refine List.filter_congr fun q _ => ?_
  have e : decide (8 ≤ gp x.next q.number) = !decide (gp x.next q.number < 8) := by rw [← decide_not]; exact decide_eq_decide.2 (by omega)
  rw [e]
  cases bef q.number x.next <;> cases hasB x q.number <;> simp
set_option maxRecDepth 100000 in
theorem news1_f (q : Request) (x : ReceiveWindow) (nb gb g o : Nat) (st : Bool) (ck : Int) (qv : Value) (a1 : Option Addr) (c1 : Nat) (F : List Nat) (w0_ : 0 ≤ x.next) (w1_ : x.next ≤ 65535) (hn : isSer q.number = true) :
    Fn Tryz.prog 265 [.agg #[.int .i64 q.number, .int .i64 q.state, .int .i64 q.untl, .int .i64 q.tries], ptr nb 0 0, ptr gb 0 0] [.cel nb 0 [.int .i64 x.next], .cel gb 0 [ptr g o 0], .cel g o [.bool st, .int .i64 ck, .int .i64 x.next, .slice a1 x.slots.length c1, qv], .isv EReceiveWindow (.agg #[.int .i64 x.next, .slice a1 x.slots.length c1]) x F] [] (fun (_ : Unit) => True) (fun _ => .bool (delB x q)) (fun _ => []) := by
  obtain ⟨n0, n1⟩ := isSer_iff.1 hn
  have hgb := gp_bd x.next q.number
  refine enter Tryz.func265 rfl Tryz.ntmps265 fun w0 => ?_
  refine go ?_; intros
  cases hb : bef q.number x.next
  rotate_left
  · rw [show delB x q = true by unfold delB; rw [hb]; rfl]
    refine d_start [0, 1, 2, 3, 4] [] ?_
    refine dt 0 ?_
    refine dt 1 ?_
    refine dt 2 ?_
    refine dO 3 (by kernel_rfl) (by rw [List.getElem?_toArray]; rfl) ?_
    apply o_call; rfl; kernel_rfl; exact evsE
    refine ce (fun w s => isBefore_c _ _ _ (by omega) (by omega) (by omega) (by omega)) ?_
    rw [hb]
    refine dk ?_
    refine dt 4 ?_
    refine ds 5 ?_
    refine ds 6 ?_
    refine ds 7 ?_
    refine ds 8 ?_
    refine ds 9 ?_
    refine dt 10 ?_
    refine dt 11 ?_
    refine ds 12 ?_
    refine ds 13 ?_
    refine ds 14 ?_
    refine ds 15 ?_
    refine ds 16 ?_
    refine ds 17 ?_
    refine ds 18 ?_
    refine dt 19 ?_
    refine dt 20 ?_
    refine dd ?_
    refine go ?_; intros
    refine ret () trivial rfl
  by_cases h8' : 8 ≤ gp x.next q.number
  · have h8 := decide_eq_true h8'
    rw [show delB x q = true by unfold delB; rw [h8]; simp]
    refine d_start [0, 1, 2, 3, 4] [] ?_
    refine dt 0 ?_
    refine dt 1 ?_
    refine dt 2 ?_
    refine dO 3 (by kernel_rfl) (by rw [List.getElem?_toArray]; rfl) ?_
    apply o_call; rfl; kernel_rfl; exact evsE
    refine ce (fun w s => isBefore_c _ _ _ (by omega) (by omega) (by omega) (by omega)) ?_
    rw [hb]
    refine dk ?_
    refine dt 4 ?_
    refine dtg 5 ?_
    refine dtg 6 ?_
    refine dtg 7 ?_
    refine d1g 8 ?_
    apply On.h
    apply o_call; rfl; kernel_rfl; exact evsE
    refine ce (fun w s => gap_c _ _ _ (by omega) (by omega) (by omega) (by omega)) ?_
    refine dk ?_
    refine dtg 9 ?_
    rw [h8]
    refine dt 10 ?_
    refine dt 11 ?_
    refine ds 12 ?_
    refine ds 13 ?_
    refine ds 14 ?_
    refine ds 15 ?_
    refine ds 16 ?_
    refine ds 17 ?_
    refine ds 18 ?_
    refine dt 19 ?_
    refine dt 20 ?_
    refine dd ?_
    refine go ?_; intros
    refine ret () trivial rfl
  · have h8 := decide_eq_false h8'
    rw [show delB x q = hasB x q.number by unfold delB; rw [hb, h8]; rfl]
    refine d_start [0, 1, 2, 3, 4] [] ?_
    refine dt 0 ?_
    refine dt 1 ?_
    refine dt 2 ?_
    refine dO 3 (by kernel_rfl) (by rw [List.getElem?_toArray]; rfl) ?_
    apply o_call; rfl; kernel_rfl; exact evsE
    refine ce (fun w s => isBefore_c _ _ _ (by omega) (by omega) (by omega) (by omega)) ?_
    rw [hb]
    refine dk ?_
    refine dt 4 ?_
    refine dtg 5 ?_
    refine dtg 6 ?_
    refine dtg 7 ?_
    refine d1g 8 ?_
    apply On.h
    apply o_call; rfl; kernel_rfl; exact evsE
    refine ce (fun w s => gap_c _ _ _ (by omega) (by omega) (by omega) (by omega)) ?_
    refine dk ?_
    refine dtg 9 ?_
    rw [h8]
    refine dt 10 ?_
    refine dt 11 ?_
    refine dtg 12 ?_
    refine dtg 13 ?_
    refine dtg 14 ?_
    refine dtg 15 ?_
    refine dtg 16 ?_
    refine dtg 17 ?_
    refine d1g 18 ?_
    apply On.h
    apply o_call; rfl; kernel_rfl; exact evsE
    refine cf (RWhas_f x q.number _ F w0_ w1_ n0 n1) fun _ _ => ?_
    refine t_app ?_
    refine dk ?_
    refine dt 19 ?_
    refine dt 20 ?_
    refine dd ?_
    refine go ?_; intros
    refine ret () trivial rfl
structure NwS where
  a1 : Option Addr
  c1 : Nat
  F1 : List Nat
  a2 : Option Addr
  c2 : Nat
  F2 : List Nat
  ae : Option Addr
  ce : Nat
  Fe : List Nat
set_option maxRecDepth 100000 in
set_option maxHeartbeats 1000000 in
theorem Rnews_f (r : Receiver) (p : Packet) (d : Int) (g t o : Nat) (A B : List Value) (a1 : Option Addr) (c1 : Nat) (F1 : List Nat) (a2 : Option Addr) (c2 : Nat) (F2 : List Nat) (hg : GoodR r) (hp : goodPk p = true) (d0 : 1 ≤ d) (d1 : d ≤ 8) :
    Fn Tryz.prog 211 [ptr g o 0, .agg #[.int .i64 p.kind, .int .i64 p.number, .int .i64 p.trail, .int .i64 p.lead, .string p.data], .int .i64 d] [] [.row g t o A [.bool r.started, .int .i64 r.clock, .int .i64 (r.window).next, .slice a1 (r.window).slots.length c1, .slice a2 (r.requests).length c2] B, .ow ESlot 213 (.slice a1 (r.window).slots.length c1) (r.window).slots F1, .ow ERequest 152 (.slice a2 (r.requests).length c2) (r.requests) F2] (fun (_ : NwS) => True)
      (fun s => .slice s.ae (newsE r p).length s.ce) (fun s => [.row g t o A [.bool (newsR r p d).started, .int .i64 (newsR r p d).clock, .int .i64 ((newsR r p d).window).next, .slice s.a1 ((newsR r p d).window).slots.length s.c1, .slice s.a2 ((newsR r p d).requests).length s.c2] B, .ow ESlot 213 (.slice s.a1 ((newsR r p d).window).slots.length s.c1) ((newsR r p d).window).slots s.F1, .ow ERequest 152 (.slice s.a2 ((newsR r p d).requests).length s.c2) ((newsR r p d).requests) s.F2, .ow EStr 9 (.slice s.ae (newsE r p).length s.ce) (newsE r p) s.Fe]) := by
  have k0 := hg.k0
  have k1 := hg.k1
  obtain ⟨-, q1, q2, -⟩ := areQ_iff.1 hg.q
  have hser : ∀ q ∈ r.requests, isSer q.number = true := fun q hq => (req_at hg hq).1
  obtain ⟨hsg, -⟩ := start_good hg hp
  obtain ⟨htg, -, htl⟩ := taken_good hg hp
  obtain ⟨hng, hnq, -, hnl⟩ := news_good hg hp d0 d1 (by omega)
  obtain ⟨s0_, s1_⟩ := next_ser hsg
  obtain ⟨v0_, v1_⟩ := next_ser hng
  obtain ⟨hw8, hit⟩ := good_items hsg
  obtain ⟨n0, n1⟩ := goodPk_num hp
  have hp2 := hp
  unfold goodPk at hp2
  simp only [Bool.and_eq_true] at hp2
  have htr : isSer p.trail = true := hp2.1.1.1.1.2
  have hld : isSer p.lead = true := hp2.1.1.1.2
  have hps : p.data.size ≤ 8 := itm_size hp2.1.1.2
  refine enter Tryz.func211 rfl Tryz.ntmps211 fun w0 => ?_
  refine go ?_; intros
  rename_i g3 g4
  refine c_joinS [2, 3, 4, 6] [0, 1, 4] (fun _ : Unit => []) (fun _ => [.row g t o A [.bool true, .int .i64 r.clock, .int .i64 (startW r p).next, .slice a1 (startW r p).slots.length c1, .slice a2 r.requests.length c2] B, .ow ESlot 213 (.slice a1 (startW r p).slots.length c1) (startW r p).slots F1]) (fun _ => True) ?_ fun _ _ => ?_
  · cases hs : r.started
    · by_cases hk : p.kind = 5
      · have e : startW r p = ⟨p.lead, r.window.slots⟩ := by unfold startW; rw [hs, if_pos hk]; rfl
        have hkd : decide (p.kind = 5) = true := decide_eq_true hk
        rw [e]
        refine go ?_; intros
        refine c_if rfl (fun _ => ?_) (fun h => absurd hk h)
        refine go ?_; intros
        refine n_join () trivial
      · have e : startW r p = ⟨p.number, r.window.slots⟩ := by unfold startW; rw [hs, if_neg hk]; rfl
        rw [e]
        refine go ?_; intros
        refine c_if rfl (fun h => absurd h hk) (fun _ => ?_)
        refine go ?_; intros
        refine n_join () trivial
    · have e : startW r p = r.window := by unfold startW; rw [hs]; rfl
      rw [e]
      refine go ?_; intros
      refine n_join () trivial
  refine go ?_; intros
  refine c_joinS [2, 3, 4, 6] [2, 3, 4] (fun s : SkS => [(7, .slice s.ae (takenE r p).length s.ce)]) (fun s => [.row g t o A [.bool true, .int .i64 r.clock, .int .i64 (takenW r p).next, .slice s.a (takenW r p).slots.length s.c, .slice a2 r.requests.length c2] B, .ow ESlot 213 (.slice s.a (takenW r p).slots.length s.c) (takenW r p).slots s.F, .ow EStr 9 (.slice s.ae (takenE r p).length s.ce) (takenE r p) s.Fe]) (fun _ => True) ?_ fun s _ => ?_
  · by_cases hk : p.kind = 5
    · have e1 : takenW r p = startW r p := by unfold takenW; rw [if_pos hk]
      have e2 : takenE r p = [] := by unfold takenE; rw [if_pos hk]
      refine c_if rfl (fun h => absurd hk h) (fun _ => ?_)
      rw [e1, e2]
      refine t_nilow EStr 9 ?_
      refine go ?_; intros
      refine n_join (⟨a1, c1, F1, none, 0, []⟩ : SkS) trivial
    · have e1 : takenW r p = takeW (startW r p) p.number p.data := by unfold takenW; rw [if_neg hk]
      have e2 : takenE r p = takeE (startW r p) p.number p.data := by unfold takenE; rw [if_neg hk]
      refine c_if rfl (fun _ => ?_) (fun h => absurd hk h)
      rw [e1, e2]
      refine t_rin [.bool true, .int .i64 r.clock] [.int .i64 (startW r p).next, .slice a1 (startW r p).slots.length c1] [.slice a2 r.requests.length c2] ?_
      refine go ?_; intros
      refine d_start [2, 3] [] ?_
      refine dt 0 ?_
      refine dt 1 ?_
      refine dt 2 ?_
      refine dt 3 ?_
      refine dt 4 ?_
      refine dt 5 ?_
      refine dt 6 ?_
      refine dO 7 (by kernel_rfl) (by rw [List.getElem?_toArray]; rfl) ?_
      apply o_call; rfl; kernel_rfl; exact evsE
      refine cf (RWtake_f (startW r p) p.number p.data g t (o + 2) (A ++ [.bool true, .int .i64 r.clock]) _ a1 c1 F1 s0_ s1_ n0 n1 hw8 hit hps) fun y hy => ?_
      refine t_app ?_
      obtain ⟨hy1, hy2⟩ := hy
      refine dk ?_
      refine dt 8 ?_
      refine dt 9 ?_
      refine dt 10 ?_
      refine dt 11 ?_
      refine dd ?_
      refine t_rout [.bool true, .int .i64 r.clock] [.int .i64 y.y.next, .slice y.a y.y.slots.length y.c] [.slice a2 r.requests.length c2] ?_
      rw [← hy1, ← hy2]
      refine go ?_; intros
      refine n_join (⟨_, _, _, _, _, _⟩ : SkS) trivial
  obtain ⟨a3, c3, F3, ae, ce, Fe⟩ := s
  dsimp only
  refine go ?_; intros
  refine cf (Rskip_f (takenW r p) true r.clock p.trail _ g t o A B a3 c3 F3 htg htr) fun y _ => ?_
  refine t_app ?_
  have hsl : (skipE (takenW r p) p.trail).length ≤ 24 := by unfold newsE at hnl; rw [List.length_append] at hnl; omega
  refine t_read (E := EStr) (xs := skipE (takenW r p) p.trail) fun G8 => ?_
  refine go ?_; intros
  apply wO
  refine aps (ys := skipE (takenW r p) p.trail) one_EStr scal_EStr fun a9 c9 F9 => ?_
  rw [show takenE r p ++ skipE (takenW r p) p.trail = newsE r p from rfl, show skipW (takenW r p) p.trail = newsW r p from rfl]
  refine go ?_; intros
  rename_i g11
  refine d_start [3, 6] [9] ?_
  refine dt 0 ?_
  refine dt 1 ?_
  refine dt 2 ?_
  refine dt 3 ?_
  refine dt 4 ?_
  refine dt 5 ?_
  refine dO 6 (by kernel_rfl) (by rw [List.getElem?_toArray]; rfl) ?_
  apply o_call; rfl; kernel_rfl; exact evsE
  refine cfm (M := [.ow ERequest 152 (.slice a2 r.requests.length c2) r.requests F2]) (.cons (by repeat (first | exact .here | apply Pick.there)) .nil) (fun w st => by
      have r1 := st.on (.row g11 3 0 [] [.int .i64 (newsW r p).next] []) (by simp)
      have r2 := st.on (.row g3 199 0 [] [ptr g o 0] []) (by simp)
      have r3 := st.on (.row g t o A [.bool true, .int .i64 r.clock, .int .i64 (newsW r p).next, .slice y.a (newsW r p).slots.length y.c, .slice a2 r.requests.length c2] B) (by simp)
      obtain ⟨Fw, hFw, hw⟩ := (st.on (.ow ESlot 213 (.slice y.a (newsW r p).slots.length y.c) (newsW r p).slots y.F) (by simp)).2.read
      refine ⟨[.cel g11 0 [.int .i64 (newsW r p).next], .cel g3 0 [ptr g o 0], .cel g o [.bool true, .int .i64 r.clock, .int .i64 (newsW r p).next, .slice y.a (newsW r p).slots.length y.c, .slice a2 r.requests.length c2], .isv EReceiveWindow (.agg #[.int .i64 (newsW r p).next, .slice y.a (newsW r p).slots.length y.c]) (newsW r p) Fw], ?_, rfl, ?_, DelReq_f 265 [] [ptr g11 0 0, ptr g3 0 0] _ rfl r.requests a2 c2 F2 (fun q => delB (newsW r p) q) (by kernel_rfl) (by omega) (fun q hq w' hA => (news1_f q (newsW r p) g11 g3 g o true r.clock _ y.a y.c Fw v0_ v1_ (hser q hq)).val w' hA)⟩
      · intro q hq
        simp only [List.mem_cons, List.not_mem_nil, or_false] at hq
        rcases hq with rfl | rfl | rfl | rfl
        · exact ⟨by simp, row_range r1⟩
        · exact ⟨by simp, row_range r2⟩
        · exact ⟨by simp, row_range r3⟩
        · exact ⟨_, rfl, _, rfl, hw⟩
      · intro q hq b hb
        simp only [List.mem_cons, List.not_mem_nil, or_false] at hq
        rcases hq with rfl | rfl | rfl | rfl
        · exact ⟨.row g11 3 0 [] [.int .i64 (newsW r p).next] [], by simp, hb⟩
        · exact ⟨.row g3 199 0 [] [ptr g o 0] [], by simp, hb⟩
        · exact ⟨.row g t o A [.bool true, .int .i64 r.clock, .int .i64 (newsW r p).next, .slice y.a (newsW r p).slots.length y.c, .slice a2 r.requests.length c2] B, by simp, hb⟩
        · exact ⟨.ow ESlot 213 (.slice y.a (newsW r p).slots.length y.c) (newsW r p).slots y.F, by simp, hFw b hb⟩) (fun z _ => ?_)
  rw [need_eq]
  refine dk ?_
  refine dt 7 ?_
  refine dt 8 ?_
  refine dO 9 (by kernel_rfl) (by rw [List.getElem?_toArray]; rfl) ?_
  apply o_st; rfl; rfl; rfl; (first | exact AggC.s | exact OneC.s); rfl; exact rplE; exact putE; rfl
  refine dkx ?_
  refine dd ?_
  refine go ?_; intros
  refine cf (Rawait_f (newsW r p) (needed r.requests (newsW r p)) true r.clock p.lead d g t o A B y.a y.c y.F z.1 z.2.1 z.2.2 hng hnq needed_free hld k0 k1 d0 d1) fun u _ => ?_
  refine t_app ?_
  refine go ?_; intros
  refine ret ⟨_, _, _, _, _, _, _, _, _⟩ trivial rfl
end Go.Proofs.YtgogcgkocjpgoaaGreatDoor
/- Receivers: TickReceiver, the program's and the reference's. -/
namespace Go.Proofs.YtgogcgkocjpgoaaGreatDoor
open Go.RowKit
structure GvS where
  g : Nat
  y : RelS
set_option maxRecDepth 100000 in
set_option maxHeartbeats 1000000 in
theorem l13Tick_f (r : Receiver) (d : Int) (v : Value) (F : List Nat) (hg : GoodR r) (d0 : 0 ≤ d) (d1 : d ≤ 100) (_hx : r.clock ≤ 99999) :
    Fn Tryz.prog 104 [v, .int .i64 d] [.isv EReceiver v r F] [] (fun (_ : TkR) => True) (fun s => .tuple #[.agg #[.bool (tickRec r d).started, .int .i64 (tickRec r d).clock, .int .i64 (tickRec r d).window.next, .slice s.a1 (tickRec r d).window.slots.length s.c1, .slice s.a2 (tickRec r d).requests.length s.c2], .slice s.a3 (tickPk r).length s.c3, .slice s.a4 (tickEv r).length s.c4])
      (fun s => [.isv EReceiver (.agg #[.bool (tickRec r d).started, .int .i64 (tickRec r d).clock, .int .i64 (tickRec r d).window.next, .slice s.a1 (tickRec r d).window.slots.length s.c1, .slice s.a2 (tickRec r d).requests.length s.c2]) (tickRec r d) s.F1, .ow EPacket 67 (.slice s.a3 (tickPk r).length s.c3) (tickPk r) s.F3, .ow EStr 9 (.slice s.a4 (tickEv r).length s.c4) (tickEv r) s.F4]) := by
  have k0 := hg.k0
  have k1 := hg.k1
  obtain ⟨-, q1, q2, -⟩ := areQ_iff.1 hg.q
  obtain ⟨w0_, w1_⟩ := next_ser hg.w
  obtain ⟨hw8, hit⟩ := good_items hg.w
  have hpl : (r.requests.filterMap (tkS (r.clock + 1))).length ≤ 8 := Nat.le_trans (List.length_filterMap_le _ _) q1
  refine enter Tryz.func104 rfl Tryz.ntmps104 fun w0 => ?_
  refine openReceiver (v := v) (x := r) (F := F) ?_
  rintro a1 c1 F1 a2 c2 F2 rfl l1 l2
  refine go ?_; intros
  refine cf (l13Own_f r _ F (by omega) (by omega)) fun u _ => ?_
  refine t_app ?_
  refine openOReceiver ?_
  rintro a5 c5 F5 a6 c6 F6 e6 - -
  rw [e6]
  refine t_read (E := ESlot) fun G5 => ?_
  refine go ?_; intros
  refine cf (l12Tick_f r.requests (r.clock + 1) d a2 c2 F2 (by omega) (fun q hq => ⟨(okReq_iff.1 (q2 q hq)).t0, (okReq_iff.1 (q2 q hq)).t1⟩) (by omega) (by omega) (by omega) (by omega)) fun z _ => ?_
  refine t_app ?_
  rw [show r.requests.filterMap (tkL (r.clock + 1)) = tkLost r from rfl, show r.requests.filterMap (tkO (r.clock + 1) d) = tkReq r d from rfl]
  refine t_read (E := EInt) (xs := r.requests.filterMap (tkS (r.clock + 1))) fun G2 => ?_
  refine t_read (E := EInt) (xs := tkLost r) fun G3 => ?_
  refine t_emp EStr ?_
  refine t_emp EPacket ?_
  refine go ?_; intros
  refine c_loopS [2, 4, 5, 6, 7, 9, 11, 12] (fun s : PkS => [(13, .int .i64 (s.k : Nat)), (8, .slice s.a (((r.requests.filterMap (tkS (r.clock + 1))).take s.k).map (pkR r.window.next)).length s.c)]) (fun s => [.ow EPacket 67 (.slice s.a (((r.requests.filterMap (tkS (r.clock + 1))).take s.k).map (pkR r.window.next)).length s.c) (((r.requests.filterMap (tkS (r.clock + 1))).take s.k).map (pkR r.window.next)) s.F]) (fun s => s.k ≤ (r.requests.filterMap (tkS (r.clock + 1))).length) (fun s => (r.requests.filterMap (tkS (r.clock + 1))).length - s.k) ⟨0, _, _, _⟩ (Nat.zero_le _) fun s hs => ?_
  obtain ⟨k, a4, c4, F4⟩ := s
  dsimp only at hs ⊢
  generalize hsn : r.requests.filterMap (tkS (r.clock + 1)) = sn at *
  refine go ?_; intros
  refine c_if rfl (fun h4 => ?_) (fun h4 => ?_)
  · have hk : k < sn.length := by omega
    have hkl : ((sn.take k).map (pkR r.window.next)).length ≤ k := by simp; omega
    refine at_int (xs := sn) k ?_
    rintro hi b o2 e
    rw [e]
    refine go ?_; intros
    have eo : (sn.take (k + 1)).map (pkR r.window.next) = (sn.take k).map (pkR r.window.next) ++ [pkR r.window.next sn[k]] := by rw [List.take_add_one, List.getElem?_eq_getElem hk, List.map_append]; rfl
    refine d_start [0, 10] [] ?_
    refine dt 0 ?_
    refine dt 1 ?_
    refine dt 2 ?_
    refine dt 3 ?_
    refine dt 4 ?_
    refine dt 5 ?_
    refine dt 6 ?_
    refine dt 7 ?_
    refine dt 8 ?_
    refine dt 9 ?_
    refine dt 10 ?_
    refine dt 11 ?_
    refine dO 12 (by kernel_rfl) (by rw [List.getElem?_toArray]; rfl) ?_
    apply o_bs; rfl; rfl; rfl; rfl; exact rptE; exact filE; intro _
    refine dk ?_
    refine dO 13 (by kernel_rfl) (by rw [List.getElem?_toArray]; rfl) ?_
    refine ap1 (ys := [pkR r.window.next sn[k]]) (flatPacket (pkR r.window.next sn[k]) (by show (0 : Nat) ≤ maxLen; exact Nat.zero_le _)) one_EPacket fun a7 c7 F7 => ?_
    refine dk ?_
    refine dt 14 ?_
    refine dd ?_
    refine go ?_; intros
    rw [← eo]
    refine n_lp (⟨k + 1, _, _, _⟩ : PkS) (by show k + 1 ≤ sn.length; omega) (by show sn.length - (k + 1) < sn.length - k; omega)
  have hk : k = sn.length := by omega
  subst hk
  rw [List.take_length]
  have ep : tickPk r = sn.map (pkR r.window.next) := by unfold tickPk; rw [hsn]
  rw [ep]
  refine go ?_; intros
  by_cases hL : tkLost r = []
  · refine c_if rfl (fun h => absurd h (by rw [hL]; decide)) (fun _ => ?_)
    rw [tickR_no hL, tickE_no hL]
    refine go ?_; intros
    refine t_read (E := ERequest) fun F8 => ?_
    refine closeReceiver (a1 := a5) ⟨r.started, r.clock + 1, r.window, tkReq r d⟩ ?_
    refine ret ⟨_, _, _, _, _, [], _, _, _, _, _, _⟩ trivial rfl
  · have hl0 := List.length_pos_iff.2 hL
    refine c_if rfl (fun _ => ?_) (fun h => absurd h (by omega))
    rw [tickR_yes hL, tickE_yes hL]
    obtain ⟨hs8, hsr⟩ := lost_gp hg hL
    have hll8 := tkLost_len r
    obtain ⟨hs0, hs1⟩ := isSer_iff.1 hsr
    have hll := lost_last hL
    obtain ⟨l0, l1⟩ := isSer_iff.1 (tkLost_at hg (List.getElem_mem (show (tkLost r).length - 1 < (tkLost r).length by omega))).1
    have hi1 : ((tkLost r).length : Int) - 1 = (((tkLost r).length - 1 : Nat) : Int) := by omega
    refine closeReceiveWindow (a1 := a5) r.window ?_
    generalize G5 = FW
    refine at_int (xs := tkLost r) ((tkLost r).length - 1) ?_
    rintro hi b o2 e
    rw [e]
    refine go ?_; intros
    refine c_joinS [4, 5, 6, 7, 8, 9] [2, 3, 6, 7, 10, 14] (fun s : GvS => [(15, ptr s.g 0 0), (16, .slice s.y.ae s.y.es.length s.y.ce)]) (fun s => [.row s.g 46 0 [] [.int .i64 s.y.y.next, .slice s.y.a s.y.y.slots.length s.y.c] [], .isv EReceiveWindow (.agg #[.int .i64 s.y.y.next, .slice s.y.a s.y.y.slots.length s.y.c]) s.y.y s.y.F, .ow EStr 9 (.slice s.y.ae s.y.es.length s.y.ce) s.y.es s.y.Fe]) (fun s => s.y.y = movedW r.window (lostTrail (tkLost r)) ∧ s.y.es = movedE r.window (lostTrail (tkLost r))) ?_ fun s hy => ?_
    · skip
      refine d_start [0, 7] [] ?_
      refine dt 0 ?_
      refine dt 1 ?_
      refine dt 2 ?_
      refine dt 3 ?_
      refine dt 4 ?_
      rw [hi1]
      refine dt 5 ?_
      refine dt 6 ?_
      refine dO2 7 12 (by kernel_rfl) (by rw [List.getElem?_toArray]; rfl) (by rw [List.getElem?_toArray]; rfl) ?_ ?_
      · apply o_call; rfl; kernel_rfl; exact evsE
        refine ce (fun w s => l2After_c _ _ _ (by omega) (by omega)) ?_
        rw [← hll]
        refine dk ?_
        refine dO2 8 12 (by kernel_rfl) (by rw [List.getElem?_toArray]; rfl) (by rw [List.getElem?_toArray]; rfl) ?_ ?_
        · apply o_call; rfl; kernel_rfl; exact evsE
          refine cf (l10GiveUp_f r.window (lostTrail (tkLost r)) _ FW w0_ w1_ hs0 hs1 hw8 hit) fun y hy => ?_
          refine t_app ?_
          refine dk ?_
          refine dt 9 ?_
          refine dt 10 ?_
          refine dt 11 ?_
          refine dO 12 (by kernel_rfl) (by rw [List.getElem?_toArray]; rfl) ?_
          apply o_alloc; rfl; intro _
          refine dk ?_
          refine dO 13 (by kernel_rfl) (by rw [List.getElem?_toArray]; rfl) ?_
          apply o_st; rfl; rfl; rfl; (first | exact AggC.s | exact OneC.s); rfl; exact rplE; exact putE; rfl
          refine dk ?_
          refine dt 14 ?_
          refine dd ?_
          refine n_join (⟨_, y⟩ : GvS) hy
        · apply o_alloc; rfl; intro _
          refine dk ?_
          refine dO 8 (by kernel_rfl) (by rw [List.getElem?_toArray]; rfl) ?_
          apply o_call; rfl; kernel_rfl; exact evsE
          refine cf (l10GiveUp_f r.window (lostTrail (tkLost r)) _ FW w0_ w1_ hs0 hs1 hw8 hit) fun y hy => ?_
          refine t_app ?_
          refine dk ?_
          refine dt 9 ?_
          refine dt 10 ?_
          refine dt 11 ?_
          refine dO 13 (by kernel_rfl) (by rw [List.getElem?_toArray]; rfl) ?_
          apply o_st; rfl; rfl; rfl; (first | exact AggC.s | exact OneC.s); rfl; exact rplE; exact putE; rfl
          refine dk ?_
          refine dt 14 ?_
          refine dd ?_
          refine n_join (⟨_, y⟩ : GvS) hy
      · apply o_alloc; rfl; intro _
        refine dk ?_
        refine dO 7 (by kernel_rfl) (by rw [List.getElem?_toArray]; rfl) ?_
        apply o_call; rfl; kernel_rfl; exact evsE
        refine ce (fun w s => l2After_c _ _ _ (by omega) (by omega)) ?_
        rw [← hll]
        refine dk ?_
        refine dO 8 (by kernel_rfl) (by rw [List.getElem?_toArray]; rfl) ?_
        apply o_call; rfl; kernel_rfl; exact evsE
        refine cf (l10GiveUp_f r.window (lostTrail (tkLost r)) _ FW w0_ w1_ hs0 hs1 hw8 hit) fun y hy => ?_
        refine t_app ?_
        refine dk ?_
        refine dt 9 ?_
        refine dt 10 ?_
        refine dt 11 ?_
        refine dO 13 (by kernel_rfl) (by rw [List.getElem?_toArray]; rfl) ?_
        apply o_st; rfl; rfl; rfl; (first | exact AggC.s | exact OneC.s); rfl; exact rplE; exact putE; rfl
        refine dk ?_
        refine dt 14 ?_
        refine dd ?_
        refine n_join (⟨_, y⟩ : GvS) hy
    obtain ⟨g15, y⟩ := s
    dsimp only at hy ⊢
    obtain ⟨hy1, hy2⟩ := hy
    have hmv := moved_at (t := lostTrail (tkLost r)) hg.w
    have hm0 : 0 ≤ y.y.next := by rw [hy1, hmv.1]; exact (aft_bd _ _).1
    have hm1 : y.y.next ≤ 65535 := by rw [hy1, hmv.1]; exact (aft_bd _ _).2
    have hes : y.es.length ≤ 100 := by rw [hy2]; have := hmv.2.2.1; have := @stepsN_gp r.window.next (lostTrail (tkLost r)); omega
    refine t_read (E := EStr) (xs := y.es) fun G8 => ?_
    refine go ?_; intros
    apply wO
    refine aps (ys := y.es) one_EStr scal_EStr fun a9 c9 F9 => ?_
    rw [List.nil_append]
    refine t_read (E := ERequest) (xs := tkReq r d) fun F8 => ?_
    refine go ?_; intros
    refine cf (l13Needed_f (tkReq r d) y.y z.a z.c F8 _ y.F (by have := tkReq_len r d; omega) (fun q hq => (tkReq_at hg hq).1) hm0 hm1) fun u2 _ => ?_
    refine t_app ?_
    rw [hy1, tick_needed hg hL, ← hy1]
    refine go ?_; intros
    refine openReceiveWindow (x := y.y) ?_
    rintro b1 d1 G1 e5 m1
    simp only [Value.agg.injEq, Array.mk.injEq, List.cons.injEq, Value.slice.injEq, true_and, and_true] at e5
    obtain ⟨rfl, rfl⟩ := e5
    refine t_read (E := ERequest) (xs := noBef (tkReq r d) y.y.next) fun F10 => ?_
    refine closeReceiver ⟨r.started, r.clock + 1, y.y, noBef (tkReq r d) y.y.next⟩ ?_
    rw [← hy2]
    refine ret ⟨_, _, _, _, _, [], _, _, _, _, _, _⟩ trivial rfl
end Go.Proofs.YtgogcgkocjpgoaaGreatDoor
/- Quiet operations of a drawn region that an effect does not wait for: those that are listed already need not wait. -/
namespace Go.Proofs.YtgogcgkocjpgoaaGreatDoor
open Go.RowKit
def waitsAllL (md : Region.Mode) (ops : Array Oper) (X : Nat → Bool) (listed : Array Bool) (i : Nat) : Bool := (List.range ops.size).all fun j => !X j || listed.getD j false || waitsFor' md ops i ops.size j
section
variable {P : Program} {md : Region.Mode} {ops : Array Oper} {Q : Exit → Act → World → Prop} {S : World → Prop} {X : Nat → Bool}
theorem AnyX.firstL {i : Nat} {oi : Oper} {v : Value} (hi : ops[i]? = some oi) (hsel : ∀ (j : Nat) (o : Oper) cs b, ops[j]? = some o → o.op ≠ .select cs b)
    (hQ : ∀ c a w, Q (.panic c) (a.put oi.dst v) w → Q (.panic c) a w) :
    ∀ (f : Nat) (listed : Array Bool) (a : Act) (w : World), (∀ j, j < ops.size → X j = true → listed.getD j false = false → waitsFor' md ops i ops.size j = true) →
      (∀ j oj, ops[j]? = some oj → j ≠ i → listed.getD j true = false → (∀ e ∈ oj.after, Region.binds md e = true → e.on ≠ i) → oi.apart ops oj = true) →
      Closed md ops listed → i ∈ Region.ready md ops listed → YieldsIf P ops S oi v a → S w → AnyX P md ops Q S X f (listed.setIfInBounds i true) (a.put oi.dst v) w → AnyX P md ops Q S X (f + 1) listed a w := by
  intro f
  induction f with
  | zero =>
    intro listed a w _ _ _ hr hy hS H
    refine ⟨fun h => (by rw [h] at hr; cases hr), fun j hj => ?_⟩
    by_cases hji : j = i
    · subst hji; exact hy.wpOp hi hS ⟨fun _ => hS, H⟩
    · have := ready_mono hj hji
      rw [H.1] at this; cases this
  | succ f ih =>
    intro listed a w hX hfree hcl hr hy hS H
    refine ⟨fun h => (by rw [h] at hr; cases hr), fun j hj => ?_⟩
    by_cases hji : j = i
    · subst hji; exact hy.wpOp hi hS ⟨fun _ => hS, H⟩
    · obtain ⟨hju, oj, hoj, hall⟩ := mem_ready.1 hj
      have hiu := unlisted (mem_ready.1 hr).1
      have hnot : ∀ e ∈ oj.after, Region.binds md e = true → e.on ≠ i := fun e he hb heq => by
        have h1 := hall e he hb
        rw [heq, hiu] at h1; cases h1
      have hXj : X j = false := by
        cases hx : X j
        · rfl
        · have h2 := waits_listed hcl ops.size j (fun o ho => by obtain rfl := Option.some.inj (ho.symm.trans hoj); exact hall) (hX j (Array.getElem?_eq_some_iff.1 hoj).1 hx (unlisted hju))
          rw [hiu] at h2; cases h2
      have h2 := wpOp_putIf hoj (hfree j oj hoj hji hju hnot) (fun cs b => hsel i oi cs b hi) (fun cs b => hsel j oj cs b hoj) hQ hy (H.2 j (ready_mono hj hji))
      refine wpOp_mono (fun a' w' h3 => ⟨fun _ => h3.2.1 hXj, ih (listed.setIfInBounds j true) a' w' (fun k hk hx hun => hX k hk hx ?_) (fun k ok hk hki hun hno => hfree k ok hk hki ?_ hno) (hcl.set hj) (ready_mono hr (Ne.symm hji)) h3.1 (h3.2.1 hXj) ?_⟩) h2
      · by_cases hjk : j = k
        · subst hjk; exact unlisted hju
        · rw [getD_set_ne false hjk] at hun; exact hun
      · by_cases hjk : j = k
        · subst hjk; exact hju
        · rw [getD_set_ne true hjk] at hun; exact hun
      · rw [Array.setIfInBounds_comm _ _ hji]; exact h3.2.2
end
section
variable {c : Cx} {fr : Fr} {H H0 : List Pc} {k : List It} {X : List Nat} {ops : Array Oper} {f : Nat} {listed : Array Bool} {d : Nat} {o : Op} {ty : TypeId} {pos : String} {aft : Array Edge} {v : Value}
theorem dtl (i : Nat) (h : T c ((d, v) :: fr) H (.dx k H0 X ops f (listed.setIfInBounds i true))) (ho : ops[i]? = some ⟨some d, o, ty, pos, aft, none⟩ := by rw [List.getElem?_toArray]; rfl) (hy : Yd c.P c.n fr H0 o ty v := by exact ydE) (hs : Mems H0 H := by repeat (first | exact Mems.nil | refine Mems.cons (by (repeat (first | exact .head _ | apply List.Mem.tail)); first | done | fail) ?_))
    (h1 : Region.noSelect ops = true := by kernel_rfl) (h2 : Region.free .any ops listed i = true := by kernel_rfl) (h3 : (Region.ready .any ops listed).contains i = true := by kernel_rfl) (h4 : waitsAllL .any ops (fun i => X.contains i) listed i = true := by kernel_rfl) (h5 : closedB .any ops listed = true := by kernel_rfl) (hR : PanOk c := by exact panOk) (hd : Nat.blt d c.n = true := by rfl) :
    T c fr H (.dx k H0 X ops (f + 1) listed) := .mk fun a w s g =>
  AnyX.firstL ho (Region.noSelect_spec h1) (fun ch a w hp => by rw [run_panic] at hp ⊢; exact hR _ _ _ _ _ hp) f listed a w (fun j hj hx hl => by
      have := List.all_eq_true.1 h4 j (List.mem_range.2 hj)
      dsimp only at this
      rw [hx, hl] at this
      simpa using this) (Region.free_spec ho h2) (closed_of h5) (by simpa using h3) (.inl ⟨rfl, fun w' hw' => hy.h a w' _ _ _ _ g hw'⟩) (fun p hp => s.on p (hs.all p hp)) (h.h _ _ s (g.put hd))
end
end Go.Proofs.YtgogcgkocjpgoaaGreatDoor
/- Hearing: HearAll and HearPacket of the program. -/
namespace Go.Proofs.YtgogcgkocjpgoaaGreatDoor
open Go.RowKit
set_option maxRecDepth 100000 in
theorem IdxPk_f (fid : FuncId) (bd caps : List Value) (A : List Pc) (hA : A.all (fun p => !p.mu) = true) (xs : List Packet) (a : Option Addr) (c : Nat) (F : List Nat) (p : Packet → Bool) (hb : bodyB Tryz.prog fid = true) (hl : xs.length ≤ 1000000000)
    (hp : ∀ x ∈ xs, ∀ w, Hol A w → Calls Tryz.prog fid (bd ++ [(.agg #[.int .i64 (x).kind, .int .i64 (x).number, .int .i64 (x).trail, .int .i64 (x).lead, .string (x).data] : Value)] ++ caps).toArray w fun e w' => e = .returned (.bool (p x)) ∧ Below w.heap.size w w') :
    Fn Tryz.prog 209 [.slice a xs.length c, .func (.func fid) bd.toArray caps.toArray] (.sl EPacket (.slice a xs.length c) xs F :: A) [] (fun (_ : Unit) => True) (fun _ => .int .i64 (fidx p xs)) (fun _ => []) := by
  refine enter Tryz.func209 rfl Tryz.ntmps209 (fun w0 => ?_) rfl (by simpa [Pc.mu] using hA) .nil
  refine go ?_; intros
  refine c_loopR [0, 1, 4, 7] (fun k : Nat => [(8, .int .i64 (k : Nat))]) (fun k => k ≤ xs.length ∧ ∀ j (_ : j < k) (hj : j < xs.length), p xs[j] = false) (fun k => xs.length - k) 0 ⟨Nat.zero_le _, fun j h => by omega⟩ fun k hk => ?_
  obtain ⟨hk1, hk2⟩ := hk
  refine go ?_; intros
  refine c_if rfl (fun h5 => ?_) (fun h5 => ?_)
  · have hh : k < xs.length := by omega
    refine go ?_; intros
    refine atPacket (xs := xs) k ?_
    rintro hi b o e sz
    rw [e]
    refine go ?_; intros
    apply wO
    refine o_callb rfl rfl hb evsE ?_
    refine cb (fun w st => hp xs[k] (List.getElem_mem hh) w (fun q hq => st.on q (by simp [hq]))) ?_
    cases hpk : p xs[k]
    · refine go ?_; intros
      refine t_drop ?_
      refine n_lp (hH := hsub_refl _) (k + 1) ⟨hh, fun j hj h => ?_⟩ (by omega)
      rcases Nat.lt_or_eq_of_le (Nat.lt_succ_iff.1 hj) with h2 | rfl
      · exact hk2 j h2 h
      · exact hpk
    · refine go ?_; intros
      refine ret () trivial ?_
      rw [fidx_hit hh hk2 hpk]; rfl
  · obtain rfl : k = xs.length := by omega
    refine go ?_; intros
    refine ret () trivial ?_
    rw [fidx_none (fun j hj => hk2 j hj hj)]; rfl

theorem ConPk_f (fid : FuncId) (bd caps : List Value) (A : List Pc) (hA : A.all (fun p => !p.mu) = true) (xs : List Packet) (a : Option Addr) (c : Nat) (F : List Nat) (p : Packet → Bool) (hb : bodyB Tryz.prog fid = true) (hl : xs.length ≤ 1000000000)
    (hp : ∀ x ∈ xs, ∀ w, Hol A w → Calls Tryz.prog fid (bd ++ [(.agg #[.int .i64 (x).kind, .int .i64 (x).number, .int .i64 (x).trail, .int .i64 (x).lead, .string (x).data] : Value)] ++ caps).toArray w fun e w' => e = .returned (.bool (p x)) ∧ Below w.heap.size w w') :
    Fn Tryz.prog 121 [.slice a xs.length c, .func (.func fid) bd.toArray caps.toArray] (.sl EPacket (.slice a xs.length c) xs F :: A) [] (fun (_ : Unit) => True) (fun _ => .bool (xs.any p)) (fun _ => []) := by
  refine enter Tryz.func121 rfl Tryz.ntmps121 (fun w0 => ?_) rfl (by simpa [Pc.mu] using hA) .nil
  refine go ?_; intros
  refine cb (fun w st => (IdxPk_f fid bd caps A hA xs a c F p hb hl hp).val w (fun q hq => st.on q (by simpa using hq)) (by simpa [Pc.mu] using hA)) ?_
  refine go ?_; intros
  refine ret () trivial ?_
  rw [fidx_any]; rfl

set_option maxRecDepth 100000 in
set_option maxHeartbeats 800000 in
theorem Rhear_f (r : Receiver) (p : Packet) (d : Int) (g t o : Nat) (A B : List Value) (a1 : Option Addr) (c1 : Nat) (F1 : List Nat) (a2 : Option Addr) (c2 : Nat) (F2 : List Nat) (hg : GoodR r) (hp : goodPk p = true) (d0 : 1 ≤ d) (d1 : d ≤ 8) :
    Fn Tryz.prog 124 [ptr g o 0, .agg #[.int .i64 p.kind, .int .i64 p.number, .int .i64 p.trail, .int .i64 p.lead, .string p.data], .int .i64 d] [] [.row g t o A [.bool r.started, .int .i64 r.clock, .int .i64 (r.window).next, .slice a1 (r.window).slots.length c1, .slice a2 (r.requests).length c2] B, .ow ESlot 213 (.slice a1 (r.window).slots.length c1) (r.window).slots F1, .ow ERequest 152 (.slice a2 (r.requests).length c2) (r.requests) F2] (fun (_ : NwS) => True)
      (fun s => .slice s.ae (hearE r p).length s.ce) (fun s => [.row g t o A [.bool (hearR r p d).started, .int .i64 (hearR r p d).clock, .int .i64 ((hearR r p d).window).next, .slice s.a1 ((hearR r p d).window).slots.length s.c1, .slice s.a2 ((hearR r p d).requests).length s.c2] B, .ow ESlot 213 (.slice s.a1 ((hearR r p d).window).slots.length s.c1) ((hearR r p d).window).slots s.F1, .ow ERequest 152 (.slice s.a2 ((hearR r p d).requests).length s.c2) ((hearR r p d).requests) s.F2, .ow EStr 9 (.slice s.ae (hearE r p).length s.ce) (hearE r p) s.Fe]) := by
  have k0 := hg.k0
  have k1 := hg.k1
  obtain ⟨-, q1, q2, -⟩ := areQ_iff.1 hg.q
  obtain ⟨n0, n1⟩ := goodPk_num hp
  refine enter Tryz.func124 rfl Tryz.ntmps124 fun w0 => ?_
  refine go ?_; intros
  by_cases hk1 : p.kind = 1
  · rw [decide_eq_true hk1]
    rw [show hearR r p d = newsR r p d by unfold hearR isNews; simp [hk1], show hearE r p = newsE r p by unfold hearE isNews; simp [hk1]]
    refine go ?_; intros
    refine cf (Rnews_f r p d g t o A B a1 c1 F1 a2 c2 F2 hg hp d0 d1) fun s _ => ?_
    refine t_app ?_
    refine go ?_; intros
    refine ret ⟨s.a1, s.c1, s.F1, s.a2, s.c2, s.F2, s.ae, s.ce, s.Fe⟩ trivial rfl
  rw [decide_eq_false hk1]
  refine go ?_; intros
  by_cases hk2 : p.kind = 2
  · rw [decide_eq_true hk2]
    rw [show hearR r p d = newsR r p d by unfold hearR isNews; simp [hk2], show hearE r p = newsE r p by unfold hearE isNews; simp [hk2]]
    refine go ?_; intros
    refine cf (Rnews_f r p d g t o A B a1 c1 F1 a2 c2 F2 hg hp d0 d1) fun s _ => ?_
    refine t_app ?_
    refine go ?_; intros
    refine ret ⟨s.a1, s.c1, s.F1, s.a2, s.c2, s.F2, s.ae, s.ce, s.Fe⟩ trivial rfl
  rw [decide_eq_false hk2]
  refine go ?_; intros
  by_cases hk5 : p.kind = 5
  · rw [decide_eq_true hk5]
    rw [show hearR r p d = newsR r p d by unfold hearR isNews; simp [hk5], show hearE r p = newsE r p by unfold hearE isNews; simp [hk5]]
    refine go ?_; intros
    refine cf (Rnews_f r p d g t o A B a1 c1 F1 a2 c2 F2 hg hp d0 d1) fun s _ => ?_
    refine t_app ?_
    refine go ?_; intros
    refine ret ⟨s.a1, s.c1, s.F1, s.a2, s.c2, s.F2, s.ae, s.ce, s.Fe⟩ trivial rfl
  rw [decide_eq_false hk5]
  refine go ?_; intros
  refine t_nilow EStr 9 ?_
  have eE : hearE r p = [] := by unfold hearE isNews; simp [hk1, hk2, hk5]
  by_cases hk4 : p.kind = 4
  · rw [decide_eq_true hk4]
    cases hs : r.started
    · rw [show hearR r p d = r by unfold hearR isNews; simp [hk1, hk2, hk5, hs], eE, hs]
      refine go ?_; intros
      refine ret ⟨_, _, _, _, _, _, none, 0, _⟩ trivial rfl
    · rw [show hearR r p d = confR r p by unfold hearR isNews; simp [hk4, hs], eE, show (confR r p).started = true from hs]
      refine go ?_; intros
      refine d_start [0, 1, 2] [0, 18, 19, 20, 21, 22] ?_
      refine dtp 0 ?_
      refine dtl 1 ?_
      refine dtl 2 ?_
      refine dtl 3 ?_
      refine dtl 4 ?_
      refine dtl 5 ?_
      refine dtl 6 ?_
      refine dtl 7 ?_
      refine dtl 8 ?_
      refine dtl 9 ?_
      refine dtl 10 ?_
      refine dtl 11 ?_
      refine dtl 12 ?_
      refine dtl 13 ?_
      refine dtl 14 ?_
      refine dtl 15 ?_
      refine dO 16 (by kernel_rfl) (by rw [List.getElem?_toArray]; rfl) ?_
      apply o_call; rfl; kernel_rfl; exact evsE
      refine cfr (fun w st => by obtain ⟨Fq, -, hq9⟩ := (st.get (p := .ow ERequest 152 (.slice a2 r.requests.length c2) r.requests F2) (by simp)).2.read; exact ⟨[.sl ERequest (.slice a2 r.requests.length c2) r.requests Fq], hol1 ⟨by decide, hq9⟩, rfl, ConfirmRequest_f r.requests r.window.next p.number r.clock a2 c2 Fq hg.q (isSer_iff.2 ⟨n0, n1⟩) k0 k1⟩) (fun u _ => ?_)
      refine dk ?_
      refine dtl 17 ?_
      refine dtp 18 ?_
      refine dtp 19 ?_
      refine dtp 20 ?_
      refine dtp 21 ?_
      refine dO 22 (by kernel_rfl) (by rw [List.getElem?_toArray]; rfl) ?_
      apply o_st; rfl; rfl; rfl; (first | exact AggC.s | exact OneC.s); rfl; exact rplE; exact putE; rfl
      refine dkx ?_
      refine dd ?_
      refine go ?_; intros
      refine ret ⟨_, _, _, _, _, _, none, 0, _⟩ trivial rfl
  rw [decide_eq_false hk4]
  rw [show hearR r p d = r by unfold hearR isNews; simp [hk1, hk2, hk5, hk4], eE]
  refine go ?_; intros
  refine ret ⟨_, _, _, _, _, _, none, 0, _⟩ trivial rfl

structure HaS where
  k : Nat
  a1 : Option Addr
  c1 : Nat
  F1 : List Nat
  a2 : Option Addr
  c2 : Nat
  F2 : List Nat
  ae : Option Addr
  ce : Nat
  Fe : List Nat
theorem ha1_f (p : Packet) (hs : p.data.size ≤ maxLen) : Fn Tryz.prog 122 [.agg #[.int .i64 p.kind, .int .i64 p.number, .int .i64 p.trail, .int .i64 p.lead, .string p.data]] [] [] (fun (_ : Unit) => True) (fun _ => .bool (!goodPk p)) (fun _ => []) := by
  refine enter Tryz.func122 rfl Tryz.ntmps122 fun w0 => ?_
  refine go ?_; intros
  refine cf (IsValidPacket_f p hs) fun _ _ => ?_
  refine t_app ?_
  refine go ?_; intros
  refine ret () trivial rfl
set_option maxRecDepth 100000 in
set_option maxHeartbeats 1000000 in
theorem HearAll_f (x : Receiver) (l : List Packet) (d : Int) (v : Value) (F : List Nat) (al : Option Addr) (cl : Nat) (Fl : List Nat) :
    Fn Tryz.prog 44 [v, .slice al l.length cl, .int .i64 d] [.isv EReceiver v x F, .sl EPacket (.slice al l.length cl) l Fl] [] (fun (_ : NwS) => True) (fun s => .tuple #[.agg #[.bool ((resHearAll x l d).1).started, .int .i64 ((resHearAll x l d).1).clock, .int .i64 ((resHearAll x l d).1).window.next, .slice s.a1 ((resHearAll x l d).1).window.slots.length s.c1, .slice s.a2 ((resHearAll x l d).1).requests.length s.c2], .slice s.ae (resHearAll x l d).2.1.length s.ce, .bool (resHearAll x l d).2.2])
      (fun s => [.own OReceiver (.agg #[.bool ((resHearAll x l d).1).started, .int .i64 ((resHearAll x l d).1).clock, .int .i64 ((resHearAll x l d).1).window.next, .slice s.a1 ((resHearAll x l d).1).window.slots.length s.c1, .slice s.a2 ((resHearAll x l d).1).requests.length s.c2]) (resHearAll x l d).1 s.F1, .ow EStr 9 (.slice s.ae (resHearAll x l d).2.1.length s.ce) (resHearAll x l d).2.1 s.Fe]) := by
  refine enter Tryz.func44 rfl Tryz.ntmps44 fun w0 => ?_
  refine t_each (E := EPacket) (xs := l) (fun p => p.data.size ≤ maxLen) (fun w cs x F h => h.2.1) fun hsz => ?_
  refine t_nilow EStr 9 ?_
  refine t_nilow ESlot 213 ?_
  refine t_nilow ERequest 152 ?_
  refine closeOReceiver zRec ?_
  refine openReceiver (v := v) (x := x) (F := F) ?_
  rintro a1 c1 F1 a2 c2 F2 rfl l1 l2
  unfold maxLen at l1 l2
  refine t_sl (E := EPacket) (xs := l) ?_
  rintro _ _ e8 cl0 cl1
  cases e8
  refine go ?_; intros
  refine cf (IsValidReceiver_f x _ F) fun _ _ => ?_
  refine t_app ?_
  cases g1 : goodRec x
  · skip
    refine go ?_; intros
    rw [resHA_no (by unfold okHearAll; simp [g1])]
    refine ret ⟨_, _, _, _, _, [], _, _, _⟩ trivial rfl
  have g5 := goodR_iff.1 g1
  have hw8 := (good_items g5.w).1
  have hq8 := (areQ_iff.1 g5.q).2.1
  refine go ?_; intros
  refine cf (isDelay_f d) fun _ _ => ?_
  refine t_app ?_
  cases g2 : isDel d
  · skip
    refine go ?_; intros
    rw [resHA_no (by unfold okHearAll; simp [g1, g2])]
    refine ret ⟨_, _, _, _, _, [], _, _, _⟩ trivial rfl
  obtain ⟨hd0, hd1⟩ : 1 ≤ d ∧ d ≤ 8 := by unfold isDel btw at g2; simp only [Bool.and_eq_true, decide_eq_true_eq] at g2; omega
  refine go ?_; intros
  by_cases g3 : (l.length : Int) ≤ 10
  rotate_left
  · rw [decide_eq_true (show (10 : Int) < l.length by omega)]
    refine go ?_; intros
    rw [resHA_no (by unfold okHearAll; simp [g1, g2, g3])]
    refine ret ⟨_, _, _, _, _, [], _, _, _⟩ trivial rfl
  rw [decide_eq_false (show ¬ (10 : Int) < l.length by omega)]
  refine go ?_; intros
  refine cf (ConPk_f 122 [] [] [] rfl l al cl Fl (fun p => !goodPk p) (by kernel_rfl) (by omega) (fun p hp w hA => (ha1_f p (hsz p hp)).val w hA)) fun _ _ => ?_
  refine t_app ?_
  cases g4 : l.any fun p => !goodPk p
  rotate_left
  · have g4' : l.all goodPk = false := by
      rw [List.any_eq_true] at g4
      obtain ⟨p, hp, h⟩ := g4
      exact List.all_eq_false.2 ⟨p, hp, by simpa using h⟩
    refine go ?_; intros
    rw [resHA_no (by unfold okHearAll; simp [g1, g2, g3, g4'])]
    refine ret ⟨_, _, _, _, _, [], _, _, _⟩ trivial rfl
  have g4' : ∀ p ∈ l, goodPk p = true := fun p hp => by simpa using List.any_eq_false.1 g4 p hp
  rw [resHA_yes (by unfold okHearAll; rw [g1, g2, decide_eq_true g3, List.all_eq_true.2 g4']; rfl)]
  refine go ?_; intros
  refine cf (Rclone_f x _ F (by omega) (by omega)) fun u _ => ?_
  refine t_app ?_
  refine openOReceiver ?_
  rintro a5 c5 F5 a6 c6 F6 e6 - -
  rw [e6]
  refine go ?_; intros
  rename_i g9
  refine t_nilow EStr 9 ?_
  refine c_loopS [2, 6, 7, 8, 9, 33, 34] (fun s : HaS => [(35, .int .i64 (s.k : Nat)), (10, .slice s.ae (hearsE d x (l.take s.k)).length s.ce)]) (fun s => [.row g9 49 0 [] [.bool (hearsR d x (l.take s.k)).started, .int .i64 (hearsR d x (l.take s.k)).clock, .int .i64 (hearsR d x (l.take s.k)).window.next, .slice s.a1 (hearsR d x (l.take s.k)).window.slots.length s.c1, .slice s.a2 (hearsR d x (l.take s.k)).requests.length s.c2] [], .ow ESlot 213 (.slice s.a1 ((hearsR d x (l.take s.k)).window).slots.length s.c1) ((hearsR d x (l.take s.k)).window).slots s.F1, .ow ERequest 152 (.slice s.a2 ((hearsR d x (l.take s.k)).requests).length s.c2) ((hearsR d x (l.take s.k)).requests) s.F2, .ow EStr 9 (.slice s.ae (hearsE d x (l.take s.k)).length s.ce) (hearsE d x (l.take s.k)) s.Fe]) (fun s => s.k ≤ l.length) (fun s => l.length - s.k) ⟨0, a5, c5, F5, a6, c6, F6, none, 0, []⟩ (Nat.zero_le _) fun s hs => ?_
  obtain ⟨k, a7, c7, F7, a8, c8, F8, ae, ce, Fe⟩ := s
  dsimp only at hs ⊢
  obtain ⟨hG, hE⟩ := hears_good hd0 hd1 (l.take k) x g5 (fun p hp => g4' p (List.mem_of_mem_take hp))
  have hE2 : (hearsE d x (l.take k)).length ≤ 240 := by have : (l.take k).length ≤ 10 := by rw [List.length_take]; omega
                                                        omega
  refine go ?_; intros
  refine c_if rfl (fun h4 => ?_) (fun h4 => ?_)
  · have hi : k < l.length := by omega
    have hh := hear_good hG (g4' _ (List.getElem_mem hi)) hd0 hd1
    have eR := hearsR_succ (d := d) (r := x) hi
    have eE := hearsE_succ (d := d) (r := x) hi
    refine atPacket (xs := l) k ?_
    rintro hi2 b o e sz
    rw [e]
    refine go ?_; intros
    refine cf (Rhear_f (hearsR d x (l.take k)) l[k] d g9 _ 0 [] [] a7 c7 F7 a8 c8 F8 hG (g4' _ (List.getElem_mem hi)) hd0 hd1) fun y _ => ?_
    refine t_app ?_
    have hEl := hh.2
    refine t_read (E := EStr) (xs := hearE (hearsR d x (l.take k)) l[k]) fun G8 => ?_
    refine go ?_; intros
    apply wO
    refine aps (ys := hearE (hearsR d x (l.take k)) l[k]) one_EStr scal_EStr fun a9 c9 F9 => ?_
    rw [← eE]
    refine go ?_; intros
    rw [← eR]
    refine n_lp (⟨k + 1, _, _, _, _, _, _, _, _, _⟩ : HaS) (by show k + 1 ≤ l.length; omega) (by show l.length - (k + 1) < l.length - k; omega)
  have hi : k = l.length := by omega
  subst hi
  rw [List.take_length]
  refine go ?_; intros
  refine closeOReceiver (hearsR d x l) ?_
  refine ret ⟨_, _, _, _, _, [], _, _, _⟩ trivial rfl
end Go.Proofs.YtgogcgkocjpgoaaGreatDoor
/- Hearing: news of the reference. -/
namespace Go.Proofs.YtgogcgkocjpgoaaGreatDoor
open Go.RowKit
theorem leastH_f (a b : Int) : Fn Tryz.prog 233 [.int .i64 a, .int .i64 b] [] [] (fun (_ : Unit) => True) (fun _ => .int .i64 (min a b)) (fun _ => []) := by
  refine enter Tryz.func233 rfl Tryz.ntmps233 fun w0 => ?_
  refine go ?_; intros
  refine c_if rfl (fun h => ?_) (fun h => ?_)
  · refine go ?_; intros
    rw [show min a b = a by omega]
    refine ret () trivial rfl
  · refine go ?_; intros
    rw [show min a b = b by omega]
    refine ret () trivial rfl
set_option maxRecDepth 100000 in
set_option maxHeartbeats 1000000 in
theorem l13News_f (r : Receiver) (p : Packet) (d : Int) (v : Value) (F : List Nat) (hg : GoodR r) (hp : goodPk p = true) (d0 : 1 ≤ d) (d1 : d ≤ 8) :
    Fn Tryz.prog 208 [v, .agg #[.int .i64 p.kind, .int .i64 p.number, .int .i64 p.trail, .int .i64 p.lead, .string p.data], .int .i64 d] [.isv EReceiver v r F] [] (fun (_ : NwS) => True) (fun s => .tuple #[.agg #[.bool ((newsR r p d)).started, .int .i64 ((newsR r p d)).clock, .int .i64 ((newsR r p d)).window.next, .slice s.a1 ((newsR r p d)).window.slots.length s.c1, .slice s.a2 ((newsR r p d)).requests.length s.c2], .slice s.ae (newsE r p).length s.ce])
      (fun s => [.isv EReceiver (.agg #[.bool ((newsR r p d)).started, .int .i64 ((newsR r p d)).clock, .int .i64 ((newsR r p d)).window.next, .slice s.a1 ((newsR r p d)).window.slots.length s.c1, .slice s.a2 ((newsR r p d)).requests.length s.c2]) (newsR r p d) s.F1, .ow EStr 9 (.slice s.ae (newsE r p).length s.ce) (newsE r p) s.Fe]) := by
  have k0 := hg.k0
  have k1 := hg.k1
  obtain ⟨-, q1, q2, -⟩ := areQ_iff.1 hg.q
  have hser : ∀ q ∈ r.requests, isSer q.number = true := fun q hq => (req_at hg hq).1
  obtain ⟨hsg, -⟩ := start_good hg hp
  obtain ⟨htg, -, htl⟩ := taken_good hg hp
  obtain ⟨hng, hnq, -, hnl⟩ := news_good hg hp d0 d1 (by omega)
  obtain ⟨s0_, s1_⟩ := next_ser hsg
  obtain ⟨w0_, w1_⟩ := next_ser htg
  obtain ⟨v0_, v1_⟩ := next_ser hng
  obtain ⟨hw8, hit⟩ := good_items hsg
  obtain ⟨hu8, hiu⟩ := good_items htg
  obtain ⟨n0, n1⟩ := goodPk_num hp
  have hrw := (good_items hg.w).1
  have hp2 := hp
  unfold goodPk at hp2
  simp only [Bool.and_eq_true] at hp2
  obtain ⟨t0_, t1_⟩ := isSer_iff.1 hp2.1.1.1.1.2
  obtain ⟨l0_, l1_⟩ := isSer_iff.1 hp2.1.1.1.2
  have hps : p.data.size ≤ 8 := itm_size hp2.1.1.2
  refine enter Tryz.func208 rfl Tryz.ntmps208 fun w0 => ?_
  refine openReceiver (v := v) (x := r) (F := F) ?_
  rintro a1 c1 F1 a2 c2 F2 rfl - -
  refine go ?_; intros
  refine cf (l13Own_f r _ F (by omega) (by omega)) fun u _ => ?_
  refine t_app ?_
  refine openOReceiver ?_
  rintro a5 c5 F5 a6 c6 F6 e6 - -
  rw [e6]
  refine t_read (E := ESlot) fun G5 => ?_
  refine t_read (E := ERequest) fun G6 => ?_
  refine go ?_; intros
  rename_i g3 g4 g6 g8 g9
  refine t_emp EStr ?_
  refine c_joinS [2, 4, 6, 8, 9] [0, 2, 4, 5] (fun _ : List Nat => []) (fun s => [.row g8 49 0 [] [.bool true, .int .i64 r.clock, .int .i64 (startW r p).next, .slice a5 (startW r p).slots.length c5, .slice a6 r.requests.length c6] [], .isv EReceiveWindow (.agg #[.int .i64 (startW r p).next, .slice a5 (startW r p).slots.length c5]) (startW r p) s]) (fun _ => True) ?_ fun G7 _ => ?_
  · cases hs : r.started
    · by_cases hk : p.kind = 5
      · have e : startW r p = ⟨p.lead, r.window.slots⟩ := by unfold startW; rw [hs, if_pos hk]; rfl
        rw [e]
        refine go ?_; intros
        refine c_if rfl (fun _ => ?_) (fun h => absurd hk h)
        refine closeReceiveWindow (a1 := a5) ⟨p.lead, r.window.slots⟩ ?_
        refine go ?_; intros
        refine n_join G5 trivial
      · have e : startW r p = ⟨p.number, r.window.slots⟩ := by unfold startW; rw [hs, if_neg hk]; rfl
        rw [e]
        refine go ?_; intros
        refine c_if rfl (fun h => absurd h hk) (fun _ => ?_)
        refine closeReceiveWindow (a1 := a5) ⟨p.number, r.window.slots⟩ ?_
        refine go ?_; intros
        refine n_join G5 trivial
    · have e : startW r p = r.window := by unfold startW; rw [hs]; rfl
      rw [e]
      refine closeReceiveWindow (a1 := a5) r.window ?_
      refine go ?_; intros
      refine n_join G5 trivial
  repeat (first | apply c_skip | apply n_cd | apply c_seq)
  refine c_join2 [2, 4, 6, 8] [3, 4, 5] (fun s : SkS => [(9, .slice s.ae (takenE r p).length s.ce)]) (fun s => [.row g8 49 0 [] [.bool true, .int .i64 r.clock, .int .i64 (takenW r p).next, .slice s.a (takenW r p).slots.length s.c, .slice a6 r.requests.length c6] [], .isv EReceiveWindow (.agg #[.int .i64 (takenW r p).next, .slice s.a (takenW r p).slots.length s.c]) (takenW r p) s.F, .ow EStr 9 (.slice s.ae (takenE r p).length s.ce) (takenE r p) s.Fe]) (fun _ => True) ?_ fun s _ => ?_
  · by_cases hk : p.kind = 5
    · have e1 : takenW r p = startW r p := by unfold takenW; rw [if_pos hk]
      have e2 : takenE r p = [] := by unfold takenE; rw [if_pos hk]
      rw [e1, e2]
      refine go ?_; intros
      rw [decide_eq_false (show ¬ ¬ p.kind = 5 from fun h => h hk)]
      refine go ?_; intros
      refine n_join (⟨a5, c5, G7, _, _, _⟩ : SkS) trivial
    · have e1 : takenW r p = takeW (startW r p) p.number p.data := by unfold takenW; rw [if_neg hk]
      have e2 : takenE r p = takeE (startW r p) p.number p.data := by unfold takenE; rw [if_neg hk]
      rw [e1, e2]
      refine go ?_; intros
      rw [decide_eq_true (show ¬ p.kind = 5 from hk)]
      refine go ?_; intros
      refine cf (l10Reach_f (startW r p) p.number _ G7 s0_ s1_ n0 n1 hw8) fun _ _ => ?_
      refine t_app ?_
      cases hok : takeOk (startW r p) p.number
      · have e : (takeNo (startW r p) p.number || !decide (gp (startW r p).next p.number < 8)) = true := by unfold takeOk at hok; simp only [Bool.or_eq_false_iff] at hok; rw [hok.1, hok.2]; rfl
        have e3 : takeW (startW r p) p.number p.data = startW r p := by unfold takeW; rw [if_pos e]
        have e4 : takeE (startW r p) p.number p.data = [] := by unfold takeE; rw [if_pos e]
        rw [e3, e4]
        refine go ?_; intros
        refine n_join (⟨a5, c5, G7, _, _, _⟩ : SkS) trivial
      · refine go ?_; intros
        refine cf (l10Take_f (startW r p) p.number p.data _ G7 s0_ s1_ n0 n1 hw8 hit hps hok) fun y hy => ?_
        refine t_app ?_
        obtain ⟨hy1, hy2⟩ := hy
        have hyl : y.es.length ≤ 8 := by rw [hy2, ← e2]; exact htl
        refine t_read (E := EStr) (xs := y.es) fun G8 => ?_
        refine go ?_; intros
        apply wO
        refine aps (ys := y.es) one_EStr scal_EStr fun a9 c9 F9 => ?_
        rw [List.nil_append]
        rw [← hy1, ← hy2]
        refine go ?_; intros
        refine n_join (⟨y.a, y.c, y.F, _, _, _⟩ : SkS) trivial
  obtain ⟨a3, c3, F3, ae, cE, Fe⟩ := s
  dsimp only
  refine go ?_; intros
  refine ce (fun w s => l2Before_c _ _ _ (by omega) (by omega)) ?_
  refine go ?_; intros
  refine c_joinS [2, 4, 6, 8] [3, 4, 5] (fun s : SkS => [(9, .slice s.ae (newsE r p).length s.ce)]) (fun s => [.row g8 49 0 [] [.bool true, .int .i64 r.clock, .int .i64 (newsW r p).next, .slice s.a (newsW r p).slots.length s.c, .slice a6 r.requests.length c6] [], .isv EReceiveWindow (.agg #[.int .i64 (newsW r p).next, .slice s.a (newsW r p).slots.length s.c]) (newsW r p) s.F, .ow EStr 9 (.slice s.ae (newsE r p).length s.ce) (newsE r p) s.Fe]) (fun _ => True) ?_ fun s _ => ?_
  · cases hb : bef (takenW r p).next p.trail
    · have e1 : newsW r p = takenW r p := by show skipW _ _ = _; unfold skipW; rw [hb]; rfl
      have e2 : newsE r p = takenE r p := by unfold newsE skipE; rw [hb]; simp
      rw [e1, e2]
      refine go ?_; intros
      refine n_join (⟨a3, c3, F3, _, _, _⟩ : SkS) trivial
    refine go ?_; intros
    refine ce (fun w s => l2Gap_c _ _ _ (by omega) (by omega)) ?_
    refine go ?_; intros
    refine c_if rfl (fun h4 => ?_) (fun h4 => ?_)
    · have e1 : newsW r p = movedW (takenW r p) p.trail := by show skipW _ _ = _; unfold skipW; rw [hb, if_pos rfl, if_pos h4]
      have e2 : newsE r p = takenE r p ++ movedE (takenW r p) p.trail := by unfold newsE skipE; rw [hb, if_pos rfl, if_pos h4]
      have hl2 := hnl
      rw [e2, List.length_append] at hl2
      refine go ?_; intros
      refine cf (l10GiveUp_f (takenW r p) p.trail _ F3 w0_ w1_ t0_ t1_ hu8 hiu) fun y hy => ?_
      refine t_app ?_
      obtain ⟨hy1, hy2⟩ := hy
      have hyl : y.es.length ≤ 24 := by rw [hy2]; show (movedE (takenW r p) p.trail).length ≤ 24; omega
      refine t_read (E := EStr) (xs := y.es) fun G8 => ?_
      refine go ?_; intros
      apply wO
      refine aps (ys := y.es) one_EStr scal_EStr fun a9 c9 F9 => ?_
      rw [e1, e2, show movedW (takenW r p) p.trail = y.y from hy1.symm, show movedE (takenW r p) p.trail = y.es from hy2.symm]
      refine go ?_; intros
      refine n_join (⟨y.a, y.c, y.F, _, _, _⟩ : SkS) trivial
    · have e1 : newsW r p = ⟨p.trail, []⟩ := by show skipW _ _ = _; unfold skipW; rw [hb, if_pos rfl, if_neg h4]
      have e2 : newsE r p = takenE r p ++ [⟨#[33]⟩] := by unfold newsE skipE; rw [hb, if_pos rfl, if_neg h4]
      rw [e1, e2]
      refine go ?_; intros
      apply wO
      refine ap1 (rep_str ⟨#[33]⟩ (by decide)) one_EStr fun a9 c9 F9 => ?_
      refine t_nilsl ESlot (by decide) ?_
      refine closeReceiveWindow (a1 := none) ⟨p.trail, []⟩ ?_
      refine go ?_; intros
      refine n_join (⟨none, 0, _, _, _, _⟩ : SkS) trivial
  obtain ⟨a7, c7, F7, ae, cE, Fe⟩ := s
  dsimp only
  refine go ?_; intros
  refine cf (l13Needed_f r.requests (newsW r p) a6 c6 G6 _ F7 (by omega) hser v0_ v1_) fun z _ => ?_
  refine t_app ?_
  refine go ?_; intros
  refine ce (fun w s => l2Before_c _ _ _ (by omega) (by omega)) ?_
  have hNq8 := (areQ_iff.1 hnq).2.1
  cases hb : bef (newsW r p).next p.lead
  · have e1 : newsR r p d = ⟨true, r.clock, newsW r p, needed r.requests (newsW r p)⟩ := by unfold newsR awaitQ; rw [hb]; rfl
    rw [e1]
    refine go ?_; intros
    refine t_read (E := ERequest) (xs := needed r.requests (newsW r p)) fun F8 => ?_
    refine openReceiveWindow (x := newsW r p) ?_
    rintro b1 dd1 G1 e5 m1
    simp only [Value.agg.injEq, Array.mk.injEq, List.cons.injEq, Value.slice.injEq, true_and, and_true] at e5
    obtain ⟨rfl, rfl⟩ := e5
    refine closeReceiver ⟨true, r.clock, newsW r p, needed r.requests (newsW r p)⟩ ?_
    refine ret ⟨_, _, _, _, _, [], _, _, _⟩ trivial rfl
  obtain ⟨k, hk⟩ : ∃ k, k = awaitN (newsW r p) p.lead := ⟨_, rfl⟩
  have hk8 : k ≤ 8 := by rw [hk]; exact awaitN_le _ _
  have hgb := gp_bd (newsW r p).next p.lead
  have hkm : ((k : Nat) : Int) = min (gp (newsW r p).next p.lead) 8 := by rw [hk]; unfold awaitN; omega
  obtain ⟨N, hN⟩ : ∃ N, N = missL (newsW r p) k := ⟨_, rfl⟩
  have hNl : N.length ≤ 8 := by have := missL_len (newsW r p) k; rw [hN]; omega
  have e1 : newsR r p d = ⟨true, r.clock, newsW r p, addAll (newsW r p).next (r.clock + d) (needed r.requests (newsW r p)) N⟩ := by unfold newsR awaitQ; rw [hb, if_pos rfl, hN, hk]
  rw [e1]
  have hav := aft_bd (newsW r p).next (min (gp (newsW r p).next p.lead) 8)
  have hgp : gp (newsW r p).next (aft (newsW r p).next (min (gp (newsW r p).next p.lead) 8)) = (k : Nat) := by rw [← hkm]; unfold gp aft; omega
  refine go ?_; intros
  refine ce (fun w s => l2Gap_c _ _ _ (by omega) (by omega)) ?_
  refine go ?_; intros
  refine cf (leastH_f _ _) fun _ _ => ?_
  refine t_app ?_
  refine go ?_; intros
  refine ce (fun w s => l2After_c _ _ _ (by omega) (by omega)) ?_
  refine go ?_; intros
  refine cf (l10Missing_f (newsW r p) _ k _ F7 v0_ v1_ (by omega) (by omega) hgp) fun m _ => ?_
  refine t_app ?_
  rw [← hN]
  refine t_read (E := EInt) (xs := N) fun GN => ?_
  refine t_read (E := ERequest) (xs := needed r.requests (newsW r p)) fun F8 => ?_
  refine go ?_; intros
  refine c_loopS [2, 6, 8, 9, 14, 16] (fun s : AwS => [(17, .int .i64 (s.i : Nat))]) (fun s => [.row g8 49 0 [] [.bool true, .int .i64 r.clock, .int .i64 (newsW r p).next, .slice a7 (newsW r p).slots.length c7, .slice s.a (addAll (newsW r p).next (r.clock + d) (needed r.requests (newsW r p)) (N.take s.i)).length s.c] [], .sl ERequest (.slice s.a (addAll (newsW r p).next (r.clock + d) (needed r.requests (newsW r p)) (N.take s.i)).length s.c) (addAll (newsW r p).next (r.clock + d) (needed r.requests (newsW r p)) (N.take s.i)) s.F]) (fun s => s.i ≤ N.length) (fun s => N.length - s.i) ⟨0, z.1, z.2.1, F8⟩ (Nat.zero_le _) fun s hs => ?_
  obtain ⟨i, a3, c3, F3⟩ := s
  dsimp only at hs ⊢
  have hall := addAll_good (w := newsW r p) (u := r.clock + d) (by omega) (by omega) (N.take i) (needed r.requests (newsW r p)) (fun n hn => by
    have := missL_at (w := newsW r p) (n := n) hk8 (by rw [← hN]; exact List.mem_of_mem_take hn)
    exact ⟨this.1, this.2.2⟩) hnq needed_free
  have hLs : ∀ h : i < N.length, addAll (newsW r p).next (r.clock + d) (needed r.requests (newsW r p)) (N.take (i + 1)) = addQ (newsW r p).next (addAll (newsW r p).next (r.clock + d) (needed r.requests (newsW r p)) (N.take i)) N[i] (r.clock + d) := fun h => addAll_succ h
  generalize hLd : addAll (newsW r p).next (r.clock + d) (needed r.requests (newsW r p)) (N.take i) = L at *
  have hLq := hall.1
  have hL8 := (areQ_iff.1 hLq).2.1
  refine go ?_; intros
  refine c_if rfl (fun h4 => ?_) (fun h4 => ?_)
  · have hi : i < N.length := by omega
    have hni := missL_at (w := newsW r p) (n := N[i]) hk8 (by rw [← hN]; exact List.getElem_mem hi)
    refine at_int (xs := N) i ?_
    rintro hi2 b o2 e
    rw [e]
    refine go ?_; intros
    refine d_start [0, 1] [12] ?_
    refine dt 0 ?_
    refine dt 1 ?_
    refine dt 2 ?_
    refine dt 3 ?_
    refine dt 4 ?_
    refine dt 5 ?_
    refine dt 6 ?_
    refine dt 7 ?_
    refine dt 8 ?_
    refine dt 9 ?_
    refine dO 10 (by kernel_rfl) (by rw [List.getElem?_toArray]; rfl) ?_
    apply o_call; rfl; kernel_rfl; exact evsE
    refine cf (l12Add_f L (newsW r p).next N[i] r.clock d a3 c3 F3 hLq hni.1 k0 k1 d0 d1) fun u _ => ?_
    refine t_app ?_
    rw [← hLs hi]
    refine dk ?_
    refine dt 11 ?_
    refine dO 12 (by kernel_rfl) (by rw [List.getElem?_toArray]; rfl) ?_
    apply o_st; rfl; rfl; rfl; (first | exact AggC.s | exact OneC.s); rfl; exact rplE; exact putE; rfl
    refine dkx ?_
    refine dd ?_
    refine t_read (E := ERequest) fun F9 => ?_
    refine go ?_; intros
    refine n_lp (⟨i + 1, _, _, _⟩ : AwS) (by show i + 1 ≤ N.length; omega) (by show N.length - (i + 1) < N.length - i; omega)
  have hi : i = N.length := by omega
  subst hi
  rw [List.take_length] at hLd
  rw [hLd]
  refine go ?_; intros
  refine openReceiveWindow (x := newsW r p) ?_
  rintro b1 dd1 G1 e5 m1
  simp only [Value.agg.injEq, Array.mk.injEq, List.cons.injEq, Value.slice.injEq, true_and, and_true] at e5
  obtain ⟨rfl, rfl⟩ := e5
  refine closeReceiver ⟨true, r.clock, newsW r p, L⟩ ?_
  refine ret ⟨_, _, _, _, _, [], _, _, _⟩ trivial rfl
end Go.Proofs.YtgogcgkocjpgoaaGreatDoor
/- Hearing: a packet, the reference. -/
namespace Go.Proofs.YtgogcgkocjpgoaaGreatDoor
open Go.RowKit
set_option maxRecDepth 100000 in
set_option maxHeartbeats 800000 in
theorem l13Hear_f (r : Receiver) (p : Packet) (d : Int) (v : Value) (F : List Nat) (hg : GoodR r) (hp : goodPk p = true) (d0 : 1 ≤ d) (d1 : d ≤ 8) :
    Fn Tryz.prog 119 [v, .agg #[.int .i64 p.kind, .int .i64 p.number, .int .i64 p.trail, .int .i64 p.lead, .string p.data], .int .i64 d] [.isv EReceiver v r F] [] (fun (_ : NwS) => True) (fun s => .tuple #[.agg #[.bool ((hearR r p d)).started, .int .i64 ((hearR r p d)).clock, .int .i64 ((hearR r p d)).window.next, .slice s.a1 ((hearR r p d)).window.slots.length s.c1, .slice s.a2 ((hearR r p d)).requests.length s.c2], .slice s.ae (hearE r p).length s.ce])
      (fun s => [.isv EReceiver (.agg #[.bool ((hearR r p d)).started, .int .i64 ((hearR r p d)).clock, .int .i64 ((hearR r p d)).window.next, .slice s.a1 ((hearR r p d)).window.slots.length s.c1, .slice s.a2 ((hearR r p d)).requests.length s.c2]) (hearR r p d) s.F1, .ow EStr 9 (.slice s.ae (hearE r p).length s.ce) (hearE r p) s.Fe]) := by
  have k0 := hg.k0
  have k1 := hg.k1
  have hrw := (good_items hg.w).1
  obtain ⟨-, q1, q2, -⟩ := areQ_iff.1 hg.q
  obtain ⟨n0, n1⟩ := goodPk_num hp
  have hkd : 1 ≤ p.kind ∧ p.kind ≤ 5 := by unfold goodPk btw at hp; simp only [Bool.and_eq_true, decide_eq_true_eq] at hp; exact hp.1.1.1.1.1.1
  refine enter Tryz.func119 rfl Tryz.ntmps119 fun w0 => ?_
  refine openReceiver (v := v) (x := r) (F := F) ?_
  rintro a1 c1 F1 a2 c2 F2 rfl - -
  refine go ?_; intros
  by_cases hk4 : p.kind = 4
  · have hn : isNews p = false := by unfold isNews; simp [hk4]
    have eE : hearE r p = [] := by unfold hearE; rw [hn]; rfl
    rw [decide_eq_true hk4]
    cases hs : r.started
    · have eR : hearR r p d = r := by unfold hearR; rw [hn, hs]; simp
      refine go ?_; intros
      rw [decide_eq_true hk4]
      refine go ?_; intros
      refine cf (l13Own_f r _ F (by omega) (by omega)) fun u _ => ?_
      refine t_app ?_
      refine openOReceiver ?_
      rintro a5 c5 F5 a6 c6 F6 e6 - -
      rw [e6]
      refine t_read (E := ESlot) fun G5 => ?_
      refine t_read (E := ERequest) fun G6 => ?_
      refine go ?_; intros
      refine t_emp EStr ?_
      refine closeReceiver (a1 := a5) r ?_
      rw [eR, eE]
      rw [hs]
      refine ret ⟨_, _, _, _, _, [], _, _, _⟩ trivial rfl
    · have eR : hearR r p d = confR r p := by unfold hearR; rw [hn, hs, decide_eq_true hk4]; rfl
      refine go ?_; intros
      refine cf (l13Own_f r _ F (by omega) (by omega)) fun u _ => ?_
      refine t_app ?_
      refine openOReceiver ?_
      rintro a5 c5 F5 a6 c6 F6 e6 - -
      rw [e6]
      refine t_read (E := ESlot) fun G5 => ?_
      refine go ?_; intros
      refine cf (l12Confirm_f r.requests r.window.next p.number r.clock a2 c2 F2 hg.q (isSer_iff.2 ⟨n0, n1⟩) k0 k1) fun y _ => ?_
      refine t_app ?_
      refine t_read (E := ERequest) (xs := confQ r.window.next r.requests p.number (r.clock + 4)) fun G6 => ?_
      refine go ?_; intros
      refine t_emp EStr ?_
      refine closeReceiver (a1 := a5) (confR r p) ?_
      rw [eR, eE]
      refine ret ⟨_, _, _, _, _, [], _, _, _⟩ trivial rfl
  rw [decide_eq_false hk4]
  refine go ?_; intros
  rw [decide_eq_false hk4]
  refine go ?_; intros
  by_cases hk3 : p.kind = 3
  · have hn : isNews p = false := by unfold isNews; simp [hk3]
    have eE : hearE r p = [] := by unfold hearE; rw [hn]; rfl
    have eR : hearR r p d = r := by unfold hearR; rw [hn, decide_eq_false hk4]; rfl
    rw [decide_eq_true hk3]
    refine go ?_; intros
    refine cf (l13Own_f r _ F (by omega) (by omega)) fun u _ => ?_
    refine t_app ?_
    refine openOReceiver ?_
    rintro a5 c5 F5 a6 c6 F6 e6 - -
    rw [e6]
    refine t_read (E := ESlot) fun G5 => ?_
    refine t_read (E := ERequest) fun G6 => ?_
    refine go ?_; intros
    refine t_emp EStr ?_
    refine closeReceiver (a1 := a5) r ?_
    rw [eR, eE]
    refine ret ⟨_, _, _, _, _, [], _, _, _⟩ trivial rfl
  have hn : isNews p = true := by
    unfold isNews
    have : p.kind = 1 ∨ p.kind = 2 ∨ p.kind = 5 := by omega
    rcases this with h | h | h <;> simp [h]
  have eE : hearE r p = newsE r p := by unfold hearE; rw [hn]; rfl
  have eR : hearR r p d = newsR r p d := by unfold hearR; rw [hn]; rfl
  rw [decide_eq_false hk3, eE, eR]
  refine go ?_; intros
  refine cf (l13News_f r p d _ F hg hp d0 d1) fun s _ => ?_
  refine t_app ?_
  refine go ?_; intros
  refine ret ⟨s.a1, s.c1, s.F1, s.a2, s.c2, [], s.ae, s.ce, _⟩ trivial rfl
end Go.Proofs.YtgogcgkocjpgoaaGreatDoor
/- HearPacket, on both sides. -/
namespace Go.Proofs.YtgogcgkocjpgoaaGreatDoor
open Go.RowKit
def okHearPacket (r : Receiver) (p : Packet) (d : Int) : Bool := goodRec r && goodPk p && isDel d
def resHearPacket (r : Receiver) (p : Packet) (d : Int) : Receiver × List ByteArray × Bool := if okHearPacket r p d then (hearR r p d, hearE r p, true) else (zRec, [], false)
theorem resHP_no {r : Receiver} {p : Packet} {d : Int} (h : okHearPacket r p d = false) : resHearPacket r p d = (zRec, [], false) := by unfold resHearPacket; rw [h]; rfl
theorem resHP_yes {r : Receiver} {p : Packet} {d : Int} (h : okHearPacket r p d = true) : resHearPacket r p d = (hearR r p d, hearE r p, true) := by unfold resHearPacket; rw [h]; rfl
theorem resHP_all (r : Receiver) (p : Packet) (d : Int) : resHearAll r [p] d = resHearPacket r p d := by
  have e : okHearAll r [p] d = okHearPacket r p d := by
    unfold okHearAll okHearPacket
    rw [show [p].all goodPk = goodPk p by simp, decide_eq_true (show (([p].length : Nat) : Int) ≤ 10 by simp)]
    cases goodRec r <;> cases isDel d <;> cases goodPk p <;> rfl
  have e2 : hearsE d r [p] = hearE r p := by show hearE r p ++ [] = _; rw [List.append_nil]
  cases h : okHearPacket r p d
  · rw [resHA_no (by rw [e]; exact h), resHP_no h]
  · rw [resHA_yes (by rw [e]; exact h), resHP_yes h, e2]; rfl
set_option maxRecDepth 100000 in
theorem HearPacket_f (x : Receiver) (p : Packet) (d : Int) (v : Value) (F : List Nat) (hs : p.data.size ≤ maxLen) :
    Fn Tryz.prog 40 [v, .agg #[.int .i64 p.kind, .int .i64 p.number, .int .i64 p.trail, .int .i64 p.lead, .string p.data], .int .i64 d] [.isv EReceiver v x F] [] (fun (_ : NwS) => True) (fun s => .tuple #[.agg #[.bool ((resHearPacket x p d).1).started, .int .i64 ((resHearPacket x p d).1).clock, .int .i64 ((resHearPacket x p d).1).window.next, .slice s.a1 ((resHearPacket x p d).1).window.slots.length s.c1, .slice s.a2 ((resHearPacket x p d).1).requests.length s.c2], .slice s.ae (resHearPacket x p d).2.1.length s.ce, .bool (resHearPacket x p d).2.2])
      (fun s => [.own OReceiver (.agg #[.bool ((resHearPacket x p d).1).started, .int .i64 ((resHearPacket x p d).1).clock, .int .i64 ((resHearPacket x p d).1).window.next, .slice s.a1 ((resHearPacket x p d).1).window.slots.length s.c1, .slice s.a2 ((resHearPacket x p d).1).requests.length s.c2]) (resHearPacket x p d).1 s.F1, .ow EStr 9 (.slice s.ae (resHearPacket x p d).2.1.length s.ce) (resHearPacket x p d).2.1 s.Fe]) := by
  refine enter Tryz.func40 rfl Tryz.ntmps40 fun w0 => ?_
  refine openReceiver (v := v) (x := x) (F := F) ?_
  rintro a1 c1 F1 a2 c2 F2 rfl - -
  refine goN ?_; intros
  refine t_row (xs := [p]) (flatPacket p hs) ?_ (by simp)
  refine t_read (E := EPacket) (xs := [p]) fun G => ?_
  refine go ?_; intros
  refine cf (HearAll_f x [p] d _ F _ _ G) fun s _ => ?_
  refine t_app ?_
  rw [resHP_all]
  refine go ?_; intros
  refine ret s trivial rfl
set_option maxRecDepth 100000 in
theorem specHearPacket_f (x : Receiver) (p : Packet) (d : Int) (v : Value) (F : List Nat) (hs : p.data.size ≤ maxLen) :
    Fn Tryz.prog 38 [v, .agg #[.int .i64 p.kind, .int .i64 p.number, .int .i64 p.trail, .int .i64 p.lead, .string p.data], .int .i64 d] [.isv EReceiver v x F] [] (fun (_ : NwS) => True) (fun s => .tuple #[.agg #[.bool ((resHearPacket x p d).1).started, .int .i64 ((resHearPacket x p d).1).clock, .int .i64 ((resHearPacket x p d).1).window.next, .slice s.a1 ((resHearPacket x p d).1).window.slots.length s.c1, .slice s.a2 ((resHearPacket x p d).1).requests.length s.c2], .slice s.ae (resHearPacket x p d).2.1.length s.ce, .bool (resHearPacket x p d).2.2])
      (fun s => [.isv EReceiver (.agg #[.bool ((resHearPacket x p d).1).started, .int .i64 ((resHearPacket x p d).1).clock, .int .i64 ((resHearPacket x p d).1).window.next, .slice s.a1 ((resHearPacket x p d).1).window.slots.length s.c1, .slice s.a2 ((resHearPacket x p d).1).requests.length s.c2]) (resHearPacket x p d).1 s.F1, .ow EStr 9 (.slice s.ae (resHearPacket x p d).2.1.length s.ce) (resHearPacket x p d).2.1 s.Fe]) := by
  refine enter Tryz.func38 rfl Tryz.ntmps38 fun w0 => ?_
  refine t_nilsl ESlot (by decide) ?_
  refine t_nilsl ERequest (by decide) ?_
  refine closeReceiver zRec ?_
  refine openReceiver (v := v) (x := x) (F := F) ?_
  rintro a1 c1 F1 a2 c2 F2 rfl - -
  refine go ?_; intros
  refine cf (l13Good_f x _ F) fun _ _ => ?_
  refine t_app ?_
  cases g1 : goodRec x
  · skip
    refine go ?_; intros
    refine t_emp EStr ?_
    rw [resHP_no (by unfold okHearPacket; simp [g1])]
    refine ret ⟨_, _, _, _, _, [], _, _, _⟩ trivial rfl
  have g5 := goodR_iff.1 g1
  refine go ?_; intros
  refine cf (l4Good_f p hs) fun _ _ => ?_
  refine t_app ?_
  cases g2 : goodPk p
  · skip
    refine go ?_; intros
    refine t_emp EStr ?_
    rw [resHP_no (by unfold okHearPacket; simp [g1, g2])]
    refine ret ⟨_, _, _, _, _, [], _, _, _⟩ trivial rfl
  refine go ?_; intros
  refine cf (l12Delay_f d) fun _ _ => ?_
  refine t_app ?_
  cases g3 : isDel d
  · skip
    refine go ?_; intros
    refine t_emp EStr ?_
    rw [resHP_no (by unfold okHearPacket; simp [g1, g2, g3])]
    refine ret ⟨_, _, _, _, _, [], _, _, _⟩ trivial rfl
  obtain ⟨hd0, hd1⟩ : 1 ≤ d ∧ d ≤ 8 := by unfold isDel btw at g3; simp only [Bool.and_eq_true, decide_eq_true_eq] at g3; omega
  rw [resHP_yes (by unfold okHearPacket; rw [g1, g2, g3]; rfl)]
  refine go ?_; intros
  refine cf (l13Hear_f x p d _ F g5 g2 hd0 hd1) fun s _ => ?_
  refine t_app ?_
  refine go ?_; intros
  refine ret s trivial rfl
end Go.Proofs.YtgogcgkocjpgoaaGreatDoor
/- Receivers: a tick keeps a receiver valid; plain. -/
namespace Go.Proofs.YtgogcgkocjpgoaaGreatDoor
open Go.RowKit
theorem tkReq_good {r : Receiver} {d : Int} (hg : GoodR r) (hk : r.clock < 9999) (d0 : 1 ≤ d) (d1 : d ≤ 8) : areQ (tkReq r d) r.window.next = true ∧ ∀ q ∈ tkReq r d, hasB r.window q.number = false := by
  have k0 := hg.k0
  obtain ⟨h1, h2, h3, h4⟩ := areQ_iff.1 hg.q
  refine ⟨areQ_iff.2 ⟨h1, Nat.le_trans (tkReq_len r d) h2, fun q hq => ?_, ?_⟩, fun q hq => (tkReq_at hg hq).2.2⟩
  · obtain ⟨q', hq', h⟩ := List.mem_filterMap.1 hq
    have ho := okReq_iff.1 (h3 q' hq')
    unfold tkO at h
    split at h
    · cases h; exact h3 q hq'
    · split at h
      · cases h
      · rename_i hn
        have t0 := ho.t0
        have t1 := ho.t1
        split at h
        · cases h
          exact okReq_iff.2 ⟨ho.n, ho.g, by show (1 : Int) ≤ 2; decide, by show (2 : Int) ≤ 3; decide, by show 0 ≤ r.clock + 1 + 3; omega, by show r.clock + 1 + 3 ≤ 10007; omega, by show 0 ≤ q'.tries + 1; omega, by show q'.tries + 1 ≤ 3; omega⟩
        · cases h
          exact okReq_iff.2 ⟨ho.n, ho.g, by show (1 : Int) ≤ 1; decide, by show (1 : Int) ≤ 3; decide, by show 0 ≤ r.clock + 1 + d; omega, by show r.clock + 1 + d ≤ 10007; omega, t0, t1⟩
  · unfold tkReq
    refine List.Pairwise.filterMap _ (fun a a' h b hb b' hb' => ?_) h4
    rw [tkO_num hb, tkO_num hb']; exact h
theorem tick_good {r : Receiver} {d : Int} (hg : GoodR r) (hk : r.clock < 9999) (d0 : 1 ≤ d) (d1 : d ≤ 8) : GoodR (tickRec r d) := by
  have k0 := hg.k0
  obtain ⟨hq, hf⟩ := tkReq_good hg hk d0 d1
  by_cases hL : tkLost r = []
  · rw [tickR_no hL]
    refine ⟨by show 0 ≤ r.clock + 1; omega, by show r.clock + 1 ≤ 9999; omega, hg.w, hq, hf, fun hs => ?_⟩
    obtain ⟨e1, e2⟩ := hg.z hs
    refine ⟨e1, ?_⟩
    show tkReq r d = []
    unfold tkReq; rw [e2]; rfl
  · have hst : r.started = true := by
      cases hs : r.started
      · exfalso; apply hL; unfold tkLost; rw [(hg.z hs).2]; rfl
      · rfl
    rw [tickR_yes hL]
    obtain ⟨e1, -, e3, -⟩ := moved_at (t := lostTrail (tkLost r)) hg.w
    have hs8 := (lost_gp hg hL).1
    have hgp := @stepsN_gp r.window.next (lostTrail (tkLost r))
    have hw : goodRW (movedW r.window (lostTrail (tkLost r))) = true := giveUp_good _ _ hg.w
    rw [← tick_needed hg hL]
    refine ⟨by show 0 ≤ r.clock + 1; omega, by show r.clock + 1 ≤ 9999; omega, hw, needed_good (m := (movedE r.window (lostTrail (tkLost r))).length) (by omega) hq hw e1, needed_free, fun hs => ?_⟩
    have : r.started = false := hs
    rw [hst] at this; cases this
end Go.Proofs.YtgogcgkocjpgoaaGreatDoor
/- Receivers: NewReceiver, IsSettled. -/
namespace Go.Proofs.YtgogcgkocjpgoaaGreatDoor
open Go.RowKit
def resNewReceiver (k : Int) : Receiver × Bool := if isClk k then (⟨false, k, ⟨0, []⟩, []⟩, true) else (zRec, false)
theorem specNewReceiver_f (k : Int) : Fn Tryz.prog 61 [.int .i64 k] [] [] (fun (_ : NwS) => True) (fun s => .tuple #[.agg #[.bool ((resNewReceiver k).1).started, .int .i64 ((resNewReceiver k).1).clock, .int .i64 ((resNewReceiver k).1).window.next, .slice s.a1 ((resNewReceiver k).1).window.slots.length s.c1, .slice s.a2 ((resNewReceiver k).1).requests.length s.c2], .bool (resNewReceiver k).2]) (fun s => [.isv EReceiver (.agg #[.bool ((resNewReceiver k).1).started, .int .i64 ((resNewReceiver k).1).clock, .int .i64 ((resNewReceiver k).1).window.next, .slice s.a1 ((resNewReceiver k).1).window.slots.length s.c1, .slice s.a2 ((resNewReceiver k).1).requests.length s.c2]) (resNewReceiver k).1 s.F1]) := by
  refine enter Tryz.func61 rfl Tryz.ntmps61 fun w0 => ?_
  refine t_nilsl ESlot (by decide) ?_
  refine t_nilsl ERequest (by decide) ?_
  refine go ?_; intros
  refine ce (fun w s => l11Clock_c _ _) ?_
  cases g : isClk k
  · rw [show resNewReceiver k = (zRec, false) by unfold resNewReceiver; rw [g]; rfl]
    refine closeReceiver (a1 := none) zRec ?_
    refine go ?_; intros
    refine ret ⟨none, 0, _, none, 0, [], none, 0, []⟩ trivial rfl
  · rw [show resNewReceiver k = (⟨false, k, ⟨0, []⟩, []⟩, true) by unfold resNewReceiver; rw [g]; rfl]
    refine closeReceiver (a1 := none) ⟨false, k, ⟨0, []⟩, []⟩ ?_
    refine go ?_; intros
    refine ret ⟨none, 0, _, none, 0, [], none, 0, []⟩ trivial rfl
end Go.Proofs.YtgogcgkocjpgoaaGreatDoor
