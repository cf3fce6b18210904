/- Part 4 of the proof: 20 texts, one behind the other. -/
import Derived.Test.YtccmhdheoeglmaaGreatDoorShelf
import Derived.Test.YtccmhdheoeglmaaGreatDoorShelfL
import Derived.Deep.RegionHeld3
import Derived.Lib.Strings
import Derived.Lib.LaidTab
import Derived.Lib.ItoaMem
import Derived.RangeFuncCalls
import Derived.RangeFuncFrom
import Derived.RangeFuncLeaves
import Derived.TacticsInMore
import Derived.OrdersIn
import Derived.WalkKit
import Derived.LoopNIn
import Derived.LoopIn
import Derived.OwnWalkIn
import Derived.Test.YtccmhdheoeglmaaGreatDoorM3
/- Quiet operations of a drawn region that an effect does not wait for: those that are listed already need not wait. -/
namespace Go.Proofs.YtccmhdheoeglmaaGreatDoor
open Go.RowKit
section
variable {P : Program} {md : Region.Mode} {ops : Array Oper} {Q : Exit → Act → World → Prop} {S : World → Prop} {X : Nat → Bool}
end
section
variable {c : Cx} {fr : Fr} {H H0 : List Pc} {k : List It} {X : List Nat} {ops : Array Oper} {f : Nat} {listed : Array Bool} {d : Nat} {o : Op} {ty : TypeId} {pos : String} {aft : Array Edge} {v : Value}
end
end Go.Proofs.YtccmhdheoeglmaaGreatDoor
/- Hearing: HearAll and HearPacket of the program. -/
namespace Go.Proofs.YtccmhdheoeglmaaGreatDoor
open Go.RowKit
set_option maxRecDepth 100000 in
theorem IdxPk_f (fid : FuncId) (bd caps : List Value) (A : List Pc) (hA : A.all (fun p => !p.mu) = true) (xs : List Packet) (a : Option Addr) (c : Nat) (F : List Nat) (p : Packet → Bool) (hb : bodyB Tryz.prog fid = true) (hl : xs.length ≤ 1000000000)
    (hp : ∀ x ∈ xs, ∀ w, Hol A w → Calls Tryz.prog fid (bd ++ [(.agg #[.int .i64 (x).kind, .int .i64 (x).number, .int .i64 (x).trail, .int .i64 (x).lead, .string (x).data] : Value)] ++ caps).toArray w fun e w' => e = .returned (.bool (p x)) ∧ Below w.heap.size w w') :
    Fn Tryz.prog 171 [.slice a xs.length c, .func (.func fid) bd.toArray caps.toArray] (.sl EPacket (.slice a xs.length c) xs F :: A) [] (fun (_ : Unit) => True) (fun _ => .int .i64 (fidx p xs)) (fun _ => []) := by
  refine enter Tryz.func171 rfl Tryz.ntmps171 (fun w0 => ?_) rfl (by simpa [Pc.mu] using hA) .nil
  refine go ?_; intros
  refine c_loopR [0, 1, 4, 7] (fun k : Nat => [(8, .int .i64 (k : Nat))]) (fun k => k ≤ xs.length ∧ ∀ j (_ : j < k) (hj : j < xs.length), p xs[j] = false) (fun k => xs.length - k) 0 ⟨Nat.zero_le _, fun j h => by omega⟩ fun k hk => ?_
  obtain ⟨hk1, hk2⟩ := hk
  refine go ?_; intros
  refine c_if rfl (fun h5 => ?_) (fun h5 => ?_)
  · have hh : k < xs.length := by omega
    refine go ?_; intros
    refine atPacket (xs := xs) k ?_
    rintro hi b o e sz
    rw [e]
    refine go ?_; intros
    apply wO
    refine o_callb rfl rfl hb evsE ?_
    refine cb (fun w st => hp xs[k] (List.getElem_mem hh) w (fun q hq => st.on q (by simp [hq]))) ?_
    cases hpk : p xs[k]
    · refine go ?_; intros
      refine t_drop ?_
      refine n_lp (hH := hsub_refl _) (k + 1) ⟨hh, fun j hj h => ?_⟩ (by omega)
      rcases Nat.lt_or_eq_of_le (Nat.lt_succ_iff.1 hj) with h2 | rfl
      · exact hk2 j h2 h
      · exact hpk
    · refine go ?_; intros
      refine ret () trivial ?_
      rw [fidx_hit hh hk2 hpk]; rfl
  · obtain rfl : k = xs.length := by omega
    refine go ?_; intros
    refine ret () trivial ?_
    rw [fidx_none (fun j hj => hk2 j hj hj)]; rfl

theorem ConPk_f (fid : FuncId) (bd caps : List Value) (A : List Pc) (hA : A.all (fun p => !p.mu) = true) (xs : List Packet) (a : Option Addr) (c : Nat) (F : List Nat) (p : Packet → Bool) (hb : bodyB Tryz.prog fid = true) (hl : xs.length ≤ 1000000000)
    (hp : ∀ x ∈ xs, ∀ w, Hol A w → Calls Tryz.prog fid (bd ++ [(.agg #[.int .i64 (x).kind, .int .i64 (x).number, .int .i64 (x).trail, .int .i64 (x).lead, .string (x).data] : Value)] ++ caps).toArray w fun e w' => e = .returned (.bool (p x)) ∧ Below w.heap.size w w') :
    Fn Tryz.prog 122 [.slice a xs.length c, .func (.func fid) bd.toArray caps.toArray] (.sl EPacket (.slice a xs.length c) xs F :: A) [] (fun (_ : Unit) => True) (fun _ => .bool (xs.any p)) (fun _ => []) := by
  refine enter Tryz.func122 rfl Tryz.ntmps122 (fun w0 => ?_) rfl (by simpa [Pc.mu] using hA) .nil
  refine go ?_; intros
  refine cb (fun w st => (IdxPk_f fid bd caps A hA xs a c F p hb hl hp).val w (fun q hq => st.on q (by simpa using hq)) (by simpa [Pc.mu] using hA)) ?_
  refine go ?_; intros
  refine ret () trivial ?_
  rw [fidx_any]; rfl


structure HaS where
  k : Nat
  a1 : Option Addr
  c1 : Nat
  F1 : List Nat
  a2 : Option Addr
  c2 : Nat
  F2 : List Nat
  ae : Option Addr
  ce : Nat
  Fe : List Nat
end Go.Proofs.YtccmhdheoeglmaaGreatDoor
/- What the walks of the exact laws need: structs by their cells as wholes, contracts of made values, marks. -/
namespace Go.Proofs.YtccmhdheoeglmaaGreatDoor
open Go.RowKit
section
variable {c : Cx} {fr : Fr} {H H0 : List Pc} {k : List It} {Φ : Gl} {X : List Nat} {ops : Array Oper} {f : Nat} {listed : Array Bool} {d : Nat} {o : Op} {ty : TypeId} {v u : Value} {x y : Operand}
theorem t_weakV {α : Type} {O R : Elem α} (hW : Weak O R) {v : Value} {x : α} {F : List Nat} {S : List Pc} (h : ∀ F', T c fr (.isv R v x F' :: S) Φ) (hp : Pick H (.own O v x F) S := by (repeat (first | exact .here | apply Pick.there)); first | done | fail) : T c fr H Φ := .mk fun a w s g => by
  have s1 := s.pick hp
  obtain ⟨-, ho⟩ := s1.on (.own O v x F) (by simp)
  obtain ⟨F', hF, hs⟩ := IsV.weak hW ho
  exact (h F').h a w (s1.conv rfl hs hF) g
/-- a struct's value is its cells -/
theorem t_aggI {α : Type} {E : Elem α} {v : Value} {x : α} {F : List Nat} (one : One E) (h : ∀ cs : List Value, v = .agg cs.toArray → cs.length = E.sz → cs.all (·.oneCell') = true → T c fr H Φ) (hm : .isv E v x F ∈ H := by (repeat (first | exact .head _ | apply List.Mem.tail)); first | done | fail) : T c fr H Φ := .mk fun a w s g => by
  obtain ⟨cs, hv, hx⟩ := s.get hm
  exact (h cs hv (E.len hx) (List.all_eq_true.2 fun u hu => one hx u hu)).h a w s g
theorem t_aggO {α : Type} {E : Elem α} {v : Value} {x : α} {F : List Nat} (one : One E) (h : ∀ cs : List Value, v = .agg cs.toArray → cs.length = E.sz → cs.all (·.oneCell') = true → T c fr H Φ) (hm : .own E v x F ∈ H := by (repeat (first | exact .head _ | apply List.Mem.tail)); first | done | fail) : T c fr H Φ := .mk fun a w s g => by
  obtain ⟨-, cs, hv, hx⟩ := s.get hm
  exact (h cs hv (E.len hx) (List.all_eq_true.2 fun u hu => one hx u hu)).h a w s g
theorem Put.all : ∀ {zs l : List Value}, zs.length = l.length → Put zs 0 l l
  | [], [], _ => .zero
  | [], _ :: _, h => by simp at h
  | _ :: _, [], h => by simp at h
  | _ :: zs, _ :: l, h => .one (Put.all (by simpa using h))
/-- all of a box -/
theorem yd_ldw {P : Program} {n : Nat} {H : List Pc} {t g o tt m : Nat} {A cs B : List Value} [AggC P t m] (hx : ev fr x = some (ptr g o 0)) (hm : Pc.row g tt o A cs B ∈ H) (hl : cs.length = m) : Yd P n fr H (.load t x) ty (.agg cs.toArray) := yd_lda hx hm (hl ▸ Cut.whole cs)
/-- a call that makes values -/
theorem cm {f : Nat} {vs : List Value} {σ : Type} {C : σ → Prop} {vv : σ → Value} {N : σ → List Pc} (hc : ∀ w, St c.G c.D c.w0 H w → Calls c.P f vs.toArray w fun e w' => ∃ s, C s ∧ e = .returned (vv s) ∧ Hol (N s) w' ∧ (fp (N s)).Nodup ∧ (∀ b ∈ fp (N s), w.heap.size ≤ b) ∧ Below w.heap.size w w')
    (h : ∀ s, C s → T c ((d, vv s) :: fr) (N s ++ H) Φ) : Cl c fr H d f vs Φ :=
  cl_of hc (fun w e w' s hR => by
    obtain ⟨z, hz, he, hN, hn, hF, hB⟩ := hR
    have sep : ∀ {N : List Pc}, (fp N).Nodup → Sep N := by
      intro N
      induction N with
      | nil => intro _; trivial
      | cons p N ih =>
        intro h
        rw [fp, List.nodup_append] at h
        exact ⟨fun q hq _ b hb hq2 => h.2.2 b hb b (mem_fp.2 ⟨q, hq, hq2⟩) rfl, ih h.2.1⟩
    exact ⟨_, he, fun ac g => (h z hz).h ac w' (s.add (N := N z) hB hN (sep hn) (fun p hp b hb => .inl (hF b (mem_fp.2 ⟨p, hp, hb⟩)))) g⟩)
theorem d_startA {id : Nat} {l : List Oper} (X : List Nat) (h : T c fr H (.dx k H X l.toArray l.length (Array.replicate l.length false))) (hm : c.P.follows .mixedOrders = true := by kernel_rfl) : T c fr H (.code k (Code.region id l.toArray true)) := .mk fun a w s g => by
  refine AnyX.start (S := Hol H) (X := fun i => X.contains i) hm ?_
  have := h.h a w.drew (s.below (belowDrewN (Below.refl _ _) 1)) g
  simpa [Gl.sem] using this
/-- what is behind a box that is stored into -/
theorem o_stw {t g tt m : Nat} {cs l : List Value} {S : List Pc} (hx : ev fr x = some (ptr g 0 0)) (hy : ev fr y = some (.agg l.toArray)) (hs : (c.P.info? t).map (·.size) = some m) (hr : Rpl H (.row g tt 0 [] cs []) (.row g tt 0 [] l []) S) (hl : l.length = m) (hc : cs.length = m) (h1 : l.all (·.oneCell') = true) (h : T c fr S Φ) : On c fr H none (.store t x y) ty Φ :=
  o_st hx hy rfl hs hl hr (Put.all (by omega)) h1 h
end
/-! contracts, with what they ask read off pieces -/
theorem ex1 {α : Type} {A : α → Prop} {C : Prop} (f : ∀ a, A a → C) : (∃ a, A a) → C := fun ⟨a, h⟩ => f a h
theorem ex2 {α β : Type} {A : α → Prop} {B : β → Prop} {C : Prop} (f : ∀ a b, A a → B b → C) : (∃ a, A a) → (∃ b, B b) → C := fun ⟨a, h⟩ ⟨b, h2⟩ => f a b h h2
section
variable {G D : List Nat} {w0 w : World} {H : List Pc}
theorem St.rI {α : Type} {E : Elem α} {v : Value} {x : α} {F : List Nat} (s : St G D w0 H w) (hm : .isv E v x F ∈ H := by (repeat (first | exact .head _ | apply List.Mem.tail)); first | done | fail) : ∃ F', IsV E w v x F' := ⟨F, s.get hm⟩
theorem St.rO {α : Type} {O R : Elem α} (hW : Weak O R) {v : Value} {x : α} {F : List Nat} (s : St G D w0 H w) (hm : .own O v x F ∈ H := by (repeat (first | exact .head _ | apply List.Mem.tail)); first | done | fail) : ∃ F', IsV R w v x F' := by
  obtain ⟨-, ho⟩ := s.get hm
  obtain ⟨F', -, h⟩ := IsV.weak hW ho
  exact ⟨F', h⟩
end
end Go.Proofs.YtccmhdheoeglmaaGreatDoor
/- Structs of type Net in a walk's state: opened, closed. -/
namespace Go.Proofs.YtccmhdheoeglmaaGreatDoor
open Go.RowKit
section
variable {c : Cx} {fr : Fr} {H : List Pc} {Φ : Gl}
theorem openNet {v : Value} {x : Net} {F : List Nat} (h : ∀ (a1 : Option Addr) (c1 : Nat) (F1 : List Nat) (a2 : Option Addr) (c2 : Nat) (F2 : List Nat) (a3 : Option Addr) (c3 : Nat) (F3 : List Nat) (a4 : Option Addr) (c4 : Nat) (F4 : List Nat) (a5 : Option Addr) (c5 : Nat) (F5 : List Nat) (a6 : Option Addr) (c6 : Nat) (F6 : List Nat) (a7 : Option Addr) (c7 : Nat) (F7 : List Nat), v = .agg #[.slice a1 x.tree.parent.length c1, .int .i64 x.source.window.trail, .int .i64 x.source.window.size, .slice a2 x.source.window.items.length c2, .int .i64 x.source.clock, .int .i64 x.source.quiet, .slice a3 x.source.holds.length c3, .slice a4 x.elements.length c4, .slice a5 x.receivers.length c5, .slice a6 x.down.length c6, .slice a7 x.up.length c7] → x.tree.parent.length ≤ maxLen → x.source.window.items.length ≤ maxLen → x.source.holds.length ≤ maxLen → x.elements.length ≤ maxLen → x.receivers.length ≤ maxLen → x.down.length ≤ maxLen → x.up.length ≤ maxLen → T c fr (.sl EInt (.slice a1 x.tree.parent.length c1) x.tree.parent F1 :: .sl EStr (.slice a2 x.source.window.items.length c2) x.source.window.items F2 :: .sl EHold (.slice a3 x.source.holds.length c3) x.source.holds F3 :: .sl EElement (.slice a4 x.elements.length c4) x.elements F4 :: .sl EReceiver (.slice a5 x.receivers.length c5) x.receivers F5 :: .sl (ESl EPacket (by decide)) (.slice a6 x.down.length c6) x.down F6 :: .sl (ESl EPacket (by decide)) (.slice a7 x.up.length c7) x.up F7 :: H) Φ) (hm : .isv ENet v x F ∈ H := by (repeat (first | exact .head _ | apply List.Mem.tail)); first | done | fail) : T c fr H Φ := .mk fun a w s g => by
  obtain ⟨cs, rfl, v1, v2, v3, v4, v5, v6, v7, G1, G2, G3, G4, G5, G6, G7, rfl, h1, h2, h3, h4, h5, h6, h7, rfl⟩ := s.get hm
  obtain ⟨a1, c1, rfl⟩ := h1.slice; have l1 := h1.len
  obtain ⟨a2, c2, rfl⟩ := h2.slice; have l2 := h2.len
  obtain ⟨a3, c3, rfl⟩ := h3.slice; have l3 := h3.len
  obtain ⟨a4, c4, rfl⟩ := h4.slice; have l4 := h4.len
  obtain ⟨a5, c5, rfl⟩ := h5.slice; have l5 := h5.len
  obtain ⟨a6, c6, rfl⟩ := h6.slice; have l6 := h6.len
  obtain ⟨a7, c7, rfl⟩ := h7.slice; have l7 := h7.len
  have t7 := s.ro (p := .sl (ESl EPacket (by decide)) (.slice a7 x.up.length c7) x.up G7) hm rfl rfl ⟨by decide, h7⟩ (by intro b hb; simp only [Pc.F] at hb ⊢; simp [hb])
  have t6 := t7.ro (p := .sl (ESl EPacket (by decide)) (.slice a6 x.down.length c6) x.down G6) (List.mem_cons_of_mem _ hm) rfl rfl ⟨by decide, h6⟩ (by intro b hb; simp only [Pc.F] at hb ⊢; simp [hb])
  have t5 := t6.ro (p := .sl EReceiver (.slice a5 x.receivers.length c5) x.receivers G5) (List.mem_cons_of_mem _ (List.mem_cons_of_mem _ hm)) rfl rfl ⟨by decide, h5⟩ (by intro b hb; simp only [Pc.F] at hb ⊢; simp [hb])
  have t4 := t5.ro (p := .sl EElement (.slice a4 x.elements.length c4) x.elements G4) (List.mem_cons_of_mem _ (List.mem_cons_of_mem _ (List.mem_cons_of_mem _ hm))) rfl rfl ⟨by decide, h4⟩ (by intro b hb; simp only [Pc.F] at hb ⊢; simp [hb])
  have t3 := t4.ro (p := .sl EHold (.slice a3 x.source.holds.length c3) x.source.holds G3) (List.mem_cons_of_mem _ (List.mem_cons_of_mem _ (List.mem_cons_of_mem _ (List.mem_cons_of_mem _ hm)))) rfl rfl ⟨by decide, h3⟩ (by intro b hb; simp only [Pc.F] at hb ⊢; simp [hb])
  have t2 := t3.ro (p := .sl EStr (.slice a2 x.source.window.items.length c2) x.source.window.items G2) (List.mem_cons_of_mem _ (List.mem_cons_of_mem _ (List.mem_cons_of_mem _ (List.mem_cons_of_mem _ (List.mem_cons_of_mem _ hm))))) rfl rfl ⟨by decide, h2⟩ (by intro b hb; simp only [Pc.F] at hb ⊢; simp [hb])
  have t1 := t2.ro (p := .sl EInt (.slice a1 x.tree.parent.length c1) x.tree.parent G1) (List.mem_cons_of_mem _ (List.mem_cons_of_mem _ (List.mem_cons_of_mem _ (List.mem_cons_of_mem _ (List.mem_cons_of_mem _ (List.mem_cons_of_mem _ hm)))))) rfl rfl ⟨by decide, h1⟩ (by intro b hb; simp only [Pc.F] at hb ⊢; simp [hb])
  exact (h a1 c1 G1 a2 c2 G2 a3 c3 G3 a4 c4 G4 a5 c5 G5 a6 c6 G6 a7 c7 G7 rfl  l1 l2 l3 l4 l5 l6 l7).h a w t1 g
theorem closeNet (x : Net) {a1 : Option Addr} {c1 : Nat} {F1 : List Nat} {a2 : Option Addr} {c2 : Nat} {F2 : List Nat} {a3 : Option Addr} {c3 : Nat} {F3 : List Nat} {a4 : Option Addr} {c4 : Nat} {F4 : List Nat} {a5 : Option Addr} {c5 : Nat} {F5 : List Nat} {a6 : Option Addr} {c6 : Nat} {F6 : List Nat} {a7 : Option Addr} {c7 : Nat} {F7 : List Nat}  (h : T c fr (.isv ENet (.agg #[.slice a1 x.tree.parent.length c1, .int .i64 x.source.window.trail, .int .i64 x.source.window.size, .slice a2 x.source.window.items.length c2, .int .i64 x.source.clock, .int .i64 x.source.quiet, .slice a3 x.source.holds.length c3, .slice a4 x.elements.length c4, .slice a5 x.receivers.length c5, .slice a6 x.down.length c6, .slice a7 x.up.length c7]) x (F1 ++ F2 ++ F3 ++ F4 ++ F5 ++ F6 ++ F7) :: H) Φ) (m1 : .sl EInt (.slice a1 x.tree.parent.length c1) x.tree.parent F1 ∈ H := by (repeat (first | exact .head _ | apply List.Mem.tail)); first | done | fail) (m2 : .sl EStr (.slice a2 x.source.window.items.length c2) x.source.window.items F2 ∈ H := by (repeat (first | exact .head _ | apply List.Mem.tail)); first | done | fail) (m3 : .sl EHold (.slice a3 x.source.holds.length c3) x.source.holds F3 ∈ H := by (repeat (first | exact .head _ | apply List.Mem.tail)); first | done | fail) (m4 : .sl EElement (.slice a4 x.elements.length c4) x.elements F4 ∈ H := by (repeat (first | exact .head _ | apply List.Mem.tail)); first | done | fail) (m5 : .sl EReceiver (.slice a5 x.receivers.length c5) x.receivers F5 ∈ H := by (repeat (first | exact .head _ | apply List.Mem.tail)); first | done | fail) (m6 : .sl (ESl EPacket (by decide)) (.slice a6 x.down.length c6) x.down F6 ∈ H := by (repeat (first | exact .head _ | apply List.Mem.tail)); first | done | fail) (m7 : .sl (ESl EPacket (by decide)) (.slice a7 x.up.length c7) x.up F7 ∈ H := by (repeat (first | exact .head _ | apply List.Mem.tail)); first | done | fail) : T c fr H Φ := .mk fun a w s g => by
  have hP : IsV ENet w (.agg #[.slice a1 x.tree.parent.length c1, .int .i64 x.source.window.trail, .int .i64 x.source.window.size, .slice a2 x.source.window.items.length c2, .int .i64 x.source.clock, .int .i64 x.source.quiet, .slice a3 x.source.holds.length c3, .slice a4 x.elements.length c4, .slice a5 x.receivers.length c5, .slice a6 x.down.length c6, .slice a7 x.up.length c7]) x (F1 ++ F2 ++ F3 ++ F4 ++ F5 ++ F6 ++ F7) := ⟨_, rfl, _, _, _, _, _, _, _, _, _, _, _, _, _, _, rfl, (s.get m1).2, (s.get m2).2, (s.get m3).2, (s.get m4).2, (s.get m5).2, (s.get m6).2, (s.get m7).2, rfl⟩
  refine h.h a w (s.add (N := [.isv ENet (.agg #[.slice a1 x.tree.parent.length c1, .int .i64 x.source.window.trail, .int .i64 x.source.window.size, .slice a2 x.source.window.items.length c2, .int .i64 x.source.clock, .int .i64 x.source.quiet, .slice a3 x.source.holds.length c3, .slice a4 x.elements.length c4, .slice a5 x.receivers.length c5, .slice a6 x.down.length c6, .slice a7 x.up.length c7]) x (F1 ++ F2 ++ F3 ++ F4 ++ F5 ++ F6 ++ F7)]) (Below.refl _ _) (by intro q hq; obtain rfl := List.mem_singleton.1 hq; exact hP) ⟨by simp, trivial⟩ fun q hq b hb => ?_) g
  obtain rfl := List.mem_singleton.1 hq
  simp only [Pc.F, List.mem_append] at hb
  rcases hb with (((((hb | hb) | hb) | hb) | hb) | hb) | hb
  · exact .inr ⟨rfl, _, m1, rfl, hb⟩
  · exact .inr ⟨rfl, _, m2, rfl, hb⟩
  · exact .inr ⟨rfl, _, m3, rfl, hb⟩
  · exact .inr ⟨rfl, _, m4, rfl, hb⟩
  · exact .inr ⟨rfl, _, m5, rfl, hb⟩
  · exact .inr ⟨rfl, _, m6, rfl, hb⟩
  · exact .inr ⟨rfl, _, m7, rfl, hb⟩
end
end Go.Proofs.YtccmhdheoeglmaaGreatDoor
/- Slices of slices: one of them, read; one of them, owned. -/
namespace Go.Proofs.YtccmhdheoeglmaaGreatDoor
open Go.RowKit
section
variable {c : Cx} {fr : Fr} {H : List Pc} {Φ : Gl}
theorem at_ESl {α : Type} {E : Elem α} {hz : 0 < E.sz} {a : Option Addr} {n cp : Nat} {xs : List (List α)} {F : List Nat} (i : Nat) (h : ∀ (hi : i < xs.length) (b o : Nat) (a1 : Option Addr) (c1 : Nat) (F1 : List Nat), a = some ⟨b, o, none⟩ → xs[i].length ≤ maxLen → T c fr (.cel b (o + i * 1) [.slice a1 xs[i].length c1] :: .sl E (.slice a1 xs[i].length c1) xs[i] F1 :: H) Φ) (hm : .sl (ESl E hz) (.slice a n cp) xs F ∈ H := by (repeat (first | exact .head _ | apply List.Mem.tail)); first | done | fail) (hi : i < xs.length := by omega) : T c fr H Φ := .mk fun ac w s g => by
  obtain ⟨b, o, cs, G, ha, hrep, hG, hb, hne, hr⟩ := sl_at (s.get hm) i hi
  obtain ⟨v1, rfl, h1⟩ := hrep
  obtain ⟨a1, c1, rfl⟩ := h1.slice; have l1 := h1.len
  have t1 := s.ro (p := .sl E (.slice a1 xs[i].length c1) xs[i] G) hm rfl rfl ⟨hz, h1⟩ (by intro b hb; simp only [Pc.F] at hb ⊢; exact hG b (by simp [hb]))
  exact (h hi b o a1 c1 G ha l1).h ac w (t1.ro (List.mem_cons_of_mem _ hm) rfl rfl ⟨hne, hr⟩ (by intro x hx; simp [Pc.F] at hx; subst hx; exact hb)) g
end
end Go.Proofs.YtccmhdheoeglmaaGreatDoor
/- Nets: which are valid; the program and the reference. -/
namespace Go.Proofs.YtccmhdheoeglmaaGreatDoor
open Go.RowKit
theorem isq1_f (p : Packet) (hs : p.data.size ≤ maxLen) : Fn Tryz.prog 169 [.agg #[.int .i64 (p).kind, .int .i64 (p).number, .int .i64 (p).trail, .int .i64 (p).lead, .string (p).data]] [] [] (fun (_ : Unit) => True) (fun _ => .bool (!goodPk p)) (fun _ => []) := by
  refine enter Tryz.func169 rfl Tryz.ntmps169 fun w0 => ?_
  refine go ?_; intros
  refine cf (IsValidPacket_f p hs) fun _ _ => ?_
  refine t_app ?_
  refine go ?_; intros
  refine ret () trivial rfl
theorem isQueue_f (l : List Packet) (a : Option Addr) (c : Nat) (F : List Nat) : Fn Tryz.prog 121 [.slice a l.length c] [.sl EPacket (.slice a l.length c) l F] [] (fun (_ : Unit) => True) (fun _ => .bool (goodQ l)) (fun _ => []) := by
  refine enter Tryz.func121 rfl Tryz.ntmps121 fun w0 => ?_
  refine t_each (E := EPacket) (fun p : Packet => p.data.size ≤ maxLen) (fun w cs x F h => by obtain ⟨_, h, _⟩ := h; exact h) ?_
  intro hz
  refine go ?_; intros
  refine wg_if rfl rfl (fun h1 => ?_) (fun h1 => ?_)
  · refine go ?_; intros
    refine cb (fun w st => (ConPk_f 169 [] [] [] rfl l a c F (fun p => !goodPk p) (by kernel_rfl) (by omega) (fun p hp w _ => (isq1_f p (hz p hp)).val w (by intro q hq; cases hq))).val w (hol1 (st.get (p := .sl EPacket (.slice a l.length c) l F) (by exact memE)))) ?_
    refine go ?_; intros
    refine ret () trivial ?_
    unfold goodQ
    rw [decide_eq_true (show l.length ≤ 6 by omega), List.not_any_eq_all_not]; simp; rfl
  · refine go ?_; intros
    refine ret () trivial ?_
    unfold goodQ
    rw [decide_eq_false (show ¬ l.length ≤ 6 by omega)]; rfl
theorem isZeroReceiver_f (r : Receiver) (v : Value) (F : List Nat) : Fn Tryz.prog 125 [v] [.isv EReceiver v r F] [] (fun (_ : Unit) => True) (fun _ => .bool (zRecv r)) (fun _ => []) := by
  have key : ∀ b : Bool, (b = (!r.started && decide (r.clock = 0) && (decide (r.window.next = 0) && decide (r.window.slots.length = 0) && decide (r.requests.length = 0)))) → b = zRecv r := fun b h => h
  refine enter Tryz.func125 rfl Tryz.ntmps125 fun w0 => ?_
  refine openReceiver ?_
  rintro a1 c1 F1 a2 c2 F2 rfl l1 l2
  unfold maxLen at l1 l2
  cases hs : r.started <;> rw [hs] at key
  · refine go ?_; intros
    refine wg_if rfl rfl (fun h1 => ?_) (fun h1 => ?_)
    · refine go ?_; intros
      refine wg_if rfl rfl (fun h2 => ?_) (fun h2 => ?_)
      · refine go ?_; intros
        refine wg_if rfl rfl (fun h3 => ?_) (fun h3 => ?_)
        · refine go ?_; intros
          refine ret () trivial ?_
          rw [← key (decide ((r.requests.length : Int) = 0)) (by simp [h1, h2, show r.window.slots.length = 0 by omega])]; rfl
        · refine go ?_; intros
          refine ret () trivial ?_
          rw [← key false (by simp [show ¬ r.window.slots = [] from fun e => h3 (by rw [e]; rfl)])]; rfl
      · refine go ?_; intros
        refine ret () trivial ?_
        rw [← key false (by simp [h2])]; rfl
    · refine go ?_; intros
      refine ret () trivial ?_
      rw [← key false (by simp [h1])]; rfl
  · refine go ?_; intros
    refine ret () trivial ?_
    rw [← key false (by simp)]; rfl
theorem irn1_f (p : Packet) : Fn Tryz.prog 123 [.agg #[.int .i64 (p).kind, .int .i64 (p).number, .int .i64 (p).trail, .int .i64 (p).lead, .string (p).data]] [] [] (fun (_ : Unit) => True) (fun _ => .bool (!decide (p.kind = 3))) (fun _ => []) := by
  refine enter Tryz.func123 rfl Tryz.ntmps123 fun w0 => ?_
  refine go ?_; intros
  refine ret () trivial ?_
  rw [← decide_not]; rfl
theorem upQ_any (l : List Packet) : (l.any fun p => !decide (p.kind = 3)) = !upQ l := by
  unfold upQ; rw [List.not_all_eq_any_not]
theorem len_z {α : Type} (l : List α) : decide ((l.length : Int) = 0) = decide (l.length = 0) := by
  by_cases h : l.length = 0
  · rw [decide_eq_true h, decide_eq_true (by omega)]
  · rw [decide_eq_false h, decide_eq_false (by omega)]
theorem rn_no {par : List Int} {clk : Int} {i : Nat} {e : Element} {r : Receiver} {d u : List Packet} (h : (goodQ d && goodQ u && upQ u) = false) : rightN par clk i e r d u = false := by unfold rightN; rw [h]; rfl
theorem rn_yes {par : List Int} {clk : Int} {i : Nat} {e : Element} {r : Receiver} {d u : List Packet} (h : (goodQ d && goodQ u && upQ u) = true) : rightN par clk i e r d u = (if i = 0 then zElem e && zRecv r && decide (d.length = 0) && decide (u.length = 0)
   else if leafT par i then zElem e && goodRec r && decide (r.clock = clk) else goodElement e && decide (e.clock = clk) && zRecv r) := by unfold rightN; rw [h, Bool.true_and]
set_option maxRecDepth 100000 in
set_option maxHeartbeats 1000000 in
theorem isRightNode_f (n : Net) (i : Nat) (v : Value) (F : List Nat) (hl : lensN n = true) (hi : i < n.tree.parent.length) : Fn Tryz.prog 76 [v, .int .i64 (i : Nat)] [.isv ENet v n F] [] (fun (_ : Unit) => True) (fun _ => .bool (atNode n i)) (fun _ => []) := by
  obtain ⟨q1, q2, q3, q4⟩ := lensN_iff.1 hl
  rw [atNode_at (by omega) (by omega) (by omega) (by omega)]
  refine enter Tryz.func76 rfl Tryz.ntmps76 fun w0 => ?_
  refine openNet ?_
  rintro a1 c1 F1 a2 c2 F2 a3 c3 F3 a4 c4 F4 a5 c5 F5 a6 c6 F6 a7 c7 F7 rfl l1 l2 l3 l4 l5 l6 l7
  unfold maxLen at l1 l2 l3 l4 l5 l6 l7
  refine closeTree n.tree ?_
  refine atElement (xs := n.elements) i ?_
  rintro hi4 b4 o4 a8 c8 F8 rfl l8
  refine closeElement n.elements[i] ?_
  refine atReceiver (xs := n.receivers) i ?_
  rintro hi5 b5 o5 a9 c9 F9 a10 c10 F10 rfl l9 l10
  refine closeReceiver n.receivers[i] ?_
  refine at_ESl (E := EPacket) (hz := by decide) (xs := n.down) i ?_
  rintro hi6 b6 o6 a11 c11 F11 rfl l11
  refine at_ESl (E := EPacket) (hz := by decide) (xs := n.up) i ?_
  rintro hi7 b7 o7 a12 c12 F12 rfl l12
  unfold maxLen at l8 l9 l10 l11 l12
  refine go ?_; intros
  refine c_joinS [1, 2, 4] [0, 1, 2, 3, 4, 5, 6, 7, 8, 9, 10, 11, 12, 13, 14, 15, 16, 17, 18, 19, 20] (fun z : Nat × Nat => [(5, ptr z.1 0 0), (6, ptr z.2 0 0)]) (fun z => [.row z.1 129 0 [] [.int .i64 n.elements[i].clock, .slice a8 n.elements[i].entries.length c8] [], .row z.2 90 0 [] [.bool n.receivers[i].started, .int .i64 n.receivers[i].clock, .int .i64 n.receivers[i].window.next, .slice a9 n.receivers[i].window.slots.length c9, .slice a10 n.receivers[i].requests.length c10] []]) (fun _ => True) ?_ fun z _ => ?_
  · refine d_start [0, 6, 10] [] ?_
    refine dt 0 ?_
    refine dt 1 ?_
    refine dt 2 ?_
    refine dt 3 ?_
    refine dt 4 ?_
    refine dt 5 ?_
    refine dt 6 ?_
    refine dt 7 ?_
    refine dt 8 ?_
    refine dt 9 ?_
    refine dO2 10 11 (by kernel_rfl) (by rw [List.getElem?_toArray]; rfl) (by rw [List.getElem?_toArray]; rfl) ?_ ?_
    · apply o_alloc; rfl; intro _
      refine dk ?_
      refine dO 11 (by kernel_rfl) (by rw [List.getElem?_toArray]; rfl) ?_
      apply o_alloc; rfl; intro _
      refine dk ?_
      refine dO 12 (by kernel_rfl) (by rw [List.getElem?_toArray]; rfl) ?_
      apply o_st; rfl; rfl; rfl; (first | exact AggC.s | exact OneC.s); rfl; exact rplE; exact putE; rfl
      refine dk ?_
      refine dO 13 (by kernel_rfl) (by rw [List.getElem?_toArray]; rfl) ?_
      apply o_st; rfl; rfl; rfl; (first | exact AggC.s | exact OneC.s); rfl; exact rplE; exact putE; rfl
      refine dk ?_
      refine dd ?_
      refine n_join ((_, _) : Nat × Nat) trivial
    · apply o_alloc; rfl; intro _
      refine dk ?_
      refine dO 10 (by kernel_rfl) (by rw [List.getElem?_toArray]; rfl) ?_
      apply o_alloc; rfl; intro _
      refine dk ?_
      refine dO 12 (by kernel_rfl) (by rw [List.getElem?_toArray]; rfl) ?_
      apply o_st; rfl; rfl; rfl; (first | exact AggC.s | exact OneC.s); rfl; exact rplE; exact putE; rfl
      refine dk ?_
      refine dO 13 (by kernel_rfl) (by rw [List.getElem?_toArray]; rfl) ?_
      apply o_st; rfl; rfl; rfl; (first | exact AggC.s | exact OneC.s); rfl; exact rplE; exact putE; rfl
      refine dk ?_
      refine dd ?_
      refine n_join ((_, _) : Nat × Nat) trivial
  refine go ?_; intros
  refine cf (isQueue_f n.down[i] _ _ F11) fun _ _ => ?_
  refine t_app ?_
  cases g1 : goodQ n.down[i]
  · rw [rn_no (by rw [g1]; rfl)]
    refine go ?_; intros
    refine ret () trivial rfl
  refine go ?_; intros
  refine cf (isQueue_f n.up[i] _ _ F12) fun _ _ => ?_
  refine t_app ?_
  cases g2 : goodQ n.up[i]
  · rw [rn_no (by rw [g1, g2]; rfl)]
    refine go ?_; intros
    refine ret () trivial rfl
  have u6 : n.up[i].length ≤ 6 := by
    unfold goodQ at g2
    simp only [Bool.and_eq_true, decide_eq_true_eq] at g2
    exact g2.1
  refine go ?_; intros
  refine cb (fun w st => (ConPk_f 123 [] [] [] rfl n.up[i] a12 c12 F12 (fun p => !decide (p.kind = 3)) (by kernel_rfl) (by omega) (fun p hp w _ => (irn1_f p).val w (by intro q hq; cases hq))).val w (hol1 (st.get (p := .sl EPacket (.slice a12 n.up[i].length c12) n.up[i] F12) (by exact memE)))) ?_
  rw [upQ_any]
  cases g3 : upQ n.up[i]
  · rw [rn_no (by rw [g1, g2, g3]; rfl)]
    refine go ?_; intros
    refine ret () trivial rfl
  rw [rn_yes (by rw [g1, g2, g3]; rfl)]
  refine go ?_; intros
  refine c_if rfl (fun h0 => ?_) (fun h0 => ?_)
  · obtain rfl : i = 0 := by omega
    rw [if_pos rfl]
    refine go ?_; intros
    refine cf (isZeroElement_f n.elements[0] _ F8) fun _ _ => ?_
    refine t_app ?_
    cases g4 : zElem n.elements[0]
    · refine go ?_; intros
      refine ret () trivial rfl
    refine go ?_; intros
    refine cf (isZeroReceiver_f n.receivers[0] _ (F9 ++ F10)) fun _ _ => ?_
    refine t_app ?_
    cases g5 : zRecv n.receivers[0]
    · refine go ?_; intros
      refine ret () trivial rfl
    refine go ?_; intros
    refine wg_if rfl rfl (fun h6 => ?_) (fun h6 => ?_)
    · refine go ?_; intros
      refine ret () trivial ?_
      rw [← len_z n.down[0], ← len_z n.up[0], decide_eq_true h6]; rfl
    · refine go ?_; intros
      refine ret () trivial ?_
      rw [← len_z n.down[0], decide_eq_false h6]; rfl
  rw [if_neg (by omega)]
  refine go ?_; intros
  refine cf (isLeaf_f n.tree i _ F1) fun _ _ => ?_
  refine t_app ?_
  cases g6 : leafT n.tree.parent i
  · rw [if_neg (by decide)]
    refine go ?_; intros
    refine cb (fun w st => IsValidElement_c _ n.elements[i] F8 w (st.get (p := .isv EElement (.agg #[.int .i64 n.elements[i].clock, .slice a8 n.elements[i].entries.length c8]) n.elements[i] F8) (by exact memE))) ?_
    cases g4 : goodElement n.elements[i]
    · refine go ?_; intros
      refine ret () trivial rfl
    refine go ?_; intros
    refine wg_if rfl rfl (fun h7 => ?_) (fun h7 => ?_)
    · refine go ?_; intros
      refine cf (isZeroReceiver_f n.receivers[i] _ (F9 ++ F10)) fun _ _ => ?_
      refine t_app ?_
      refine go ?_; intros
      refine ret () trivial ?_
      rw [decide_eq_true h7]; rfl
    · refine go ?_; intros
      refine ret () trivial ?_
      rw [decide_eq_false h7]; rfl
  · rw [if_pos rfl]
    refine go ?_; intros
    refine cf (isZeroElement_f n.elements[i] _ F8) fun _ _ => ?_
    refine t_app ?_
    cases g4 : zElem n.elements[i]
    · refine go ?_; intros
      refine ret () trivial rfl
    refine go ?_; intros
    refine cf (IsValidReceiver_f n.receivers[i] _ (F9 ++ F10)) fun _ _ => ?_
    refine t_app ?_
    cases g5 : goodRec n.receivers[i]
    · refine go ?_; intros
      refine ret () trivial rfl
    refine go ?_; intros
    refine ret () trivial rfl
set_option maxRecDepth 100000 in
set_option maxHeartbeats 1000000 in
theorem IsValidNet_f (n : Net) (v : Value) (F : List Nat) : Fn Tryz.prog 36 [v] [.isv ENet v n F] [] (fun (_ : Unit) => True) (fun _ => .bool (goodNet n)) (fun _ => []) := by
  refine enter Tryz.func36 rfl Tryz.ntmps36 fun w0 => ?_
  refine openNet ?_
  rintro a1 c1 F1 a2 c2 F2 a3 c3 F3 a4 c4 F4 a5 c5 F5 a6 c6 F6 a7 c7 F7 rfl l1 l2 l3 l4 l5 l6 l7
  unfold maxLen at l1 l2 l3 l4 l5 l6 l7
  refine closeTree n.tree ?_
  refine closeSource n.source ?_
  refine go ?_; intros
  refine cf (IsValidTree_f n.tree _ F1) fun _ _ => ?_
  refine t_app ?_
  cases g1 : goodTree n.tree
  · rw [show goodNet n = false by unfold goodNet; rw [g1]; rfl]
    refine go ?_; intros
    refine ret () trivial rfl
  refine go ?_; intros
  refine cf (IsValidSource_f n.source _ (F2 ++ F3)) fun _ _ => ?_
  refine t_app ?_
  cases g2 : goodSrc n.source
  · rw [show goodNet n = false by unfold goodNet; rw [g1, g2]; rfl]
    refine go ?_; intros
    refine ret () trivial rfl
  refine go ?_; intros
  refine wg_if rfl rfl (fun m0 => ?_) (fun m0 => ?_)
  · rw [show goodNet n = false by
      have : lensN n = false := by
        cases hl : lensN n
        · rfl
        · obtain ⟨q1, q2, q3, q4⟩ := lensN_iff.1 hl; exact absurd (by omega) m0
      unfold goodNet; rw [this]; simp]
    refine go ?_; intros
    refine ret () trivial rfl
  refine go ?_; intros
  refine wg_if rfl rfl (fun m1 => ?_) (fun m1 => ?_)
  · rw [show goodNet n = false by
      have : lensN n = false := by
        cases hl : lensN n
        · rfl
        · obtain ⟨q1, q2, q3, q4⟩ := lensN_iff.1 hl; exact absurd (by omega) m1
      unfold goodNet; rw [this]; simp]
    refine go ?_; intros
    refine ret () trivial rfl
  refine go ?_; intros
  refine wg_if rfl rfl (fun m2 => ?_) (fun m2 => ?_)
  · rw [show goodNet n = false by
      have : lensN n = false := by
        cases hl : lensN n
        · rfl
        · obtain ⟨q1, q2, q3, q4⟩ := lensN_iff.1 hl; exact absurd (by omega) m2
      unfold goodNet; rw [this]; simp]
    refine go ?_; intros
    refine ret () trivial rfl
  refine go ?_; intros
  refine c_if rfl (fun m3 => ?_) (fun m3 => ?_)
  · rw [show goodNet n = false by
      have : lensN n = false := by
        cases hl : lensN n
        · rfl
        · obtain ⟨q1, q2, q3, q4⟩ := lensN_iff.1 hl; exact absurd (by omega) m3
      unfold goodNet; rw [this]; simp]
    refine go ?_; intros
    refine ret () trivial rfl
  have q1 : n.elements.length = n.tree.parent.length := by omega
  have q2 : n.receivers.length = n.tree.parent.length := by omega
  have q3 : n.down.length = n.tree.parent.length := by omega
  have q4 : n.up.length = n.tree.parent.length := by omega
  have hl := lensN_iff.2 ⟨q1, q2, q3, q4⟩
  refine go ?_; intros
  refine c_loopR [1, 2, 47] (fun k : Nat => [(48, .int .i64 (k : Nat))]) (fun k => k ≤ n.tree.parent.length ∧ ∀ j, j < k → atNode n j = true) (fun k => n.tree.parent.length - k) 0 ⟨Nat.zero_le _, fun j h => by omega⟩ fun k hk => ?_
  obtain ⟨hk1, hk2⟩ := hk
  refine go ?_; intros
  refine c_if rfl (fun h1 => ?_) (fun h1 => ?_)
  · have hh : k < n.tree.parent.length := by omega
    refine go ?_; intros
    refine cf (isRightNode_f n k _ F hl hh) fun _ _ => ?_
    refine t_app ?_
    cases g : atNode n k
    · rw [goodNet_at hh g]
      refine go ?_; intros
      refine ret () trivial rfl
    refine go ?_; intros
    refine n_lp (k + 1) ⟨hh, fun j hj => ?_⟩ (by show n.tree.parent.length - (k + 1) < n.tree.parent.length - k; omega)
    rcases Nat.lt_or_eq_of_le (Nat.lt_succ_iff.1 hj) with h | rfl
    · exact hk2 j h
    · exact g
  · obtain rfl : k = n.tree.parent.length := by omega
    refine go ?_; intros
    refine ret () trivial ?_
    rw [goodNet_iff.2 ⟨g1, g2, hl, hk2⟩]; rfl
theorem rs_no {par : List Int} {clk : Int} {i : Nat} {e : Element} {r : Receiver} {d u : List Packet} (h : (goodElement e && goodRec r && goodQ d && (goodQ u && upQ u)) = false) : rightN par clk i e r d u = false := by rw [← rightS_eq]; unfold rightS; rw [h]; rfl
theorem rs_yes {par : List Int} {clk : Int} {i : Nat} {e : Element} {r : Receiver} {d u : List Packet} (h : (goodElement e && goodRec r && goodQ d && (goodQ u && upQ u)) = true) : rightN par clk i e r d u = (if i = 0 then zElem e && (!r.started && decide (r.clock = 0)) && decide (d.length + u.length = 0)
   else if leafT par i then zElem e && decide (r.clock = clk) else (!r.started && decide (r.clock = 0)) && decide (e.clock = clk)) := by rw [← rightS_eq]; unfold rightS; rw [h, Bool.true_and]
set_option maxRecDepth 100000 in
set_option maxHeartbeats 2000000 in
theorem l15At_f (n : Net) (i : Nat) (v : Value) (F : List Nat) (hl : lensN n = true) (hi : i < n.tree.parent.length) (hg : GoodT n.tree.parent) : Fn Tryz.prog 109 [v, .int .i64 (i : Nat)] [.isv ENet v n F] [] (fun (_ : Unit) => True) (fun _ => .bool (atNode n i)) (fun _ => []) := by
  obtain ⟨q1, q2, q3, q4⟩ := lensN_iff.1 hl
  rw [atNode_at (by omega) (by omega) (by omega) (by omega)]
  refine enter Tryz.func109 rfl Tryz.ntmps109 fun w0 => ?_
  refine openNet ?_
  rintro a1 c1 F1 a2 c2 F2 a3 c3 F3 a4 c4 F4 a5 c5 F5 a6 c6 F6 a7 c7 F7 rfl l1 l2 l3 l4 l5 l6 l7
  unfold maxLen at l1 l2 l3 l4 l5 l6 l7
  refine closeTree n.tree ?_
  refine atElement (xs := n.elements) i ?_
  rintro hi4 b4 o4 a8 c8 F8 rfl l8
  refine closeElement n.elements[i] ?_
  refine atReceiver (xs := n.receivers) i ?_
  rintro hi5 b5 o5 a9 c9 F9 a10 c10 F10 rfl l9 l10
  refine closeReceiver n.receivers[i] ?_
  refine at_ESl (E := EPacket) (hz := by decide) (xs := n.down) i ?_
  rintro hi6 b6 o6 a11 c11 F11 rfl l11
  refine at_ESl (E := EPacket) (hz := by decide) (xs := n.up) i ?_
  rintro hi7 b7 o7 a12 c12 F12 rfl l12
  unfold maxLen at l8 l9 l10 l11 l12
  refine go ?_; intros
  refine c_joinS [1, 2, 4] [0, 1, 2, 3, 4, 5, 6, 7, 8, 9, 10, 11, 12, 13, 14, 15, 16, 17, 18, 19, 20] (fun z : Nat × Nat => [(5, ptr z.1 0 0), (6, ptr z.2 0 0)]) (fun z => [.row z.1 129 0 [] [.int .i64 n.elements[i].clock, .slice a8 n.elements[i].entries.length c8] [], .row z.2 90 0 [] [.bool n.receivers[i].started, .int .i64 n.receivers[i].clock, .int .i64 n.receivers[i].window.next, .slice a9 n.receivers[i].window.slots.length c9, .slice a10 n.receivers[i].requests.length c10] []]) (fun _ => True) ?_ fun z _ => ?_
  · refine d_start [0, 6, 10] [] ?_
    refine dt 0 ?_
    refine dt 1 ?_
    refine dt 2 ?_
    refine dt 3 ?_
    refine dt 4 ?_
    refine dt 5 ?_
    refine dt 6 ?_
    refine dt 7 ?_
    refine dt 8 ?_
    refine dt 9 ?_
    refine dO2 10 11 (by kernel_rfl) (by rw [List.getElem?_toArray]; rfl) (by rw [List.getElem?_toArray]; rfl) ?_ ?_
    · apply o_alloc; rfl; intro _
      refine dk ?_
      refine dO 11 (by kernel_rfl) (by rw [List.getElem?_toArray]; rfl) ?_
      apply o_alloc; rfl; intro _
      refine dk ?_
      refine dO 12 (by kernel_rfl) (by rw [List.getElem?_toArray]; rfl) ?_
      apply o_st; rfl; rfl; rfl; (first | exact AggC.s | exact OneC.s); rfl; exact rplE; exact putE; rfl
      refine dk ?_
      refine dO 13 (by kernel_rfl) (by rw [List.getElem?_toArray]; rfl) ?_
      apply o_st; rfl; rfl; rfl; (first | exact AggC.s | exact OneC.s); rfl; exact rplE; exact putE; rfl
      refine dk ?_
      refine dd ?_
      refine n_join ((_, _) : Nat × Nat) trivial
    · apply o_alloc; rfl; intro _
      refine dk ?_
      refine dO 10 (by kernel_rfl) (by rw [List.getElem?_toArray]; rfl) ?_
      apply o_alloc; rfl; intro _
      refine dk ?_
      refine dO 12 (by kernel_rfl) (by rw [List.getElem?_toArray]; rfl) ?_
      apply o_st; rfl; rfl; rfl; (first | exact AggC.s | exact OneC.s); rfl; exact rplE; exact putE; rfl
      refine dk ?_
      refine dO 13 (by kernel_rfl) (by rw [List.getElem?_toArray]; rfl) ?_
      apply o_st; rfl; rfl; rfl; (first | exact AggC.s | exact OneC.s); rfl; exact rplE; exact putE; rfl
      refine dk ?_
      refine dd ?_
      refine n_join ((_, _) : Nat × Nat) trivial
  refine go ?_; intros
  refine cb (fun w st => l14Good_c _ n.elements[i] F8 w (st.get (p := .isv EElement (.agg #[.int .i64 n.elements[i].clock, .slice a8 n.elements[i].entries.length c8]) n.elements[i] F8) (by exact memE))) ?_
  cases g1 : goodElement n.elements[i]
  · rw [rs_no (by rw [g1]; rfl)]
    refine go ?_; intros
    refine ret () trivial rfl
  refine go ?_; intros
  refine cf (l13Good_f n.receivers[i] _ (F9 ++ F10)) fun _ _ => ?_
  refine t_app ?_
  cases g2 : goodRec n.receivers[i]
  · rw [rs_no (by rw [g1, g2]; rfl)]
    refine go ?_; intros
    refine ret () trivial rfl
  refine go ?_; intros
  refine cf (l15Queue_f n.down[i] false _ _ F11 (by omega)) fun _ _ => ?_
  refine t_app ?_
  rw [show (goodQ n.down[i] && (!false || upQ n.down[i])) = goodQ n.down[i] by simp]
  cases g3 : goodQ n.down[i]
  · rw [rs_no (by rw [g1, g2, g3]; rfl)]
    refine go ?_; intros
    refine ret () trivial rfl
  refine go ?_; intros
  refine cf (l15Queue_f n.up[i] true _ _ F12 (by omega)) fun _ _ => ?_
  refine t_app ?_
  rw [show (goodQ n.up[i] && (!true || upQ n.up[i])) = (goodQ n.up[i] && upQ n.up[i]) by simp]
  cases g4 : (goodQ n.up[i] && upQ n.up[i])
  · rw [rs_no (by rw [g1, g2, g3, g4]; rfl)]
    refine go ?_; intros
    refine ret () trivial rfl
  rw [rs_yes (by rw [g1, g2, g3, g4]; rfl)]
  repeat (first | apply c_seq | (apply wO; apply oc; rfl; exact ydE) | apply w_nil | apply n_cd | (apply wg_t; rfl; rfl) | (apply wg_f; rfl; rfl; rfl; rfl) | (apply wg_u; rfl; rfl; rfl) | (apply c_t; rfl) | (apply c_f; rfl) | apply c_skip | apply c_block | apply n_blk)
  refine c_joinS [1, 2, 4, 5, 6] [0, 1, 2, 3, 4, 5, 6, 7, 8, 9, 10, 11, 12, 13, 14, 15, 16, 17, 18, 19, 20, 21, 22] (fun _ : Unit => [(7, .bool (zElem n.elements[i]))]) (fun _ => []) (fun _ => True) ?_ fun _ _ => ?_
  · refine go ?_; intros
    refine wg_if rfl rfl (fun h1 => ?_) (fun h1 => ?_)
    · refine go ?_; intros
      rw [show decide ((n.elements[i].entries.length : Int) = 0) = zElem n.elements[i] by unfold zElem; rw [decide_eq_true h1, len_z]; rfl]
      refine n_join () trivial
    · refine go ?_; intros
      rw [show false = zElem n.elements[i] by unfold zElem; rw [decide_eq_false h1]; rfl]
      refine n_join () trivial
  repeat (first | apply c_seq | (apply wO; apply oc; rfl; exact ydE) | apply w_nil | apply n_cd | (apply wg_t; rfl; rfl) | (apply wg_f; rfl; rfl; rfl; rfl) | (apply wg_u; rfl; rfl; rfl) | (apply c_t; rfl) | (apply c_f; rfl) | apply c_skip | apply c_block | apply n_blk)
  refine c_joinS [1, 2, 4, 5, 6, 7] [0, 1, 2, 3, 4, 5, 6, 7, 8, 9, 10, 11, 12, 13, 14, 15, 16, 17, 18, 19, 20, 21, 22] (fun _ : Unit => [(8, .bool (!n.receivers[i].started && decide (n.receivers[i].clock = 0)))]) (fun _ => []) (fun _ => True) ?_ fun _ _ => ?_
  · cases hs : n.receivers[i].started
    · refine go ?_; intros
      refine n_join () trivial
    · refine go ?_; intros
      refine n_join () trivial
  refine t_app ?_
  generalize hzr : (!n.receivers[i].started && decide (n.receivers[i].clock = 0)) = zr
  refine go ?_; intros
  refine c_if rfl (fun h0 => ?_) (fun h0 => ?_)
  · obtain rfl : i = 0 := by omega
    rw [if_pos rfl]
    have hd6 : (n.down[0].length : Int) + (n.up[0].length : Int) ≤ 12 := by
      unfold goodQ at g3 g4
      simp only [Bool.and_eq_true, decide_eq_true_eq] at g3 g4
      omega
    cases hze : zElem n.elements[0] <;> cases zr
    · refine go ?_; intros
      refine d_start [2, 3, 5] [] ?_
      refine dt 0 ?_
      refine dt 1 ?_
      refine ds 2 ?_
      refine dt 3 ?_
      refine dt 4 ?_
      refine ds 5 ?_
      refine ds 6 ?_
      refine ds 7 ?_
      refine ds 8 ?_
      refine ds 9 ?_
      refine ds 10 ?_
      refine ds 11 ?_
      refine ds 12 ?_
      refine ds 13 ?_
      refine ds 14 ?_
      refine ds 15 ?_
      refine ds 16 ?_
      refine dt 17 ?_
      refine dt 18 ?_
      refine dd ?_
      refine go ?_; intros
      refine ret () trivial rfl
    · refine go ?_; intros
      refine d_start [2, 3, 5] [] ?_
      refine dt 0 ?_
      refine dt 1 ?_
      refine ds 2 ?_
      refine dt 3 ?_
      refine dt 4 ?_
      refine ds 5 ?_
      refine ds 6 ?_
      refine ds 7 ?_
      refine ds 8 ?_
      refine ds 9 ?_
      refine ds 10 ?_
      refine ds 11 ?_
      refine ds 12 ?_
      refine ds 13 ?_
      refine ds 14 ?_
      refine ds 15 ?_
      refine ds 16 ?_
      refine dt 17 ?_
      refine dt 18 ?_
      refine dd ?_
      refine go ?_; intros
      refine ret () trivial rfl
    · refine go ?_; intros
      refine d_start [2, 3, 5] [] ?_
      refine dt 0 ?_
      refine dt 1 ?_
      refine dtg 2 ?_
      refine dt 3 ?_
      refine dt 4 ?_
      refine ds 5 ?_
      refine ds 6 ?_
      refine ds 7 ?_
      refine ds 8 ?_
      refine ds 9 ?_
      refine ds 10 ?_
      refine ds 11 ?_
      refine ds 12 ?_
      refine ds 13 ?_
      refine ds 14 ?_
      refine ds 15 ?_
      refine ds 16 ?_
      refine dt 17 ?_
      refine dt 18 ?_
      refine dd ?_
      refine go ?_; intros
      refine ret () trivial rfl
    · refine go ?_; intros
      refine d_start [2, 3, 5] [] ?_
      refine dt 0 ?_
      refine dt 1 ?_
      refine dtg 2 ?_
      refine dt 3 ?_
      refine dt 4 ?_
      refine dtg 5 ?_
      refine dtg 6 ?_
      refine dtg 7 ?_
      refine dtg 8 ?_
      refine dtg 9 ?_
      refine dtg 10 ?_
      refine dtg 11 ?_
      refine dtg 12 ?_
      refine dtg 13 ?_
      refine dtg 14 ?_
      refine dtg 15 ?_
      refine dtg 16 ?_
      refine dt 17 ?_
      refine dt 18 ?_
      refine dd ?_
      refine go ?_; intros
      refine ret () trivial ?_
      rw [show decide ((n.down[0].length : Int) + (n.up[0].length : Int) = 0) = decide (n.down[0].length + n.up[0].length = 0) by congr 1; rw [eq_iff_iff]; omega]; rfl
  rw [if_neg (by omega)]
  refine go ?_; intros
  refine cf (l15Leaf_f n.tree i _ F1 hg (by omega)) fun _ _ => ?_
  refine t_app ?_
  cases g6 : leafT n.tree.parent i
  · rw [if_neg (by decide)]
    cases zr
    · refine go ?_; intros
      refine ret () trivial rfl
    · refine go ?_; intros
      refine ret () trivial rfl
  · rw [if_pos rfl]
    cases hze : zElem n.elements[i]
    · refine go ?_; intros
      refine ret () trivial rfl
    · refine go ?_; intros
      refine ret () trivial rfl
set_option maxRecDepth 100000 in
set_option maxHeartbeats 1000000 in
theorem l15Good_f (n : Net) (v : Value) (F : List Nat) : Fn Tryz.prog 69 [v] [.isv ENet v n F] [] (fun (_ : Unit) => True) (fun _ => .bool (goodNet n)) (fun _ => []) := by
  refine enter Tryz.func69 rfl Tryz.ntmps69 fun w0 => ?_
  refine openNet ?_
  rintro a1 c1 F1 a2 c2 F2 a3 c3 F3 a4 c4 F4 a5 c5 F5 a6 c6 F6 a7 c7 F7 rfl l1 l2 l3 l4 l5 l6 l7
  unfold maxLen at l1 l2 l3 l4 l5 l6 l7
  refine closeTree n.tree ?_
  refine closeSource n.source ?_
  refine go ?_; intros
  refine cf (l6Good_f n.tree _ F1) fun _ _ => ?_
  refine t_app ?_
  cases g1 : goodTree n.tree
  · rw [show goodNet n = false by unfold goodNet; rw [g1]; rfl]
    refine go ?_; intros
    refine ret () trivial rfl
  refine go ?_; intros
  refine cf (l11Good_f n.source _ (F2 ++ F3)) fun _ _ => ?_
  refine t_app ?_
  cases g2 : goodSrc n.source
  · rw [show goodNet n = false by unfold goodNet; rw [g1, g2]; rfl]
    refine go ?_; intros
    refine ret () trivial rfl
  refine go ?_; intros
  refine wg_if rfl rfl (fun m0 => ?_) (fun m0 => ?_)
  · rw [show goodNet n = false by
      have : lensN n = false := by
        cases hl : lensN n
        · rfl
        · obtain ⟨q1, q2, q3, q4⟩ := lensN_iff.1 hl; exact absurd (by omega) m0
      unfold goodNet; rw [this]; simp]
    refine go ?_; intros
    refine ret () trivial rfl
  refine go ?_; intros
  refine wg_if rfl rfl (fun m1 => ?_) (fun m1 => ?_)
  · rw [show goodNet n = false by
      have : lensN n = false := by
        cases hl : lensN n
        · rfl
        · obtain ⟨q1, q2, q3, q4⟩ := lensN_iff.1 hl; exact absurd (by omega) m1
      unfold goodNet; rw [this]; simp]
    refine go ?_; intros
    refine ret () trivial rfl
  refine go ?_; intros
  refine wg_if rfl rfl (fun m2 => ?_) (fun m2 => ?_)
  · rw [show goodNet n = false by
      have : lensN n = false := by
        cases hl : lensN n
        · rfl
        · obtain ⟨q1, q2, q3, q4⟩ := lensN_iff.1 hl; exact absurd (by omega) m2
      unfold goodNet; rw [this]; simp]
    refine go ?_; intros
    refine ret () trivial rfl
  refine go ?_; intros
  refine c_if rfl (fun m3 => ?_) (fun m3 => ?_)
  · rw [show goodNet n = false by
      have : lensN n = false := by
        cases hl : lensN n
        · rfl
        · obtain ⟨q1, q2, q3, q4⟩ := lensN_iff.1 hl; exact absurd (by omega) m3
      unfold goodNet; rw [this]; simp]
    refine go ?_; intros
    refine ret () trivial rfl
  have q1 : n.elements.length = n.tree.parent.length := by omega
  have q2 : n.receivers.length = n.tree.parent.length := by omega
  have q3 : n.down.length = n.tree.parent.length := by omega
  have q4 : n.up.length = n.tree.parent.length := by omega
  have hl := lensN_iff.2 ⟨q1, q2, q3, q4⟩
  refine go ?_; intros
  refine c_loopR [1, 2, 3] (fun k : Nat => [(4, .int .i64 (k : Nat))]) (fun k => k ≤ n.tree.parent.length ∧ ∀ j, j < k → atNode n j = true) (fun k => n.tree.parent.length - k) 0 ⟨Nat.zero_le _, fun j h => by omega⟩ fun k hk => ?_
  obtain ⟨hk1, hk2⟩ := hk
  refine go ?_; intros
  refine c_if rfl (fun h1 => ?_) (fun h1 => ?_)
  · have hh : k < n.tree.parent.length := by omega
    refine go ?_; intros
    refine cf (l15At_f n k _ F hl hh (goodT g1)) fun _ _ => ?_
    refine t_app ?_
    cases g : atNode n k
    · rw [goodNet_at hh g]
      refine go ?_; intros
      refine ret () trivial rfl
    refine go ?_; intros
    refine n_lp (k + 1) ⟨hh, fun j hj => ?_⟩ (by show n.tree.parent.length - (k + 1) < n.tree.parent.length - k; omega)
    rcases Nat.lt_or_eq_of_le (Nat.lt_succ_iff.1 hj) with h | rfl
    · exact hk2 j h
    · exact g
  · obtain rfl : k = n.tree.parent.length := by omega
    refine go ?_; intros
    refine ret () trivial ?_
    rw [goodNet_iff.2 ⟨g1, g2, hl, hk2⟩]; rfl
end Go.Proofs.YtccmhdheoeglmaaGreatDoor
/- Walks of the functions on a log's record: IsValidRecord, l27Good. -/
namespace Go.Proofs.YtccmhdheoeglmaaGreatDoor.Lg
open Go.RowKit

theorem indexByte_stands (c : UInt8) : ∀ l : List UInt8, decide (0 ≤ Lib.indexByte l c) = stands c l := by
  intro l
  have h1 : ∀ l : List UInt8, -1 ≤ Lib.indexByte l c := by
    intro l
    induction l with
    | nil => simp [Lib.indexByte]
    | cons b l ih => simp only [Lib.indexByte]; split <;> (try split) <;> omega
  have h2 : ∀ l : List UInt8, (0 ≤ Lib.indexByte l c) ↔ stands c l = true := by
    intro l
    induction l with
    | nil => simp [Lib.indexByte, stands]
    | cons b l ih =>
      have h2 := h1 l
      rw [show stands c (b :: l) = (b == c || stands c l) from rfl, Bool.or_eq_true, ← ih]
      simp only [Lib.indexByte]
      by_cases hb : (b == c) = true
      · simp [hb]
      · rw [if_neg hb]
        simp only [hb]
        split
        · rename_i h3; simp at h3; simp [h3]
        · rename_i h3; simp at h3; omega
  rw [Bool.eq_iff_iff, decide_eq_true_iff]
  exact h2 l
theorem contains_c (s : ByteArray) (c : UInt8) (w : World) : Calls Tryz.prog 219 #[.string s, .string ⟨#[c]⟩] w fun e w' => e = .returned (.bool (stands c s.data.toList)) ∧ w = w' :=
  (Tryz.strings_Contains_one s c w).mono fun _ _ ⟨he, hw⟩ => ⟨by rw [he, indexByte_stands], hw.symm⟩

/-- a record that may stand in a log -/
def goodRec (c r : ByteArray) : Bool := btw 1 c.size 160 && decide ((r.size : Int) ≤ 200) && logText c.data.toList && logText r.data.toList && !stands 64 c.data.toList

set_option maxHeartbeats 400000 in
theorem IsValidRecord_c (c r : ByteArray) (w : World) (hc : c.size ≤ maxLen) (hr : r.size ≤ maxLen) :
    Calls Tryz.prog 183 #[.agg #[.string c, .string r]] w fun e w' => e = .returned (.bool (goodRec c r)) ∧ Below w.heap.size w w' := by
  go_enter Tryz.func183, Tryz.ntmps183
  go_wp2_with (first
   | (go_at_call 85; refine (within_c _ _ _ _).mono ?_; rintro e w' ⟨rfl, rfl⟩)
   | (go_at_call 218; refine (isLogText_c _ _ (by assumption)).mono ?_; rintro e w' ⟨rfl, rfl⟩)
   | (go_at_call 219; refine (contains_c _ _ _).mono ?_; rintro e w' ⟨rfl, rfl⟩))
  all_goals go_ret
  all_goals refine ⟨ret_bool ?_, (Below.refl _ _).alloc (Nat.le_refl _) _⟩
  all_goals simp [goodRec, *]
  all_goals omega

theorem goodRec_eq (c r : ByteArray) : goodRec c r = (!c.data.toList.isEmpty && (logText c.data.toList && decide ((c.size : Int) ≤ 160)) && !stands 64 c.data.toList && (logText r.data.toList && decide ((r.size : Int) ≤ 200))) := by
  have h0 : (!c.data.toList.isEmpty) = decide ((1 : Int) ≤ c.size) := by
    have e : c.data.toList.length = c.size := by simp
    cases h : c.data.toList with
    | nil => rw [h] at e; simp at e; simp [← e]
    | cons b l => rw [h] at e; simp at e; simp; omega
  rw [h0, goodRec, btw]
  cases decide ((1 : Int) ≤ c.size) <;> cases decide ((c.size : Int) ≤ 160) <;> cases decide ((r.size : Int) ≤ 200) <;> cases logText c.data.toList <;> cases logText r.data.toList <;> simp
theorem l27Good_c (c r : ByteArray) (w : World) (hc : c.size ≤ maxLen) (hr : r.size ≤ maxLen) :
    Calls Tryz.prog 202 #[.agg #[.string c, .string r]] w fun e w' => e = .returned (.bool (goodRec c r)) ∧ Below w.heap.size w w' := by
  go_enter Tryz.func202, Tryz.ntmps202
  go_wp2_with (first
   | (go_at_call 232; refine (l27Plain_c _ _ _ (by assumption)).mono ?_; rintro e w' ⟨rfl, rfl⟩)
   | (go_at_call 233; refine (l1Stands_c _ 64 _ (by assumption)).mono ?_; rintro e w' ⟨rfl, rfl⟩))
  all_goals go_ret
  all_goals refine ⟨ret_bool ?_, (Below.refl _ _).alloc (Nat.le_refl _) _⟩
  all_goals simp only [ByteArray.toList_eq] at *
  all_goals rw [goodRec_eq]
  · have h : c.data.toList = [] := by assumption
    simp [h]
  · have h : stands 64 c.data.toList = true := by assumption
    simp [h]
  · have h1 : ¬ c.data.toList = [] := by assumption
    have h2 : logText c.data.toList = true ∧ (c.size : Int) ≤ 160 := by assumption
    have h3 : ¬ stands 64 c.data.toList = true := by assumption
    simp [h2, h3, -List.isEmpty_iff, List.isEmpty_eq_false_iff.2 h1]
  · have h2 : ¬ (logText c.data.toList = true ∧ (c.size : Int) ≤ 160) := by assumption
    have h3 : (logText c.data.toList && decide ((c.size : Int) ≤ 160)) = false := by
      rw [Bool.eq_false_iff]; intro h; simp only [Bool.and_eq_true, decide_eq_true_iff] at h; exact h2 h
    rw [h3]; simp
end Go.Proofs.YtccmhdheoeglmaaGreatDoor.Lg
/- Walks of the functions on strings that the log uses: sums, numbers, cuts, sealed lines. -/
namespace Go.Proofs.YtccmhdheoeglmaaGreatDoor.Lg
open Go.RowKit
def bs (l : Bs) : ByteArray := ⟨l.toArray⟩
theorem bs_list (l : Bs) : (bs l).data.toList = l := by simp [bs]
theorem bs_of (s : ByteArray) : bs s.data.toList = s := by simp [bs]
theorem bs_size (l : Bs) : (bs l).size = l.length := by simp [bs, ByteArray.size]
theorem size_list (s : ByteArray) : s.data.toList.length = s.size := by simp
theorem bs_app (a b : Bs) : bs a ++ bs b = bs (a ++ b) := by apply ByteArray.ext; simp [bs, ByteArray.data_append]
theorem app_list (s t : ByteArray) : (s ++ t).data.toList = s.data.toList ++ t.data.toList := by simp [ByteArray.data_append]
theorem app_bs (s t : ByteArray) : s ++ t = bs (s.data.toList ++ t.data.toList) := by rw [← app_list, bs_of]
theorem ret_str {a b : ByteArray} (h : a = b) : Ending.returned (.string a) = .returned (.string b) := by rw [h]


/-- the library's table of powers lies where it lay -/
def ETab : Elem Unit where
  sz := 0
  rep w cs _ F := cs = [] ∧ Lib.TabIs Tryz.prog w "internal/strconv.uint64pow10" .u64 Lib.pow10Tab ∧ F = [0] ∧ 0 < w.heap.size
  len h := by simp [h.1]
  lt h := by intro b hb; rw [h.2.2.1] at hb; simp at hb; rw [hb]; exact h.2.2.2
  frame h hF := by
    obtain ⟨h1, h2, rfl, h4⟩ := h
    have e := hF 0 (by simp)
    refine ⟨h1, ?_, rfl, ?_⟩
    · unfold Lib.TabIs World.var? at h2 ⊢
      rw [show Tryz.prog.globalNamed "internal/strconv.uint64pow10" = some 0 by kernel_rfl] at h2 ⊢
      simp only [Option.bind_some] at h2 ⊢
      rw [e]; exact h2
    · rw [Array.getElem?_eq_getElem h4] at e
      exact (Array.getElem?_eq_some_iff.1 e).1
theorem ETab.tab {w : World} {F : List Nat} (h : IsV ETab w (.agg #[]) () F) : Lib.TabIs Tryz.prog w "internal/strconv.uint64pow10" .u64 Lib.pow10Tab := by
  obtain ⟨cs, _, h⟩ := h; exact h.2.1
theorem below_grow (w : World) (k : Nat) (os : Array Obj) : Below w.heap.size w (Go.Sort.grow (w.drewN k) os) := by
  refine ⟨rfl, rfl, rfl, ?_, fun i hi => ?_⟩
  · simp [Go.Sort.grow, World.drewN]
  · simp [Go.Sort.grow, World.drewN, Array.getElem?_append_left hi]
theorem Itoa_c (n : Nat) (hn : n ≤ 9223372036854775807) (F : List Nat) (w : World) (hT : IsV ETab w (.agg #[]) () F) :
    Calls Tryz.prog 43 #[.int .i64 (n : Int)] w fun e w' => e = .returned (.string (bs (Lib.decDigits n))) ∧ Below w.heap.size w w' := by
  refine (Tryz.strconv_Itoa (n : Int) (by omega) (by omega) w (ETab.tab hT)).mono ?_
  rintro e w' ⟨rfl, k, os, rfl⟩
  refine ⟨ret_str ?_, below_grow w k os⟩
  unfold bs; rw [show Lib.itoa (n : Int) = Lib.decDigits n from by unfold Lib.itoa; rw [if_neg (by omega)]; simp]
theorem sumL_cast (l : Bs) (c : UInt8) : ((sumL (l ++ [c]) : Nat) : Int) = (41 * (sumL l : Int) + (c.toNat : Int) + 1) % 999979 := by
  rw [sumL_snoc]; unfold sumStep; omega
set_option maxHeartbeats 400000 in
theorem checksum_c (s : ByteArray) (w : World) (hs : s.size ≤ maxLen) :
    Calls Tryz.prog 244 #[.string s] w fun e w' => e = .returned (.int .i64 (sumL s.data.toList)) ∧ w = w' := by
  unfold maxLen at hs
  go_enter Tryz.func244, Tryz.ntmps244
  go_wp2
  go_loop [3, 7] (fun h i => ∃ k : Nat, k ≤ s.size ∧ i = .int .i64 k ∧ h = .int .i64 (sumL (s.data.toList.take k))) (fun _ i => s.size - (intOf i).toNat)
  case atStart => exact ⟨0, Nat.zero_le _, rfl, rfl⟩
  case round =>
    obtain ⟨k, hk, rfl, rfl⟩ := hrel
    by_cases hlt : k < s.size
    · have hb : (s[k].toNat : Int) ≤ 255 := by have := s[k].toNat_lt; omega
      have hS := Lib.hid (sumL_cast (s.data.toList.take k) s[k])
      rw [← take_snoc s k hlt] at hS
      have hl := sumL_lt (s.data.toList.take k)
      generalize sumL (s.data.toList.take k) = n at *
      go_wp2
      go_round
      case rel => exact ⟨k + 1, by omega, by go_num, by rw [hS.out]⟩
      case measure => simp [intOf]; omega
    · go_wp2
      go_ret
      exact ⟨ret_int (by rw [take_all s k hlt]), rfl⟩
set_option maxHeartbeats 400000 in
theorem l1Sum_c (s : ByteArray) (w : World) (hs : s.size ≤ maxLen) :
    Calls Tryz.prog 247 #[.string s] w fun e w' => e = .returned (.int .i64 (sumL s.data.toList)) ∧ w = w' := by
  unfold maxLen at hs
  go_enter Tryz.func247, Tryz.ntmps247
  go_wp2
  go_loop [3, 4] (fun h i => ∃ k : Nat, k ≤ s.size ∧ i = .int .i64 k ∧ h = .int .i64 (sumL (s.data.toList.take k))) (fun _ i => s.size - (intOf i).toNat)
  case atStart => exact ⟨0, Nat.zero_le _, rfl, rfl⟩
  case round =>
    obtain ⟨k, hk, rfl, rfl⟩ := hrel
    by_cases hlt : k < s.size
    · have hb : (s[k].toNat : Int) ≤ 255 := by have := s[k].toNat_lt; omega
      have hS := Lib.hid (sumL_cast (s.data.toList.take k) s[k])
      rw [← take_snoc s k hlt] at hS
      have hl := sumL_lt (s.data.toList.take k)
      generalize sumL (s.data.toList.take k) = n at *
      go_wp2
      go_round
      case rel => exact ⟨k + 1, by omega, by go_num, by rw [hS.out]⟩
      case measure => simp [intOf]; omega
    · go_wp2
      go_ret
      exact ⟨ret_int (by rw [take_all s k hlt]), rfl⟩
theorem dig_small : ∀ n : Nat, n < 10 → (⟨#[48, 49, 50, 51, 52, 53, 54, 55, 56, 57]⟩ : ByteArray).extract n (n + 1) = ⟨#[UInt8.ofNat (48 + n)]⟩ := by decide
set_option maxHeartbeats 400000 in
set_option maxRecDepth 100000 in
theorem l1Num_c : ∀ (k n : Nat) (w : World), n < 10 ^ (k + 1) → n ≤ 999999999999999999 →
    Calls Tryz.prog 39 #[.int .i64 (n : Int)] w fun e w' => e = .returned (.string (bs (Lib.decDigits n))) ∧ ∃ j, w' = w.drewN j := by
  intro k
  induction k with
  | zero =>
    intro n w h1 h2
    have h3 : n < 10 := by simpa using h1
    have hd := Lib.hid (dig_small n h3)
    have hn : ¬ ((n : Int) < 0) := by omega
    go_enter Tryz.func39, Tryz.ntmps39
    go_wp2_with fail
    go_ret
    refine ⟨ret_str ?_, 0, rfl⟩
    rw [hd.out, Lib.decDigits, dif_pos h3]; rfl
  | succ k ih =>
    intro n w h1 h2
    by_cases h3 : n < 10
    · have hd := Lib.hid (dig_small n h3)
      have hn : ¬ ((n : Int) < 0) := by omega
      go_enter Tryz.func39, Tryz.ntmps39
      go_wp2_with fail
      go_ret
      refine ⟨ret_str ?_, 0, rfl⟩
      rw [hd.out, Lib.decDigits, dif_pos h3]; rfl
    · have h4 : n / 10 < 10 ^ (k + 1) := by rw [Nat.pow_succ] at h1; omega
      have hc := fun w => ih (n / 10) w h4 (by omega)
      rw [show ((n / 10 : Nat) : Int) = (n : Int) / 10 from by omega] at hc
      have hn : ¬ ((n : Int) < 0) := by omega
      have h5 : ¬ ((n : Int) < 10) := by omega
      have hd := Lib.hid (dig_small (n % 10) (by omega))
      have b0 : (0 : Int) ≤ (n : Int) % 10 := by omega
      have b1 : (n : Int) % 10 ≤ 9 := by omega
      have e0 : IntKind.i64.wrap ((n : Int) / 10) = (n : Int) / 10 := by rw [IntKind.wrap_i64]; omega
      have e1 : IntKind.i64.wrap ((n : Int) % 10) = (n : Int) % 10 := by rw [IntKind.wrap_i64]; omega
      have e2 : IntKind.i64.wrap ((n : Int) % 10 + 1) = (n : Int) % 10 + 1 := by rw [IntKind.wrap_i64]; omega
      have e3 : ((n : Int) % 10).toNat = n % 10 := by omega
      have e4 : ((n : Int) % 10 + 1).toNat = n % 10 + 1 := by omega
      have e5 : (n : Int).tmod 10 = (n : Int) % 10 := Int.tmod_eq_emod_of_nonneg (by omega)
      have e6 : (n : Int).tdiv 10 = (n : Int) / 10 := Int.tdiv_eq_ediv_of_nonneg (by omega)
      have hsl : ∀ wx, (Instr.slice 9 (.string ⟨#[48, 49, 50, 51, 52, 53, 54, 55, 56, 57]⟩) (some (.int .i64 ((n : Int) % 10))) (some (.int .i64 ((n : Int) % 10 + 1))) none).run Tryz.prog wx = .ok (.string ⟨#[UInt8.ofNat (48 + n % 10)]⟩) wx := fun wx => by
        have h6 := run_slice_string (P := Tryz.prog) wx 9 ⟨#[48, 49, 50, 51, 52, 53, 54, 55, 56, 57]⟩ .i64 .i64 ((n : Int) % 10) ((n : Int) % 10 + 1) Tryz.underlying9 (by omega) (by omega) (by show _ ≤ ((10 : Nat) : Int); omega)
        rw [h6, e3, e4, hd.out]
      have hD : (bs (Lib.decDigits (n / 10))).size ≤ 18 := by rw [bs_size]; exact digit_len 17 _ (by omega)
      have hd1 : (⟨#[UInt8.ofNat (48 + n % 10)]⟩ : ByteArray).size ≤ 1 := by simp [ByteArray.size]
      have hR : Hid (bs (Lib.decDigits (n / 10)) ++ ⟨#[UInt8.ofNat (48 + n % 10)]⟩ = bs (Lib.decDigits n)) := by
        refine Lib.hid ?_
        conv => rhs; rw [Lib.decDigits, dif_neg (by omega), ← bs_app]
        rfl
      generalize bs (Lib.decDigits (n / 10)) = D at *
      generalize (⟨#[UInt8.ofNat (48 + n % 10)]⟩ : ByteArray) = d at *
      clear ih h1 e3 e4
      go_enter Tryz.func39, Tryz.ntmps39
      go_wp2_with fail
      go_quiet ((go_at_call 39; exact Calls.quiet_of (v := .string D) (hc (World.drewN _ _))))
      go_wp2_with fail
      go_ret
      refine ⟨ret_str ?_, _, rfl⟩
      exact hR.out
set_option maxHeartbeats 400000 in
theorem l1Seal_c (s : ByteArray) (w : World) (hs0 : s.size ≤ 4294967296) :
    Calls Tryz.prog 234 #[.string s] w fun e w' => e = .returned (.string (bs (sealL s.data.toList))) ∧ ∃ j, w' = w.drewN j := by
  have hl := sumL_lt s.data.toList
  have hn := fun w => l1Num_c 5 (sumL s.data.toList) w (by omega) (by omega)
  have hS : Hid (s ++ ⟨#[35]⟩ ++ bs (Lib.decDigits (sumL s.data.toList)) = bs (sealL s.data.toList)) := by
    refine Lib.hid ?_
    rw [app_bs, app_list, bs_list]; congr 1; simp [sealL]
  have hD : (bs (Lib.decDigits (sumL s.data.toList))).size ≤ 6 := by rw [bs_size]; exact digit_len 5 _ (by omega)
  generalize bs (Lib.decDigits (sumL s.data.toList)) = D at *
  have hs : s.size ≤ maxLen := by unfold maxLen; omega
  go_enter Tryz.func234, Tryz.ntmps234
  go_wp2_with (first
   | (go_at_call 247; refine (l1Sum_c _ _ (by assumption)).mono ?_; rintro e w' ⟨rfl, rfl⟩)
   | (go_at_call 39; refine (hn _).mono ?_; rintro e w' ⟨rfl, j, rfl⟩))
  go_ret
  exact ⟨ret_str hS.out, _, rfl⟩
/-- strings.Cut at one byte -/
theorem indexByte_at (c : UInt8) : ∀ l : Bs, (c ∈ l → Lib.indexByte l c = (upTo c l).length) ∧ (c ∉ l → Lib.indexByte l c = -1)
  | [] => by simp [Lib.indexByte]
  | b :: l => by
    obtain ⟨h1, h2⟩ := indexByte_at c l
    unfold Lib.indexByte upTo
    by_cases hb : b = c
    · subst hb; simp
    · have hb' : (b == c) = false := by simpa using hb
      rw [hb']
      have hm : c ∈ b :: l ↔ c ∈ l := by
        rw [List.mem_cons]
        exact ⟨fun h => h.resolve_left (fun e => hb e.symm), .inr⟩
      rw [hm]
      refine ⟨fun h => ?_, fun h => ?_⟩
      · rw [h1 h]
        have : ((upTo c l).length : Int) ≠ -1 := by omega
        simp [upTo, hb] at this ⊢
      · rw [h2 h]; simp
theorem upTo_len (c : UInt8) (l : Bs) : (upTo c l).length ≤ l.length := by
  unfold upTo; exact (List.takeWhile_sublist _).length_le
theorem upTo_lt {c : UInt8} {l : Bs} (h : c ∈ l) : (upTo c l).length < l.length := by
  rcases split_at c l with ⟨_, h2⟩ | ⟨h2, _⟩
  · have := congrArg List.length h2; simp at this; omega
  · exact absurd h h2
def cutB (c : UInt8) (s : ByteArray) : ByteArray := bs (upTo c s.data.toList)
def cutA (c : UInt8) (s : ByteArray) : ByteArray := bs (behind c s.data.toList)
theorem cut_yes {c : UInt8} {s : ByteArray} (h : c ∈ s.data.toList) : s.extract 0 (upTo c s.data.toList).length = cutB c s ∧ s.extract ((upTo c s.data.toList).length + 1) s.size = cutA c s := by
  rcases split_at c s.data.toList with ⟨_, h2⟩ | ⟨h2, _⟩
  · constructor
    · rw [Lib.extract_eq]; unfold cutB bs; congr 2
      rw [List.drop_zero, Nat.sub_zero]
      exact (congrArg (List.take _) h2).trans List.take_left
    · rw [Lib.extract_eq]; unfold cutA bs; congr 2
      rw [List.take_of_length_le (by simp)]
      refine (congrArg (List.drop _) h2).trans ?_
      rw [← List.drop_drop, List.drop_left]; rfl
  · exact absurd h h2
set_option maxHeartbeats 400000 in
theorem liteCut_c (s : ByteArray) (c : UInt8) (w : World) (hs : s.size ≤ maxLen) :
    Calls Tryz.prog 182 #[.string s, .string ⟨#[c]⟩] w fun e w' => e = .returned (.tuple #[.string (cutB c s), .string (cutA c s), .bool (stands c s.data.toList)]) ∧ ∃ j, w' = w.drewN j := by
  unfold maxLen at hs
  have hi := fun w => Tryz.stringslite_Index_one s c w
  by_cases h : c ∈ s.data.toList
  · have hc := cut_yes h
    have hl := upTo_lt h
    rw [size_list] at hl
    have hst : stands c s.data.toList = true := by unfold stands; rw [List.any_eq_true]; exact ⟨c, h, by simp⟩
    have hst := Lib.hid hst
    rw [(indexByte_at c _).1 h] at hi
    generalize (upTo c s.data.toList).length = n at *
    have hc1 := Lib.hid hc.1
    have hc2 := Lib.hid hc.2
    clear hc
    go_enter Tryz.func182, Tryz.ntmps182
    go_wp2_with (go_at_call 217; refine (hi _).mono ?_; rintro e w' ⟨rfl, rfl⟩)
    go_quiet (fail)
    go_wp2_with fail
    refine bodyPost_ret (v := .tuple #[.string (cutB c s), .string (cutA c s), .bool true]) ?_ rfl ?_
    · simp [results, Tryz.results182, go_sem, hc1.out, hc2.out]
    · exact ⟨by rw [hst.out], _, rfl⟩
  · have hst : stands c s.data.toList = false := by unfold stands; rw [List.any_eq_false]; intro x hx; simp; rintro rfl; exact h hx
    have h1 : cutB c s = s := by unfold cutB; rw [upTo_no (fun x hx e => h (by rw [← e]; exact hx)), bs_of]
    have h2 : cutA c s = ⟨#[]⟩ := by unfold cutA; rw [behind_no (fun x hx e => h (by rw [← e]; exact hx))]; rfl
    rw [(indexByte_at c _).2 h] at hi
    replace hst := Lib.hid hst; replace h1 := Lib.hid h1; replace h2 := Lib.hid h2
    go_enter Tryz.func182, Tryz.ntmps182
    go_wp2_with (go_at_call 217; refine (hi _).mono ?_; rintro e w' ⟨rfl, rfl⟩)
    refine bodyPost_ret (v := .tuple #[.string s, .string ⟨#[]⟩, .bool false]) ?_ rfl ?_
    · simp [results, Tryz.results182, go_sem]
    · exact ⟨by rw [hst.out, h1.out, h2.out], 0, rfl⟩
end Go.Proofs.YtccmhdheoeglmaaGreatDoor.Lg
/- The type LogRecord of the exact laws: how it reads, how it is owned; the walks of its size, copy, equality, mark and held. Written by wip/gentypes.py. -/
namespace Go.Proofs.YtccmhdheoeglmaaGreatDoor
open Go.RowKit
structure LogRecord where
  command : ByteArray
  reply : ByteArray
/-- read -/
def ELogRecord : Elem LogRecord where
  sz := 2
  rep _ cs x F := cs = [.string x.command, .string x.reply] ∧ x.command.size ≤ maxLen ∧ x.reply.size ≤ maxLen ∧ F = []
  len h := by obtain ⟨rfl, s1, s2, rfl⟩ := h; rfl
  lt h := by obtain ⟨rfl, s1, s2, rfl⟩ := h; simp
  frame h _ := h
theorem one_ELogRecord : One ELogRecord := fun h u hu => by
  obtain ⟨rfl, s1, s2, rfl⟩ := h
  simp only [List.mem_cons, List.not_mem_nil, or_false] at hu
  rcases hu with rfl | rfl
  · rfl
  · rfl
theorem info_LogRecord : (Tryz.prog.info? 179).map (fun i => (i.zero, i.size, i.bytes)) = some (some (.agg #[.string ⟨#[]⟩, .string ⟨#[]⟩]), 2, 32) := by kernel_rfl
end Go.Proofs.YtccmhdheoeglmaaGreatDoor
/- Walks: a record's line, the program's and the reference's; EncodeRecord. -/
namespace Go.Proofs.YtccmhdheoeglmaaGreatDoor.Lg
open Go.RowKit
theorem goodRec_L (c r : ByteArray) : goodRec c r = goodL c.data.toList r.data.toList := by
  unfold goodRec goodL; rw [size_list, size_list]
theorem ret_tup2 {a b : ByteArray} {x y : Bool} (h : a = b) (h2 : x = y) : Ending.returned (.tuple #[.string a, .bool x]) = .returned (.tuple #[.string b, .bool y]) := by rw [h, h2]
set_option maxHeartbeats 400000 in
theorem Cut_c (s : ByteArray) (c : UInt8) (w : World) (hs : s.size ≤ maxLen) :
    Calls Tryz.prog 129 #[.string s, .string ⟨#[c]⟩] w fun e w' => e = .returned (.tuple #[.string (cutB c s), .string (cutA c s), .bool (stands c s.data.toList)]) ∧ ∃ j, w' = w.drewN j := by
  go_enter Tryz.func129, Tryz.ntmps129
  go_wp2_with (go_at_call 182; refine (liteCut_c _ _ _ hs).mono ?_; rintro e w' ⟨rfl, j, rfl⟩)
  refine bodyPost_ret (v := .tuple #[.string (cutB c s), .string (cutA c s), .bool (stands c s.data.toList)]) ?_ rfl ⟨rfl, _, rfl⟩
  simp [results, Tryz.results129, go_sem]
theorem size_of_list {s : ByteArray} {n : Nat} (h : s.data.toList.length ≤ n) : s.size ≤ n := by rwa [size_list] at h
set_option maxHeartbeats 400000 in
/-- AppendChecksum at a text without '#' that is not long -/
theorem AppendChecksum_ok (s : ByteArray) (F : List Nat) (w : World) (hs0 : s.size ≤ 3000) (h35 : ∀ b ∈ s.data.toList, b ≠ 35) (hT : IsV ETab w (.agg #[]) () F) :
    Calls Tryz.prog 220 #[.string s] w fun e w' => e = .returned (.tuple #[.string (bs (sealL s.data.toList)), .bool true]) ∧ Below w.heap.size w w' := by
  have hl := sumL_lt s.data.toList
  have hD : (bs (Lib.decDigits (sumL s.data.toList))).size ≤ 6 := by rw [bs_size]; exact digit_len 5 _ (by omega)
  have hS : Hid (s ++ ⟨#[35]⟩ ++ bs (Lib.decDigits (sumL s.data.toList)) = bs (sealL s.data.toList)) := by
    refine Lib.hid ?_
    rw [app_bs, app_list, bs_list]; congr 1; simp [sealL]
  have hI := fun w F hT => Itoa_c (sumL s.data.toList) (by omega) F w hT
  have hs : s.size ≤ maxLen := by unfold maxLen; omega
  have hst : stands 35 s.data.toList = false := by unfold stands; rw [List.any_eq_false]; intro x hx; simp; exact h35 x hx
  have hct := fun w => contains_c s 35 w
  rw [hst] at hct
  generalize bs (Lib.decDigits (sumL s.data.toList)) = D at *
  clear hst h35
  go_enter Tryz.func220, Tryz.ntmps220
  go_wp2_with (first
   | (go_at_call 219; refine (hct _).mono ?_; rintro e w' ⟨rfl, rfl⟩)
   | (go_at_call 244; refine (checksum_c _ _ (by assumption)).mono ?_; rintro e w' ⟨rfl, rfl⟩)
   | (go_at_call 43; refine (hI _ _ hT).mono ?_; rintro e w' ⟨rfl, hb⟩))
  refine bodyPost_ret (v := .tuple #[.string (s ++ ⟨#[35]⟩ ++ D), .bool true]) ?_ rfl ⟨ret_tup2 hS.out rfl, hb⟩
  simp [results, Tryz.results220, go_sem]
end Go.Proofs.YtccmhdheoeglmaaGreatDoor.Lg
/- Walks: the reference's l1Split. -/
namespace Go.Proofs.YtccmhdheoeglmaaGreatDoor.Lg
open Go.RowKit
def splitL (b : UInt8) : Bs → List Bs
  | [] => [[]]
  | c :: r => if c == b then [] :: splitL b r else match splitL b r with
    | [] => [[c]]
    | x :: xs => (c :: x) :: xs
theorem splitL_at {b : UInt8} : ∀ {x : Bs} (r : Bs), (∀ c ∈ x, c ≠ b) → splitL b (x ++ b :: r) = x :: splitL b r
  | [], r, _ => by simp [splitL]
  | c :: x, r, h => by
    have ih := splitL_at (b := b) (x := x) r fun d hd => h d (by simp [hd])
    have hb : (c == b) = false := by simpa using h c (by simp)
    simp only [List.cons_append, splitL, hb, ih]
    simp
theorem splitL_no {b : UInt8} : ∀ {x : Bs}, (∀ c ∈ x, c ≠ b) → splitL b x = [x]
  | [], _ => rfl
  | c :: x, h => by
    have ih := splitL_no (b := b) (x := x) fun d hd => h d (by simp [hd])
    have hb : (c == b) = false := by simpa using h c (by simp)
    simp only [splitL, hb, ih]
    simp
theorem splitL_head (b : UInt8) (l : Bs) : ∃ r, splitL b l = upTo b l :: r ∧ (r = [] ↔ b ∉ l) := by
  rcases split_at b l with ⟨h, h2⟩ | ⟨h, h2, _⟩
  · refine ⟨splitL b (behind b l), ?_, ?_⟩
    · conv => lhs; rw [h2]
      exact splitL_at _ upTo_mem
    · refine ⟨fun e => ?_, fun e => absurd h e⟩
      have : ∀ l : Bs, splitL b l ≠ [] := by
        intro l
        cases l with
        | nil => simp [splitL]
        | cons c r =>
          unfold splitL
          split
          · simp
          · split <;> simp
      exact absurd e (this _)
  · exact ⟨[], by rw [splitL_no fun c hc e => h (by rw [← e]; exact hc), h2], by simp [h]⟩
theorem drop_split {l : Bs} {f k : Nat} (hf : f ≤ k) (hk : k < l.length) : l.drop f = (l.drop f).take (k - f) ++ l[k] :: l.drop (k + 1) := by
  have h1 : (l.drop f).drop (k - f) = l.drop k := by rw [List.drop_drop]; congr 1; omega
  conv => lhs; rw [← List.take_append_drop (k - f) (l.drop f), h1, List.drop_eq_getElem_cons hk]
theorem take_more {l : Bs} {f k : Nat} (hf : f ≤ k) (hk : k < l.length) : (l.drop f).take (k + 1 - f) = (l.drop f).take (k - f) ++ [l[k]] := by
  rw [show k + 1 - f = (k - f) + 1 by omega, List.take_succ_eq_append_getElem (by rw [List.length_drop]; omega)]
  congr 2
  rw [List.getElem_drop]; congr 1; omega
theorem ba_get (s : ByteArray) (k : Nat) (h : k < s.size) : s.data.toList[k]'(by simpa using h) = s[k] := rfl
theorem ext_bs (s : ByteArray) (f k : Nat) : s.extract f k = bs ((s.data.toList.drop f).take (k - f)) := Lib.extract_eq s f k
theorem ext_end (s : ByteArray) (f : Nat) : s.extract f s.size = bs (s.data.toList.drop f) := by
  rw [Lib.extract_eq]; unfold bs; rw [List.take_of_length_le (by simp)]
set_option maxHeartbeats 1600000 in
set_option maxRecDepth 100000 in
theorem l1Split_c (s : ByteArray) (c : UInt8) (w : World) (hs : s.size ≤ 16777216) :
    Calls Tryz.prog 159 #[.string s, .int .u8 (c.toNat : Int)] w (RetNew EStr 9 ((splitL c s.data.toList).map bs) w) := by
  go_enter Tryz.func159, Tryz.ntmps159
  go_wp2_with fail
  go_loopw [5, 6, 7] (fun o f i wr => ∃ (outs : List Bs) (fr k : Nat) (F : List Nat) (oa : Option Addr) (oc : Nat), k ≤ s.size ∧ fr ≤ k ∧ i = .int .i64 k ∧ f = .int .i64 fr ∧ o = .slice oa outs.length oc ∧ Hid (Ow EStr 9 wr (.slice oa outs.length oc) (outs.map bs) F) ∧ F.Nodup ∧ (∀ b ∈ F, w.heap.size ≤ b) ∧
    Hid (splitL c s.data.toList = outs ++ splitL c (s.data.toList.drop fr)) ∧ Hid (∀ x ∈ (s.data.toList.drop fr).take (k - fr), x ≠ c) ∧ outs.length ≤ fr ∧ Below w.heap.size w wr) (fun _ _ i _ => s.size - (intOf i).toNat)
  case atStart => exact ⟨[], 0, 0, [w.heap.size], some ⟨w.heap.size, 0, none⟩, 0, Nat.zero_le _, Nat.le_refl _, rfl, rfl, rfl, Lib.hid (Ow.empty (Row.made _ _ _)), by simp, by simp, Lib.hid rfl, Lib.hid (by simp), Nat.le_refl _, (Below.refl _ _).alloc (Nat.le_refl _) _⟩
  case round =>
    obtain ⟨outs, fr, k, F, oa, oc, hk, hf, rfl, rfl, rfl, ho, hn, hF, hz, hno, hol, hB⟩ := hrel
    by_cases hlt : k < s.size
    · by_cases he : ((s[k].toNat : Int) == (c.toNat : Int)) = true
      · have hz2 : Hid (splitL c s.data.toList = (outs ++ [(s.data.toList.drop fr).take (k - fr)]) ++ splitL c (s.data.toList.drop (k + 1))) := by
          refine Lib.hid ?_
          have h1 := drop_split (l := s.data.toList) hf (by simpa using hlt)
          rw [ba_get s k hlt] at h1
          rw [u8_eq, beq_iff_eq] at he
          rw [he] at h1
          have h2 := hz.out
          rw [h1, splitL_at _ hno.out] at h2
          rw [h2]; simp
        have hx := Lib.hid (ext_bs s fr k)
        have hxs : (s.extract fr k).size ≤ maxLen := by unfold maxLen; simp; omega
        clear hz hno
        go_wp2_with (at_builtin; refine wpList_apd one_EStr (by decide) (by rfl) _ _ _ (by rfl) 9 (.string ⟨#[]⟩) 16 Tryz.underlying27 info_string rfl (.slice oa outs.length oc) (outs.map bs) F (by rfl) (ho.out.below ((Below.refl _ _).alloc (Nat.le_refl _) _)) (Hd.of hn) (some ⟨wr.heap.size, 0, none⟩) [s.extract fr k] 1 (by rfl) [.string (s.extract fr k)] [] (Flat.one ⟨rfl, hxs, rfl⟩) (.inr ⟨_, rfl, World.news_of_block (heap_alloc_new wr _)⟩) (by simp) (by simp; unfold maxLen; omega) (by simp; omega) ?_)
        intro v6 w6 F6 hA
        have o6 := hA.ow; have n6 := hA.nodup hn (by simp) (by simp); have m6 := hA.mem; have K6 := hA.keep
        obtain ⟨a6, c6, hv6⟩ := hA.val
        clear hA
        have hv7 : v6 = .slice a6 (outs.length + 1) c6 := by simpa using hv6
        subst hv7; clear hv6
        have e6 : (outs ++ [(s.data.toList.drop fr).take (k - fr)]).map bs = outs.map bs ++ [s.extract fr k] := by rw [List.map_append, hx.out]; rfl
        have f6 : ∀ b ∈ F6, w.heap.size ≤ b := fun b hb => by
          rcases m6 b hb with h7 | h7 | h7
          · exact hF b h7
          · simp at h7
          · have := hB.size; simp at h7; omega
        have B6 : Below w.heap.size w w6 := (hB.alloc hB.size _).trans (K6.below (by have := hB.size; simp; omega) hF)
        replace o6 := Lib.hid o6
        replace e6 := Lib.hid e6
        clear K6 m6 ho hn hF hB
        go_wp2_with fail
        refine ⟨⟨outs ++ [(s.data.toList.drop fr).take (k - fr)], k + 1, k + 1, F6, a6, c6, by omega, Nat.le_refl _, by go_num, by go_num, by simp, ?_, n6, f6, hz2, Lib.hid (by simp), by simp; omega, B6⟩, by simp [intOf]; omega⟩
        refine Lib.hid ?_
        rw [e6.out]; simpa using o6.out
      · have he2 := eq_false_of_ne_true he
        have hno2 : Hid (∀ x ∈ (s.data.toList.drop fr).take (k + 1 - fr), x ≠ c) := by
          refine Lib.hid ?_
          rw [take_more hf (by simpa using hlt), ba_get s k hlt]
          intro x hx
          rcases List.mem_append.1 hx with hx | hx
          · exact hno.out x hx
          · simp only [List.mem_singleton] at hx; subst hx
            intro e; rw [u8_eq, beq_eq_false_iff_ne] at he2; exact he2 e
        clear hno he
        go_wp2_with fail
        exact ⟨⟨outs, fr, k + 1, F, oa, oc, by omega, by omega, by go_num, rfl, rfl, ho, hn, hF, hz, hno2, hol, hB⟩, by simp [intOf]; omega⟩
    · have hke : k = s.size := by omega
      subst hke
      have hz2 : Hid (splitL c s.data.toList = outs ++ [s.data.toList.drop fr]) := by
        refine Lib.hid ?_
        have h2 := hno.out
        rw [List.take_of_length_le (by simp)] at h2
        rw [hz.out, splitL_no h2]
      have hx := Lib.hid (ext_end s fr)
      have hxs : (s.extract fr s.size).size ≤ maxLen := by unfold maxLen; simp; omega
      clear hz hno
      go_wp2_with (at_builtin; refine wpList_apd one_EStr (by decide) (by rfl) _ _ _ (by rfl) 9 (.string ⟨#[]⟩) 16 Tryz.underlying27 info_string rfl (.slice oa outs.length oc) (outs.map bs) F (by rfl) (ho.out.below ((Below.refl _ _).alloc (Nat.le_refl _) _)) (Hd.of hn) (some ⟨wr.heap.size, 0, none⟩) [s.extract fr s.size] 1 (by rfl) [.string (s.extract fr s.size)] [] (Flat.one ⟨rfl, hxs, rfl⟩) (.inr ⟨_, rfl, World.news_of_block (heap_alloc_new wr _)⟩) (by simp) (by simp; unfold maxLen; omega) (by simp; omega) ?_)
      intro v6 w6 F6 hA
      have o6 := hA.ow; have n6 := hA.nodup hn (by simp) (by simp); have m6 := hA.mem; have K6 := hA.keep
      clear hA
      have e6 : (outs ++ [s.data.toList.drop fr]).map bs = outs.map bs ++ [s.extract fr s.size] := by rw [List.map_append, hx.out]; rfl
      have f6 : ∀ b ∈ F6, w.heap.size ≤ b := fun b hb => by
        rcases m6 b hb with h7 | h7 | h7
        · exact hF b h7
        · simp at h7
        · have := hB.size; simp at h7; omega
      have B6 : Below w.heap.size w w6 := (hB.alloc hB.size _).trans (K6.below (by have := hB.size; simp; omega) hF)
      replace o6 := Lib.hid o6
      replace e6 := Lib.hid e6
      clear K6 m6 ho hn hF hB
      go_wp2_with fail
      go_ret
      refine ⟨v6, F6, rfl, ?_, n6, f6, B6⟩
      rw [hz2.out, e6.out]; exact o6.out
end Go.Proofs.YtccmhdheoeglmaaGreatDoor.Lg
/- Walks: a record's line, the program's and the reference's. -/
namespace Go.Proofs.YtccmhdheoeglmaaGreatDoor.Lg
open Go.RowKit
theorem app_body (k : Nat) (c r : ByteArray) : bs (Lib.decDigits k) ++ ⟨#[32]⟩ ++ c ++ ⟨#[64]⟩ ++ r = bs (bodyL k c.data.toList r.data.toList) := by
  rw [app_bs (_ ++ _) r, app_list, app_list, app_list, bs_list]; congr 1; simp [bodyL]
theorem app_nl (l : Bs) : bs l ++ ⟨#[10]⟩ = bs (l ++ [10]) := by rw [app_bs, bs_list]
structure GoodB (k : Nat) (c r : ByteArray) : Prop where
  k9 : k ≤ 59
  g : Good c.data.toList r.data.toList
set_option maxHeartbeats 1600000 in
set_option maxRecDepth 100000 in
theorem encodeRecord_c (k : Nat) (c r : ByteArray) (F : List Nat) (w : World) (hk : k ≤ 59) (hg : Good c.data.toList r.data.toList) (hT : IsV ETab w (.agg #[]) () F) :
    Calls Tryz.prog 184 #[.int .i64 (k : Int), .agg #[.string c, .string r]] w fun e w' => e = .returned (.string (bs (lineL k c.data.toList r.data.toList))) ∧ Below w.heap.size w w' := by
  have hb0 := bodyL_len hk hg
  have hm := bodyL_mem (k := k) hg
  have hX := app_body k c r
  have hc1 : c.size ≤ 160 := size_of_list hg.c1
  have hr1 : r.size ≤ 200 := size_of_list hg.r1
  have hD : (bs (Lib.decDigits k)).size ≤ 2 := by rw [bs_size]; exact digit_len 1 _ (by omega)
  have hE : (bs (sealL (bodyL k c.data.toList r.data.toList))).size ≤ 400 := by rw [bs_size]; have := sealL_len (bodyL k c.data.toList r.data.toList); omega
  have hN := Lib.hid (app_nl (sealL (bodyL k c.data.toList r.data.toList)))
  have hI := Lib.hid (fun w hT => Itoa_c k (by omega) F w hT)
  have hA := fun w hT => AppendChecksum_ok (bs (bodyL k c.data.toList r.data.toList)) F w (by rw [bs_size]; omega) (by rw [bs_list]; exact fun b hb => (hm b hb).2) hT
  rw [bs_list, ← hX] at hA
  replace hA := Lib.hid hA
  clear hX hm hb0 hg
  generalize hl : bs (Lib.decDigits k) = D at *
  generalize bs (sealL (bodyL k c.data.toList r.data.toList)) = E at *
  clear hl
  skip
  go_enter Tryz.func184, Tryz.ntmps184
  go_wp2_with fail
  have al : Below w.heap.size w (w.alloc (.cells #[.string c, .string r] 179)) := by
    repeat refine Below.alloc ?_ (by simp <;> omega) _
    exact Below.refl _ _
  have n_R := Row.made w 179 [.string c, .string r]
  have hs_w1 : w.heap.size < (w.alloc (.cells #[.string c, .string r] 179)).heap.size := by simp
  replace hT := hT.below al
  have hB := al
  generalize (w.alloc (.cells #[.string c, .string r] 179)) = w1 at *
  have R := n_R; clear n_R
  clear al
  refine AnyX.start (S := (fun w' => w'.cell? ⟨w.heap.size, 0, none⟩ = some (.string c) ∧ w'.cell? ⟨w.heap.size, 1, none⟩ = some (.string r))) (X := (fun _ => false)) (by kernel_rfl) ?_
  have al : Below w1.heap.size w1 w1.drew := belowDrewN (Below.refl _ _) 1
  have hs_w2 := al.size
  replace R := R.below al
  replace hT := hT.below al
  replace hB := tr hB al (Nat.le_refl _)
  generalize w1.drew = w2 at *
  clear al
  have hS : (fun w' => w'.cell? ⟨w.heap.size, 0, none⟩ = some (.string c) ∧ w'.cell? ⟨w.heap.size, 1, none⟩ = some (.string r)) w2 := ⟨R.cells 0, R.cells 1⟩
  refine AnyX.take (i := 0) (oi := _) (v := ?_) (by rw [List.getElem?_toArray]; rfl) (by kernel_rfl) (by kernel_rfl) (by kernel_rfl) (by kernel_rfl) (by kernel_rfl) (by exact fun _ _ _ h => h) (Or.inl ⟨by rfl, ?_⟩) hS ?_
  rotate_left
  · (intro wS hSw; (try dsimp only at hSw); go_simp; try with_reducible rfl)
  try simp only [Act.put, List.setIfInBounds_toArray, List.set_cons_zero, List.set_cons_succ]
  refine AnyX.take (i := 3) (oi := _) (v := ?_) (by rw [List.getElem?_toArray]; rfl) (by kernel_rfl) (by kernel_rfl) (by kernel_rfl) (by kernel_rfl) (by kernel_rfl) (by exact fun _ _ _ h => h) (Or.inl ⟨by rfl, ?_⟩) hS ?_
  rotate_left
  · (intro wS hSw; (try dsimp only at hSw); go_simp; try with_reducible rfl)
  try simp only [Act.put, List.setIfInBounds_toArray, List.set_cons_zero, List.set_cons_succ]
  refine AnyX.take (i := 4) (oi := _) (v := ?_) (by rw [List.getElem?_toArray]; rfl) (by kernel_rfl) (by kernel_rfl) (by kernel_rfl) (by kernel_rfl) (by kernel_rfl) (by exact fun _ _ _ h => h) (Or.inl ⟨by rfl, ?_⟩) hS ?_
  rotate_left
  · (intro wS hSw; (try dsimp only at hSw); go_simp; try with_reducible rfl)
  try simp only [Act.put, List.setIfInBounds_toArray, List.set_cons_zero, List.set_cons_succ]
  refine AnyX.take (i := 7) (oi := _) (v := ?_) (by rw [List.getElem?_toArray]; rfl) (by kernel_rfl) (by kernel_rfl) (by kernel_rfl) (by kernel_rfl) (by kernel_rfl) (by exact fun _ _ _ h => h) (Or.inl ⟨by rfl, ?_⟩) hS ?_
  rotate_left
  · (intro wS hSw; (try dsimp only at hSw); go_simp; try with_reducible rfl)
  try simp only [Act.put, List.setIfInBounds_toArray, List.set_cons_zero, List.set_cons_succ]
  refine AnyX.take (i := 8) (oi := _) (v := ?_) (by rw [List.getElem?_toArray]; rfl) (by kernel_rfl) (by kernel_rfl) (by kernel_rfl) (by kernel_rfl) (by kernel_rfl) (by exact fun _ _ _ h => h) (Or.inl ⟨by rfl, ?_⟩) hS ?_
  rotate_left
  · (intro wS hSw; (try dsimp only at hSw); go_simp; try with_reducible rfl)
  try simp only [Act.put, List.setIfInBounds_toArray, List.set_cons_zero, List.set_cons_succ]
  refine AnyX.only (i := 1) (o := _) (by kernel_rfl) (by rw [List.getElem?_toArray]; rfl) (fun K hK => ?_)
  go_simp
  go_at_call 43
  refine (hI.out _ hT).mono ?_
  rintro e w3 ⟨rfl, hb⟩
  have hs_w3 := hb.size
  replace R := R.below hb
  replace hT := hT.below hb
  replace hB := tr hB hb (Nat.le_refl _)
  clear hb
  clear hS
  have hS : (fun w' => w'.cell? ⟨w.heap.size, 0, none⟩ = some (.string c) ∧ w'.cell? ⟨w.heap.size, 1, none⟩ = some (.string r)) w3 := ⟨R.cells 0, R.cells 1⟩
  refine hK.out _ _ (fun _ => hS) ?_
  clear hK K
  try simp only [Act.put, List.setIfInBounds_toArray, List.set_cons_zero, List.set_cons_succ]
  refine AnyX.take (i := 2) (oi := _) (v := ?_) (by rw [List.getElem?_toArray]; rfl) (by kernel_rfl) (by kernel_rfl) (by kernel_rfl) (by kernel_rfl) (by kernel_rfl) (by exact fun _ _ _ h => h) (Or.inl ⟨by rfl, ?_⟩) hS ?_
  rotate_left
  · (intro wS hSw; (try dsimp only at hSw); go_simp; rw [if_neg (by simp; omega)]; try with_reducible rfl)
  try simp only [Act.put, List.setIfInBounds_toArray, List.set_cons_zero, List.set_cons_succ]
  refine AnyX.take (i := 5) (oi := _) (v := ?_) (by rw [List.getElem?_toArray]; rfl) (by kernel_rfl) (by kernel_rfl) (by kernel_rfl) (by kernel_rfl) (by kernel_rfl) (by exact fun _ _ _ h => h) (Or.inl ⟨by rfl, ?_⟩) hS ?_
  rotate_left
  · (intro wS hSw; (try dsimp only at hSw); go_simp; rw [if_neg (by simp; omega)]; try with_reducible rfl)
  try simp only [Act.put, List.setIfInBounds_toArray, List.set_cons_zero, List.set_cons_succ]
  refine AnyX.take (i := 6) (oi := _) (v := ?_) (by rw [List.getElem?_toArray]; rfl) (by kernel_rfl) (by kernel_rfl) (by kernel_rfl) (by kernel_rfl) (by kernel_rfl) (by exact fun _ _ _ h => h) (Or.inl ⟨by rfl, ?_⟩) hS ?_
  rotate_left
  · (intro wS hSw; (try dsimp only at hSw); go_simp; rw [if_neg (by simp; omega)]; try with_reducible rfl)
  try simp only [Act.put, List.setIfInBounds_toArray, List.set_cons_zero, List.set_cons_succ]
  refine AnyX.take (i := 9) (oi := _) (v := ?_) (by rw [List.getElem?_toArray]; rfl) (by kernel_rfl) (by kernel_rfl) (by kernel_rfl) (by kernel_rfl) (by kernel_rfl) (by exact fun _ _ _ h => h) (Or.inl ⟨by rfl, ?_⟩) hS ?_
  rotate_left
  · (intro wS hSw; (try dsimp only at hSw); go_simp; rw [if_neg (by simp; omega)]; try with_reducible rfl)
  try simp only [Act.put, List.setIfInBounds_toArray, List.set_cons_zero, List.set_cons_succ]
  refine AnyX.only (i := 10) (o := _) (by kernel_rfl) (by rw [List.getElem?_toArray]; rfl) (fun K hK => ?_)
  go_simp
  go_at_call 220
  refine (hA.out _ hT).mono ?_
  rintro e w4 ⟨rfl, hb⟩
  have hs_w4 := hb.size
  replace R := R.below hb
  replace hT := hT.below hb
  replace hB := tr hB hb (Nat.le_refl _)
  clear hb
  clear hS
  have hS : (fun w' => w'.cell? ⟨w.heap.size, 0, none⟩ = some (.string c) ∧ w'.cell? ⟨w.heap.size, 1, none⟩ = some (.string r)) w4 := ⟨R.cells 0, R.cells 1⟩
  refine hK.out _ _ (fun _ => hS) ?_
  clear hK K
  try simp only [Act.put, List.setIfInBounds_toArray, List.set_cons_zero, List.set_cons_succ]
  refine AnyX.take (i := 11) (oi := _) (v := ?_) (by rw [List.getElem?_toArray]; rfl) (by kernel_rfl) (by kernel_rfl) (by kernel_rfl) (by kernel_rfl) (by kernel_rfl) (by exact fun _ _ _ h => h) (Or.inl ⟨by rfl, ?_⟩) hS ?_
  rotate_left
  · (intro wS hSw; (try dsimp only at hSw); go_simp; try with_reducible rfl)
  try simp only [Act.put, List.setIfInBounds_toArray, List.set_cons_zero, List.set_cons_succ]
  refine AnyX.take (i := 12) (oi := _) (v := ?_) (by rw [List.getElem?_toArray]; rfl) (by kernel_rfl) (by kernel_rfl) (by kernel_rfl) (by kernel_rfl) (by kernel_rfl) (by exact fun _ _ _ h => h) (Or.inl ⟨by rfl, ?_⟩) hS ?_
  rotate_left
  · (intro wS hSw; (try dsimp only at hSw); go_simp; try with_reducible rfl)
  try simp only [Act.put, List.setIfInBounds_toArray, List.set_cons_zero, List.set_cons_succ]
  refine AnyX.take (i := 13) (oi := _) (v := ?_) (by rw [List.getElem?_toArray]; rfl) (by kernel_rfl) (by kernel_rfl) (by kernel_rfl) (by kernel_rfl) (by kernel_rfl) (by exact fun _ _ _ h => h) (Or.inl ⟨by rfl, ?_⟩) hS ?_
  rotate_left
  · (intro wS hSw; (try dsimp only at hSw); go_simp; try with_reducible rfl)
  try simp only [Act.put, List.setIfInBounds_toArray, List.set_cons_zero, List.set_cons_succ]
  refine AnyX.only (i := 14) (o := _) (by kernel_rfl) (by rw [List.getElem?_toArray]; rfl) (fun K hK => ?_)
  try go_simp
  clear hS
  have hS : (fun w' => w'.cell? ⟨w.heap.size, 0, none⟩ = some (.string c) ∧ w'.cell? ⟨w.heap.size, 1, none⟩ = some (.string r)) w4 := ⟨R.cells 0, R.cells 1⟩
  refine hK.out _ _ (fun _ => hS) ?_
  clear hK K
  try simp only [Act.put, List.setIfInBounds_toArray, List.set_cons_zero, List.set_cons_succ]
  refine AnyX.only (i := 15) (o := _) (by kernel_rfl) (by rw [List.getElem?_toArray]; rfl) (fun K hK => ?_)
  try go_simp
  clear hS
  have hS : (fun w' => w'.cell? ⟨w.heap.size, 0, none⟩ = some (.string c) ∧ w'.cell? ⟨w.heap.size, 1, none⟩ = some (.string r)) w4 := ⟨R.cells 0, R.cells 1⟩
  refine hK.out _ _ (fun _ => hS) ?_
  clear hK K
  try simp only [Act.put, List.setIfInBounds_toArray, List.set_cons_zero, List.set_cons_succ]
  refine AnyX.done (by kernel_rfl) ?_ _
  (try clear hS)
  have c_R := R.cells; have f_R := R.frozens
  go_wp2_with fail
  clear c_R f_R
  go_ret
  exact ⟨ret_str hN.out, hB⟩
set_option maxHeartbeats 1600000 in
set_option maxRecDepth 100000 in
theorem l27Line_c (k : Nat) (c r : ByteArray) (w : World) (hk : k ≤ 59) (hg : Good c.data.toList r.data.toList) :
    Calls Tryz.prog 203 #[.int .i64 (k : Int), .agg #[.string c, .string r]] w fun e w' => e = .returned (.string (bs (lineL k c.data.toList r.data.toList))) ∧ Below w.heap.size w w' := by
  have hb0 := bodyL_len hk hg
  have hm := bodyL_mem (k := k) hg
  have hX := app_body k c r
  have hc1 : c.size ≤ 160 := size_of_list hg.c1
  have hr1 : r.size ≤ 200 := size_of_list hg.r1
  have hD : (bs (Lib.decDigits k)).size ≤ 2 := by rw [bs_size]; exact digit_len 1 _ (by omega)
  have hE : (bs (sealL (bodyL k c.data.toList r.data.toList))).size ≤ 400 := by rw [bs_size]; have := sealL_len (bodyL k c.data.toList r.data.toList); omega
  have hN := Lib.hid (app_nl (sealL (bodyL k c.data.toList r.data.toList)))
  have hI := Lib.hid (fun w => l1Num_c 1 k w (by omega) (by omega))
  have hA := fun w => l1Seal_c (bs (bodyL k c.data.toList r.data.toList)) w (by rw [bs_size]; omega)
  rw [bs_list, ← hX] at hA
  replace hA := Lib.hid hA
  clear hX hm hb0 hg
  generalize hl : bs (Lib.decDigits k) = D at *
  generalize bs (sealL (bodyL k c.data.toList r.data.toList)) = E at *
  clear hl
  skip
  go_enter Tryz.func203, Tryz.ntmps203
  go_wp2_with fail
  have al : Below w.heap.size w (w.alloc (.cells #[.string c, .string r] 179)) := by
    repeat refine Below.alloc ?_ (by simp <;> omega) _
    exact Below.refl _ _
  have n_R := Row.made w 179 [.string c, .string r]
  have hs_w1 : w.heap.size < (w.alloc (.cells #[.string c, .string r] 179)).heap.size := by simp
  have hB := al
  generalize (w.alloc (.cells #[.string c, .string r] 179)) = w1 at *
  have R := n_R; clear n_R
  clear al
  refine AnyX.start (S := (fun w' => w'.cell? ⟨w.heap.size, 0, none⟩ = some (.string c) ∧ w'.cell? ⟨w.heap.size, 1, none⟩ = some (.string r))) (X := (fun _ => false)) (by kernel_rfl) ?_
  have al : Below w1.heap.size w1 w1.drew := belowDrewN (Below.refl _ _) 1
  have hs_w2 := al.size
  replace R := R.below al
  replace hB := tr hB al (Nat.le_refl _)
  generalize w1.drew = w2 at *
  clear al
  have hS : (fun w' => w'.cell? ⟨w.heap.size, 0, none⟩ = some (.string c) ∧ w'.cell? ⟨w.heap.size, 1, none⟩ = some (.string r)) w2 := ⟨R.cells 0, R.cells 1⟩
  refine AnyX.take (i := 0) (oi := _) (v := ?_) (by rw [List.getElem?_toArray]; rfl) (by kernel_rfl) (by kernel_rfl) (by kernel_rfl) (by kernel_rfl) (by kernel_rfl) (by exact fun _ _ _ h => h) (Or.inl ⟨by rfl, ?_⟩) hS ?_
  rotate_left
  · (intro wS hSw; (try dsimp only at hSw); go_simp; try with_reducible rfl)
  try simp only [Act.put, List.setIfInBounds_toArray, List.set_cons_zero, List.set_cons_succ]
  refine AnyX.take (i := 3) (oi := _) (v := ?_) (by rw [List.getElem?_toArray]; rfl) (by kernel_rfl) (by kernel_rfl) (by kernel_rfl) (by kernel_rfl) (by kernel_rfl) (by exact fun _ _ _ h => h) (Or.inl ⟨by rfl, ?_⟩) hS ?_
  rotate_left
  · (intro wS hSw; (try dsimp only at hSw); go_simp; try with_reducible rfl)
  try simp only [Act.put, List.setIfInBounds_toArray, List.set_cons_zero, List.set_cons_succ]
  refine AnyX.take (i := 4) (oi := _) (v := ?_) (by rw [List.getElem?_toArray]; rfl) (by kernel_rfl) (by kernel_rfl) (by kernel_rfl) (by kernel_rfl) (by kernel_rfl) (by exact fun _ _ _ h => h) (Or.inl ⟨by rfl, ?_⟩) hS ?_
  rotate_left
  · (intro wS hSw; (try dsimp only at hSw); go_simp; try with_reducible rfl)
  try simp only [Act.put, List.setIfInBounds_toArray, List.set_cons_zero, List.set_cons_succ]
  refine AnyX.take (i := 7) (oi := _) (v := ?_) (by rw [List.getElem?_toArray]; rfl) (by kernel_rfl) (by kernel_rfl) (by kernel_rfl) (by kernel_rfl) (by kernel_rfl) (by exact fun _ _ _ h => h) (Or.inl ⟨by rfl, ?_⟩) hS ?_
  rotate_left
  · (intro wS hSw; (try dsimp only at hSw); go_simp; try with_reducible rfl)
  try simp only [Act.put, List.setIfInBounds_toArray, List.set_cons_zero, List.set_cons_succ]
  refine AnyX.take (i := 8) (oi := _) (v := ?_) (by rw [List.getElem?_toArray]; rfl) (by kernel_rfl) (by kernel_rfl) (by kernel_rfl) (by kernel_rfl) (by kernel_rfl) (by exact fun _ _ _ h => h) (Or.inl ⟨by rfl, ?_⟩) hS ?_
  rotate_left
  · (intro wS hSw; (try dsimp only at hSw); go_simp; try with_reducible rfl)
  try simp only [Act.put, List.setIfInBounds_toArray, List.set_cons_zero, List.set_cons_succ]
  refine AnyX.only (i := 1) (o := _) (by kernel_rfl) (by rw [List.getElem?_toArray]; rfl) (fun K hK => ?_)
  go_simp
  go_at_call 39
  refine (hI.out _).mono ?_
  rintro e w3 ⟨rfl, j, hj⟩
  have hb : Below w2.heap.size w2 w3 := by rw [hj]; exact belowDrewN (Below.refl _ _) _
  clear hj
  have hs_w3 := hb.size
  replace R := R.below hb
  replace hB := tr hB hb (Nat.le_refl _)
  clear hb
  clear hS
  have hS : (fun w' => w'.cell? ⟨w.heap.size, 0, none⟩ = some (.string c) ∧ w'.cell? ⟨w.heap.size, 1, none⟩ = some (.string r)) w3 := ⟨R.cells 0, R.cells 1⟩
  refine hK.out _ _ (fun _ => hS) ?_
  clear hK K
  try simp only [Act.put, List.setIfInBounds_toArray, List.set_cons_zero, List.set_cons_succ]
  refine AnyX.take (i := 2) (oi := _) (v := ?_) (by rw [List.getElem?_toArray]; rfl) (by kernel_rfl) (by kernel_rfl) (by kernel_rfl) (by kernel_rfl) (by kernel_rfl) (by exact fun _ _ _ h => h) (Or.inl ⟨by rfl, ?_⟩) hS ?_
  rotate_left
  · (intro wS hSw; (try dsimp only at hSw); go_simp; rw [if_neg (by simp; omega)]; try with_reducible rfl)
  try simp only [Act.put, List.setIfInBounds_toArray, List.set_cons_zero, List.set_cons_succ]
  refine AnyX.take (i := 5) (oi := _) (v := ?_) (by rw [List.getElem?_toArray]; rfl) (by kernel_rfl) (by kernel_rfl) (by kernel_rfl) (by kernel_rfl) (by kernel_rfl) (by exact fun _ _ _ h => h) (Or.inl ⟨by rfl, ?_⟩) hS ?_
  rotate_left
  · (intro wS hSw; (try dsimp only at hSw); go_simp; rw [if_neg (by simp; omega)]; try with_reducible rfl)
  try simp only [Act.put, List.setIfInBounds_toArray, List.set_cons_zero, List.set_cons_succ]
  refine AnyX.take (i := 6) (oi := _) (v := ?_) (by rw [List.getElem?_toArray]; rfl) (by kernel_rfl) (by kernel_rfl) (by kernel_rfl) (by kernel_rfl) (by kernel_rfl) (by exact fun _ _ _ h => h) (Or.inl ⟨by rfl, ?_⟩) hS ?_
  rotate_left
  · (intro wS hSw; (try dsimp only at hSw); go_simp; rw [if_neg (by simp; omega)]; try with_reducible rfl)
  try simp only [Act.put, List.setIfInBounds_toArray, List.set_cons_zero, List.set_cons_succ]
  refine AnyX.take (i := 9) (oi := _) (v := ?_) (by rw [List.getElem?_toArray]; rfl) (by kernel_rfl) (by kernel_rfl) (by kernel_rfl) (by kernel_rfl) (by kernel_rfl) (by exact fun _ _ _ h => h) (Or.inl ⟨by rfl, ?_⟩) hS ?_
  rotate_left
  · (intro wS hSw; (try dsimp only at hSw); go_simp; rw [if_neg (by simp; omega)]; try with_reducible rfl)
  try simp only [Act.put, List.setIfInBounds_toArray, List.set_cons_zero, List.set_cons_succ]
  refine AnyX.only (i := 10) (o := _) (by kernel_rfl) (by rw [List.getElem?_toArray]; rfl) (fun K hK => ?_)
  go_simp
  go_at_call 234
  refine (hA.out _).mono ?_
  rintro e w4 ⟨rfl, j, hj⟩
  have hb : Below w3.heap.size w3 w4 := by rw [hj]; exact belowDrewN (Below.refl _ _) _
  clear hj
  have hs_w4 := hb.size
  replace R := R.below hb
  replace hB := tr hB hb (Nat.le_refl _)
  clear hb
  clear hS
  have hS : (fun w' => w'.cell? ⟨w.heap.size, 0, none⟩ = some (.string c) ∧ w'.cell? ⟨w.heap.size, 1, none⟩ = some (.string r)) w4 := ⟨R.cells 0, R.cells 1⟩
  refine hK.out _ _ (fun _ => hS) ?_
  clear hK K
  try simp only [Act.put, List.setIfInBounds_toArray, List.set_cons_zero, List.set_cons_succ]
  refine AnyX.take (i := 11) (oi := _) (v := ?_) (by rw [List.getElem?_toArray]; rfl) (by kernel_rfl) (by kernel_rfl) (by kernel_rfl) (by kernel_rfl) (by kernel_rfl) (by exact fun _ _ _ h => h) (Or.inl ⟨by rfl, ?_⟩) hS ?_
  rotate_left
  · (intro wS hSw; (try dsimp only at hSw); go_simp; rw [if_neg (by simp; omega)]; try with_reducible rfl)
  try simp only [Act.put, List.setIfInBounds_toArray, List.set_cons_zero, List.set_cons_succ]
  refine AnyX.only (i := 12) (o := _) (by kernel_rfl) (by rw [List.getElem?_toArray]; rfl) (fun K hK => ?_)
  try go_simp
  clear hS
  have hS : (fun w' => w'.cell? ⟨w.heap.size, 0, none⟩ = some (.string c) ∧ w'.cell? ⟨w.heap.size, 1, none⟩ = some (.string r)) w4 := ⟨R.cells 0, R.cells 1⟩
  refine hK.out _ _ (fun _ => hS) ?_
  clear hK K
  try simp only [Act.put, List.setIfInBounds_toArray, List.set_cons_zero, List.set_cons_succ]
  refine AnyX.done (by kernel_rfl) ?_ _
  (try clear hS)
  have c_R := R.cells; have f_R := R.frozens
  go_wp2_with fail
  clear c_R f_R
  go_ret
  exact ⟨ret_str hN.out, hB⟩
end Go.Proofs.YtccmhdheoeglmaaGreatDoor.Lg
/- Walks: the reference's l27Read: a line of a log read. -/
namespace Go.Proofs.YtccmhdheoeglmaaGreatDoor.Lg
open Go.RowKit
theorem split_first {t : TypeId} {w : World} {v : Value} {c : UInt8} {l : Bs} {F : List Nat} (h : Ow EStr t w v ((splitL c l).map bs) F) :
    ∃ g off n cap, v = .slice (some ⟨g, off, none⟩) n cap ∧ 0 < n ∧ n = (splitL c l).length ∧ w.cell? ⟨g, off, none⟩ = some (.string (bs (upTo c l))) := by
  obtain ⟨F', _, hs⟩ := h.read
  obtain ⟨a, cap, rfl⟩ := hs.slice
  obtain ⟨r, hr, _⟩ := splitL_head c l
  obtain ⟨-, -, hc⟩ := hs.str
  obtain ⟨-, b, off, rfl, h0⟩ := hc 0 (by rw [hr]; simp)
  refine ⟨b, off, _, cap, rfl, by rw [hr]; simp, by simp, ?_⟩
  rw [Nat.add_zero] at h0
  rw [h0]
  simp [hr]
theorem good_bs {a b : ByteArray} (h : goodRec a b = true) : Good a.data.toList b.data.toList := goodL_good (by rw [← goodRec_L]; exact h)
def PReadR (l : Bs) (k : Nat) (w : World) (e : Ending) (w' : World) : Prop := e = .returned (.tuple #[.agg #[.string (bs (readR l k).1.1), .string (bs (readR l k).1.2)], .bool (readR l k).2]) ∧ Below w.heap.size w w'
theorem readR_a {l : Bs} {k : Nat} (h : (upTo 35 l).length < (aheadL k).length ∨ (upTo 35 l).take (aheadL k).length ≠ aheadL k) : readR l k = (([], []), false) := by
  unfold readR; rw [if_pos h]
theorem readR_b {l : Bs} {k : Nat} {rest : Bs} (h : ¬ ((upTo 35 l).length < (aheadL k).length ∨ (upTo 35 l).take (aheadL k).length ≠ aheadL k)) (hr : rest = (upTo 35 l).drop (aheadL k).length) (h2 : (upTo 64 rest).length = rest.length) : readR l k = (([], []), false) := by
  subst hr; unfold readR; rw [if_neg h]; simp only []; rw [if_pos h2]
theorem readR_c {l : Bs} {k : Nat} {rest : Bs} (h : ¬ ((upTo 35 l).length < (aheadL k).length ∨ (upTo 35 l).take (aheadL k).length ≠ aheadL k)) (hr : rest = (upTo 35 l).drop (aheadL k).length) (h2 : ¬ (upTo 64 rest).length = rest.length) :
    readR l k = ((upTo 64 rest, rest.drop ((upTo 64 rest).length + 1)), goodL (upTo 64 rest) (rest.drop ((upTo 64 rest).length + 1)) && (lineL k (upTo 64 rest) (rest.drop ((upTo 64 rest).length + 1)) == l ++ [10])) := by
  subst hr; unfold readR; rw [if_neg h]; simp only []; rw [if_neg h2]
theorem ext_take (l : Bs) (n : Nat) : (bs l).extract 0 n = bs (l.take n) := by rw [ext_bs, bs_list]; simp
theorem ext_drop (l : Bs) (n : Nat) : (bs l).extract n (bs l).size = bs (l.drop n) := by rw [ext_end, bs_list]
theorem bs_beq (a b : Bs) : ((bs a).toList == (bs b).toList) = (a == b) := by rw [ByteArray.toList_eq, ByteArray.toList_eq, bs_list, bs_list]
set_option maxHeartbeats 3200000 in
set_option maxRecDepth 100000 in
theorem l27Read_c (s : ByteArray) (k : Nat) (w : World) (hk : k ≤ 59) (hs : s.size ≤ 16777216) :
    Calls Tryz.prog 160 #[.string s, .int .i64 (k : Int)] w (PReadR s.data.toList k w) := by
  have hI := Lib.hid (fun w => l1Num_c 1 k w (by omega) (by omega))
  have hah : bs (Lib.decDigits k) ++ ⟨#[32]⟩ = bs (aheadL k) := by rw [app_bs, bs_list]; rfl
  have hD : (bs (Lib.decDigits k)).size ≤ 2 := by rw [bs_size]; exact digit_len 1 _ (by omega)
  have hA : (bs (aheadL k)).size ≤ 3 := by have := digit_len 1 k (by omega); rw [bs_size]; simp [aheadL]; omega
  have hT0 : (bs (upTo 35 s.data.toList)).size ≤ 16777216 := by have := upTo_len 35 s.data.toList; rw [size_list] at this; rw [bs_size]; omega
  rw [← hah] at hA
  replace hah := Lib.hid hah
  generalize hdk : bs (Lib.decDigits k) = D at *
  clear hdk
  go_enter Tryz.func160, Tryz.ntmps160
  go_wp2_with fail
  have al : Below w.heap.size w (w.alloc (.cells #[.string ⟨#[]⟩, .string ⟨#[]⟩] 179)) := by
    repeat refine Below.alloc ?_ (by simp <;> omega) _
    exact Below.refl _ _
  have n_R0 := Row.made w 179 [.string ⟨#[]⟩, .string ⟨#[]⟩]
  have hs_w1 : w.heap.size < (w.alloc (.cells #[.string ⟨#[]⟩, .string ⟨#[]⟩] 179)).heap.size := by simp
  have hB := al
  generalize (w.alloc (.cells #[.string ⟨#[]⟩, .string ⟨#[]⟩] 179)) = w1 at *
  have R0 := n_R0; clear n_R0
  clear al
  go_wp2_with fail
  refine (hI.out _).mono ?_
  rintro e w2 ⟨rfl, j, hj⟩
  have hb : Below w1.heap.size w1 w2 := by rw [hj]; exact belowDrewN (Below.refl _ _) _
  clear hj
  have hs_w2 := hb.size
  replace R0 := R0.below hb
  replace hB := tr hB hb (Nat.le_refl _)
  clear hb
  clear hI
  go_wp2_with fail
  generalize hag : D ++ (⟨#[32]⟩ : ByteArray) = ah at *
  clear hag hD
  refine (l1Split_c s 35 _ hs).mono ?_
  rintro e w3 ⟨v2, F2, rfl, o2, -, -, hb⟩
  have hs_w3 := hb.size
  replace R0 := R0.below hb
  replace hB := tr hB hb (Nat.le_refl _)
  clear hb
  obtain ⟨g2, off2, m2, cap2, rfl, hm2, -, q2⟩ := split_first o2
  clear o2
  have e0 : ah.size = (aheadL k).length := by rw [hah.out, bs_size]
  have e1 := bs_size (upTo 35 s.data.toList)
  have e2 := ext_take (upTo 35 s.data.toList) ah.size
  have e3 := ext_drop (upTo 35 s.data.toList) ah.size
  have e4 : (((bs (upTo 35 s.data.toList)).extract 0 ah.size).toList == ah.toList) = ((upTo 35 s.data.toList).take (aheadL k).length == aheadL k) := by rw [e2, e0, hah.out, bs_beq]
  replace e0 := Lib.hid e0; replace e1 := Lib.hid e1; replace e3 := Lib.hid e3; replace e4 := Lib.hid e4
  clear e2
  generalize bs (upTo 35 s.data.toList) = tx at *
  by_cases hlt : tx.size < ah.size
  · have hno := readR_a (l := s.data.toList) (k := k) (.inl (by have := e0.out; have := e1.out; omega))
    replace hno := Lib.hid hno
    clear e3 e4
    have c_R0 := R0.cells; have f_R0 := R0.frozens
    go_wp2_with fail
    clear c_R0 f_R0
    refine bodyPost_ret (v := .tuple #[.agg #[.string ⟨#[]⟩, .string ⟨#[]⟩], .bool false]) ?_ rfl ⟨?_, ?_⟩
    · have c_R0 := R0.cells; have f_R0 := R0.frozens
      simp [results, Tryz.results160, go_sem, c_R0, f_R0]
    · rw [hno.out]; rfl
    · repeat refine Below.setCell ?_ (by simp <;> omega) _
      exact hB
  cases heq : ((tx.extract 0 ah.size).toList == ah.toList)
  · have hno := readR_a (l := s.data.toList) (k := k) (.inr (by have h9 := e4.out; rw [heq] at h9; intro e; rw [e] at h9; simp at h9))
    replace hno := Lib.hid hno
    clear e3 e4
    have c_R0 := R0.cells; have f_R0 := R0.frozens
    go_wp2_with fail
    clear c_R0 f_R0
    refine bodyPost_ret (v := .tuple #[.agg #[.string ⟨#[]⟩, .string ⟨#[]⟩], .bool false]) ?_ rfl ⟨?_, ?_⟩
    · have c_R0 := R0.cells; have f_R0 := R0.frozens
      simp [results, Tryz.results160, go_sem, c_R0, f_R0]
    · rw [hno.out]; rfl
    · repeat refine Below.setCell ?_ (by simp <;> omega) _
      exact hB
  have hyes : ¬ ((upTo 35 s.data.toList).length < (aheadL k).length ∨ (upTo 35 s.data.toList).take (aheadL k).length ≠ aheadL k) := by
    have h9 := e4.out; rw [heq] at h9
    have := e0.out; have := e1.out
    rintro (h | h)
    · omega
    · exact h (by simpa using h9.symm)
  replace hyes := Lib.hid hyes
  have hle : ah.size ≤ tx.size := by omega
  go_wp2_with fail
  clear q2 hm2 heq
  have hrs : (tx.extract ah.size tx.size).size ≤ 16777216 := by simp; omega
  generalize tx.extract ah.size tx.size = rs at *
  have e5 : rs.data.toList = (upTo 35 s.data.toList).drop (aheadL k).length := by rw [e3.out, bs_list, e0.out]
  replace e5 := Lib.hid e5
  clear e3 e4
  refine (l1Split_c rs 64 _ hrs).mono ?_
  rintro e w4 ⟨v2, F2, rfl, o2, -, -, hb⟩
  have hs_w4 := hb.size
  replace R0 := R0.below hb
  replace hB := tr hB hb (Nat.le_refl _)
  clear hb
  obtain ⟨g2, off2, m2, cap2, rfl, hm2, -, q2⟩ := split_first o2
  clear o2
  have e6 := bs_size (upTo 64 rs.data.toList)
  have e7 := upTo_len 64 rs.data.toList
  rw [size_list] at e7
  have e8 := ext_end rs ((upTo 64 rs.data.toList).length + 1)
  rw [← e6] at e8 e7
  have e9 := size_list rs
  have ea := bs_list (upTo 64 rs.data.toList)
  replace e6 := Lib.hid e6; replace e8 := Lib.hid e8; replace e9 := Lib.hid e9; replace ea := Lib.hid ea
  generalize bs (upTo 64 rs.data.toList) = ak at *
  by_cases hq : ak.size = rs.size
  · have hno := readR_b hyes.out e5.out (by have := e6.out; have := e9.out; omega)
    replace hno := Lib.hid hno
    clear e8 e9 e6 ea
    have c_R0 := R0.cells; have f_R0 := R0.frozens
    go_wp2_with fail
    clear c_R0 f_R0
    refine bodyPost_ret (v := .tuple #[.agg #[.string ⟨#[]⟩, .string ⟨#[]⟩], .bool false]) ?_ rfl ⟨?_, ?_⟩
    · have c_R0 := R0.cells; have f_R0 := R0.frozens
      simp [results, Tryz.results160, go_sem, c_R0, f_R0]
    · rw [hno.out]; rfl
    · repeat refine Below.setCell ?_ (by simp <;> omega) _
      exact hB
  have hno := readR_c hyes.out e5.out (by have := e6.out; have := e9.out; omega)
  replace hno := Lib.hid hno
  have hak : ak.size + 1 ≤ rs.size := by omega
  have hw := Lib.hid (show IntKind.i64.wrap ((ak.size : Int) + 1) = (ak.size : Int) + 1 from by rw [IntKind.wrap_i64]; omega)
  go_wp2_with fail
  have al : Below w4.heap.size w4 (w4.alloc (.cells #[.string ak, .string (rs.extract (ak.size + 1) rs.size)] 179)) := by
    repeat refine Below.alloc ?_ (by simp <;> omega) _
    exact Below.refl _ _
  have n_R9 := Row.made w4 179 [.string ak, .string (rs.extract (ak.size + 1) rs.size)]
  have hs_w5 : w4.heap.size < (w4.alloc (.cells #[.string ak, .string (rs.extract (ak.size + 1) rs.size)] 179)).heap.size := by simp
  replace R0 := R0.below al
  replace hB := tr hB al (Nat.le_refl _)
  generalize (w4.alloc (.cells #[.string ak, .string (rs.extract (ak.size + 1) rs.size)] 179)) = w5 at *
  have R9 := n_R9; clear n_R9
  clear al
  have hrp : (rs.extract (ak.size + 1) rs.size).size ≤ 16777216 := by simp; omega
  generalize rs.extract (ak.size + 1) rs.size = rp at *
  have p1 : rp.data.toList = rs.data.toList.drop ((upTo 64 rs.data.toList).length + 1) := by rw [← e6.out, e8.out, bs_list]
  have p2 := ea.out
  have h9 := hno.out
  rw [← p1, ← p2] at h9
  rw [← goodRec_L] at h9
  replace hno := Lib.hid h9
  clear h9 p1 p2 e5 e6 e8 e9 ea hyes
  have s1 : ak.size ≤ maxLen := by unfold maxLen; omega
  have s2 : rp.size ≤ maxLen := by unfold maxLen; omega
  have hG := fun w => l27Good_c ak rp w s1 s2
  cases hg : goodRec ak rp
  · rw [hg] at hG hno
    replace hG := Lib.hid hG; replace hno := Lib.hid hno.out
    refine AnyX.start (S := (fun w' => w'.cell? ⟨w4.heap.size, 0, none⟩ = some (.string ak) ∧ w'.cell? ⟨w4.heap.size, 1, none⟩ = some (.string rp))) (X := (fun _ => false)) (by kernel_rfl) ?_
    have al : Below w5.heap.size w5 w5.drew := belowDrewN (Below.refl _ _) 1
    have hs_w6 := al.size
    replace R0 := R0.below al
    replace R9 := R9.below al
    replace hB := tr hB al (Nat.le_refl _)
    generalize w5.drew = w6 at *
    clear al
    have hS : (fun w' => w'.cell? ⟨w4.heap.size, 0, none⟩ = some (.string ak) ∧ w'.cell? ⟨w4.heap.size, 1, none⟩ = some (.string rp)) w6 := ⟨R9.cells 0, R9.cells 1⟩
    refine AnyX.take (i := 0) (oi := _) (v := ?_) (by rw [List.getElem?_toArray]; rfl) (by kernel_rfl) (by kernel_rfl) (by kernel_rfl) (by kernel_rfl) (by kernel_rfl) (by exact fun _ _ _ h => h) (Or.inl ⟨by rfl, ?_⟩) hS ?_
    rotate_left
    · (intro wS hSw; (try dsimp only at hSw); go_simp; try with_reducible rfl)
    try simp only [Act.put, List.setIfInBounds_toArray, List.set_cons_zero, List.set_cons_succ]
    refine AnyX.take (i := 1) (oi := _) (v := ?_) (by rw [List.getElem?_toArray]; rfl) (by kernel_rfl) (by kernel_rfl) (by kernel_rfl) (by kernel_rfl) (by kernel_rfl) (by exact fun _ _ _ h => h) (Or.inl ⟨by rfl, ?_⟩) hS ?_
    rotate_left
    · (intro wS hSw; (try dsimp only at hSw); go_simp; try with_reducible rfl)
    try simp only [Act.put, List.setIfInBounds_toArray, List.set_cons_zero, List.set_cons_succ]
    refine AnyX.only (i := 2) (o := _) (by kernel_rfl) (by rw [List.getElem?_toArray]; rfl) (fun K hK => ?_)
    go_simp
    go_at_call 202
    refine (hG.out _).mono ?_
    rintro e w7 ⟨rfl, hb⟩
    have hs_w7 := hb.size
    replace R0 := R0.below hb
    replace R9 := R9.below hb
    replace hB := tr hB hb (Nat.le_refl _)
    clear hb
    clear hS
    have hS : (fun w' => w'.cell? ⟨w4.heap.size, 0, none⟩ = some (.string ak) ∧ w'.cell? ⟨w4.heap.size, 1, none⟩ = some (.string rp)) w7 := ⟨R9.cells 0, R9.cells 1⟩
    refine hK.out _ _ (fun _ => hS) ?_
    clear hK K
    try simp only [Act.put, List.setIfInBounds_toArray, List.set_cons_zero, List.set_cons_succ]
    refine AnyX.take (i := 3) (oi := _) (v := ?_) (by rw [List.getElem?_toArray]; rfl) (by kernel_rfl) (by kernel_rfl) (by kernel_rfl) (by kernel_rfl) (by kernel_rfl) (by exact fun _ _ _ h => h) (Or.inl ⟨by rfl, ?_⟩) hS ?_
    rotate_left
    · (intro wS hSw; (try dsimp only at hSw); go_simp; try with_reducible rfl)
    try simp only [Act.put, List.setIfInBounds_toArray, List.set_cons_zero, List.set_cons_succ]
    refine AnyX.take (i := 4) (oi := _) (v := undef) (by rw [List.getElem?_toArray]; rfl) (by kernel_rfl) (by kernel_rfl) (by kernel_rfl) (by kernel_rfl) (by kernel_rfl) (by exact fun _ _ _ h => h) (Or.inr ⟨by rfl, rfl⟩) hS ?_
    try simp only [Act.put, List.setIfInBounds_toArray, List.set_cons_zero, List.set_cons_succ]
    refine AnyX.take (i := 5) (oi := _) (v := undef) (by rw [List.getElem?_toArray]; rfl) (by kernel_rfl) (by kernel_rfl) (by kernel_rfl) (by kernel_rfl) (by kernel_rfl) (by exact fun _ _ _ h => h) (Or.inr ⟨by rfl, rfl⟩) hS ?_
    try simp only [Act.put, List.setIfInBounds_toArray, List.set_cons_zero, List.set_cons_succ]
    refine AnyX.take (i := 6) (oi := _) (v := undef) (by rw [List.getElem?_toArray]; rfl) (by kernel_rfl) (by kernel_rfl) (by kernel_rfl) (by kernel_rfl) (by kernel_rfl) (by exact fun _ _ _ h => h) (Or.inr ⟨by rfl, rfl⟩) hS ?_
    try simp only [Act.put, List.setIfInBounds_toArray, List.set_cons_zero, List.set_cons_succ]
    refine AnyX.take (i := 7) (oi := _) (v := undef) (by rw [List.getElem?_toArray]; rfl) (by kernel_rfl) (by kernel_rfl) (by kernel_rfl) (by kernel_rfl) (by kernel_rfl) (by exact fun _ _ _ h => h) (Or.inr ⟨by rfl, rfl⟩) hS ?_
    try simp only [Act.put, List.setIfInBounds_toArray, List.set_cons_zero, List.set_cons_succ]
    refine AnyX.take (i := 8) (oi := _) (v := undef) (by rw [List.getElem?_toArray]; rfl) (by kernel_rfl) (by kernel_rfl) (by kernel_rfl) (by kernel_rfl) (by kernel_rfl) (by exact fun _ _ _ h => h) (Or.inr ⟨by rfl, rfl⟩) hS ?_
    try simp only [Act.put, List.setIfInBounds_toArray, List.set_cons_zero, List.set_cons_succ]
    refine AnyX.take (i := 9) (oi := _) (v := undef) (by rw [List.getElem?_toArray]; rfl) (by kernel_rfl) (by kernel_rfl) (by kernel_rfl) (by kernel_rfl) (by kernel_rfl) (by exact fun _ _ _ h => h) (Or.inr ⟨by rfl, rfl⟩) hS ?_
    try simp only [Act.put, List.setIfInBounds_toArray, List.set_cons_zero, List.set_cons_succ]
    refine AnyX.take (i := 10) (oi := _) (v := ?_) (by rw [List.getElem?_toArray]; rfl) (by kernel_rfl) (by kernel_rfl) (by kernel_rfl) (by kernel_rfl) (by kernel_rfl) (by exact fun _ _ _ h => h) (Or.inl ⟨by rfl, ?_⟩) hS ?_
    rotate_left
    · (intro wS hSw; (try dsimp only at hSw); go_simp; try with_reducible rfl)
    try simp only [Act.put, List.setIfInBounds_toArray, List.set_cons_zero, List.set_cons_succ]
    refine AnyX.only (i := 11) (o := _) (by kernel_rfl) (by rw [List.getElem?_toArray]; rfl) (fun K hK => ?_)
    have c_R0 := R0.cells; have f_R0 := R0.frozens
    go_simp
    clear c_R0 f_R0
    have n_R9 := R9.keep (show ((w7.setCell ⟨w.heap.size, 0, none⟩ (.string ak)).setCell ⟨w.heap.size, 1, none⟩ (.string rp)).heap[_]? = _ from by repeat rw [Below.heap_setCell _ _ _ _ (by simp <;> omega)])
    have n_R0 : Row ((w7.setCell ⟨w.heap.size, 0, none⟩ (.string ak)).setCell ⟨w.heap.size, 1, none⟩ (.string rp)) (w.heap.size) 179 [.string ak, .string rp] := by simpa using ((R0.set 0 (.string ak)).set 1 (.string rp))
    have n_hB : Below w.heap.size w ((w7.setCell ⟨w.heap.size, 0, none⟩ (.string ak)).setCell ⟨w.heap.size, 1, none⟩ (.string rp)) := by
      repeat refine Below.setCell ?_ (by simp <;> omega) _
      exact hB
    clear hB R0 R9
    have hs_w8 : w7.heap.size ≤ ((w7.setCell ⟨w.heap.size, 0, none⟩ (.string ak)).setCell ⟨w.heap.size, 1, none⟩ (.string rp)).heap.size := by simp
    generalize ((w7.setCell ⟨w.heap.size, 0, none⟩ (.string ak)).setCell ⟨w.heap.size, 1, none⟩ (.string rp)) = w8 at *
    have hB := n_hB; clear n_hB
    have R0 := n_R0; clear n_R0
    have R9 := n_R9; clear n_R9
    clear hS
    have hS : (fun w' => w'.cell? ⟨w4.heap.size, 0, none⟩ = some (.string ak) ∧ w'.cell? ⟨w4.heap.size, 1, none⟩ = some (.string rp)) w8 := ⟨R9.cells 0, R9.cells 1⟩
    refine hK.out _ _ (fun _ => hS) ?_
    clear hK K
    try simp only [Act.put, List.setIfInBounds_toArray, List.set_cons_zero, List.set_cons_succ]
    refine AnyX.only (i := 12) (o := _) (by kernel_rfl) (by rw [List.getElem?_toArray]; rfl) (fun K hK => ?_)
    try go_simp
    clear hS
    have hS : (fun w' => w'.cell? ⟨w4.heap.size, 0, none⟩ = some (.string ak) ∧ w'.cell? ⟨w4.heap.size, 1, none⟩ = some (.string rp)) w8 := ⟨R9.cells 0, R9.cells 1⟩
    refine hK.out _ _ (fun _ => hS) ?_
    clear hK K
    try simp only [Act.put, List.setIfInBounds_toArray, List.set_cons_zero, List.set_cons_succ]
    refine AnyX.done (by kernel_rfl) ?_ _
    (try clear hS)
    have c_R0 := R0.cells; have f_R0 := R0.frozens
    go_wp2_with fail
    clear c_R0 f_R0
    refine bodyPost_ret (v := .tuple #[.agg #[.string ak, .string rp], .bool false]) ?_ rfl ⟨?_, hB⟩
    · have c_R0 := R0.cells; have f_R0 := R0.frozens
      simp [results, Tryz.results160, go_sem, c_R0, f_R0]
    · rw [hno.out]; simp only [bs_of, Bool.false_and]
  · have hL := Lib.hid (fun w => l27Line_c k ak rp w hk (good_bs hg))
    have hls : (bs (lineL k ak.data.toList rp.data.toList)).size ≤ 400 := by rw [bs_size]; have := lineL_len hk (good_bs hg); omega
    have hcmp := Lib.hid (show (true && (lineL k ak.data.toList rp.data.toList == s.data.toList ++ [10])) = ((bs (lineL k ak.data.toList rp.data.toList)).toList == (s ++ (⟨#[10]⟩ : ByteArray)).toList) from by rw [Bool.true_and, ByteArray.toList_eq, ByteArray.toList_eq, bs_list, app_list])
    rw [hg] at hG hno
    replace hG := Lib.hid hG; replace hno := Lib.hid hno.out
    refine AnyX.start (S := (fun w' => w'.cell? ⟨w4.heap.size, 0, none⟩ = some (.string ak) ∧ w'.cell? ⟨w4.heap.size, 1, none⟩ = some (.string rp))) (X := (fun _ => false)) (by kernel_rfl) ?_
    have al : Below w5.heap.size w5 w5.drew := belowDrewN (Below.refl _ _) 1
    have hs_w9 := al.size
    replace R0 := R0.below al
    replace R9 := R9.below al
    replace hB := tr hB al (Nat.le_refl _)
    generalize w5.drew = w9 at *
    clear al
    have hS : (fun w' => w'.cell? ⟨w4.heap.size, 0, none⟩ = some (.string ak) ∧ w'.cell? ⟨w4.heap.size, 1, none⟩ = some (.string rp)) w9 := ⟨R9.cells 0, R9.cells 1⟩
    refine AnyX.take (i := 0) (oi := _) (v := ?_) (by rw [List.getElem?_toArray]; rfl) (by kernel_rfl) (by kernel_rfl) (by kernel_rfl) (by kernel_rfl) (by kernel_rfl) (by exact fun _ _ _ h => h) (Or.inl ⟨by rfl, ?_⟩) hS ?_
    rotate_left
    · (intro wS hSw; (try dsimp only at hSw); go_simp; try with_reducible rfl)
    try simp only [Act.put, List.setIfInBounds_toArray, List.set_cons_zero, List.set_cons_succ]
    refine AnyX.take (i := 1) (oi := _) (v := ?_) (by rw [List.getElem?_toArray]; rfl) (by kernel_rfl) (by kernel_rfl) (by kernel_rfl) (by kernel_rfl) (by kernel_rfl) (by exact fun _ _ _ h => h) (Or.inl ⟨by rfl, ?_⟩) hS ?_
    rotate_left
    · (intro wS hSw; (try dsimp only at hSw); go_simp; try with_reducible rfl)
    try simp only [Act.put, List.setIfInBounds_toArray, List.set_cons_zero, List.set_cons_succ]
    refine AnyX.only (i := 2) (o := _) (by kernel_rfl) (by rw [List.getElem?_toArray]; rfl) (fun K hK => ?_)
    go_simp
    go_at_call 202
    refine (hG.out _).mono ?_
    rintro e w10 ⟨rfl, hb⟩
    have hs_w10 := hb.size
    replace R0 := R0.below hb
    replace R9 := R9.below hb
    replace hB := tr hB hb (Nat.le_refl _)
    clear hb
    clear hS
    have hS : (fun w' => w'.cell? ⟨w4.heap.size, 0, none⟩ = some (.string ak) ∧ w'.cell? ⟨w4.heap.size, 1, none⟩ = some (.string rp)) w10 := ⟨R9.cells 0, R9.cells 1⟩
    refine hK.out _ _ (fun _ => hS) ?_
    clear hK K
    try simp only [Act.put, List.setIfInBounds_toArray, List.set_cons_zero, List.set_cons_succ]
    refine AnyX.take (i := 3) (oi := _) (v := ?_) (by rw [List.getElem?_toArray]; rfl) (by kernel_rfl) (by kernel_rfl) (by kernel_rfl) (by kernel_rfl) (by kernel_rfl) (by exact fun _ _ _ h => h) (Or.inl ⟨by rfl, ?_⟩) hS ?_
    rotate_left
    · (intro wS hSw; (try dsimp only at hSw); go_simp; try with_reducible rfl)
    try simp only [Act.put, List.setIfInBounds_toArray, List.set_cons_zero, List.set_cons_succ]
    refine AnyX.take (i := 4) (oi := _) (v := ?_) (by rw [List.getElem?_toArray]; rfl) (by kernel_rfl) (by kernel_rfl) (by kernel_rfl) (by kernel_rfl) (by kernel_rfl) (by exact fun _ _ _ h => h) (Or.inl ⟨by rfl, ?_⟩) hS ?_
    rotate_left
    · (intro wS hSw; (try dsimp only at hSw); go_simp; try with_reducible rfl)
    try simp only [Act.put, List.setIfInBounds_toArray, List.set_cons_zero, List.set_cons_succ]
    refine AnyX.take (i := 5) (oi := _) (v := ?_) (by rw [List.getElem?_toArray]; rfl) (by kernel_rfl) (by kernel_rfl) (by kernel_rfl) (by kernel_rfl) (by kernel_rfl) (by exact fun _ _ _ h => h) (Or.inl ⟨by rfl, ?_⟩) hS ?_
    rotate_left
    · (intro wS hSw; (try dsimp only at hSw); go_simp; try with_reducible rfl)
    try simp only [Act.put, List.setIfInBounds_toArray, List.set_cons_zero, List.set_cons_succ]
    refine AnyX.take (i := 7) (oi := _) (v := ?_) (by rw [List.getElem?_toArray]; rfl) (by kernel_rfl) (by kernel_rfl) (by kernel_rfl) (by kernel_rfl) (by kernel_rfl) (by exact fun _ _ _ h => h) (Or.inl ⟨by rfl, ?_⟩) hS ?_
    rotate_left
    · (intro wS hSw; (try dsimp only at hSw); go_simp; try with_reducible rfl)
    try simp only [Act.put, List.setIfInBounds_toArray, List.set_cons_zero, List.set_cons_succ]
    refine AnyX.take (i := 8) (oi := _) (v := ?_) (by rw [List.getElem?_toArray]; rfl) (by kernel_rfl) (by kernel_rfl) (by kernel_rfl) (by kernel_rfl) (by kernel_rfl) (by exact fun _ _ _ h => h) (Or.inl ⟨by rfl, ?_⟩) hS ?_
    rotate_left
    · (intro wS hSw; (try dsimp only at hSw); go_simp; rw [if_neg (by simp; omega)]; try with_reducible rfl)
    try simp only [Act.put, List.setIfInBounds_toArray, List.set_cons_zero, List.set_cons_succ]
    refine AnyX.only (i := 6) (o := _) (by kernel_rfl) (by rw [List.getElem?_toArray]; rfl) (fun K hK => ?_)
    go_simp
    go_at_call 203
    refine (hL.out _).mono ?_
    rintro e w11 ⟨rfl, hb⟩
    have hs_w11 := hb.size
    replace R0 := R0.below hb
    replace R9 := R9.below hb
    replace hB := tr hB hb (Nat.le_refl _)
    clear hb
    clear hS
    have hS : (fun w' => w'.cell? ⟨w4.heap.size, 0, none⟩ = some (.string ak) ∧ w'.cell? ⟨w4.heap.size, 1, none⟩ = some (.string rp)) w11 := ⟨R9.cells 0, R9.cells 1⟩
    refine hK.out _ _ (fun _ => hS) ?_
    clear hK K
    try simp only [Act.put, List.setIfInBounds_toArray, List.set_cons_zero, List.set_cons_succ]
    refine AnyX.take (i := 9) (oi := _) (v := ?_) (by rw [List.getElem?_toArray]; rfl) (by kernel_rfl) (by kernel_rfl) (by kernel_rfl) (by kernel_rfl) (by kernel_rfl) (by exact fun _ _ _ h => h) (Or.inl ⟨by rfl, ?_⟩) hS ?_
    rotate_left
    · (intro wS hSw; (try dsimp only at hSw); go_simp; try with_reducible rfl)
    try simp only [Act.put, List.setIfInBounds_toArray, List.set_cons_zero, List.set_cons_succ]
    refine AnyX.take (i := 10) (oi := _) (v := ?_) (by rw [List.getElem?_toArray]; rfl) (by kernel_rfl) (by kernel_rfl) (by kernel_rfl) (by kernel_rfl) (by kernel_rfl) (by exact fun _ _ _ h => h) (Or.inl ⟨by rfl, ?_⟩) hS ?_
    rotate_left
    · (intro wS hSw; (try dsimp only at hSw); go_simp; try with_reducible rfl)
    try simp only [Act.put, List.setIfInBounds_toArray, List.set_cons_zero, List.set_cons_succ]
    refine AnyX.only (i := 11) (o := _) (by kernel_rfl) (by rw [List.getElem?_toArray]; rfl) (fun K hK => ?_)
    have c_R0 := R0.cells; have f_R0 := R0.frozens
    go_simp
    clear c_R0 f_R0
    have n_R9 := R9.keep (show ((w11.setCell ⟨w.heap.size, 0, none⟩ (.string ak)).setCell ⟨w.heap.size, 1, none⟩ (.string rp)).heap[_]? = _ from by repeat rw [Below.heap_setCell _ _ _ _ (by simp <;> omega)])
    have n_R0 : Row ((w11.setCell ⟨w.heap.size, 0, none⟩ (.string ak)).setCell ⟨w.heap.size, 1, none⟩ (.string rp)) (w.heap.size) 179 [.string ak, .string rp] := by simpa using ((R0.set 0 (.string ak)).set 1 (.string rp))
    have n_hB : Below w.heap.size w ((w11.setCell ⟨w.heap.size, 0, none⟩ (.string ak)).setCell ⟨w.heap.size, 1, none⟩ (.string rp)) := by
      repeat refine Below.setCell ?_ (by simp <;> omega) _
      exact hB
    clear hB R0 R9
    have hs_w12 : w11.heap.size ≤ ((w11.setCell ⟨w.heap.size, 0, none⟩ (.string ak)).setCell ⟨w.heap.size, 1, none⟩ (.string rp)).heap.size := by simp
    generalize ((w11.setCell ⟨w.heap.size, 0, none⟩ (.string ak)).setCell ⟨w.heap.size, 1, none⟩ (.string rp)) = w12 at *
    have hB := n_hB; clear n_hB
    have R0 := n_R0; clear n_R0
    have R9 := n_R9; clear n_R9
    clear hS
    have hS : (fun w' => w'.cell? ⟨w4.heap.size, 0, none⟩ = some (.string ak) ∧ w'.cell? ⟨w4.heap.size, 1, none⟩ = some (.string rp)) w12 := ⟨R9.cells 0, R9.cells 1⟩
    refine hK.out _ _ (fun _ => hS) ?_
    clear hK K
    try simp only [Act.put, List.setIfInBounds_toArray, List.set_cons_zero, List.set_cons_succ]
    refine AnyX.only (i := 12) (o := _) (by kernel_rfl) (by rw [List.getElem?_toArray]; rfl) (fun K hK => ?_)
    try go_simp
    clear hS
    have hS : (fun w' => w'.cell? ⟨w4.heap.size, 0, none⟩ = some (.string ak) ∧ w'.cell? ⟨w4.heap.size, 1, none⟩ = some (.string rp)) w12 := ⟨R9.cells 0, R9.cells 1⟩
    refine hK.out _ _ (fun _ => hS) ?_
    clear hK K
    try simp only [Act.put, List.setIfInBounds_toArray, List.set_cons_zero, List.set_cons_succ]
    refine AnyX.done (by kernel_rfl) ?_ _
    (try clear hS)
    have c_R0 := R0.cells; have f_R0 := R0.frozens
    go_wp2_with fail
    clear c_R0 f_R0
    refine bodyPost_ret (v := .tuple #[.agg #[.string ak, .string rp], .bool ((bs (lineL k ak.data.toList rp.data.toList)).toList == (s ++ (⟨#[10]⟩ : ByteArray)).toList)]) ?_ rfl ⟨?_, hB⟩
    · have c_R0 := R0.cells; have f_R0 := R0.frozens
      simp [results, Tryz.results160, go_sem, c_R0, f_R0]
    · rw [hno.out]; simp only [bs_of, hcmp.out]
end Go.Proofs.YtccmhdheoeglmaaGreatDoor.Lg
/- A round's regions out of the walk that is used everywhere: under the wide fence an operation that is no defer statement is carried out in a round as anywhere. No program in sight. -/
namespace Go.Proofs.YtccmhdheoeglmaaGreatDoor
open Go.RowKit

theorem rows_wide {n : Nat} {P : Program} {row : String} {args : Array Value} {w : World} {R : Value → World → Prop} (h : Rows P row args w R) : RowsIn Fence.wide n P row args w R := fun c cs _ => by
  obtain ⟨v, w', r, s⟩ := h c cs
  exact ⟨v, w', r, stepsIn_wide.2 s⟩
theorem oper_round {l n : Nat} {P : Program} {o : Oper} {a : Act} {w : World} {K : Act → World → Prop} {Q : Exit → Act → World → Prop} (hd : ∀ c, o.op ≠ .defer c) (h : o.wp P a w K Q) :
    o.wpIn (Fence.wide.inRound l) n P a w K Q := by
  refine ⟨fun f _ => trivial, ?_⟩
  rw [Fence.inRound_round, Oper.semAt_some l _ _ hd]
  unfold Oper.wp at h
  generalize (execOp a.eval o).run P w = r at *
  cases r with
  | ok x w' =>
    cases x <;> simp only [Oper.upon, Oper.uponIn] at h ⊢ <;>
      first
        | exact h
        | exact ⟨(fun e => by cases e), CallsIn.inRound l (callsIn_wide.2 h)⟩
        | exact ⟨(fun e => by cases e), rows_wide h⟩
  | halt x w' => cases x <;> simp only [Oper.upon, Oper.uponIn] at h ⊢ <;> exact h
def plainOp (o : Oper) : Bool := match o.op with
  | .defer _ => false
  | _ => true
theorem plainOp_ne {o : Oper} (h : plainOp o = true) : ∀ c, o.op ≠ .defer c := fun c e => by simp [plainOp, e] at h
theorem list_round {l n : Nat} {P : Program} {ops : Array Oper} {Q : Exit → Act → World → Prop} (hQ : ∀ a w, ¬ Q .outgrown a w) : ∀ {lst : List Oper} {a : Act} {w : World},
    (∀ o ∈ lst, plainOp o = true) → wpList P ops Q lst a w → wpListIn (Fence.wide.inRound l) n P ops Q lst a w
  | [], _, _, _, h => h
  | o :: rest, a, w, hp, h => by
    unfold wpList at h
    unfold wpListIn
    split
    · rename_i hw
      rw [if_pos hw] at h
      rcases h with h | ⟨_, a', w', h⟩
      · refine oper_round (plainOp_ne (hp o (by simp))) (Oper.wp_mono (fun a w h => ?_) h)
        exact list_round hQ (fun o ho => hp o (by simp [ho])) h
      · exact absurd h (hQ a' w')
    · rename_i hw
      rw [if_neg hw] at h
      exact ⟨fun f _ => trivial, list_round hQ (fun o ho => hp o (by simp [ho])) h⟩
theorem region_round {l n id : Nat} {P : Program} {ops : List Oper} {Q : Exit → Act → World → Prop} {a : Act} {w : World} (hQ : ∀ a w, ¬ Q .outgrown a w) (hp : (ops.all plainOp) = true)
    (h : wpList P ops.toArray Q ops a w) : (Code.region id ops.toArray false).wpIn (Fence.wide.inRound l) n P Q a w :=
  wpIn_region_lit (list_round hQ (fun o ho => List.all_eq_true.1 hp o ho) h)
theorem any_round {l n : Nat} {P : Program} {md : Region.Mode} {ops : Array Oper} {Q : Exit → Act → World → Prop} (hQ : ∀ a w, ¬ Q .outgrown a w) (hp : (ops.toList.all plainOp) = true) : ∀ (f : Nat) (listed : Array Bool) (a : Act) (w : World),
    wpAny P md ops Q f listed a w → wpAnyIn (Fence.wide.inRound l) n P md ops Q f listed a w
  | 0, _, _, _, h => h
  | f + 1, listed, a, w, h => by
    refine ⟨h.1, fun i hi => ?_⟩
    have h1 := h.2 i hi
    unfold wpOp at h1
    unfold wpOpIn
    cases ho : ops[i]? with
    | none => rw [ho] at h1; exact any_round hQ hp f _ _ _ h1
    | some o =>
      rw [ho] at h1
      have hpo : plainOp o = true := List.all_eq_true.1 hp o (by rw [← Array.getElem?_toList] at ho; exact List.mem_of_getElem? ho)
      dsimp only at h1 ⊢
      split
      · rename_i hw
        rw [if_pos hw] at h1
        rcases h1 with h1 | ⟨_, a', w', h1⟩
        · exact oper_round (plainOp_ne hpo) (Oper.wp_mono (fun a w h => any_round hQ hp f _ a w h) h1)
        · exact absurd h1 (hQ a' w')
      · rename_i hw
        rw [if_neg hw] at h1
        exact ⟨fun f _ => trivial, any_round hQ hp f _ _ _ h1⟩
end Go.Proofs.YtccmhdheoeglmaaGreatDoor
/- A range over an iterator that keeps its state in a cell of its own (strings.Lines): the statement's law, at the wide fence. No program in sight. -/
namespace Go.Proofs.YtccmhdheoeglmaaGreatDoor
open Go.RowKit

/-- new blocks, and whatever becomes of block b, leave it standing -/
def AbB {β : Type} (b : List Nat) (J : β → World → Prop) : Prop := ∀ s W W', J s W → Keep b W W' → J s W'
/-- blocks that lie aS they lay -/
def Still (ks : List Nat) (W W' : World) : Prop := ∀ k ∈ ks, W'.heap[k]? = W.heap[k]?
/-- the iterator hands over these strings, one behind the other; its state lies in block b -/
def SeqBox (P : Program) (gf : Nat) (lb : Array Value) (b : Nat) (xs : List ByteArray) (W0 : World) : Prop :=
  ∀ (n l : Nat) (J Jx : List ByteArray → World → Prop), AbB [b] J → AbB [b] Jx →
    (∀ m pre x post W1, xs = pre ++ x :: post → J pre W1 → YieldAt Fence.wide m P l #[.string x] W1 fun e W' =>
      (e = .returned (.bool true) ∧ J (pre ++ [x]) W' ∧ W'.heap[b]? = W1.heap[b]?) ∨ (e = .returned (.bool false) ∧ Jx (pre ++ [x]) W')) →
    J [] W0 → CallsIn Fence.wide n P gf (#[.func (.yield l) #[] #[]] ++ lb) W0 fun e W' => (∃ v, e = .returned v) ∧ (J xs W' ∨ ∃ pre x post, xs = pre ++ x :: post ∧ Jx (pre ++ [x]) W')
/-- how a round's body may be left -/
def boxPost (ks : List Nat) (I : List ByteArray → World → Prop) (Ix : Code → List ByteArray → World → Prop) (ys : List ByteArray) (W : World) : Exit → Act → World → Prop
  | .normal, _, W' => Still ks W W' ∧ I ys W'
  | .ret, _, W' => Still ks W W' ∧ Ix .ret ys W'
  | .exit id, _, W' => Still ks W W' ∧ Ix (.exit id) ys W'
  | .goto t, _, W' => Still ks W W' ∧ Ix (.goto t) ys W'
  | .panic _, _, _ => False
  | .outgrown, _, _ => False
theorem keep_putObj (W : World) (l : Nat) (o : Obj) : Keep [l] W (W.putObj l o) :=
  ⟨rfl, rfl, rfl, by simp, fun k _ hk => World.putObj_heap_other (fun e => hk (by simp [e]))⟩

theorem wp_range_box {P : Program} {g : Operand} {ps : Array Tmp} {assign body : Code} {Q : Exit → Act → World → Prop} {a : Act} {w : World} {n gf b : Nat} {lb : Array Value} {xs : List ByteArray}
    (hg : a.eval g = .func (.func gf) #[] lb) (eg : ∀ args w, (callFunc gf args).run P w = .ok (.enter gf args) w) (hps : ps.size = 1) (hb : b < w.heap.size)
    (hseq : ∀ W0, W0.heap[b]? = w.heap[b]? → SeqBox P gf lb b xs W0)
    (I : List ByteArray → World → Prop) (Ix : Code → List ByteArray → World → Prop) (hI : AbB [b, w.heap.size + 1] I) (hIx : ∀ c, AbB [b, w.heap.size + 1] (Ix c)) (h0 : I [] w) (a₁ : ByteArray → Act)
    (hassign : ∀ (m : Nat) (x : ByteArray) (W : World) (K : Act → World → Prop), K (a₁ x) W →
      assign.wpIn (Fence.wide.inRound (w.heap.size + 1)) m P (Exit.then K (fun _ _ _ => False)) { tmps := (ps.zip #[.string x]).foldl (fun t (p, v) => t.setIfInBounds p v) a.tmps, defers := [] } W)
    (hbody : ∀ (m : Nat) (pre post : List ByteArray) (x : ByteArray) (W : World), xs = pre ++ x :: post → w.heap.size + 2 ≤ W.heap.size → I pre W →
      body.wpIn (Fence.wide.inRound (w.heap.size + 1)) m P (boxPost [b, w.heap.size, w.heap.size + 1] I Ix (pre ++ [x]) W) (a₁ x) W)
    (hdone : ∀ (W : World), I xs W → W.heap[w.heap.size]? = some (.deferred (some [])) → Q .normal { a with defers := { target := .collected w.heap.size, args := #[] } :: a.defers } W)
    (hstop : ∀ (c : Code) (pre post : List ByteArray) (x : ByteArray) (W : World), xs = pre ++ x :: post → Ix c (pre ++ [x]) W → W.heap[w.heap.size]? = some (.deferred (some [])) →
      c.wpIn Fence.wide n P Q { a with defers := { target := .collected w.heap.size, args := #[] } :: a.defers } W) :
    (Code.rangeFunc g ps assign body).wpIn Fence.wide n P Q a w := by
  refine wpIn_rangeFunc ?_
  intro fn hfn
  rw [Fence.wide_round]
  obtain ⟨rec, hrec⟩ : ∃ rec : LoopState → Option Code → Loop, rec = fun st pe => { state := st, pending := pe, fn, tmps := a.tmps, params := ps, assign, body, defers := w.heap.size } := ⟨_, rfl⟩
  obtain ⟨W1, hW1⟩ : ∃ W1, (w.alloc (.deferred (some []))).alloc (.loop (rec .ready none)) = W1 := ⟨_, rfl⟩
  have hL1 : W1.heap[w.heap.size + 1]? = some (.loop (rec .ready none)) := by
    rw [← hW1]; have := World.alloc_heap_new (w.alloc (.deferred (some []))) (.loop (rec .ready none)); rwa [World.size_alloc] at this
  have hK1 : W1.heap[w.heap.size]? = some (.deferred (some [])) := by
    rw [← hW1]; exact (Below.heap_alloc _ _ _ (by simp)).trans (World.alloc_heap_new w _)
  have hk1 : Keep [b, w.heap.size + 1] w W1 := by rw [← hW1]; exact ((Keep.refl _ _).alloc _).alloc _
  have hb1 : W1.heap[b]? = w.heap[b]? := by
    rw [← hW1]; exact (Below.heap_alloc _ _ _ (by simp; omega)).trans (Below.heap_alloc _ _ _ hb)
  refine ⟨w.heap.size + 1, [{ target := .collected w.heap.size, args := #[] }], W1, { target := .fn (.func gf) lb, args := #[.func (.yield (w.heap.size + 1)) #[] #[]] }, W1, gf,
    #[.func (.yield (w.heap.size + 1)) #[] #[]] ++ lb, W1, ?_, ?_, ?_, ?_, (fun e => by cases e), ?_⟩
  · rw [← hW1, hrec]; exact run_enterLoop_outer _ _ _ _ _
  · simp only [resolve, hg]
    simp [go_sem]
  · intro f' hf'; trivial
  · simp [invoke, go_sem, eg]
  have far : ∀ {W W' : World} {k : Nat} {o : Obj}, Keep [b] W W' → b < w.heap.size → w.heap.size ≤ k → W.heap[k]? = some o → W'.heap[k]? = some o := fun {W W' k o} hk h1 h2 h3 =>
    (hk.block k (Array.getElem?_eq_some_iff.1 h3).1 (by simp; omega)).trans h3
  have wider : ∀ {W W' : World}, Keep [b] W W' → Keep [b, w.heap.size + 1] W W' := fun h => h.mono fun x hx _ => by simp at hx ⊢; omega
  have wider2 : ∀ {W W' : World}, Keep [w.heap.size + 1] W W' → Keep [b, w.heap.size + 1] W W' := fun h => h.mono fun x hx _ => by simp at hx ⊢; omega
  refine (hseq W1 hb1 (n - 1) (w.heap.size + 1)
    (fun pre W => I pre W ∧ W.heap[w.heap.size + 1]? = some (.loop (rec .ready none)) ∧ W.heap[w.heap.size]? = some (.deferred (some [])))
    (fun pre W => ∃ c, Ix c pre W ∧ W.heap[w.heap.size + 1]? = some (.loop (rec .done (some c))) ∧ W.heap[w.heap.size]? = some (.deferred (some [])))
    (fun s A B hs hk => ⟨hI s A B hs.1 (wider hk), far hk hb (by omega) hs.2.1, far hk hb (by omega) hs.2.2⟩)
    (fun s A B hs hk => by
      obtain ⟨c, hc, hl, hd⟩ := hs
      exact ⟨c, hIx c s A B hc (wider hk), far hk hb (by omega) hl, far hk hb (by omega) hd⟩)
    ?_ ⟨hI _ _ _ h0 hk1, hL1, hK1⟩).mono ?_
  · rintro m pre x post W hxs ⟨hi, hl, hk⟩
    have hlt : w.heap.size + 1 < W.heap.size := (Array.getElem?_eq_some_iff.1 hl).1
    have hy := run_yield (P := P) (args := #[.string x]) hl (by rw [hrec]; exact hps.symm)
    rw [hrec] at hy
    refine ⟨fn, _, assign, body, hy, roundIn_of_wpIn hfn (hassign m x W _ ⟨_, run_beginRound hl (by rw [hrec]), ?_⟩)⟩
    obtain ⟨W2, hW2⟩ : ∃ W2, W.putObj (w.heap.size + 1) (.loop { rec .ready none with state := .busy }) = W2 := ⟨_, rfl⟩
    rw [hW2]
    have hl2 : W2.heap[w.heap.size + 1]? = some (.loop { rec .ready none with state := .busy }) := by rw [← hW2]; exact World.putObj_heap_same hlt
    have hk2 : W2.heap[w.heap.size]? = some (.deferred (some [])) := by rw [← hW2]; exact (World.putObj_heap_other (by omega)).trans hk
    have hb2 : W2.heap[b]? = W.heap[b]? := by rw [← hW2]; exact World.putObj_heap_other (by omega)
    have hi2 : I pre W2 := hI _ _ _ hi (by rw [← hW2]; exact wider2 (keep_putObj _ _ _))
    have hs2 : w.heap.size + 2 ≤ W2.heap.size := by rw [← hW2]; simp; omega
    refine wpIn_mono (hbody m pre post x _ hxs hs2 hi2) ?_
    have fin : ∀ (jump : Option Code) (W3 : World), Still [b, w.heap.size, w.heap.size + 1] W2 W3 →
        (Instr.endRound (w.heap.size + 1) jump).run P W3 = .ok (.bool jump.isNone) (W3.putObj (w.heap.size + 1) (.loop (rec (if jump.isNone then .ready else .done) jump))) ∧
        (W3.putObj (w.heap.size + 1) (.loop (rec (if jump.isNone then .ready else .done) jump))).heap[w.heap.size + 1]? = some (.loop (rec (if jump.isNone then .ready else .done) jump)) ∧
        (W3.putObj (w.heap.size + 1) (.loop (rec (if jump.isNone then .ready else .done) jump))).heap[w.heap.size]? = some (.deferred (some [])) ∧
        (W3.putObj (w.heap.size + 1) (.loop (rec (if jump.isNone then .ready else .done) jump))).heap[b]? = W.heap[b]? := fun jump W3 hk3 => by
      have hl3 := (hk3 (w.heap.size + 1) (by simp)).trans hl2
      have h4 := run_endRound (P := P) jump hl3
      rw [hrec] at h4 ⊢
      exact ⟨h4, World.putObj_heap_same (Array.getElem?_eq_some_iff.1 hl3).1, (World.putObj_heap_other (by omega)).trans ((hk3 w.heap.size (by simp)).trans hk2), (World.putObj_heap_other (by omega)).trans ((hk3 b (by simp)).trans hb2)⟩
    rintro e a3 W3 hp
    cases e with
    | normal =>
      obtain ⟨hk3, hi3⟩ := hp
      obtain ⟨hr, hl4, hd4, hb4⟩ := fin none W3 hk3
      exact ⟨_, _, hr, .inl ⟨rfl, ⟨hI _ _ _ hi3 (wider2 (keep_putObj _ _ _)), hl4, hd4⟩, hb4⟩⟩
    | ret =>
      obtain ⟨hk3, hi3⟩ := hp
      obtain ⟨hr, hl4, hd4, hb4⟩ := fin (some .ret) W3 hk3
      exact ⟨_, _, hr, .inr ⟨rfl, .ret, hIx _ _ _ _ hi3 (wider2 (keep_putObj _ _ _)), hl4, hd4⟩⟩
    | exit id =>
      obtain ⟨hk3, hi3⟩ := hp
      obtain ⟨hr, hl4, hd4, hb4⟩ := fin (some (.exit id)) W3 hk3
      exact ⟨_, _, hr, .inr ⟨rfl, .exit id, hIx _ _ _ _ hi3 (wider2 (keep_putObj _ _ _)), hl4, hd4⟩⟩
    | goto t =>
      obtain ⟨hk3, hi3⟩ := hp
      obtain ⟨hr, hl4, hd4, hb4⟩ := fin (some (.goto t)) W3 hk3
      exact ⟨_, _, hr, .inr ⟨rfl, .goto t, hIx _ _ _ _ hi3 (wider2 (keep_putObj _ _ _)), hl4, hd4⟩⟩
    | panic ch => exact hp.elim
    | outgrown => exact hp.elim
  · rintro e W2 ⟨⟨v, rfl⟩, (⟨hi, hl, hk⟩ | ⟨pre, x, post, hxs, c, hi, hl, hk⟩)⟩
    · exact ⟨none, _, by have := run_endLoop (P := P) hl (by rw [hrec]; simp); rw [hrec] at this; exact this, hdone _ (hI _ _ _ hi (wider2 (keep_putObj _ _ _))) ((World.putObj_heap_other (by omega)).trans hk)⟩
    · exact ⟨some c, _, by have := run_endLoop (P := P) hl (by rw [hrec]; simp); rw [hrec] at this; exact this, hstop c pre post x _ hxs (hIx _ _ _ _ hi (wider2 (keep_putObj _ _ _))) ((World.putObj_heap_other (by omega)).trans hk)⟩
end Go.Proofs.YtccmhdheoeglmaaGreatDoor
/- Walks: strings.Lines and its iterator. -/
namespace Go.Proofs.YtccmhdheoeglmaaGreatDoor.Lg
open Go.RowKit
theorem IndexByte_c (s : ByteArray) (c : UInt8) (w : World) : Calls Tryz.prog 181 #[.string s, .int .u8 (c.toNat : Int)] w fun e w' => e = .returned (.int .i64 (Lib.indexByte s.data.toList c)) ∧ w = w' := by
  refine (Tryz.strings_IndexByte s c.toNat w).mono ?_
  rintro e w' ⟨rfl, rfl⟩
  exact ⟨by simp, rfl⟩
def linesB (s : ByteArray) : List ByteArray := (linesOf s.data.toList).map bs
theorem linesB_nil {s : ByteArray} (h : ¬ 0 < s.size) : linesB s = [] := by
  have : s.data.toList = [] := List.eq_nil_of_length_eq_zero (by rw [size_list]; omega)
  unfold linesB; rw [this]; rfl
theorem linesB_cut {s : ByteArray} (h : 10 ∈ s.data.toList) : linesB s = bs (upTo 10 s.data.toList ++ [10]) :: linesB (bs (behind 10 s.data.toList)) ∧
    s.extract 0 ((upTo 10 s.data.toList).length + 1) = bs (upTo 10 s.data.toList ++ [10]) ∧ s.extract ((upTo 10 s.data.toList).length + 1) s.size = bs (behind 10 s.data.toList) := by
  refine ⟨?_, ?_, (cut_yes h).2⟩
  · rcases split_at 10 s.data.toList with ⟨_, h2⟩ | ⟨h2, _⟩
    · unfold linesB; rw [bs_list]
      conv => lhs; rw [h2]
      rw [linesOf_nl _ upTo_mem]; rfl
    · exact absurd h h2
  · rcases split_at 10 s.data.toList with ⟨_, h2⟩ | ⟨h2, _⟩
    · rw [Lib.extract_eq]; unfold bs; congr 2
      rw [List.drop_zero, Nat.sub_zero]
      refine (congrArg (List.take _) h2).trans ?_
      rw [List.take_append, List.take_of_length_le (by omega)]; simp
    · exact absurd h h2
theorem linesB_last {s : ByteArray} (h0 : 0 < s.size) (h : 10 ∉ s.data.toList) : linesB s = [s] := by
  unfold linesB; rw [linesOf_last (fun e => by have := size_list s; rw [e] at this; simp at this; omega) (fun c hc e => h (by rw [← e]; exact hc))]
  simp [bs_of]
theorem behind_lt {s : ByteArray} (h : 10 ∈ s.data.toList) : (bs (behind 10 s.data.toList)).size < s.size := by
  rcases split_at 10 s.data.toList with ⟨_, h2⟩ | ⟨h2, _⟩
  · have := congrArg List.length h2
    rw [bs_size]; rw [size_list] at this; simp at this; omega
  · exact absurd h h2
def boxLeft (b : Nat) (w : World) : Nat := match w.cell? ⟨b, 0, none⟩ with
  | some (.string r) => r.size
  | _ => 0
theorem boxLeft_eq {b : Nat} {t : TypeId} {w : World} {r : ByteArray} (h : Row w b t [.string r]) : boxLeft b w = r.size := by
  unfold boxLeft; rw [h.cell]; rfl
theorem Lines_c (s : ByteArray) (w : World) : Calls Tryz.prog 128 #[.string s] w fun e w' => e = .returned (.func (.func 180) #[] #[.pointer (some ⟨w.heap.size, 0, none⟩)]) ∧ w' = w.alloc (.cells #[.string s] 9) := by
  go_enter Tryz.func128, Tryz.ntmps128
  go_wp2_with fail
  refine bodyPost_ret (v := .func (.func 180) #[] #[.pointer (some ⟨w.heap.size, 0, none⟩)]) ?_ rfl ⟨rfl, rfl⟩
  simp [results, Tryz.results128, go_sem]
set_option maxHeartbeats 1600000 in
set_option maxRecDepth 100000 in
theorem lines_seq (s : ByteArray) (b : Nat) (W0 : World) (hs : s.size ≤ 4294967296) (hr : Row W0 b 9 [.string s]) : SeqBox Tryz.prog 180 #[.pointer (some ⟨b, 0, none⟩)] b (linesB s) W0 := by
  intro n l J Jx hJ hJx hY h0
  refine callsIn_of_wp Tryz.func180 rfl trivial ?_ rfl
  simp only [Tryz.ntmps180, List.size_toArray, List.length_cons, List.length_nil, Nat.reduceAdd, Nat.reduceSub, Array.replicate_succ, Array.replicate_zero, List.push_toArray, List.append_toArray, List.cons_append, List.nil_append]
  have c0 := hr.cells
  gi_wp2
  gi_loopw [3] (fun _ wr => ∃ (pre : List ByteArray) (r : ByteArray), Hid (linesB s = pre ++ linesB r) ∧ r.size ≤ 4294967296 ∧ Row wr b 9 [.string r] ∧ J pre wr) (fun _ wr => boxLeft b wr)
  case atStart => exact ⟨[], s, rfl, hs, hr, h0⟩
  case round =>
    obtain ⟨pre, r, hx, hrs, hrow, hj⟩ := hrel
    have hm := Lib.hid (boxLeft_eq hrow)
    have hi := fun w => IndexByte_c r 10 w
    by_cases hz : 0 < r.size
    · by_cases hn : 10 ∈ r.data.toList
      · obtain ⟨hl, hx1, hx2⟩ := linesB_cut hn
        have hbl := behind_lt hn
        have hlt := upTo_lt hn
        rw [size_list] at hlt
        rw [(indexByte_at 10 _).1 hn] at hi
        generalize (upTo 10 r.data.toList).length = i at *
        generalize bs (upTo 10 r.data.toList ++ [10]) = x at *
        generalize bs (behind 10 r.data.toList) = rest at *
        have hx3 : Hid (linesB s = pre ++ x :: linesB rest) := by have := hx.out; rw [hl] at this; exact Lib.hid this
        replace hx1 := Lib.hid hx1; replace hx2 := Lib.hid hx2
        replace hi := Lib.hid hi
        replace hY := Lib.hid hY
        have hw := Lib.hid (show IntKind.i64.wrap ((i : Int) + 1) = (i : Int) + 1 from by rw [IntKind.wrap_i64]; omega)
        have hn1 := Lib.hid (show ((i : Int) + 1).toNat = i + 1 from by omega)
        clear hx hl hn
        have c1 := hrow.cells; have f1 := hrow.frozens
        gi_wp2_with (refine ⟨trivial, (fun e => by cases e), ?_⟩; refine (callsIn_wide.2 (hi.out _)).mono ?_; rintro e w' ⟨rfl, rfl⟩)
        refine wpIn_wide.2 ?_
        clear c1 f1
        refine AnyX.start (S := (fun w' => w'.cell? ⟨b, 0, none⟩ = some (.string r))) (X := (fun i => i == 9)) (by kernel_rfl) ?_
        have al : Below wr.heap.size wr wr.drew := belowDrewN (Below.refl _ _) 1
        have hs_w1 := al.size
        replace hrow := hrow.below al
        have hB := al
        generalize wr.drew = w1 at *
        clear al
        have hS : (fun w' => w'.cell? ⟨b, 0, none⟩ = some (.string r)) w1 := hrow.cells 0
        refine AnyX.take (i := 0) (oi := _) (v := ?_) (by rw [List.getElem?_toArray]; rfl) (by kernel_rfl) (by kernel_rfl) (by kernel_rfl) (by kernel_rfl) (by kernel_rfl) (by exact fun _ _ _ h => h) (Or.inl ⟨by rfl, ?_⟩) hS ?_
        rotate_left
        · (intro wS hSw; (try dsimp only at hSw); go_simp; try with_reducible rfl)
        try simp only [Act.put, List.setIfInBounds_toArray, List.set_cons_zero, List.set_cons_succ]
        refine AnyX.take (i := 1) (oi := _) (v := ?_) (by rw [List.getElem?_toArray]; rfl) (by kernel_rfl) (by kernel_rfl) (by kernel_rfl) (by kernel_rfl) (by kernel_rfl) (by exact fun _ _ _ h => h) (Or.inl ⟨by rfl, ?_⟩) hS ?_
        rotate_left
        · (intro wS hSw; (try dsimp only at hSw); go_simp; try with_reducible rfl)
        try simp only [Act.put, List.setIfInBounds_toArray, List.set_cons_zero, List.set_cons_succ]
        refine AnyX.take (i := 2) (oi := _) (v := ?_) (by rw [List.getElem?_toArray]; rfl) (by kernel_rfl) (by kernel_rfl) (by kernel_rfl) (by kernel_rfl) (by kernel_rfl) (by exact fun _ _ _ h => h) (Or.inl ⟨by rfl, ?_⟩) hS ?_
        rotate_left
        · (intro wS hSw; (try dsimp only at hSw); go_simp; rw [hw.out]; try with_reducible rfl)
        try simp only [Act.put, List.setIfInBounds_toArray, List.set_cons_zero, List.set_cons_succ]
        refine AnyX.take (i := 3) (oi := _) (v := ?_) (by rw [List.getElem?_toArray]; rfl) (by kernel_rfl) (by kernel_rfl) (by kernel_rfl) (by kernel_rfl) (by kernel_rfl) (by exact fun _ _ _ h => h) (Or.inl ⟨by rfl, ?_⟩) hS ?_
        rotate_left
        · (intro wS hSw; (try dsimp only at hSw); go_simp; rw [if_pos (by omega), hx1.out]; try with_reducible rfl)
        try simp only [Act.put, List.setIfInBounds_toArray, List.set_cons_zero, List.set_cons_succ]
        refine AnyX.take (i := 4) (oi := _) (v := ?_) (by rw [List.getElem?_toArray]; rfl) (by kernel_rfl) (by kernel_rfl) (by kernel_rfl) (by kernel_rfl) (by kernel_rfl) (by exact fun _ _ _ h => h) (Or.inl ⟨by rfl, ?_⟩) hS ?_
        rotate_left
        · (intro wS hSw; (try dsimp only at hSw); go_simp; try with_reducible rfl)
        try simp only [Act.put, List.setIfInBounds_toArray, List.set_cons_zero, List.set_cons_succ]
        refine AnyX.take (i := 5) (oi := _) (v := ?_) (by rw [List.getElem?_toArray]; rfl) (by kernel_rfl) (by kernel_rfl) (by kernel_rfl) (by kernel_rfl) (by kernel_rfl) (by exact fun _ _ _ h => h) (Or.inl ⟨by rfl, ?_⟩) hS ?_
        rotate_left
        · (intro wS hSw; (try dsimp only at hSw); go_simp; try with_reducible rfl)
        try simp only [Act.put, List.setIfInBounds_toArray, List.set_cons_zero, List.set_cons_succ]
        refine AnyX.take (i := 6) (oi := _) (v := ?_) (by rw [List.getElem?_toArray]; rfl) (by kernel_rfl) (by kernel_rfl) (by kernel_rfl) (by kernel_rfl) (by kernel_rfl) (by exact fun _ _ _ h => h) (Or.inl ⟨by rfl, ?_⟩) hS ?_
        rotate_left
        · (intro wS hSw; (try dsimp only at hSw); go_simp; rw [hw.out]; try with_reducible rfl)
        try simp only [Act.put, List.setIfInBounds_toArray, List.set_cons_zero, List.set_cons_succ]
        refine AnyX.take (i := 7) (oi := _) (v := ?_) (by rw [List.getElem?_toArray]; rfl) (by kernel_rfl) (by kernel_rfl) (by kernel_rfl) (by kernel_rfl) (by kernel_rfl) (by exact fun _ _ _ h => h) (Or.inl ⟨by rfl, ?_⟩) hS ?_
        rotate_left
        · (intro wS hSw; (try dsimp only at hSw); go_simp; rw [if_pos (by omega), hx2.out]; try with_reducible rfl)
        try simp only [Act.put, List.setIfInBounds_toArray, List.set_cons_zero, List.set_cons_succ]
        refine AnyX.only (i := 8) (o := _) (by kernel_rfl) (by rw [List.getElem?_toArray]; rfl) (fun K hK => ?_)
        try go_simp
        clear hS
        have hS : (fun w' => w'.cell? ⟨b, 0, none⟩ = some (.string r)) w1 := hrow.cells 0
        refine hK.out _ _ (fun _ => hS) ?_
        clear hK K
        try simp only [Act.put, List.setIfInBounds_toArray, List.set_cons_zero, List.set_cons_succ]
        refine AnyX.only (i := 9) (o := _) (by kernel_rfl) (by rw [List.getElem?_toArray]; rfl) (fun K hK => ?_)
        have c_hrow := hrow.cells; have f_hrow := hrow.frozens
        go_simp
        clear c_hrow f_hrow
        refine hK.out _ _ (fun h => by cases h) ?_
        clear hK K
        try simp only [Act.put, List.setIfInBounds_toArray, List.set_cons_zero, List.set_cons_succ]
        refine AnyX.done (by kernel_rfl) ?_ _
        (try clear hS)
        have hrow2 : Row (w1.setCell ⟨b, 0, none⟩ (.string rest)) b 9 [.string rest] := hrow.set 0 (.string rest)
        have hj2 : J pre (w1.setCell ⟨b, 0, none⟩ (.string rest)) := hJ _ _ _ hj ((Keep.ofBelow hB).setCell (by simp) _)
        clear hrow hj hB
        generalize (w1.setCell ⟨b, 0, none⟩ (.string rest)) = w9 at *
        obtain ⟨fn, tmps, assign, body, hy, hR⟩ := hY.out (n - 1) pre x (linesB rest) w9 hx3.out hj2
        replace hR := Lib.hid hR
        gi_wp2
        refine ⟨(fun e => by cases e), ?_⟩
        refine hR.out.mono ?_
        rintro e W3 (⟨rfl, hJ3, hk3⟩ | ⟨rfl, hJx3⟩)
        · have hrow3 := hrow2.keep hk3
          have hm3 := boxLeft_eq hrow3
          gi_wp2
          go_roundw
          case rel => exact ⟨pre ++ [x], rest, by refine Lib.hid ?_; rw [hx3.out]; simp, by omega, hrow3, hJ3⟩
          case measure => have := hm.out; omega
        · gi_wp2
          refine bodyPost_ret (results_none rfl _ _ _) rfl ?_
          exact ⟨⟨_, rfl⟩, .inr ⟨pre, x, linesB rest, hx3.out, hJx3⟩⟩
      · have hl := linesB_last hz hn
        rw [(indexByte_at 10 _).2 hn] at hi
        have hx3 : Hid (linesB s = pre ++ r :: []) := by have := hx.out; rw [hl] at this; exact Lib.hid this
        replace hi := Lib.hid hi
        have c1 := hrow.cells; have f1 := hrow.frozens
        have hrow2 : Row (wr.setCell ⟨b, 0, none⟩ (.string ⟨#[]⟩)) b 9 [.string ⟨#[]⟩] := hrow.set 0 (.string ⟨#[]⟩)
        have hj2 : J pre (wr.setCell ⟨b, 0, none⟩ (.string ⟨#[]⟩)) := hJ _ _ _ hj ((Keep.refl _ _).setCell (by simp) _)
        obtain ⟨fn, tmps, assign, body, hy, hR⟩ := hY (n - 1) pre r [] _ hx3.out hj2
        replace hR := Lib.hid hR
        replace hrow2 := Lib.hid hrow2
        clear hx hl hn hY
        gi_wp2_with (refine ⟨trivial, (fun e => by cases e), ?_⟩; refine (callsIn_wide.2 (hi.out _)).mono ?_; rintro e w' ⟨rfl, rfl⟩)
        refine ⟨(fun e => by cases e), ?_⟩
        refine hR.out.mono ?_
        rintro e W3 (⟨rfl, hJ3, hk3⟩ | ⟨rfl, hJx3⟩)
        · have hrow3 := hrow2.out.keep hk3
          have hm3 := boxLeft_eq hrow3
          gi_wp2
          go_roundw
          case rel => exact ⟨pre ++ [r], ⟨#[]⟩, by refine Lib.hid ?_; rw [hx3.out]; simp [linesB, linesOf], Nat.zero_le _, hrow3, hJ3⟩
          case measure => have h7 := hm.out; have h8 : (⟨#[]⟩ : ByteArray).size = 0 := rfl; omega
        · gi_wp2
          refine bodyPost_ret (results_none rfl _ _ _) rfl ?_
          exact ⟨⟨_, rfl⟩, .inr ⟨pre, r, [], hx3.out, hJx3⟩⟩
    · have c1 := hrow.cells; have f1 := hrow.frozens
      gi_wp2
      go_end0
      refine ⟨⟨_, rfl⟩, .inl ?_⟩
      have h1 := hx.out
      rw [linesB_nil hz, List.append_nil] at h1
      rw [h1]; exact hj
end Go.Proofs.YtccmhdheoeglmaaGreatDoor.Lg
/- The contracts of EncodeRecord in the form that the law's proof takes. -/
namespace Go.Proofs.YtccmhdheoeglmaaGreatDoor.Lg
open Go.RowKit
def resEncodeRecord (k : Int) (x : LogRecord) : ByteArray × Bool := (bs ((encL k x.command.data.toList x.reply.data.toList).getD []), (encL k x.command.data.toList x.reply.data.toList).isSome)
def PI_EncodeRecord : ByteArray × Bool → World → Ending → World → Prop := fun (r0, r1) w e w' => e = .returned (.tuple #[.string r0, .bool r1]) ∧ Below w.heap.size w w'
theorem resEnc_no {k : Int} {x : LogRecord} (h : (btw 0 k 59 && goodRec x.command x.reply) = false) : resEncodeRecord k x = (bs [], false) := by
  rw [goodRec_L] at h
  unfold resEncodeRecord encL; rw [if_neg (by rw [h]; simp)]; rfl
theorem resEnc_yes {k : Nat} {x : LogRecord} (hk : k ≤ 59) (h : goodRec x.command x.reply = true) : resEncodeRecord (k : Int) x = (bs (lineL k x.command.data.toList x.reply.data.toList), true) := by
  rw [goodRec_L] at h
  unfold resEncodeRecord encL; rw [if_pos (by rw [h]; simp [btw]; omega)]; rfl
set_option maxHeartbeats 800000 in
theorem EncodeRecord_c (x0 : Int) (v1 : Value) (x1 : LogRecord) (F1 : List Nat) (FT : List Nat) (w : World) (h1 : IsV ELogRecord w v1 x1 F1) (hT : IsV ETab w (.agg #[]) () FT) :
    Calls Tryz.prog 130 #[.int .i64 x0, v1] w (PI_EncodeRecord (resEncodeRecord x0 x1) w) := by
  obtain ⟨_, rfl, rfl, s1, s2, rfl⟩ := h1
  have hin := fun w => within_c x0 0 59 w
  have hgd := fun w => IsValidRecord_c x1.command x1.reply w s1 s2
  have hB0 : ∀ A : Obj, Below w.heap.size w (w.alloc A) := fun A => (Below.refl _ _).alloc (Nat.le_refl _) _
  cases hb : btw 0 x0 59 with
  | false =>
    rw [resEnc_no (by rw [hb]; rfl)]
    rw [hb] at hin
    clear hb
    go_enter Tryz.func130, Tryz.ntmps130
    go_wp2_with (first | (go_at_call 85; refine (hin _).mono ?_; rintro e w' ⟨rfl, rfl⟩))
    refine bodyPost_ret (v := .tuple #[.string ⟨#[]⟩, .bool false]) ?_ rfl ⟨rfl, hB0 _⟩
    simp [results, Tryz.results130, go_sem]
  | true =>
    have hk : 0 ≤ x0 ∧ x0 ≤ 59 := by simpa [btw] using hb
    cases hg : goodRec x1.command x1.reply with
    | false =>
      rw [resEnc_no (by rw [hg]; simp)]
      rw [hb] at hin; rw [hg] at hgd
      clear hb hg
      go_enter Tryz.func130, Tryz.ntmps130
      go_wp2_with (first | (go_at_call 85; refine (hin _).mono ?_; rintro e w' ⟨rfl, rfl⟩) | (go_at_call 183; refine (hgd _).mono ?_; rintro e w1 ⟨rfl, hb1⟩))
      refine bodyPost_ret (v := .tuple #[.string ⟨#[]⟩, .bool false]) ?_ rfl ⟨rfl, (hB0 _).trans (hb1.mono (by simp))⟩
      simp [results, Tryz.results130, go_sem]
    | true =>
      obtain ⟨k, rfl⟩ := Int.eq_ofNat_of_zero_le hk.1
      have hk9 : k ≤ 59 := by omega
      rw [resEnc_yes hk9 hg]
      rw [hb] at hin; rw [hg] at hgd
      have hl := Lib.hid (fun w hT => encodeRecord_c k x1.command x1.reply FT w hk9 (goodL_good (by rw [← goodRec_L]; exact hg)) hT)
      clear hb hg hk
      have R := fun (w1 : World) (hb1 : Below (w.alloc (.cells #[.string x1.command, .string x1.reply] 179)).heap.size (w.alloc (.cells #[.string x1.command, .string x1.reply] 179)) w1) => (Row.made w 179 [.string x1.command, .string x1.reply]).below hb1
      replace R := Lib.hid R
      have hT1 := hT.below (hB0 (.cells #[.string x1.command, .string x1.reply] 179))
      go_enter Tryz.func130, Tryz.ntmps130
      go_wp2_with (first | (go_at_call 85; refine (hin _).mono ?_; rintro e w' ⟨rfl, rfl⟩) | (go_at_call 183; refine (hgd _).mono ?_; rintro e w1 ⟨rfl, hb1⟩; have c_R := (R.out _ hb1).cells) | (go_at_call 184; refine (hl.out _ (hT1.below hb1)).mono ?_; rintro e w2 ⟨rfl, hb2⟩))
      refine bodyPost_ret (v := .tuple #[.string (bs (lineL k x1.command.data.toList x1.reply.data.toList)), .bool true]) ?_ rfl ⟨rfl, ((hB0 _).trans (hb1.mono (by simp))).trans (hb2.mono (by have := hb1.size; simp at this; omega))⟩
      simp [results, Tryz.results130, go_sem]
end Go.Proofs.YtccmhdheoeglmaaGreatDoor.Lg
/- The log's plain law, second part: what is appended, what a crash leaves, what is read back. No program in sight. -/
namespace Go.Proofs.YtccmhdheoeglmaaGreatDoor.Lg
open Go.RowKit
theorem okL_bytes {k : Nat} {x : Bs} (h : okL k x = true) : ∃ y, x = y ++ [10] ∧ ∀ b ∈ y, 32 ≤ b.toNat ∧ b.toNat ≤ 126 := by
  obtain ⟨c, r, _, hg, rfl⟩ := okL_iff.1 h
  have hG := goodL_good hg
  refine ⟨sealL (bodyL k c r), rfl, fun b hb => ?_⟩
  unfold sealL at hb
  simp only [List.mem_append, List.mem_cons] at hb
  rcases hb with hb | rfl | hb
  · exact (bodyL_mem hG b hb).1
  · decide
  · have := digit_mem _ b hb; omega
theorem okL_no {k : Nat} {z : Bs} (h : ∀ b ∈ z, b ≠ 10) : okL k z = false := by
  cases hk : okL k z with
  | false => rfl
  | true =>
    obtain ⟨y, rfl, _⟩ := okL_bytes hk
    exact absurd rfl (h 10 (by simp))
/-- the log is valid -/
structure Valid (d p : Bs) (n : Int) : Prop where
  all : (opened (d ++ p)).flatten = d ++ p
  dur : (opened d).flatten = d
  cnt : n = (opened (d ++ p)).length
theorem valid_of {d p : Bs} {n : Int} (h : validR d p n = true) : Valid d p n := by
  unfold validR at h
  simp only [Bool.and_eq_true, decide_eq_true_eq] at h
  exact ⟨opened_eq (by simp [h.2.1.1]), opened_eq h.2.1.2, h.2.2.symm⟩
theorem Valid.bool {d p : Bs} {n : Int} (h : Valid d p n) : validR d p n = true := by
  unfold validR
  have h1 := opened_small (d ++ p)
  have h2 := congrArg List.length h.all
  have h3 := congrArg List.length h.dur
  rw [List.length_append] at h2
  simp only [Bool.and_eq_true, decide_eq_true_eq]
  exact ⟨by omega, ⟨h2, h3⟩, h.cnt.symm⟩
end Go.Proofs.YtccmhdheoeglmaaGreatDoor.Lg
/- Walks: readRecords. -/
namespace Go.Proofs.YtccmhdheoeglmaaGreatDoor.Lg
open Go.RowKit
def recL (l : Bs) : LogRecord := ⟨bs (cmdL l), bs (repL l)⟩
def recOf (x : ByteArray) : LogRecord := recL x.data.toList
theorem recOf_cut (x : ByteArray) : recOf x = ⟨cutB 64 (cutA 32 (cutB 35 x)), cutA 64 (cutA 32 (cutB 35 x))⟩ := by
  simp only [recOf, recL, cutB, cutA, bs_list, cmdL, repL, tailL]
def listsOf (pre : List ByteArray) : List Bs := pre.map fun x => x.data.toList
theorem listsOf_snoc (pre : List ByteArray) (x : ByteArray) : listsOf (pre ++ [x]) = listsOf pre ++ [x.data.toList] := by simp [listsOf]
theorem listsOf_len (pre : List ByteArray) : (listsOf pre).length = pre.length := by simp [listsOf]
theorem listsOf_lines (s : ByteArray) : listsOf (linesB s) = linesOf s.data.toList := by
  unfold listsOf linesB; rw [List.map_map]
  have : (fun x : ByteArray => x.data.toList) ∘ bs = id := by funext l; simp [bs]
  rw [this, List.map_id]
def endsZ (pre : List ByteArray) : List Int := (endsL 0 (listsOf pre)).map Int.ofNat
theorem endsZ_len (pre : List ByteArray) : (endsZ pre).length = pre.length + 1 := by simp [endsZ, endsL_len, listsOf_len]
def total (pre : List ByteArray) : Nat := (listsOf pre).flatten.length
theorem endsZ_snoc (pre : List ByteArray) (x : ByteArray) : endsZ (pre ++ [x]) = endsZ pre ++ [(total pre : Int) + (x.size : Int)] := by
  unfold endsZ total; rw [listsOf_snoc, endsL_snoc]; simp
theorem endsZ_last (pre : List ByteArray) : (endsZ pre)[pre.length]? = some (total pre : Int) := by
  have h := endsL_last (n := 0) (xs := listsOf pre)
  have hl := endsZ_len pre
  rw [List.getLast?_eq_getElem?, endsL_len, listsOf_len] at h
  unfold endsZ; rw [List.getElem?_map, show pre.length = pre.length + 1 - 1 from rfl, h]
  simp [total]
theorem total_le {s : ByteArray} {pre post : List ByteArray} (h : linesB s = pre ++ post) : total pre ≤ s.size := by
  have h1 := congrArg (fun l => (listsOf l).flatten.length) h
  simp only [listsOf_lines, linesOf_flat] at h1
  rw [size_list] at h1
  have : listsOf (pre ++ post) = listsOf pre ++ listsOf post := by simp [listsOf]
  rw [this, List.flatten_append, List.length_append] at h1
  unfold total; omega
theorem count_le {s : ByteArray} {pre post : List ByteArray} (h : linesB s = pre ++ post) : pre.length ≤ s.size := by
  have h1 := total_le h
  have h2 : ∀ xs : List Bs, (∀ x ∈ xs, x ≠ []) → xs.length ≤ xs.flatten.length := by
    intro xs
    induction xs with
    | nil => simp
    | cons x xs ih =>
      intro hx
      have h3 := ih fun y hy => hx y (by simp [hy])
      have h4 : 1 ≤ x.length := by
        have := hx x (by simp)
        cases x with
        | nil => exact absurd rfl this
        | cons => simp
      simp only [List.length_cons, List.flatten_cons, List.length_append]; omega
  have h5 := h2 (listsOf pre) fun x hx => by
    refine linesOf_ne (l := s.data.toList) ?_
    rw [← listsOf_lines, h]; simp only [listsOf, List.map_append, List.mem_append]; exact .inl hx
  rw [listsOf_len] at h5
  unfold total at h1; omega
theorem line_le {s : ByteArray} {pre post : List ByteArray} {x : ByteArray} (h : linesB s = pre ++ x :: post) : total pre + x.size ≤ s.size := by
  have h1 : linesB s = (pre ++ [x]) ++ post := by rw [h]; simp
  have h2 := total_le h1
  unfold total at h2 ⊢
  rw [listsOf_snoc] at h2
  simp at h2 ⊢; omega
theorem AnyX.startIn {P : Program} {ops : Array Oper} {Q : Exit → Act → World → Prop} {S : World → Prop} {X : Nat → Bool} {l n id : Nat} {a : Act} {w : World} (hm : P.follows .mixedOrders = true) (hQ : ∀ a w, ¬ Q .outgrown a w) (hp : (ops.toList.all plainOp) = true)
    (h : AnyX P .any ops Q S X ops.size (Array.replicate ops.size false) a w.drew) : (Code.region id ops true).wpIn (Fence.wide.inRound l) n P Q a w :=
  wpIn_region_any hm (any_round hQ hp _ _ _ _ (AnyX.any _ _ _ _ h))
theorem cutB_size (c : UInt8) (s : ByteArray) : (cutB c s).size ≤ s.size := by
  unfold cutB; rw [bs_size]; have := upTo_len c s.data.toList; rw [size_list] at this; exact this
theorem cutA_size (c : UInt8) (s : ByteArray) : (cutA c s).size ≤ s.size := by
  unfold cutA; rw [bs_size]
  rcases split_at c s.data.toList with ⟨_, h2⟩ | ⟨_, _, h2⟩
  · have := congrArg List.length h2; rw [size_list] at this; simp at this; omega
  · rw [h2]; simp
theorem row_news {w : World} {g : Nat} {t : TypeId} {cs : List Value} (h : Row w g t cs) : ∀ j u, cs[j]? = some u → w.cell? ((⟨g, 0, none⟩ : Addr).add j) = some u := fun j u hu => by
  rw [← hu, ← h.cell j]
  by_cases hj : j = 0
  · subst hj; rfl
  · simp [Addr.add, hj]
theorem ends_elem {w : World} {t : TypeId} {pre : List ByteArray} {gb off ec : Nat} {F : List Nat} (h : Ow EInt t w (.slice (some ⟨gb, off, none⟩) (pre.length + 1) ec) (endsZ pre) F) : w.cell? ⟨gb, off + pre.length, none⟩ = some (.int .i64 (total pre : Int)) := by
  obtain ⟨F', _, hs⟩ := h.read
  have hl := endsZ_len pre
  obtain ⟨b, o, e, hc⟩ := hs.int.2.2 pre.length (by omega)
  cases e
  rw [hc]
  have := endsZ_last pre
  rw [List.getElem?_eq_getElem (by omega)] at this
  rw [Option.some.inj this]
theorem ends_head {w : World} {t : TypeId} {pre : List ByteArray} {eo : Option Addr} {ec : Nat} {F : List Nat} (h : Ow EInt t w (.slice eo (pre.length + 1) ec) (endsZ pre) F) : ∃ gb off, eo = some ⟨gb, off, none⟩ := by
  obtain ⟨F', _, hs⟩ := h.read
  have hl := endsZ_len pre
  obtain ⟨b, o, e, hc⟩ := hs.int.2.2 pre.length (by omega)
  exact ⟨b, o, e⟩
/-- the block lies aS it lay -/
def Same (k : Nat) (W0 W : World) : Prop := W.heap[k]? = W0.heap[k]? ∧ k < W.heap.size
theorem Same.below {k W0 W w'} (h : Same k W0 W) (hb : Below W.heap.size W w') : Same k W0 w' := ⟨(hb.block k h.2).trans h.1, Nat.lt_of_lt_of_le h.2 hb.size⟩
theorem Same.keepK {k W0 W w' F} (h : Same k W0 W) (hk : Keep F W w') (hn : k ∉ F) : Same k W0 w' := ⟨(hk.block k h.2 hn).trans h.1, Nat.lt_of_lt_of_le h.2 hk.size⟩
theorem Same.alloc {k W0 W} (h : Same k W0 W) (o : Obj) : Same k W0 (W.alloc o) := h.below ((Below.refl _ _).alloc (Nat.le_refl _) _)
theorem Same.keep {k W0 W w'} (h : Same k W0 W) (e : w'.heap[k]? = W.heap[k]?) : Same k W0 w' := by
  refine ⟨e.trans h.1, ?_⟩
  rw [Array.getElem?_eq_getElem h.2] at e
  exact (Array.getElem?_eq_some_iff.1 e).1
def RdI (w w1 : World) (FT : List Nat) (pre : List ByteArray) (W : World) : Prop :=
  ∃ lo lc F1 eo ec F2, Row W w.heap.size 115 [.slice lo pre.length lc] ∧ Row W (w.heap.size + 1 + 1) 22 [.slice eo (pre.length + 1) ec] ∧
    Ow ELogRecord 179 W (.slice lo pre.length lc) (pre.map recOf) F1 ∧ F1.Nodup ∧ Ow EInt 3 W (.slice eo (pre.length + 1) ec) (endsZ pre) F2 ∧ F2.Nodup ∧
    (∀ b ∈ F1, w1.heap.size + 1 < b) ∧ (∀ b ∈ F2, b = w.heap.size + 1 ∨ w1.heap.size + 1 < b) ∧ (∀ b ∈ F1, b ∉ F2) ∧ IsV ETab W (.agg #[]) () FT ∧ Below w.heap.size w W ∧
    Hid (acc 0 (listsOf pre) = listsOf pre)
theorem RdI.keep {w w1 : World} {FT : List Nat} {g4 : Nat} (h4 : w.heap.size + 1 + 1 < g4) (h5 : g4 < w1.heap.size) (hFT : ∀ b ∈ FT, b < w.heap.size) : AbB [g4, w1.heap.size + 1] (RdI w w1 FT) := by
  rintro pre W W' ⟨lo, lc, F1, eo, ec, F2, r1, r3, o1, n1, o2, n2, f1, f2, d, hT, hB, ha⟩ hk
  refine ⟨lo, lc, F1, eo, ec, F2, r1.keepK hk (by simp; omega), r3.keepK hk (by simp; omega), o1.keep hk (fun b hb hm => ?_), n1, o2.keep hk (fun b hb hm => ?_), n2, f1, f2, d, hT.keep hk (fun b hb hm => ?_), hB.trans (hk.below hB.size (fun b hb => ?_)), ha⟩
  · have := f1 b hb; simp at hm; omega
  · have := f2 b hb; simp at hm; omega
  · have := hFT b hb; simp at hm; omega
  · simp at hb; omega
def RdX (w w1 : World) (FT : List Nat) (c : Code) (ys : List ByteArray) (W : World) : Prop :=
  c = .exit 0 ∧ ∃ pre x, ys = pre ++ [x] ∧ RdI w w1 FT pre W ∧ okL pre.length x.data.toList = false
/-- what has been read, and where the records end -/
def PRead (s : ByteArray) (w : World) (e : Ending) (w' : World) : Prop :=
  ∃ u0 G0 u1 G1, e = .returned (.tuple #[u0, u1]) ∧ Ow ELogRecord 179 w' u0 ((opened s.data.toList).map recL) G0 ∧ G0.Nodup ∧ Ow EInt 3 w' u1 ((endsL 0 (opened s.data.toList)).map Int.ofNat) G1 ∧ G1.Nodup ∧
    (∀ b ∈ G0, w.heap.size ≤ b) ∧ (∀ b ∈ G1, w.heap.size ≤ b) ∧ (∀ b ∈ G0, b ∉ G1) ∧ Below w.heap.size w w'
theorem acc_snoc {k : Nat} {xs : List Bs} {x : Bs} (h : acc k xs = xs) (hx : okL (k + xs.length) x = true) : acc k (xs ++ [x]) = xs ++ [x] := by
  rw [acc_append k xs _ h]; simp [acc, hx]
theorem acc_stop {k : Nat} {xs : List Bs} {x : Bs} (post : List Bs) (h : acc k xs = xs) (hx : okL (k + xs.length) x = false) : acc k (xs ++ x :: post) = xs := by
  rw [acc_append k xs _ h]; simp [acc, hx]
theorem opened_all {s : ByteArray} (h : acc 0 (listsOf (linesB s)) = listsOf (linesB s)) : listsOf (linesB s) = opened s.data.toList := by
  rw [listsOf_lines] at h ⊢; exact h.symm
theorem opened_stop {s : ByteArray} {pre post : List ByteArray} {x : ByteArray} (hs : linesB s = pre ++ x :: post) (h : acc 0 (listsOf pre) = listsOf pre) (hx : okL pre.length x.data.toList = false) : listsOf pre = opened s.data.toList := by
  unfold opened; rw [← listsOf_lines, hs]
  have : listsOf (pre ++ x :: post) = listsOf pre ++ x.data.toList :: listsOf post := by simp [listsOf]
  rw [this, acc_stop _ h (by rw [listsOf_len, Nat.zero_add]; exact hx)]
theorem RdI.post {s : ByteArray} {w w1 : World} {FT : List Nat} {pre : List ByteArray} {W : World} (h1 : w.heap.size + 1 < w1.heap.size) (ho : listsOf pre = opened s.data.toList)
    (h : RdI w w1 FT pre W) : ∃ lo lc eo ec, Row W w.heap.size 115 [.slice lo pre.length lc] ∧ Row W (w.heap.size + 1 + 1) 22 [.slice eo (pre.length + 1) ec] ∧
      ∀ W', Keep [w1.heap.size] W W' → PRead s w (.returned (.tuple #[.slice lo pre.length lc, .slice eo (pre.length + 1) ec])) W' := by
  obtain ⟨lo, lc, F1, eo, ec, F2, r1, r3, o1, n1, o2, n2, f1, f2, d, hT, hB, ha⟩ := h
  refine ⟨lo, lc, eo, ec, r1, r3, fun W' hk => ⟨_, F1, _, F2, rfl, ?_, n1, ?_, n2, fun b hb => by have := f1 b hb; omega, fun b hb => by have := f2 b hb; omega, d, hB.trans (hk.below hB.size (fun b hb => by simp at hb; omega))⟩⟩
  · have e : (opened s.data.toList).map recL = pre.map recOf := by rw [← ho]; simp [listsOf, recOf]
    rw [e]; exact o1.keep hk (fun b hb hm => by have := f1 b hb; simp at hm; omega)
  · have e : (endsL 0 (opened s.data.toList)).map Int.ofNat = endsZ pre := by rw [← ho]; rfl
    rw [e]; exact o2.keep hk (fun b hb hm => by have := f2 b hb; simp at hm; omega)
theorem RdI.acc {w w1 : World} {FT : List Nat} {pre : List ByteArray} {W : World} (h : RdI w w1 FT pre W) : acc 0 (listsOf pre) = listsOf pre := by
  obtain ⟨_, _, _, _, _, _, _, _, _, _, _, _, _, _, _, _, _, h⟩ := h; exact h.out
set_option maxHeartbeats 3200000 in
set_option maxRecDepth 100000 in
theorem readRecords_c (s : ByteArray) (FT : List Nat) (w : World) (hs : s.size ≤ 16777216) (hT : IsV ETab w (.agg #[]) () FT) :
    Calls Tryz.prog 77 #[.string s] w (PRead s w) := by
  have hFT := hT.lt
  refine (callsIn_wide (n := 9)).1 (callsIn_of_wp_marks Tryz.func77 rfl trivial ?_ rfl)
  simp only [Tryz.ntmps77, List.size_toArray, List.length_cons, List.length_nil, Nat.reduceAdd, Nat.reduceSub, Array.replicate_succ, Array.replicate_zero, List.push_toArray, List.append_toArray, List.cons_append, List.nil_append]
  refine wpIn_wide.2 ?_
  go_wp2_with (go_at_call 128; refine (Lines_c _ _).mono ?_; rintro e w' ⟨rfl, rfl⟩)
  have al : Below w.heap.size w ((((w.alloc (.cells #[.slice none 0 0] 115)).alloc (.cells #[.int .i64 0] 3)).alloc (.cells #[.slice (some ⟨w.heap.size + 1, 0, none⟩) 1 1] 22)).alloc (.cells #[.string s] 9)) := by
    repeat refine Below.alloc ?_ (by simp <;> omega) _
    exact Below.refl _ _
  have n_R1 : Row ((((w.alloc (.cells #[.slice none 0 0] 115)).alloc (.cells #[.int .i64 0] 3)).alloc (.cells #[.slice (some ⟨w.heap.size + 1, 0, none⟩) 1 1] 22)).alloc (.cells #[.string s] 9)) (w.heap.size) 115 [.slice none 0 0] := by simp [row_alloc] <;> omega
  have n_R2 : Row ((((w.alloc (.cells #[.slice none 0 0] 115)).alloc (.cells #[.int .i64 0] 3)).alloc (.cells #[.slice (some ⟨w.heap.size + 1, 0, none⟩) 1 1] 22)).alloc (.cells #[.string s] 9)) (w.heap.size + 1) 3 [.int .i64 0] := by simp [row_alloc] <;> omega
  have n_R3 : Row ((((w.alloc (.cells #[.slice none 0 0] 115)).alloc (.cells #[.int .i64 0] 3)).alloc (.cells #[.slice (some ⟨w.heap.size + 1, 0, none⟩) 1 1] 22)).alloc (.cells #[.string s] 9)) (w.heap.size + 1 + 1) 22 [.slice (some ⟨w.heap.size + 1, 0, none⟩) 1 1] := by simp [row_alloc] <;> omega
  have n_R4 : Row ((((w.alloc (.cells #[.slice none 0 0] 115)).alloc (.cells #[.int .i64 0] 3)).alloc (.cells #[.slice (some ⟨w.heap.size + 1, 0, none⟩) 1 1] 22)).alloc (.cells #[.string s] 9)) (w.heap.size + 1 + 1 + 1) 9 [.string s] := by simp [row_alloc] <;> omega
  have hs_w1 : w.heap.size + 1 + 1 + 1 < ((((w.alloc (.cells #[.slice none 0 0] 115)).alloc (.cells #[.int .i64 0] 3)).alloc (.cells #[.slice (some ⟨w.heap.size + 1, 0, none⟩) 1 1] 22)).alloc (.cells #[.string s] 9)).heap.size := by simp <;> omega
  replace hT := hT.below al
  have hB := al
  generalize ((((w.alloc (.cells #[.slice none 0 0] 115)).alloc (.cells #[.int .i64 0] 3)).alloc (.cells #[.slice (some ⟨w.heap.size + 1, 0, none⟩) 1 1] 22)).alloc (.cells #[.string s] 9)) = w1 at *
  have R1 := n_R1; clear n_R1
  have R2 := n_R2; clear n_R2
  have R3 := n_R3; clear n_R3
  have R4 := n_R4; clear n_R4
  clear al
  have h0 : RdI w w1 FT [] w1 := by
    refine ⟨none, 0, [], some ⟨w.heap.size + 1, 0, none⟩, 1, [w.heap.size + 1], R1, R3, .inl ⟨rfl, rfl, rfl⟩, by simp, ?_, by simp, by simp, by simp, by simp, hT, hB, Lib.hid rfl⟩
    exact .inr ⟨w.heap.size + 1, 1, [.int .i64 0], [], [], rfl, by simpa using R2, by rw [endsZ_len]; simp, by unfold maxLen; omega, rfl, ⟨[.int .i64 0], [], [], [], rfl, rfl, ⟨rfl, rfl⟩, rfl, rfl⟩, rfl⟩
  refine (wpIn_wide (n := 9)).1 ?_
  apply wp_range_box (b := w.heap.size + 1 + 1 + 1) (xs := linesB s) (gf := 180) (lb := #[.pointer (some ⟨w.heap.size + 1 + 1 + 1, 0, none⟩)]) rfl (enters_of Tryz.func180 (by kernel_rfl) rfl) rfl (by omega)
    (fun W0 hW0 => lines_seq s _ W0 (by omega) (R4.keep hW0)) (RdI w w1 FT) (RdX w w1 FT) (RdI.keep (by omega) (by omega) hFT)
    (by
      rintro c ys W W' ⟨hc, pre, x, hy, hi, hk2⟩ hk
      exact ⟨hc, pre, x, hy, RdI.keep (by omega) (by omega) hFT _ _ _ hi hk, hk2⟩) h0
  case hassign =>
    intro m x W K hK
    refine region_round (fun _ _ h => h) (by kernel_rfl) ?_
    simp only [List.zip_toArray, List.foldl_toArray, List.zip_cons_cons, List.zip_nil_right, List.foldl_cons, List.foldl_nil, List.setIfInBounds_toArray, List.set_cons_zero, List.set_cons_succ]
    go_wp2_with fail
    exact hK
  case hbody =>
    intro m pre post x W hxs hsz hI
    clear R1 R2 R3 R4 hT hB h0
    have hxl := line_le hxs
    have hcl := count_le hxs
    have hends := endsZ_last pre
    have hel := endsZ_len pre
    have hT0 := hFT
    obtain ⟨lo, lc, F1, eo, ec, F2, G1, G3, o1, n1, o2, n2, f1, f2, dd, hT, hB, ha⟩ := hI
    have S4 : Same (w.heap.size + 1 + 1 + 1) W W := ⟨rfl, by omega⟩; have S5 : Same w1.heap.size W W := ⟨rfl, by omega⟩; have S6 : Same (w1.heap.size + 1) W W := ⟨rfl, by omega⟩
    have z1 := cutB_size 35 x; have z2 := cutA_size 32 (cutB 35 x); have z3 := cutB_size 64 (cutA 32 (cutB 35 x)); have z4 := cutA_size 64 (cutA 32 (cutB 35 x))
    have hk1 := Lib.hid (fun w => Cut_c x 35 w (by unfold maxLen; omega))
    have hk2 := Lib.hid (fun w => Cut_c (cutB 35 x) 32 w (by unfold maxLen; omega))
    have hk3 := Lib.hid (fun w => Cut_c (cutA 32 (cutB 35 x)) 64 w (by unfold maxLen; omega))
    have hrec := recOf_cut x
    have hcm : (cutB 64 (cutA 32 (cutB 35 x))).data.toList = cmdL x.data.toList := by simp only [cutB, cutA, bs_list, cmdL, tailL]
    have hrp : (cutA 64 (cutA 32 (cutB 35 x))).data.toList = repL x.data.toList := by simp only [cutB, cutA, bs_list, repL, tailL]
    generalize cutB 35 x = y1 at *
    generalize cutA 32 y1 = y2 at *
    generalize cutB 64 y2 = cc at *
    generalize cutA 64 y2 = rr at *
    generalize hy1f : cutA 35 x = y3 at *
    generalize hy2f : cutB 32 y1 = y4 at *
    clear hy1f hy2f
    have sc : cc.size ≤ maxLen := by unfold maxLen; omega
    have sr : rr.size ≤ maxLen := by unfold maxLen; omega
    have hE := Lib.hid (fun w v hv hT => EncodeRecord_c (pre.length : Int) v ⟨cc, rr⟩ [] FT w hv hT)
    have hres : resEncodeRecord (pre.length : Int) ⟨cc, rr⟩ = (bs ((encL (pre.length : Int) (cmdL x.data.toList) (repL x.data.toList)).getD []), (encL (pre.length : Int) (cmdL x.data.toList) (repL x.data.toList)).isSome) := by unfold resEncodeRecord; rw [hcm, hrp]
    replace hres := Lib.hid hres
    replace hrec := Lib.hid hrec
    replace hends := Lib.hid hends
    replace hel := Lib.hid hel
    replace hxs := Lib.hid hxs
    clear hcm hrp
    refine wpIn_block ?_
    refine wpIn_seq_k (fun _ _ => ?_)
    refine region_round (fun _ _ h => h) (by kernel_rfl) ?_
    go_wp2_with fail
    refine (hk1.out _).mono ?_
    rintro e w21 ⟨rfl, j, hj⟩
    have hb : Below W.heap.size W w21 := by rw [hj]; exact belowDrewN (Below.refl _ _) _
    clear hj
    have hs_w21 := hb.size
    replace G1 := G1.below hb
    replace G3 := G3.below hb
    replace o1 := o1.below hb
    replace o2 := o2.below hb
    replace hT := hT.below hb
    replace S4 := S4.below hb
    replace S5 := S5.below hb
    replace S6 := S6.below hb
    replace hB := tr hB hb (Nat.le_refl _)
    clear hb
    go_wp2_with fail
    refine wpIn_seq_k (fun _ _ => ?_)
    refine region_round (fun _ _ h => h) (by kernel_rfl) ?_
    go_wp2_with fail
    refine (hk2.out _).mono ?_
    rintro e w22 ⟨rfl, j, hj⟩
    have hb : Below w21.heap.size w21 w22 := by rw [hj]; exact belowDrewN (Below.refl _ _) _
    clear hj
    have hs_w22 := hb.size
    replace G1 := G1.below hb
    replace G3 := G3.below hb
    replace o1 := o1.below hb
    replace o2 := o2.below hb
    replace hT := hT.below hb
    replace S4 := S4.below hb
    replace S5 := S5.below hb
    replace S6 := S6.below hb
    replace hB := tr hB hb (Nat.le_refl _)
    clear hb
    go_wp2_with fail
    refine wpIn_seq_k (fun _ _ => ?_)
    refine region_round (fun _ _ h => h) (by kernel_rfl) ?_
    go_wp2_with fail
    refine (hk3.out _).mono ?_
    rintro e w23 ⟨rfl, j, hj⟩
    have hb : Below w22.heap.size w22 w23 := by rw [hj]; exact belowDrewN (Below.refl _ _) _
    clear hj
    have hs_w23 := hb.size
    replace G1 := G1.below hb
    replace G3 := G3.below hb
    replace o1 := o1.below hb
    replace o2 := o2.below hb
    replace hT := hT.below hb
    replace S4 := S4.below hb
    replace S5 := S5.below hb
    replace S6 := S6.below hb
    replace hB := tr hB hb (Nat.le_refl _)
    clear hb
    go_wp2_with fail
    clear hk1 hk2 hk3
    refine wpIn_seq_k (fun _ _ => ?_)
    refine region_round (fun _ _ h => h) (by kernel_rfl) ?_
    go_wp2_with fail
    have al : Below w23.heap.size w23 (w23.alloc (.cells #[.string cc, .string rr] 179)) := by
      repeat refine Below.alloc ?_ (by simp <;> omega) _
      exact Below.refl _ _
    have n_R8 := Row.made w23 179 [.string cc, .string rr]
    have hs_w24 : w23.heap.size < (w23.alloc (.cells #[.string cc, .string rr] 179)).heap.size := by simp
    replace G1 := G1.below al
    replace G3 := G3.below al
    replace o1 := o1.below al
    replace o2 := o2.below al
    replace hT := hT.below al
    replace S4 := S4.below al
    replace S5 := S5.below al
    replace S6 := S6.below al
    replace hB := tr hB al (Nat.le_refl _)
    generalize (w23.alloc (.cells #[.string cc, .string rr] 179)) = w24 at *
    have R8 := n_R8; clear n_R8
    clear al
    cases henc : encL (pre.length : Int) (cmdL x.data.toList) (repL x.data.toList) with
    | none =>
      have hno : okL pre.length x.data.toList = false := by unfold okL; rw [henc]; rfl
      have hE2 := hE.out
      rw [hres.out, henc] at hE2
      replace hE2 := Lib.hid hE2
      refine wpIn_seq_k (fun _ _ => ?_)
      refine wpIn_seq_k (fun _ _ => ?_)
      refine region_round (fun _ _ h => h) (by kernel_rfl) ?_
      have c_G1 := G1.cells; have f_G1 := G1.frozens
      have c_R8 := R8.cells; have f_R8 := R8.frozens
      go_wp2_with fail
      clear c_G1 f_G1 c_R8 f_R8
      refine (hE2.out _ _ ⟨_, rfl, rfl, sc, sr, rfl⟩ hT).mono ?_
      rintro e w25 ⟨rfl, hb⟩
      have hs_w25 := hb.size
      clear hE hE2
      replace G1 := G1.below hb
      replace G3 := G3.below hb
      replace R8 := R8.below hb
      replace o1 := o1.below hb
      replace o2 := o2.below hb
      replace hT := hT.below hb
      replace S4 := S4.below hb
      replace S5 := S5.below hb
      replace S6 := S6.below hb
      replace hB := tr hB hb (Nat.le_refl _)
      clear hb
      go_wp2_with fail
      refine wpIn_seq_k (fun _ _ => ?_)
      refine region_round (fun _ _ h => h) (by kernel_rfl) ?_
      go_wp2_with fail
      refine wpIn_cond_true rfl ?_
      refine wpIn_exit ?_
      refine ⟨fun k hk => ?_, rfl, pre, x, rfl, ⟨lo, lc, F1, eo, ec, F2, G1, G3, o1, n1, o2, n2, f1, f2, dd, hT, hB, ha⟩, hno⟩
      simp only [List.mem_cons, List.not_mem_nil, or_false] at hk
      rcases hk with rfl | rfl | rfl
      · exact S4.1
      · exact S5.1
      · exact S6.1
    | some y =>
      by_cases hyx : y = x.data.toList
      · have hok : okL pre.length x.data.toList = true := by unfold okL; rw [henc, hyx]; simp
        rw [hyx] at henc
        have hE2 := hE.out
        rw [hres.out, henc] at hE2
        simp only [Option.getD_some, bs_of, Option.isSome_some] at hE2
        replace hE2 := Lib.hid hE2
        refine wpIn_seq_k (fun _ _ => ?_)
        refine wpIn_seq_k (fun _ _ => ?_)
        refine region_round (fun _ _ h => h) (by kernel_rfl) ?_
        have c_G1 := G1.cells; have f_G1 := G1.frozens
        have c_R8 := R8.cells; have f_R8 := R8.frozens
        go_wp2_with fail
        clear c_G1 f_G1 c_R8 f_R8
        refine (hE2.out _ _ ⟨_, rfl, rfl, sc, sr, rfl⟩ hT).mono ?_
        rintro e w26 ⟨rfl, hb⟩
        have hs_w26 := hb.size
        clear hE hE2
        replace G1 := G1.below hb
        replace G3 := G3.below hb
        replace R8 := R8.below hb
        replace o1 := o1.below hb
        replace o2 := o2.below hb
        replace hT := hT.below hb
        replace S4 := S4.below hb
        replace S5 := S5.below hb
        replace S6 := S6.below hb
        replace hB := tr hB hb (Nat.le_refl _)
        clear hb
        go_wp2_with fail
        refine wpIn_seq_k (fun _ _ => ?_)
        refine region_round (fun _ _ h => h) (by kernel_rfl) ?_
        go_wp2_with fail
        refine wpIn_cond_false rfl ?_
        refine wpIn_skip ?_
        go_wp2_with fail
        have lF1 := o1.lt; have lF2 := o2.lt
        have hnd : ∀ b ∈ FT, b < w.heap.size := hT0
        clear henc hres
        refine wpIn_seq_k (fun _ _ => ?_)
        refine region_round (fun _ _ h => h) (by kernel_rfl) ?_
        have c_G1 := G1.cells; have f_G1 := G1.frozens; have d_G1 := fun o => (G1.alloc o).cells; have e_G1 := fun o => (G1.alloc o).frozens
        have c_R8 := R8.cells; have f_R8 := R8.frozens; have d_R8 := fun o => (R8.alloc o).cells; have e_R8 := fun o => (R8.alloc o).frozens
        go_wp2_with (at_builtin; refine wpList_apd one_ELogRecord (by decide) (by rfl) _ _ _ (by rfl) 179 (.agg #[.string ⟨#[]⟩, .string ⟨#[]⟩]) 32 Tryz.underlying115 info_LogRecord rfl (.slice lo pre.length lc) (pre.map recOf) F1 (by rfl) (o1.below ((Below.refl _ _).alloc (Nat.le_refl _) _)) (Hd.of n1) (some ⟨w26.heap.size, 0, none⟩) [⟨cc, rr⟩] 1 (by rfl) [.string cc, .string rr] [] (Flat.one ⟨rfl, sc, sr, rfl⟩) (.inr ⟨_, rfl, World.news_of_block (heap_alloc_new w26 _)⟩) (by simp) (by simp; unfold maxLen; omega) (by simp; omega) ?_)
        clear c_G1 f_G1 d_G1 e_G1 c_R8 f_R8 d_R8 e_R8
        intro v6 w27 F6 hA
        have o6 := hA.ow; have n6 := hA.nodup n1 (by simp) (by simp); have m6 := hA.mem; have K6 := hA.keep
        obtain ⟨a6, c6, hv6⟩ := hA.val
        clear hA
        have hv7 : v6 = .slice a6 (pre.length + 1) c6 := by simpa using hv6
        subst hv7
        clear hv6
        have al := (Below.refl w26.heap.size w26).alloc (Nat.le_refl _) (.cells #[.string cc, .string rr] 179)
        have hs_w27 : w26.heap.size + 1 ≤ w27.heap.size := by have := K6.size; simpa using this
        have f6 : ∀ b ∈ F6, w1.heap.size + 1 < b := fun b hb => by
          rcases m6 b hb with h7 | h7 | h7
          · exact f1 b h7
          · simp at h7
          · simp at h7; omega
        have d6 : ∀ b ∈ F6, b ∉ F2 := fun b hb hm => by
          rcases m6 b hb with h7 | h7 | h7
          · exact dd b h7 hm
          · simp at h7
          · have := lF2 b hm; simp at h7; omega
        replace G1 := (G1.below al).keepK K6 (fun hm => by have := f1 _ hm; omega)
        replace G3 := (G3.below al).keepK K6 (fun hm => by have := f1 _ hm; omega)
        replace o2 := (o2.below al).keep K6 (fun b hb hm => dd b hm hb)
        replace hT := (hT.below al).keep K6 (fun b hb hm => by have := f1 b hm; have := hnd b hb; omega)
        replace S4 := (S4.below al).keepK K6 (fun hm => by have := f1 _ hm; omega)
        replace S5 := (S5.below al).keepK K6 (fun hm => by have := f1 _ hm; omega)
        replace S6 := (S6.below al).keepK K6 (fun hm => by have := f1 _ hm; omega)
        replace hB := (tr hB al (Nat.le_refl _)).trans (K6.below (B := w.heap.size) (by have := hB.size; simp; omega) (fun b hb => by have := f1 b hb; omega))
        clear K6 m6 al o1 n1 dd lF1 lF2 R8
        have c_G1 := G1.cells; have f_G1 := G1.frozens
        go_wp2_with fail
        clear c_G1 f_G1
        have K7 : Keep [w.heap.size] w27 (w27.setCell ⟨w.heap.size, 0, none⟩ (.slice a6 (pre.length + 1) c6)) := (Keep.refl _ _).setCell (by simp) _
        have G1b : Row (w27.setCell ⟨w.heap.size, 0, none⟩ (.slice a6 (pre.length + 1) c6)) w.heap.size 115 [(.slice a6 (pre.length + 1) c6)] := G1.set 0 (.slice a6 (pre.length + 1) c6)
        replace G3 := G3.keepK K7 (by simp; omega)
        replace o2 := o2.keep K7 (fun b hb hm => by have := f2 b hb; simp at hm; omega)
        replace o6 := o6.keep K7 (fun b hb hm => by have := f6 b hb; simp at hm; omega)
        replace hT := hT.keep K7 (fun b hb hm => by have := hnd b hb; simp at hm; omega)
        replace S4 := S4.keepK K7 (by simp; omega)
        replace S5 := S5.keepK K7 (by simp; omega)
        replace S6 := S6.keepK K7 (by simp; omega)
        replace hB := hB.trans (K7.below (B := w.heap.size) (by have := hB.size; omega) (fun b hb => by simp at hb; omega))
        have hs_w28 : w27.heap.size ≤ (w27.setCell ⟨w.heap.size, 0, none⟩ (.slice a6 (pre.length + 1) c6)).heap.size := K7.size
        clear K7 G1
        generalize (w27.setCell ⟨w.heap.size, 0, none⟩ (.slice a6 (pre.length + 1) c6)) = w28 at *
        have G1 := G1b; clear G1b
        obtain ⟨gb, off, rfl⟩ := ends_head o2
        have hw4 := Lib.hid (show IntKind.i64.wrap (pre.length : Int) = (pre.length : Int) from by rw [IntKind.wrap_i64]; omega)
        have hw9 := Lib.hid (show IntKind.i64.wrap ((total pre : Int) + (x.size : Int)) = (total pre : Int) + (x.size : Int) from by rw [IntKind.wrap_i64]; omega)
        refine AnyX.startIn (S := (fun w' => w'.cell? ⟨w.heap.size + 1 + 1, 0, none⟩ = some (.slice (some ⟨gb, off, none⟩) (pre.length + 1) ec) ∧ w'.cell? ⟨gb, off + pre.length, none⟩ = some (.int .i64 (total pre : Int)))) (X := (fun i => i == 11 || i == 12)) (by kernel_rfl) (fun _ _ h => h) (by kernel_rfl) ?_
        have al : Below w28.heap.size w28 w28.drew := belowDrewN (Below.refl _ _) 1
        have hs_w29 := al.size
        replace G1 := G1.below al
        replace G3 := G3.below al
        replace o2 := o2.below al
        replace hT := hT.below al
        replace S4 := S4.below al
        replace S5 := S5.below al
        replace S6 := S6.below al
        replace o6 := o6.below al
        replace hB := tr hB al (Nat.le_refl _)
        generalize w28.drew = w29 at *
        clear al
        have hS : (fun w' => w'.cell? ⟨w.heap.size + 1 + 1, 0, none⟩ = some (.slice (some ⟨gb, off, none⟩) (pre.length + 1) ec) ∧ w'.cell? ⟨gb, off + pre.length, none⟩ = some (.int .i64 (total pre : Int))) w29 := ⟨G3.cells 0, ends_elem o2⟩
        refine AnyX.take (i := 0) (oi := _) (v := ?_) (by rw [List.getElem?_toArray]; rfl) (by kernel_rfl) (by kernel_rfl) (by kernel_rfl) (by kernel_rfl) (by kernel_rfl) (by exact fun _ _ _ h => h) (Or.inl ⟨by rfl, ?_⟩) hS ?_
        rotate_left
        · (intro wS hSw; (try dsimp only at hSw); go_simp; try with_reducible rfl)
        try simp only [Act.put, List.setIfInBounds_toArray, List.set_cons_zero, List.set_cons_succ]
        refine AnyX.take (i := 1) (oi := _) (v := ?_) (by rw [List.getElem?_toArray]; rfl) (by kernel_rfl) (by kernel_rfl) (by kernel_rfl) (by kernel_rfl) (by kernel_rfl) (by exact fun _ _ _ h => h) (Or.inl ⟨by rfl, ?_⟩) hS ?_
        rotate_left
        · (intro wS hSw; (try dsimp only at hSw); go_simp; try with_reducible rfl)
        try simp only [Act.put, List.setIfInBounds_toArray, List.set_cons_zero, List.set_cons_succ]
        refine AnyX.take (i := 2) (oi := _) (v := ?_) (by rw [List.getElem?_toArray]; rfl) (by kernel_rfl) (by kernel_rfl) (by kernel_rfl) (by kernel_rfl) (by kernel_rfl) (by exact fun _ _ _ h => h) (Or.inl ⟨by rfl, ?_⟩) hS ?_
        rotate_left
        · (intro wS hSw; (try dsimp only at hSw); go_simp; try with_reducible rfl)
        try simp only [Act.put, List.setIfInBounds_toArray, List.set_cons_zero, List.set_cons_succ]
        refine AnyX.take (i := 3) (oi := _) (v := ?_) (by rw [List.getElem?_toArray]; rfl) (by kernel_rfl) (by kernel_rfl) (by kernel_rfl) (by kernel_rfl) (by kernel_rfl) (by exact fun _ _ _ h => h) (Or.inl ⟨by rfl, ?_⟩) hS ?_
        rotate_left
        · (intro wS hSw; (try dsimp only at hSw); go_simp; try with_reducible rfl)
        try simp only [Act.put, List.setIfInBounds_toArray, List.set_cons_zero, List.set_cons_succ]
        refine AnyX.take (i := 4) (oi := _) (v := ?_) (by rw [List.getElem?_toArray]; rfl) (by kernel_rfl) (by kernel_rfl) (by kernel_rfl) (by kernel_rfl) (by kernel_rfl) (by exact fun _ _ _ h => h) (Or.inl ⟨by rfl, ?_⟩) hS ?_
        rotate_left
        · (intro wS hSw; (try dsimp only at hSw); go_simp; rw [hw4.out]; try with_reducible rfl)
        try simp only [Act.put, List.setIfInBounds_toArray, List.set_cons_zero, List.set_cons_succ]
        refine AnyX.take (i := 5) (oi := _) (v := ?_) (by rw [List.getElem?_toArray]; rfl) (by kernel_rfl) (by kernel_rfl) (by kernel_rfl) (by kernel_rfl) (by kernel_rfl) (by exact fun _ _ _ h => h) (Or.inl ⟨by rfl, ?_⟩) hS ?_
        rotate_left
        · (intro wS hSw; (try dsimp only at hSw); go_simp; rw [if_pos (by omega)]; try with_reducible rfl)
        try simp only [Act.put, List.setIfInBounds_toArray, List.set_cons_zero, List.set_cons_succ]
        refine AnyX.take (i := 6) (oi := _) (v := ?_) (by rw [List.getElem?_toArray]; rfl) (by kernel_rfl) (by kernel_rfl) (by kernel_rfl) (by kernel_rfl) (by kernel_rfl) (by exact fun _ _ _ h => h) (Or.inl ⟨by rfl, ?_⟩) hS ?_
        rotate_left
        · (intro wS hSw; (try dsimp only at hSw); go_simp; try with_reducible rfl)
        try simp only [Act.put, List.setIfInBounds_toArray, List.set_cons_zero, List.set_cons_succ]
        refine AnyX.take (i := 7) (oi := _) (v := ?_) (by rw [List.getElem?_toArray]; rfl) (by kernel_rfl) (by kernel_rfl) (by kernel_rfl) (by kernel_rfl) (by kernel_rfl) (by exact fun _ _ _ h => h) (Or.inl ⟨by rfl, ?_⟩) hS ?_
        rotate_left
        · (intro wS hSw; (try dsimp only at hSw); go_simp; try with_reducible rfl)
        try simp only [Act.put, List.setIfInBounds_toArray, List.set_cons_zero, List.set_cons_succ]
        refine AnyX.take (i := 8) (oi := _) (v := ?_) (by rw [List.getElem?_toArray]; rfl) (by kernel_rfl) (by kernel_rfl) (by kernel_rfl) (by kernel_rfl) (by kernel_rfl) (by exact fun _ _ _ h => h) (Or.inl ⟨by rfl, ?_⟩) hS ?_
        rotate_left
        · (intro wS hSw; (try dsimp only at hSw); go_simp; try with_reducible rfl)
        try simp only [Act.put, List.setIfInBounds_toArray, List.set_cons_zero, List.set_cons_succ]
        refine AnyX.take (i := 9) (oi := _) (v := ?_) (by rw [List.getElem?_toArray]; rfl) (by kernel_rfl) (by kernel_rfl) (by kernel_rfl) (by kernel_rfl) (by kernel_rfl) (by exact fun _ _ _ h => h) (Or.inl ⟨by rfl, ?_⟩) hS ?_
        rotate_left
        · (intro wS hSw; (try dsimp only at hSw); go_simp; rw [hw9.out]; try with_reducible rfl)
        try simp only [Act.put, List.setIfInBounds_toArray, List.set_cons_zero, List.set_cons_succ]
        refine AnyX.only (i := 10) (o := _) (by kernel_rfl) (by rw [List.getElem?_toArray]; rfl) (fun K hK => ?_)
        go_simp
        have al : Below w29.heap.size w29 (w29.alloc (.cells #[.int .i64 ((total pre : Int) + (x.size : Int))] 3)) := by
          repeat refine Below.alloc ?_ (by simp <;> omega) _
          exact Below.refl _ _
        have n_R9 := Row.made w29 3 [.int .i64 ((total pre : Int) + (x.size : Int))]
        have hs_w30 : w29.heap.size < (w29.alloc (.cells #[.int .i64 ((total pre : Int) + (x.size : Int))] 3)).heap.size := by simp
        replace G1 := G1.below al
        replace G3 := G3.below al
        replace o2 := o2.below al
        replace hT := hT.below al
        replace S4 := S4.below al
        replace S5 := S5.below al
        replace S6 := S6.below al
        replace o6 := o6.below al
        replace hB := tr hB al (Nat.le_refl _)
        generalize (w29.alloc (.cells #[.int .i64 ((total pre : Int) + (x.size : Int))] 3)) = w30 at *
        have R9 := n_R9; clear n_R9
        clear al
        clear hS
        have hS : (fun w' => w'.cell? ⟨w.heap.size + 1 + 1, 0, none⟩ = some (.slice (some ⟨gb, off, none⟩) (pre.length + 1) ec) ∧ w'.cell? ⟨gb, off + pre.length, none⟩ = some (.int .i64 (total pre : Int))) w30 := ⟨G3.cells 0, ends_elem o2⟩
        refine hK.out _ _ (fun _ => hS) ?_
        clear hK K
        try simp only [Act.put, List.setIfInBounds_toArray, List.set_cons_zero, List.set_cons_succ]
        refine AnyX.only (i := 11) (o := _) (by kernel_rfl) (by rw [List.getElem?_toArray]; rfl) (fun K hK => ?_)
        have lF2 := o2.lt; have lF6 := o6.lt
        refine step_apd one_EInt (by decide) (by rfl) _ _ _ (by rfl) 3 (.int .i64 0) 8 Tryz.underlying22 info_int rfl (.slice (some ⟨gb, off, none⟩) (pre.length + 1) ec) (endsZ pre) F2 (by rfl) o2 (Hd.of n2) (some ⟨w29.heap.size, 0, none⟩) [(total pre : Int) + (x.size : Int)] 1 (by rfl) [.int .i64 ((total pre : Int) + (x.size : Int))] [] (Flat.one ⟨rfl, rfl⟩) (.inr ⟨_, rfl, (row_news R9)⟩) (by simp) (by have := hel.out; simp; unfold maxLen; omega) (by have := hel.out; simp; omega) ?_
        intro v8 w31 F8 hA
        have o8 := hA.ow; have n8 := hA.nodup n2 (by simp) (by simp); have m8 := hA.mem; have K8 := hA.keep
        obtain ⟨a8, c8, hv8⟩ := hA.val
        clear hA
        have hv9 : v8 = .slice a8 (pre.length + 1 + 1) c8 := by rw [hv8, hel.out]; rfl
        subst hv9
        clear hv8
        have hs_w31 := K8.size
        have f8 : ∀ b ∈ F8, b = w.heap.size + 1 ∨ w1.heap.size + 1 < b := fun b hb => by
          rcases m8 b hb with h7 | h7 | h7
          · exact f2 b h7
          · simp at h7
          · omega
        have d8 : ∀ b ∈ F6, b ∉ F8 := fun b hb hm => by
          rcases m8 b hm with h7 | h7 | h7
          · exact d6 b hb h7
          · simp at h7
          · have := lF6 b hb; omega
        replace G1 := G1.keepK K8 (fun hm => by have := f2 _ hm; omega)
        replace G3 := G3.keepK K8 (fun hm => by have := f2 _ hm; omega)
        replace o6 := o6.keep K8 (fun b hb hm => d6 b hb hm)
        replace hT := hT.keep K8 (fun b hb hm => by have := f2 b hm; have := hnd b hb; omega)
        replace S4 := S4.keepK K8 (fun hm => by have := f2 _ hm; omega)
        replace S5 := S5.keepK K8 (fun hm => by have := f2 _ hm; omega)
        replace S6 := S6.keepK K8 (fun hm => by have := f2 _ hm; omega)
        replace hB := hB.trans (K8.below (B := w.heap.size) (by have := hB.size; omega) (fun b hb => by have := f2 b hb; omega))
        clear K8 m8 lF2 lF6 R9 o2
        refine hK.out _ _ (fun h => by cases h) ?_
        clear hK K
        try simp only [Act.put, List.setIfInBounds_toArray, List.set_cons_zero, List.set_cons_succ]
        refine AnyX.only (i := 12) (o := _) (by kernel_rfl) (by rw [List.getElem?_toArray]; rfl) (fun K hK => ?_)
        have c_G3 := G3.cells; have f_G3 := G3.frozens
        go_simp
        clear c_G3 f_G3
        refine hK.out _ _ (fun h => by cases h) ?_
        clear hK K
        try simp only [Act.put, List.setIfInBounds_toArray, List.set_cons_zero, List.set_cons_succ]
        refine AnyX.done (by kernel_rfl) ?_ _
        (try clear hS)
        have K9 : Keep [w.heap.size + 1 + 1] w31 (w31.setCell ⟨w.heap.size + 1 + 1, 0, none⟩ (.slice a8 (pre.length + 1 + 1) c8)) := (Keep.refl _ _).setCell (by simp) _
        have G3b : Row (w31.setCell ⟨w.heap.size + 1 + 1, 0, none⟩ (.slice a8 (pre.length + 1 + 1) c8)) (w.heap.size + 1 + 1) 22 [(.slice a8 (pre.length + 1 + 1) c8)] := G3.set 0 (.slice a8 (pre.length + 1 + 1) c8)
        replace G1 := G1.keepK K9 (by simp <;> omega)
        replace o6 := o6.keep K9 (fun b hb hm => by have := f6 b hb; simp at hm; omega)
        replace o8 := o8.keep K9 (fun b hb hm => by have := f8 b hb; simp at hm; omega)
        replace hT := hT.keep K9 (fun b hb hm => by have := hnd b hb; simp at hm; omega)
        replace S4 := S4.keepK K9 (by simp <;> omega)
        replace S5 := S5.keepK K9 (by simp <;> omega)
        replace S6 := S6.keepK K9 (by simp <;> omega)
        replace hB := hB.trans (K9.below (B := w.heap.size) (by have := hB.size; omega) (fun b hb => by simp at hb; omega))
        have hlen : (pre ++ [x]).length = pre.length + 1 := by simp
        have hmap : (pre ++ [x]).map recOf = pre.map recOf ++ [⟨cc, rr⟩] := by rw [List.map_append, ← hrec.out]; rfl
        refine ⟨fun k hk => ?_, ?_⟩
        · simp only [List.mem_cons, List.not_mem_nil, or_false] at hk
          rcases hk with rfl | rfl | rfl
          · exact S4.1
          · exact S5.1
          · exact S6.1
        · unfold RdI
          rw [hlen, hmap, endsZ_snoc, listsOf_snoc]
          exact ⟨a6, c6, F6, a8, c8, F8, G1, G3b, o6, n6, o8, n8, f6, f8, d8, hT, hB, Lib.hid (acc_snoc ha.out (by rw [listsOf_len, Nat.zero_add]; exact hok))⟩
      · have hno : okL pre.length x.data.toList = false := by unfold okL; rw [henc]; simpa using hyx
        have hne : ((bs y).toList == x.toList) = false := by rw [ByteArray.toList_eq, ByteArray.toList_eq, bs_list]; simpa using hyx
        have hE2 := hE.out
        rw [hres.out, henc] at hE2
        replace hE2 := Lib.hid hE2
        refine wpIn_seq_k (fun _ _ => ?_)
        refine wpIn_seq_k (fun _ _ => ?_)
        refine region_round (fun _ _ h => h) (by kernel_rfl) ?_
        have c_G1 := G1.cells; have f_G1 := G1.frozens
        have c_R8 := R8.cells; have f_R8 := R8.frozens
        go_wp2_with fail
        clear c_G1 f_G1 c_R8 f_R8
        refine (hE2.out _ _ ⟨_, rfl, rfl, sc, sr, rfl⟩ hT).mono ?_
        rintro e w32 ⟨rfl, hb⟩
        have hs_w32 := hb.size
        clear hE hE2
        replace G1 := G1.below hb
        replace G3 := G3.below hb
        replace R8 := R8.below hb
        replace o1 := o1.below hb
        replace o2 := o2.below hb
        replace hT := hT.below hb
        replace S4 := S4.below hb
        replace S5 := S5.below hb
        replace S6 := S6.below hb
        replace hB := tr hB hb (Nat.le_refl _)
        clear hb
        go_wp2_with fail
        refine wpIn_seq_k (fun _ _ => ?_)
        refine region_round (fun _ _ h => h) (by kernel_rfl) ?_
        go_wp2_with fail
        refine wpIn_cond_true rfl ?_
        refine wpIn_exit ?_
        refine ⟨fun k hk => ?_, rfl, pre, x, rfl, ⟨lo, lc, F1, eo, ec, F2, G1, G3, o1, n1, o2, n2, f1, f2, dd, hT, hB, ha⟩, hno⟩
        simp only [List.mem_cons, List.not_mem_nil, or_false] at hk
        rcases hk with rfl | rfl | rfl
        · exact S4.1
        · exact S5.1
        · exact S6.1
  case hdone =>
    intro W hi hD
    obtain ⟨lo, lc, eo, ec, r1, r3, hp⟩ := RdI.post (s := s) (by omega) (opened_all hi.acc) hi
    replace hp := Lib.hid hp
    clear R1 R2 R3 R4 hT hB h0 hi
    have c1 := r1.cells; have c3 := r3.cells
    go_wp2_with fail
    go_quiet (fail)
    go_wp2_with fail
    refine ⟨by simp, .inl ⟨_, _, rfl, run_takeDeferred (show (World.drewN W nq).heap[w1.heap.size]? = _ from hD), ?_⟩⟩
    refine ⟨_, ?_, hp.out _ ⟨rfl, rfl, rfl, by simp [World.drewN], fun k hk hm => World.putObj_heap_other (by simpa using hm)⟩⟩
    simp [results, Tryz.results77, go_sem]
  case hstop =>
    intro c pre post x W hxs hix hD
    obtain ⟨rfl, pre', x', hy, hi, hok⟩ := hix
    obtain ⟨rfl, hxx⟩ := List.append_inj' hy rfl
    simp only [List.cons.injEq, and_true] at hxx
    subst hxx
    obtain ⟨lo, lc, eo, ec, r1, r3, hp⟩ := RdI.post (s := s) (by omega) (opened_stop hxs hi.acc hok) hi
    replace hp := Lib.hid hp
    clear R1 R2 R3 R4 hT hB h0 hi hxs hy
    refine wpIn_exit ?_
    have c1 := r1.cells; have c3 := r3.cells
    go_wp2_with fail
    go_quiet (fail)
    go_wp2_with fail
    refine ⟨by simp, .inl ⟨_, _, rfl, run_takeDeferred (show (World.drewN W nq).heap[w1.heap.size]? = _ from hD), ?_⟩⟩
    refine ⟨_, ?_, hp.out _ ⟨rfl, rfl, rfl, by simp [World.drewN], fun k hk hm => World.putObj_heap_other (by simpa using hm)⟩⟩
    simp [results, Tryz.results77, go_sem]
end Go.Proofs.YtccmhdheoeglmaaGreatDoor.Lg
/- Walks: the reference's l27Open. -/
namespace Go.Proofs.YtccmhdheoeglmaaGreatDoor.Lg
open Go.RowKit
/-- the records at the start of a text, and how many bytes they take -/
def POpen (l : Bs) (w : World) (e : Ending) (w' : World) : Prop :=
  ∃ u0 G0, e = .returned (.tuple #[u0, .int .i64 ((opened l).flatten.length : Nat)]) ∧ Ow ELogRecord 179 w' u0 ((opened l).map recL) G0 ∧ G0.Nodup ∧ (∀ b ∈ G0, w.heap.size ≤ b) ∧ Below w.heap.size w w'
theorem acc_sixty (xs : List Bs) : acc 60 xs = [] := by
  cases xs with
  | nil => rfl
  | cons x r =>
    have : okL 60 x = false := by
      cases h : okL 60 x with
      | false => rfl
      | true => obtain ⟨c, r, hk, _⟩ := okL_iff.1 h; omega
    simp [acc, this]
theorem opened_at {l rest : Bs} {pre : List Bs} (hl : l = pre.flatten ++ rest) (h : acc 0 pre = pre) : opened l = pre ++ acc pre.length (linesOf rest) := by rw [hl]; exact opened_lines h rest
theorem first_line {rest : Bs} (h : rest ≠ []) : ∃ x post, linesOf rest = x :: post ∧ (10 ∈ rest → x = upTo 10 rest ++ [10] ∧ post = linesOf (behind 10 rest)) ∧ (10 ∉ rest → x = rest) := by
  rcases split_at 10 rest with ⟨h1, h2⟩ | ⟨h1, h2, _⟩
  · refine ⟨upTo 10 rest ++ [10], linesOf (behind 10 rest), ?_, fun _ => ⟨rfl, rfl⟩, fun e => absurd h1 e⟩
    conv => lhs; rw [h2]
    exact linesOf_nl _ upTo_mem
  · exact ⟨rest, [], linesOf_last h fun c hc e => h1 (by rw [← e]; exact hc), fun e => absurd e h1, fun _ => rfl⟩
theorem opened_none {l rest : Bs} {pre : List Bs} (hl : l = pre.flatten ++ rest) (h : acc 0 pre = pre) (hr : rest = [] ∨ pre.length = 60) : opened l = pre := by
  rw [opened_at hl h]
  rcases hr with rfl | hr
  · simp [linesOf, acc]
  · rw [hr, acc_sixty]; simp
theorem opened_bad {l rest : Bs} {pre : List Bs} (hl : l = pre.flatten ++ rest) (h : acc 0 pre = pre) (hr : rest ≠ []) (hb : 10 ∉ rest ∨ okL pre.length (upTo 10 rest ++ [10]) = false) : opened l = pre := by
  rw [opened_at hl h]
  obtain ⟨x, post, hx, h1, h2⟩ := first_line hr
  have : okL pre.length x = false := by
    by_cases hm : 10 ∈ rest
    · rw [(h1 hm).1]; exact hb.resolve_left (fun e => e hm)
    · rw [h2 hm]; exact okL_no fun b hb e => hm (by rw [← e]; exact hb)
  rw [hx]; simp [acc, this]
theorem opened_good {l rest : Bs} {pre : List Bs} (hl : l = pre.flatten ++ rest) (h : acc 0 pre = pre) (hm : 10 ∈ rest) (hok : okL pre.length (upTo 10 rest ++ [10]) = true) :
    acc 0 (pre ++ [upTo 10 rest ++ [10]]) = pre ++ [upTo 10 rest ++ [10]] ∧ l = (pre ++ [upTo 10 rest ++ [10]]).flatten ++ behind 10 rest := by
  refine ⟨acc_snoc h (by rw [Nat.zero_add]; exact hok), ?_⟩
  rcases split_at 10 rest with ⟨_, h2⟩ | ⟨h2, _⟩
  · rw [hl]; conv => lhs; rw [h2]
    simp
  · exact absurd hm h2
theorem split_len (c : UInt8) (l : Bs) : (splitL c l).length < 2 ↔ c ∉ l := by
  obtain ⟨r, hr, he⟩ := splitL_head c l
  rw [hr, ← he]
  cases r <;> simp
set_option maxHeartbeats 3200000 in
set_option maxRecDepth 100000 in
theorem l27Open_c (s : ByteArray) (w : World) (hs : s.size ≤ 16777216) : Calls Tryz.prog 110 #[.string s] w (POpen s.data.toList w) := by
  go_enter Tryz.func110, Tryz.ntmps110
  go_wp2_with fail
  go_loopw [4, 5] (fun o f wr => ∃ (pre : List Bs) (rest : Bs) (F : List Nat) (oa : Option Addr) (oc at_ : Nat), at_ = pre.flatten.length ∧ f = .int .i64 at_ ∧ o = .slice oa pre.length oc ∧ Hid (Ow ELogRecord 179 wr (.slice oa pre.length oc) (pre.map recL) F) ∧ F.Nodup ∧ (∀ b ∈ F, w.heap.size ≤ b) ∧
    Hid (s.data.toList = pre.flatten ++ rest) ∧ Hid (acc 0 pre = pre) ∧ pre.length ≤ 60 ∧ at_ + rest.length = s.size ∧ Below w.heap.size w wr) (fun _ f _ => s.size - (intOf f).toNat)
  case atStart => exact ⟨[], s.data.toList, [w.heap.size], some ⟨w.heap.size, 0, none⟩, 0, 0, rfl, rfl, rfl, Lib.hid (Ow.empty (Row.made _ _ _)), by simp, by simp, Lib.hid rfl, Lib.hid rfl, by simp, by rw [size_list]; simp, (Below.refl _ _).alloc (Nat.le_refl _) _⟩
  case round =>
    obtain ⟨pre, rest, F, oa, oc, at_, hat, rfl, rfl, ho, hn, hF, hl, ha, hp, hsz, hB⟩ := hrel
    have done : ∀ (w' : World), opened s.data.toList = pre → Below w.heap.size w w' → Ow ELogRecord 179 w' (.slice oa pre.length oc) (pre.map recL) F → POpen s.data.toList w (.returned (.tuple #[.slice oa pre.length oc, .int .i64 (at_ : Nat)])) w' :=
      fun w' h1 h2 h3 => ⟨_, F, by rw [h1, hat], by rw [h1]; exact h3, hn, hF, h2⟩
    replace done := Lib.hid done
    replace hat := Lib.hid hat
    by_cases hr : rest.length = 0
    · have hr0 : rest = [] := List.eq_nil_of_length_eq_zero hr
      have hop := Lib.hid (opened_none hl.out ha.out (.inl hr0))
      clear hl ha
      go_wp2_with fail
      refine bodyPost_ret (v := .tuple #[.slice oa pre.length oc, .int .i64 (at_ : Nat)]) ?_ rfl (done.out _ hop.out ?_ ?_)
      · simp [results, Tryz.results110, go_sem]
      · exact hB
      · exact ho.out
    · have hr0 : rest ≠ [] := fun e => hr (by rw [e]; rfl)
      by_cases h6 : pre.length = 60
      · have hop := Lib.hid (opened_none hl.out ha.out (.inr h6))
        clear hl ha hr0
        replace h6 : 60 ≤ pre.length := by omega
        go_wp2_with fail
        refine bodyPost_ret (v := .tuple #[.slice oa pre.length oc, .int .i64 (at_ : Nat)]) ?_ rfl (done.out _ hop.out ?_ ?_)
        · simp [results, Tryz.results110, go_sem]
        · exact hB
        · exact ho.out
      · have hp9 : pre.length ≤ 59 := by omega
        have hrs : s.extract at_ s.size = bs rest := by rw [ext_end, hl.out, hat.out, List.drop_left]
        have hrl := Lib.hid (show (s.extract at_ s.size).data.toList = rest by rw [hrs, bs_list])
        have hrs2 : (s.extract at_ s.size).size ≤ 16777216 := by simp; omega
        have hus : (bs (upTo 10 rest)).size ≤ 16777216 := by have := upTo_len 10 rest; rw [bs_size]; omega
        have hus2 := Lib.hid (bs_size (upTo 10 rest))
        have hR : ∀ w, Calls Tryz.prog 160 #[.string (bs (upTo 10 rest)), .int .i64 (pre.length : Int)] w fun e w' => e = .returned (.tuple #[.agg #[.string (bs (readR (upTo 10 rest) pre.length).1.1), .string (bs (readR (upTo 10 rest) pre.length).1.2)], .bool (okL pre.length (upTo 10 rest ++ [10]))]) ∧ Below w.heap.size w w' := fun w => by
          have := l27Read_c (bs (upTo 10 rest)) pre.length w hp9 hus
          unfold PReadR at this
          rwa [bs_list, readR_ok hp9] at this
        have hrec : okL pre.length (upTo 10 rest ++ [10]) = true → (⟨bs (readR (upTo 10 rest) pre.length).1.1, bs (readR (upTo 10 rest) pre.length).1.2⟩ : LogRecord) = recL (upTo 10 rest ++ [10]) := fun h => by
          rw [readR_rec (by rw [readR_ok hp9]; exact h)]; rfl
        have hr1 : (bs (readR (upTo 10 rest) pre.length).1.1).size ≤ maxLen ∧ (bs (readR (upTo 10 rest) pre.length).1.2).size ≤ maxLen ∨ okL pre.length (upTo 10 rest ++ [10]) = false := by
          cases hk : okL pre.length (upTo 10 rest ++ [10]) with
          | false => exact .inr rfl
          | true =>
            left
            have h1 := hrec hk
            obtain ⟨c, r, _, hg, e⟩ := okL_iff.1 hk
            have hG := goodL_good hg
            rw [e] at h1
            unfold recL at h1
            rw [cmd_line hG, rep_line hG] at h1
            simp only [LogRecord.mk.injEq] at h1
            have := hG.c1; have := hG.r1
            rw [h1.1, h1.2, bs_size, bs_size]; unfold maxLen; omega
        replace hrec := Lib.hid hrec
        replace hr1 := Lib.hid hr1
        clear hrs
        generalize bs (readR (upTo 10 rest) pre.length).1.1 = cc at *
        generalize bs (readR (upTo 10 rest) pre.length).1.2 = rr at *
        by_cases hm : 10 ∈ rest
        · cases hok : okL pre.length (upTo 10 rest ++ [10])
          · have hop := Lib.hid (opened_bad hl.out ha.out hr0 (.inr hok))
            rw [hok] at hR
            replace hR := Lib.hid hR
            clear hl ha hr0 hok hrec hr1
            go_wp2_with fail
            refine (l1Split_c (s.extract at_ s.size) 10 _ hrs2).mono ?_
            rintro e w2 ⟨v2, F2, rfl, o2, -, -, hb2⟩
            obtain ⟨g2, off2, m2, cap2, rfl, hm2, hm3, q2⟩ := split_first o2
            rw [hrl.out] at q2 hm3
            have hls := split_len 10 rest
            rw [← hm3] at hls
            clear o2 hm3
            have ho2 := Lib.hid (ho.out.below hb2)
            have hB2 := tr hB hb2 (Nat.le_refl _)
            clear ho hB hb2
            have hm4 : ¬ m2 < 2 := fun e => (hls.1 e) hm
            clear hls hm
            go_wp2_with fail
            refine (hR.out _).mono ?_
            rintro e w3 ⟨rfl, hb3⟩
            have ho3 := Lib.hid (ho2.out.below hb3)
            have hB3 := tr hB2 hb3 (Nat.le_refl _)
            have q3 := kc hb3 q2
            clear ho2 hB2 hb3 q2
            go_wp2_with fail
            refine bodyPost_ret (v := .tuple #[.slice oa pre.length oc, .int .i64 (at_ : Nat)]) ?_ rfl (done.out _ hop.out ?_ ?_)
            · simp [results, Tryz.results110, go_sem]
            · exact hB3.alloc hB3.size _
            · exact (ho3.out.below ((Below.refl _ _).alloc (Nat.le_refl _) _))
          · obtain ⟨hacc, hl2⟩ := opened_good hl.out ha.out hm hok
            have hrc := Lib.hid (hrec.out hok)
            obtain ⟨sc, sr⟩ := hr1.out.resolve_right (by rw [hok]; simp)
            have hbl : (upTo 10 rest).length + 1 + (behind 10 rest).length = rest.length := by
              rcases split_at 10 rest with ⟨_, h2⟩ | ⟨h2, _⟩
              · have := congrArg List.length h2; simp at this; omega
              · exact absurd hm h2
            rw [hok] at hR
            replace hR := Lib.hid hR; replace hacc := Lib.hid hacc; replace hl2 := Lib.hid hl2; replace hbl := Lib.hid hbl
            clear hl ha hr0 hok hrec hr1 done
            have hFl := ho.out.lt
            go_wp2_with fail
            refine (l1Split_c (s.extract at_ s.size) 10 _ hrs2).mono ?_
            rintro e w2 ⟨v2, F2, rfl, o2, -, f2, hb2⟩
            obtain ⟨g2, off2, m2, cap2, rfl, hm2, hm3, q2⟩ := split_first o2
            rw [hrl.out] at q2 hm3
            have hls := split_len 10 rest
            rw [← hm3] at hls
            have hg2 : wr.heap.size ≤ g2 := f2 _ (o2.own_mem _ rfl)
            have hs2 := hb2.size
            clear o2 hm3 f2
            have ho2 := Lib.hid (ho.out.below hb2)
            have hB2 := tr hB hb2 (Nat.le_refl _)
            clear ho hB hb2
            have hm4 : ¬ m2 < 2 := fun e => (hls.1 e) hm
            clear hls hm
            go_wp2_with fail
            refine (hR.out _).mono ?_
            rintro e w3 ⟨rfl, hb3⟩
            have ho3 := Lib.hid (ho2.out.below hb3)
            have hB3 := tr hB2 hb3 (Nat.le_refl _)
            have q3 := kc hb3 q2
            have hs3 := hb3.size
            clear ho2 hB2 hb3 q2
            have al2 := ((Below.refl w3.heap.size w3).alloc (Nat.le_refl _) (.cells #[.string cc, .string rr] 179)).alloc (by simp) (.cells #[.string cc, .string rr] 179)
            have hnews : ∀ j u, [Value.string cc, Value.string rr][j]? = some u → ((w3.alloc (.cells #[.string cc, .string rr] 179)).alloc (.cells #[.string cc, .string rr] 179)).cell? ((⟨w3.heap.size + 1, 0, none⟩ : Addr).add j) = some u :=
              World.news_of_block (by have := heap_alloc_new (w3.alloc (.cells #[.string cc, .string rr] 179)) (.cells #[.string cc, .string rr] 179); simpa using this)
            have ho4 := ho3.out.below al2
            have q4 := kc al2 q3
            have hB4 := tr hB3 al2 (Nat.le_refl _)
            replace hnews := Lib.hid hnews; replace ho4 := Lib.hid ho4; replace q4 := Lib.hid q4
            clear ho3 hB3 q3
            go_wp2_with (at_builtin; refine wpList_apd one_ELogRecord (by decide) (by rfl) _ _ _ (by rfl) 179 (.agg #[.string ⟨#[]⟩, .string ⟨#[]⟩]) 32 Tryz.underlying115 info_LogRecord rfl (.slice oa pre.length oc) (pre.map recL) F (by rfl) ho4.out (Hd.of hn) (some ⟨w3.heap.size + 1, 0, none⟩) [⟨cc, rr⟩] 1 (by rfl) [.string cc, .string rr] [] (Flat.one ⟨rfl, sc, sr, rfl⟩) (.inr ⟨_, rfl, hnews.out⟩) (by simp) (by simp; unfold maxLen; omega) (by simp; omega) ?_)
            intro v6 w6 F6 hA
            have o6 := hA.ow; have n6 := hA.nodup hn (by simp) (by simp); have m6 := hA.mem; have K6 := hA.keep
            obtain ⟨a6, c6, hv6⟩ := hA.val
            clear hA
            have hv7 : v6 = .slice a6 (pre.length + 1) c6 := by simpa using hv6
            subst hv7; clear hv6
            have f6 : ∀ b ∈ F6, w.heap.size ≤ b := fun b hb => by
              rcases m6 b hb with h7 | h7 | h7
              · exact hF b h7
              · simp at h7
              · have := hB4.size; simp at h7 this; omega
            have q6 := K6.cell (a := ⟨g2, off2, none⟩) (fun hm' => by have := hFl _ hm'; simp at this; omega) q4.out
            have B6 : Below w.heap.size w w6 := hB4.trans (K6.below hB4.size hF)
            have hml : (pre ++ [upTo 10 rest ++ [10]]).map recL = pre.map recL ++ [⟨cc, rr⟩] := by rw [List.map_append, hrc.out]; rfl
            replace o6 := Lib.hid o6; replace hml := Lib.hid hml
            have hd : Hid (at_ + (upTo 10 rest).length + 1 = (pre ++ [upTo 10 rest ++ [10]]).flatten.length) := by refine Lib.hid ?_; have := hat.out; simp at this ⊢; omega
            have hus3 : (bs (upTo 10 rest)).size = (upTo 10 rest).length := hus2.out
            have hul : (upTo 10 rest).length + 1 ≤ rest.length := by have := hbl.out; omega
            generalize hun : (upTo 10 rest).length = n at *
            replace hus3 := Lib.hid hus3; replace hun := Lib.hid hun
            clear K6 m6 hnews ho4 q4 hB4 al2 hF hn hrc hat
            go_wp2_with fail
            refine ⟨⟨pre ++ [upTo 10 rest ++ [10]], behind 10 rest, F6, a6, c6, at_ + n + 1, ?_, ?_, by simp, ?_, n6, f6, hl2, hacc, by simp; omega, ?_, B6⟩, ?_⟩
            · rw [← hd.out]
            · rw [hus3.out]; go_num
            · refine Lib.hid ?_
              rw [hml.out]; simpa using o6.out
            · have := hbl.out; omega
            · simp [intOf]; have := hus3.out; omega
        · have hop := Lib.hid (opened_bad hl.out ha.out hr0 (.inl hm))
          replace hR := Lib.hid hR
          clear hl ha hr0 hrec hr1
          go_wp2_with fail
          refine (l1Split_c (s.extract at_ s.size) 10 _ hrs2).mono ?_
          rintro e w2 ⟨v2, F2, rfl, o2, -, -, hb2⟩
          obtain ⟨g2, off2, m2, cap2, rfl, hm2, hm3, q2⟩ := split_first o2
          rw [hrl.out] at q2 hm3
          have hls := split_len 10 rest
          rw [← hm3] at hls
          clear o2 hm3
          have ho2 := Lib.hid (ho.out.below hb2)
          have hB2 := tr hB hb2 (Nat.le_refl _)
          clear ho hB hb2
          have hm4 : m2 < 2 := hls.2 hm
          clear hls hm
          go_wp2_with fail
          refine (hR.out _).mono ?_
          rintro e w3 ⟨rfl, hb3⟩
          have ho3 := Lib.hid (ho2.out.below hb3)
          have hB3 := tr hB2 hb3 (Nat.le_refl _)
          have q3 := kc hb3 q2
          clear ho2 hB2 hb3 q2
          go_wp2_with fail
          refine bodyPost_ret (v := .tuple #[.slice oa pre.length oc, .int .i64 (at_ : Nat)]) ?_ rfl (done.out _ hop.out ?_ ?_)
          · simp [results, Tryz.results110, go_sem]
          · exact hB3.alloc hB3.size _
          · exact (ho3.out.below ((Below.refl _ _).alloc (Nat.le_refl _) _))
end Go.Proofs.YtccmhdheoeglmaaGreatDoor.Lg
