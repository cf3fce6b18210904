/- Part 2 of the proof: 52 texts, one behind the other. -/
import Derived.Lib.Overlaps
import Derived.Lib.AppendZerosOnto
import Derived.Laws.IdiomCopy
import Derived.Test.YtidephmobajikaaGreatDoorShelf
import Derived.Lib.RowBridge
import Derived.Laws.IdiomStrings
import Derived.Laws.Bits64b
import Derived.Test.YtidephmobajikaaGreatDoorM1
/- The rules as walks use them, with the tactics that close their side conditions; parts of slices; appending; regions that draw their order. Plain: no program in sight. -/
namespace Go.Proofs.YtidephmobajikaaGreatDoor
open Go.RowKit
theorem memE {p : Pc} {H : List Pc} (h : p ∈ H := by (repeat (first | exact .head _ | apply List.Mem.tail)); first | done | fail) : p ∈ H := h
theorem cutE {l : List Value} {j m : Nat} {r : List Value} (h : Cut l j m r := by repeat constructor) : Cut l j m r := h
theorem putE {l r s : List Value} {j : Nat} (h : Put l j r s := by first | exact .one .zero | repeat constructor) : Put l j r s := h
theorem evsE {fr : Fr} {aS : List Operand} {vs : List Value} (h : Evs fr aS vs := by repeat (first | exact Evs.nil | apply Evs.cons (by rfl))) : Evs fr aS vs := h
theorem rplE {H S : List Pc} {p q : Pc} (h : Rpl H p q S := by (repeat (first | exact .here | apply Rpl.there)); first | done | fail) : Rpl H p q S := h
theorem picksE {H M R : List Pc} (h : Picks H M R := by repeat (first | exact Picks.nil | apply Picks.cons (by (repeat (first | exact .here | apply Pick.there)); first | done | fail))) : Picks H M R := h
theorem frE {a b : Fr} (h : FrSub a b := by repeat (first | exact FrSub.nil | refine FrSub.cons (by rfl) ?_)) : FrSub a b := h
theorem foldl_put (l : List Value) : ∀ (k off : Nat) (A o B : List Value), A.length = off + k → o.length = l.length → (l.zipIdx k).foldl (fun (cs : Array Value) (x : Value × Nat) => cs.setIfInBounds (off + x.2) x.1) (A ++ o ++ B).toArray = (A ++ l ++ B).toArray := by
  induction l with
  | nil => intro k off A o B _ ho; simp at ho; subst ho; simp
  | cons u r ih =>
    intro k off A o B hA ho
    cases o with
    | nil => simp at ho
    | cons z o =>
      rw [List.zipIdx_cons, List.foldl_cons]
      have h4 : (A ++ (z :: o) ++ B).toArray.setIfInBounds (off + k) u = ((A ++ [u]) ++ o ++ B).toArray := by
        rw [← hA]; simp [List.set_append]
      show List.foldl _ ((A ++ (z :: o) ++ B).toArray.setIfInBounds (off + k) u) _ = _
      rw [h4, ih (k + 1) off (A ++ [u]) o B (by simp; omega) (by simpa using ho)]; simp
/-- parts go to their places -/
inductive Fil (pl : Nat → Option (Nat × Nat)) (fr : Fr) : List Value → List (Nat × Operand) → List Value → Prop
  | nil {cs} : Fil pl fr cs [] cs
  | cons {cs i x ps v l off r q} : ev fr x = some v → v.cells = l.toArray → pl i = some (off, l.length) → Put cs off l r → Fil pl fr r ps q → Fil pl fr cs ((i, x) :: ps) q
theorem Fil.run {pl : Nat → Option (Nat × Nat)} {fr : Fr} {n : Nat} {cs q : List Value} {ps : List (Nat × Operand)} (h : Fil pl fr cs ps q) {a : Act} (g : Ag n fr a) : Instr.fill pl cs.toArray (ps.map fun (i, x) => (i, a.eval x)) = some q.toArray := by
  induction h with
  | nil => rfl
  | @cons cs i x ps v l off r q hx hv hp hput _ ih =>
    obtain ⟨A, o, B, rfl, rfl, rfl, ho⟩ := hput.parts
    rw [List.map_cons]
    unfold Instr.fill
    simp only [hp, g.ev hx, hv]
    have h1 : ¬ ((l.toArray.size ≠ l.length) ∨ (A.length + l.toArray.size > (A ++ o ++ B).toArray.size)) := by simp; omega
    rw [if_neg (by simpa using h1)]
    have h2 : l.toArray.zipIdx.foldl (fun (cs : Array Value) (x : Value × Nat) => cs.setIfInBounds (A.length + x.2) x.1) (A ++ o ++ B).toArray = (A ++ l ++ B).toArray := by
      rw [← Array.foldl_toList]
      have := foldl_put l 0 A.length A o B rfl ho
      simpa using this
    rw [h2]; exact ih
theorem filE {pl : Nat → Option (Nat × Nat)} {fr : Fr} {cs q : List Value} {ps : List (Nat × Operand)} (h : Fil pl fr cs ps q := by repeat (first | exact Fil.nil | apply Fil.cons (by rfl) (by rfl) (by rfl) (by repeat constructor))) : Fil pl fr cs ps q := h
theorem yd_bd {P : Program} {n : Nat} {fr : Fr} {H : List Pc} {ty : TypeId} {t : Nat} {pl : List (Nat × Nat)} {zs q : List Value} {ps : List (Nat × Operand)} [hB : BldC P t pl zs] (hf : Fil (pl.toArray[·]?) fr zs ps q) : Yd P n fr H (.build t ps.toArray) ty (.agg q.toArray) := .mk fun a w d pos aft gd g _ => by
  have h3 := hf.run g
  have h4 := run_build (P := P) w t (ps.map fun (i, x) => (i, a.eval x)).toArray q.toArray (by rw [hB.b]; exact h3)
  simp only [List.map_toArray] at h4
  simp [execOp, h4]
theorem ydE {P : Program} {n : Nat} {fr : Fr} {H : List Pc} {o : Op} {ty : TypeId} {v : Value} (h : Yd P n fr H o ty v := by first | (apply yd_move; rfl) | (apply yd_assign; rfl) | (apply yd_nil; rfl) | (apply yd_fa; rfl) | (apply yd_ld; rfl; exact memE; rfl) | (apply yd_ldc; rfl; exact memE; rfl) | (apply yd_lda; rfl; exact memE; exact cutE) | (apply yd_ldac; rfl; exact memE; exact cutE) | (apply yd_pick_t; rfl; rfl) | (apply yd_pick_f; rfl; rfl) | (apply yd_len; rfl) | (apply yd_lens; rfl) | (apply yd_ex; rfl; rfl) | (apply yd_fld; rfl; rfl) | (apply yd_flda; rfl; exact cutE) | (apply yd_lt; rfl; rfl) | (apply yd_le; rfl; rfl) | (apply yd_gt; rfl; rfl) | (apply yd_ge; rfl; rfl) | (apply yd_eq; rfl; rfl) | (apply yd_ne; rfl; rfl) | (apply yd_add; rfl; rfl; omega; omega) | (apply yd_sub; rfl; rfl; omega; omega) | (apply yd_eqs; rfl; rfl) | (apply yd_nes; rfl; rfl) | (apply yd_cat; rfl; rfl; omega) | (apply yd_notd; rfl) | (apply yd_not; rfl) | (apply yd_neg; rfl; omega; omega) | (apply yd_ix; rfl; rfl; omega; omega) | (apply yd_ixs; rfl; rfl; omega; omega) | (apply yd_quo; rfl; rfl; omega; omega; omega) | (apply yd_rem; rfl; rfl; omega; omega) | (apply yd_mul; rfl; rfl; omega; omega) | (apply yd_cv; rfl; omega; omega) | (apply yd_eqb; rfl; rfl) | (apply yd_neb; rfl; rfl) | (apply yd_fn; exact evsE) | (apply yd_nilf; rfl) | (apply yd_min; rfl; rfl) | (apply yd_max; rfl; rfl) | (apply yd_bd; exact filE)) : Yd P n fr H o ty v := h
section
variable {c : Cx} {fr : Fr} {H : List Pc} {k : List It} {Φ : Gl} {ops : Array Oper} {rest : List Oper} {d : Nat} {o : Op} {ty : TypeId} {pos : String} {aft : Array Edge} {v u : Value} {x y : Operand}
theorem st {t g tt o' j m : Nat} {A cs B l r : List Value} {S : List Pc} {gd : Option (Nat × Bool)} (h : T c fr S Φ) (hx : ev fr x = some (ptr g o' j) := by rfl) (hy : ev fr y = some v := by rfl) (hv : v.cells = l.toArray := by rfl) (hs : (c.P.info? t).map (·.size) = some m := by first | exact AggC.s | exact OneC.s) (hl : l.length = m := by rfl)
    (hr : Rpl H (.row g tt o' A cs B) (.row g tt o' A r B) S := by (repeat (first | exact .here | apply Rpl.there)); first | done | fail) (hp : Put cs j l r := by first | exact .one .zero | repeat constructor) (h1 : l.all (·.oneCell') = true := by rfl) : Ef c fr H ⟨none, .store t x y, ty, pos, aft, gd⟩ Φ := ef_store hs hx hy hv hl h1 hp hr h
theorem ca {f : Nat} {aS : List Operand} {ts : Array TypeId} {vs : List Value} {gd : Option (Nat × Bool)} (h : Cl c fr H d f vs Φ) (ha : Evs fr aS vs := by repeat (first | exact Evs.nil | apply Evs.cons (by rfl))) (hb : bodyB c.P f = true := by kernel_rfl) (hd : Nat.blt d c.n = true := by rfl) : Ef c fr H ⟨some d, .call { callee := .value (.func f), args := aS.toArray, argTypes := ts }, ty, pos, aft, gd⟩ Φ := cl_ef h ha hb hd
theorem cf {f : Nat} {vs : List Value} {A M R : List Pc} {σ : Type} {C : σ → Prop} {vv : σ → Value} {N : σ → List Pc} (hf : Fn c.P f vs A M C vv N) (h : ∀ s, C s → T c ((d, vv s) :: fr) (N s ++ R) Φ)
    (hM : Picks H M R := by repeat (first | exact Picks.nil | apply Picks.cons (by (repeat (first | exact .here | apply Pick.there)); first | done | fail))) (hA : Mems A R := by repeat (first | exact Mems.nil | refine Mems.cons (by (repeat (first | exact .head _ | apply List.Mem.tail)); first | done | fail) ?_)) (hmM : M.all (·.mu) = true := by rfl) (hmA : A.all (fun p => !p.mu) = true := by rfl) : Cl c fr H d f vs Φ := cf_ hf h hM hA hmM hmA
/-- lists put together -/
inductive AppL : List Pc → List Pc → List Pc → Prop
  | nil {R} : AppL [] R R
  | cons {p N R X} : AppL N R X → AppL (p :: N) R (p :: X)
theorem AppL.eq {N R X} (h : AppL N R X) : N ++ R = X := by
  induction h with
  | nil => rfl
  | cons _ ih => simp [ih]
theorem t_app {N R X : List Pc} (h : T c fr X Φ) (hX : AppL N R X := by repeat constructor) : T c fr (N ++ R) Φ := by rw [hX.eq]; exact h
theorem St.ro {G D w0 w} {p q : Pc} (s : St G D w0 H w) (hq : q ∈ H) (hm : q.mu = false) (hpm : p.mu = false) (hp : p.P w) (hF : ∀ b ∈ p.F, b ∈ q.F) : St G D w0 (p :: H) w :=
  s.add (N := [p]) (Below.refl _ _) (by intro x hx; simp at hx; subst hx; exact hp) ⟨by simp, trivial⟩ (by intro x hx b hb; simp at hx; subst hx; exact .inr ⟨hpm, q, hq, hm, hF b hb⟩)
theorem St.conv {G D w0 w} {p q : Pc} {S : List Pc} (s : St G D w0 (p :: S) w) (hm : p.mu = true) (hq : q.P w) (hF : ∀ b ∈ q.F, b ∈ p.F) : St G D w0 (q :: S) w :=
  St.turn (M := [p]) (N := [q]) s (Keep.refl _ w) (by intro x hx; simp at hx; subst hx; exact hq) ⟨by simp, trivial⟩ (by intro x hx b hb; simp at hx; subst hx; exact .inr (.inl ⟨p, by simp, hm, hF b hb⟩))
/-! elements, parts of slices that read -/
/-- what holds of element i: its cells lie there -/
theorem sl_at {α : Type} {E : Elem α} {w : World} {a : Option Addr} {n cp : Nat} {xs : List α} {F : List Nat} (h : (Pc.sl E (.slice a n cp) xs F).P w) (i : Nat) (hi : i < xs.length) :
    ∃ b o cs G, a = some ⟨b, o, none⟩ ∧ E.rep w cs xs[i] G ∧ (∀ x ∈ G, x ∈ F) ∧ b ∈ F ∧ cs ≠ [] ∧ w.rangeAt b (o + i * E.sz) cs := by
  obtain ⟨hz, a', cap, hv, hl, h | ⟨b, o, F', rfl, hne, rfl, hc⟩⟩ := h
  · rw [h.1] at hi; simp at hi
  · simp only [Value.slice.injEq] at hv
    obtain ⟨rfl, -, -⟩ := hv
    obtain ⟨cs, F1, h1, h2, h3⟩ := hc.get i hi
    have hl := E.len h1
    refine ⟨b, o, cs, F1, rfl, h1, fun x hx => by simp [h3 x hx], by simp, fun e => by subst e; simp at hl; omega, fun j u hu => ?_⟩
    have hj : j < E.sz := by have := (List.getElem?_eq_some_iff.1 hu).1; omega
    rw [h2 j hj]; exact hu
theorem at_str {a : Option Addr} {n cp : Nat} {xs : List ByteArray} {F : List Nat} (i : Nat) (h : ∀ (hi : i < xs.length) b o, a = some ⟨b, o, none⟩ → xs[i].size ≤ maxLen → T c fr (.cel b (o + i * 1) [.string xs[i]] :: H) Φ) (hm : .sl EStr (.slice a n cp) xs F ∈ H := by (repeat (first | exact .head _ | apply List.Mem.tail)); first | done | fail) (hi : i < xs.length := by omega) : T c fr H Φ := .mk fun ac w s g => by
  obtain ⟨b, o, cs, G, ha, ⟨rfl, hs, rfl⟩, -, hb, hne, hr⟩ := sl_at (s.get hm) i hi
  exact (h hi b o ha hs).h ac w (s.ro hm rfl rfl ⟨hne, hr⟩ (by intro x hx; simp [Pc.F] at hx; subst hx; exact hb)) g
/-- an owned slice may be read aS one -/
theorem t_read {α : Type} {E : Elem α} {t : TypeId} {v : Value} {xs : List α} {F : List Nat} {S : List Pc} (h : ∀ F', T c fr (.sl E v xs F' :: S) Φ) (hp : Pick H (.ow E t v xs F) S := by (repeat (first | exact .here | apply Pick.there)); first | done | fail) (hz : 0 < E.sz := by decide) : T c fr H Φ := .mk fun a w s g => by
  have s1 := s.pick hp
  obtain ⟨-, ho⟩ := s1.on (.ow E t v xs F) (by simp)
  obtain ⟨F', hF, hs⟩ := ho.read
  exact (h F').h a w (s1.conv rfl ⟨hz, hs⟩ hF) g
/-- what an owned slice knows of its room -/
theorem t_cap {α : Type} {E : Elem α} {t : TypeId} {a : Option Addr} {n cp : Nat} {xs : List α} {F : List Nat} (h : n ≤ cp → cp ≤ 9223372036854775807 → T c fr H Φ) (hm : .ow E t (.slice a n cp) xs F ∈ H := by (repeat (first | exact .head _ | apply List.Mem.tail)); first | done | fail) : T c fr H Φ := .mk fun ac w s g => by
  obtain ⟨-, h' | ⟨g', cap, cs, rest, G, h1, h2, h3, h4, -⟩⟩ := s.get hm
  · obtain ⟨h1, h2, -⟩ := h'
    cases h1
    exact (h (by simp) (by decide)).h ac w s g
  · cases h1
    exact (h h3 (by unfold maxLen at h4; omega)).h ac w s g
/-- the empty slice is owned -/
theorem t_nilow {α : Type} (E : Elem α) (t : TypeId) (h : T c fr (.ow E t (.slice none 0 0) [] [] :: H) Φ) : T c fr H Φ := .mk fun a w s g =>
  h.h a w (s.add (N := [.ow E t (.slice none 0 0) [] []]) (Below.refl _ _) (by intro p hp; simp at hp; subst hp; exact ⟨by simp, .inl ⟨rfl, rfl, rfl⟩⟩) ⟨by simp, trivial⟩ (by intro p hp b hb; simp at hp; subst hp; simp [Pc.F] at hb)) g
theorem t_nilsl {α : Type} (E : Elem α) (hz : 0 < E.sz) (h : T c fr (.sl E (.slice none 0 0) [] [] :: H) Φ) : T c fr H Φ := .mk fun a w s g =>
  h.h a w (s.add (N := [.sl E (.slice none 0 0) [] []]) (Below.refl _ _) (by intro p hp; simp at hp; subst hp; exact ⟨hz, none, 0, rfl, ⟨Nat.le_refl _, by unfold maxLen; omega⟩, .inl ⟨rfl, rfl, fun _ => rfl⟩⟩) ⟨by simp, trivial⟩ (by intro p hp b hb; simp at hp; subst hp; simp [Pc.F] at hb)) g
/-- a row of no cells is an empty owned slice -/
theorem t_emp {α : Type} (E : Elem α) {t g : Nat} {S : List Pc} (h : T c fr (.ow E t (.slice (some ⟨g, 0, none⟩) 0 0) [] [g] :: S) Φ) (hp : Pick H (.row g t 0 [] [] []) S := by (repeat (first | exact .here | apply Pick.there)); first | done | fail) : T c fr H Φ := .mk fun a w s ag => by
  have s1 := s.pick hp
  obtain ⟨-, hr⟩ := s1.on (.row g t 0 [] [] []) (by simp)
  exact h.h a w (s1.conv rfl ⟨by simp, Ow.empty (by simpa using hr)⟩ (fun b hb => hb)) ag
/-- an empty slice is built -/
theorem bs0 {t e m : Nat} {gd : Option (Nat × Bool)} [hS : SlC c.P t e m] (h : ∀ g, T c ((d, .slice (some ⟨g, 0, none⟩) 0 0) :: fr) (.row g e 0 [] [] [] :: H) Φ) (hd : Nat.blt d c.n = true := by rfl) : Ef c fr H ⟨some d, .buildSlice t 0 #[], ty, pos, aft, gd⟩ Φ := ef_of fun Q a w s g => by
  have e1 : (execOp a.eval ⟨some d, .buildSlice t 0 #[], ty, pos, aft, gd⟩).run c.P w = .ok (.value (.slice (some ⟨w.heap.size, 0, none⟩) 0 0)) (w.alloc (.cells #[] e)) := by
    simp [execOp, Instr.buildSlice, run_underlying hS.u, size_of hS.s, Instr.fill, newRow, Array.range_zero']
  rw [e1]
  exact (h _).h _ _ (s.new e []) (g.put hd)
inductive AppV : List Value → List Value → List Value → Prop
  | nil {r} : AppV [] r r
  | cons {u l r q} : AppV l r q → AppV (u :: l) r (u :: q)
theorem AppV.eq {l r q} (h : AppV l r q) : l ++ r = q := by
  induction h with
  | nil => rfl
  | cons _ ih => simp [ih]
inductive Rpt (zs : List Value) : Nat → List Value → Prop
  | zero : Rpt zs 0 []
  | succ {n r q} : Rpt zs n r → AppV zs r q → Rpt zs (n + 1) q
theorem Rpt.eq {zs : List Value} {n q} (h : Rpt zs n q) : q = (List.replicate n zs).flatten := by
  induction h with
  | zero => rfl
  | succ _ h2 ih => rw [← h2.eq, ih, List.replicate_succ, List.flatten_cons]
/-- a slice's literal -/
theorem bs {t e m b len : Nat} {z : Value} {zs cs q : List Value} {ps : List (Nat × Operand)} {gd : Option (Nat × Bool)} [hS : SlC c.P t e m] [hE : ElT c.P e z m b] [hZ : ZC c.P e zs] (h : ∀ g, T c ((d, .slice (some ⟨g, 0, none⟩) len len) :: fr) (.row g e 0 [] q [] :: H) Φ)
    (hc : Rpt zs len cs := by repeat constructor) (hf : Fil (fun i => some (i * m, m)) fr cs ps q := by repeat (first | exact Fil.nil | apply Fil.cons (by rfl) (by rfl) (by rfl) (by repeat constructor))) (hl : Nat.ble (len * m) 1000 = true := by rfl) (hm : Nat.blt 0 m = true := by rfl) (hlen : Nat.blt 0 len = true := by rfl) (hd : Nat.blt d c.n = true := by rfl) :
    Ef c fr H ⟨some d, .buildSlice t len ps.toArray, ty, pos, aft, gd⟩ Φ := ef_of fun Q a w s g => by
  have hm0 : m ≠ 0 := by have : 0 < m := by simpa using hm
                         omega
  have hlen0 : len ≠ 0 := by have : 0 < len := by simpa using hlen
                             omega
  have hl2 : len * m ≤ 1000 := by simpa using hl
  obtain ⟨i, hi, hz⟩ := Option.map_eq_some_iff.1 hE.i
  simp only [Prod.mk.injEq] at hz
  obtain ⟨hz, hs, -⟩ := hz
  obtain ⟨z', hz', hzc⟩ := hZ.z
  obtain rfl : z' = z := by rw [hi] at hz'; simp [hz] at hz'; exact hz'.symm
  have hzl : zs.length = m := by have := hE.s; rw [hzc] at this; simpa using this
  have e2 : ((Array.range (len * m)).map (zs.toArray[· % zs.toArray.size]!)) = cs.toArray := by
    have := madeCells_flat zs.toArray len
    rw [hc.eq]
    apply Array.ext'
    rw [show zs.toArray.size = m from by simp [hzl]] at this
    simpa [madeCells] using this
  have e1 : (execOp a.eval ⟨some d, .buildSlice t len ps.toArray, ty, pos, aft, gd⟩).run c.P w = .ok (.value (.slice (some ⟨w.heap.size, 0, none⟩) len len)) (w.alloc (.cells q.toArray e)) := by
    have h3 := hf.run g
    have hne : ¬ (len * m = 0) := Nat.mul_ne_zero hlen0 hm0
    have hns : ¬ (len * m > 2 ^ 24) := by omega
    have hzv : (zeroValue e).run c.P w = .ok z' w := by simp [zeroValue, typeInfo, hi, hz]
    simp only [execOp, Instr.buildSlice, Sem.run_bind, run_underlying hS.u, size_of hS.s, Result.andThen_ok, if_neg hns, if_neg hne, hzv, hzc, Sem.run_pure, Sem.run_ite, e2]
    simp only [List.map_toArray, h3, newRow, Sem.run_bind, run_newObj_alloc, Result.andThen_ok, Sem.run_pure]
  rw [e1]
  exact (h _).h _ _ (s.new e q) (g.put hd)
theorem o_bs0 {t e m : Nat} [SlC c.P t e m] (hd : Nat.blt d c.n = true) (h : ∀ g, T c ((d, .slice (some ⟨g, 0, none⟩) 0 0) :: fr) (.row g e 0 [] [] [] :: H) Φ) : On c fr H (some d) (.buildSlice t 0 #[]) ty Φ := ⟨fun _ _ _ => bs0 h hd⟩
theorem rptE {zs : List Value} {n : Nat} {q : List Value} (h : Rpt zs n q := by repeat constructor) : Rpt zs n q := h
theorem o_bs {t e m b len : Nat} {z : Value} {zs cs q : List Value} {ps : List (Nat × Operand)} [SlC c.P t e m] [ElT c.P e z m b] [ZC c.P e zs] (hd : Nat.blt d c.n = true) (hlen : Nat.blt 0 len = true) (hm : Nat.blt 0 m = true) (hl : Nat.ble (len * m) 1000 = true) (hc : Rpt zs len cs) (hf : Fil (fun i => some (i * m, m)) fr cs ps q) (h : ∀ g, T c ((d, .slice (some ⟨g, 0, none⟩) len len) :: fr) (.row g e 0 [] q [] :: H) Φ) :
    On c fr H (some d) (.buildSlice t len ps.toArray) ty Φ := ⟨fun _ _ _ => bs h hc hf hl hm hlen hd⟩
end
end Go.Proofs.YtidephmobajikaaGreatDoor
/- Appending, parts of slices, regions that draw their order, a function's beginning and end: as walks use them. Plain: no program in sight. -/
namespace Go.Proofs.YtidephmobajikaaGreatDoor
open Go.RowKit
/-- two parts of a list without repeats stand apart -/
theorem nodup_apt {A B : List Nat} (h : (A ++ B).Nodup) {b : Nat} (ha : b ∈ A) (hb : b ∈ B) : False := (List.nodup_append.1 h).2.2 b ha b hb rfl
section
variable {c : Cx} {fr : Fr} {H : List Pc} {k : List It} {Φ : Gl} {ops : Array Oper} {rest : List Oper} {d : Nat} {o : Op} {ty : TypeId} {pos : String} {aft : Array Edge} {v u : Value} {x y : Operand}
theorem ap {α : Type} {E : Elem α} {t e m b : Nat} {z : Value} [hS : SlC c.P t e m] [hE : ElT c.P e z m b] {xs ys : List α} {F Fy : List Nat} {ao : Option Addr} {n cp : Nat} {gd : Option (Nat × Bool)} {R S : List Pc} (one : One E) (hz : 0 < E.sz) (hm : E.sz = m)
    (hp : Pick H (.ow E e v xs F) R) (hx : ev fr x = some v) (hy : ev fr y = some (.slice ao n cp)) (hn : n = ys.length)
    (hsrc : ∀ w, St c.G c.D c.w0 (.ow E e v xs F :: R) w → ∃ news, Flat E w news ys Fy ∧ ((ao = none ∧ cp = 0 ∧ ys = []) ∨ ∃ ad, ao = some ad ∧ ∀ j u, news[j]? = some u → w.cell? (ad.add j) = some u) ∧ (∀ b ∈ Fy, b ∉ F) ∧ Fy.Nodup)
    (hFy : ∀ w v' F', St c.G c.D c.w0 (.ow E e v xs F :: R) w → (∀ b ∈ F', b ∈ F ∨ b ∈ Fy ∨ b = w.heap.size) → ∀ w', Keep F w w' → (Pc.ow E e v' (xs ++ ys) F').P w' → St c.G c.D c.w0 (.ow E e v' (xs ++ ys) F' :: S) w')
    (h63 : xs.length + ys.length ≤ maxLen) (hby : (xs.length + ys.length) * b ≤ 140737488355328)
    (h : ∀ a' c' F', T c ((d, .slice a' (xs ++ ys).length c') :: fr) (.ow E e (.slice a' (xs ++ ys).length c') (xs ++ ys) F' :: S) Φ) (hd : Nat.blt d c.n = true) :
    Ef c fr H ⟨some d, .call { callee := .builtin .append, args := #[x, y], argTypes := #[t, t] }, ty, pos, aft, gd⟩ Φ := .mk fun Q a w s g => by
  have s1 := s.pick hp
  obtain ⟨hnd, how⟩ := s1.on (.ow E e v xs F) (by simp)
  obtain ⟨news, hfl, hsr, hdis, hny⟩ := hsrc w s1
  subst hn
  refine wp_apd (P := c.P) one hz x y t rfl e z b hS.u (by rw [hE.i, hm]) (by rw [hE.s, hm]) v xs F (g.ev hx) how (Hd.of hnd) ao ys cp (g.ev hy) news Fy hfl hsr (fun b hb e => hdis b hb (how.own_mem b e)) h63 hby fun v' w' F' hA => ?_
  obtain ⟨a', c', rfl⟩ := hA.val
  rw [← List.length_append] at hA ⊢
  have hw := hA.ow
  exact (h a' c' F').h _ _ (hFy w _ F' s1 hA.mem w' hA.keep ⟨hA.nodup hnd hny hdis, hw⟩) (g.put hd)
/-- what is appended lies in a row of our own -/
theorem ap1 {α : Type} {E : Elem α} {t e m b : Nat} {z : Value} [hS : SlC c.P t e m] [hE : ElT c.P e z m b] {xs ys : List α} {F : List Nat} {g n cp tt : Nat} {cs : List Value} {R S : List Pc}
    (hfl : ∀ w, Flat E w cs ys []) (one : One E) (h : ∀ a' c' F', T c ((d, .slice a' (xs ++ ys).length c') :: fr) (.ow E e (.slice a' (xs ++ ys).length c') (xs ++ ys) F' :: S) Φ)
    (hx : ev fr x = some v := by rfl) (hy : ev fr y = some (.slice (some ⟨g, 0, none⟩) n cp) := by rfl) (hp : Pick H (.ow E e v xs F) R := by (repeat (first | exact .here | apply Pick.there)); first | done | fail) (hp2 : Pick R (.row g tt 0 [] cs []) S := by (repeat (first | exact .here | apply Pick.there)); first | done | fail) (hn : n = ys.length := by rfl) (hz : 0 < E.sz := by decide) (hm : E.sz = m := by rfl)
    (h63 : xs.length + ys.length ≤ 9223372036854775807 := by simp only [List.length_cons, List.length_nil]; omega) (hby : (xs.length + ys.length) * b ≤ 140737488355328 := by simp only [List.length_cons, List.length_nil]; omega) (hd : Nat.blt d c.n = true := by rfl) :
    On c fr H (some d) (.call { callee := .builtin .append, args := #[x, y], argTypes := #[t, t] }) ty Φ :=
  ⟨fun _ _ _ => ap one hz hm hp hx hy hn (Fy := []) (fun w s => ⟨cs, hfl w, .inr ⟨_, rfl, fun j u hu => by
      have hr := (s.on (.row g tt 0 [] cs []) (by simp [hp2.mem])).2
      have := hr.cell j
      simp only [List.nil_append, List.append_nil] at this
      rw [hu] at this
      unfold Addr.add
      split
      · rename_i e; subst e; exact this
      · simpa using this⟩, by simp, by simp⟩)
    (fun w v' F' s hF w' hk hv => by
      have s2 : St c.G c.D c.w0 (.ow E e v xs F :: S) w := ⟨s.keep, fun q hq => s.on q (by rcases List.mem_cons.1 hq with rfl | hq; simp; simp [hp2.sub q hq]), ⟨fun q hq => s.sep.1 q (hp2.sub q hq), (hp2.sep s.sep.2).2⟩, fun q hq => s.mine q (by rcases List.mem_cons.1 hq with rfl | hq; simp; simp [hp2.sub q hq])⟩
      exact St.turn (M := [.ow E e v xs F]) (N := [.ow E e v' (xs ++ ys) F']) s2 (by simpa [List.filter, Pc.mu, fp, Pc.F] using hk) (by intro q hq; simp at hq; subst hq; exact hv) ⟨by simp, trivial⟩ (by
        intro q hq b hb
        simp at hq; subst hq
        rcases hF b hb with h | h | h
        · exact .inr (.inl ⟨.ow E e v xs F, by simp, rfl, h⟩)
        · simp at h
        · exact .inl (by omega)))
    (by unfold maxLen; exact h63) hby h hd⟩
/-- a slice that reads, of elements without blocks of their own, is appended -/
theorem aps {α : Type} {E : Elem α} {t e m b : Nat} {z : Value} [hS : SlC c.P t e m] [hE : ElT c.P e z m b] {xs ys : List α} {F G : List Nat} {ao : Option Addr} {n cp : Nat} {R : List Pc}
    (one : One E) (sc : ∀ {w cs x F}, E.rep w cs x F → F = []) (h : ∀ a' c' F', T c ((d, .slice a' (xs ++ ys).length c') :: fr) (.ow E e (.slice a' (xs ++ ys).length c') (xs ++ ys) F' :: R) Φ)
    (hx : ev fr x = some v := by rfl) (hy : ev fr y = some (.slice ao n cp) := by rfl) (hp : Pick H (.ow E e v xs F) R := by (repeat (first | exact .here | apply Pick.there)); first | done | fail) (hp2 : .sl E (.slice ao n cp) ys G ∈ R := by (repeat (first | exact .head _ | apply List.Mem.tail)); first | done | fail) (hn : n = ys.length := by rfl) (hz : 0 < E.sz := by decide) (hm : E.sz = m := by rfl)
    (h63 : xs.length + ys.length ≤ 9223372036854775807 := by first | omega | (simp only [List.length_cons, List.length_nil]; omega)) (hby : (xs.length + ys.length) * b ≤ 140737488355328 := by first | omega | (simp only [List.length_cons, List.length_nil]; omega)) (hd : Nat.blt d c.n = true := by rfl) :
    On c fr H (some d) (.call { callee := .builtin .append, args := #[x, y], argTypes := #[t, t] }) ty Φ :=
  have flat0 : ∀ {w cs zs G}, Flat E w cs zs G → G = [] := fun {w cs zs G} => by
    induction zs generalizing cs G with
    | nil => intro h; exact h.2
    | cons z r ih => intro h; obtain ⟨c1, c2, F1, F2, _, rfl, h1, h2⟩ := h; rw [sc h1, ih h2]; rfl
  ⟨fun _ _ _ => ap one hz hm hp hx hy hn (Fy := []) (fun w s => by
      obtain ⟨-, hs⟩ := s.on (.sl E (.slice ao n cp) ys G) (by simp [hp2])
      obtain ⟨ao', cc, news, Fy, he, -, hfy, -, hsrc⟩ := hs.src
      simp only [Value.slice.injEq] at he
      obtain ⟨rfl, -, rfl⟩ := he
      obtain rfl := flat0 hfy
      exact ⟨news, hfy, hsrc, by simp, by simp⟩)
    (fun w v' F' s hF w' hk hv => St.turn (M := [.ow E e v xs F]) (N := [.ow E e v' (xs ++ ys) F']) s (by simpa [List.filter, Pc.mu, fp, Pc.F] using hk) (by intro q hq; simp at hq; subst hq; exact hv) ⟨by simp, trivial⟩ (by
        intro q hq b hb
        simp at hq; subst hq
        rcases hF b hb with h | h | h
        · exact .inr (.inl ⟨.ow E e v xs F, by simp, rfl, h⟩)
        · simp at h
        · exact .inl (by omega)))
    (by unfold maxLen; exact h63) hby h hd⟩
/-! parts of slices that read -/
theorem elem_of {P : Program} {t e m : Nat} (hS : SlC P t e m) : P.elem t = e := by simp [Program.elem, hS.u]
/-! one element of an owned slice, of elements without blocks of their own -/
/-! calls by the elder contracts -/
theorem cn {α : Type} {E : Elem α} {t : TypeId} {xs : List α} {f : Nat} {vs : List Value} (hc : ∀ w, St c.G c.D c.w0 H w → Calls c.P f vs.toArray w (RetNew E t xs w)) (h : ∀ a cp F, T c ((d, .slice a xs.length cp) :: fr) (.ow E t (.slice a xs.length cp) xs F :: H) Φ) : Cl c fr H d f vs Φ :=
  cl_of hc (fun w e w' s hR => by
    obtain ⟨v, F, he, ho, hn, hF, hB⟩ := hR
    obtain ⟨a, cp, rfl⟩ := ho.slice
    exact ⟨_, he, fun ac g => (h a cp F).h ac w' (s.add (N := [.ow E t (.slice a xs.length cp) xs F]) hB (by intro q hq; simp at hq; subst hq; exact ⟨hn, ho⟩) ⟨by simp, trivial⟩ (by intro q hq b hb; simp at hq; subst hq; exact .inl (hF b hb))) g⟩)
theorem cv {α : Type} {E : Elem α} {z : α} {f : Nat} {vs : List Value} (hc : ∀ w, St c.G c.D c.w0 H w → Calls c.P f vs.toArray w (RetV E z w)) (h : ∀ v F, T c ((d, v) :: fr) (.own E v z F :: H) Φ) : Cl c fr H d f vs Φ :=
  cl_of hc (fun w e w' s hR => by
    obtain ⟨v, F, he, ho, hn, hF, hB⟩ := hR
    exact ⟨_, he, fun ac g => (h v F).h ac w' (s.add (N := [.own E v z F]) hB (by intro q hq; simp at hq; subst hq; exact ⟨hn, ho⟩) ⟨by simp, trivial⟩ (by intro q hq b hb; simp at hq; subst hq; exact .inl (hF b hb))) g⟩)
/-! regions that draw their order -/
inductive Nth : List Pc → Nat → Pc → Prop
  | zero {p R} : Nth (p :: R) 0 p
  | succ {x p R i} : Nth R i p → Nth (x :: R) (i + 1) p
inductive Sel (H : List Pc) : List Nat → List Pc → Prop
  | nil : Sel H [] []
  | cons {i is p R} : Nth H i p → Sel H is R → Sel H (i :: is) (p :: R)
theorem Nth.mem {H i p} (h : Nth H i p) : p ∈ H := by
  induction h with
  | zero => simp
  | succ _ ih => simp [ih]
variable {H0 : List Pc} {X : List Nat} {f : Nat} {listed : Array Bool}
theorem d_start {id : Nat} {l : List Oper} (is X : List Nat) (h : T c fr H (.dx k H0 X l.toArray l.length (Array.replicate l.length false))) (_hsel : Sel H is H0 := by repeat constructor) (hm : c.P.follows .mixedOrders = true := by kernel_rfl) : T c fr H (.code k (Code.region id l.toArray true)) := .mk fun a w s g => by
  refine AnyX.start (S := Hol H0) (X := fun i => X.contains i) hm ?_
  have := h.h a w.drew (s.below (belowDrewN (Below.refl _ _) 1)) g
  simpa [Gl.sem] using this
/-- a panic leaves the slots alone -/
def PanOk (c : Cx) : Prop := ∀ ch d v a w, c.R (.panic ch) (Act.put a d v) w → c.R (.panic ch) a w
theorem panOk {P : Program} {D G : List Nat} {w0 : World} {n : Nat} {fn : Func} {R : Ending → World → Prop} : PanOk ⟨P, G, D, w0, n, bodyPost P fn R⟩ := fun ch d v a w h => by
  cases d <;> exact h
theorem dt (i : Nat) (h : T c ((d, v) :: fr) H (.dx k H0 X ops f (listed.setIfInBounds i true))) (ho : ops[i]? = some ⟨some d, o, ty, pos, aft, none⟩ := by rw [List.getElem?_toArray]; rfl) (hy : Yd c.P c.n fr H0 o ty v := by exact ydE) (hs : Mems H0 H := by repeat (first | exact Mems.nil | refine Mems.cons (by (repeat (first | exact .head _ | apply List.Mem.tail)); first | done | fail) ?_))
    (h1 : Region.noSelect ops = true := by kernel_rfl) (h2 : Region.free .any ops listed i = true := by kernel_rfl) (h3 : (Region.ready .any ops listed).contains i = true := by kernel_rfl) (h4 : waitsAll .any ops (fun i => X.contains i) i = true := by kernel_rfl) (h5 : closedB .any ops listed = true := by kernel_rfl) (hR : PanOk c := by exact panOk) (hd : Nat.blt d c.n = true := by rfl) :
    T c fr H (.dx k H0 X ops (f + 1) listed) := .mk fun a w s g =>
  AnyX.take (v := v) ho h1 h2 h3 h4 h5 (fun ch a w hp => by rw [run_panic] at hp ⊢; exact hR _ _ _ _ _ hp) (.inl ⟨rfl, fun w' hw' => hy.h a w' _ _ _ _ g hw'⟩) (fun p hp => s.on p (hs.all p hp)) (h.h _ _ s (g.put hd))
/-- 's[j:]' of a slice that reads, taken first -/
theorem dsld (i j : Nat) {α : Type} {E : Elem α} {t e m : Nat} [hS : SlC c.P t e m] {a : Option Addr} {n cp : Nat} {xs : List α} {F : List Nat} {z : Int} (h : ∀ a' c' F', T c ((d, .slice a' (xs.drop j).length c') :: fr) (.sl E (.slice a' (xs.drop j).length c') (xs.drop j) F' :: H) (.dx k H0 X ops f (listed.setIfInBounds i true))) (ho : ops[i]? = some ⟨some d, .slice t x (some y) none none, ty, pos, aft, none⟩ := by rw [List.getElem?_toArray]; rfl)
    (hx : ev fr x = some (.slice a n cp) := by rfl) (hy : ev fr y = some (.int .i64 z) := by rfl) (hm : .sl E (.slice a n cp) xs F ∈ H := by (repeat (first | exact .head _ | apply List.Mem.tail)); first | done | fail) (hi : z = (j : Int) := by first | rfl | omega) (hj : j ≤ xs.length := by omega) (he : E.sz = m := by rfl) (hs : Mems H0 H := by repeat (first | exact Mems.nil | refine Mems.cons (by (repeat (first | exact .head _ | apply List.Mem.tail)); first | done | fail) ?_))
    (h1 : Region.noSelect ops = true := by kernel_rfl) (h2 : Region.free .any ops listed i = true := by kernel_rfl) (h3 : (Region.ready .any ops listed).contains i = true := by kernel_rfl) (h4 : waitsAll .any ops (fun i => X.contains i) i = true := by kernel_rfl) (h5 : closedB .any ops listed = true := by kernel_rfl) (hR : PanOk c := by exact panOk) (hd : Nat.blt d c.n = true := by rfl) :
    T c fr H (.dx k H0 X ops (f + 1) listed) := .mk fun ac w s g => by
  subst hi
  obtain ⟨hz, hs'⟩ := s.get hm
  have he2 := elem_of hS
  obtain ⟨a2, c2, F', hr, hF, h2'⟩ := hs'.dropS t (by rw [he2]; exact hS.u) j hj (fun W => by rw [he2, he]; exact size_of hS.s W)
  rw [← List.length_drop] at h2' hr
  refine AnyX.take (v := .slice a2 (xs.drop j).length c2) ho h1 h2 h3 h4 h5 (fun ch a w hp => by rw [run_panic] at hp ⊢; exact hR _ _ _ _ _ hp) (.inl ⟨rfl, fun w' _ => ?_⟩) (fun p hp => s.on p (hs.all p hp)) ((h a2 c2 F').h _ w (s.ro hm rfl rfl ⟨hz, h2'⟩ hF) (g.put hd))
  simp only [execOp, Option.map_none, Option.map_some, g.ev hx, g.ev hy, Sem.run_bind, hr, Result.andThen_ok, Sem.run_pure]
/-- an operation with a guard that holds, taken first -/
theorem dtg (i : Nat) {j t : Nat} {b : Bool} (h : T c ((d, v) :: fr) H (.dx k H0 X ops f (listed.setIfInBounds i true))) (ho : ops[i]? = some ⟨some d, o, ty, pos, aft, some (j, b)⟩ := by rw [List.getElem?_toArray]; rfl) (ht : (ops[j]?).bind (·.dst) = some t := by rfl) (hl : look fr t = some (.bool b) := by rfl) (hy : Yd c.P c.n fr H0 o ty v := by exact ydE) (hs : Mems H0 H := by repeat (first | exact Mems.nil | refine Mems.cons (by (repeat (first | exact .head _ | apply List.Mem.tail)); first | done | fail) ?_))
    (h1 : Region.noSelect ops = true := by kernel_rfl) (h2 : Region.free .any ops listed i = true := by kernel_rfl) (h3 : (Region.ready .any ops listed).contains i = true := by kernel_rfl) (h4 : waitsAll .any ops (fun i => X.contains i) i = true := by kernel_rfl) (h5 : closedB .any ops listed = true := by kernel_rfl) (hR : PanOk c := by exact panOk) (hd : Nat.blt d c.n = true := by rfl) :
    T c fr H (.dx k H0 X ops (f + 1) listed) := .mk fun a w s g =>
  AnyX.take (v := v) ho h1 h2 h3 h4 h5 (fun ch a w hp => by rw [run_panic] at hp ⊢; exact hR _ _ _ _ _ hp) (.inl ⟨by rw [wanted_eq (c := c) ht hl g]; simp, fun w' hw' => hy.h a w' _ _ _ _ g hw'⟩) (fun p hp => s.on p (hs.all p hp)) (h.h _ _ s (g.put hd))
/-- an operation whose guard says no -/
theorem ds (i : Nat) {j t : Nat} {b b' : Bool} (h : T c ((d, undef) :: fr) H (.dx k H0 X ops f (listed.setIfInBounds i true))) (ho : ops[i]? = some ⟨some d, o, ty, pos, aft, some (j, b)⟩ := by rw [List.getElem?_toArray]; rfl) (ht : (ops[j]?).bind (·.dst) = some t := by rfl) (hl : look fr t = some (.bool b') := by rfl) (hb : (b' == b) = false := by rfl) (hs : Mems H0 H := by repeat (first | exact Mems.nil | refine Mems.cons (by (repeat (first | exact .head _ | apply List.Mem.tail)); first | done | fail) ?_))
    (h1 : Region.noSelect ops = true := by kernel_rfl) (h2 : Region.free .any ops listed i = true := by kernel_rfl) (h3 : (Region.ready .any ops listed).contains i = true := by kernel_rfl) (h4 : waitsAll .any ops (fun i => X.contains i) i = true := by kernel_rfl) (h5 : closedB .any ops listed = true := by kernel_rfl) (hR : PanOk c := by exact panOk) (hd : Nat.blt d c.n = true := by rfl) :
    T c fr H (.dx k H0 X ops (f + 1) listed) := .mk fun a w s g =>
  AnyX.take (v := undef) ho h1 h2 h3 h4 h5 (fun ch a w hp => by rw [run_panic] at hp ⊢; exact hR _ _ _ _ _ hp) (.inr ⟨by rw [wanted_eq (c := c) ht hl g]; exact hb, rfl⟩) (fun p hp => s.on p (hs.all p hp)) (h.h _ _ s (g.put hd))
/-- the state holds once more behind an operation -/
theorem dk {i : Nat} (h : T c fr H (.dx k H0 X ops f listed)) (hs : Mems H0 H := by repeat (first | exact Mems.nil | refine Mems.cons (by (repeat (first | exact .head _ | apply List.Mem.tail)); first | done | fail) ?_)) : T c fr H (.dk i k H0 X ops f listed) := .mk fun a w s g => ⟨fun _ p hp => s.on p (hs.all p hp), h.h a w s g⟩
theorem dkx {i : Nat} (h : T c fr H (.dx k H0 X ops f listed)) (hi : X.contains i = true := by rfl) : T c fr H (.dk i k H0 X ops f listed) := .mk fun a w s g => ⟨fun h0 => (by rw [hi] at h0; cases h0), h.h a w s g⟩
/-- the only one that may come up -/
theorem d1 (i : Nat) {o : Oper} (h : Ef c fr H o (.dk i k H0 X ops f (listed.setIfInBounds i true))) (hr : Region.ready .any ops listed = [i] := by kernel_rfl) (ho : ops[i]? = some o := by rw [List.getElem?_toArray]; rfl) (hg : o.guard = none := by rfl) : T c fr H (.dx k H0 X ops (f + 1) listed) := .mk fun a w s g =>
  AnyX.only hr ho fun K hK => by
    rw [if_pos (by simp [Region.wanted, hg])]
    exact Oper.wp_mono (fun a' w' h' => hK a' w' h'.1 h'.2) (h.h _ a w s g)
theorem d1g (i : Nat) {od : Option Tmp} {j t : Nat} {b : Bool} (h : Ef c fr H ⟨od, o, ty, pos, aft, some (j, b)⟩ (.dk i k H0 X ops f (listed.setIfInBounds i true))) (hr : Region.ready .any ops listed = [i] := by kernel_rfl) (ho : ops[i]? = some ⟨od, o, ty, pos, aft, some (j, b)⟩ := by rw [List.getElem?_toArray]; rfl) (ht : (ops[j]?).bind (·.dst) = some t := by rfl) (hl : look fr t = some (.bool b) := by rfl) : T c fr H (.dx k H0 X ops (f + 1) listed) := .mk fun a w s g =>
  AnyX.only hr ho fun K hK => by
    rw [if_pos (by rw [wanted_eq (c := c) ht hl g]; simp)]
    exact Oper.wp_mono (fun a' w' h' => hK a' w' h'.1 h'.2) (h.h _ a w s g)
/-- two that may come up -/
theorem d2 (i j : Nat) {o o2 : Oper} (h : Ef c fr H o (.dk i k H0 X ops f (listed.setIfInBounds i true))) (h' : Ef c fr H o2 (.dk j k H0 X ops f (listed.setIfInBounds j true)))
    (hr : Region.ready .any ops listed = [i, j] := by kernel_rfl) (ho : ops[i]? = some o := by rw [List.getElem?_toArray]; rfl) (ho2 : ops[j]? = some o2 := by rw [List.getElem?_toArray]; rfl) (hg : o.guard = none := by rfl) (hg2 : o2.guard = none := by rfl) : T c fr H (.dx k H0 X ops (f + 1) listed) := .mk fun a w s g =>
  AnyX.two hr ho ho2 (fun K hK => by
    rw [if_pos (by simp [Region.wanted, hg])]
    exact Oper.wp_mono (fun a' w' h' => hK a' w' h'.1 h'.2) (h.h _ a w s g)) (fun K hK => by
    rw [if_pos (by simp [Region.wanted, hg2])]
    exact Oper.wp_mono (fun a' w' h'' => hK a' w' h''.1 h''.2) (h'.h _ a w s g))
theorem dO (i : Nat) {od : Option Tmp} (hr : Region.ready .any ops listed = [i]) (ho : ops[i]? = some ⟨od, o, ty, pos, aft, none⟩) (h : On c fr H od o ty (.dk i k H0 X ops f (listed.setIfInBounds i true))) : T c fr H (.dx k H0 X ops (f + 1) listed) := d1 i (h.h pos aft none) hr ho rfl
theorem dO2 (i j : Nat) {od od2 : Option Tmp} {o2 : Op} {ty2 : TypeId} {pos2 : String} {aft2 : Array Edge} (hr : Region.ready .any ops listed = [i, j]) (ho : ops[i]? = some ⟨od, o, ty, pos, aft, none⟩) (ho2 : ops[j]? = some ⟨od2, o2, ty2, pos2, aft2, none⟩) (h : On c fr H od o ty (.dk i k H0 X ops f (listed.setIfInBounds i true))) (h' : On c fr H od2 o2 ty2 (.dk j k H0 X ops f (listed.setIfInBounds j true))) : T c fr H (.dx k H0 X ops (f + 1) listed) := d2 i j (h.h pos aft none) (h'.h pos2 aft2 none) hr ho ho2 rfl rfl
theorem dd (h : T c fr H (.norm k)) (hr : Region.ready .any ops listed = [] := by kernel_rfl) : T c fr H (.dx k H0 X ops f listed) := .mk fun a w s g => AnyX.done hr (h.h a w s g) f
end
/-- slots that keep their values -/
inductive Kf (fr : Fr) : List Nat → Fr → Prop
  | nil : Kf fr [] []
  | cons {t v ts r} : look fr t = some v → Kf fr ts r → Kf fr (t :: ts) ((t, v) :: r)
theorem Kf.sub {fr ts r} (h : Kf fr ts r) : FrSub fr r := by
  induction h with
  | nil => exact .nil
  | cons h _ ih => exact .cons h ih
theorem FrSub.app {fr a b : Fr} (h : FrSub fr a) (h2 : FrSub fr b) : FrSub fr (a ++ b) := by
  induction h with
  | nil => exact h2
  | cons h _ ih => exact .cons h ih
theorem Picks.hsub {H M R : List Pc} (h : Picks H M R) : HSub H (M ++ R) := by
  have all : ∀ (H : List Pc), HSub H H := by
    intro H
    induction H with
    | nil => exact .nil
    | cons p H ih => exact .cons .here ih
  induction h with
  | nil => exact all _
  | cons hp _ ih => exact .cons hp ih
theorem c_loopS {c : Cx} {fr : Fr} {H : List Pc} {k : List It} {x : Code} {σ : Type} {cst : Fr} {rest : List Pc} (ks : List Nat) (upd : σ → Fr) (chg : σ → List Pc) (C : σ → Prop) (μ : σ → Nat) (s0 : σ) (h0 : C s0)
    (round : ∀ s, C s → T c (upd s ++ cst) (chg s ++ rest) (.code (.lp (LpN c (fun s => upd s ++ cst) (fun s => chg s ++ rest) C μ (μ s)) :: k) x)) (hk : Kf fr ks cst := by repeat (first | exact Kf.nil | apply Kf.cons (by rfl))) (hf : FrSub fr (upd s0) := by exact frE) (hH : Picks H (chg s0) rest := by exact picksE) : T c fr H (.code k (Code.loop x)) :=
  c_loop (fun s => upd s ++ cst) (fun s => chg s ++ rest) C μ s0 h0 round (hf.app hk.sub) hH.hsub
/-- a loop that leaves the pieces alone -/
theorem c_loopR {c : Cx} {fr : Fr} {H : List Pc} {k : List It} {x : Code} {σ : Type} {cst : Fr} (ks : List Nat) (upd : σ → Fr) (C : σ → Prop) (μ : σ → Nat) (s0 : σ) (h0 : C s0)
    (round : ∀ s, C s → T c (upd s ++ cst) H (.code (.lp (LpN c (fun s => upd s ++ cst) (fun _ => H) C μ (μ s)) :: k) x)) (hk : Kf fr ks cst := by repeat (first | exact Kf.nil | apply Kf.cons (by rfl))) (hf : FrSub fr (upd s0) := by exact frE) : T c fr H (.code k (Code.loop x)) :=
  c_loop (fun s => upd s ++ cst) (fun _ => H) C μ s0 h0 round (hf.app hk.sub) (by
    have all : ∀ (H : List Pc), HSub H H := by
      intro H
      induction H with
      | nil => exact .nil
      | cons p H ih => exact .cons .here ih
    exact all _)
/-- ways that meet: what is known where they do, aS a function of s -/
def Jn {σ : Type} (c : Cx) (fr' : σ → Fr) (H' : σ → List Pc) (C : σ → Prop) (a : Act) (w : World) : Prop := ∃ s, C s ∧ St c.G c.D c.w0 (H' s) w ∧ Ag c.n (fr' s) a
theorem c_join {c : Cx} {fr : Fr} {H : List Pc} {k : List It} {x : Code} {σ : Type} (fr' : σ → Fr) (H' : σ → List Pc) (C : σ → Prop) (h : T c fr H (.code (.lp (Jn c fr' H' C) :: k) x)) (h2 : ∀ s, C s → T c (fr' s) (H' s) (.norm k)) : T c fr H (.code k x) := .mk fun a w s g =>
  wp_mono (h.h a w s g) fun e a' w' he => by
    cases e with
    | normal => obtain ⟨z, hz, hs, hg⟩ := he; exact (h2 z hz).h a' w' hs hg
    | _ => exact he
theorem n_join {c : Cx} {fr : Fr} {H : List Pc} {k : List It} {σ : Type} {fr' : σ → Fr} {H' : σ → List Pc} {C : σ → Prop} (s : σ) (hC : C s) (hf : FrSub fr (fr' s) := by repeat (first | exact FrSub.nil | refine FrSub.cons (by rfl) ?_)) (hH : HSub H (H' s) := by repeat (first | exact HSub.nil | refine HSub.cons (by (repeat (first | exact .here | apply Pick.there)); first | done | fail) ?_)) : T c fr H (.norm (.lp (Jn c fr' H' C) :: k)) :=
  .mk fun _ _ st g => ⟨s, hC, st.sub hH, g.sub hf⟩
theorem c_joinS {c : Cx} {fr : Fr} {H : List Pc} {k : List It} {x : Code} {σ : Type} {cst : Fr} {rest : List Pc} (ks rs : List Nat) (upd : σ → Fr) (chg : σ → List Pc) (C : σ → Prop) (h : T c fr H (.code (.lp (Jn c (fun s => upd s ++ cst) (fun s => chg s ++ rest) C) :: k) x)) (h2 : ∀ s, C s → T c (upd s ++ cst) (chg s ++ rest) (.norm k)) (_hk : Kf fr ks cst := by repeat (first | exact Kf.nil | apply Kf.cons (by rfl))) (_hr : Sel H rs rest := by repeat constructor) : T c fr H (.code k x) :=
  c_join _ _ C h h2
theorem enter {P : Program} {f : FuncId} {fn : Func} {cd : Code} {args : List Value} {A M H : List Pc} {σ : Type} {C : σ → Prop} {v : σ → Value} {N : σ → List Pc} {n : Nat} (hf : P.funcs[f]? = some fn) (hb : fn.body = some cd) (hn : fn.ntmps = n)
    (h : ∀ w, T ⟨P, fp M, fp A, w, n, bodyPost P fn (FnPost P w A M C v N)⟩ (args0 0 args) H (.code [] cd))
    (hl : Nat.ble args.length n = true := by rfl) (hmA : A.all (fun p => !p.mu) = true := by rfl) (hH : AppL M A H := by repeat constructor) : Fn P f args A M C v N := by
  subst hn
  exact fn_enter hf hb (fun w => by rw [hH.eq]; exact h w) (by simpa using hl) hmA
theorem ret {P : Program} {fn : Func} {G D : List Nat} {w0 : World} {n : Nat} {A M : List Pc} {σ : Type} {C : σ → Prop} {v : σ → Value} {N : σ → List Pc} {fr : Fr} {H : List Pc} {rs : List ResultVar} {vs : List Value} (s : σ) (hC : C s) (hv : tup vs = v s)
    (hr : fn.results = rs.toArray := by rfl) (h : Res P fr H rs vs := by repeat (first | exact Res.nil | apply Res.tmp (by rfl) | apply Res.agg inferInstance (by rfl) (by (repeat (first | exact .head _ | apply List.Mem.tail)); first | done | fail) (by rfl) | apply Res.one inferInstance (by rfl) (by (repeat (first | exact .head _ | apply List.Mem.tail)); first | done | fail))) (hN : HSub H (N s) := by repeat (first | exact HSub.nil | refine HSub.cons (by (repeat (first | exact .here | apply Pick.there)); first | done | fail) ?_)) (hG : G = fp M := by rfl) (hD : D = fp A := by rfl) : T ⟨P, G, D, w0, n, bodyPost P fn (FnPost P w0 A M C v N)⟩ fr H (.fin .ret) := fn_ret s hC hr h hv hN hG hD
/-- out of a triple: a value, nothing that was there has turned -/
theorem Fn.val {P : Program} {f : FuncId} {args : List Value} {A : List Pc} {C : Unit → Prop} {v : Value} (h : Fn P f args A [] C (fun _ => v) (fun _ => [])) (w : World) (hA : Hol A w) (hm : A.all (fun p => !p.mu) = true := by rfl) : Calls P f args.toArray w fun e w' => e = .returned v ∧ Below w.heap.size w w' :=
  have hs : ∀ (A : List Pc), A.all (fun p => !p.mu) = true → Sep A := by
    intro A
    induction A with
    | nil => intro _; trivial
    | cons p A ih =>
      intro h
      simp only [List.all_cons, Bool.and_eq_true, Bool.not_eq_true'] at h
      exact ⟨fun q hq hm => by have := List.all_eq_true.1 h.2 q hq; simp [h.1] at hm; simp [hm] at this, ih h.2⟩
  (h w (by simpa using hA) (by simpa using hs A hm)).mono fun e w' ⟨_, _, he, _, _, hk, _⟩ => ⟨he, hk.below (Nat.le_refl _) (by simp [fp])⟩
theorem sep_ro : ∀ (A : List Pc), A.all (fun p => !p.mu) = true → Sep A
  | [], _ => trivial
  | p :: A, h => by
    simp only [List.all_cons, Bool.and_eq_true, Bool.not_eq_true'] at h
    exact ⟨fun q hq hm => by have := List.all_eq_true.1 h.2 q hq; simp [h.1] at hm; simp [hm] at this, sep_ro A h.2⟩
theorem Pc.nd {p : Pc} (hm : p.mu = true) {w : World} (h : p.P w) : p.F.Nodup := by
  cases p with
  | row g t o A cs B => simp [Pc.F]
  | ow E t v xs F => exact h.1
  | own E v x F => exact h.1
  | flat E cs xs F => exact h.1
  | _ => cases hm
theorem fp_nd {w : World} : ∀ {N : List Pc}, N.all (·.mu) = true → Hol N w → Sep N → (fp N).Nodup
  | [], _, _, _ => by simp [fp]
  | p :: N, hm, hH, hs => by
    simp only [List.all_cons, Bool.and_eq_true] at hm
    refine List.nodup_append.2 ⟨Pc.nd hm.1 (hH p (by simp)), fp_nd hm.2 (fun q hq => hH q (by simp [hq])) hs.2, fun b hb b' hb' e => ?_⟩
    subst e
    obtain ⟨q, hq, hqb⟩ := mem_fp.1 hb'
    exact hs.1 q hq (by simp [hm.1]) b hb hqb
/-- out of a triple that only reads: what it returns is owned, and new -/
theorem Fn.made {P : Program} {f : FuncId} {args : List Value} {A : List Pc} {σ : Type} {C : σ → Prop} {v : σ → Value} {N : σ → List Pc} (h : Fn P f args A [] C v N) (w : World) (hA : Hol A w) (hN : ∀ s, (N s).all (·.mu) = true) (hm : A.all (fun p => !p.mu) = true := by rfl) :
    Calls P f args.toArray w fun e w' => ∃ s, C s ∧ e = .returned (v s) ∧ Hol (N s) w' ∧ (fp (N s)).Nodup ∧ (∀ b ∈ fp (N s), w.heap.size ≤ b) ∧ Below w.heap.size w w' :=
  (h w (by simpa using hA) (by simpa using sep_ro A hm)).mono fun e w' ⟨s, hC, he, hH, hS, hk, hF⟩ => ⟨s, hC, he, hH, fp_nd (hN s) hH hS, (fun b hb => by
    obtain ⟨p, hp, hpb⟩ := mem_fp.1 hb
    rcases hF p hp b hpb with h | ⟨q, hq, _⟩ | ⟨h, _⟩
    · exact h
    · simp at hq
    · have := List.all_eq_true.1 (hN s) p hp; rw [h] at this; cases this), hk.below (Nat.le_refl _) (by simp [fp])⟩
/-- out of a triple that only reads: what it returns may be read -/
theorem Fn.read {P : Program} {f : FuncId} {args : List Value} {A : List Pc} {σ : Type} {C : σ → Prop} {v : σ → Value} {N : σ → List Pc} (h : Fn P f args A [] C v N) (w : World) (hA : Hol A w) (hm : A.all (fun p => !p.mu) = true := by rfl) :
    Calls P f args.toArray w fun e w' => ∃ s, C s ∧ e = .returned (v s) ∧ Hol (N s) w' ∧ Below w.heap.size w w' :=
  (h w (by simpa using hA) (by simpa using sep_ro A hm)).mono fun e w' ⟨s, hC, he, hH, hS, hk, hF⟩ => ⟨s, hC, he, hH, hk.below (Nat.le_refl _) (by simp [fp])⟩
theorem hol2 {p q : Pc} {w : World} (h : p.P w) (h2 : q.P w) : Hol [p, q] w := fun r hr => by
  simp only [List.mem_cons, List.not_mem_nil, or_false] at hr
  rcases hr with rfl | rfl <;> assumption
end Go.Proofs.YtidephmobajikaaGreatDoor
/- The type Hold of the exact laws: how it reads, how it is owned; the walks of its size, copy, equality, mark and held. Written by wip/gentypes.py. -/
namespace Go.Proofs.YtidephmobajikaaGreatDoor
open Go.RowKit
structure Hold where
  number : Int
  untl : Int
/-- read -/
def EHold : Elem Hold where
  sz := 2
  rep _ cs x F := cs = [.int .i64 x.number, .int .i64 x.untl] ∧ F = []
  len h := by obtain ⟨rfl, rfl⟩ := h; rfl
  lt h := by obtain ⟨rfl, rfl⟩ := h; simp
  frame h _ := h
theorem one_EHold : One EHold := fun h u hu => by
  obtain ⟨rfl, rfl⟩ := h
  simp only [List.mem_cons, List.not_mem_nil, or_false] at hu
  rcases hu with rfl | rfl
  · rfl
  · rfl
theorem scal_EHold : Scal EHold := fun h => by obtain ⟨rfl, rfl⟩ := h; rfl
theorem info_Hold : (Tryz.prog.info? 131).map (fun i => (i.zero, i.size, i.bytes)) = some (some (.agg #[.int .i64 0, .int .i64 0]), 2, 16) := by kernel_rfl
def cntHold (x : Hold) : Nat := cntI x.number + cntI x.untl
def mkHold (k : Int) (x : Hold) : Hold := ⟨mkI (k) x.number, mkI (k + cntI x.number) x.untl⟩
theorem cntHold_wt (x : Hold) : cntHold x ≤ 2 * (1 + (fun _ => 0) x) := by
  simp only [cntHold, cntI, cntB, cntS]
  omega
set_option maxHeartbeats 800000 in
theorem szHoldS_c (v : Value) (xs : List Hold) (F : List Nat) (n : Int) (w : World) (h : Sl EHold w v xs F) (h0 : 0 ≤ n) (h1 : n ≤ 1048576) :
    Calls Tryz.prog 120 #[v, .int .i64 n] w fun e w' => e = .returned (.int .i64 (szr n (wtL (fun _ => 0) xs))) ∧ Below w.heap.size w w' := by
  obtain ⟨a, cap, rfl⟩ := h.slice
  have hl := h.len
  unfold maxLen at hl
  rw [wtL_zero]
  go_enter Tryz.func120, Tryz.ntmps120
  go_wp2
  all_goals go_ret
  all_goals exact ⟨ret_int (by unfold szr; split <;> omega), Below.refl _ _⟩
set_option maxHeartbeats 1600000 in
theorem toHold_c (v : Value) (x : Hold) (F : List Nat) (w : World) (h : IsV EHold w v x F)  :
    Calls Tryz.prog 178 #[v] w (RetV EHold x w) := by
  obtain ⟨_, rfl, rfl, rfl⟩ := h
  have hB0 : ∀ A B C : Obj, Below w.heap.size w (((w.alloc A).alloc B).alloc C) := fun A B C => (((Below.refl _ _).alloc (Nat.le_refl _) _).alloc (by simp) _).alloc (by simp <;> omega) _
  go_enter Tryz.func178, Tryz.ntmps178
  go_wp2_with fail
  refine bodyPost_ret (v := .agg #[.int .i64 x.number, .int .i64 x.untl]) ?_ rfl ?_
  · simp [results, Tryz.results178, go_sem]
  · exact ⟨_, [], rfl, ⟨_, rfl, rfl, rfl⟩, by simp, by simp, by repeat (first | exact Below.refl _ _ | refine Below.setCell ?_ (by simp <;> omega) _ | refine Below.alloc ?_ (by simp <;> omega) _)⟩
set_option maxHeartbeats 1600000 in
theorem toHoldS_c (v : Value) (xs : List Hold) (F : List Nat) (w : World) (h : Sl EHold w v xs F) (hl1 : wtL (fun _ => 0) xs ≤ 1048576) :
    Calls Tryz.prog 122 #[v] w (RetNew EHold 131 xs w) := by
  obtain ⟨a, cap, rfl⟩ := h.slice
  have hl2 : xs.length ≤ 1048576 := by unfold wtL at hl1; omega
  have hmk := fun w => run_make_rows (P := Tryz.prog) 53 131 (.agg #[.int .i64 0, .int .i64 0]) 2 16 Tryz.underlying53 info_Hold xs.length (by omega) (by omega) w
  have hm := Lib.hid (Ow.made (E := EHold) (t := 131) w #[.int .i64 0, .int .i64 0] xs.length (⟨0, 0⟩ : Hold) rfl (fun _ => ⟨rfl, rfl⟩) (by unfold maxLen; omega))
  go_enter Tryz.func122, Tryz.ntmps122
  go_wp2
  clear hmk
  go_loopw [4] (fun i wr => ∃ k : Nat, k ≤ xs.length ∧ i = .int .i64 k ∧ ∃ F, Ow EHold 131 wr (.slice (some ⟨w.heap.size, 0, none⟩) xs.length xs.length) (xs.take k ++ List.replicate (xs.length - k) (⟨0, 0⟩ : Hold)) F ∧ F.Nodup ∧ (∀ b ∈ F, w.heap.size ≤ b) ∧ Below w.heap.size w wr) (fun i _ => xs.length - (intOf i).toNat)
  case atStart => exact ⟨0, Nat.zero_le _, rfl, _, by simpa [show EHold.sz = 2 from rfl, Value.cells] using hm.out, by simp, by simp, (Below.refl _ _).alloc (Nat.le_refl _) _⟩
  case round =>
    obtain ⟨k, hk, rfl, F2, ho, hn, hF, hB⟩ := hrel
    by_cases hlt : k < xs.length
    · obtain ⟨b, off, _, F1, rfl, hx, -, ja⟩ := (h.below (by decide) hB).at k hlt
      obtain ⟨rfl, rfl⟩ := id hx
      have a0 := ja 0 (by decide)
      have a1 := ja 1 (by decide)
      simp only [show EHold.sz = 2 from rfl, Nat.mul_one, Nat.add_zero, List.getElem?_cons_zero, List.getElem?_cons_succ] at a0 a1
      clear ja
      have hst := Lib.hid (set_take_rep xs (⟨0, 0⟩ : Hold) k xs.length rfl hlt xs[k] (by simp))
      have HO0 := Lib.hid ho
      clear ho
      go_wp2_with fail
      refine (toHold_c _ xs[k] _ _ ⟨_, rfl, hx⟩).mono ?_
      rintro e w1 ⟨_, K, rfl, ⟨cs1, rfl, oo⟩, nn, gg, hb1⟩
      have ho := HO0.out.below hb1
      obtain ⟨hgF, hcell, hput⟩ := ho.put hn k (by simp; omega)
      have hlt2 := HO0.out.lt
      obtain ⟨F3, ho3, hn3, hs3⟩ := hput cs1 xs[k] K oo nn (fun b hb hc => by have := gg b hb; have := hlt2 b hc; omega)
      obtain ⟨rfl, rfl⟩ := id oo
      rw [hst.out] at ho3
      simp only [show EHold.sz = 2 from rfl, Nat.mul_one, putCells] at ho3
      obtain ⟨⟨q0_, z0⟩, f0⟩ := hcell 0 (by decide)
      obtain ⟨⟨q1_, z1⟩, f1⟩ := hcell 1 (by decide)
      simp only [show EHold.sz = 2 from rfl, Nat.mul_one, Nat.add_zero] at z0 f0 z1 f1
      have HO := Lib.hid ho3
      have hB1 := tr hB hb1 (Nat.le_refl _)
      have hF3 : ∀ b ∈ F3, w.heap.size ≤ b := fun b hb => by
        rcases hs3 b hb with hb | hb
        · exact hF b hb
        · have := gg b hb; have := hB.size; omega
      clear ho ho3 hput hcell HO0 oo
      go_wp2_with fail
      exact ⟨⟨k + 1, by omega, by go_num, F3, HO.out, hn3, hF3, by (repeat (refine Below.setCell ?_ (by simp) _)); exact hB1⟩, by simp [intOf]; omega⟩
    · have hk : k = xs.length := by omega
      subst hk
      have HO := Lib.hid ho
      clear ho
      go_wp2_with fail
      go_ret
      exact ⟨_, F2, rfl, by simpa using HO.out, hn, hF, hB⟩
set_option maxHeartbeats 1600000 in
theorem eqHold_c (va vb : Value) (x : Hold) (Fa Fb : List Nat) (w : World) (ha : IsV EHold w va x Fa) (hb : IsV EHold w vb x Fb) :
    Calls Tryz.prog 180 #[va, vb] w fun e w' => e = .returned (.bool true) ∧ Below w.heap.size w w' := by
  obtain ⟨_, rfl, rfl, rfl⟩ := ha
  obtain ⟨_, rfl, rfl, rfl⟩ := hb
  have hB0 : ∀ A B : Obj, Below w.heap.size w ((w.alloc A).alloc B) := fun A B => ((Below.refl _ _).alloc (Nat.le_refl _) _).alloc (by simp) _
  have hE : ∀ z : Int, (z != z) = false := fun z => by simp
  go_enter Tryz.func180, Tryz.ntmps180
  go_wp2_with fail
  go_ret
  exact ⟨rfl, hB0 _ _⟩
set_option maxHeartbeats 1600000 in
theorem eqHoldS_c (va vb : Value) (xs : List Hold) (Fa Fb : List Nat) (w : World) (ha : Sl EHold w va xs Fa) (hb : Sl EHold w vb xs Fb) :
    Calls Tryz.prog 124 #[va, vb] w fun e w' => e = .returned (.bool true) ∧ Below w.heap.size w w' := by
  obtain ⟨a, ca, rfl⟩ := ha.slice
  obtain ⟨b, cb, rfl⟩ := hb.slice
  have hl := ha.len
  unfold maxLen at hl
  go_enter Tryz.func124, Tryz.ntmps124
  go_wp2
  go_loopw [5] (fun i wr => ∃ k : Nat, k ≤ xs.length ∧ i = .int .i64 k ∧ Below w.heap.size w wr) (fun i _ => xs.length - (intOf i).toNat)
  case atStart => exact ⟨0, Nat.zero_le _, rfl, Below.refl _ _⟩
  case round =>
    obtain ⟨k, hk, rfl, hB⟩ := hrel
    by_cases hlt : k < xs.length
    · obtain ⟨ba, oa, _, F_, rfl, hx, -, ja⟩ := (ha.below (by decide) hB).at k hlt
      obtain ⟨bb, ob, _, G_, rfl, hy, -, jb⟩ := (hb.below (by decide) hB).at k hlt
      obtain ⟨rfl, rfl⟩ := id hx
      obtain ⟨rfl, rfl⟩ := id hy
      have a0 := ja 0 (by decide); have b0 := jb 0 (by decide)
      have a1 := ja 1 (by decide); have b1 := jb 1 (by decide)
      simp only [show EHold.sz = 2 from rfl, Nat.mul_one, Nat.add_zero, List.getElem?_cons_zero, List.getElem?_cons_succ] at a0 b0 a1 b1
      clear ja jb
      go_wp2_with fail
      go_region_held3 (fun w' => w'.cell? ⟨ba, oa + k * 2, none⟩ = some (.int .i64 xs[k].number) ∧ w'.cell? ⟨ba, oa + k * 2 + 1, none⟩ = some (.int .i64 xs[k].untl) ∧ w'.cell? ⟨bb, ob + k * 2, none⟩ = some (.int .i64 xs[k].number) ∧ w'.cell? ⟨bb, ob + k * 2 + 1, none⟩ = some (.int .i64 xs[k].untl))
        (first | go_keep | (exact ⟨kc hb1 (by simpa using a0), kc hb1 (by simpa using a1), kc hb1 (by simpa using b0), kc hb1 (by simpa using b1)⟩))
        (first | (go_at_call 180; refine (eqHold_c _ _ xs[k] _ _ wr.drew ⟨_, rfl, EHold.frame hx (fun _ _ => rfl)⟩ ⟨_, rfl, EHold.frame hy (fun _ _ => rfl)⟩).mono ?_; rintro e w1 ⟨rfl, hb1⟩))
      go_wp2_with fail
      exact ⟨⟨k + 1, by omega, by go_num, tr (belowDrewN hB 1) hb1 (Nat.le_refl _)⟩, by simp [intOf]; omega⟩
    · go_wp2_with fail
      go_ret
      exact ⟨rfl, hB⟩
set_option maxHeartbeats 1600000 in
theorem markHoldS_c (v : Value) (xs : List Hold) (F : List Nat) (k0 : Int) (w : World) (h : Ow EHold 131 w v xs F) (hn : F.Nodup) (h0 : 0 ≤ k0) (h1 : k0 + cntL cntHold xs ≤ 1099511627776) :
    Calls Tryz.prog 127 #[v, .int .i64 k0] w (RetMark EHold 131 v (k0 + cntL cntHold xs) (markL mkHold cntHold k0 xs) F w) := by
  obtain ⟨a, cap, rfl⟩ := h.slice
  have hl := h.len
  unfold maxLen at hl
  go_enter Tryz.func127, Tryz.ntmps127
  go_wp2
  go_loopw [1, 5] (fun kk i wr => ∃ k : Nat, k ≤ xs.length ∧ i = .int .i64 k ∧ kk = .int .i64 (k0 + psum cntHold xs k) ∧ Ow EHold 131 wr (.slice a xs.length cap) ((markL mkHold cntHold k0 xs).take k ++ xs.drop k) F ∧ Keep F w wr) (fun _ i _ => xs.length - (intOf i).toNat)
  case atStart => exact ⟨0, Nat.zero_le _, rfl, by rw [psum_zero]; simp, by simpa using h, Keep.refl _ _⟩
  case round =>
    obtain ⟨k, hk, rfl, rfl, ho, hK⟩ := hrel
    by_cases hlt : k < xs.length
    · have hln : k < ((markL mkHold cntHold k0 xs).take k ++ xs.drop k).length := by simp [markL_len]; omega
      have hsn := Lib.hid (psum_snoc cntHold xs k hlt)
      have hsl : k0 + psum cntHold xs k + cntHold xs[k] ≤ 1099511627776 := by have := hsn.out; have := cntL_le cntHold xs (k + 1); omega
      obtain ⟨g, rfl⟩ := ho.head k hln
      obtain ⟨A, c, B, Fi, hrow, hA, hcl, hx, hnF, hgF, hgm, hsub, back⟩ := ho.inPlace hn k hln
      rw [mid_get _ _ _ (markL_len ..) hlt] at hx
      simp only [show EHold.sz = 2 from rfl] at hA
      have hst := Lib.hid (markL_step mkHold cntHold xs k0 k hlt)
      simp only [cntHold, cntI] at hsl
      obtain ⟨rfl, rfl⟩ := hx
      have KK := Keep.refl (g :: []) wr
      clear ho
      have z0 := hrow.cellMid (p := k * 2) (j := 0) (by omega) (by simp)
      have z1 := hrow.cellMid (p := k * 2 + 1) (j := 1) (by omega) (by simp)
      simp only [List.getElem?_cons_zero, List.getElem?_cons_succ] at z0 z1
      have hfz := hrow.frozens
      have HBk := Lib.hid back; clear back
      go_wp2_with fail
      have HB := HBk.out _ [.int .i64 (k0 + psum cntHold xs k), .int .i64 (k0 + psum cntHold xs k + 1)] (mkHold (k0 + psum cntHold xs k) xs[k]) (by exact (Row.setMid (Row.setMid hrow (p := k * 2) (j := 0) (by omega) (by simp) (.int .i64 (k0 + psum cntHold xs k))) (p := k * 2 + 1) (j := 1) (by omega) (by simp) (.int .i64 (k0 + psum cntHold xs k + 1)))) ⟨rfl, rfl⟩ (by (repeat (refine Keep.setCell ?_ (by simp) _)); exact KK)
      rw [hst.out] at HB
      exact ⟨⟨k + 1, by omega, by go_num, congrArg (Value.int .i64) (by rw [hsn.out]; simp only [cntHold, cntI]; omega), HB, by (repeat (refine Keep.setCell ?_ hgm _)); exact hK.trans (KK.mono (fun b hb _ => by rcases List.mem_cons.1 hb with rfl | hb; exact hgm; exact hsub b hb))⟩, by simp [intOf]; omega⟩
    · have hk : k = xs.length := by omega
      subst hk
      have HO := Lib.hid ho
      clear ho
      go_wp2
      go_ret
      exact ⟨ret_int (by rw [cntL_eq]), by simpa [markL_len, List.take_of_length_le] using HO.out, hK⟩
set_option maxHeartbeats 1600000 in
theorem heldHoldS_c (v : Value) (xs : List Hold) (F : List Nat) (k0 : Int) (w : World) (h : Sl EHold w v (markL mkHold cntHold k0 xs) F) (h0 : 0 ≤ k0) (h1 : k0 + cntL cntHold xs ≤ 1099511627776) :
    Calls Tryz.prog 130 #[v, .int .i64 k0] w fun e w' => e = .returned (.int .i64 (k0 + cntL cntHold xs)) ∧ Below w.heap.size w w' := by
  obtain ⟨a, cap, rfl⟩ := h.slice
  have hl := h.len
  unfold maxLen at hl
  have hml := Lib.hid (markL_len mkHold cntHold xs k0)
  rw [hml.out] at hl
  rw [hml.out]
  have hE : ∀ z : Int, (z != z) = false := fun z => by simp
  go_enter Tryz.func130, Tryz.ntmps130
  go_wp2
  go_loopw [1, 5] (fun kk i wr => ∃ k : Nat, k ≤ xs.length ∧ i = .int .i64 k ∧ kk = .int .i64 (k0 + psum cntHold xs k) ∧ Below w.heap.size w wr) (fun _ i _ => xs.length - (intOf i).toNat)
  case atStart => exact ⟨0, Nat.zero_le _, rfl, by rw [psum_zero]; simp, Below.refl _ _⟩
  case round =>
    obtain ⟨k, hk, rfl, rfl, hB⟩ := hrel
    by_cases hlt : k < xs.length
    · have hsn := Lib.hid (psum_snoc cntHold xs k hlt)
      have hsl : k0 + psum cntHold xs k + cntHold xs[k] ≤ 1099511627776 := by have := hsn.out; have := cntL_le cntHold xs (k + 1); omega
      obtain ⟨b, off, _, F1, hab, hx, -, ja⟩ := (h.below (by decide) hB).at k (by rw [hml.out]; exact hlt)
      rw [markL_get mkHold cntHold xs k0 k hlt] at hx
      rw [hml.out] at h
      subst hab
      simp only [cntHold, cntI] at hsl
      obtain ⟨rfl, rfl⟩ := hx
      have a0 : wr.cell? ⟨b, off + k * 2, none⟩ = some (.int .i64 (k0 + psum cntHold xs k)) := by have := ja 0 (by decide); simp only [show EHold.sz = 2 from rfl, Nat.mul_one, Nat.add_zero, List.getElem?_cons_zero, List.getElem?_cons_succ] at this; exact this
      have a1 : wr.cell? ⟨b, off + k * 2 + 1, none⟩ = some (.int .i64 (k0 + psum cntHold xs k + 1)) := by have := ja 1 (by decide); simp only [show EHold.sz = 2 from rfl, Nat.mul_one, Nat.add_zero, List.getElem?_cons_zero, List.getElem?_cons_succ] at this; exact this
      clear ja
      go_wp2_with fail
      exact ⟨⟨k + 1, by omega, by go_num, congrArg (Value.int .i64) (by rw [hsn.out]; simp only [cntHold, cntI]; omega), hB⟩, by simp [intOf]; omega⟩
    · have hk : k = xs.length := by omega
      subst hk
      go_wp2
      go_ret
      exact ⟨ret_int (by rw [cntL_eq]), hB⟩
end Go.Proofs.YtidephmobajikaaGreatDoor
/- The type Source of the exact laws: how it reads, how it is owned; the walks of its size, copy, equality, mark and held. Written by wip/gentypes.py. -/
namespace Go.Proofs.YtidephmobajikaaGreatDoor
open Go.RowKit
structure Source where
  window : SendWindow
  clock : Int
  quiet : Int
  holds : List Hold
/-- read -/
def ESource : Elem Source where
  sz := 6
  rep w cs x F := ∃ v1 v2 F1 F2, cs = [.int .i64 x.window.trail, .int .i64 x.window.size, v1, .int .i64 x.clock, .int .i64 x.quiet, v2] ∧ Sl EStr w v1 x.window.items F1 ∧ Sl EHold w v2 x.holds F2 ∧ F = F1 ++ F2
  len h := by obtain ⟨v1, v2, F1, F2, rfl, h1, h2, rfl⟩ := h; rfl
  lt h := by
    obtain ⟨v1, v2, F1, F2, rfl, h1, h2, rfl⟩ := h
    intro b hb
    simp only [List.mem_append] at hb
    rcases hb with hb | hb
    · exact h1.lt (by decide) b hb
    · exact h2.lt (by decide) b hb
  frame h hF := by obtain ⟨v1, v2, F1, F2, rfl, h1, h2, rfl⟩ := h; exact ⟨v1, v2, F1, F2, rfl, h1.frame fun b hb => hF b (by simp [hb]), h2.frame fun b hb => hF b (by simp [hb]), rfl⟩
theorem one_ESource : One ESource := fun h u hu => by
  obtain ⟨v1, v2, F1, F2, rfl, h1, h2, rfl⟩ := h
  simp only [List.mem_cons, List.not_mem_nil, or_false] at hu
  rcases hu with rfl | rfl | rfl | rfl | rfl | rfl
  · rfl
  · rfl
  · exact h1.one
  · rfl
  · rfl
  · exact h2.one
/-- owned -/
def OSource : Elem Source where
  sz := 6
  rep w cs x F := ∃ v1 v2 F1 F2, cs = [.int .i64 x.window.trail, .int .i64 x.window.size, v1, .int .i64 x.clock, .int .i64 x.quiet, v2] ∧ Ow EStr 9 w v1 x.window.items F1 ∧ Ow EHold 131 w v2 x.holds F2 ∧ F = F1 ++ F2
  len h := by obtain ⟨v1, v2, F1, F2, rfl, h1, h2, rfl⟩ := h; rfl
  lt h := by
    obtain ⟨v1, v2, F1, F2, rfl, h1, h2, rfl⟩ := h
    intro b hb
    simp only [List.mem_append] at hb
    rcases hb with hb | hb
    · exact h1.lt b hb
    · exact h2.lt b hb
  frame h hF := by obtain ⟨v1, v2, F1, F2, rfl, h1, h2, rfl⟩ := h; exact ⟨v1, v2, F1, F2, rfl, h1.frame fun b hb => hF b (by simp [hb]), h2.frame fun b hb => hF b (by simp [hb]), rfl⟩
theorem one_OSource : One OSource := fun h u hu => by
  obtain ⟨v1, v2, F1, F2, rfl, h1, h2, rfl⟩ := h
  simp only [List.mem_cons, List.not_mem_nil, or_false] at hu
  rcases hu with rfl | rfl | rfl | rfl | rfl | rfl
  · rfl
  · rfl
  · exact h1.one
  · rfl
  · rfl
  · exact h2.one
theorem weak_Source : Weak OSource ESource := ⟨rfl, fun h => by
  obtain ⟨v1, v2, F1, F2, rfl, h1, h2, rfl⟩ := h
  obtain ⟨G1, g1, k1⟩ := h1.sl (Weak.refl _)
  obtain ⟨G2, g2, k2⟩ := h2.sl (Weak.refl _)
  refine ⟨G1 ++ G2, ?_, v1, v2, G1, G2, rfl, k1, k2, rfl⟩
  intro b hb
  simp only [List.mem_append] at hb ⊢
  rcases hb with hb | hb
  · simp [g1 b hb]
  · simp [g2 b hb]⟩
def wtSource (x : Source) : Nat := wtSendWindow x.window + wtL (fun _ => 0) x.holds
/-- the marks of a value: its slices alone -/
def cvSource (x : Source) : Nat := cvSendWindow x.window + (cntL cntHold) x.holds
def mvSource (k : Int) (x : Source) : Source := ⟨mvSendWindow (k) x.window, x.clock, x.quiet, (markL mkHold cntHold) (k + cvSendWindow x.window) x.holds⟩
theorem cvSource_wt (x : Source) (h : wtSource x ≤ 1048576) : cvSource x ≤ 4294967296 := by
  have h0 := cntL_wt cntS ByteArray.size 1 (fun x => by simp [cntS]) x.window.items
  have h1 := cntL_wt cntHold (fun _ => 0) 2 cntHold_wt x.holds
  simp only [wtSource, wtSendWindow, cvSource, cvSendWindow] at h ⊢
  omega
set_option maxHeartbeats 800000 in
theorem szSource_c (v : Value) (x : Source) (F : List Nat) (n : Int) (w : World) (h : IsV ESource w v x F) (h0 : 0 ≤ n) (h1 : n ≤ 1048576) :
    Calls Tryz.prog 54 #[v, .int .i64 n] w fun e w' => e = .returned (.int .i64 (szr n (wtSource x))) ∧ Below w.heap.size w w' := by
  obtain ⟨_, rfl, v1, v2, F1, F2, rfl, h1, h2, rfl⟩ := h
  have hB0 : ∀ A : Obj, Below w.heap.size w (w.alloc A) := fun A => (Below.refl _ _).alloc (Nat.le_refl _) _
  unfold wtSource
  go_enter Tryz.func54, Tryz.ntmps54
  go_wp2_with fail
  refine (szSendWindow_c _ x.window _ _ _ ⟨_, rfl, _, rfl, h1.below (by decide) (hB0 _)⟩ (by omega) (by omega)).mono ?_
  rintro e w1 ⟨rfl, hb1⟩
  have r0 := Row.below (g := w.heap.size) (t := 88) (cs := [.int .i64 x.window.trail, .int .i64 x.window.size, v1, .int .i64 x.clock, .int .i64 x.quiet, v2]) (by simp [row_alloc]) hb1
  have hB := tr (hB0 _) hb1 (Nat.le_refl _)
  have c0 := r0.cells
  clear hb1
  rcases szr_or (n) (wtSendWindow x.window) with ⟨e1, l1⟩ | ⟨e1, l1⟩
  · simp only [e1]
    have z1 := Lib.hid e1; clear e1
    go_wp2_with fail
    go_ret
    exact ⟨ret_int (szr_no (by omega)).symm, hB⟩
  simp only [e1]
  have z1 := Lib.hid e1; clear e1
  go_wp2_with fail
  refine (szHoldS_c _ x.holds _ _ _ (h2.below (by decide) hB) (by omega) (by omega)).mono ?_
  rintro e w2 ⟨rfl, hb2⟩
  have r0 := r0.below hb2
  have hB := tr hB hb2 (Nat.le_refl _)
  have c0 := r0.cells
  clear hb2
  rcases szr_or (n - (wtSendWindow x.window : Nat)) (wtL (fun _ => 0) x.holds) with ⟨e2, l2⟩ | ⟨e2, l2⟩
  · simp only [e2]
    have z2 := Lib.hid e2; clear e2
    go_wp2_with fail
    go_ret
    exact ⟨ret_int (szr_no (by omega)).symm, hB⟩
  simp only [e2]
  have z2 := Lib.hid e2; clear e2
  go_wp2_with fail
  go_ret
  exact ⟨ret_int (by rw [szr_yes (by omega)]; all_goals omega), hB⟩
set_option maxHeartbeats 1600000 in
theorem toSource_c (v : Value) (x : Source) (F : List Nat) (w : World) (h : IsV ESource w v x F) (hl : wtSource x ≤ 1048576) :
    Calls Tryz.prog 56 #[v] w (RetV OSource x w) := by
  obtain ⟨_, rfl, v1, v2, F1, F2, rfl, h1, h2, rfl⟩ := h
  unfold wtSource at hl
  have hB0 : ∀ A B C : Obj, Below w.heap.size w (((w.alloc A).alloc B).alloc C) := fun A B C => (((Below.refl _ _).alloc (Nat.le_refl _) _).alloc (by simp) _).alloc (by simp <;> omega) _
  go_enter Tryz.func56, Tryz.ntmps56
  go_wp2_with fail
  refine (toSendWindow_c _ x.window _ _ ⟨_, rfl, _, rfl, h1.below (by decide) (hB0 _ _ _)⟩ (by omega)).mono ?_
  rintro e w1 ⟨_, K1, rfl, ⟨_, rfl, y1_1, rfl, o1_1⟩, n1, g1, hb1⟩
  obtain ⟨d1_1, p1_1, rfl⟩ := o1_1.slice
  have l1 : ∀ b ∈ K1, b < w1.heap.size := o1_1.lt
  have r0 := Row.below (g := w.heap.size) (t := 88) (cs := [.int .i64 x.window.trail, .int .i64 x.window.size, v1, .int .i64 x.clock, .int .i64 x.quiet, v2]) (by simp [row_alloc] <;> omega) hb1
  have r1 := Row.below (g := w.heap.size + 1) (t := 55) (cs := [.int .i64 0, .int .i64 0, .slice none 0 0, .int .i64 0, .int .i64 0, .slice none 0 0]) (by simp [row_alloc] <;> omega) hb1
  have r2 := Row.below (g := w.heap.size + 1 + 1) (t := 55) (cs := [.int .i64 0, .int .i64 0, .slice none 0 0, .int .i64 0, .int .i64 0, .slice none 0 0]) (by simp [row_alloc] <;> omega) hb1
  have hB := tr (hB0 _ _ _) hb1 (Nat.le_refl _)
  have hs1 := hb1.size
  simp only [World.size_alloc] at hs1 g1
  clear hb1
  have c0 := r0.cells; have c1 := r1.cells; have c2 := r2.cells; have f1 := r1.frozens; have f2 := r2.frozens
  have o1_1_ := Lib.hid o1_1
  go_wp2_with fail
  refine (toHoldS_c _ x.holds _ _ (h2.below (by decide) (by (repeat (refine Below.setCell ?_ (by simp <;> omega) _)); exact hB)) (by omega)).mono ?_
  rintro e w2 ⟨y2, K2, rfl, o2, n2, g2, hb2⟩
  obtain ⟨d2, p2, rfl⟩ := o2.slice
  have l2 : ∀ b ∈ K2, b < w2.heap.size := o2.lt
  have r0 := Row.below (g := w.heap.size) (t := 88) (cs := [.int .i64 x.window.trail, .int .i64 x.window.size, v1, .int .i64 x.clock, .int .i64 x.quiet, v2]) (by (repeat (refine Row.setOther ?_ (by simp <;> omega) _)); exact r0) hb2
  have r1 := Row.below (g := w.heap.size + 1) (t := 55) (cs := [.int .i64 0, .int .i64 0, .slice none 0 0, .int .i64 0, .int .i64 0, .slice none 0 0]) (by (repeat (refine Row.setOther ?_ (by simp <;> omega) _)); exact r1) hb2
  have r2 := Row.below (g := w.heap.size + 1 + 1) (t := 55) (cs := [.int .i64 x.window.trail, .int .i64 x.window.size, .slice d1_1 x.window.items.length p1_1, .int .i64 x.clock, .int .i64 x.quiet, .slice none 0 0]) (by exact (Row.set (Row.set (Row.set (Row.set (Row.set r2 0 (.int .i64 x.window.trail)) 1 (.int .i64 x.window.size)) 2 (.slice d1_1 x.window.items.length p1_1)) 3 (.int .i64 x.clock)) 4 (.int .i64 x.quiet))) hb2
  have o1_1 := Ow.below (E := EStr) (t := 9) (v := .slice d1_1 x.window.items.length p1_1) (xs := x.window.items) (F := K1) (by (repeat (refine Ow.setFar ?_ (fun hm => by have := g1 _ hm; simp at this <;> omega) _)); exact o1_1) hb2
  have hB := tr (B := w.heap.size) (w := w) (by (repeat (refine Below.setCell ?_ (by simp <;> omega) _)); exact hB) hb2 (Nat.le_refl _)
  have hs2 := hb2.size
  simp only [World.size_setCell] at hs2 g2
  clear hb2
  have c0 := r0.cells; have c1 := r1.cells; have c2 := r2.cells; have f1 := r1.frozens; have f2 := r2.frozens
  have o2_ := Lib.hid o2
  go_wp2_with fail
  refine bodyPost_ret (v := .agg #[.int .i64 x.window.trail, .int .i64 x.window.size, .slice d1_1 x.window.items.length p1_1, .int .i64 x.clock, .int .i64 x.quiet, .slice d2 x.holds.length p2]) ?_ rfl ?_
  · simp [results, Tryz.results56, go_sem, c0, c1, c2, f1, f2]
  · refine ⟨_, K1 ++ K2, rfl, ⟨_, rfl, _, _, K1, K2, rfl, ?_, ?_, rfl⟩, ?_, ?_, ?_⟩
    · repeat refine Ow.setFar ?_ (fun hm => by have := g1 _ hm; simp at this <;> omega) _
      exact o1_1
    · repeat refine Ow.setFar ?_ (fun hm => by have := g2 _ hm; simp at this <;> omega) _
      exact o2
    · simpa only [List.append_assoc] using (nodup_up n1 n2 (fun b hb => by have := l1 b hb; omega) g2)
    · intro b hb
      simp only [List.mem_append] at hb
      rcases hb with hb | hb
      · have := g1 b hb; omega
      · have := g2 b hb; omega
    · repeat refine Below.setCell ?_ (by simp <;> omega) _
      exact hB
set_option maxHeartbeats 1600000 in
theorem eqSource_c (va vb : Value) (x : Source) (Fa Fb : List Nat) (w : World) (ha : IsV ESource w va x Fa) (hb : IsV ESource w vb x Fb) :
    Calls Tryz.prog 58 #[va, vb] w fun e w' => e = .returned (.bool true) ∧ Below w.heap.size w w' := by
  obtain ⟨_, rfl, v1, v2, F1, F2, rfl, h1, h2, rfl⟩ := ha
  obtain ⟨_, rfl, u1, u2, G1, G2, rfl, k1, k2, rfl⟩ := hb
  have hB0 : ∀ A B : Obj, Below w.heap.size w ((w.alloc A).alloc B) := fun A B => ((Below.refl _ _).alloc (Nat.le_refl _) _).alloc (by simp) _
  have hE : ∀ z : Int, (z != z) = false := fun z => by simp
  go_enter Tryz.func58, Tryz.ntmps58
  go_wp2_with fail
  refine (eqSendWindow_c _ _ x.window _ _ _ ⟨_, rfl, _, rfl, h1.below (by decide) (hB0 _ _)⟩ ⟨_, rfl, _, rfl, k1.below (by decide) (hB0 _ _)⟩).mono ?_
  rintro e w1 ⟨rfl, hb1⟩
  have r0 := Row.below (g := w.heap.size) (t := 55) (cs := [.int .i64 x.window.trail, .int .i64 x.window.size, v1, .int .i64 x.clock, .int .i64 x.quiet, v2]) (by simp [row_alloc] <;> omega) hb1
  have r1 := Row.below (g := w.heap.size + 1) (t := 55) (cs := [.int .i64 x.window.trail, .int .i64 x.window.size, u1, .int .i64 x.clock, .int .i64 x.quiet, u2]) (by simp [row_alloc] <;> omega) hb1
  have hB := tr (hB0 _ _) hb1 (Nat.le_refl _)
  clear hb1
  have c0 := r0.cells; have c1 := r1.cells
  go_wp2_with fail
  refine (eqHoldS_c _ _ x.holds _ _ _ (h2.below (by decide) hB) (k2.below (by decide) hB)).mono ?_
  rintro e w2 ⟨rfl, hb2⟩
  have r0 := r0.below hb2; have r1 := r1.below hb2; have hB := tr hB hb2 (Nat.le_refl _)
  clear hb2
  have c0 := r0.cells; have c1 := r1.cells
  go_wp2_with fail
  go_ret
  exact ⟨rfl, hB⟩
set_option maxHeartbeats 1600000 in
theorem markSource_c (v : Value) (x : Source) (F : List Nat) (k0 : Int) (w : World) (h : IsV OSource w v x F) (hn : F.Nodup) (p0 : 0 ≤ k0) (p1 : k0 + cvSource x ≤ 1099511627776) :
    Calls Tryz.prog 60 #[v, .int .i64 k0] w (RetMarkV OSource v (k0 + cvSource x) (mvSource k0 x) F w) := by
  have hlt : ∀ b ∈ F, b < w.heap.size := by obtain ⟨cs, -, hx⟩ := h; exact OSource.lt hx
  obtain ⟨_, rfl, v1, v2, F1, F2, rfl, h1, h2, rfl⟩ := h
  unfold cvSource at p1 ⊢
  have hB0 : ∀ A : Obj, Below w.heap.size w (w.alloc A) := fun A => (Below.refl _ _).alloc (Nat.le_refl _) _
  have hw : w.heap.size ∉ F1 ++ F2 := fun e => by have := hlt _ e; omega
  obtain ⟨nF1, nF2, dF2⟩ := nodup_apart hn
  have w1_ : w.heap.size ∉ F1 := fun e => hw (by simp [e])
  have w2_ : w.heap.size ∉ F2 := fun e => hw (by simp [e])
  go_enter Tryz.func60, Tryz.ntmps60
  go_wp2_with fail
  refine (markSendWindow_c _ x.window F1 (k0) _ ⟨_, rfl, _, rfl, h1.below (hB0 _)⟩ nF1 (by omega) (by omega)).mono ?_
  rintro e w1 ⟨rfl, ⟨cs_, hcs_, hx_⟩, kp1⟩
  obtain ⟨q1_, rfl, o1⟩ := hx_
  obtain rfl : v1 = q1_ := by have := congrArg Value.cells hcs_; simp [Value.cells] at this; first | exact this | exact this.1 | exact this.2 | exact this.2.1 | exact this.2.2
  have r0 := Row.keepK (g := w.heap.size) (t := 55) (cs := [.int .i64 x.window.trail, .int .i64 x.window.size, v1, .int .i64 x.clock, .int .i64 x.quiet, v2]) (by simp [row_alloc]) kp1 w1_
  have h2 := Ow.keep (h2.below (hB0 _)) kp1 (fun b hb hc => dF2 b (by simp [hc]) hb)
  have KK : Keep (F1 ++ F2) w w1 := (Keep.ofBelow (hB0 _)).trans (kp1.mono (fun b hb _ => by simp [hb]))
  clear kp1
  have c0 := r0.cells
  go_wp2_with fail
  refine (markHoldS_c _ x.holds _ (k0 + cvSendWindow x.window) _ h2 nF2 (by omega) (by omega)).mono ?_
  rintro e w2 ⟨rfl, o2, kp2⟩
  have r0 := r0.keepK kp2 w2_
  have o1 := Ow.keep o1 kp2 (fun b hb => dF2 b (by simp [hb]))
  have KK := KK.trans (kp2.mono (fun b hb _ => by simp [hb]))
  clear kp2
  have c0 := r0.cells
  go_wp2_with fail
  go_ret
  exact ⟨ret_int (by omega), ⟨_, rfl, _, _, F1, F2, rfl, o1, o2, rfl⟩, KK⟩
set_option maxHeartbeats 1600000 in
theorem heldSource_c (v : Value) (x : Source) (F : List Nat) (k0 : Int) (w : World) (h : IsV ESource w v (mvSource k0 x) F) (p0 : 0 ≤ k0) (p1 : k0 + cvSource x ≤ 1099511627776) :
    Calls Tryz.prog 62 #[v, .int .i64 k0] w fun e w' => e = .returned (.int .i64 (k0 + cvSource x)) ∧ Below w.heap.size w w' := by
  obtain ⟨_, rfl, v1, v2, F1, F2, rfl, h1, h2, rfl⟩ := h
  unfold cvSource at p1 ⊢
  have hB0 : ∀ A : Obj, Below w.heap.size w (w.alloc A) := fun A => (Below.refl _ _).alloc (Nat.le_refl _) _
  go_enter Tryz.func62, Tryz.ntmps62
  go_wp2_with fail
  refine (heldSendWindow_c _ x.window _ (k0) _ ⟨_, rfl, _, rfl, h1.below (by decide) (hB0 _)⟩ (by omega) (by omega)).mono ?_
  rintro e w1 ⟨rfl, hb1⟩
  have r0 := Row.below (g := w.heap.size) (t := 55) (cs := [.int .i64 x.window.trail, .int .i64 x.window.size, v1, .int .i64 x.clock, .int .i64 x.quiet, v2]) (by simp [row_alloc, mvSource, mvSendWindow]) hb1
  have hB := tr (hB0 _) hb1 (Nat.le_refl _)
  clear hb1
  have c0 := r0.cells
  go_wp2_with fail
  refine (heldHoldS_c _ x.holds _ (k0 + cvSendWindow x.window) _ (h2.below (by decide) hB) (by omega) (by omega)).mono ?_
  rintro e w2 ⟨rfl, hb2⟩
  have r0 := r0.below hb2; have hB := tr hB hb2 (Nat.le_refl _)
  clear hb2
  have c0 := r0.cells
  go_wp2_with fail
  go_ret
  exact ⟨ret_int (by omega), hB⟩
end Go.Proofs.YtidephmobajikaaGreatDoor
/- Structs of type Source in a walk's state: opened, closed. -/
namespace Go.Proofs.YtidephmobajikaaGreatDoor
open Go.RowKit
section
variable {c : Cx} {fr : Fr} {H : List Pc} {Φ : Gl}
theorem openSource {v : Value} {x : Source} {F : List Nat} (h : ∀ (a1 : Option Addr) (c1 : Nat) (F1 : List Nat) (a2 : Option Addr) (c2 : Nat) (F2 : List Nat), v = .agg #[.int .i64 x.window.trail, .int .i64 x.window.size, .slice a1 x.window.items.length c1, .int .i64 x.clock, .int .i64 x.quiet, .slice a2 x.holds.length c2] → x.window.items.length ≤ maxLen → x.holds.length ≤ maxLen → T c fr (.sl EStr (.slice a1 x.window.items.length c1) x.window.items F1 :: .sl EHold (.slice a2 x.holds.length c2) x.holds F2 :: H) Φ) (hm : .isv ESource v x F ∈ H := by (repeat (first | exact .head _ | apply List.Mem.tail)); first | done | fail) : T c fr H Φ := .mk fun a w s g => by
  obtain ⟨cs, rfl, v1, v2, G1, G2, rfl, h1, h2, rfl⟩ := s.get hm
  obtain ⟨a1, c1, rfl⟩ := h1.slice; have l1 := h1.len
  obtain ⟨a2, c2, rfl⟩ := h2.slice; have l2 := h2.len
  have t2 := s.ro (p := .sl EHold (.slice a2 x.holds.length c2) x.holds G2) hm rfl rfl ⟨by decide, h2⟩ (by intro b hb; simp only [Pc.F] at hb ⊢; simp [hb])
  have t1 := t2.ro (p := .sl EStr (.slice a1 x.window.items.length c1) x.window.items G1) (List.mem_cons_of_mem _ hm) rfl rfl ⟨by decide, h1⟩ (by intro b hb; simp only [Pc.F] at hb ⊢; simp [hb])
  exact (h a1 c1 G1 a2 c2 G2 rfl  l1 l2).h a w t1 g
theorem closeSource (x : Source) {a1 : Option Addr} {c1 : Nat} {F1 : List Nat} {a2 : Option Addr} {c2 : Nat} {F2 : List Nat}  (h : T c fr (.isv ESource (.agg #[.int .i64 x.window.trail, .int .i64 x.window.size, .slice a1 x.window.items.length c1, .int .i64 x.clock, .int .i64 x.quiet, .slice a2 x.holds.length c2]) x (F1 ++ F2) :: H) Φ) (m1 : .sl EStr (.slice a1 x.window.items.length c1) x.window.items F1 ∈ H := by (repeat (first | exact .head _ | apply List.Mem.tail)); first | done | fail) (m2 : .sl EHold (.slice a2 x.holds.length c2) x.holds F2 ∈ H := by (repeat (first | exact .head _ | apply List.Mem.tail)); first | done | fail) : T c fr H Φ := .mk fun a w s g => by
  have hP : IsV ESource w (.agg #[.int .i64 x.window.trail, .int .i64 x.window.size, .slice a1 x.window.items.length c1, .int .i64 x.clock, .int .i64 x.quiet, .slice a2 x.holds.length c2]) x (F1 ++ F2) := ⟨_, rfl, _, _, _, _, rfl, (s.get m1).2, (s.get m2).2, rfl⟩
  refine h.h a w (s.add (N := [.isv ESource (.agg #[.int .i64 x.window.trail, .int .i64 x.window.size, .slice a1 x.window.items.length c1, .int .i64 x.clock, .int .i64 x.quiet, .slice a2 x.holds.length c2]) x (F1 ++ F2)]) (Below.refl _ _) (by intro q hq; simp at hq; subst hq; exact hP) ⟨by simp, trivial⟩ fun q hq b hb => ?_) g
  simp at hq; subst hq
  simp only [Pc.F, List.mem_append] at hb
  rcases hb with hb | hb
  · exact .inr ⟨rfl, _, m1, rfl, hb⟩
  · exact .inr ⟨rfl, _, m2, rfl, hb⟩
theorem openOSource {v : Value} {x : Source} {F : List Nat} {S : List Pc} (h : ∀ (a1 : Option Addr) (c1 : Nat) (F1 : List Nat) (a2 : Option Addr) (c2 : Nat) (F2 : List Nat), v = .agg #[.int .i64 x.window.trail, .int .i64 x.window.size, .slice a1 x.window.items.length c1, .int .i64 x.clock, .int .i64 x.quiet, .slice a2 x.holds.length c2] → x.window.items.length ≤ maxLen → x.holds.length ≤ maxLen → T c fr (.ow EStr 9 (.slice a1 x.window.items.length c1) x.window.items F1 :: .ow EHold 131 (.slice a2 x.holds.length c2) x.holds F2 :: S) Φ) (hp : Pick H (.own OSource v x F) S := by (repeat (first | exact .here | apply Pick.there)); first | done | fail) : T c fr H Φ := .mk fun a w s g => by
  have z1 := s.pick hp
  obtain ⟨hn, cs, rfl, v1, v2, G1, G2, rfl, h1, h2, rfl⟩ := z1.on (.own OSource v x F) (by simp)
  obtain ⟨a1, c1, rfl⟩ := h1.slice; have l1 := h1.len
  obtain ⟨a2, c2, rfl⟩ := h2.slice; have l2 := h2.len
  have hn2 := hn; simp only [List.nodup_append, List.mem_append] at hn2
  refine (h a1 c1 G1 a2 c2 G2 rfl  l1 l2).h a w (St.turn (M := [.own OSource (.agg #[.int .i64 x.window.trail, .int .i64 x.window.size, .slice a1 x.window.items.length c1, .int .i64 x.clock, .int .i64 x.quiet, .slice a2 x.holds.length c2]) x _]) (N := [.ow EStr 9 (.slice a1 x.window.items.length c1) x.window.items G1, .ow EHold 131 (.slice a2 x.holds.length c2) x.holds G2]) z1 (Keep.refl _ w) ?_ ?_ ?_) g
  · intro q hq; simp only [List.mem_cons, List.not_mem_nil, or_false] at hq
    rcases hq with rfl | rfl
    · exact ⟨(List.nodup_append.1 hn).1, h1⟩
    · exact ⟨(List.nodup_append.1 hn).2.1, h2⟩
  · refine ⟨?_, ⟨?_, trivial⟩⟩
    · intro q hq _ b hb hb2; simp only [List.mem_cons, List.not_mem_nil, or_false] at hq; rcases hq with rfl <;> simp only [Pc.F] at hb hb2 <;> exact nodup_apt hn hb hb2
    · intro q hq _ b hb hb2; simp at hq
  · intro q hq b hb; refine .inr (.inl ⟨_, List.mem_singleton.2 rfl, rfl, ?_⟩); simp only [List.mem_cons, List.not_mem_nil, or_false] at hq; rcases hq with rfl | rfl <;> simp only [Pc.F] at hb ⊢ <;> simp [hb]
theorem closeOSource (x : Source) {a1 : Option Addr} {c1 : Nat} {F1 : List Nat} {a2 : Option Addr} {c2 : Nat} {F2 : List Nat} {S1 S2 : List Pc}  (h : T c fr (.own OSource (.agg #[.int .i64 x.window.trail, .int .i64 x.window.size, .slice a1 x.window.items.length c1, .int .i64 x.clock, .int .i64 x.quiet, .slice a2 x.holds.length c2]) x (F1 ++ F2) :: S2) Φ) (m1 : Pick H (.ow EStr 9 (.slice a1 x.window.items.length c1) x.window.items F1) S1 := by (repeat (first | exact .here | apply Pick.there)); first | done | fail) (m2 : Pick S1 (.ow EHold 131 (.slice a2 x.holds.length c2) x.holds F2) S2 := by (repeat (first | exact .here | apply Pick.there)); first | done | fail)  : T c fr H Φ := .mk fun a w s g => by
  have z1 : St c.G c.D c.w0 ([.ow EStr 9 (.slice a1 x.window.items.length c1) x.window.items F1, .ow EHold 131 (.slice a2 x.holds.length c2) x.holds F2] ++ S2) w := by simpa using (show Picks H [.ow EStr 9 (.slice a1 x.window.items.length c1) x.window.items F1, .ow EHold 131 (.slice a2 x.holds.length c2) x.holds F2] S2 from Picks.cons m1 (Picks.cons m2 (Picks.nil))).st (X := []) (by simpa using s)
  obtain ⟨n1, k1⟩ := z1.on (.ow EStr 9 (.slice a1 x.window.items.length c1) x.window.items F1) (by simp)
  obtain ⟨n2, k2⟩ := z1.on (.ow EHold 131 (.slice a2 x.holds.length c2) x.holds F2) (by simp)
  have hsp := z1.sep
  have p1_2 : ∀ b ∈ F1, b ∉ F2 := hsp.1 (.ow EHold 131 (.slice a2 x.holds.length c2) x.holds F2) (by simp) rfl
  have hN : (F1 ++ F2).Nodup := by
    simp only [List.nodup_append, List.mem_append]
    grind
  refine h.h a w (St.turn (M := [.ow EStr 9 (.slice a1 x.window.items.length c1) x.window.items F1, .ow EHold 131 (.slice a2 x.holds.length c2) x.holds F2]) (N := [.own OSource (.agg #[.int .i64 x.window.trail, .int .i64 x.window.size, .slice a1 x.window.items.length c1, .int .i64 x.clock, .int .i64 x.quiet, .slice a2 x.holds.length c2]) x (F1 ++ F2)]) z1 (Keep.refl _ w) (by intro q hq; simp at hq; subst hq; exact ⟨hN, _, rfl, _, _, _, _, rfl, k1, k2, rfl⟩) ⟨by simp, trivial⟩ fun q hq b hb => ?_) g
  simp at hq; subst hq
  simp only [Pc.F, List.mem_append] at hb
  rcases hb with hb | hb
  · exact .inr (.inl ⟨.ow EStr 9 (.slice a1 x.window.items.length c1) x.window.items F1, by simp, rfl, hb⟩)
  · exact .inr (.inl ⟨.ow EHold 131 (.slice a2 x.holds.length c2) x.holds F2, by simp, rfl, hb⟩)
end
end Go.Proofs.YtidephmobajikaaGreatDoor
/- Structs of type Hold in a walk's state: opened, closed. -/
namespace Go.Proofs.YtidephmobajikaaGreatDoor
open Go.RowKit
section
variable {c : Cx} {fr : Fr} {H : List Pc} {Φ : Gl}
theorem atHold {a : Option Addr} {n cp : Nat} {xs : List Hold} {F : List Nat} (i : Nat) (h : ∀ (hi : i < xs.length) (b o : Nat), a = some ⟨b, o, none⟩ → T c fr (.cel b (o + i * 2) [.int .i64 xs[i].number, .int .i64 xs[i].untl] :: H) Φ) (hm : .sl EHold (.slice a n cp) xs F ∈ H := by (repeat (first | exact .head _ | apply List.Mem.tail)); first | done | fail) (hi : i < xs.length := by omega) : T c fr H Φ := .mk fun ac w s g => by
  obtain ⟨b, o, cs, G, ha, hrep, hG, hb, hne, hr⟩ := sl_at (s.get hm) i hi
  obtain ⟨rfl, rfl⟩ := hrep
  exact (h hi b o  ha  ).h ac w (s.ro hm rfl rfl ⟨hne, hr⟩ (by intro x hx; simp [Pc.F] at hx; subst hx; exact hb)) g
end
end Go.Proofs.YtidephmobajikaaGreatDoor
/- Structs of type SendWindow in a walk's state: opened, closed. -/
namespace Go.Proofs.YtidephmobajikaaGreatDoor
open Go.RowKit
section
variable {c : Cx} {fr : Fr} {H : List Pc} {Φ : Gl}
theorem openSendWindow {v : Value} {x : SendWindow} {F : List Nat} (h : ∀ (a1 : Option Addr) (c1 : Nat) (F1 : List Nat), v = .agg #[.int .i64 x.trail, .int .i64 x.size, .slice a1 x.items.length c1] → x.items.length ≤ maxLen → T c fr (.sl EStr (.slice a1 x.items.length c1) x.items F1 :: H) Φ) (hm : .isv ESendWindow v x F ∈ H := by (repeat (first | exact .head _ | apply List.Mem.tail)); first | done | fail) : T c fr H Φ := .mk fun a w s g => by
  obtain ⟨cs, rfl, v1, rfl, h1⟩ := s.get hm
  obtain ⟨a1, c1, rfl⟩ := h1.slice; have l1 := h1.len
  have t1 := s.ro (p := .sl EStr (.slice a1 x.items.length c1) x.items F) hm rfl rfl ⟨by decide, h1⟩ fun b hb => hb
  exact (h a1 c1 F rfl  l1).h a w t1 g
theorem closeSendWindow (x : SendWindow) {a1 : Option Addr} {c1 : Nat} {F1 : List Nat}  (h : T c fr (.isv ESendWindow (.agg #[.int .i64 x.trail, .int .i64 x.size, .slice a1 x.items.length c1]) x (F1) :: H) Φ) (m1 : .sl EStr (.slice a1 x.items.length c1) x.items F1 ∈ H := by (repeat (first | exact .head _ | apply List.Mem.tail)); first | done | fail) : T c fr H Φ := .mk fun a w s g => by
  have hP : IsV ESendWindow w (.agg #[.int .i64 x.trail, .int .i64 x.size, .slice a1 x.items.length c1]) x (F1) := ⟨_, rfl, _, rfl, (s.get m1).2⟩
  refine h.h a w (s.add (N := [.isv ESendWindow (.agg #[.int .i64 x.trail, .int .i64 x.size, .slice a1 x.items.length c1]) x (F1)]) (Below.refl _ _) (by intro q hq; simp at hq; subst hq; exact hP) ⟨by simp, trivial⟩ fun q hq b hb => ?_) g
  simp at hq; subst hq
  simp only [Pc.F, List.mem_append] at hb
  exact .inr ⟨rfl, _, m1, rfl, hb⟩
theorem openOSendWindow {v : Value} {x : SendWindow} {F : List Nat} {S : List Pc} (h : ∀ (a1 : Option Addr) (c1 : Nat) (F1 : List Nat), v = .agg #[.int .i64 x.trail, .int .i64 x.size, .slice a1 x.items.length c1] → x.items.length ≤ maxLen → T c fr (.ow EStr 9 (.slice a1 x.items.length c1) x.items F1 :: S) Φ) (hp : Pick H (.own OSendWindow v x F) S := by (repeat (first | exact .here | apply Pick.there)); first | done | fail) : T c fr H Φ := .mk fun a w s g => by
  have z1 := s.pick hp
  obtain ⟨hn, cs, rfl, v1, rfl, h1⟩ := z1.on (.own OSendWindow v x F) (by simp)
  obtain ⟨a1, c1, rfl⟩ := h1.slice; have l1 := h1.len
  refine (h a1 c1 F rfl  l1).h a w (St.turn (M := [.own OSendWindow (.agg #[.int .i64 x.trail, .int .i64 x.size, .slice a1 x.items.length c1]) x _]) (N := [.ow EStr 9 (.slice a1 x.items.length c1) x.items F]) z1 (Keep.refl _ w) ?_ ?_ ?_) g
  · intro q hq; simp at hq; subst hq; exact ⟨hn, h1⟩
  · exact ⟨by simp, trivial⟩
  · intro q hq b hb; simp at hq; subst hq; exact .inr (.inl ⟨_, List.mem_singleton.2 rfl, rfl, hb⟩)
end
end Go.Proofs.YtidephmobajikaaGreatDoor
/- A string as a row of one. -/
namespace Go.Proofs.YtidephmobajikaaGreatDoor
open Go.RowKit
theorem t_sl {c : Cx} {fr : Fr} {H : List Pc} {Φ : Gl} {α : Type} {E : Elem α} {v : Value} {xs : List α} {F : List Nat} (h : ∀ a cp, v = .slice a xs.length cp → xs.length ≤ cp → cp ≤ 9223372036854775807 → T c fr H Φ) (hm : .sl E v xs F ∈ H := by (repeat (first | exact .head _ | apply List.Mem.tail)); first | done | fail) : T c fr H Φ := .mk fun ac w s g => by
  obtain ⟨-, hs⟩ := s.get hm
  obtain ⟨a, cp, rfl⟩ := hs.slice
  obtain ⟨-, h2, h3⟩ := hs.caps
  exact (h a cp rfl h2 (by unfold maxLen at h3; omega)).h ac w s g
/-- a row of our own is an owned slice -/
theorem t_row {c : Cx} {fr : Fr} {H : List Pc} {Φ : Gl} {α : Type} {E : Elem α} {t g : Nat} {cs : List Value} {xs : List α} {S : List Pc} (hfl : ∀ w, Flat E w cs xs []) (h : T c fr (.ow E t (.slice (some ⟨g, 0, none⟩) xs.length xs.length) xs [g] :: S) Φ) (hl : xs.length ≤ 1000000) (hp : Pick H (.row g t 0 [] cs []) S := by (repeat (first | exact .here | apply Pick.there)); first | done | fail) : T c fr H Φ := .mk fun a w s g' => by
  have s1 := s.pick hp
  have hr := (s1.on (.row g t 0 [] cs []) (by simp)).2
  have hlen := (hfl w).len
  refine h.h a w (s1.conv rfl ⟨by simp, .inr ⟨g, xs.length, cs, [], [], rfl, by simpa using hr, Nat.le_refl _, by unfold maxLen; omega, by simpa using hlen, hfl w, rfl⟩⟩ (by simp [Pc.F])) g'
/-- out of a contract that makes a value -/
theorem fn_made {P : Program} {f : FuncId} {args : List Value} {A : List Pc} {σ : Type} {C : σ → Prop} {v : σ → Value} {N : σ → Pc}
    (h : ∀ w, Hol A w → Calls P f args.toArray w fun e w' => ∃ s, C s ∧ e = .returned (v s) ∧ (N s).P w' ∧ (∀ b ∈ (N s).F, w.heap.size ≤ b) ∧ Below w.heap.size w w') : Fn P f args A [] C v (fun s => [N s]) := fun w hA _ => by
  refine (h w (by simpa using hA)).mono ?_
  rintro e w' ⟨s, hC, he, hN, hF, hB⟩
  refine ⟨s, hC, he, hol1 hN, ⟨by simp, trivial⟩, Keep.ofBelow hB, fun p hp b hb => ?_⟩
  simp at hp
  subst hp
  exact .inl (hF b hb)
end Go.Proofs.YtidephmobajikaaGreatDoor
/- Sources: the check. -/
namespace Go.Proofs.YtidephmobajikaaGreatDoor
open Go.RowKit
def heldB (w : SendWindow) (n : Int) : Bool := decide (gp w.trail n < (w.items.length : Int))
theorem clk_bd {n : Int} (h : isClk n = true) : 0 ≤ n ∧ n ≤ 9999 := by unfold isClk btw at h; simpa using h
def chkH (x : Source) (i : Nat) : Bool := match x.holds[i]? with
  | none => true
  | some h => isSer h.number && heldB x.window h.number && btw (x.clock + 1) h.untl (x.clock + 3) && (decide (i = 0) || match x.holds[i - 1]? with | none => true | some p => !decide (gp x.window.trail h.number ≤ gp x.window.trail p.number))
theorem chkH_at {x : Source} {i : Nat} (h : i < x.holds.length) : chkH x i = (isSer x.holds[i].number && heldB x.window x.holds[i].number && btw (x.clock + 1) x.holds[i].untl (x.clock + 3) && (decide (i = 0) || !decide (gp x.window.trail x.holds[i].number ≤ gp x.window.trail (x.holds[i - 1]'(by omega)).number))) := by
  unfold chkH
  rw [List.getElem?_eq_getElem h, List.getElem?_eq_getElem (show i - 1 < x.holds.length by omega)]
def goodSrc (x : Source) : Bool := goodWin x.window && isClk x.clock && btw 0 x.quiet 3 && (List.range x.holds.length).all (chkH x)
theorem goodSrc_no {x : Source} {i : Nat} (h : i < x.holds.length) (hc : chkH x i = false) : goodSrc x = false := by
  have : (List.range x.holds.length).all (chkH x) = false := List.all_eq_false.2 ⟨i, by simpa using h, by simp [hc]⟩
  simp [goodSrc, this]
theorem goodSrc_yes {x : Source} (h1 : goodWin x.window = true) (h2 : isClk x.clock = true) (h3 : btw 0 x.quiet 3 = true) (h : ∀ j, j < x.holds.length → chkH x j = true) : goodSrc x = true := by
  unfold goodSrc
  rw [h1, h2, h3, List.all_eq_true.2 fun j hj => h j (by simpa using hj)]; rfl
set_option maxRecDepth 100000 in
theorem isHeld_f (x : SendWindow) (n : Int) (v : Value) (F : List Nat) (h0 : 0 ≤ x.trail) (h1 : x.trail ≤ 65535) (h2 : 0 ≤ n) (h3 : n ≤ 65535) :
    Fn Tryz.prog 103 [v, .int .i64 n] [.isv ESendWindow v x F] [] (fun (_ : Unit) => True) (fun _ => .bool (heldB x n)) (fun _ => []) := by
  refine enter Tryz.func103 rfl Tryz.ntmps103 fun w0 => ?_
  refine openSendWindow ?_
  rintro a1 c1 F1 rfl l1
  repeat (first | apply c_seq | apply c_reg | (apply wO; apply oc; rfl; exact ydE) | apply w_nil | apply n_cd | (apply wg_t; rfl; rfl) | (apply wg_f; rfl; rfl; rfl; rfl) | (apply wg_u; rfl; rfl; rfl) | (apply c_t; rfl) | (apply c_f; rfl) | apply c_skip | apply c_block | apply n_blk | apply c_exit | apply e_hit | apply e_cd | apply e_lp | (apply e_miss; rfl) | apply c_ret | (apply wO; apply o_box; rfl; rfl; rfl; intro _) | (apply wO; apply o_alloc; rfl; intro _) | (apply wO; apply o_st; rfl; rfl; rfl; (first | exact AggC.s | exact OneC.s); rfl; exact rplE; exact putE; rfl) | (apply wO; apply o_bs0; rfl; intro _) | (apply wO; apply o_bs; rfl; rfl; rfl; rfl; exact rptE; exact filE; intro _) | (apply wO; apply o_call; rfl; kernel_rfl; exact evsE))
  refine d_start [0] [] ?_
  refine dt 0 ?_
  refine dt 1 ?_
  refine dt 2 ?_
  refine dt 4 ?_
  refine dt 5 ?_
  refine dt 6 ?_
  refine dO 3 (by kernel_rfl) (by rw [List.getElem?_toArray]; rfl) ?_
  apply o_call; rfl; kernel_rfl; exact evsE
  refine ce (fun w s => gap_c _ _ _ (by omega) (by omega) (by omega) (by omega)) ?_
  refine dk ?_
  refine dt 7 ?_
  refine dt 8 ?_
  refine dd ?_
  repeat (first | apply c_seq | apply c_reg | (apply wO; apply oc; rfl; exact ydE) | apply w_nil | apply n_cd | (apply wg_t; rfl; rfl) | (apply wg_f; rfl; rfl; rfl; rfl) | (apply wg_u; rfl; rfl; rfl) | (apply c_t; rfl) | (apply c_f; rfl) | apply c_skip | apply c_block | apply n_blk | apply c_exit | apply e_hit | apply e_cd | apply e_lp | (apply e_miss; rfl) | apply c_ret | (apply wO; apply o_box; rfl; rfl; rfl; intro _) | (apply wO; apply o_alloc; rfl; intro _) | (apply wO; apply o_st; rfl; rfl; rfl; (first | exact AggC.s | exact OneC.s); rfl; exact rplE; exact putE; rfl) | (apply wO; apply o_bs0; rfl; intro _) | (apply wO; apply o_bs; rfl; rfl; rfl; rfl; exact rptE; exact filE; intro _) | (apply wO; apply o_call; rfl; kernel_rfl; exact evsE))
  refine ret () trivial rfl
set_option maxRecDepth 100000 in
theorem l9HeldW_f (x : SendWindow) (n : Int) (v : Value) (F : List Nat) (h0 : 0 ≤ x.trail) (h1 : x.trail ≤ 65535) (h2 : -1 ≤ n) (h3 : n ≤ 65536) :
    Fn Tryz.prog 160 [v, .int .i64 n] [.isv ESendWindow v x F] [] (fun (_ : Unit) => True) (fun _ => .bool (heldB x n)) (fun _ => []) := by
  refine enter Tryz.func160 rfl Tryz.ntmps160 fun w0 => ?_
  refine openSendWindow ?_
  rintro a1 c1 F1 rfl l1
  repeat (first | apply c_seq | apply c_reg | (apply wO; apply oc; rfl; exact ydE) | apply w_nil | apply n_cd | (apply wg_t; rfl; rfl) | (apply wg_f; rfl; rfl; rfl; rfl) | (apply wg_u; rfl; rfl; rfl) | (apply c_t; rfl) | (apply c_f; rfl) | apply c_skip | apply c_block | apply n_blk | apply c_exit | apply e_hit | apply e_cd | apply e_lp | (apply e_miss; rfl) | apply c_ret | (apply wO; apply o_box; rfl; rfl; rfl; intro _) | (apply wO; apply o_alloc; rfl; intro _) | (apply wO; apply o_st; rfl; rfl; rfl; (first | exact AggC.s | exact OneC.s); rfl; exact rplE; exact putE; rfl) | (apply wO; apply o_bs0; rfl; intro _) | (apply wO; apply o_bs; rfl; rfl; rfl; rfl; exact rptE; exact filE; intro _) | (apply wO; apply o_call; rfl; kernel_rfl; exact evsE))
  refine d_start [0] [] ?_
  refine dt 0 ?_
  refine dt 1 ?_
  refine dt 2 ?_
  refine dt 4 ?_
  refine dt 5 ?_
  refine dt 6 ?_
  refine dO 3 (by kernel_rfl) (by rw [List.getElem?_toArray]; rfl) ?_
  apply o_call; rfl; kernel_rfl; exact evsE
  refine ce (fun w s => l2Gap_c _ _ _ (by omega) (by omega)) ?_
  refine dk ?_
  refine dt 7 ?_
  refine dt 8 ?_
  refine dd ?_
  repeat (first | apply c_seq | apply c_reg | (apply wO; apply oc; rfl; exact ydE) | apply w_nil | apply n_cd | (apply wg_t; rfl; rfl) | (apply wg_f; rfl; rfl; rfl; rfl) | (apply wg_u; rfl; rfl; rfl) | (apply c_t; rfl) | (apply c_f; rfl) | apply c_skip | apply c_block | apply n_blk | apply c_exit | apply e_hit | apply e_cd | apply e_lp | (apply e_miss; rfl) | apply c_ret | (apply wO; apply o_box; rfl; rfl; rfl; intro _) | (apply wO; apply o_alloc; rfl; intro _) | (apply wO; apply o_st; rfl; rfl; rfl; (first | exact AggC.s | exact OneC.s); rfl; exact rplE; exact putE; rfl) | (apply wO; apply o_bs0; rfl; intro _) | (apply wO; apply o_bs; rfl; rfl; rfl; rfl; exact rptE; exact filE; intro _) | (apply wO; apply o_call; rfl; kernel_rfl; exact evsE))
  refine ret () trivial rfl
theorem l9Held_f (x : SendWindow) (n : Int) (v : Value) (F : List Nat) (h0 : 0 ≤ x.trail) (h1 : x.trail ≤ 65535) (h2 : 0 ≤ n) (h3 : n ≤ 65535) :
    Fn Tryz.prog 160 [v, .int .i64 n] [.isv ESendWindow v x F] [] (fun (_ : Unit) => True) (fun _ => .bool (heldB x n)) (fun _ => []) := l9HeldW_f x n v F h0 h1 (by omega) (by omega)

set_option maxRecDepth 100000 in
theorem IsValidSource_f (x : Source) (v : Value) (F : List Nat) : Fn Tryz.prog 31 [v] [.isv ESource v x F] [] (fun (_ : Unit) => True) (fun _ => .bool (goodSrc x)) (fun _ => []) := by
  refine enter Tryz.func31 rfl Tryz.ntmps31 fun w0 => ?_
  refine openSource ?_
  rintro a1 c1 F1 a2 c2 F2 rfl l1 l2
  unfold maxLen at l1 l2
  refine closeSendWindow x.window ?_
  generalize F1 = F3
  repeat (first | apply c_seq | apply c_reg | (apply wO; apply oc; rfl; exact ydE) | apply w_nil | apply n_cd | (apply wg_t; rfl; rfl) | (apply wg_f; rfl; rfl; rfl; rfl) | (apply wg_u; rfl; rfl; rfl) | (apply c_t; rfl) | (apply c_f; rfl) | apply c_skip | apply c_block | apply n_blk | apply c_exit | apply e_hit | apply e_cd | apply e_lp | (apply e_miss; rfl) | apply c_ret | (apply wO; apply o_box; rfl; rfl; rfl; intro _) | (apply wO; apply o_alloc; rfl; intro _) | (apply wO; apply o_st; rfl; rfl; rfl; (first | exact AggC.s | exact OneC.s); rfl; exact rplE; exact putE; rfl) | (apply wO; apply o_bs0; rfl; intro _) | (apply wO; apply o_bs; rfl; rfl; rfl; rfl; exact rptE; exact filE; intro _) | (apply wO; apply o_call; rfl; kernel_rfl; exact evsE))
  refine cb (fun w st => IsValidSendWindow_c _ x.window _ w (st.get (p := .isv ESendWindow (.agg #[.int .i64 x.window.trail, .int .i64 x.window.size, .slice a1 x.window.items.length c1]) x.window F3) (by simp))) ?_
  cases g1 : goodWin x.window
  · repeat (first | apply c_seq | apply c_reg | (apply wO; apply oc; rfl; exact ydE) | apply w_nil | apply n_cd | (apply wg_t; rfl; rfl) | (apply wg_f; rfl; rfl; rfl; rfl) | (apply wg_u; rfl; rfl; rfl) | (apply c_t; rfl) | (apply c_f; rfl) | apply c_skip | apply c_block | apply n_blk | apply c_exit | apply e_hit | apply e_cd | apply e_lp | (apply e_miss; rfl) | apply c_ret | (apply wO; apply o_box; rfl; rfl; rfl; intro _) | (apply wO; apply o_alloc; rfl; intro _) | (apply wO; apply o_st; rfl; rfl; rfl; (first | exact AggC.s | exact OneC.s); rfl; exact rplE; exact putE; rfl) | (apply wO; apply o_bs0; rfl; intro _) | (apply wO; apply o_bs; rfl; rfl; rfl; rfl; exact rptE; exact filE; intro _) | (apply wO; apply o_call; rfl; kernel_rfl; exact evsE))
    refine ret () trivial ?_
    simp [goodSrc, g1, tup]
  obtain ⟨⟨t0, t1⟩, -⟩ := goodWin_iff.1 g1
  repeat (first | apply c_seq | apply c_reg | (apply wO; apply oc; rfl; exact ydE) | apply w_nil | apply n_cd | (apply wg_t; rfl; rfl) | (apply wg_f; rfl; rfl; rfl; rfl) | (apply wg_u; rfl; rfl; rfl) | (apply c_t; rfl) | (apply c_f; rfl) | apply c_skip | apply c_block | apply n_blk | apply c_exit | apply e_hit | apply e_cd | apply e_lp | (apply e_miss; rfl) | apply c_ret | (apply wO; apply o_box; rfl; rfl; rfl; intro _) | (apply wO; apply o_alloc; rfl; intro _) | (apply wO; apply o_st; rfl; rfl; rfl; (first | exact AggC.s | exact OneC.s); rfl; exact rplE; exact putE; rfl) | (apply wO; apply o_bs0; rfl; intro _) | (apply wO; apply o_bs; rfl; rfl; rfl; rfl; exact rptE; exact filE; intro _) | (apply wO; apply o_call; rfl; kernel_rfl; exact evsE))
  refine ce (fun w s => isClock_c _ _) ?_
  cases g2 : isClk x.clock
  · repeat (first | apply c_seq | apply c_reg | (apply wO; apply oc; rfl; exact ydE) | apply w_nil | apply n_cd | (apply wg_t; rfl; rfl) | (apply wg_f; rfl; rfl; rfl; rfl) | (apply wg_u; rfl; rfl; rfl) | (apply c_t; rfl) | (apply c_f; rfl) | apply c_skip | apply c_block | apply n_blk | apply c_exit | apply e_hit | apply e_cd | apply e_lp | (apply e_miss; rfl) | apply c_ret | (apply wO; apply o_box; rfl; rfl; rfl; intro _) | (apply wO; apply o_alloc; rfl; intro _) | (apply wO; apply o_st; rfl; rfl; rfl; (first | exact AggC.s | exact OneC.s); rfl; exact rplE; exact putE; rfl) | (apply wO; apply o_bs0; rfl; intro _) | (apply wO; apply o_bs; rfl; rfl; rfl; rfl; exact rptE; exact filE; intro _) | (apply wO; apply o_call; rfl; kernel_rfl; exact evsE))
    refine ret () trivial ?_
    simp [goodSrc, g2, tup]
  obtain ⟨k0, k1⟩ := clk_bd g2
  repeat (first | apply c_seq | apply c_reg | (apply wO; apply oc; rfl; exact ydE) | apply w_nil | apply n_cd | (apply wg_t; rfl; rfl) | (apply wg_f; rfl; rfl; rfl; rfl) | (apply wg_u; rfl; rfl; rfl) | (apply c_t; rfl) | (apply c_f; rfl) | apply c_skip | apply c_block | apply n_blk | apply c_exit | apply e_hit | apply e_cd | apply e_lp | (apply e_miss; rfl) | apply c_ret | (apply wO; apply o_box; rfl; rfl; rfl; intro _) | (apply wO; apply o_alloc; rfl; intro _) | (apply wO; apply o_st; rfl; rfl; rfl; (first | exact AggC.s | exact OneC.s); rfl; exact rplE; exact putE; rfl) | (apply wO; apply o_bs0; rfl; intro _) | (apply wO; apply o_bs; rfl; rfl; rfl; rfl; exact rptE; exact filE; intro _) | (apply wO; apply o_call; rfl; kernel_rfl; exact evsE))
  refine ce (fun w s => within_c _ _ _ _) ?_
  cases g3 : btw 0 x.quiet 3
  · repeat (first | apply c_seq | apply c_reg | (apply wO; apply oc; rfl; exact ydE) | apply w_nil | apply n_cd | (apply wg_t; rfl; rfl) | (apply wg_f; rfl; rfl; rfl; rfl) | (apply wg_u; rfl; rfl; rfl) | (apply c_t; rfl) | (apply c_f; rfl) | apply c_skip | apply c_block | apply n_blk | apply c_exit | apply e_hit | apply e_cd | apply e_lp | (apply e_miss; rfl) | apply c_ret | (apply wO; apply o_box; rfl; rfl; rfl; intro _) | (apply wO; apply o_alloc; rfl; intro _) | (apply wO; apply o_st; rfl; rfl; rfl; (first | exact AggC.s | exact OneC.s); rfl; exact rplE; exact putE; rfl) | (apply wO; apply o_bs0; rfl; intro _) | (apply wO; apply o_bs; rfl; rfl; rfl; rfl; exact rptE; exact filE; intro _) | (apply wO; apply o_call; rfl; kernel_rfl; exact evsE))
    refine ret () trivial ?_
    simp [goodSrc, g3, tup]
  repeat (first | apply c_seq | apply c_reg | (apply wO; apply oc; rfl; exact ydE) | apply w_nil | apply n_cd | (apply wg_t; rfl; rfl) | (apply wg_f; rfl; rfl; rfl; rfl) | (apply wg_u; rfl; rfl; rfl) | (apply c_t; rfl) | (apply c_f; rfl) | apply c_skip | apply c_block | apply n_blk | apply c_exit | apply e_hit | apply e_cd | apply e_lp | (apply e_miss; rfl) | apply c_ret | (apply wO; apply o_box; rfl; rfl; rfl; intro _) | (apply wO; apply o_alloc; rfl; intro _) | (apply wO; apply o_st; rfl; rfl; rfl; (first | exact AggC.s | exact OneC.s); rfl; exact rplE; exact putE; rfl) | (apply wO; apply o_bs0; rfl; intro _) | (apply wO; apply o_bs; rfl; rfl; rfl; rfl; exact rptE; exact filE; intro _) | (apply wO; apply o_call; rfl; kernel_rfl; exact evsE))
  refine c_loopR [1, 2, 22, 23] (fun k : Nat => [(24, .int .i64 k)]) (fun k => k ≤ x.holds.length ∧ ∀ j, j < k → chkH x j = true) (fun k => x.holds.length - k) 0 ⟨Nat.zero_le _, fun j h => by omega⟩ fun k hk => ?_
  obtain ⟨hk1, hk2⟩ := hk
  repeat (first | apply c_seq | apply c_reg | (apply wO; apply oc; rfl; exact ydE) | apply w_nil | apply n_cd | (apply wg_t; rfl; rfl) | (apply wg_f; rfl; rfl; rfl; rfl) | (apply wg_u; rfl; rfl; rfl) | (apply c_t; rfl) | (apply c_f; rfl) | apply c_skip | apply c_block | apply n_blk | apply c_exit | apply e_hit | apply e_cd | apply e_lp | (apply e_miss; rfl) | apply c_ret | (apply wO; apply o_box; rfl; rfl; rfl; intro _) | (apply wO; apply o_alloc; rfl; intro _) | (apply wO; apply o_st; rfl; rfl; rfl; (first | exact AggC.s | exact OneC.s); rfl; exact rplE; exact putE; rfl) | (apply wO; apply o_bs0; rfl; intro _) | (apply wO; apply o_bs; rfl; rfl; rfl; rfl; exact rptE; exact filE; intro _) | (apply wO; apply o_call; rfl; kernel_rfl; exact evsE))
  refine c_if rfl (fun h3 => ?_) (fun h3 => ?_)
  · have hk3 : k < x.holds.length := by omega
    have bad : chkH x k = false → goodSrc x = false := fun h => goodSrc_no hk3 h
    have hck := chkH_at hk3
    refine atHold (xs := x.holds) k ?_
    rintro hi b o e
    rw [e]
    repeat (first | apply c_seq | apply c_reg | (apply wO; apply oc; rfl; exact ydE) | apply w_nil | apply n_cd | (apply wg_t; rfl; rfl) | (apply wg_f; rfl; rfl; rfl; rfl) | (apply wg_u; rfl; rfl; rfl) | (apply c_t; rfl) | (apply c_f; rfl) | apply c_skip | apply c_block | apply n_blk | apply c_exit | apply e_hit | apply e_cd | apply e_lp | (apply e_miss; rfl) | apply c_ret | (apply wO; apply o_box; rfl; rfl; rfl; intro _) | (apply wO; apply o_alloc; rfl; intro _) | (apply wO; apply o_st; rfl; rfl; rfl; (first | exact AggC.s | exact OneC.s); rfl; exact rplE; exact putE; rfl) | (apply wO; apply o_bs0; rfl; intro _) | (apply wO; apply o_bs; rfl; rfl; rfl; rfl; exact rptE; exact filE; intro _) | (apply wO; apply o_call; rfl; kernel_rfl; exact evsE))
    refine ce (fun w s => IsSerial_c _ _) ?_
    cases g4 : isSer x.holds[k].number
    · repeat (first | apply c_seq | apply c_reg | (apply wO; apply oc; rfl; exact ydE) | apply w_nil | apply n_cd | (apply wg_t; rfl; rfl) | (apply wg_f; rfl; rfl; rfl; rfl) | (apply wg_u; rfl; rfl; rfl) | (apply c_t; rfl) | (apply c_f; rfl) | apply c_skip | apply c_block | apply n_blk | apply c_exit | apply e_hit | apply e_cd | apply e_lp | (apply e_miss; rfl) | apply c_ret | (apply wO; apply o_box; rfl; rfl; rfl; intro _) | (apply wO; apply o_alloc; rfl; intro _) | (apply wO; apply o_st; rfl; rfl; rfl; (first | exact AggC.s | exact OneC.s); rfl; exact rplE; exact putE; rfl) | (apply wO; apply o_bs0; rfl; intro _) | (apply wO; apply o_bs; rfl; rfl; rfl; rfl; exact rptE; exact filE; intro _) | (apply wO; apply o_call; rfl; kernel_rfl; exact evsE))
      refine ret () trivial ?_
      rw [bad (by rw [hck, g4]; rfl)]; rfl
    obtain ⟨m0, m1⟩ := isSer_iff.1 g4
    repeat (first | apply c_seq | apply c_reg | (apply wO; apply oc; rfl; exact ydE) | apply w_nil | apply n_cd | (apply wg_t; rfl; rfl) | (apply wg_f; rfl; rfl; rfl; rfl) | (apply wg_u; rfl; rfl; rfl) | (apply c_t; rfl) | (apply c_f; rfl) | apply c_skip | apply c_block | apply n_blk | apply c_exit | apply e_hit | apply e_cd | apply e_lp | (apply e_miss; rfl) | apply c_ret | (apply wO; apply o_box; rfl; rfl; rfl; intro _) | (apply wO; apply o_alloc; rfl; intro _) | (apply wO; apply o_st; rfl; rfl; rfl; (first | exact AggC.s | exact OneC.s); rfl; exact rplE; exact putE; rfl) | (apply wO; apply o_bs0; rfl; intro _) | (apply wO; apply o_bs; rfl; rfl; rfl; rfl; exact rptE; exact filE; intro _) | (apply wO; apply o_call; rfl; kernel_rfl; exact evsE))
    refine cb (fun w st => (isHeld_f x.window x.holds[k].number _ _ t0 t1 m0 m1).val w (hol1 (st.get (p := .isv ESendWindow (.agg #[.int .i64 x.window.trail, .int .i64 x.window.size, .slice a1 x.window.items.length c1]) x.window F3) (by simp)))) ?_
    cases g5 : heldB x.window x.holds[k].number
    · repeat (first | apply c_seq | apply c_reg | (apply wO; apply oc; rfl; exact ydE) | apply w_nil | apply n_cd | (apply wg_t; rfl; rfl) | (apply wg_f; rfl; rfl; rfl; rfl) | (apply wg_u; rfl; rfl; rfl) | (apply c_t; rfl) | (apply c_f; rfl) | apply c_skip | apply c_block | apply n_blk | apply c_exit | apply e_hit | apply e_cd | apply e_lp | (apply e_miss; rfl) | apply c_ret | (apply wO; apply o_box; rfl; rfl; rfl; intro _) | (apply wO; apply o_alloc; rfl; intro _) | (apply wO; apply o_st; rfl; rfl; rfl; (first | exact AggC.s | exact OneC.s); rfl; exact rplE; exact putE; rfl) | (apply wO; apply o_bs0; rfl; intro _) | (apply wO; apply o_bs; rfl; rfl; rfl; rfl; exact rptE; exact filE; intro _) | (apply wO; apply o_call; rfl; kernel_rfl; exact evsE))
      refine ret () trivial ?_
      rw [bad (by rw [hck, g4, g5]; rfl)]; rfl
    repeat (first | apply c_seq | apply c_reg | (apply wO; apply oc; rfl; exact ydE) | apply w_nil | apply n_cd | (apply wg_t; rfl; rfl) | (apply wg_f; rfl; rfl; rfl; rfl) | (apply wg_u; rfl; rfl; rfl) | (apply c_t; rfl) | (apply c_f; rfl) | apply c_skip | apply c_block | apply n_blk | apply c_exit | apply e_hit | apply e_cd | apply e_lp | (apply e_miss; rfl) | apply c_ret | (apply wO; apply o_box; rfl; rfl; rfl; intro _) | (apply wO; apply o_alloc; rfl; intro _) | (apply wO; apply o_st; rfl; rfl; rfl; (first | exact AggC.s | exact OneC.s); rfl; exact rplE; exact putE; rfl) | (apply wO; apply o_bs0; rfl; intro _) | (apply wO; apply o_bs; rfl; rfl; rfl; rfl; exact rptE; exact filE; intro _) | (apply wO; apply o_call; rfl; kernel_rfl; exact evsE))
    refine ce (fun w s => within_c _ _ _ _) ?_
    cases g6 : btw (x.clock + 1) x.holds[k].untl (x.clock + 3)
    · repeat (first | apply c_seq | apply c_reg | (apply wO; apply oc; rfl; exact ydE) | apply w_nil | apply n_cd | (apply wg_t; rfl; rfl) | (apply wg_f; rfl; rfl; rfl; rfl) | (apply wg_u; rfl; rfl; rfl) | (apply c_t; rfl) | (apply c_f; rfl) | apply c_skip | apply c_block | apply n_blk | apply c_exit | apply e_hit | apply e_cd | apply e_lp | (apply e_miss; rfl) | apply c_ret | (apply wO; apply o_box; rfl; rfl; rfl; intro _) | (apply wO; apply o_alloc; rfl; intro _) | (apply wO; apply o_st; rfl; rfl; rfl; (first | exact AggC.s | exact OneC.s); rfl; exact rplE; exact putE; rfl) | (apply wO; apply o_bs0; rfl; intro _) | (apply wO; apply o_bs; rfl; rfl; rfl; rfl; exact rptE; exact filE; intro _) | (apply wO; apply o_call; rfl; kernel_rfl; exact evsE))
      refine ret () trivial ?_
      rw [bad (by rw [hck, g4, g5, g6]; rfl)]; rfl
    repeat (first | apply c_seq | apply c_reg | (apply wO; apply oc; rfl; exact ydE) | apply w_nil | apply n_cd | (apply wg_t; rfl; rfl) | (apply wg_f; rfl; rfl; rfl; rfl) | (apply wg_u; rfl; rfl; rfl) | (apply c_t; rfl) | (apply c_f; rfl) | apply c_skip | apply c_block | apply n_blk | apply c_exit | apply e_hit | apply e_cd | apply e_lp | (apply e_miss; rfl) | apply c_ret | (apply wO; apply o_box; rfl; rfl; rfl; intro _) | (apply wO; apply o_alloc; rfl; intro _) | (apply wO; apply o_st; rfl; rfl; rfl; (first | exact AggC.s | exact OneC.s); rfl; exact rplE; exact putE; rfl) | (apply wO; apply o_bs0; rfl; intro _) | (apply wO; apply o_bs; rfl; rfl; rfl; rfl; exact rptE; exact filE; intro _) | (apply wO; apply o_call; rfl; kernel_rfl; exact evsE))
    by_cases hk0 : 0 < k
    · have hk4 : k - 1 < x.holds.length := by omega
      have hp := hk2 (k - 1) (by omega)
      rw [chkH_at hk4] at hp
      simp only [Bool.and_eq_true] at hp
      obtain ⟨p0, p1⟩ := isSer_iff.1 hp.1.1.1
      rw [← e]
      refine atHold (xs := x.holds) (k - 1) ?_
      rintro hi5 b5 o5 e5
      rw [e5]
      refine d_start [0, 1, 3] [] ?_
      refine dt 0 ?_
      refine dt 1 ?_
      rw [decide_eq_true (show (0 : Int) < k by omega)]
      refine dt 2 ?_
      refine dtg 3 ?_
      refine dtg 4 ?_
      refine dtg 5 ?_
      refine dtg 6 ?_
      refine dtg 7 ?_
      refine dtg 8 ?_
      refine dtg 9 ?_
      rw [show (k : Int) - 1 = ((k - 1 : Nat) : Int) by omega]
      refine dtg 10 ?_
      refine dtg 11 ?_
      refine dtg 12 ?_
      refine dtg 14 ?_
      refine dtg 15 ?_
      refine dtg 16 ?_
      refine dtg 17 ?_
      refine dtg 18 ?_
      refine d1g 13 ?_
      apply On.h
      apply o_call; rfl; kernel_rfl; exact evsE
      refine ce (fun w s => gap_c _ _ _ (by omega) (by omega) (by omega) (by omega)) ?_
      refine dk ?_
      refine d1g 19 ?_
      apply On.h
      apply o_call; rfl; kernel_rfl; exact evsE
      refine ce (fun w s => gap_c _ _ _ (by omega) (by omega) (by omega) (by omega)) ?_
      refine dk ?_
      refine dtg 20 ?_
      refine dt 21 ?_
      refine dd ?_
      repeat (first | apply c_seq | apply c_reg | (apply wO; apply oc; rfl; exact ydE) | apply w_nil | apply n_cd | (apply wg_t; rfl; rfl) | (apply wg_f; rfl; rfl; rfl; rfl) | (apply wg_u; rfl; rfl; rfl) | (apply c_t; rfl) | (apply c_f; rfl) | apply c_skip | apply c_block | apply n_blk | apply c_exit | apply e_hit | apply e_cd | apply e_lp | (apply e_miss; rfl) | apply c_ret | (apply wO; apply o_box; rfl; rfl; rfl; intro _) | (apply wO; apply o_alloc; rfl; intro _) | (apply wO; apply o_st; rfl; rfl; rfl; (first | exact AggC.s | exact OneC.s); rfl; exact rplE; exact putE; rfl) | (apply wO; apply o_bs0; rfl; intro _) | (apply wO; apply o_bs; rfl; rfl; rfl; rfl; exact rptE; exact filE; intro _) | (apply wO; apply o_call; rfl; kernel_rfl; exact evsE))
      refine c_if rfl (fun h6 => ?_) (fun h6 => ?_)
      · repeat (first | apply c_seq | apply c_reg | (apply wO; apply oc; rfl; exact ydE) | apply w_nil | apply n_cd | (apply wg_t; rfl; rfl) | (apply wg_f; rfl; rfl; rfl; rfl) | (apply wg_u; rfl; rfl; rfl) | (apply c_t; rfl) | (apply c_f; rfl) | apply c_skip | apply c_block | apply n_blk | apply c_exit | apply e_hit | apply e_cd | apply e_lp | (apply e_miss; rfl) | apply c_ret | (apply wO; apply o_box; rfl; rfl; rfl; intro _) | (apply wO; apply o_alloc; rfl; intro _) | (apply wO; apply o_st; rfl; rfl; rfl; (first | exact AggC.s | exact OneC.s); rfl; exact rplE; exact putE; rfl) | (apply wO; apply o_bs0; rfl; intro _) | (apply wO; apply o_bs; rfl; rfl; rfl; rfl; exact rptE; exact filE; intro _) | (apply wO; apply o_call; rfl; kernel_rfl; exact evsE))
        refine ret () trivial ?_
        rw [bad (by rw [hck, decide_eq_true h6, decide_eq_false (show ¬ k = 0 by omega)]; simp)]; rfl
      · repeat (first | apply c_seq | apply c_reg | (apply wO; apply oc; rfl; exact ydE) | apply w_nil | apply n_cd | (apply wg_t; rfl; rfl) | (apply wg_f; rfl; rfl; rfl; rfl) | (apply wg_u; rfl; rfl; rfl) | (apply c_t; rfl) | (apply c_f; rfl) | apply c_skip | apply c_block | apply n_blk | apply c_exit | apply e_hit | apply e_cd | apply e_lp | (apply e_miss; rfl) | apply c_ret | (apply wO; apply o_box; rfl; rfl; rfl; intro _) | (apply wO; apply o_alloc; rfl; intro _) | (apply wO; apply o_st; rfl; rfl; rfl; (first | exact AggC.s | exact OneC.s); rfl; exact rplE; exact putE; rfl) | (apply wO; apply o_bs0; rfl; intro _) | (apply wO; apply o_bs; rfl; rfl; rfl; rfl; exact rptE; exact filE; intro _) | (apply wO; apply o_call; rfl; kernel_rfl; exact evsE))
        refine n_lp (k + 1) ⟨by omega, fun j hj => ?_⟩ (by omega)
        rcases Nat.lt_or_eq_of_le (Nat.lt_succ_iff.1 hj) with h | rfl
        · exact hk2 j h
        · rw [hck, g4, g5, g6, decide_eq_false h6]; simp
    · have hz : k = 0 := by omega
      refine d_start [0, 2] [] ?_
      refine dt 0 ?_
      refine dt 1 ?_
      rw [decide_eq_false (show ¬ (0 : Int) < k by omega)]
      refine dt 2 ?_
      refine ds 3 ?_
      refine ds 4 ?_
      refine ds 5 ?_
      refine ds 6 ?_
      refine ds 7 ?_
      refine ds 8 ?_
      refine ds 9 ?_
      refine ds 10 ?_
      refine ds 11 ?_
      refine ds 12 ?_
      refine ds 13 ?_
      refine ds 14 ?_
      refine ds 15 ?_
      refine ds 16 ?_
      refine ds 17 ?_
      refine ds 18 ?_
      refine ds 19 ?_
      refine ds 20 ?_
      refine dt 21 ?_
      refine dd ?_
      repeat (first | apply c_seq | apply c_reg | (apply wO; apply oc; rfl; exact ydE) | apply w_nil | apply n_cd | (apply wg_t; rfl; rfl) | (apply wg_f; rfl; rfl; rfl; rfl) | (apply wg_u; rfl; rfl; rfl) | (apply c_t; rfl) | (apply c_f; rfl) | apply c_skip | apply c_block | apply n_blk | apply c_exit | apply e_hit | apply e_cd | apply e_lp | (apply e_miss; rfl) | apply c_ret | (apply wO; apply o_box; rfl; rfl; rfl; intro _) | (apply wO; apply o_alloc; rfl; intro _) | (apply wO; apply o_st; rfl; rfl; rfl; (first | exact AggC.s | exact OneC.s); rfl; exact rplE; exact putE; rfl) | (apply wO; apply o_bs0; rfl; intro _) | (apply wO; apply o_bs; rfl; rfl; rfl; rfl; exact rptE; exact filE; intro _) | (apply wO; apply o_call; rfl; kernel_rfl; exact evsE))
      refine n_lp (k + 1) ⟨by omega, fun j hj => ?_⟩ (by omega)
      rcases Nat.lt_or_eq_of_le (Nat.lt_succ_iff.1 hj) with h | rfl
      · exact hk2 j h
      · rw [hck, g4, g5, g6, decide_eq_true hz]; simp
  have hkl : k = x.holds.length := by omega
  repeat (first | apply c_seq | apply c_reg | (apply wO; apply oc; rfl; exact ydE) | apply w_nil | apply n_cd | (apply wg_t; rfl; rfl) | (apply wg_f; rfl; rfl; rfl; rfl) | (apply wg_u; rfl; rfl; rfl) | (apply c_t; rfl) | (apply c_f; rfl) | apply c_skip | apply c_block | apply n_blk | apply c_exit | apply e_hit | apply e_cd | apply e_lp | (apply e_miss; rfl) | apply c_ret | (apply wO; apply o_box; rfl; rfl; rfl; intro _) | (apply wO; apply o_alloc; rfl; intro _) | (apply wO; apply o_st; rfl; rfl; rfl; (first | exact AggC.s | exact OneC.s); rfl; exact rplE; exact putE; rfl) | (apply wO; apply o_bs0; rfl; intro _) | (apply wO; apply o_bs; rfl; rfl; rfl; rfl; exact rptE; exact filE; intro _) | (apply wO; apply o_call; rfl; kernel_rfl; exact evsE))
  refine ret () trivial ?_
  rw [goodSrc_yes g1 g2 g3 (hkl ▸ hk2)]; rfl
end Go.Proofs.YtidephmobajikaaGreatDoor
/- Sources: the check of the reference. -/
namespace Go.Proofs.YtidephmobajikaaGreatDoor
open Go.RowKit
set_option maxRecDepth 100000 in
theorem l11Good_f (x : Source) (v : Value) (F : List Nat) : Fn Tryz.prog 97 [v] [.isv ESource v x F] [] (fun (_ : Unit) => True) (fun _ => .bool (goodSrc x)) (fun _ => []) := by
  refine enter Tryz.func97 rfl Tryz.ntmps97 fun w0 => ?_
  refine openSource ?_
  rintro a1 c1 F1 a2 c2 F2 rfl l1 l2
  unfold maxLen at l1 l2
  refine closeSendWindow x.window ?_
  generalize F1 = F3
  repeat (first | apply c_seq | apply c_reg | (apply wO; apply oc; rfl; exact ydE) | apply w_nil | apply n_cd | (apply wg_t; rfl; rfl) | (apply wg_f; rfl; rfl; rfl; rfl) | (apply wg_u; rfl; rfl; rfl) | (apply c_t; rfl) | (apply c_f; rfl) | apply c_skip | apply c_block | apply n_blk | apply c_exit | apply e_hit | apply e_cd | apply e_lp | (apply e_miss; rfl) | apply c_ret | (apply wO; apply o_box; rfl; rfl; rfl; intro _) | (apply wO; apply o_alloc; rfl; intro _) | (apply wO; apply o_st; rfl; rfl; rfl; (first | exact AggC.s | exact OneC.s); rfl; exact rplE; exact putE; rfl) | (apply wO; apply o_bs0; rfl; intro _) | (apply wO; apply o_bs; rfl; rfl; rfl; rfl; exact rptE; exact filE; intro _) | (apply wO; apply o_call; rfl; kernel_rfl; exact evsE))
  refine cb (fun w st => l9Good_c _ x.window _ w (st.get (p := .isv ESendWindow (.agg #[.int .i64 x.window.trail, .int .i64 x.window.size, .slice a1 x.window.items.length c1]) x.window F3) (by simp))) ?_
  cases g1 : goodWin x.window
  · repeat (first | apply c_seq | apply c_reg | (apply wO; apply oc; rfl; exact ydE) | apply w_nil | apply n_cd | (apply wg_t; rfl; rfl) | (apply wg_f; rfl; rfl; rfl; rfl) | (apply wg_u; rfl; rfl; rfl) | (apply c_t; rfl) | (apply c_f; rfl) | apply c_skip | apply c_block | apply n_blk | apply c_exit | apply e_hit | apply e_cd | apply e_lp | (apply e_miss; rfl) | apply c_ret | (apply wO; apply o_box; rfl; rfl; rfl; intro _) | (apply wO; apply o_alloc; rfl; intro _) | (apply wO; apply o_st; rfl; rfl; rfl; (first | exact AggC.s | exact OneC.s); rfl; exact rplE; exact putE; rfl) | (apply wO; apply o_bs0; rfl; intro _) | (apply wO; apply o_bs; rfl; rfl; rfl; rfl; exact rptE; exact filE; intro _) | (apply wO; apply o_call; rfl; kernel_rfl; exact evsE))
    refine ret () trivial ?_
    simp [goodSrc, g1, tup]
  obtain ⟨⟨t0, t1⟩, -⟩ := goodWin_iff.1 g1
  repeat (first | apply c_seq | apply c_reg | (apply wO; apply oc; rfl; exact ydE) | apply w_nil | apply n_cd | (apply wg_t; rfl; rfl) | (apply wg_f; rfl; rfl; rfl; rfl) | (apply wg_u; rfl; rfl; rfl) | (apply c_t; rfl) | (apply c_f; rfl) | apply c_skip | apply c_block | apply n_blk | apply c_exit | apply e_hit | apply e_cd | apply e_lp | (apply e_miss; rfl) | apply c_ret | (apply wO; apply o_box; rfl; rfl; rfl; intro _) | (apply wO; apply o_alloc; rfl; intro _) | (apply wO; apply o_st; rfl; rfl; rfl; (first | exact AggC.s | exact OneC.s); rfl; exact rplE; exact putE; rfl) | (apply wO; apply o_bs0; rfl; intro _) | (apply wO; apply o_bs; rfl; rfl; rfl; rfl; exact rptE; exact filE; intro _) | (apply wO; apply o_call; rfl; kernel_rfl; exact evsE))
  refine ce (fun w s => l11Clock_c _ _) ?_
  cases g2 : isClk x.clock
  · repeat (first | apply c_seq | apply c_reg | (apply wO; apply oc; rfl; exact ydE) | apply w_nil | apply n_cd | (apply wg_t; rfl; rfl) | (apply wg_f; rfl; rfl; rfl; rfl) | (apply wg_u; rfl; rfl; rfl) | (apply c_t; rfl) | (apply c_f; rfl) | apply c_skip | apply c_block | apply n_blk | apply c_exit | apply e_hit | apply e_cd | apply e_lp | (apply e_miss; rfl) | apply c_ret | (apply wO; apply o_box; rfl; rfl; rfl; intro _) | (apply wO; apply o_alloc; rfl; intro _) | (apply wO; apply o_st; rfl; rfl; rfl; (first | exact AggC.s | exact OneC.s); rfl; exact rplE; exact putE; rfl) | (apply wO; apply o_bs0; rfl; intro _) | (apply wO; apply o_bs; rfl; rfl; rfl; rfl; exact rptE; exact filE; intro _) | (apply wO; apply o_call; rfl; kernel_rfl; exact evsE))
    refine ret () trivial ?_
    simp [goodSrc, g2, tup]
  obtain ⟨k0, k1⟩ := clk_bd g2
  repeat (first | apply c_seq | apply c_reg | (apply wO; apply oc; rfl; exact ydE) | apply w_nil | apply n_cd | (apply wg_t; rfl; rfl) | (apply wg_f; rfl; rfl; rfl; rfl) | (apply wg_u; rfl; rfl; rfl) | (apply c_t; rfl) | (apply c_f; rfl) | apply c_skip | apply c_block | apply n_blk | apply c_exit | apply e_hit | apply e_cd | apply e_lp | (apply e_miss; rfl) | apply c_ret | (apply wO; apply o_box; rfl; rfl; rfl; intro _) | (apply wO; apply o_alloc; rfl; intro _) | (apply wO; apply o_st; rfl; rfl; rfl; (first | exact AggC.s | exact OneC.s); rfl; exact rplE; exact putE; rfl) | (apply wO; apply o_bs0; rfl; intro _) | (apply wO; apply o_bs; rfl; rfl; rfl; rfl; exact rptE; exact filE; intro _) | (apply wO; apply o_call; rfl; kernel_rfl; exact evsE))
  refine ce (fun w s => l1In_c _ _ _ _) ?_
  cases g3 : btw 0 x.quiet 3
  · repeat (first | apply c_seq | apply c_reg | (apply wO; apply oc; rfl; exact ydE) | apply w_nil | apply n_cd | (apply wg_t; rfl; rfl) | (apply wg_f; rfl; rfl; rfl; rfl) | (apply wg_u; rfl; rfl; rfl) | (apply c_t; rfl) | (apply c_f; rfl) | apply c_skip | apply c_block | apply n_blk | apply c_exit | apply e_hit | apply e_cd | apply e_lp | (apply e_miss; rfl) | apply c_ret | (apply wO; apply o_box; rfl; rfl; rfl; intro _) | (apply wO; apply o_alloc; rfl; intro _) | (apply wO; apply o_st; rfl; rfl; rfl; (first | exact AggC.s | exact OneC.s); rfl; exact rplE; exact putE; rfl) | (apply wO; apply o_bs0; rfl; intro _) | (apply wO; apply o_bs; rfl; rfl; rfl; rfl; exact rptE; exact filE; intro _) | (apply wO; apply o_call; rfl; kernel_rfl; exact evsE))
    refine ret () trivial ?_
    simp [goodSrc, g3, tup]
  repeat (first | apply c_seq | apply c_reg | (apply wO; apply oc; rfl; exact ydE) | apply w_nil | apply n_cd | (apply wg_t; rfl; rfl) | (apply wg_f; rfl; rfl; rfl; rfl) | (apply wg_u; rfl; rfl; rfl) | (apply c_t; rfl) | (apply c_f; rfl) | apply c_skip | apply c_block | apply n_blk | apply c_exit | apply e_hit | apply e_cd | apply e_lp | (apply e_miss; rfl) | apply c_ret | (apply wO; apply o_box; rfl; rfl; rfl; intro _) | (apply wO; apply o_alloc; rfl; intro _) | (apply wO; apply o_st; rfl; rfl; rfl; (first | exact AggC.s | exact OneC.s); rfl; exact rplE; exact putE; rfl) | (apply wO; apply o_bs0; rfl; intro _) | (apply wO; apply o_bs; rfl; rfl; rfl; rfl; exact rptE; exact filE; intro _) | (apply wO; apply o_call; rfl; kernel_rfl; exact evsE))
  refine c_loopR [1, 2] (fun k : Nat => [(3, .int .i64 k)]) (fun k => k ≤ x.holds.length ∧ ∀ j, j < k → chkH x j = true) (fun k => x.holds.length - k) 0 ⟨Nat.zero_le _, fun j h => by omega⟩ fun k hk => ?_
  obtain ⟨hk1, hk2⟩ := hk
  repeat (first | apply c_seq | apply c_reg | (apply wO; apply oc; rfl; exact ydE) | apply w_nil | apply n_cd | (apply wg_t; rfl; rfl) | (apply wg_f; rfl; rfl; rfl; rfl) | (apply wg_u; rfl; rfl; rfl) | (apply c_t; rfl) | (apply c_f; rfl) | apply c_skip | apply c_block | apply n_blk | apply c_exit | apply e_hit | apply e_cd | apply e_lp | (apply e_miss; rfl) | apply c_ret | (apply wO; apply o_box; rfl; rfl; rfl; intro _) | (apply wO; apply o_alloc; rfl; intro _) | (apply wO; apply o_st; rfl; rfl; rfl; (first | exact AggC.s | exact OneC.s); rfl; exact rplE; exact putE; rfl) | (apply wO; apply o_bs0; rfl; intro _) | (apply wO; apply o_bs; rfl; rfl; rfl; rfl; exact rptE; exact filE; intro _) | (apply wO; apply o_call; rfl; kernel_rfl; exact evsE))
  refine c_if rfl (fun h3 => ?_) (fun h3 => ?_)
  · have hk3 : k < x.holds.length := by omega
    have bad : chkH x k = false → goodSrc x = false := fun h => goodSrc_no hk3 h
    have hck := chkH_at hk3
    refine atHold (xs := x.holds) k ?_
    rintro hi b o e
    rw [e]
    repeat (first | apply c_seq | apply c_reg | (apply wO; apply oc; rfl; exact ydE) | apply w_nil | apply n_cd | (apply wg_t; rfl; rfl) | (apply wg_f; rfl; rfl; rfl; rfl) | (apply wg_u; rfl; rfl; rfl) | (apply c_t; rfl) | (apply c_f; rfl) | apply c_skip | apply c_block | apply n_blk | apply c_exit | apply e_hit | apply e_cd | apply e_lp | (apply e_miss; rfl) | apply c_ret | (apply wO; apply o_box; rfl; rfl; rfl; intro _) | (apply wO; apply o_alloc; rfl; intro _) | (apply wO; apply o_st; rfl; rfl; rfl; (first | exact AggC.s | exact OneC.s); rfl; exact rplE; exact putE; rfl) | (apply wO; apply o_bs0; rfl; intro _) | (apply wO; apply o_bs; rfl; rfl; rfl; rfl; exact rptE; exact filE; intro _) | (apply wO; apply o_call; rfl; kernel_rfl; exact evsE))
    refine ce (fun w s => l2Good_c _ _) ?_
    cases g4 : isSer x.holds[k].number
    · repeat (first | apply c_seq | apply c_reg | (apply wO; apply oc; rfl; exact ydE) | apply w_nil | apply n_cd | (apply wg_t; rfl; rfl) | (apply wg_f; rfl; rfl; rfl; rfl) | (apply wg_u; rfl; rfl; rfl) | (apply c_t; rfl) | (apply c_f; rfl) | apply c_skip | apply c_block | apply n_blk | apply c_exit | apply e_hit | apply e_cd | apply e_lp | (apply e_miss; rfl) | apply c_ret | (apply wO; apply o_box; rfl; rfl; rfl; intro _) | (apply wO; apply o_alloc; rfl; intro _) | (apply wO; apply o_st; rfl; rfl; rfl; (first | exact AggC.s | exact OneC.s); rfl; exact rplE; exact putE; rfl) | (apply wO; apply o_bs0; rfl; intro _) | (apply wO; apply o_bs; rfl; rfl; rfl; rfl; exact rptE; exact filE; intro _) | (apply wO; apply o_call; rfl; kernel_rfl; exact evsE))
      refine ret () trivial ?_
      rw [bad (by rw [hck, g4]; rfl)]; rfl
    obtain ⟨m0, m1⟩ := isSer_iff.1 g4
    repeat (first | apply c_seq | apply c_reg | (apply wO; apply oc; rfl; exact ydE) | apply w_nil | apply n_cd | (apply wg_t; rfl; rfl) | (apply wg_f; rfl; rfl; rfl; rfl) | (apply wg_u; rfl; rfl; rfl) | (apply c_t; rfl) | (apply c_f; rfl) | apply c_skip | apply c_block | apply n_blk | apply c_exit | apply e_hit | apply e_cd | apply e_lp | (apply e_miss; rfl) | apply c_ret | (apply wO; apply o_box; rfl; rfl; rfl; intro _) | (apply wO; apply o_alloc; rfl; intro _) | (apply wO; apply o_st; rfl; rfl; rfl; (first | exact AggC.s | exact OneC.s); rfl; exact rplE; exact putE; rfl) | (apply wO; apply o_bs0; rfl; intro _) | (apply wO; apply o_bs; rfl; rfl; rfl; rfl; exact rptE; exact filE; intro _) | (apply wO; apply o_call; rfl; kernel_rfl; exact evsE))
    refine cb (fun w st => (l9Held_f x.window x.holds[k].number _ _ t0 t1 m0 m1).val w (hol1 (st.get (p := .isv ESendWindow (.agg #[.int .i64 x.window.trail, .int .i64 x.window.size, .slice a1 x.window.items.length c1]) x.window F3) (by simp)))) ?_
    cases g5 : heldB x.window x.holds[k].number
    · repeat (first | apply c_seq | apply c_reg | (apply wO; apply oc; rfl; exact ydE) | apply w_nil | apply n_cd | (apply wg_t; rfl; rfl) | (apply wg_f; rfl; rfl; rfl; rfl) | (apply wg_u; rfl; rfl; rfl) | (apply c_t; rfl) | (apply c_f; rfl) | apply c_skip | apply c_block | apply n_blk | apply c_exit | apply e_hit | apply e_cd | apply e_lp | (apply e_miss; rfl) | apply c_ret | (apply wO; apply o_box; rfl; rfl; rfl; intro _) | (apply wO; apply o_alloc; rfl; intro _) | (apply wO; apply o_st; rfl; rfl; rfl; (first | exact AggC.s | exact OneC.s); rfl; exact rplE; exact putE; rfl) | (apply wO; apply o_bs0; rfl; intro _) | (apply wO; apply o_bs; rfl; rfl; rfl; rfl; exact rptE; exact filE; intro _) | (apply wO; apply o_call; rfl; kernel_rfl; exact evsE))
      refine ret () trivial ?_
      rw [bad (by rw [hck, g4, g5]; rfl)]; rfl
    repeat (first | apply c_seq | apply c_reg | (apply wO; apply oc; rfl; exact ydE) | apply w_nil | apply n_cd | (apply wg_t; rfl; rfl) | (apply wg_f; rfl; rfl; rfl; rfl) | (apply wg_u; rfl; rfl; rfl) | (apply c_t; rfl) | (apply c_f; rfl) | apply c_skip | apply c_block | apply n_blk | apply c_exit | apply e_hit | apply e_cd | apply e_lp | (apply e_miss; rfl) | apply c_ret | (apply wO; apply o_box; rfl; rfl; rfl; intro _) | (apply wO; apply o_alloc; rfl; intro _) | (apply wO; apply o_st; rfl; rfl; rfl; (first | exact AggC.s | exact OneC.s); rfl; exact rplE; exact putE; rfl) | (apply wO; apply o_bs0; rfl; intro _) | (apply wO; apply o_bs; rfl; rfl; rfl; rfl; exact rptE; exact filE; intro _) | (apply wO; apply o_call; rfl; kernel_rfl; exact evsE))
    refine ce (fun w s => l1In_c _ _ _ _) ?_
    cases g6 : btw (x.clock + 1) x.holds[k].untl (x.clock + 3)
    · repeat (first | apply c_seq | apply c_reg | (apply wO; apply oc; rfl; exact ydE) | apply w_nil | apply n_cd | (apply wg_t; rfl; rfl) | (apply wg_f; rfl; rfl; rfl; rfl) | (apply wg_u; rfl; rfl; rfl) | (apply c_t; rfl) | (apply c_f; rfl) | apply c_skip | apply c_block | apply n_blk | apply c_exit | apply e_hit | apply e_cd | apply e_lp | (apply e_miss; rfl) | apply c_ret | (apply wO; apply o_box; rfl; rfl; rfl; intro _) | (apply wO; apply o_alloc; rfl; intro _) | (apply wO; apply o_st; rfl; rfl; rfl; (first | exact AggC.s | exact OneC.s); rfl; exact rplE; exact putE; rfl) | (apply wO; apply o_bs0; rfl; intro _) | (apply wO; apply o_bs; rfl; rfl; rfl; rfl; exact rptE; exact filE; intro _) | (apply wO; apply o_call; rfl; kernel_rfl; exact evsE))
      refine ret () trivial ?_
      rw [bad (by rw [hck, g4, g5, g6]; rfl)]; rfl
    repeat (first | apply c_seq | apply c_reg | (apply wO; apply oc; rfl; exact ydE) | apply w_nil | apply n_cd | (apply wg_t; rfl; rfl) | (apply wg_f; rfl; rfl; rfl; rfl) | (apply wg_u; rfl; rfl; rfl) | (apply c_t; rfl) | (apply c_f; rfl) | apply c_skip | apply c_block | apply n_blk | apply c_exit | apply e_hit | apply e_cd | apply e_lp | (apply e_miss; rfl) | apply c_ret | (apply wO; apply o_box; rfl; rfl; rfl; intro _) | (apply wO; apply o_alloc; rfl; intro _) | (apply wO; apply o_st; rfl; rfl; rfl; (first | exact AggC.s | exact OneC.s); rfl; exact rplE; exact putE; rfl) | (apply wO; apply o_bs0; rfl; intro _) | (apply wO; apply o_bs; rfl; rfl; rfl; rfl; exact rptE; exact filE; intro _) | (apply wO; apply o_call; rfl; kernel_rfl; exact evsE))
    by_cases hk0 : 0 < k
    · have hk4 : k - 1 < x.holds.length := by omega
      have hp := hk2 (k - 1) (by omega)
      rw [chkH_at hk4] at hp
      simp only [Bool.and_eq_true] at hp
      obtain ⟨p0, p1⟩ := isSer_iff.1 hp.1.1.1
      rw [← e]
      refine atHold (xs := x.holds) (k - 1) ?_
      rintro hi5 b5 o5 e5
      rw [e5]
      refine d_start [0, 1, 3] [] ?_
      refine dt 0 ?_
      refine dt 1 ?_
      rw [decide_eq_true (show (0 : Int) < k by omega)]
      refine dt 2 ?_
      refine dtg 3 ?_
      refine dtg 4 ?_
      refine dtg 5 ?_
      refine dtg 6 ?_
      refine dtg 7 ?_
      refine dtg 8 ?_
      refine dtg 9 ?_
      rw [show (k : Int) - 1 = ((k - 1 : Nat) : Int) by omega]
      refine dtg 10 ?_
      refine dtg 11 ?_
      refine dtg 12 ?_
      refine dtg 14 ?_
      refine dtg 15 ?_
      refine dtg 16 ?_
      refine dtg 17 ?_
      refine dtg 18 ?_
      refine d1g 13 ?_
      apply On.h
      apply o_call; rfl; kernel_rfl; exact evsE
      refine ce (fun w s => l2Gap_c _ _ _ (by omega) (by omega)) ?_
      refine dk ?_
      refine d1g 19 ?_
      apply On.h
      apply o_call; rfl; kernel_rfl; exact evsE
      refine ce (fun w s => l2Gap_c _ _ _ (by omega) (by omega)) ?_
      refine dk ?_
      refine dtg 20 ?_
      refine dt 21 ?_
      refine dd ?_
      repeat (first | apply c_seq | apply c_reg | (apply wO; apply oc; rfl; exact ydE) | apply w_nil | apply n_cd | (apply wg_t; rfl; rfl) | (apply wg_f; rfl; rfl; rfl; rfl) | (apply wg_u; rfl; rfl; rfl) | (apply c_t; rfl) | (apply c_f; rfl) | apply c_skip | apply c_block | apply n_blk | apply c_exit | apply e_hit | apply e_cd | apply e_lp | (apply e_miss; rfl) | apply c_ret | (apply wO; apply o_box; rfl; rfl; rfl; intro _) | (apply wO; apply o_alloc; rfl; intro _) | (apply wO; apply o_st; rfl; rfl; rfl; (first | exact AggC.s | exact OneC.s); rfl; exact rplE; exact putE; rfl) | (apply wO; apply o_bs0; rfl; intro _) | (apply wO; apply o_bs; rfl; rfl; rfl; rfl; exact rptE; exact filE; intro _) | (apply wO; apply o_call; rfl; kernel_rfl; exact evsE))
      refine c_if rfl (fun h6 => ?_) (fun h6 => ?_)
      · repeat (first | apply c_seq | apply c_reg | (apply wO; apply oc; rfl; exact ydE) | apply w_nil | apply n_cd | (apply wg_t; rfl; rfl) | (apply wg_f; rfl; rfl; rfl; rfl) | (apply wg_u; rfl; rfl; rfl) | (apply c_t; rfl) | (apply c_f; rfl) | apply c_skip | apply c_block | apply n_blk | apply c_exit | apply e_hit | apply e_cd | apply e_lp | (apply e_miss; rfl) | apply c_ret | (apply wO; apply o_box; rfl; rfl; rfl; intro _) | (apply wO; apply o_alloc; rfl; intro _) | (apply wO; apply o_st; rfl; rfl; rfl; (first | exact AggC.s | exact OneC.s); rfl; exact rplE; exact putE; rfl) | (apply wO; apply o_bs0; rfl; intro _) | (apply wO; apply o_bs; rfl; rfl; rfl; rfl; exact rptE; exact filE; intro _) | (apply wO; apply o_call; rfl; kernel_rfl; exact evsE))
        refine ret () trivial ?_
        rw [bad (by rw [hck, decide_eq_true h6, decide_eq_false (show ¬ k = 0 by omega)]; simp)]; rfl
      · repeat (first | apply c_seq | apply c_reg | (apply wO; apply oc; rfl; exact ydE) | apply w_nil | apply n_cd | (apply wg_t; rfl; rfl) | (apply wg_f; rfl; rfl; rfl; rfl) | (apply wg_u; rfl; rfl; rfl) | (apply c_t; rfl) | (apply c_f; rfl) | apply c_skip | apply c_block | apply n_blk | apply c_exit | apply e_hit | apply e_cd | apply e_lp | (apply e_miss; rfl) | apply c_ret | (apply wO; apply o_box; rfl; rfl; rfl; intro _) | (apply wO; apply o_alloc; rfl; intro _) | (apply wO; apply o_st; rfl; rfl; rfl; (first | exact AggC.s | exact OneC.s); rfl; exact rplE; exact putE; rfl) | (apply wO; apply o_bs0; rfl; intro _) | (apply wO; apply o_bs; rfl; rfl; rfl; rfl; exact rptE; exact filE; intro _) | (apply wO; apply o_call; rfl; kernel_rfl; exact evsE))
        refine n_lp (k + 1) ⟨by omega, fun j hj => ?_⟩ (by omega)
        rcases Nat.lt_or_eq_of_le (Nat.lt_succ_iff.1 hj) with h | rfl
        · exact hk2 j h
        · rw [hck, g4, g5, g6, decide_eq_false h6]; simp
    · have hz : k = 0 := by omega
      refine d_start [0, 2] [] ?_
      refine dt 0 ?_
      refine dt 1 ?_
      rw [decide_eq_false (show ¬ (0 : Int) < k by omega)]
      refine dt 2 ?_
      refine ds 3 ?_
      refine ds 4 ?_
      refine ds 5 ?_
      refine ds 6 ?_
      refine ds 7 ?_
      refine ds 8 ?_
      refine ds 9 ?_
      refine ds 10 ?_
      refine ds 11 ?_
      refine ds 12 ?_
      refine ds 13 ?_
      refine ds 14 ?_
      refine ds 15 ?_
      refine ds 16 ?_
      refine ds 17 ?_
      refine ds 18 ?_
      refine ds 19 ?_
      refine ds 20 ?_
      refine dt 21 ?_
      refine dd ?_
      repeat (first | apply c_seq | apply c_reg | (apply wO; apply oc; rfl; exact ydE) | apply w_nil | apply n_cd | (apply wg_t; rfl; rfl) | (apply wg_f; rfl; rfl; rfl; rfl) | (apply wg_u; rfl; rfl; rfl) | (apply c_t; rfl) | (apply c_f; rfl) | apply c_skip | apply c_block | apply n_blk | apply c_exit | apply e_hit | apply e_cd | apply e_lp | (apply e_miss; rfl) | apply c_ret | (apply wO; apply o_box; rfl; rfl; rfl; intro _) | (apply wO; apply o_alloc; rfl; intro _) | (apply wO; apply o_st; rfl; rfl; rfl; (first | exact AggC.s | exact OneC.s); rfl; exact rplE; exact putE; rfl) | (apply wO; apply o_bs0; rfl; intro _) | (apply wO; apply o_bs; rfl; rfl; rfl; rfl; exact rptE; exact filE; intro _) | (apply wO; apply o_call; rfl; kernel_rfl; exact evsE))
      refine n_lp (k + 1) ⟨by omega, fun j hj => ?_⟩ (by omega)
      rcases Nat.lt_or_eq_of_le (Nat.lt_succ_iff.1 hj) with h | rfl
      · exact hk2 j h
      · rw [hck, g4, g5, g6, decide_eq_true hz]; simp
  have hkl : k = x.holds.length := by omega
  repeat (first | apply c_seq | apply c_reg | (apply wO; apply oc; rfl; exact ydE) | apply w_nil | apply n_cd | (apply wg_t; rfl; rfl) | (apply wg_f; rfl; rfl; rfl; rfl) | (apply wg_u; rfl; rfl; rfl) | (apply c_t; rfl) | (apply c_f; rfl) | apply c_skip | apply c_block | apply n_blk | apply c_exit | apply e_hit | apply e_cd | apply e_lp | (apply e_miss; rfl) | apply c_ret | (apply wO; apply o_box; rfl; rfl; rfl; intro _) | (apply wO; apply o_alloc; rfl; intro _) | (apply wO; apply o_st; rfl; rfl; rfl; (first | exact AggC.s | exact OneC.s); rfl; exact rplE; exact putE; rfl) | (apply wO; apply o_bs0; rfl; intro _) | (apply wO; apply o_bs; rfl; rfl; rfl; rfl; exact rptE; exact filE; intro _) | (apply wO; apply o_call; rfl; kernel_rfl; exact evsE))
  refine ret () trivial ?_
  rw [goodSrc_yes g1 g2 g3 (hkl ▸ hk2)]; rfl
end Go.Proofs.YtidephmobajikaaGreatDoor
/- Walks of Go's generic library functions on slices of impl.Hold. Written by wip/genlib.py. -/
namespace Go.Proofs.YtidephmobajikaaGreatDoor
open Go.RowKit
theorem Clone_Hold (v : Value) (xs : List Hold) (F : List Nat) (w : World) (h : Sl EHold w v xs F) (hm : xs.length ≤ 4294967296) :
    Calls Tryz.prog 153 #[v] w (RetNew EHold 131 xs w) := by
  obtain ⟨ao, c, news, Fy, rfl, hl, hfy, hFy, hsrc⟩ := h.src
  have hFl := hfy.lt
  have he := fun w (a : Option Addr) (n c : Nat) => Lib.run_eql_slice_nil (P := Tryz.prog) w 53 _ a n c 0 0 Tryz.underlying53
  go_enter Tryz.func153, Tryz.ntmps153
  rcases hsrc with ⟨rfl, rfl, rfl⟩ | ⟨ad, rfl, hn⟩
  · go_wp2
    go_ret
    exact ⟨.slice none 0 0, [], rfl, .inl ⟨rfl, rfl, rfl⟩, by simp, by simp, Below.refl _ _⟩
  · go_wp2_with (at_builtin; refine wpList_apd one_EHold (by decide) (by rfl) _ _ _ (by rfl) 131 (.agg #[.int .i64 0, .int .i64 0]) 16 Tryz.underlying53 info_Hold rfl (.slice (some ⟨w.heap.size, 0, none⟩) 0 0) [] [w.heap.size] (by rfl) (Ow.empty (Row.made _ _ _)) (Hd.one _) (some ad) xs c (by rfl) news Fy (hfy.frame fun b hb => Below.heap_alloc _ _ _ (hFl b hb)) (.inr ⟨ad, rfl, fun j u hu => kc ((Below.refl _ _).alloc (Nat.le_refl _) _) (hn j u hu)⟩) (fun b hb e => by have := hFl b hb; simp [Value.ownBlock] at e; omega) (by simpa using hl) (by unfold maxLen at hl; simp; omega) ?_)
    intro v2 w2 F2 hA
    go_wp2_with fail
    go_ret
    have hB : Below w.heap.size w w2 := ((Below.refl _ _).alloc (Nat.le_refl _) _).trans (hA.keep.below (by simp) (by simp))
    have hs : ∀ b, v2.ownBlock = some b → w.heap.size ≤ b := fun b hb => by rcases hA.same with e | e <;> rw [e] at hb <;> simp [Value.ownBlock] at hb <;> omega
    refine ⟨v2, F2, rfl, by simpa using hA.ow, hA.ow.scal scal_EHold ▸ ?_, fun b hb => ?_, hB⟩
    · cases v2.ownBlock <;> simp
    · rw [hA.ow.scal scal_EHold] at hb; exact hs b (by simpa using hb)
end Go.Proofs.YtidephmobajikaaGreatDoor
/- Sources: the copy, the holds that are kept. -/
namespace Go.Proofs.YtidephmobajikaaGreatDoor
open Go.RowKit
set_option maxRecDepth 100000 in
theorem Sclone_f (x : Source) (v : Value) (F : List Nat) (hl : x.window.items.length ≤ 4294967296) (hl2 : x.holds.length ≤ 4294967296) : Fn Tryz.prog 93 [v] [.isv ESource v x F] [] (fun (_ : Value × List Nat) => True)
    (fun s => s.1) (fun s => [.own OSource s.1 x s.2]) := by
  refine enter Tryz.func93 rfl Tryz.ntmps93 fun w0 => ?_
  refine openSource ?_
  rintro a1 c1 F1 a2 c2 F2 rfl l1 l2
  refine closeSendWindow x.window ?_
  generalize F1 = F3
  repeat (first | apply c_seq | apply c_reg | (apply wO; apply oc; rfl; exact ydE) | apply w_nil | apply n_cd | (apply wg_t; rfl; rfl) | (apply wg_f; rfl; rfl; rfl; rfl) | (apply wg_u; rfl; rfl; rfl) | (apply c_t; rfl) | (apply c_f; rfl) | apply c_skip | apply c_block | apply n_blk | apply c_exit | apply e_hit | apply e_cd | apply e_lp | (apply e_miss; rfl) | apply c_ret | (apply wO; apply o_box; rfl; rfl; rfl; intro _) | (apply wO; apply o_alloc; rfl; intro _) | (apply wO; apply o_st; rfl; rfl; rfl; (first | exact AggC.s | exact OneC.s); rfl; exact rplE; exact putE; rfl) | (apply wO; apply o_bs0; rfl; intro _) | (apply wO; apply o_bs; rfl; rfl; rfl; rfl; exact rptE; exact filE; intro _) | (apply wO; apply o_call; rfl; kernel_rfl; exact evsE))
  refine cv (fun w s => SendWindow_clone_c _ x.window _ w (s.get (p := .isv ESendWindow (.agg #[.int .i64 x.window.trail, .int .i64 x.window.size, .slice a1 x.window.items.length c1]) x.window F3) (by simp)) hl) fun v F' => ?_
  refine openOSendWindow ?_
  rintro a5 c5 F5 rfl l5
  repeat (first | apply c_seq | apply c_reg | (apply wO; apply oc; rfl; exact ydE) | apply w_nil | apply n_cd | (apply wg_t; rfl; rfl) | (apply wg_f; rfl; rfl; rfl; rfl) | (apply wg_u; rfl; rfl; rfl) | (apply c_t; rfl) | (apply c_f; rfl) | apply c_skip | apply c_block | apply n_blk | apply c_exit | apply e_hit | apply e_cd | apply e_lp | (apply e_miss; rfl) | apply c_ret | (apply wO; apply o_box; rfl; rfl; rfl; intro _) | (apply wO; apply o_alloc; rfl; intro _) | (apply wO; apply o_st; rfl; rfl; rfl; (first | exact AggC.s | exact OneC.s); rfl; exact rplE; exact putE; rfl) | (apply wO; apply o_bs0; rfl; intro _) | (apply wO; apply o_bs; rfl; rfl; rfl; rfl; exact rptE; exact filE; intro _) | (apply wO; apply o_call; rfl; kernel_rfl; exact evsE))
  refine cn (fun w s => Clone_Hold _ _ _ _ (s.get (p := .sl EHold (.slice a2 x.holds.length c2) x.holds F2) (by simp)).2 hl2) fun a6 c6 F6 => ?_
  repeat (first | apply c_seq | apply c_reg | (apply wO; apply oc; rfl; exact ydE) | apply w_nil | apply n_cd | (apply wg_t; rfl; rfl) | (apply wg_f; rfl; rfl; rfl; rfl) | (apply wg_u; rfl; rfl; rfl) | (apply c_t; rfl) | (apply c_f; rfl) | apply c_skip | apply c_block | apply n_blk | apply c_exit | apply e_hit | apply e_cd | apply e_lp | (apply e_miss; rfl) | apply c_ret | (apply wO; apply o_box; rfl; rfl; rfl; intro _) | (apply wO; apply o_alloc; rfl; intro _) | (apply wO; apply o_st; rfl; rfl; rfl; (first | exact AggC.s | exact OneC.s); rfl; exact rplE; exact putE; rfl) | (apply wO; apply o_bs0; rfl; intro _) | (apply wO; apply o_bs; rfl; rfl; rfl; rfl; exact rptE; exact filE; intro _) | (apply wO; apply o_call; rfl; kernel_rfl; exact evsE))
  refine closeOSource x ?_
  refine ret (_, _) trivial rfl
end Go.Proofs.YtidephmobajikaaGreatDoor
/- Sources: TrimSource of the program. -/
namespace Go.Proofs.YtidephmobajikaaGreatDoor
open Go.RowKit
structure SrcS where
  a : Option Addr
  c : Nat
  a2 : Option Addr
  c2 : Nat
  F : List Nat
def zSrc : Source := ⟨⟨0, 0, []⟩, 0, 0, []⟩
structure GoodS (x : Source) : Prop where
  w : goodWin x.window = true
  l : x.window.items.length ≤ 6
  t0 : 0 ≤ x.window.trail
  t1 : x.window.trail ≤ 65535
  k0 : 0 ≤ x.clock
  k1 : x.clock ≤ 9999
  m : x.holds.length ≤ 6
  n : ∀ h ∈ x.holds, isSer h.number = true
  u : ∀ h ∈ x.holds, x.clock + 1 ≤ h.untl
  b : ∀ h ∈ x.holds, h.untl ≤ x.clock + 3
theorem goodS_of {x : Source} (h : goodSrc x = true) : GoodS x := by
  unfold goodSrc at h
  simp only [Bool.and_eq_true] at h
  obtain ⟨⟨⟨h1, h2⟩, h3⟩, h4⟩ := h
  obtain ⟨⟨t0, t1⟩, ⟨s0, s1⟩, s2, -⟩ := goodWin_iff.1 h1
  obtain ⟨k0, k1⟩ := clk_bd h2
  have hc : ∀ h ∈ x.holds, isSer h.number = true ∧ x.clock + 1 ≤ h.untl ∧ h.untl ≤ x.clock + 3 := fun h hh => by
    obtain ⟨i, hi, rfl⟩ := List.getElem_of_mem hh
    have := List.all_eq_true.1 h4 i (by simpa using hi)
    rw [chkH_at hi] at this
    simp only [Bool.and_eq_true, btw, decide_eq_true_eq] at this
    exact ⟨this.1.1.1, this.1.2.1, this.1.2.2⟩
  have hg : ∀ i, (hi : i < x.holds.length) → (i : Int) ≤ gp x.window.trail x.holds[i].number ∧ gp x.window.trail x.holds[i].number < 6 := by
    intro i
    induction i with
    | zero =>
      intro hi
      have := List.all_eq_true.1 h4 0 (by simpa using hi)
      rw [chkH_at hi] at this
      simp only [Bool.and_eq_true, heldB, decide_eq_true_eq] at this
      have b := gp_bd x.window.trail x.holds[0].number
      exact ⟨by omega, by have := this.1.1.2; omega⟩
    | succ i ih =>
      intro hi
      have p := ih (by omega)
      have := List.all_eq_true.1 h4 (i + 1) (by simpa using hi)
      rw [chkH_at hi] at this
      simp only [Bool.and_eq_true, heldB, decide_eq_true_eq, Bool.or_eq_true, Bool.not_eq_true', decide_eq_false_iff_not] at this
      have q := this.2
      have q2 := this.1.1.2
      simp only [Nat.add_sub_cancel] at q
      rcases q with q | q
      · omega
      · exact ⟨by omega, by omega⟩
  have hm : x.holds.length ≤ 6 := by
    by_cases h0 : x.holds.length ≤ 6
    · exact h0
    · have := hg 6 (by omega); omega
  exact ⟨h1, by omega, t0, t1, k0, k1, hm, fun h hh => (hc h hh).1, fun h hh => (hc h hh).2.1, fun h hh => (hc h hh).2.2⟩
end Go.Proofs.YtidephmobajikaaGreatDoor
/- Sources: what the reference drops, the holds that it keeps. -/
namespace Go.Proofs.YtidephmobajikaaGreatDoor
open Go.RowKit
def wideH (hs : List Hold) : Prop := ∀ h ∈ hs, -1 ≤ h.number ∧ h.number ≤ 65536
theorem wide_of {hs : List Hold} (hn : ∀ h ∈ hs, isSer h.number = true) : wideH hs := fun h hh => by have := isSer_iff.1 (hn h hh); omega
def keepU (W : SendWindow) (cl : Int) (hs : List Hold) : List Hold := hs.filter fun h => heldB W h.number && decide (cl < h.untl)
theorem rep_hold (h : Hold) (w : World) : Flat EHold w [.int .i64 h.number, .int .i64 h.untl] [h] [] := ⟨_, [], [], [], by simp, by simp, ⟨rfl, rfl⟩, rfl, rfl⟩
structure HoS where
  k : Nat
  a : Option Addr
  c : Nat
  F : List Nat
set_option maxRecDepth 100000 in
theorem l11HoldsU_f (W : SendWindow) (hs : List Hold) (cl : Int) (v : Value) (a2 : Option Addr) (c2 : Nat) (F G : List Nat) (t0 : 0 ≤ W.trail) (t1 : W.trail ≤ 65535) (hl : hs.length ≤ 1000) (hn : wideH hs) :
    Fn Tryz.prog 161 [.slice a2 hs.length c2, v, .int .i64 cl] [.isv ESendWindow v W F, .sl EHold (.slice a2 hs.length c2) hs G] [] (fun (_ : Option Addr × Nat × List Nat) => True)
      (fun z => .slice z.1 (keepU W cl hs).length z.2.1) (fun z => [.ow EHold 131 (.slice z.1 (keepU W cl hs).length z.2.1) (keepU W cl hs) z.2.2]) := by
  refine enter Tryz.func161 rfl Tryz.ntmps161 fun w0 => ?_
  refine openSendWindow ?_
  rintro a1 c1 F1 rfl l1
  repeat (first | apply c_seq | apply c_reg | (apply wO; apply oc; rfl; exact ydE) | apply w_nil | apply n_cd | (apply wg_t; rfl; rfl) | (apply wg_f; rfl; rfl; rfl; rfl) | (apply wg_u; rfl; rfl; rfl) | (apply c_t; rfl) | (apply c_f; rfl) | apply c_skip | apply c_block | apply n_blk | apply c_exit | apply e_hit | apply e_cd | apply e_lp | (apply e_miss; rfl) | apply c_ret | (apply wO; apply o_box; rfl; rfl; rfl; intro _) | (apply wO; apply o_alloc; rfl; intro _) | (apply wO; apply o_st; rfl; rfl; rfl; (first | exact AggC.s | exact OneC.s); rfl; exact rplE; exact putE; rfl) | (apply wO; apply o_bs0; rfl; intro _) | (apply wO; apply o_bs; rfl; rfl; rfl; rfl; exact rptE; exact filE; intro _) | (apply wO; apply o_call; rfl; kernel_rfl; exact evsE))
  refine t_emp EHold ?_
  refine c_loopS [0, 2, 4, 6] (fun s : HoS => [(7, .slice s.a (keepU W cl (hs.take s.k)).length s.c), (8, .int .i64 s.k)]) (fun s => [.ow EHold 131 (.slice s.a (keepU W cl (hs.take s.k)).length s.c) (keepU W cl (hs.take s.k)) s.F]) (fun s => s.k ≤ hs.length) (fun s => hs.length - s.k) ⟨0, _, 0, _⟩ (Nat.zero_le _) fun s hk => ?_
  obtain ⟨k, a5, c5, F5⟩ := s
  dsimp only at hk ⊢
  repeat (first | apply c_seq | apply c_reg | (apply wO; apply oc; rfl; exact ydE) | apply w_nil | apply n_cd | (apply wg_t; rfl; rfl) | (apply wg_f; rfl; rfl; rfl; rfl) | (apply wg_u; rfl; rfl; rfl) | (apply c_t; rfl) | (apply c_f; rfl) | apply c_skip | apply c_block | apply n_blk | apply c_exit | apply e_hit | apply e_cd | apply e_lp | (apply e_miss; rfl) | apply c_ret | (apply wO; apply o_box; rfl; rfl; rfl; intro _) | (apply wO; apply o_alloc; rfl; intro _) | (apply wO; apply o_st; rfl; rfl; rfl; (first | exact AggC.s | exact OneC.s); rfl; exact rplE; exact putE; rfl) | (apply wO; apply o_bs0; rfl; intro _) | (apply wO; apply o_bs; rfl; rfl; rfl; rfl; exact rptE; exact filE; intro _) | (apply wO; apply o_call; rfl; kernel_rfl; exact evsE))
  refine c_if rfl (fun h3 => ?_) (fun h3 => ?_)
  · have hk3 : k < hs.length := by omega
    obtain ⟨n0, n1⟩ := hn hs[k] (List.getElem_mem hk3)
    have hkl : (keepU W cl (hs.take k)).length ≤ 1000 := by have := List.length_filter_le (fun h : Hold => heldB W h.number && decide (cl < h.untl)) (hs.take k); unfold keepU; simp only [List.length_take] at this; omega
    refine atHold (xs := hs) k ?_
    rintro hi b o e
    rw [e]
    cases g5 : heldB W hs[k].number
    · repeat (first | apply c_seq | apply c_reg | (apply wO; apply oc; rfl; exact ydE) | apply w_nil | apply n_cd | (apply wg_t; rfl; rfl) | (apply wg_f; rfl; rfl; rfl; rfl) | (apply wg_u; rfl; rfl; rfl) | (apply c_t; rfl) | (apply c_f; rfl) | apply c_skip | apply c_block | apply n_blk | apply c_exit | apply e_hit | apply e_cd | apply e_lp | (apply e_miss; rfl) | apply c_ret | (apply wO; apply o_box; rfl; rfl; rfl; intro _) | (apply wO; apply o_alloc; rfl; intro _) | (apply wO; apply o_st; rfl; rfl; rfl; (first | exact AggC.s | exact OneC.s); rfl; exact rplE; exact putE; rfl) | (apply wO; apply o_bs0; rfl; intro _) | (apply wO; apply o_bs; rfl; rfl; rfl; rfl; exact rptE; exact filE; intro _))
      refine d_start [0, 2] [] ?_
      refine dt 0 ?_
      refine dt 1 ?_
      refine dt 2 ?_
      refine dt 3 ?_
      refine dt 4 ?_
      refine dt 5 ?_
      refine dO 6 (by kernel_rfl) (by rw [List.getElem?_toArray]; rfl) ?_
      apply o_call; rfl; kernel_rfl; exact evsE
      refine cb (fun w st => (l9HeldW_f W hs[k].number _ _ t0 t1 n0 n1).val w (hol1 (st.get (p := .isv ESendWindow (.agg #[.int .i64 W.trail, .int .i64 W.size, .slice a1 W.items.length c1]) W F) (by simp)))) ?_
      rw [g5]
      refine dk ?_
      refine dt 7 ?_
      refine ds 8 ?_
      refine ds 9 ?_
      refine ds 10 ?_
      refine ds 11 ?_
      refine ds 12 ?_
      refine ds 13 ?_
      refine ds 14 ?_
      refine dt 15 ?_
      refine dd ?_
      repeat (first | apply c_seq | apply c_reg | (apply wO; apply oc; rfl; exact ydE) | apply w_nil | apply n_cd | (apply wg_t; rfl; rfl) | (apply wg_f; rfl; rfl; rfl; rfl) | (apply wg_u; rfl; rfl; rfl) | (apply c_t; rfl) | (apply c_f; rfl) | apply c_skip | apply c_block | apply n_blk | apply c_exit | apply e_hit | apply e_cd | apply e_lp | (apply e_miss; rfl) | apply c_ret | (apply wO; apply o_box; rfl; rfl; rfl; intro _) | (apply wO; apply o_alloc; rfl; intro _) | (apply wO; apply o_st; rfl; rfl; rfl; (first | exact AggC.s | exact OneC.s); rfl; exact rplE; exact putE; rfl) | (apply wO; apply o_bs0; rfl; intro _) | (apply wO; apply o_bs; rfl; rfl; rfl; rfl; exact rptE; exact filE; intro _) | (apply wO; apply o_call; rfl; kernel_rfl; exact evsE))
      have hf : keepU W cl (hs.take (k + 1)) = keepU W cl (hs.take k) := filter_take_no hk3 (by rw [g5]; rfl)
      rw [← hf]
      refine n_lp ⟨k + 1, a5, c5, F5⟩ hk3 (by show hs.length - (k + 1) < _; omega)
    · repeat (first | apply c_seq | apply c_reg | (apply wO; apply oc; rfl; exact ydE) | apply w_nil | apply n_cd | (apply wg_t; rfl; rfl) | (apply wg_f; rfl; rfl; rfl; rfl) | (apply wg_u; rfl; rfl; rfl) | (apply c_t; rfl) | (apply c_f; rfl) | apply c_skip | apply c_block | apply n_blk | apply c_exit | apply e_hit | apply e_cd | apply e_lp | (apply e_miss; rfl) | apply c_ret | (apply wO; apply o_box; rfl; rfl; rfl; intro _) | (apply wO; apply o_alloc; rfl; intro _) | (apply wO; apply o_st; rfl; rfl; rfl; (first | exact AggC.s | exact OneC.s); rfl; exact rplE; exact putE; rfl) | (apply wO; apply o_bs0; rfl; intro _) | (apply wO; apply o_bs; rfl; rfl; rfl; rfl; exact rptE; exact filE; intro _))
      refine d_start [0, 2] [] ?_
      refine dt 0 ?_
      refine dt 1 ?_
      refine dt 2 ?_
      refine dt 3 ?_
      refine dt 4 ?_
      refine dt 5 ?_
      refine dO 6 (by kernel_rfl) (by rw [List.getElem?_toArray]; rfl) ?_
      apply o_call; rfl; kernel_rfl; exact evsE
      refine cb (fun w st => (l9HeldW_f W hs[k].number _ _ t0 t1 n0 n1).val w (hol1 (st.get (p := .isv ESendWindow (.agg #[.int .i64 W.trail, .int .i64 W.size, .slice a1 W.items.length c1]) W F) (by simp)))) ?_
      rw [g5]
      refine dk ?_
      refine dt 7 ?_
      refine dtg 8 ?_
      refine dtg 9 ?_
      refine dtg 10 ?_
      refine dtg 11 ?_
      refine dtg 12 ?_
      refine dtg 13 ?_
      refine dtg 14 ?_
      refine dt 15 ?_
      refine dd ?_
      repeat (first | apply c_seq | apply c_reg | (apply wO; apply oc; rfl; exact ydE) | apply w_nil | apply n_cd | (apply wg_t; rfl; rfl) | (apply wg_f; rfl; rfl; rfl; rfl) | (apply wg_u; rfl; rfl; rfl) | (apply c_t; rfl) | (apply c_f; rfl) | apply c_skip | apply c_block | apply n_blk | apply c_exit | apply e_hit | apply e_cd | apply e_lp | (apply e_miss; rfl) | apply c_ret | (apply wO; apply o_box; rfl; rfl; rfl; intro _) | (apply wO; apply o_alloc; rfl; intro _) | (apply wO; apply o_st; rfl; rfl; rfl; (first | exact AggC.s | exact OneC.s); rfl; exact rplE; exact putE; rfl) | (apply wO; apply o_bs0; rfl; intro _) | (apply wO; apply o_bs; rfl; rfl; rfl; rfl; exact rptE; exact filE; intro _) | (apply wO; apply o_call; rfl; kernel_rfl; exact evsE))
      refine c_if rfl (fun h5 => ?_) (fun h5 => ?_)
      · repeat (first | apply c_seq | apply c_reg | (apply wO; apply oc; rfl; exact ydE) | apply w_nil | apply n_cd | (apply wg_t; rfl; rfl) | (apply wg_f; rfl; rfl; rfl; rfl) | (apply wg_u; rfl; rfl; rfl) | (apply c_t; rfl) | (apply c_f; rfl) | apply c_skip | apply c_block | apply n_blk | apply c_exit | apply e_hit | apply e_cd | apply e_lp | (apply e_miss; rfl) | apply c_ret | (apply wO; apply o_box; rfl; rfl; rfl; intro _) | (apply wO; apply o_alloc; rfl; intro _) | (apply wO; apply o_st; rfl; rfl; rfl; (first | exact AggC.s | exact OneC.s); rfl; exact rplE; exact putE; rfl) | (apply wO; apply o_bs0; rfl; intro _) | (apply wO; apply o_bs; rfl; rfl; rfl; rfl; exact rptE; exact filE; intro _) | (apply wO; apply o_call; rfl; kernel_rfl; exact evsE))
        apply wO
        refine ap1 (rep_hold hs[k]) one_EHold fun a6 c6 F6 => ?_
        have hf : keepU W cl (hs.take (k + 1)) = keepU W cl (hs.take k) ++ [hs[k]] := filter_take_yes hk3 (by rw [g5, decide_eq_true h5]; rfl)
        rw [← hf]
        repeat (first | apply c_seq | apply c_reg | (apply wO; apply oc; rfl; exact ydE) | apply w_nil | apply n_cd | (apply wg_t; rfl; rfl) | (apply wg_f; rfl; rfl; rfl; rfl) | (apply wg_u; rfl; rfl; rfl) | (apply c_t; rfl) | (apply c_f; rfl) | apply c_skip | apply c_block | apply n_blk | apply c_exit | apply e_hit | apply e_cd | apply e_lp | (apply e_miss; rfl) | apply c_ret | (apply wO; apply o_box; rfl; rfl; rfl; intro _) | (apply wO; apply o_alloc; rfl; intro _) | (apply wO; apply o_st; rfl; rfl; rfl; (first | exact AggC.s | exact OneC.s); rfl; exact rplE; exact putE; rfl) | (apply wO; apply o_bs0; rfl; intro _) | (apply wO; apply o_bs; rfl; rfl; rfl; rfl; exact rptE; exact filE; intro _) | (apply wO; apply o_call; rfl; kernel_rfl; exact evsE))
        refine n_lp ⟨k + 1, a6, c6, F6⟩ hk3 (by show hs.length - (k + 1) < _; omega)
      · repeat (first | apply c_seq | apply c_reg | (apply wO; apply oc; rfl; exact ydE) | apply w_nil | apply n_cd | (apply wg_t; rfl; rfl) | (apply wg_f; rfl; rfl; rfl; rfl) | (apply wg_u; rfl; rfl; rfl) | (apply c_t; rfl) | (apply c_f; rfl) | apply c_skip | apply c_block | apply n_blk | apply c_exit | apply e_hit | apply e_cd | apply e_lp | (apply e_miss; rfl) | apply c_ret | (apply wO; apply o_box; rfl; rfl; rfl; intro _) | (apply wO; apply o_alloc; rfl; intro _) | (apply wO; apply o_st; rfl; rfl; rfl; (first | exact AggC.s | exact OneC.s); rfl; exact rplE; exact putE; rfl) | (apply wO; apply o_bs0; rfl; intro _) | (apply wO; apply o_bs; rfl; rfl; rfl; rfl; exact rptE; exact filE; intro _) | (apply wO; apply o_call; rfl; kernel_rfl; exact evsE))
        have hf : keepU W cl (hs.take (k + 1)) = keepU W cl (hs.take k) := filter_take_no hk3 (by rw [g5, decide_eq_false h5]; rfl)
        rw [← hf]
        refine n_lp ⟨k + 1, a5, c5, F5⟩ hk3 (by show hs.length - (k + 1) < _; omega)
  · have hkl : k = hs.length := by omega
    subst hkl
    rw [List.take_length]
    repeat (first | apply c_seq | apply c_reg | (apply wO; apply oc; rfl; exact ydE) | apply w_nil | apply n_cd | (apply wg_t; rfl; rfl) | (apply wg_f; rfl; rfl; rfl; rfl) | (apply wg_u; rfl; rfl; rfl) | (apply c_t; rfl) | (apply c_f; rfl) | apply c_skip | apply c_block | apply n_blk | apply c_exit | apply e_hit | apply e_cd | apply e_lp | (apply e_miss; rfl) | apply c_ret | (apply wO; apply o_box; rfl; rfl; rfl; intro _) | (apply wO; apply o_alloc; rfl; intro _) | (apply wO; apply o_st; rfl; rfl; rfl; (first | exact AggC.s | exact OneC.s); rfl; exact rplE; exact putE; rfl) | (apply wO; apply o_bs0; rfl; intro _) | (apply wO; apply o_bs; rfl; rfl; rfl; rfl; exact rptE; exact filE; intro _) | (apply wO; apply o_call; rfl; kernel_rfl; exact evsE))
    refine ret (a5, c5, F5) trivial rfl
end Go.Proofs.YtidephmobajikaaGreatDoor
/- Sources: TrimSource of the reference. -/
namespace Go.Proofs.YtidephmobajikaaGreatDoor
open Go.RowKit
def withU (x : Source) (W : SendWindow) : Source := ⟨W, x.clock, x.quiet, keepU W x.clock x.holds⟩
set_option maxRecDepth 100000 in
theorem l11WithU_f (x : Source) (W : SendWindow) (v vw : Value) (F Fw : List Nat) (y0 : 0 ≤ W.trail) (y1 : W.trail ≤ 65535) (hl : x.holds.length ≤ 1000) (hn : wideH x.holds) :
    Fn Tryz.prog 98 [v, vw] [.isv ESource v x F, .isv ESendWindow vw W Fw] [] (fun (_ : SrcS) => True) (fun s => .agg #[.int .i64 W.trail, .int .i64 W.size, .slice s.a W.items.length s.c, .int .i64 x.clock, .int .i64 x.quiet, .slice s.a2 (keepU W x.clock x.holds).length s.c2])
      (fun s => [.isv ESource (.agg #[.int .i64 W.trail, .int .i64 W.size, .slice s.a W.items.length s.c, .int .i64 x.clock, .int .i64 x.quiet, .slice s.a2 (keepU W x.clock x.holds).length s.c2]) (withU x W) s.F]) := by
  refine enter Tryz.func98 rfl Tryz.ntmps98 fun w0 => ?_
  refine openSource ?_
  rintro a1 c1 F1 a2 c2 F2 rfl l1 l2
  refine openSendWindow (x := W) (F := Fw) ?_
  rintro a3 c3 F3 rfl l3
  repeat (first | apply c_seq | apply c_reg | (apply wO; apply oc; rfl; exact ydE) | apply w_nil | apply n_cd | (apply wg_t; rfl; rfl) | (apply wg_f; rfl; rfl; rfl; rfl) | (apply wg_u; rfl; rfl; rfl) | (apply c_t; rfl) | (apply c_f; rfl) | apply c_skip | apply c_block | apply n_blk | apply c_exit | apply e_hit | apply e_cd | apply e_lp | (apply e_miss; rfl) | apply c_ret | (apply wO; apply o_box; rfl; rfl; rfl; intro _) | (apply wO; apply o_alloc; rfl; intro _) | (apply wO; apply o_st; rfl; rfl; rfl; (first | exact AggC.s | exact OneC.s); rfl; exact rplE; exact putE; rfl) | (apply wO; apply o_bs0; rfl; intro _) | (apply wO; apply o_bs; rfl; rfl; rfl; rfl; exact rptE; exact filE; intro _) | (apply wO; apply o_call; rfl; kernel_rfl; exact evsE))
  refine d_start [1, 2] [] ?_
  refine dt 0 ?_
  refine dt 1 ?_
  refine dt 2 ?_
  refine dt 3 ?_
  refine dt 4 ?_
  refine dt 5 ?_
  refine dt 6 ?_
  refine dt 7 ?_
  refine dt 8 ?_
  refine dt 9 ?_
  refine dO 10 (by kernel_rfl) (by rw [List.getElem?_toArray]; rfl) ?_
  apply o_call; rfl; kernel_rfl; exact evsE
  refine cf (l11HoldsU_f W x.holds x.clock _ a2 c2 Fw F2 y0 y1 (by omega) hn) fun z _ => ?_
  refine t_app ?_
  refine dk ?_
  refine dt 11 ?_
  refine dO 12 (by kernel_rfl) (by rw [List.getElem?_toArray]; rfl) ?_
  apply o_st; rfl; rfl; rfl; (first | exact AggC.s | exact OneC.s); rfl; exact rplE; exact putE; rfl
  refine dk ?_
  refine dd ?_
  repeat (first | apply c_seq | apply c_reg | (apply wO; apply oc; rfl; exact ydE) | apply w_nil | apply n_cd | (apply wg_t; rfl; rfl) | (apply wg_f; rfl; rfl; rfl; rfl) | (apply wg_u; rfl; rfl; rfl) | (apply c_t; rfl) | (apply c_f; rfl) | apply c_skip | apply c_block | apply n_blk | apply c_exit | apply e_hit | apply e_cd | apply e_lp | (apply e_miss; rfl) | apply c_ret | (apply wO; apply o_box; rfl; rfl; rfl; intro _) | (apply wO; apply o_alloc; rfl; intro _) | (apply wO; apply o_st; rfl; rfl; rfl; (first | exact AggC.s | exact OneC.s); rfl; exact rplE; exact putE; rfl) | (apply wO; apply o_bs0; rfl; intro _) | (apply wO; apply o_bs; rfl; rfl; rfl; rfl; exact rptE; exact filE; intro _) | (apply wO; apply o_call; rfl; kernel_rfl; exact evsE))
  refine t_read (E := EHold) fun F9 => ?_
  refine closeSource (withU x W) ?_
  refine ret ⟨_, _, _, _, _⟩ trivial rfl
end Go.Proofs.YtidephmobajikaaGreatDoor
/- Sources: bounds on the marks of results. -/
namespace Go.Proofs.YtidephmobajikaaGreatDoor
open Go.RowKit
theorem cntHolds_le : ∀ l : List Hold, cntL cntHold l ≤ 2 * l.length
  | [] => Nat.le_refl _
  | s :: r => by
    have ih := cntHolds_le r
    unfold cntL at ih ⊢
    simp only [List.map_cons, List.sum_cons, List.length_cons]
    have : cntHold s ≤ 2 := by simp [cntHold, cntI]
    omega
theorem cvSrc_le (x : Source) (h1 : x.window.items.length ≤ 1000000) (h2 : x.holds.length ≤ 1000000) : cvSource x ≤ 4294967296 := by
  have := cntHolds_le x.holds
  unfold cvSource
  simp only [cvSendWindow]
  rw [cntL_str]
  omega
end Go.Proofs.YtidephmobajikaaGreatDoor
/- More operations: parts of texts, slices made, functions called by their value; a part of a slice that reads. -/
namespace Go.Proofs.YtidephmobajikaaGreatDoor
open Go.RowKit
section
variable {P : Program} {n : Nat} {fr : Fr} {H : List Pc} {ty : TypeId} {x y z : Operand}
end
section
variable {c : Cx} {fr : Fr} {H : List Pc} {k : List It} {Φ : Gl} {ops : Array Oper} {rest : List Oper} {d : Nat} {o : Op} {ty : TypeId} {v u : Value} {x y : Operand}
/-- a function called by its value -/
theorem o_callv {fo : Operand} {f : Nat} {caps : List Value} {aS : List Operand} {ts : Array TypeId} {vs : List Value} (hd : Nat.blt d c.n = true) (hf : ev fr fo = some (.func (.func f) #[] caps.toArray)) (hb : bodyB c.P f = true) (ha : Evs fr aS vs) (h : Cl c fr H d f (vs ++ caps) Φ) : On c fr H (some d) (.call { callee := .value fo, args := aS.toArray, argTypes := ts }) ty Φ := ⟨fun _ _ _ => ef_of fun Q a w s g => by
  have e : ∀ pos aft gd, (execOp a.eval ⟨some d, .call { callee := .value fo, args := aS.toArray, argTypes := ts }, ty, pos, aft, gd⟩).run c.P w = (callFunc f (vs ++ caps).toArray).run c.P w := by
    intro pos aft gd
    simp [execOp, resolve, Deferred.ofValue, g.ev hf, invoke, g.evs ha]
  rw [e]
  obtain ⟨R, hc, hk⟩ := h.h w s
  refine (body_of hb).upon hc fun e w' hR => ?_
  obtain ⟨v, he, hv⟩ := hk e w' hR
  exact ⟨v, he, hv _ (g.put hd)⟩⟩
/-- a part of a slice that reads -/
theorem t_rtake {α : Type} {E : Elem α} {a : Option Addr} {n cp : Nat} {xs : List α} {F : List Nat} (k : Nat) (h : ∀ F', T c fr (.sl E (.slice a (xs.take k).length cp) (xs.take k) F' :: H) Φ) (hk : k ≤ xs.length) (hm : .sl E (.slice a n cp) xs F ∈ H := by (repeat (first | exact .head _ | apply List.Mem.tail)); first | done | fail) : T c fr H Φ := .mk fun ac w s g => by
  obtain ⟨hz, hs⟩ := s.get hm
  obtain ⟨F', hF, h2⟩ := hs.takeS k hk
  have hl : (xs.take k).length = k := by simp [Nat.min_eq_left hk]
  have h' := h F'
  rw [hl] at h'
  exact h'.h _ w (s.ro hm rfl rfl ⟨hz, h2⟩ hF) g
end
end Go.Proofs.YtidephmobajikaaGreatDoor
/- Rows written as wholes: an owned slice as its row and back, copying, appending that grows, functions that are entries of the model, parts of a slice as values. -/
namespace Go.Proofs.YtidephmobajikaaGreatDoor
open Go.RowKit
theorem hsub_refl : ∀ (H : List Pc), HSub H H
  | [] => .nil
  | _ :: R => .cons .here (hsub_refl R)
theorem Flat.all {α : Type} {E : Elem α} {w : World} {cs : List Value} {xs : List α} (h : Flat E w cs xs []) (w' : World) : Flat E w' cs xs [] := h.frame (by simp)
theorem Flat.cutL {α : Type} {E : Elem α} {w : World} {cs : List Value} {xs : List α} (h : Flat E w cs xs []) (i : Nat) (hi : i ≤ xs.length) : Flat E w (cs.take (i * E.sz)) (xs.take i) [] ∧ Flat E w (cs.drop (i * E.sz)) (xs.drop i) [] := by
  rw [← List.take_append_drop i xs] at h
  obtain ⟨c1, c2, G1, G2, rfl, hG, h1, h2⟩ := h.split
  obtain ⟨rfl, rfl⟩ := List.append_eq_nil_iff.1 hG.symm
  have hl := h1.len
  rw [List.length_take, Nat.min_eq_left hi] at hl
  rw [List.take_left' hl, List.drop_left' hl]
  exact ⟨h1, h2⟩
theorem Flat.insL {α : Type} {E : Elem α} {w : World} {cs c1 : List Value} {xs : List α} {x : α} (h : Flat E w cs xs []) (h1 : Flat E w c1 [x] []) (i : Nat) (hi : i ≤ xs.length) : Flat E w (cs.take (i * E.sz) ++ c1 ++ cs.drop (i * E.sz)) (xs.take i ++ x :: xs.drop i) [] := by
  obtain ⟨ha, hb⟩ := h.cutL i hi
  have := (ha.append h1).append hb
  simpa using this
section
variable {P : Program} {n : Nat} {fr : Fr} {H : List Pc} {ty : TypeId} {x y z : Operand}
/-- what stands from i on, aS a value -/
theorem yd_slv {t e m i g o len cp : Nat} {kd : IntKind} {q : Int} [hS : SlC P t e m] (hx : ev fr x = some (.slice (some ⟨g, o, none⟩) len cp)) (hy : ev fr y = some (.int kd q)) (hq : q = (i : Int)) (hi : i ≤ len) (hc : i < cp) (hlc : len ≤ cp) : Yd P n fr H (.slice t x (some y) none none) ty (.slice (some ⟨g, o + i * m, none⟩) (len - i) (cp - i)) := .mk fun ac w d pos aft gd hA _ => by
  subst hq
  have he2 : P.elem t = e := by simp [Program.elem, hS.u]
  have h3 : (Instr.sliceAt t (.slice (some ⟨g, o, none⟩) len cp) (some (.int kd (i : Int))) none none).run P w = .ok (.slice (some ⟨g, o + i * m, none⟩) (len - i) (cp - i)) w := by
    rw [run_sliceAt_slice (h := by rw [he2]; exact hS.u), run_slice_l (ht := by rw [he2]; exact hS.u) (h0 := by omega) (h1 := by omega), he2, size_of hS.s]
    have h0 : ¬ (cp - i = 0) := by omega
    have h0' : ¬ (cp = i) := by omega
    simp [Result.andThen, sliced, h0, h0', Addr.add_lit]
  simp only [execOp, Option.map_none, Option.map_some, hA.ev hx, hA.ev hy, Sem.run_bind, h3, Result.andThen_ok, Sem.run_pure]
theorem yd_cvu {k : IntKind} {a : Int} {s t : TypeId} [hS : IntC P s k] [hD : IntC P t .u64] (hx : ev fr x = some (.int k a)) (h0 : 0 ≤ a) (h1 : a ≤ 18446744073709551615) : Yd P n fr H (.convert s t x) ty (.int .u64 a) := .mk fun c w d pos aft gd hA _ => by
  simp [execOp, hA.ev hx, convert, run_underlying hS.u, run_underlying hD.u, Conv.intToInt, IntWalk.u64_in _ ⟨h0, h1⟩]
theorem yd_shr1 {a : Int} {t t' : TypeId} (hx : ev fr x = some (.int .u64 a)) : Yd P n fr H (.binOp .shr t x (.const (.int .u64 1)) t') ty (.int .u64 (a / 2)) := .mk fun c w d pos aft gd hA _ => by
  have e : Op.shift .shr .u64 a .u64 1 = pure (.int .u64 (a / 2)) := by rw [shift_shr .u64 .u64 a 1 (by decide) (by decide)]; rfl
  have e2 : binOp .shr t (.int .u64 a) (.int .u64 1) = Op.shift .shr .u64 a .u64 1 := rfl
  have e3 : c.eval (.const (.int .u64 1)) = .int .u64 1 := rfl
  simp only [execOp, hA.ev hx, e3, eqGuard_shr, e2, e, Sem.run_bind, Sem.run_pure, Result.andThen_ok]
theorem yd_cap {a : Option Addr} {len cp t e m : Nat} [hS : SlC P t e m] (hx : ev fr x = some (.slice a len cp)) : Yd P n fr H (.call { callee := .builtin .cap, args := #[x], argTypes := #[t] }) ty (.int .i64 cp) := .mk fun ac w d pos aft gd hA _ => by
  simp [execOp, hA.ev hx, resolve, invoke, builtin, Builtin.cap_, run_underlying hS.u, goInt]
end
section
variable {c : Cx} {fr : Fr} {H k' : List Pc} {k : List It} {Φ : Gl} {d : Nat} {o : Op} {ty : TypeId} {v u : Value} {x y : Operand}
/-- an owned slice is its row -/
theorem t_rowof {α : Type} {E : Elem α} (sc : Scal E) {t n cp : Nat} {a : Option Addr} {xs : List α} {F : List Nat} {S : List Pc} (h0 : xs ≠ [])
    (h : ∀ g cs rest, a = some ⟨g, 0, none⟩ → n = xs.length → xs.length ≤ cp → cp ≤ 9223372036854775807 → cs.length = xs.length * E.sz → cs.length + rest.length = cp * E.sz → (∀ w, Flat E w cs xs []) → T c fr (.row g t 0 [] (cs ++ rest) [] :: S) Φ)
    (hp : Pick H (.ow E t (.slice a n cp) xs F) S := by (repeat (first | exact .here | apply Pick.there)); first | done | fail) : T c fr H Φ := .mk fun ac w s g' => by
  have s1 := s.pick hp
  obtain ⟨hnd, ho⟩ := s1.on (.ow E t (.slice a n cp) xs F) (by simp)
  have hF := ho.scal sc
  rcases ho with ⟨-, h2, -⟩ | ⟨g, cap, cs, rest, G, h1, h2, h3, h4, h5, h6, h7⟩
  · exact absurd h2 h0
  · cases h1
    have hG : G = [] := by rw [h7] at hF; simpa [Value.ownBlock] using hF
    subst hG h7
    have hl := h6.len
    refine (h g cs rest rfl rfl h3 (by unfold maxLen at h4; omega) hl h5 (fun w' => h6.all w')).h ac w (s1.conv rfl ⟨rfl, by simpa using h2⟩ (by simp [Pc.F])) g'
/-- .. and back -/
theorem t_owof {α : Type} {E : Elem α} {t g : Nat} {L cs rest : List Value} {xs : List α} {S : List Pc} (cp : Nat) (hL : L = cs ++ rest) (hf : ∀ w, Flat E w cs xs []) (h1 : xs.length ≤ cp) (h2 : cp ≤ 9223372036854775807) (h3 : L.length = cp * E.sz)
    (h : T c fr (.ow E t (.slice (some ⟨g, 0, none⟩) xs.length cp) xs [g] :: S) Φ) (hp : Pick H (.row g t 0 [] L []) S := by (repeat (first | exact .here | apply Pick.there)); first | done | fail) : T c fr H Φ := .mk fun ac w s g' => by
  subst hL
  have s1 := s.pick hp
  have hr := (s1.on (.row g t 0 [] (cs ++ rest) []) (by simp)).2
  exact h.h ac w (s1.conv rfl ⟨by simp, .inr ⟨g, cp, cs, rest, [], rfl, by simpa using hr, h1, by unfold maxLen; omega, by simpa using h3, hf w, rfl⟩⟩ (by simp [Pc.F])) g'
/-- an entry of the model that yields a value -/
theorem o_ext {f : Nat} {aS : List Operand} {ts : Array TypeId} {vs : List Value} (hd : Nat.blt d c.n = true) (ha : Evs fr aS vs) (hv : ∀ w, St c.G c.D c.w0 H w → (callFunc f vs.toArray).run c.P w = .ok (.value v) w) (h : T c ((d, v) :: fr) H Φ) : On c fr H (some d) (.call { callee := .value (.func f), args := aS.toArray, argTypes := ts }) ty Φ := ⟨fun _ _ _ => ef_of fun Q a w s g => by
  have e : ∀ pos aft gd, (execOp a.eval ⟨some d, .call { callee := .value (.func f), args := aS.toArray, argTypes := ts }, ty, pos, aft, gd⟩).run c.P w = .ok (.value v) w := by
    intro pos aft gd
    simp [execOp, resolve, Deferred.ofValue, Act.eval, invoke, g.evs ha, hv w s]
  rw [e]
  exact h.h _ _ s (g.put hd)⟩
theorem shape_row {w : World} {g : Nat} {t : TypeId} {cs : List Value} (h : Row w g t cs) : w.shape? g = some (t, cs.length) := by
  unfold World.shape?; rw [show w.heap[g]? = _ from h]; simp
/-- two rows do not overlap -/
theorem ovl {f : Nat} {tS tR e m : Nat} [hS : SlC c.P tS e m] {g o g2 o2 la ca lb cb t1 t2 : Nat} {L L2 : List Value}
    (he : ∀ (args : Array Value) (w : World), (callFunc f args).run c.P w = ((Extern.SlicesOverlaps.overlaps #[tS, tS] #[tR] args).run c.P w).andThen fun v w => .ok (.value v) w)
    (h1 : Pick H (.row g t1 0 [] L []) k') (h2 : .row g2 t2 0 [] L2 [] ∈ k') (hL : L2 ≠ []) (w : World) (s : St c.G c.D c.w0 H w) :
    (callFunc f [Value.slice (some ⟨g, o, none⟩) la ca, .slice (some ⟨g2, o2, none⟩) lb cb].toArray).run c.P w = .ok (.value (.bool false)) w := by
  have s1 := s.pick h1
  have r1 := (s1.on (.row g t1 0 [] L []) (by simp)).2
  have r2 := (s1.on (.row g2 t2 0 [] L2 []) (by simp [h2])).2
  have hne : g ≠ g2 := fun e' => s1.sep.1 (.row g2 t2 0 [] L2 []) h2 (by simp [Pc.mu]) g (by simp [Pc.F]) (by simp [Pc.F, e'])
  simp only [List.nil_append, List.append_nil] at r1 r2
  rw [he, Lib.run_overlaps_apart w tS tR e hS.u m (fun w => size_of hS.s w) ⟨g, o, none⟩ ⟨g2, o2, none⟩ la ca lb cb hne t1 t2 L.length L2.length (shape_row r1) (shape_row r2) (by simpa using hL) (r1.frozen _) (r1.frozen _)]
  rfl
theorem cpyM {P M Q d L : List Value} {o : Nat} (hL : L = P ++ M ++ Q) (ho : o = P.length) (hd : M.length = d.length) : P ++ d ++ Q = L.take o ++ d ++ L.drop (o + d.length) := by
  subst hL ho
  rw [List.append_assoc P M Q, List.take_left, ← hd, ← List.append_assoc, ← List.length_append, List.drop_left]
theorem shiftL {B R : List Value} (m : Nat) (h : m ≤ R.length) : ∃ X Y, B ++ R = X ++ Y ++ R.drop m ∧ X.length = m ∧ Y.length = B.length := by
  refine ⟨(B ++ R).take m, ((B ++ R).drop m).take B.length, ?_, by simp; omega, by simp; omega⟩
  have : R.drop m = ((B ++ R).drop m).drop B.length := by rw [List.drop_drop, Nat.add_comm, ← List.drop_drop, List.drop_left]
  rw [this, List.append_assoc, List.take_append_drop, List.take_append_drop]
/-- the world says what a row holds -/
theorem src_row {g t o m : Nat} {L cs : List Value} (h1 : .row g t 0 [] L [] ∈ H) (hc : cs = (L.drop o).take m) (w : World) (s : St c.G c.D c.w0 H w) : ∀ j u, cs[j]? = some u → w.cell? ((⟨g, o, none⟩ : Addr).add j) = some u := fun j u hu => by
  subst hc
  have r1 := (s.on (.row g t 0 [] L []) h1).2
  simp only [List.nil_append, List.append_nil] at r1
  rw [Addr.add_lit, r1.cell]
  rw [List.getElem?_take] at hu
  split at hu
  · rw [List.getElem?_drop] at hu; exact hu
  · cases hu
theorem run_copyN {P : Program} (w : World) (dT sT ty elem m : TypeId) (b o dLen dCap : Nat) (a : Addr) (sLen sCap : Nat) (cs : List Value)
    (hu : P.underlying dT = some (.slice elem)) (hs : (P.info? elem).map (·.size) = some m) (hn : cs.length = Nat.min sLen dLen * m)
    (hsrc : ∀ j v, cs[j]? = some v → w.cell? (a.add j) = some v) (hc : ∀ j, j < cs.length → (w.cell? ⟨b, o + j, none⟩).isSome = true) (hf : ∀ j, j < cs.length → w.frozen? ⟨b, o + j, none⟩ = false) (h1 : ∀ v ∈ cs, v.oneCell' = true) :
    (Builtin.copy_ #[dT, sT] ty #[.slice (some ⟨b, o, none⟩) dLen dCap, .slice (some a) sLen sCap]).run P w = .ok (goInt (Nat.min sLen dLen : Nat)) (w.setCells b o cs) := by
  have hl := run_loadCells_list (P := P) w a cs hsrc
  have hst := run_storeCells_cells (P := P) b o cs 0 w (by simpa using hc) (by simpa using hf) h1
  cases hq : P.info? elem with
  | none => simp [hq] at hs
  | some i =>
    have hi : i.size = m := by simpa [hq] using hs
    simp [Builtin.copy_, run_underlying hu, Builtin.lenOf, Builtin.firstCells, sizeOf, typeInfo, hq, hi, ← hn, hl, hst]
/-- copying into a row -/
theorem o_cpy {dT sT e m g t oo dn dc sn sc : Nat} {ad : Addr} {L L' cs : List Value} {S : List Pc} [hS : SlC c.P dT e m] (hd : Nat.blt d c.n = true) (hx : ev fr x = some (.slice (some ⟨g, oo, none⟩) dn dc)) (hy : ev fr y = some (.slice (some ad) sn sc))
    (hsrc : ∀ w, St c.G c.D c.w0 H w → ∀ j u, cs[j]? = some u → w.cell? (ad.add j) = some u) (hr : Rpl H (.row g t 0 [] L []) (.row g t 0 [] L' []) S)
    (hL : L' = L.take oo ++ cs ++ L.drop (oo + cs.length)) (hn : cs.length = Nat.min sn dn * m) (hfit : oo + cs.length ≤ L.length) (h1 : ∀ v ∈ cs, v.oneCell' = true) (h : T c ((d, .int .i64 (Nat.min sn dn : Nat)) :: fr) S Φ) :
    On c fr H (some d) (.call { callee := .builtin .copy, args := #[x, y], argTypes := #[dT, sT] }) ty Φ := ⟨fun _ _ _ => ef_of fun Q a w s ag => by
  have hP : (Pc.row g t 0 [] L []).P w := by obtain ⟨R, h1, _⟩ := hr.picks; exact s.on _ h1.mem
  have r1 := hP.2
  simp only [List.nil_append, List.append_nil] at r1
  have hrun := fun ty => run_copyN (P := c.P) w dT sT ty e m g oo dn dc ad sn sc cs hS.u hS.s hn (hsrc w s) (fun j hj => by rw [r1.cell, List.getElem?_eq_getElem (by omega)]; rfl) (fun j hj => r1.frozen _) h1
  have e1 : ∀ pos aft gd, (execOp a.eval ⟨some d, .call { callee := .builtin .copy, args := #[x, y], argTypes := #[dT, sT] }, ty, pos, aft, gd⟩).run c.P w = .ok (.value (goInt (Nat.min sn dn : Nat))) (w.setCells g oo cs) := by
    intro pos aft gd
    simp only [execOp, resolve, invoke, builtin, Sem.run_bind, Sem.run_pure, Result.andThen_ok, List.map_toArray, List.map_cons, List.map_nil, ag.ev hx, ag.ev hy, hrun]
  rw [e1]
  have hsplit : L = L.take oo ++ (L.drop oo).take cs.length ++ L.drop (oo + cs.length) := by
    rw [← List.drop_drop, List.append_assoc, List.take_append_drop, List.take_append_drop]
  have r2 := r1
  rw [hsplit] at r2
  have r3 := Row.put cs _ r2 (p := oo) (by simp; omega) (by simp; omega)
  have hk := putCells_keep (g := g) cs w oo
  rw [putCells_eq w g cs w] at r3 hk
  rw [← hL] at r3
  refine h.h _ _ (s.rpl hr rfl (fun b hb => .inl hb) hk ⟨rfl, by simpa using r3⟩) (ag.put hd)⟩
/-- zeros appended that make a slice grow: to a part of a row -/
theorem o_apgz {t tn e m b g oo n cp k : Nat} {zv : Value} {olds : List Value} {q : Int} [hS : SlC c.P t e m] [hE : ElT c.P e zv m b] [hI : IntC c.P tn .i64] (hd : Nat.blt d c.n = true) (hx : ev fr x = some (.slice (some ⟨g, oo, none⟩) n cp)) (hy : ev fr y = some (.int .i64 q)) (hq : q = (k : Int))
    (hso : ∀ w, St c.G c.D c.w0 H w → ∀ j u, olds[j]? = some u → w.cell? ((⟨g, oo, none⟩ : Addr).add j) = some u)
    (hlo : olds.length = n * m) (hm : 0 < m) (hk : 0 < k) (hg : cp < n + k) (h63 : n + k ≤ 4294967296) (hby : (n + k) * b ≤ 140737488355328)
    (h : ∀ g' cp' Z rest, n + k ≤ cp' → cp' ≤ 9223372036854775807 → Z.length = k * m → (olds ++ Z ++ rest).length = cp' * m → T c ((d, .slice (some ⟨g', 0, none⟩) ((n + k : Nat)) cp') :: fr) (.row g' e 0 [] (olds ++ Z ++ rest) [] :: H) Φ) :
    On c fr H (some d) (.call { callee := .builtin .append, args := #[x, y], argTypes := #[t, tn] }) ty Φ := ⟨fun _ _ _ => ef_of fun Q a w s ag => by
  subst hq
  obtain ⟨i, hi, hiz⟩ := Option.map_eq_some_iff.1 hE.i
  simp only [Prod.mk.injEq] at hiz
  obtain ⟨i1, i2, i3⟩ := hiz
  subst i2 i3
  have hold : (Builtin.firstCells i.size n (.slice (some ⟨g, oo, none⟩) n cp)).run c.P w.drew = .ok olds.toArray w.drew := run_firstCells_some w.drew i.size n ⟨g, oo, none⟩ n cp olds hlo (fun j v hj => hso w s j v hj)
  have hr := fun ty => Lib.run_append_grow_zeros (P := c.P) w t tn ty e i zv .i64 .i64 hS.u hI.u hi i1 (some ⟨g, oo, none⟩) n cp olds hold k hk hm hg (by omega) (Nat.le_trans (Nat.mul_le_mul_right _ (by omega)) (Nat.le_trans hby (by decide))) (growslice_fits hg hby)
  have e1 : ∀ pos aft gd, (execOp a.eval ⟨some d, .call { callee := .builtin .append, args := #[x, y], argTypes := #[t, tn] }, ty, pos, aft, gd⟩).run c.P w = .ok (.value (.slice (some ⟨w.heap.size, 0, none⟩) (n + k) (grownCap w (n + k) cp e))) (w.drew.alloc (.cells (olds.toArray ++ Builtin.zeroCells zv.cells k ++ Builtin.zeroCells zv.cells (grownCap w (n + k) cp e - (n + k))) e)) := by
    intro pos aft gd
    simp only [execOp, resolve, invoke, builtin, Sem.run_bind, Sem.run_pure, Result.andThen_ok, List.map_toArray, List.map_cons, List.map_nil, ag.ev hx, ag.ev hy, hr]
  rw [e1]
  have hge := grownCap_ge w (n + k) cp e
  have hle := grownCap_le_maxLen w (n + k) cp e (by unfold maxLen; omega)
  have hBel : Below w.heap.size w (w.drew.alloc (.cells (olds.toArray ++ Builtin.zeroCells zv.cells k ++ Builtin.zeroCells zv.cells (grownCap w (n + k) cp e - (n + k))) e)) := (belowDrewN (Below.refl w.heap.size w) 1).alloc (Nat.le_refl _) _
  have hz : ∀ q, (Builtin.zeroCells zv.cells q).toList.length = q * i.size := fun q => by rw [zeroCells_len, hE.s]
  refine (h w.heap.size (grownCap w (n + k) cp e) (Builtin.zeroCells zv.cells k).toList (Builtin.zeroCells zv.cells (grownCap w (n + k) cp e - (n + k))).toList hge (by unfold maxLen at hle; omega) (hz k) ?_).h _ _ (s.add (N := [.row w.heap.size e 0 [] (olds ++ (Builtin.zeroCells zv.cells k).toList ++ (Builtin.zeroCells zv.cells (grownCap w (n + k) cp e - (n + k))).toList) []]) hBel ?_ ⟨by simp, trivial⟩ ?_) (ag.put hd)
  · rw [List.length_append, List.length_append, hz, hz, hlo, ← Nat.add_mul, ← Nat.add_mul]; congr 1; omega
  · intro p hp
    rw [List.mem_singleton] at hp; subst hp
    refine ⟨rfl, ?_⟩
    have := Row.made w.drew e (olds ++ (Builtin.zeroCells zv.cells k).toList ++ (Builtin.zeroCells zv.cells (grownCap w (n + k) cp e - (n + k))).toList)
    rw [List.nil_append, List.append_nil]
    have e2 : (olds ++ (Builtin.zeroCells zv.cells k).toList ++ (Builtin.zeroCells zv.cells (grownCap w (n + k) cp e - (n + k))).toList).toArray = olds.toArray ++ Builtin.zeroCells zv.cells k ++ Builtin.zeroCells zv.cells (grownCap w (n + k) cp e - (n + k)) := by apply Array.ext'; simp
    rw [e2] at this
    exact this
  · intro p hp b hb
    rw [List.mem_singleton] at hp; subst hp
    simp [Pc.F] at hb; subst hb
    exact .inl (Nat.le_refl _)⟩
/-- a part of a slice that nobody looks at -/
theorem o_slany {t e m n cp i : Nat} {a : Option Addr} {q : Int} [hS : SlC c.P t e m] (hd : Nat.blt d c.n = true) (hx : ev fr x = some (.slice a n cp)) (hy : ev fr y = some (.int .i64 q)) (hq : q = (i : Int)) (hi : i ≤ n) (h : ∀ v, T c ((d, v) :: fr) H Φ) (hlc : n ≤ cp := by omega) : On c fr H (some d) (.slice t x (some y) none none) ty Φ := ⟨fun _ _ _ => ef_of fun Q ac w s g => by
  subst hq
  have he2 := elem_of hS
  obtain ⟨v, h3⟩ : ∃ v, (Instr.sliceAt t (.slice a n cp) (some (.int .i64 (i : Int))) none none).run c.P w = .ok v w := by
    rw [run_sliceAt_slice (h := by rw [he2]; exact hS.u), run_slice_l (ht := by rw [he2]; exact hS.u) (h0 := by omega) (h1 := by omega), he2, size_of hS.s]
    exact ⟨_, rfl⟩
  have e1 : ∀ pos aft gd, (execOp ac.eval ⟨some d, .slice t x (some y) none none, ty, pos, aft, gd⟩).run c.P w = .ok (.value v) w := by
    intro pos aft gd
    simp only [execOp, Option.map_none, Option.map_some, g.ev hx, g.ev hy, Sem.run_bind, h3, Result.andThen_ok, Sem.run_pure]
  rw [e1]
  exact (h v).h _ w s (g.put hd)⟩
end
end Go.Proofs.YtidephmobajikaaGreatDoor
/- The type Packet of the exact laws: how it reads, how it is owned; the walks of its size, copy, equality, mark and held. Written by wip/gentypes.py. -/
namespace Go.Proofs.YtidephmobajikaaGreatDoor
open Go.RowKit
structure Packet where
  kind : Int
  number : Int
  trail : Int
  lead : Int
  data : ByteArray
/-- read -/
def EPacket : Elem Packet where
  sz := 5
  rep _ cs x F := cs = [.int .i64 x.kind, .int .i64 x.number, .int .i64 x.trail, .int .i64 x.lead, .string x.data] ∧ x.data.size ≤ maxLen ∧ F = []
  len h := by obtain ⟨rfl, s1, rfl⟩ := h; rfl
  lt h := by obtain ⟨rfl, s1, rfl⟩ := h; simp
  frame h _ := h
theorem one_EPacket : One EPacket := fun h u hu => by
  obtain ⟨rfl, s1, rfl⟩ := h
  simp only [List.mem_cons, List.not_mem_nil, or_false] at hu
  rcases hu with rfl | rfl | rfl | rfl | rfl
  · rfl
  · rfl
  · rfl
  · rfl
  · rfl
def wtPacket (x : Packet) : Nat := x.data.size
def cntPacket (x : Packet) : Nat := cntI x.kind + cntI x.number + cntI x.trail + cntI x.lead + cntS x.data
def mkPacket (k : Int) (x : Packet) : Packet := ⟨mkI (k) x.kind, mkI (k + cntI x.kind) x.number, mkI (k + cntI x.kind + cntI x.number) x.trail, mkI (k + cntI x.kind + cntI x.number + cntI x.trail) x.lead, mkS (k + cntI x.kind + cntI x.number + cntI x.trail + cntI x.lead) x.data⟩
set_option maxHeartbeats 800000 in
theorem szPacket_c (v : Value) (x : Packet) (F : List Nat) (n : Int) (w : World) (h : IsV EPacket w v x F) (h0 : 0 ≤ n) (h1 : n ≤ 1048576) :
    Calls Tryz.prog 55 #[v, .int .i64 n] w fun e w' => e = .returned (.int .i64 (szr n (wtPacket x))) ∧ Below w.heap.size w w' := by
  obtain ⟨_, rfl, rfl, s1, rfl⟩ := h
  have hB0 : ∀ A : Obj, Below w.heap.size w (w.alloc A) := fun A => (Below.refl _ _).alloc (Nat.le_refl _) _
  unfold maxLen at s1
  unfold wtPacket
  go_enter Tryz.func55, Tryz.ntmps55
  go_wp2
  all_goals go_ret
  all_goals exact ⟨ret_int (by unfold szr; split <;> omega), hB0 _⟩
set_option maxHeartbeats 1600000 in
theorem toPacket_c (v : Value) (x : Packet) (F : List Nat) (w : World) (h : IsV EPacket w v x F) (hl : wtPacket x ≤ 1048576) :
    Calls Tryz.prog 57 #[v] w (RetV EPacket x w) := by
  obtain ⟨_, rfl, rfl, s1, rfl⟩ := h
  have hB0 : ∀ A B C : Obj, Below w.heap.size w (((w.alloc A).alloc B).alloc C) := fun A B C => (((Below.refl _ _).alloc (Nat.le_refl _) _).alloc (by simp) _).alloc (by simp <;> omega) _
  go_enter Tryz.func57, Tryz.ntmps57
  go_wp2_with fail
  refine bodyPost_ret (v := .agg #[.int .i64 x.kind, .int .i64 x.number, .int .i64 x.trail, .int .i64 x.lead, .string x.data]) ?_ rfl ?_
  · simp [results, Tryz.results57, go_sem]
  · exact ⟨_, [], rfl, ⟨_, rfl, rfl, s1, rfl⟩, by simp, by simp, by repeat (first | exact Below.refl _ _ | refine Below.setCell ?_ (by simp <;> omega) _ | refine Below.alloc ?_ (by simp <;> omega) _)⟩
set_option maxHeartbeats 1600000 in
theorem eqPacket_c (va vb : Value) (x : Packet) (Fa Fb : List Nat) (w : World) (ha : IsV EPacket w va x Fa) (hb : IsV EPacket w vb x Fb) :
    Calls Tryz.prog 125 #[va, vb] w fun e w' => e = .returned (.bool true) ∧ Below w.heap.size w w' := by
  obtain ⟨_, rfl, rfl, s1, rfl⟩ := ha
  obtain ⟨_, rfl, rfl, t1, rfl⟩ := hb
  have hB0 : ∀ A B : Obj, Below w.heap.size w ((w.alloc A).alloc B) := fun A B => ((Below.refl _ _).alloc (Nat.le_refl _) _).alloc (by simp) _
  have hE : ∀ z : Int, (z != z) = false := fun z => by simp
  go_enter Tryz.func125, Tryz.ntmps125
  go_wp2_with fail
  go_ret
  exact ⟨rfl, hB0 _ _⟩
set_option maxHeartbeats 1600000 in
theorem eqPacketS_c (va vb : Value) (xs : List Packet) (Fa Fb : List Nat) (w : World) (ha : Sl EPacket w va xs Fa) (hb : Sl EPacket w vb xs Fb) :
    Calls Tryz.prog 59 #[va, vb] w fun e w' => e = .returned (.bool true) ∧ Below w.heap.size w w' := by
  obtain ⟨a, ca, rfl⟩ := ha.slice
  obtain ⟨b, cb, rfl⟩ := hb.slice
  have hl := ha.len
  unfold maxLen at hl
  go_enter Tryz.func59, Tryz.ntmps59
  go_wp2
  go_loopw [5] (fun i wr => ∃ k : Nat, k ≤ xs.length ∧ i = .int .i64 k ∧ Below w.heap.size w wr) (fun i _ => xs.length - (intOf i).toNat)
  case atStart => exact ⟨0, Nat.zero_le _, rfl, Below.refl _ _⟩
  case round =>
    obtain ⟨k, hk, rfl, hB⟩ := hrel
    by_cases hlt : k < xs.length
    · obtain ⟨ba, oa, _, F_, rfl, hx, -, ja⟩ := (ha.below (by decide) hB).at k hlt
      obtain ⟨bb, ob, _, G_, rfl, hy, -, jb⟩ := (hb.below (by decide) hB).at k hlt
      obtain ⟨rfl, s1, rfl⟩ := id hx
      obtain ⟨rfl, t1, rfl⟩ := id hy
      have a0 := ja 0 (by decide); have b0 := jb 0 (by decide)
      have a1 := ja 1 (by decide); have b1 := jb 1 (by decide)
      have a2 := ja 2 (by decide); have b2 := jb 2 (by decide)
      have a3 := ja 3 (by decide); have b3 := jb 3 (by decide)
      have a4 := ja 4 (by decide); have b4 := jb 4 (by decide)
      simp only [show EPacket.sz = 5 from rfl, Nat.mul_one, Nat.add_zero, List.getElem?_cons_zero, List.getElem?_cons_succ] at a0 b0 a1 b1 a2 b2 a3 b3 a4 b4
      clear ja jb
      go_wp2_with fail
      go_region_held3 (fun w' => w'.cell? ⟨ba, oa + k * 5, none⟩ = some (.int .i64 xs[k].kind) ∧ w'.cell? ⟨ba, oa + k * 5 + 1, none⟩ = some (.int .i64 xs[k].number) ∧ w'.cell? ⟨ba, oa + k * 5 + 2, none⟩ = some (.int .i64 xs[k].trail) ∧ w'.cell? ⟨ba, oa + k * 5 + 3, none⟩ = some (.int .i64 xs[k].lead) ∧ w'.cell? ⟨ba, oa + k * 5 + 4, none⟩ = some (.string xs[k].data) ∧ w'.cell? ⟨bb, ob + k * 5, none⟩ = some (.int .i64 xs[k].kind) ∧ w'.cell? ⟨bb, ob + k * 5 + 1, none⟩ = some (.int .i64 xs[k].number) ∧ w'.cell? ⟨bb, ob + k * 5 + 2, none⟩ = some (.int .i64 xs[k].trail) ∧ w'.cell? ⟨bb, ob + k * 5 + 3, none⟩ = some (.int .i64 xs[k].lead) ∧ w'.cell? ⟨bb, ob + k * 5 + 4, none⟩ = some (.string xs[k].data))
        (first | go_keep | (exact ⟨kc hb1 (by simpa using a0), kc hb1 (by simpa using a1), kc hb1 (by simpa using a2), kc hb1 (by simpa using a3), kc hb1 (by simpa using a4), kc hb1 (by simpa using b0), kc hb1 (by simpa using b1), kc hb1 (by simpa using b2), kc hb1 (by simpa using b3), kc hb1 (by simpa using b4)⟩))
        (first | (go_at_call 125; refine (eqPacket_c _ _ xs[k] _ _ wr.drew ⟨_, rfl, EPacket.frame hx (fun _ _ => rfl)⟩ ⟨_, rfl, EPacket.frame hy (fun _ _ => rfl)⟩).mono ?_; rintro e w1 ⟨rfl, hb1⟩))
      go_wp2_with fail
      exact ⟨⟨k + 1, by omega, by go_num, tr (belowDrewN hB 1) hb1 (Nat.le_refl _)⟩, by simp [intOf]; omega⟩
    · go_wp2_with fail
      go_ret
      exact ⟨rfl, hB⟩
set_option maxHeartbeats 1600000 in
theorem markPacketS_c (v : Value) (xs : List Packet) (F : List Nat) (k0 : Int) (w : World) (h : Ow EPacket 76 w v xs F) (hn : F.Nodup) (h0 : 0 ≤ k0) (h1 : k0 + cntL cntPacket xs ≤ 1099511627776) :
    Calls Tryz.prog 61 #[v, .int .i64 k0] w (RetMark EPacket 76 v (k0 + cntL cntPacket xs) (markL mkPacket cntPacket k0 xs) F w) := by
  obtain ⟨a, cap, rfl⟩ := h.slice
  have hl := h.len
  unfold maxLen at hl
  go_enter Tryz.func61, Tryz.ntmps61
  go_wp2
  go_loopw [1, 5] (fun kk i wr => ∃ k : Nat, k ≤ xs.length ∧ i = .int .i64 k ∧ kk = .int .i64 (k0 + psum cntPacket xs k) ∧ Ow EPacket 76 wr (.slice a xs.length cap) ((markL mkPacket cntPacket k0 xs).take k ++ xs.drop k) F ∧ Keep F w wr) (fun _ i _ => xs.length - (intOf i).toNat)
  case atStart => exact ⟨0, Nat.zero_le _, rfl, by rw [psum_zero]; simp, by simpa using h, Keep.refl _ _⟩
  case round =>
    obtain ⟨k, hk, rfl, rfl, ho, hK⟩ := hrel
    by_cases hlt : k < xs.length
    · have hln : k < ((markL mkPacket cntPacket k0 xs).take k ++ xs.drop k).length := by simp [markL_len]; omega
      have hsn := Lib.hid (psum_snoc cntPacket xs k hlt)
      have hsl : k0 + psum cntPacket xs k + cntPacket xs[k] ≤ 1099511627776 := by have := hsn.out; have := cntL_le cntPacket xs (k + 1); omega
      obtain ⟨g, rfl⟩ := ho.head k hln
      obtain ⟨A, c, B, Fi, hrow, hA, hcl, hx, hnF, hgF, hgm, hsub, back⟩ := ho.inPlace hn k hln
      rw [mid_get _ _ _ (markL_len ..) hlt] at hx
      simp only [show EPacket.sz = 5 from rfl] at hA
      have hst := Lib.hid (markL_step mkPacket cntPacket xs k0 k hlt)
      simp only [cntI, cntPacket, cntS] at hsl
      obtain ⟨rfl, s1, rfl⟩ := hx
      have KK := Keep.refl (g :: []) wr
      clear ho
      have z0 := hrow.cellMid (p := k * 5) (j := 0) (by omega) (by simp)
      have z1 := hrow.cellMid (p := k * 5 + 1) (j := 1) (by omega) (by simp)
      have z2 := hrow.cellMid (p := k * 5 + 2) (j := 2) (by omega) (by simp)
      have z3 := hrow.cellMid (p := k * 5 + 3) (j := 3) (by omega) (by simp)
      have z4 := hrow.cellMid (p := k * 5 + 4) (j := 4) (by omega) (by simp)
      simp only [List.getElem?_cons_zero, List.getElem?_cons_succ] at z0 z1 z2 z3 z4
      have hfz := hrow.frozens
      have HBk := Lib.hid back; clear back
      go_wp2_with fail
      refine (markText_c (k0 + psum cntPacket xs k + 1 + 1 + 1 + 1) _ (by omega) (by omega)).mono ?_
      rintro e w1 ⟨rfl, hb1⟩
      have hrow : Row w1 g 76 (A ++ [.int .i64 (k0 + psum cntPacket xs k), .int .i64 (k0 + psum cntPacket xs k + 1), .int .i64 (k0 + psum cntPacket xs k + 1 + 1), .int .i64 (k0 + psum cntPacket xs k + 1 + 1 + 1), .string xs[k].data] ++ B) := Row.keepK (by exact (Row.setMid (Row.setMid (Row.setMid (Row.setMid hrow (p := k * 5) (j := 0) (by omega) (by simp) (.int .i64 (k0 + psum cntPacket xs k))) (p := k * 5 + 1) (j := 1) (by omega) (by simp) (.int .i64 (k0 + psum cntPacket xs k + 1))) (p := k * 5 + 2) (j := 2) (by omega) (by simp) (.int .i64 (k0 + psum cntPacket xs k + 1 + 1))) (p := k * 5 + 3) (j := 3) (by omega) (by simp) (.int .i64 (k0 + psum cntPacket xs k + 1 + 1 + 1)))) (Keep.ofBelow (F := []) hb1) (by simp)
      have KK := Keep.trans (F := g :: []) (a := wr) (by (repeat (refine Keep.setCell ?_ (by simp) _)); exact KK) (Keep.mono (Keep.ofBelow (F := []) hb1) (fun b hb _ => by simp at hb))
      clear hb1
      have z0 := hrow.cellMid (p := k * 5) (j := 0) (by omega) (by simp)
      have z1 := hrow.cellMid (p := k * 5 + 1) (j := 1) (by omega) (by simp)
      have z2 := hrow.cellMid (p := k * 5 + 2) (j := 2) (by omega) (by simp)
      have z3 := hrow.cellMid (p := k * 5 + 3) (j := 3) (by omega) (by simp)
      have z4 := hrow.cellMid (p := k * 5 + 4) (j := 4) (by omega) (by simp)
      simp only [List.getElem?_cons_zero, List.getElem?_cons_succ] at z0 z1 z2 z3 z4
      have hfz := hrow.frozens
      go_wp2_with fail
      have HB := HBk.out _ [.int .i64 (k0 + psum cntPacket xs k), .int .i64 (k0 + psum cntPacket xs k + 1), .int .i64 (k0 + psum cntPacket xs k + 1 + 1), .int .i64 (k0 + psum cntPacket xs k + 1 + 1 + 1), .string (mtext (k0 + psum cntPacket xs k + 1 + 1 + 1 + 1))] (mkPacket (k0 + psum cntPacket xs k) xs[k]) (by exact (Row.setMid hrow (p := k * 5 + 4) (j := 4) (by omega) (by simp) (.string (mtext (k0 + psum cntPacket xs k + 1 + 1 + 1 + 1))))) ⟨rfl, mtext_len _, rfl⟩ (by (repeat (refine Keep.setCell ?_ (by simp) _)); exact KK)
      rw [hst.out] at HB
      exact ⟨⟨k + 1, by omega, by go_num, congrArg (Value.int .i64) (by rw [hsn.out]; simp only [cntI, cntPacket, cntS]; omega), HB, by (repeat (refine Keep.setCell ?_ hgm _)); exact hK.trans (KK.mono (fun b hb _ => by rcases List.mem_cons.1 hb with rfl | hb; exact hgm; exact hsub b hb))⟩, by simp [intOf]; omega⟩
    · have hk : k = xs.length := by omega
      subst hk
      have HO := Lib.hid ho
      clear ho
      go_wp2
      go_ret
      exact ⟨ret_int (by rw [cntL_eq]), by simpa [markL_len, List.take_of_length_le] using HO.out, hK⟩
set_option maxHeartbeats 1600000 in
theorem heldPacketS_c (v : Value) (xs : List Packet) (F : List Nat) (k0 : Int) (w : World) (h : Sl EPacket w v (markL mkPacket cntPacket k0 xs) F) (h0 : 0 ≤ k0) (h1 : k0 + cntL cntPacket xs ≤ 1099511627776) :
    Calls Tryz.prog 63 #[v, .int .i64 k0] w fun e w' => e = .returned (.int .i64 (k0 + cntL cntPacket xs)) ∧ Below w.heap.size w w' := by
  obtain ⟨a, cap, rfl⟩ := h.slice
  have hl := h.len
  unfold maxLen at hl
  have hml := Lib.hid (markL_len mkPacket cntPacket xs k0)
  rw [hml.out] at hl
  rw [hml.out]
  have hE : ∀ z : Int, (z != z) = false := fun z => by simp
  go_enter Tryz.func63, Tryz.ntmps63
  go_wp2
  go_loopw [1, 5] (fun kk i wr => ∃ k : Nat, k ≤ xs.length ∧ i = .int .i64 k ∧ kk = .int .i64 (k0 + psum cntPacket xs k) ∧ Below w.heap.size w wr) (fun _ i _ => xs.length - (intOf i).toNat)
  case atStart => exact ⟨0, Nat.zero_le _, rfl, by rw [psum_zero]; simp, Below.refl _ _⟩
  case round =>
    obtain ⟨k, hk, rfl, rfl, hB⟩ := hrel
    by_cases hlt : k < xs.length
    · have hsn := Lib.hid (psum_snoc cntPacket xs k hlt)
      have hsl : k0 + psum cntPacket xs k + cntPacket xs[k] ≤ 1099511627776 := by have := hsn.out; have := cntL_le cntPacket xs (k + 1); omega
      obtain ⟨b, off, _, F1, hab, hx, -, ja⟩ := (h.below (by decide) hB).at k (by rw [hml.out]; exact hlt)
      rw [markL_get mkPacket cntPacket xs k0 k hlt] at hx
      rw [hml.out] at h
      subst hab
      simp only [cntI, cntPacket, cntS] at hsl
      obtain ⟨rfl, s1, rfl⟩ := hx
      have a0 : wr.cell? ⟨b, off + k * 5, none⟩ = some (.int .i64 (k0 + psum cntPacket xs k)) := by have := ja 0 (by decide); simp only [show EPacket.sz = 5 from rfl, Nat.mul_one, Nat.add_zero, List.getElem?_cons_zero, List.getElem?_cons_succ] at this; exact this
      have a1 : wr.cell? ⟨b, off + k * 5 + 1, none⟩ = some (.int .i64 (k0 + psum cntPacket xs k + 1)) := by have := ja 1 (by decide); simp only [show EPacket.sz = 5 from rfl, Nat.mul_one, Nat.add_zero, List.getElem?_cons_zero, List.getElem?_cons_succ] at this; exact this
      have a2 : wr.cell? ⟨b, off + k * 5 + 2, none⟩ = some (.int .i64 (k0 + psum cntPacket xs k + 1 + 1)) := by have := ja 2 (by decide); simp only [show EPacket.sz = 5 from rfl, Nat.mul_one, Nat.add_zero, List.getElem?_cons_zero, List.getElem?_cons_succ] at this; exact this
      have a3 : wr.cell? ⟨b, off + k * 5 + 3, none⟩ = some (.int .i64 (k0 + psum cntPacket xs k + 1 + 1 + 1)) := by have := ja 3 (by decide); simp only [show EPacket.sz = 5 from rfl, Nat.mul_one, Nat.add_zero, List.getElem?_cons_zero, List.getElem?_cons_succ] at this; exact this
      have a4 : wr.cell? ⟨b, off + k * 5 + 4, none⟩ = some (.string (mtext (k0 + psum cntPacket xs k + 1 + 1 + 1 + 1))) := by have := ja 4 (by decide); simp only [show EPacket.sz = 5 from rfl, Nat.mul_one, Nat.add_zero, List.getElem?_cons_zero, List.getElem?_cons_succ] at this; exact this
      clear ja
      go_wp2_with fail
      go_region_held3 (fun w' => w'.cell? ⟨b, off + k * 5 + 4, none⟩ = some (.string (mtext (k0 + psum cntPacket xs k + 1 + 1 + 1 + 1)))) (first | go_keep | (exact kc hb1 a4) | (exact a4))
        (first | (go_at_call 128; refine (markText_c (k0 + psum cntPacket xs k + 1 + 1 + 1 + 1) wr.drew (by omega) (by omega)).mono ?_; rintro e w1 ⟨rfl, hb1⟩))
      have a0 := kc hb1 (show wr.drew.cell? _ = _ from a0)
      have a1 := kc hb1 (show wr.drew.cell? _ = _ from a1)
      have a2 := kc hb1 (show wr.drew.cell? _ = _ from a2)
      have a3 := kc hb1 (show wr.drew.cell? _ = _ from a3)
      have a4 := kc hb1 (show wr.drew.cell? _ = _ from a4)
      have hB := tr (belowDrewN hB 1) hb1 (Nat.le_refl _)
      clear hb1
      go_wp2_with fail
      exact ⟨⟨k + 1, by omega, by go_num, congrArg (Value.int .i64) (by rw [hsn.out]; simp only [cntI, cntPacket, cntS]; omega), hB⟩, by simp [intOf]; omega⟩
    · have hk : k = xs.length := by omega
      subst hk
      go_wp2
      go_ret
      exact ⟨ret_int (by rw [cntL_eq]), hB⟩
end Go.Proofs.YtidephmobajikaaGreatDoor
/- slices.Delete on a slice of strings that one owns. -/
namespace Go.Proofs.YtidephmobajikaaGreatDoor
open Go.RowKit Go.Shelf
end Go.Proofs.YtidephmobajikaaGreatDoor
/- A reading of a struct goes over a change that leaves its blocks. Plain: no program in sight. -/
namespace Go.Proofs.YtidephmobajikaaGreatDoor
open Go.RowKit
theorem IsV.frame {α : Type} {E : Elem α} {w w' : World} {v x F} (h : IsV E w v x F) (hF : ∀ b ∈ F, w'.heap[b]? = w.heap[b]?) : IsV E w' v x F := by
  obtain ⟨cs, hv, h⟩ := h; exact ⟨cs, hv, E.frame h hF⟩
end Go.Proofs.YtidephmobajikaaGreatDoor
/- Walks: the lead of a window; an item pushed. -/
namespace Go.Proofs.YtidephmobajikaaGreatDoor
open Go.RowKit
theorem SendWindow_lead_c (t z : Int) (a : Option Addr) (n c : Nat) (w : World) (h0 : 0 ≤ t) (h1 : t ≤ 65535) (hn : n ≤ 4294967296) :
    Calls Tryz.prog 167 #[.agg #[.int .i64 t, .int .i64 z, .slice a n c]] w fun e w' => e = .returned (.int .i64 (aft t n)) ∧ Below w.heap.size w w' := by
  go_enter Tryz.func167, Tryz.ntmps167
  go_wp2_with fail
  refine (after_c _ _ _ (by omega) (by omega)).mono ?_
  rintro e w' ⟨rfl, rfl⟩
  go_wp2_with fail
  go_ret
  exact ⟨rfl, (Below.refl _ _).alloc (Nat.le_refl _) _⟩
theorem l9Lead_c (t z : Int) (a : Option Addr) (n c : Nat) (w : World) (h0 : 0 ≤ t) (h1 : t ≤ 65535) (hn : n ≤ 4294967296) :
    Calls Tryz.prog 172 #[.agg #[.int .i64 t, .int .i64 z, .slice a n c]] w fun e w' => e = .returned (.int .i64 (aft t n)) ∧ Below w.heap.size w w' := by
  go_enter Tryz.func172, Tryz.ntmps172
  go_wp2_with fail
  refine (l2After_c _ _ _ (by omega) (by omega)).mono ?_
  rintro e w' ⟨rfl, rfl⟩
  go_wp2_with fail
  go_ret
  exact ⟨rfl, (Below.refl _ _).alloc (Nat.le_refl _) _⟩
end Go.Proofs.YtidephmobajikaaGreatDoor
/- Walks: PushItem, the program's. -/
namespace Go.Proofs.YtidephmobajikaaGreatDoor
open Go.RowKit
end Go.Proofs.YtidephmobajikaaGreatDoor
/- Walks: the reference's push of an item. -/
namespace Go.Proofs.YtidephmobajikaaGreatDoor
open Go.RowKit
end Go.Proofs.YtidephmobajikaaGreatDoor
/- Sources: SendFrom of the program. -/
namespace Go.Proofs.YtidephmobajikaaGreatDoor
open Go.RowKit
structure PuS where
  a : Option Addr
  c : Nat
  F : List Nat
structure SeS where
  a : Option Addr
  c : Nat
  F : List Nat
  a2 : Option Addr
  c2 : Nat
  F2 : List Nat
def zPk : Packet := ⟨0, 0, 0, 0, ⟨#[]⟩⟩
end Go.Proofs.YtidephmobajikaaGreatDoor
/- Walks: ResizeWindow, the program's and the reference's. -/
namespace Go.Proofs.YtidephmobajikaaGreatDoor
open Go.RowKit
end Go.Proofs.YtidephmobajikaaGreatDoor
/- Send windows: what is pushed, held, answered, dropped; plain laws. -/
namespace Go.Proofs.YtidephmobajikaaGreatDoor
open Go.RowKit
def leadW (x : SendWindow) : Int := aft x.trail x.items.length
def itemAt (x : SendWindow) (n : Int) : ByteArray := x.items.getD (gp x.trail n).toNat ⟨#[]⟩
def statP (x : SendWindow) : Packet := ⟨5, x.trail, x.trail, leadW x, ⟨#[]⟩⟩
def goodPk (p : Packet) : Bool := btw 1 p.kind 5 && isSer p.number && isSer p.trail && isSer p.lead && itm p.data && decide (gp p.trail p.lead ≤ 32767) && (decide (p.data = ⟨#[]⟩) || decide (p.kind = 1) || decide (p.kind = 2))
def okAnswer (x : SendWindow) (p : Packet) : Bool := goodWin x && goodPk p && decide (p.kind = 3) && heldB x p.number
def ansP (x : SendWindow) (n : Int) : Packet := ⟨2, n, x.trail, leadW x, itemAt x n⟩
def resAnswer (x : SendWindow) (p : Packet) : Packet × Bool := if okAnswer x p then (ansP x p.number, true) else (zPk, false)
end Go.Proofs.YtidephmobajikaaGreatDoor
/- Structs of type Packet in a walk's state: opened, closed. -/
namespace Go.Proofs.YtidephmobajikaaGreatDoor
open Go.RowKit
section
variable {c : Cx} {fr : Fr} {H : List Pc} {Φ : Gl}
theorem openPacket {v : Value} {x : Packet} {F : List Nat} (h : ∀ (_ : Unit), v = .agg #[.int .i64 x.kind, .int .i64 x.number, .int .i64 x.trail, .int .i64 x.lead, .string x.data] → x.data.size ≤ maxLen → T c fr (H) Φ) (hm : .isv EPacket v x F ∈ H := by (repeat (first | exact .head _ | apply List.Mem.tail)); first | done | fail) : T c fr H Φ := .mk fun a w s g => by
  obtain ⟨cs, rfl, rfl, s1, rfl⟩ := s.get hm
  exact (h () rfl s1 ).h a w s g
theorem flatPacket (x : Packet) (s1 : x.data.size ≤ maxLen) (w : World) : Flat EPacket w [.int .i64 x.kind, .int .i64 x.number, .int .i64 x.trail, .int .i64 x.lead, .string x.data] [x] [] := ⟨_, [], [], [], by simp, by simp, ⟨rfl, s1, rfl⟩, rfl, rfl⟩
end
end Go.Proofs.YtidephmobajikaaGreatDoor
/- Sources: TickSource of the program. -/
namespace Go.Proofs.YtidephmobajikaaGreatDoor
open Go.RowKit
set_option maxRecDepth 100000 in
theorem status_f (t z : Int) (a : Option Addr) (n c : Nat) (h0 : 0 ≤ t) (h1 : t ≤ 65535) (hn : n ≤ 4294967296) : Fn Tryz.prog 165 [.agg #[.int .i64 t, .int .i64 z, .slice a n c]] [] [] (fun (_ : Unit) => True) (fun _ => .agg #[.int .i64 5, .int .i64 t, .int .i64 t, .int .i64 (aft t n), .string ⟨#[]⟩]) (fun _ => []) := by
  refine enter Tryz.func165 rfl Tryz.ntmps165 fun w0 => ?_
  repeat (first | apply c_seq | apply c_reg | (apply wO; apply oc; rfl; exact ydE) | apply w_nil | apply n_cd | (apply wg_t; rfl; rfl) | (apply wg_f; rfl; rfl; rfl; rfl) | (apply wg_u; rfl; rfl; rfl) | (apply c_t; rfl) | (apply c_f; rfl) | apply c_skip | apply c_block | apply n_blk | apply c_exit | apply e_hit | apply e_cd | apply e_lp | (apply e_miss; rfl) | apply c_ret | (apply wO; apply o_box; rfl; rfl; rfl; intro _) | (apply wO; apply o_alloc; rfl; intro _) | (apply wO; apply o_st; rfl; rfl; rfl; (first | exact AggC.s | exact OneC.s); rfl; exact rplE; exact putE; rfl) | (apply wO; apply o_bs0; rfl; intro _) | (apply wO; apply o_bs; rfl; rfl; rfl; rfl; exact rptE; exact filE; intro _) | (apply wO; apply o_call; rfl; kernel_rfl; exact evsE))
  refine d_start [1] [7] ?_
  refine dt 0 ?_
  refine dt 1 ?_
  refine dt 2 ?_
  refine dt 3 ?_
  refine dt 4 ?_
  refine dO 5 (by kernel_rfl) (by rw [List.getElem?_toArray]; rfl) ?_
  apply o_call; rfl; kernel_rfl; exact evsE
  refine cb (fun w _ => SendWindow_lead_c t z a n c w h0 h1 hn) ?_
  refine dk ?_
  refine dt 6 ?_
  refine dO 7 (by kernel_rfl) (by rw [List.getElem?_toArray]; rfl) ?_
  apply o_st; rfl; rfl; rfl; (first | exact AggC.s | exact OneC.s); rfl; exact rplE; exact putE; rfl
  refine dkx ?_
  refine dd ?_
  repeat (first | apply c_seq | apply c_reg | (apply wO; apply oc; rfl; exact ydE) | apply w_nil | apply n_cd | (apply wg_t; rfl; rfl) | (apply wg_f; rfl; rfl; rfl; rfl) | (apply wg_u; rfl; rfl; rfl) | (apply c_t; rfl) | (apply c_f; rfl) | apply c_skip | apply c_block | apply n_blk | apply c_exit | apply e_hit | apply e_cd | apply e_lp | (apply e_miss; rfl) | apply c_ret | (apply wO; apply o_box; rfl; rfl; rfl; intro _) | (apply wO; apply o_alloc; rfl; intro _) | (apply wO; apply o_st; rfl; rfl; rfl; (first | exact AggC.s | exact OneC.s); rfl; exact rplE; exact putE; rfl) | (apply wO; apply o_bs0; rfl; intro _) | (apply wO; apply o_bs; rfl; rfl; rfl; rfl; exact rptE; exact filE; intro _) | (apply wO; apply o_call; rfl; kernel_rfl; exact evsE))
  refine ret () trivial rfl
set_option maxRecDepth 100000 in
theorem l9Status_f (t z : Int) (a : Option Addr) (n c : Nat) (h0 : 0 ≤ t) (h1 : t ≤ 65535) (hn : n ≤ 4294967296) : Fn Tryz.prog 171 [.agg #[.int .i64 t, .int .i64 z, .slice a n c]] [] [] (fun (_ : Unit) => True) (fun _ => .agg #[.int .i64 5, .int .i64 t, .int .i64 t, .int .i64 (aft t n), .string ⟨#[]⟩]) (fun _ => []) := by
  refine enter Tryz.func171 rfl Tryz.ntmps171 fun w0 => ?_
  repeat (first | apply c_seq | apply c_reg | (apply wO; apply oc; rfl; exact ydE) | apply w_nil | apply n_cd | (apply wg_t; rfl; rfl) | (apply wg_f; rfl; rfl; rfl; rfl) | (apply wg_u; rfl; rfl; rfl) | (apply c_t; rfl) | (apply c_f; rfl) | apply c_skip | apply c_block | apply n_blk | apply c_exit | apply e_hit | apply e_cd | apply e_lp | (apply e_miss; rfl) | apply c_ret | (apply wO; apply o_box; rfl; rfl; rfl; intro _) | (apply wO; apply o_alloc; rfl; intro _) | (apply wO; apply o_st; rfl; rfl; rfl; (first | exact AggC.s | exact OneC.s); rfl; exact rplE; exact putE; rfl) | (apply wO; apply o_bs0; rfl; intro _) | (apply wO; apply o_bs; rfl; rfl; rfl; rfl; exact rptE; exact filE; intro _) | (apply wO; apply o_call; rfl; kernel_rfl; exact evsE))
  refine d_start [1] [7] ?_
  refine dt 0 ?_
  refine dt 1 ?_
  refine dt 2 ?_
  refine dt 3 ?_
  refine dt 4 ?_
  refine dO 5 (by kernel_rfl) (by rw [List.getElem?_toArray]; rfl) ?_
  apply o_call; rfl; kernel_rfl; exact evsE
  refine cb (fun w _ => l9Lead_c t z a n c w h0 h1 hn) ?_
  refine dk ?_
  refine dt 6 ?_
  refine dO 7 (by kernel_rfl) (by rw [List.getElem?_toArray]; rfl) ?_
  apply o_st; rfl; rfl; rfl; (first | exact AggC.s | exact OneC.s); rfl; exact rplE; exact putE; rfl
  refine dkx ?_
  refine dd ?_
  repeat (first | apply c_seq | apply c_reg | (apply wO; apply oc; rfl; exact ydE) | apply w_nil | apply n_cd | (apply wg_t; rfl; rfl) | (apply wg_f; rfl; rfl; rfl; rfl) | (apply wg_u; rfl; rfl; rfl) | (apply c_t; rfl) | (apply c_f; rfl) | apply c_skip | apply c_block | apply n_blk | apply c_exit | apply e_hit | apply e_cd | apply e_lp | (apply e_miss; rfl) | apply c_ret | (apply wO; apply o_box; rfl; rfl; rfl; intro _) | (apply wO; apply o_alloc; rfl; intro _) | (apply wO; apply o_st; rfl; rfl; rfl; (first | exact AggC.s | exact OneC.s); rfl; exact rplE; exact putE; rfl) | (apply wO; apply o_bs0; rfl; intro _) | (apply wO; apply o_bs; rfl; rfl; rfl; rfl; exact rptE; exact filE; intro _) | (apply wO; apply o_call; rfl; kernel_rfl; exact evsE))
  refine ret () trivial rfl

structure TiS where
  a : Option Addr
  c : Nat
  a2 : Option Addr
  c2 : Nat
  F : List Nat
  ae : Option Addr
  ce : Nat
  Fe : List Nat
end Go.Proofs.YtidephmobajikaaGreatDoor
/- Sources: TickSource of the reference. -/
namespace Go.Proofs.YtidephmobajikaaGreatDoor
open Go.RowKit
theorem l9Drop0_f (x : SendWindow) (v : Value) (F : List Nat) (t0 : 0 ≤ x.trail) (t1 : x.trail ≤ 65535) (hl : x.items.length ≤ 4294967296) : Fn Tryz.prog 158 [v, .int .i64 0] [.isv ESendWindow v x F] [] (fun (_ : Value × List Nat) => True) (fun s => s.1) (fun s => [.own OSendWindow s.1 x s.2]) := by
  have e0 : (⟨aft x.trail ((0 : Nat) : Int), x.size, x.items.drop 0⟩ : SendWindow) = x := by
    have : aft x.trail ((0 : Nat) : Int) = x.trail := by unfold aft; omega
    rw [this]; rfl
  refine fn_made fun w hA => (l9Drop_c v x F 0 w (hA (.isv ESendWindow v x F) (by simp)) (Nat.zero_le _) hl (isSer_iff.2 ⟨t0, t1⟩)).mono ?_
  rintro e w' ⟨u, G, he, ho, hn, hF, hB⟩
  rw [e0] at ho
  exact ⟨(u, G), trivial, he, ⟨hn, ho⟩, hF, hB⟩
end Go.Proofs.YtidephmobajikaaGreatDoor
/- '[]byte' of a string, a byte stored, and back. -/
namespace Go.Proofs.YtidephmobajikaaGreatDoor
open Go.RowKit
/-- a byte aS data -/
def EByte : Elem Int where
  sz := 1
  rep _ cs z F := cs = [.int .u8 z] ∧ 0 ≤ z ∧ z ≤ 255 ∧ F = []
  len h := by simp [h.1]
  lt h := by simp [h.2.2.2]
  frame h _ := h
/-- the bytes of l lie in block g -/
def ByteRow (w : World) (g : Nat) (l : List UInt8) : Prop :=
  g < w.heap.size ∧ ∀ j (hj : j < l.length), w.cell? ⟨g, j, none⟩ = some (.int .u8 (l[j].toNat : Int)) ∧ w.frozen? ⟨g, j, none⟩ = false
theorem ByteRow.below {w w' g l} (h : ByteRow w g l) (hb : Below w.heap.size w w') : ByteRow w' g l :=
  ⟨Nat.lt_of_lt_of_le h.1 hb.size, fun j hj => ⟨(hb.cell (p := ⟨g, j, none⟩) h.1).trans (h.2 j hj).1, (hb.frozen (p := ⟨g, j, none⟩) h.1).trans (h.2 j hj).2⟩⟩
end Go.Proofs.YtidephmobajikaaGreatDoor
/- Walks: the reference's draws: a cursor over bytes. -/
namespace Go.Proofs.YtidephmobajikaaGreatDoor
open Go.RowKit
section
variable {P : Program} {ops : Array Oper} {Q : Exit → Act → World → Prop} {md : Region.Mode} {S : World → Prop} {X : Nat → Bool}
end
/-- the bytes that a cursor reads -/
structure CuF where
  code : List Int
  a : Option Addr
  c : Nat
  bs : List Nat
/-- the cursor lies in block g; its bytes in F, below it; it has moved at most B steps -/
def Cur (B : Nat) (w : World) (g : Nat) (F : CuF) : Prop :=
  ∃ (k : Nat) (seed : Int), Row w g 100 [.slice F.a F.code.length F.c, .int .i64 k, .int .u64 seed] ∧ Sl EByte w (.slice F.a F.code.length F.c) F.code F.bs ∧ g ∉ F.bs ∧ k ≤ B ∧ 0 ≤ seed ∧ seed < 18446744073709551616
theorem Cur.below {B w w' g F} (h : Cur B w g F) (hb : Below w.heap.size w w') : Cur B w' g F := by
  obtain ⟨k, seed, R, S, hF, h3⟩ := h
  exact ⟨k, seed, R.below hb, S.below (by decide) hb, hF, h3⟩
theorem Cur.mono {B B' w g F} (h : Cur B w g F) (hb : B ≤ B') : Cur B' w g F := by
  obtain ⟨k, seed, R, S, hF, h3, h4⟩ := h
  exact ⟨k, seed, R, S, hF, by omega, h4⟩
theorem Cur.lt {B w g F} (h : Cur B w g F) : g < w.heap.size := by
  obtain ⟨k, seed, R, _⟩ := h; exact R.lt
end Go.Proofs.YtidephmobajikaaGreatDoor
/- Draws, for the engine: the cursor. -/
namespace Go.Proofs.YtidephmobajikaaGreatDoor
open Go.RowKit
structure CuS where
  k : Nat
  seed : Int
structure CuOk (B : Nat) (s : CuS) : Prop where
  k : s.k ≤ B
  s0 : 0 ≤ s.seed
  s1 : s.seed < 18446744073709551616
theorem CuOk.mono {B B' : Nat} {s : CuS} (h : CuOk B s) (hb : B ≤ B') : CuOk B' s := ⟨Nat.le_trans h.k hb, h.s0, h.s1⟩
end Go.Proofs.YtidephmobajikaaGreatDoor
/- The type Slot of the exact laws: how it reads, how it is owned; the walks of its size, copy, equality, mark and held. Written by wip/gentypes.py. -/
namespace Go.Proofs.YtidephmobajikaaGreatDoor
open Go.RowKit
structure Slot where
  hav : Bool
  item : ByteArray
end Go.Proofs.YtidephmobajikaaGreatDoor
/- The type ReceiveWindow of the exact laws: how it reads, how it is owned; the walks of its size, copy, equality, mark and held. Written by wip/gentypes.py. -/
namespace Go.Proofs.YtidephmobajikaaGreatDoor
open Go.RowKit
structure ReceiveWindow where
  next : Int
  slots : List Slot
end Go.Proofs.YtidephmobajikaaGreatDoor
/- Structs of type ReceiveWindow in a walk's state: opened, closed. -/
namespace Go.Proofs.YtidephmobajikaaGreatDoor
open Go.RowKit
section
variable {c : Cx} {fr : Fr} {H : List Pc} {Φ : Gl}
end
end Go.Proofs.YtidephmobajikaaGreatDoor
/- Structs of type Slot in a walk's state: opened, closed. -/
namespace Go.Proofs.YtidephmobajikaaGreatDoor
open Go.RowKit
section
variable {c : Cx} {fr : Fr} {H : List Pc} {Φ : Gl}
end
end Go.Proofs.YtidephmobajikaaGreatDoor
/- Walks of Go's generic library functions on slices of impl.Slot. Written by wip/genlib.py. -/
namespace Go.Proofs.YtidephmobajikaaGreatDoor
open Go.RowKit
end Go.Proofs.YtidephmobajikaaGreatDoor
/- Receive windows: the check, what is there. -/
namespace Go.Proofs.YtidephmobajikaaGreatDoor
open Go.RowKit
end Go.Proofs.YtidephmobajikaaGreatDoor
/- Receive windows: the reference's check. -/
namespace Go.Proofs.YtidephmobajikaaGreatDoor
open Go.RowKit
end Go.Proofs.YtidephmobajikaaGreatDoor
/- Receive windows: what is released, what is taken. Plain lists. -/
namespace Go.Proofs.YtidephmobajikaaGreatDoor
open Go.RowKit
def plus (s : ByteArray) : ByteArray := ⟨#[43]⟩ ++ s
def rel : Int → List Slot → Int × List Slot × List ByteArray
  | n, [] => (n, [], [])
  | n, s :: r => if s.hav then ((rel (aft n 1) r).1, (rel (aft n 1) r).2.1, plus s.item :: (rel (aft n 1) r).2.2) else (n, s :: r, [])
end Go.Proofs.YtidephmobajikaaGreatDoor
/- Receive windows: the copy, a step, what is released. -/
namespace Go.Proofs.YtidephmobajikaaGreatDoor
open Go.RowKit
end Go.Proofs.YtidephmobajikaaGreatDoor
/- Receive windows: what is released. -/
namespace Go.Proofs.YtidephmobajikaaGreatDoor
open Go.RowKit
def relW (x : ReceiveWindow) : ReceiveWindow := ⟨(rel x.next x.slots).1, (rel x.next x.slots).2.1⟩
def relE (x : ReceiveWindow) : List ByteArray := (rel x.next x.slots).2.2
/-- events so far, the window, where both lie -/
structure RelS where
  es : List ByteArray
  y : ReceiveWindow
  a : Option Addr
  c : Nat
  F : List Nat
  ae : Option Addr
  ce : Nat
  Fe : List Nat
structure RelOk (x : ReceiveWindow) (s : RelS) : Prop where
  n0 : 0 ≤ s.y.next
  n1 : s.y.next ≤ 65535
  it : ∀ z ∈ s.y.slots, z.item.size ≤ 8
  ln : s.es.length + s.y.slots.length ≤ x.slots.length
  w : relW x = relW s.y
  e : relE x = s.es ++ relE s.y
end Go.Proofs.YtidephmobajikaaGreatDoor
/- Receive windows: what is taken, what is given up: in place. -/
namespace Go.Proofs.YtidephmobajikaaGreatDoor
open Go.RowKit
structure PadS where
  j : Nat
  a : Option Addr
  c : Nat
  F : List Nat
end Go.Proofs.YtidephmobajikaaGreatDoor
/- Receive windows: TakeItem and GiveUpTo of the program. -/
namespace Go.Proofs.YtidephmobajikaaGreatDoor
open Go.RowKit
structure GoodRW (x : ReceiveWindow) : Prop where
  n0 : 0 ≤ x.next
  n1 : x.next ≤ 65535
  l : x.slots.length ≤ 8
  it : ∀ s ∈ x.slots, s.item.size ≤ 8
end Go.Proofs.YtidephmobajikaaGreatDoor
/- Receive windows: the reference's. -/
namespace Go.Proofs.YtidephmobajikaaGreatDoor
open Go.RowKit
structure CpS where
  g : Nat
  a : Option Addr
  c : Nat
  F : List Nat
end Go.Proofs.YtidephmobajikaaGreatDoor
/- Receive windows: the reference's taking and giving up. -/
namespace Go.Proofs.YtidephmobajikaaGreatDoor
open Go.RowKit
end Go.Proofs.YtidephmobajikaaGreatDoor
/- Receive windows: the reference's GiveUpTo and TakeItem; the contracts that the laws ask. -/
namespace Go.Proofs.YtidephmobajikaaGreatDoor
open Go.RowKit
end Go.Proofs.YtidephmobajikaaGreatDoor
/- Receive windows: GiveUpTo and TakeItem of the reference; the contracts that the laws ask. -/
namespace Go.Proofs.YtidephmobajikaaGreatDoor
open Go.RowKit
end Go.Proofs.YtidephmobajikaaGreatDoor
/- Receive windows: what is counted, what is there, what is seen; serials. -/
namespace Go.Proofs.YtidephmobajikaaGreatDoor
open Go.RowKit
end Go.Proofs.YtidephmobajikaaGreatDoor
/- Draws, for the engine: serials, letters. -/
namespace Go.Proofs.YtidephmobajikaaGreatDoor
open Go.RowKit
theorem Fn.weak {P : Program} {f : FuncId} {args : List Value} {A M : List Pc} {σ : Type} {C C' : σ → Prop} {v : σ → Value} {N : σ → List Pc} (h : Fn P f args A M C v N) (hC : ∀ s, C s → C' s) : Fn P f args A M C' v N := fun w h1 h2 => (h w h1 h2).mono fun _ _ ⟨s, hc, r⟩ => ⟨s, hC s hc, r⟩
structure LeS where
  r : Nat
  t : ByteArray
  s : CuS
structure LeOk (B r0 : Nat) (z : LeS) : Prop where
  r : z.r ≤ r0
  s : CuOk (B + 2 + 2 * (r0 - z.r)) z.s
  t : z.t.size ≤ r0 - z.r
end Go.Proofs.YtidephmobajikaaGreatDoor
/- Draws, for the engine: packets. -/
namespace Go.Proofs.YtidephmobajikaaGreatDoor
open Go.RowKit
end Go.Proofs.YtidephmobajikaaGreatDoor
