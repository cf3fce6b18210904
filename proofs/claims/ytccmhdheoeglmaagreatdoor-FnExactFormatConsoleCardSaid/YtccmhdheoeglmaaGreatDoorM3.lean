/- Part 3 of the proof: 85 texts, one behind the other. -/
import Derived.Test.YtccmhdheoeglmaaGreatDoorShelf
import Derived.Lib.Overlaps
import Derived.Lib.AppendZerosOnto
import Derived.Laws.IdiomCopy
import Derived.Lib.ItoaNum
import Derived.Lib.Bytealg
import Derived.Lib.Strings
import Derived.Lib.LaidTab
import Derived.Lib.ItoaMem
import Derived.Deep.RegionLaw
import Derived.BigQuiet
import Derived.Lib.SliceRun
import Derived.Test.YtccmhdheoeglmaaGreatDoorM2
/- The rules as walks use them, with the tactics that close their side conditions; parts of slices; appending; regions that draw their order. Plain: no program in sight. -/
namespace Go.Proofs.YtccmhdheoeglmaaGreatDoor
open Go.RowKit
theorem memE {p : Pc} {H : List Pc} (h : p ∈ H := by (repeat (first | exact .head _ | apply List.Mem.tail)); first | done | fail) : p ∈ H := h
theorem cutE {l : List Value} {j m : Nat} {r : List Value} (h : Cut l j m r := by repeat constructor) : Cut l j m r := h
theorem putE {l r s : List Value} {j : Nat} (h : Put l j r s := by first | exact .one .zero | repeat constructor) : Put l j r s := h
theorem evsE {fr : Fr} {aS : List Operand} {vs : List Value} (h : Evs fr aS vs := by repeat (first | exact Evs.nil | apply Evs.cons (by rfl))) : Evs fr aS vs := h
theorem rplE {H S : List Pc} {p q : Pc} (h : Rpl H p q S := by (repeat (first | exact .here | apply Rpl.there)); first | done | fail) : Rpl H p q S := h
theorem picksE {H M R : List Pc} (h : Picks H M R := by repeat (first | exact Picks.nil | apply Picks.cons (by (repeat (first | exact .here | apply Pick.there)); first | done | fail))) : Picks H M R := h
theorem frE {a b : Fr} (h : FrSub a b := by repeat (first | exact FrSub.nil | refine FrSub.cons (by rfl) ?_)) : FrSub a b := h
theorem foldl_put (l : List Value) : ∀ (k off : Nat) (A o B : List Value), A.length = off + k → o.length = l.length → (l.zipIdx k).foldl (fun (cs : Array Value) (x : Value × Nat) => cs.setIfInBounds (off + x.2) x.1) (A ++ o ++ B).toArray = (A ++ l ++ B).toArray := by
  induction l with
  | nil => intro k off A o B _ ho; simp at ho; subst ho; simp
  | cons u r ih =>
    intro k off A o B hA ho
    cases o with
    | nil => simp at ho
    | cons z o =>
      rw [List.zipIdx_cons, List.foldl_cons]
      have h4 : (A ++ (z :: o) ++ B).toArray.setIfInBounds (off + k) u = ((A ++ [u]) ++ o ++ B).toArray := by
        rw [← hA]; simp [List.set_append]
      show List.foldl _ ((A ++ (z :: o) ++ B).toArray.setIfInBounds (off + k) u) _ = _
      rw [h4, ih (k + 1) off (A ++ [u]) o B (by simp; omega) (by simpa using ho)]; simp
/-- parts go to their places -/
inductive Fil (pl : Nat → Option (Nat × Nat)) (fr : Fr) : List Value → List (Nat × Operand) → List Value → Prop
  | nil {cs} : Fil pl fr cs [] cs
  | cons {cs i x ps v l off r q} : ev fr x = some v → v.cells = l.toArray → pl i = some (off, l.length) → Put cs off l r → Fil pl fr r ps q → Fil pl fr cs ((i, x) :: ps) q
theorem Fil.run {pl : Nat → Option (Nat × Nat)} {fr : Fr} {n : Nat} {cs q : List Value} {ps : List (Nat × Operand)} (h : Fil pl fr cs ps q) {a : Act} (g : Ag n fr a) : Instr.fill pl cs.toArray (ps.map fun (i, x) => (i, a.eval x)) = some q.toArray := by
  induction h with
  | nil => rfl
  | @cons cs i x ps v l off r q hx hv hp hput _ ih =>
    obtain ⟨A, o, B, rfl, rfl, rfl, ho⟩ := hput.parts
    rw [List.map_cons]
    unfold Instr.fill
    simp only [hp, g.ev hx, hv]
    have h1 : ¬ ((l.toArray.size ≠ l.length) ∨ (A.length + l.toArray.size > (A ++ o ++ B).toArray.size)) := by simp; omega
    rw [if_neg (by simpa using h1)]
    have h2 : l.toArray.zipIdx.foldl (fun (cs : Array Value) (x : Value × Nat) => cs.setIfInBounds (A.length + x.2) x.1) (A ++ o ++ B).toArray = (A ++ l ++ B).toArray := by
      rw [← Array.foldl_toList]
      have := foldl_put l 0 A.length A o B rfl ho
      simpa using this
    rw [h2]; exact ih
theorem filE {pl : Nat → Option (Nat × Nat)} {fr : Fr} {cs q : List Value} {ps : List (Nat × Operand)} (h : Fil pl fr cs ps q := by repeat (first | exact Fil.nil | apply Fil.cons (by rfl) (by rfl) (by rfl) (by repeat constructor))) : Fil pl fr cs ps q := h
theorem yd_bd {P : Program} {n : Nat} {fr : Fr} {H : List Pc} {ty : TypeId} {t : Nat} {pl : List (Nat × Nat)} {zs q : List Value} {ps : List (Nat × Operand)} [hB : BldC P t pl zs] (hf : Fil (pl.toArray[·]?) fr zs ps q) : Yd P n fr H (.build t ps.toArray) ty (.agg q.toArray) := .mk fun a w d pos aft gd g _ => by
  have h3 := hf.run g
  have h4 := run_build (P := P) w t (ps.map fun (i, x) => (i, a.eval x)).toArray q.toArray (by rw [hB.b]; exact h3)
  simp only [List.map_toArray] at h4
  simp [execOp, h4]
theorem ydE {P : Program} {n : Nat} {fr : Fr} {H : List Pc} {o : Op} {ty : TypeId} {v : Value} (h : Yd P n fr H o ty v := by first | (apply yd_move; rfl) | (apply yd_assign; rfl) | (apply yd_nil; rfl) | (apply yd_fa; rfl) | (apply yd_ld; rfl; exact memE; rfl) | (apply yd_ldc; rfl; exact memE; rfl) | (apply yd_lda; rfl; exact memE; exact cutE) | (apply yd_ldac; rfl; exact memE; exact cutE) | (apply yd_pick_t; rfl; rfl) | (apply yd_pick_f; rfl; rfl) | (apply yd_len; rfl) | (apply yd_lens; rfl) | (apply yd_ex; rfl; rfl) | (apply yd_fld; rfl; rfl) | (apply yd_flda; rfl; exact cutE) | (apply yd_lt; rfl; rfl) | (apply yd_le; rfl; rfl) | (apply yd_gt; rfl; rfl) | (apply yd_ge; rfl; rfl) | (apply yd_eq; rfl; rfl) | (apply yd_ne; rfl; rfl) | (apply yd_add; rfl; rfl; omega; omega) | (apply yd_sub; rfl; rfl; omega; omega) | (apply yd_eqs; rfl; rfl) | (apply yd_nes; rfl; rfl) | (apply yd_cat; rfl; rfl; omega) | (apply yd_notd; rfl) | (apply yd_not; rfl) | (apply yd_neg; rfl; omega; omega) | (apply yd_ix; rfl; rfl; omega; omega) | (apply yd_ixs; rfl; rfl; omega; omega) | (apply yd_quo; rfl; rfl; omega; omega; omega) | (apply yd_rem; rfl; rfl; omega; omega) | (apply yd_mul; rfl; rfl; omega; omega) | (apply yd_cv; rfl; omega; omega) | (apply yd_eqb; rfl; rfl) | (apply yd_neb; rfl; rfl) | (apply yd_fn; exact evsE) | (apply yd_nilf; rfl) | (apply yd_min; rfl; rfl) | (apply yd_max; rfl; rfl) | (apply yd_bd; exact filE)) : Yd P n fr H o ty v := h
section
variable {c : Cx} {fr : Fr} {H : List Pc} {k : List It} {Φ : Gl} {ops : Array Oper} {rest : List Oper} {d : Nat} {o : Op} {ty : TypeId} {pos : String} {aft : Array Edge} {v u : Value} {x y : Operand}
theorem st {t g tt o' j m : Nat} {A cs B l r : List Value} {S : List Pc} {gd : Option (Nat × Bool)} (h : T c fr S Φ) (hx : ev fr x = some (ptr g o' j) := by rfl) (hy : ev fr y = some v := by rfl) (hv : v.cells = l.toArray := by rfl) (hs : (c.P.info? t).map (·.size) = some m := by first | exact AggC.s | exact OneC.s) (hl : l.length = m := by rfl)
    (hr : Rpl H (.row g tt o' A cs B) (.row g tt o' A r B) S := by (repeat (first | exact .here | apply Rpl.there)); first | done | fail) (hp : Put cs j l r := by first | exact .one .zero | repeat constructor) (h1 : l.all (·.oneCell') = true := by rfl) : Ef c fr H ⟨none, .store t x y, ty, pos, aft, gd⟩ Φ := ef_store hs hx hy hv hl h1 hp hr h
theorem ca {f : Nat} {aS : List Operand} {ts : Array TypeId} {vs : List Value} {gd : Option (Nat × Bool)} (h : Cl c fr H d f vs Φ) (ha : Evs fr aS vs := by repeat (first | exact Evs.nil | apply Evs.cons (by rfl))) (hb : bodyB c.P f = true := by kernel_rfl) (hd : Nat.blt d c.n = true := by rfl) : Ef c fr H ⟨some d, .call { callee := .value (.func f), args := aS.toArray, argTypes := ts }, ty, pos, aft, gd⟩ Φ := cl_ef h ha hb hd
theorem cf {f : Nat} {vs : List Value} {A M R : List Pc} {σ : Type} {C : σ → Prop} {vv : σ → Value} {N : σ → List Pc} (hf : Fn c.P f vs A M C vv N) (h : ∀ s, C s → T c ((d, vv s) :: fr) (N s ++ R) Φ)
    (hM : Picks H M R := by repeat (first | exact Picks.nil | apply Picks.cons (by (repeat (first | exact .here | apply Pick.there)); first | done | fail))) (hA : Mems A R := by repeat (first | exact Mems.nil | refine Mems.cons (by (repeat (first | exact .head _ | apply List.Mem.tail)); first | done | fail) ?_)) (hmM : M.all (·.mu) = true := by rfl) (hmA : A.all (fun p => !p.mu) = true := by rfl) : Cl c fr H d f vs Φ := cf_ hf h hM hA hmM hmA
/-- lists put together -/
inductive AppL : List Pc → List Pc → List Pc → Prop
  | nil {R} : AppL [] R R
  | cons {p N R X} : AppL N R X → AppL (p :: N) R (p :: X)
theorem AppL.eq {N R X} (h : AppL N R X) : N ++ R = X := by
  induction h with
  | nil => rfl
  | cons _ ih => simp [ih]
theorem t_app {N R X : List Pc} (h : T c fr X Φ) (hX : AppL N R X := by repeat constructor) : T c fr (N ++ R) Φ := by rw [hX.eq]; exact h
theorem St.ro {G D w0 w} {p q : Pc} (s : St G D w0 H w) (hq : q ∈ H) (hm : q.mu = false) (hpm : p.mu = false) (hp : p.P w) (hF : ∀ b ∈ p.F, b ∈ q.F) : St G D w0 (p :: H) w :=
  s.add (N := [p]) (Below.refl _ _) (by intro x hx; simp at hx; subst hx; exact hp) ⟨by simp, trivial⟩ (by intro x hx b hb; simp at hx; subst hx; exact .inr ⟨hpm, q, hq, hm, hF b hb⟩)
theorem St.conv {G D w0 w} {p q : Pc} {S : List Pc} (s : St G D w0 (p :: S) w) (hm : p.mu = true) (hq : q.P w) (hF : ∀ b ∈ q.F, b ∈ p.F) : St G D w0 (q :: S) w :=
  St.turn (M := [p]) (N := [q]) s (Keep.refl _ w) (by intro x hx; simp at hx; subst hx; exact hq) ⟨by simp, trivial⟩ (by intro x hx b hb; simp at hx; subst hx; exact .inr (.inl ⟨p, by simp, hm, hF b hb⟩))
/-! elements, parts of slices that read -/
/-- what holds of element i: its cells lie there -/
theorem sl_at {α : Type} {E : Elem α} {w : World} {a : Option Addr} {n cp : Nat} {xs : List α} {F : List Nat} (h : (Pc.sl E (.slice a n cp) xs F).P w) (i : Nat) (hi : i < xs.length) :
    ∃ b o cs G, a = some ⟨b, o, none⟩ ∧ E.rep w cs xs[i] G ∧ (∀ x ∈ G, x ∈ F) ∧ b ∈ F ∧ cs ≠ [] ∧ w.rangeAt b (o + i * E.sz) cs := by
  obtain ⟨hz, a', cap, hv, hl, h | ⟨b, o, F', rfl, hne, rfl, hc⟩⟩ := h
  · rw [h.1] at hi; simp at hi
  · simp only [Value.slice.injEq] at hv
    obtain ⟨rfl, -, -⟩ := hv
    obtain ⟨cs, F1, h1, h2, h3⟩ := hc.get i hi
    have hl := E.len h1
    refine ⟨b, o, cs, F1, rfl, h1, fun x hx => by simp [h3 x hx], by simp, fun e => by subst e; simp at hl; omega, fun j u hu => ?_⟩
    have hj : j < E.sz := by have := (List.getElem?_eq_some_iff.1 hu).1; omega
    rw [h2 j hj]; exact hu
theorem at_int {a : Option Addr} {n cp : Nat} {xs : List Int} {F : List Nat} (i : Nat) (h : ∀ (hi : i < xs.length) b o, a = some ⟨b, o, none⟩ → T c fr (.cel b (o + i * 1) [.int .i64 xs[i]] :: H) Φ) (hm : .sl EInt (.slice a n cp) xs F ∈ H := by (repeat (first | exact .head _ | apply List.Mem.tail)); first | done | fail) (hi : i < xs.length := by omega) : T c fr H Φ := .mk fun ac w s g => by
  obtain ⟨b, o, cs, G, ha, ⟨rfl, rfl⟩, -, hb, hne, hr⟩ := sl_at (s.get hm) i hi
  exact (h hi b o ha).h ac w (s.ro hm rfl rfl ⟨hne, hr⟩ (by intro x hx; simp [Pc.F] at hx; subst hx; exact hb)) g
/-- an owned slice may be read aS one -/
theorem t_read {α : Type} {E : Elem α} {t : TypeId} {v : Value} {xs : List α} {F : List Nat} {S : List Pc} (h : ∀ F', T c fr (.sl E v xs F' :: S) Φ) (hp : Pick H (.ow E t v xs F) S := by (repeat (first | exact .here | apply Pick.there)); first | done | fail) (hz : 0 < E.sz := by decide) : T c fr H Φ := .mk fun a w s g => by
  have s1 := s.pick hp
  obtain ⟨-, ho⟩ := s1.on (.ow E t v xs F) (by simp)
  obtain ⟨F', hF, hs⟩ := ho.read
  exact (h F').h a w (s1.conv rfl ⟨hz, hs⟩ hF) g
/-- the empty slice is owned -/
theorem t_nilow {α : Type} (E : Elem α) (t : TypeId) (h : T c fr (.ow E t (.slice none 0 0) [] [] :: H) Φ) : T c fr H Φ := .mk fun a w s g =>
  h.h a w (s.add (N := [.ow E t (.slice none 0 0) [] []]) (Below.refl _ _) (by intro p hp; simp at hp; subst hp; exact ⟨by simp, .inl ⟨rfl, rfl, rfl⟩⟩) ⟨by simp, trivial⟩ (by intro p hp b hb; simp at hp; subst hp; simp [Pc.F] at hb)) g
/-- a row of no cells is an empty owned slice -/
theorem t_emp {α : Type} (E : Elem α) {t g : Nat} {S : List Pc} (h : T c fr (.ow E t (.slice (some ⟨g, 0, none⟩) 0 0) [] [g] :: S) Φ) (hp : Pick H (.row g t 0 [] [] []) S := by (repeat (first | exact .here | apply Pick.there)); first | done | fail) : T c fr H Φ := .mk fun a w s ag => by
  have s1 := s.pick hp
  obtain ⟨-, hr⟩ := s1.on (.row g t 0 [] [] []) (by simp)
  exact h.h a w (s1.conv rfl ⟨by simp, Ow.empty (by simpa using hr)⟩ (fun b hb => hb)) ag
/-- an empty slice is built -/
theorem bs0 {t e m : Nat} {gd : Option (Nat × Bool)} [hS : SlC c.P t e m] (h : ∀ g, T c ((d, .slice (some ⟨g, 0, none⟩) 0 0) :: fr) (.row g e 0 [] [] [] :: H) Φ) (hd : Nat.blt d c.n = true := by rfl) : Ef c fr H ⟨some d, .buildSlice t 0 #[], ty, pos, aft, gd⟩ Φ := ef_of fun Q a w s g => by
  have e1 : (execOp a.eval ⟨some d, .buildSlice t 0 #[], ty, pos, aft, gd⟩).run c.P w = .ok (.value (.slice (some ⟨w.heap.size, 0, none⟩) 0 0)) (w.alloc (.cells #[] e)) := by
    simp [execOp, Instr.buildSlice, run_underlying hS.u, size_of hS.s, Instr.fill, newRow, Array.range_zero']
  rw [e1]
  exact (h _).h _ _ (s.new e []) (g.put hd)
inductive AppV : List Value → List Value → List Value → Prop
  | nil {r} : AppV [] r r
  | cons {u l r q} : AppV l r q → AppV (u :: l) r (u :: q)
theorem AppV.eq {l r q} (h : AppV l r q) : l ++ r = q := by
  induction h with
  | nil => rfl
  | cons _ ih => simp [ih]
inductive Rpt (zs : List Value) : Nat → List Value → Prop
  | zero : Rpt zs 0 []
  | succ {n r q} : Rpt zs n r → AppV zs r q → Rpt zs (n + 1) q
theorem Rpt.eq {zs : List Value} {n q} (h : Rpt zs n q) : q = (List.replicate n zs).flatten := by
  induction h with
  | zero => rfl
  | succ _ h2 ih => rw [← h2.eq, ih, List.replicate_succ, List.flatten_cons]
/-- a slice's literal -/
theorem bs {t e m b len : Nat} {z : Value} {zs cs q : List Value} {ps : List (Nat × Operand)} {gd : Option (Nat × Bool)} [hS : SlC c.P t e m] [hE : ElT c.P e z m b] [hZ : ZC c.P e zs] (h : ∀ g, T c ((d, .slice (some ⟨g, 0, none⟩) len len) :: fr) (.row g e 0 [] q [] :: H) Φ)
    (hc : Rpt zs len cs := by repeat constructor) (hf : Fil (fun i => some (i * m, m)) fr cs ps q := by repeat (first | exact Fil.nil | apply Fil.cons (by rfl) (by rfl) (by rfl) (by repeat constructor))) (hl : Nat.ble (len * m) 1000 = true := by rfl) (hm : Nat.blt 0 m = true := by rfl) (hlen : Nat.blt 0 len = true := by rfl) (hd : Nat.blt d c.n = true := by rfl) :
    Ef c fr H ⟨some d, .buildSlice t len ps.toArray, ty, pos, aft, gd⟩ Φ := ef_of fun Q a w s g => by
  have hm0 : m ≠ 0 := by have : 0 < m := by simpa using hm
                         omega
  have hlen0 : len ≠ 0 := by have : 0 < len := by simpa using hlen
                             omega
  have hl2 : len * m ≤ 1000 := by simpa using hl
  obtain ⟨i, hi, hz⟩ := Option.map_eq_some_iff.1 hE.i
  simp only [Prod.mk.injEq] at hz
  obtain ⟨hz, hs, -⟩ := hz
  obtain ⟨z', hz', hzc⟩ := hZ.z
  obtain rfl : z' = z := by rw [hi] at hz'; simp [hz] at hz'; exact hz'.symm
  have hzl : zs.length = m := by have := hE.s; rw [hzc] at this; simpa using this
  have e2 : ((Array.range (len * m)).map (zs.toArray[· % zs.toArray.size]!)) = cs.toArray := by
    have := madeCells_flat zs.toArray len
    rw [hc.eq]
    apply Array.ext'
    rw [show zs.toArray.size = m from by simp [hzl]] at this
    simpa [madeCells] using this
  have e1 : (execOp a.eval ⟨some d, .buildSlice t len ps.toArray, ty, pos, aft, gd⟩).run c.P w = .ok (.value (.slice (some ⟨w.heap.size, 0, none⟩) len len)) (w.alloc (.cells q.toArray e)) := by
    have h3 := hf.run g
    have hne : ¬ (len * m = 0) := Nat.mul_ne_zero hlen0 hm0
    have hns : ¬ (len * m > 2 ^ 24) := by omega
    have hzv : (zeroValue e).run c.P w = .ok z' w := by simp [zeroValue, typeInfo, hi, hz]
    simp only [execOp, Instr.buildSlice, Sem.run_bind, run_underlying hS.u, size_of hS.s, Result.andThen_ok, if_neg hns, if_neg hne, hzv, hzc, Sem.run_pure, Sem.run_ite, e2]
    simp only [List.map_toArray, h3, newRow, Sem.run_bind, run_newObj_alloc, Result.andThen_ok, Sem.run_pure]
  rw [e1]
  exact (h _).h _ _ (s.new e q) (g.put hd)
theorem o_bs0 {t e m : Nat} [SlC c.P t e m] (hd : Nat.blt d c.n = true) (h : ∀ g, T c ((d, .slice (some ⟨g, 0, none⟩) 0 0) :: fr) (.row g e 0 [] [] [] :: H) Φ) : On c fr H (some d) (.buildSlice t 0 #[]) ty Φ := ⟨fun _ _ _ => bs0 h hd⟩
theorem rptE {zs : List Value} {n : Nat} {q : List Value} (h : Rpt zs n q := by repeat constructor) : Rpt zs n q := h
theorem o_bs {t e m b len : Nat} {z : Value} {zs cs q : List Value} {ps : List (Nat × Operand)} [SlC c.P t e m] [ElT c.P e z m b] [ZC c.P e zs] (hd : Nat.blt d c.n = true) (hlen : Nat.blt 0 len = true) (hm : Nat.blt 0 m = true) (hl : Nat.ble (len * m) 1000 = true) (hc : Rpt zs len cs) (hf : Fil (fun i => some (i * m, m)) fr cs ps q) (h : ∀ g, T c ((d, .slice (some ⟨g, 0, none⟩) len len) :: fr) (.row g e 0 [] q [] :: H) Φ) :
    On c fr H (some d) (.buildSlice t len ps.toArray) ty Φ := ⟨fun _ _ _ => bs h hc hf hl hm hlen hd⟩
end
end Go.Proofs.YtccmhdheoeglmaaGreatDoor
/- Appending, parts of slices, regions that draw their order, a function's beginning and end: as walks use them. Plain: no program in sight. -/
namespace Go.Proofs.YtccmhdheoeglmaaGreatDoor
open Go.RowKit
section
variable {c : Cx} {fr : Fr} {H : List Pc} {k : List It} {Φ : Gl} {ops : Array Oper} {rest : List Oper} {d : Nat} {o : Op} {ty : TypeId} {pos : String} {aft : Array Edge} {v u : Value} {x y : Operand}
theorem ap {α : Type} {E : Elem α} {t e m b : Nat} {z : Value} [hS : SlC c.P t e m] [hE : ElT c.P e z m b] {xs ys : List α} {F Fy : List Nat} {ao : Option Addr} {n cp : Nat} {gd : Option (Nat × Bool)} {R S : List Pc} (one : One E) (hz : 0 < E.sz) (hm : E.sz = m)
    (hp : Pick H (.ow E e v xs F) R) (hx : ev fr x = some v) (hy : ev fr y = some (.slice ao n cp)) (hn : n = ys.length)
    (hsrc : ∀ w, St c.G c.D c.w0 (.ow E e v xs F :: R) w → ∃ news, Flat E w news ys Fy ∧ ((ao = none ∧ cp = 0 ∧ ys = []) ∨ ∃ ad, ao = some ad ∧ ∀ j u, news[j]? = some u → w.cell? (ad.add j) = some u) ∧ (∀ b ∈ Fy, b ∉ F) ∧ Fy.Nodup)
    (hFy : ∀ w v' F', St c.G c.D c.w0 (.ow E e v xs F :: R) w → (∀ b ∈ F', b ∈ F ∨ b ∈ Fy ∨ b = w.heap.size) → ∀ w', Keep F w w' → (Pc.ow E e v' (xs ++ ys) F').P w' → St c.G c.D c.w0 (.ow E e v' (xs ++ ys) F' :: S) w')
    (h63 : xs.length + ys.length ≤ maxLen) (hby : (xs.length + ys.length) * b ≤ 140737488355328)
    (h : ∀ a' c' F', T c ((d, .slice a' (xs ++ ys).length c') :: fr) (.ow E e (.slice a' (xs ++ ys).length c') (xs ++ ys) F' :: S) Φ) (hd : Nat.blt d c.n = true) :
    Ef c fr H ⟨some d, .call { callee := .builtin .append, args := #[x, y], argTypes := #[t, t] }, ty, pos, aft, gd⟩ Φ := .mk fun Q a w s g => by
  have s1 := s.pick hp
  obtain ⟨hnd, how⟩ := s1.on (.ow E e v xs F) (by simp)
  obtain ⟨news, hfl, hsr, hdis, hny⟩ := hsrc w s1
  subst hn
  refine wp_apd (P := c.P) one hz x y t rfl e z b hS.u (by rw [hE.i, hm]) (by rw [hE.s, hm]) v xs F (g.ev hx) how (Hd.of hnd) ao ys cp (g.ev hy) news Fy hfl hsr (fun b hb e => hdis b hb (how.own_mem b e)) h63 hby fun v' w' F' hA => ?_
  obtain ⟨a', c', rfl⟩ := hA.val
  rw [← List.length_append] at hA ⊢
  have hw := hA.ow
  exact (h a' c' F').h _ _ (hFy w _ F' s1 hA.mem w' hA.keep ⟨hA.nodup hnd hny hdis, hw⟩) (g.put hd)
/-- what is appended lies in a row of our own -/
theorem ap1 {α : Type} {E : Elem α} {t e m b : Nat} {z : Value} [hS : SlC c.P t e m] [hE : ElT c.P e z m b] {xs ys : List α} {F : List Nat} {g n cp tt : Nat} {cs : List Value} {R S : List Pc}
    (hfl : ∀ w, Flat E w cs ys []) (one : One E) (h : ∀ a' c' F', T c ((d, .slice a' (xs ++ ys).length c') :: fr) (.ow E e (.slice a' (xs ++ ys).length c') (xs ++ ys) F' :: S) Φ)
    (hx : ev fr x = some v := by rfl) (hy : ev fr y = some (.slice (some ⟨g, 0, none⟩) n cp) := by rfl) (hp : Pick H (.ow E e v xs F) R := by (repeat (first | exact .here | apply Pick.there)); first | done | fail) (hp2 : Pick R (.row g tt 0 [] cs []) S := by (repeat (first | exact .here | apply Pick.there)); first | done | fail) (hn : n = ys.length := by rfl) (hz : 0 < E.sz := by decide) (hm : E.sz = m := by rfl)
    (h63 : xs.length + ys.length ≤ 9223372036854775807 := by simp only [List.length_cons, List.length_nil]; omega) (hby : (xs.length + ys.length) * b ≤ 140737488355328 := by simp only [List.length_cons, List.length_nil]; omega) (hd : Nat.blt d c.n = true := by rfl) :
    On c fr H (some d) (.call { callee := .builtin .append, args := #[x, y], argTypes := #[t, t] }) ty Φ :=
  ⟨fun _ _ _ => ap one hz hm hp hx hy hn (Fy := []) (fun w s => ⟨cs, hfl w, .inr ⟨_, rfl, fun j u hu => by
      have hr := (s.on (.row g tt 0 [] cs []) (by simp [hp2.mem])).2
      have := hr.cell j
      simp only [List.nil_append, List.append_nil] at this
      rw [hu] at this
      unfold Addr.add
      split
      · rename_i e; subst e; exact this
      · simpa using this⟩, by simp, by simp⟩)
    (fun w v' F' s hF w' hk hv => by
      have s2 : St c.G c.D c.w0 (.ow E e v xs F :: S) w := ⟨s.keep, fun q hq => s.on q (by rcases List.mem_cons.1 hq with rfl | hq; simp; simp [hp2.sub q hq]), ⟨fun q hq => s.sep.1 q (hp2.sub q hq), (hp2.sep s.sep.2).2⟩, fun q hq => s.mine q (by rcases List.mem_cons.1 hq with rfl | hq; simp; simp [hp2.sub q hq])⟩
      exact St.turn (M := [.ow E e v xs F]) (N := [.ow E e v' (xs ++ ys) F']) s2 (by simpa [List.filter, Pc.mu, fp, Pc.F] using hk) (by intro q hq; simp at hq; subst hq; exact hv) ⟨by simp, trivial⟩ (by
        intro q hq b hb
        simp at hq; subst hq
        rcases hF b hb with h | h | h
        · exact .inr (.inl ⟨.ow E e v xs F, by simp, rfl, h⟩)
        · simp at h
        · exact .inl (by omega)))
    (by unfold maxLen; exact h63) hby h hd⟩
/-! parts of slices that read -/
theorem elem_of {P : Program} {t e m : Nat} (hS : SlC P t e m) : P.elem t = e := by simp [Program.elem, hS.u]
/-! one element of an owned slice, of elements without blocks of their own -/
def Hole {α : Type} (E : Elem α) (t : TypeId) (g : Nat) (v : Value) (xs : List α) (i : Nat) (A B : List Value) : Prop := ∀ w cs y, Row w g t (A ++ cs ++ B) → E.rep w cs y [] → Ow E t w v (xs.set i y) [g]
theorem focF {α : Type} {E : Elem α} {t : TypeId} {a : Option Addr} {n cp m : Nat} {xs : List α} {F : List Nat} {S : List Pc} (sc : Scal E) (i : Nat) (h : ∀ (_ : i < xs.length) g A cs B, a = some ⟨g, 0, none⟩ → F = [g] → (∀ w, E.rep w cs xs[i] []) → Hole E t g (.slice (some ⟨g, 0, none⟩) n cp) xs i A B → T c fr (.row g t (0 + i * m) A cs B :: S) Φ)
    (hp : Pick H (.ow E t (.slice a n cp) xs F) S) (hm : E.sz = m) (hi : i < xs.length) : T c fr H Φ := .mk fun ac w s g => by
  have z1 := s.pick hp
  obtain ⟨-, ho⟩ := z1.on (.ow E t (.slice a n cp) xs F) (by simp)
  obtain ⟨g0, cap, A, cs, B, G1, Fi, G2, hv, hr, hA, -, hx, rfl, -, hW⟩ := ho.focus i hi
  cases hv
  obtain rfl := sc hx
  have hG : ∀ b, b ∉ G1 ++ G2 := by
    intro b hb
    have := ho.scal sc
    simp only [Value.ownBlock, Option.toList_some, List.append_nil, List.cons.injEq, true_and] at this
    rw [this] at hb; simp at hb
  have hG0 : G1 ++ G2 = [] := List.eq_nil_iff_forall_not_mem.2 hG
  subst hm
  refine (h hi g0 A cs B rfl (by simpa using hG0) (fun w' => E.frame hx (by simp)) (fun w' c' y hr' hy => ?_)).h ac w (z1.conv rfl ⟨by omega, hr⟩ (by intro b hb; simp [Pc.F] at hb; subst hb; simp [Pc.F])) g
  have := hW w' c' y [] hr' hy (fun b hb => absurd hb (hG b))
  simpa [hG0] using this
theorem unfF {α : Type} {E : Elem α} {t : TypeId} {g o : Nat} {v : Value} {xs : List α} {i : Nat} {A cs B : List Value} {S : List Pc} (y : α) (hh : Hole E t g v xs i A B) (hy : ∀ w, E.rep w cs y []) (h : T c fr (.ow E t v (xs.set i y) [g] :: S) Φ) (hp : Pick H (.row g t o A cs B) S := by (repeat (first | exact .here | apply Pick.there)); first | done | fail) : T c fr H Φ := .mk fun ac w s ag => by
  have z1 := s.pick hp
  obtain ⟨-, hr⟩ := z1.on (.row g t o A cs B) (by simp)
  exact h.h ac w (z1.conv rfl ⟨by simp, hh w cs y hr (hy w)⟩ (fun b hb => hb)) ag
/-! calls by the elder contracts -/
theorem cv {α : Type} {E : Elem α} {z : α} {f : Nat} {vs : List Value} (hc : ∀ w, St c.G c.D c.w0 H w → Calls c.P f vs.toArray w (RetV E z w)) (h : ∀ v F, T c ((d, v) :: fr) (.own E v z F :: H) Φ) : Cl c fr H d f vs Φ :=
  cl_of hc (fun w e w' s hR => by
    obtain ⟨v, F, he, ho, hn, hF, hB⟩ := hR
    exact ⟨_, he, fun ac g => (h v F).h ac w' (s.add (N := [.own E v z F]) hB (by intro q hq; simp at hq; subst hq; exact ⟨hn, ho⟩) ⟨by simp, trivial⟩ (by intro q hq b hb; simp at hq; subst hq; exact .inl (hF b hb))) g⟩)
/-! regions that draw their order -/
inductive Nth : List Pc → Nat → Pc → Prop
  | zero {p R} : Nth (p :: R) 0 p
  | succ {x p R i} : Nth R i p → Nth (x :: R) (i + 1) p
inductive Sel (H : List Pc) : List Nat → List Pc → Prop
  | nil : Sel H [] []
  | cons {i is p R} : Nth H i p → Sel H is R → Sel H (i :: is) (p :: R)
theorem Nth.mem {H i p} (h : Nth H i p) : p ∈ H := by
  induction h with
  | zero => simp
  | succ _ ih => simp [ih]
variable {H0 : List Pc} {X : List Nat} {f : Nat} {listed : Array Bool}
theorem d_start {id : Nat} {l : List Oper} (is X : List Nat) (h : T c fr H (.dx k H0 X l.toArray l.length (Array.replicate l.length false))) (_hsel : Sel H is H0 := by repeat constructor) (hm : c.P.follows .mixedOrders = true := by kernel_rfl) : T c fr H (.code k (Code.region id l.toArray true)) := .mk fun a w s g => by
  refine AnyX.start (S := Hol H0) (X := fun i => X.contains i) hm ?_
  have := h.h a w.drew (s.below (belowDrewN (Below.refl _ _) 1)) g
  simpa [Gl.sem] using this
/-- a panic leaves the slots alone -/
def PanOk (c : Cx) : Prop := ∀ ch d v a w, c.R (.panic ch) (Act.put a d v) w → c.R (.panic ch) a w
theorem panOk {P : Program} {D G : List Nat} {w0 : World} {n : Nat} {fn : Func} {R : Ending → World → Prop} : PanOk ⟨P, G, D, w0, n, bodyPost P fn R⟩ := fun ch d v a w h => by
  cases d <;> exact h
theorem dt (i : Nat) (h : T c ((d, v) :: fr) H (.dx k H0 X ops f (listed.setIfInBounds i true))) (ho : ops[i]? = some ⟨some d, o, ty, pos, aft, none⟩ := by rw [List.getElem?_toArray]; rfl) (hy : Yd c.P c.n fr H0 o ty v := by exact ydE) (hs : Mems H0 H := by repeat (first | exact Mems.nil | refine Mems.cons (by (repeat (first | exact .head _ | apply List.Mem.tail)); first | done | fail) ?_))
    (h1 : Region.noSelect ops = true := by kernel_rfl) (h2 : Region.free .any ops listed i = true := by kernel_rfl) (h3 : (Region.ready .any ops listed).contains i = true := by kernel_rfl) (h4 : waitsAll .any ops (fun i => X.contains i) i = true := by kernel_rfl) (h5 : closedB .any ops listed = true := by kernel_rfl) (hR : PanOk c := by exact panOk) (hd : Nat.blt d c.n = true := by rfl) :
    T c fr H (.dx k H0 X ops (f + 1) listed) := .mk fun a w s g =>
  AnyX.take (v := v) ho h1 h2 h3 h4 h5 (fun ch a w hp => by rw [run_panic] at hp ⊢; exact hR _ _ _ _ _ hp) (.inl ⟨rfl, fun w' hw' => hy.h a w' _ _ _ _ g hw'⟩) (fun p hp => s.on p (hs.all p hp)) (h.h _ _ s (g.put hd))
/-- 's[j:]' of a slice that reads, taken first -/
theorem dsld (i j : Nat) {α : Type} {E : Elem α} {t e m : Nat} [hS : SlC c.P t e m] {a : Option Addr} {n cp : Nat} {xs : List α} {F : List Nat} {z : Int} (h : ∀ a' c' F', T c ((d, .slice a' (xs.drop j).length c') :: fr) (.sl E (.slice a' (xs.drop j).length c') (xs.drop j) F' :: H) (.dx k H0 X ops f (listed.setIfInBounds i true))) (ho : ops[i]? = some ⟨some d, .slice t x (some y) none none, ty, pos, aft, none⟩ := by rw [List.getElem?_toArray]; rfl)
    (hx : ev fr x = some (.slice a n cp) := by rfl) (hy : ev fr y = some (.int .i64 z) := by rfl) (hm : .sl E (.slice a n cp) xs F ∈ H := by (repeat (first | exact .head _ | apply List.Mem.tail)); first | done | fail) (hi : z = (j : Int) := by first | rfl | omega) (hj : j ≤ xs.length := by omega) (he : E.sz = m := by rfl) (hs : Mems H0 H := by repeat (first | exact Mems.nil | refine Mems.cons (by (repeat (first | exact .head _ | apply List.Mem.tail)); first | done | fail) ?_))
    (h1 : Region.noSelect ops = true := by kernel_rfl) (h2 : Region.free .any ops listed i = true := by kernel_rfl) (h3 : (Region.ready .any ops listed).contains i = true := by kernel_rfl) (h4 : waitsAll .any ops (fun i => X.contains i) i = true := by kernel_rfl) (h5 : closedB .any ops listed = true := by kernel_rfl) (hR : PanOk c := by exact panOk) (hd : Nat.blt d c.n = true := by rfl) :
    T c fr H (.dx k H0 X ops (f + 1) listed) := .mk fun ac w s g => by
  subst hi
  obtain ⟨hz, hs'⟩ := s.get hm
  have he2 := elem_of hS
  obtain ⟨a2, c2, F', hr, hF, h2'⟩ := hs'.dropS t (by rw [he2]; exact hS.u) j hj (fun W => by rw [he2, he]; exact size_of hS.s W)
  rw [← List.length_drop] at h2' hr
  refine AnyX.take (v := .slice a2 (xs.drop j).length c2) ho h1 h2 h3 h4 h5 (fun ch a w hp => by rw [run_panic] at hp ⊢; exact hR _ _ _ _ _ hp) (.inl ⟨rfl, fun w' _ => ?_⟩) (fun p hp => s.on p (hs.all p hp)) ((h a2 c2 F').h _ w (s.ro hm rfl rfl ⟨hz, h2'⟩ hF) (g.put hd))
  simp only [execOp, Option.map_none, Option.map_some, g.ev hx, g.ev hy, Sem.run_bind, hr, Result.andThen_ok, Sem.run_pure]
/-- an operation with a guard that holds, taken first -/
theorem dtg (i : Nat) {j t : Nat} {b : Bool} (h : T c ((d, v) :: fr) H (.dx k H0 X ops f (listed.setIfInBounds i true))) (ho : ops[i]? = some ⟨some d, o, ty, pos, aft, some (j, b)⟩ := by rw [List.getElem?_toArray]; rfl) (ht : (ops[j]?).bind (·.dst) = some t := by rfl) (hl : look fr t = some (.bool b) := by rfl) (hy : Yd c.P c.n fr H0 o ty v := by exact ydE) (hs : Mems H0 H := by repeat (first | exact Mems.nil | refine Mems.cons (by (repeat (first | exact .head _ | apply List.Mem.tail)); first | done | fail) ?_))
    (h1 : Region.noSelect ops = true := by kernel_rfl) (h2 : Region.free .any ops listed i = true := by kernel_rfl) (h3 : (Region.ready .any ops listed).contains i = true := by kernel_rfl) (h4 : waitsAll .any ops (fun i => X.contains i) i = true := by kernel_rfl) (h5 : closedB .any ops listed = true := by kernel_rfl) (hR : PanOk c := by exact panOk) (hd : Nat.blt d c.n = true := by rfl) :
    T c fr H (.dx k H0 X ops (f + 1) listed) := .mk fun a w s g =>
  AnyX.take (v := v) ho h1 h2 h3 h4 h5 (fun ch a w hp => by rw [run_panic] at hp ⊢; exact hR _ _ _ _ _ hp) (.inl ⟨by rw [wanted_eq (c := c) ht hl g]; simp, fun w' hw' => hy.h a w' _ _ _ _ g hw'⟩) (fun p hp => s.on p (hs.all p hp)) (h.h _ _ s (g.put hd))
/-- an operation whose guard says no -/
theorem ds (i : Nat) {j t : Nat} {b b' : Bool} (h : T c ((d, undef) :: fr) H (.dx k H0 X ops f (listed.setIfInBounds i true))) (ho : ops[i]? = some ⟨some d, o, ty, pos, aft, some (j, b)⟩ := by rw [List.getElem?_toArray]; rfl) (ht : (ops[j]?).bind (·.dst) = some t := by rfl) (hl : look fr t = some (.bool b') := by rfl) (hb : (b' == b) = false := by rfl) (hs : Mems H0 H := by repeat (first | exact Mems.nil | refine Mems.cons (by (repeat (first | exact .head _ | apply List.Mem.tail)); first | done | fail) ?_))
    (h1 : Region.noSelect ops = true := by kernel_rfl) (h2 : Region.free .any ops listed i = true := by kernel_rfl) (h3 : (Region.ready .any ops listed).contains i = true := by kernel_rfl) (h4 : waitsAll .any ops (fun i => X.contains i) i = true := by kernel_rfl) (h5 : closedB .any ops listed = true := by kernel_rfl) (hR : PanOk c := by exact panOk) (hd : Nat.blt d c.n = true := by rfl) :
    T c fr H (.dx k H0 X ops (f + 1) listed) := .mk fun a w s g =>
  AnyX.take (v := undef) ho h1 h2 h3 h4 h5 (fun ch a w hp => by rw [run_panic] at hp ⊢; exact hR _ _ _ _ _ hp) (.inr ⟨by rw [wanted_eq (c := c) ht hl g]; exact hb, rfl⟩) (fun p hp => s.on p (hs.all p hp)) (h.h _ _ s (g.put hd))
/-- a guard on an operation that was not carried out -/
theorem dsu (i : Nat) {j t : Nat} {b : Bool} (h : T c ((d, undef) :: fr) H (.dx k H0 X ops f (listed.setIfInBounds i true))) (ho : ops[i]? = some ⟨some d, o, ty, pos, aft, some (j, b)⟩ := by rw [List.getElem?_toArray]; rfl) (ht : (ops[j]?).bind (·.dst) = some t := by rfl) (hl : look fr t = some undef := by rfl) (hs : Mems H0 H := by repeat (first | exact Mems.nil | refine Mems.cons (by (repeat (first | exact .head _ | apply List.Mem.tail)); first | done | fail) ?_))
    (h1 : Region.noSelect ops = true := by kernel_rfl) (h2 : Region.free .any ops listed i = true := by kernel_rfl) (h3 : (Region.ready .any ops listed).contains i = true := by kernel_rfl) (h4 : waitsAll .any ops (fun i => X.contains i) i = true := by kernel_rfl) (h5 : closedB .any ops listed = true := by kernel_rfl) (hR : PanOk c := by exact panOk) (hd : Nat.blt d c.n = true := by rfl) :
    T c fr H (.dx k H0 X ops (f + 1) listed) := .mk fun a w s g =>
  AnyX.take (v := undef) ho h1 h2 h3 h4 h5 (fun ch a w hp => by rw [run_panic] at hp ⊢; exact hR _ _ _ _ _ hp) (.inr ⟨by simp only [Region.wanted, yielded, ht, Option.bind_some, g.at_ t _ hl]; rfl, rfl⟩) (fun p hp => s.on p (hs.all p hp)) (h.h _ _ s (g.put hd))
/-- the state holds once more behind an operation -/
theorem dk {i : Nat} (h : T c fr H (.dx k H0 X ops f listed)) (hs : Mems H0 H := by repeat (first | exact Mems.nil | refine Mems.cons (by (repeat (first | exact .head _ | apply List.Mem.tail)); first | done | fail) ?_)) : T c fr H (.dk i k H0 X ops f listed) := .mk fun a w s g => ⟨fun _ p hp => s.on p (hs.all p hp), h.h a w s g⟩
/-- the only one that may come up -/
theorem d1 (i : Nat) {o : Oper} (h : Ef c fr H o (.dk i k H0 X ops f (listed.setIfInBounds i true))) (hr : Region.ready .any ops listed = [i] := by kernel_rfl) (ho : ops[i]? = some o := by rw [List.getElem?_toArray]; rfl) (hg : o.guard = none := by rfl) : T c fr H (.dx k H0 X ops (f + 1) listed) := .mk fun a w s g =>
  AnyX.only hr ho fun K hK => by
    rw [if_pos (by simp [Region.wanted, hg])]
    exact Oper.wp_mono (fun a' w' h' => hK a' w' h'.1 h'.2) (h.h _ a w s g)
theorem d1g (i : Nat) {od : Option Tmp} {j t : Nat} {b : Bool} (h : Ef c fr H ⟨od, o, ty, pos, aft, some (j, b)⟩ (.dk i k H0 X ops f (listed.setIfInBounds i true))) (hr : Region.ready .any ops listed = [i] := by kernel_rfl) (ho : ops[i]? = some ⟨od, o, ty, pos, aft, some (j, b)⟩ := by rw [List.getElem?_toArray]; rfl) (ht : (ops[j]?).bind (·.dst) = some t := by rfl) (hl : look fr t = some (.bool b) := by rfl) : T c fr H (.dx k H0 X ops (f + 1) listed) := .mk fun a w s g =>
  AnyX.only hr ho fun K hK => by
    rw [if_pos (by rw [wanted_eq (c := c) ht hl g]; simp)]
    exact Oper.wp_mono (fun a' w' h' => hK a' w' h'.1 h'.2) (h.h _ a w s g)
/-- two that may come up -/
theorem d2 (i j : Nat) {o o2 : Oper} (h : Ef c fr H o (.dk i k H0 X ops f (listed.setIfInBounds i true))) (h' : Ef c fr H o2 (.dk j k H0 X ops f (listed.setIfInBounds j true)))
    (hr : Region.ready .any ops listed = [i, j] := by kernel_rfl) (ho : ops[i]? = some o := by rw [List.getElem?_toArray]; rfl) (ho2 : ops[j]? = some o2 := by rw [List.getElem?_toArray]; rfl) (hg : o.guard = none := by rfl) (hg2 : o2.guard = none := by rfl) : T c fr H (.dx k H0 X ops (f + 1) listed) := .mk fun a w s g =>
  AnyX.two hr ho ho2 (fun K hK => by
    rw [if_pos (by simp [Region.wanted, hg])]
    exact Oper.wp_mono (fun a' w' h' => hK a' w' h'.1 h'.2) (h.h _ a w s g)) (fun K hK => by
    rw [if_pos (by simp [Region.wanted, hg2])]
    exact Oper.wp_mono (fun a' w' h'' => hK a' w' h''.1 h''.2) (h'.h _ a w s g))
theorem dO (i : Nat) {od : Option Tmp} (hr : Region.ready .any ops listed = [i]) (ho : ops[i]? = some ⟨od, o, ty, pos, aft, none⟩) (h : On c fr H od o ty (.dk i k H0 X ops f (listed.setIfInBounds i true))) : T c fr H (.dx k H0 X ops (f + 1) listed) := d1 i (h.h pos aft none) hr ho rfl
theorem dO2 (i j : Nat) {od od2 : Option Tmp} {o2 : Op} {ty2 : TypeId} {pos2 : String} {aft2 : Array Edge} (hr : Region.ready .any ops listed = [i, j]) (ho : ops[i]? = some ⟨od, o, ty, pos, aft, none⟩) (ho2 : ops[j]? = some ⟨od2, o2, ty2, pos2, aft2, none⟩) (h : On c fr H od o ty (.dk i k H0 X ops f (listed.setIfInBounds i true))) (h' : On c fr H od2 o2 ty2 (.dk j k H0 X ops f (listed.setIfInBounds j true))) : T c fr H (.dx k H0 X ops (f + 1) listed) := d2 i j (h.h pos aft none) (h'.h pos2 aft2 none) hr ho ho2 rfl rfl
theorem dd (h : T c fr H (.norm k)) (hr : Region.ready .any ops listed = [] := by kernel_rfl) : T c fr H (.dx k H0 X ops f listed) := .mk fun a w s g => AnyX.done hr (h.h a w s g) f
end
/-- slots that keep their values -/
inductive Kf (fr : Fr) : List Nat → Fr → Prop
  | nil : Kf fr [] []
  | cons {t v ts r} : look fr t = some v → Kf fr ts r → Kf fr (t :: ts) ((t, v) :: r)
theorem Kf.sub {fr ts r} (h : Kf fr ts r) : FrSub fr r := by
  induction h with
  | nil => exact .nil
  | cons h _ ih => exact .cons h ih
theorem FrSub.app {fr a b : Fr} (h : FrSub fr a) (h2 : FrSub fr b) : FrSub fr (a ++ b) := by
  induction h with
  | nil => exact h2
  | cons h _ ih => exact .cons h ih
theorem Picks.hsub {H M R : List Pc} (h : Picks H M R) : HSub H (M ++ R) := by
  have all : ∀ (H : List Pc), HSub H H := by
    intro H
    induction H with
    | nil => exact .nil
    | cons p H ih => exact .cons .here ih
  induction h with
  | nil => exact all _
  | cons hp _ ih => exact .cons hp ih
theorem c_loopS {c : Cx} {fr : Fr} {H : List Pc} {k : List It} {x : Code} {σ : Type} {cst : Fr} {rest : List Pc} (ks : List Nat) (upd : σ → Fr) (chg : σ → List Pc) (C : σ → Prop) (μ : σ → Nat) (s0 : σ) (h0 : C s0)
    (round : ∀ s, C s → T c (upd s ++ cst) (chg s ++ rest) (.code (.lp (LpN c (fun s => upd s ++ cst) (fun s => chg s ++ rest) C μ (μ s)) :: k) x)) (hk : Kf fr ks cst := by repeat (first | exact Kf.nil | apply Kf.cons (by rfl))) (hf : FrSub fr (upd s0) := by exact frE) (hH : Picks H (chg s0) rest := by exact picksE) : T c fr H (.code k (Code.loop x)) :=
  c_loop (fun s => upd s ++ cst) (fun s => chg s ++ rest) C μ s0 h0 round (hf.app hk.sub) hH.hsub
/-- a loop that leaves the pieces alone -/
theorem c_loopR {c : Cx} {fr : Fr} {H : List Pc} {k : List It} {x : Code} {σ : Type} {cst : Fr} (ks : List Nat) (upd : σ → Fr) (C : σ → Prop) (μ : σ → Nat) (s0 : σ) (h0 : C s0)
    (round : ∀ s, C s → T c (upd s ++ cst) H (.code (.lp (LpN c (fun s => upd s ++ cst) (fun _ => H) C μ (μ s)) :: k) x)) (hk : Kf fr ks cst := by repeat (first | exact Kf.nil | apply Kf.cons (by rfl))) (hf : FrSub fr (upd s0) := by exact frE) : T c fr H (.code k (Code.loop x)) :=
  c_loop (fun s => upd s ++ cst) (fun _ => H) C μ s0 h0 round (hf.app hk.sub) (by
    have all : ∀ (H : List Pc), HSub H H := by
      intro H
      induction H with
      | nil => exact .nil
      | cons p H ih => exact .cons .here ih
    exact all _)
/-- ways that meet: what is known where they do, aS a function of s -/
def Jn {σ : Type} (c : Cx) (fr' : σ → Fr) (H' : σ → List Pc) (C : σ → Prop) (a : Act) (w : World) : Prop := ∃ s, C s ∧ St c.G c.D c.w0 (H' s) w ∧ Ag c.n (fr' s) a
theorem c_join {c : Cx} {fr : Fr} {H : List Pc} {k : List It} {x : Code} {σ : Type} (fr' : σ → Fr) (H' : σ → List Pc) (C : σ → Prop) (h : T c fr H (.code (.lp (Jn c fr' H' C) :: k) x)) (h2 : ∀ s, C s → T c (fr' s) (H' s) (.norm k)) : T c fr H (.code k x) := .mk fun a w s g =>
  wp_mono (h.h a w s g) fun e a' w' he => by
    cases e with
    | normal => obtain ⟨z, hz, hs, hg⟩ := he; exact (h2 z hz).h a' w' hs hg
    | _ => exact he
theorem n_join {c : Cx} {fr : Fr} {H : List Pc} {k : List It} {σ : Type} {fr' : σ → Fr} {H' : σ → List Pc} {C : σ → Prop} (s : σ) (hC : C s) (hf : FrSub fr (fr' s) := by repeat (first | exact FrSub.nil | refine FrSub.cons (by rfl) ?_)) (hH : HSub H (H' s) := by repeat (first | exact HSub.nil | refine HSub.cons (by (repeat (first | exact .here | apply Pick.there)); first | done | fail) ?_)) : T c fr H (.norm (.lp (Jn c fr' H' C) :: k)) :=
  .mk fun _ _ st g => ⟨s, hC, st.sub hH, g.sub hf⟩
theorem c_joinS {c : Cx} {fr : Fr} {H : List Pc} {k : List It} {x : Code} {σ : Type} {cst : Fr} {rest : List Pc} (ks rs : List Nat) (upd : σ → Fr) (chg : σ → List Pc) (C : σ → Prop) (h : T c fr H (.code (.lp (Jn c (fun s => upd s ++ cst) (fun s => chg s ++ rest) C) :: k) x)) (h2 : ∀ s, C s → T c (upd s ++ cst) (chg s ++ rest) (.norm k)) (_hk : Kf fr ks cst := by repeat (first | exact Kf.nil | apply Kf.cons (by rfl))) (_hr : Sel H rs rest := by repeat constructor) : T c fr H (.code k x) :=
  c_join _ _ C h h2
theorem enter {P : Program} {f : FuncId} {fn : Func} {cd : Code} {args : List Value} {A M H : List Pc} {σ : Type} {C : σ → Prop} {v : σ → Value} {N : σ → List Pc} {n : Nat} (hf : P.funcs[f]? = some fn) (hb : fn.body = some cd) (hn : fn.ntmps = n)
    (h : ∀ w, T ⟨P, fp M, fp A, w, n, bodyPost P fn (FnPost P w A M C v N)⟩ (args0 0 args) H (.code [] cd))
    (hl : Nat.ble args.length n = true := by rfl) (hmA : A.all (fun p => !p.mu) = true := by rfl) (hH : AppL M A H := by repeat constructor) : Fn P f args A M C v N := by
  subst hn
  exact fn_enter hf hb (fun w => by rw [hH.eq]; exact h w) (by simpa using hl) hmA
theorem ret {P : Program} {fn : Func} {G D : List Nat} {w0 : World} {n : Nat} {A M : List Pc} {σ : Type} {C : σ → Prop} {v : σ → Value} {N : σ → List Pc} {fr : Fr} {H : List Pc} {rs : List ResultVar} {vs : List Value} (s : σ) (hC : C s) (hv : tup vs = v s)
    (hr : fn.results = rs.toArray := by rfl) (h : Res P fr H rs vs := by repeat (first | exact Res.nil | apply Res.tmp (by rfl) | apply Res.agg inferInstance (by rfl) (by (repeat (first | exact .head _ | apply List.Mem.tail)); first | done | fail) (by rfl) | apply Res.one inferInstance (by rfl) (by (repeat (first | exact .head _ | apply List.Mem.tail)); first | done | fail))) (hN : HSub H (N s) := by repeat (first | exact HSub.nil | refine HSub.cons (by (repeat (first | exact .here | apply Pick.there)); first | done | fail) ?_)) (hG : G = fp M := by rfl) (hD : D = fp A := by rfl) : T ⟨P, G, D, w0, n, bodyPost P fn (FnPost P w0 A M C v N)⟩ fr H (.fin .ret) := fn_ret s hC hr h hv hN hG hD
/-- out of a triple: a value, nothing that was there has turned -/
theorem Fn.val {P : Program} {f : FuncId} {args : List Value} {A : List Pc} {C : Unit → Prop} {v : Value} (h : Fn P f args A [] C (fun _ => v) (fun _ => [])) (w : World) (hA : Hol A w) (hm : A.all (fun p => !p.mu) = true := by rfl) : Calls P f args.toArray w fun e w' => e = .returned v ∧ Below w.heap.size w w' :=
  have hs : ∀ (A : List Pc), A.all (fun p => !p.mu) = true → Sep A := by
    intro A
    induction A with
    | nil => intro _; trivial
    | cons p A ih =>
      intro h
      simp only [List.all_cons, Bool.and_eq_true, Bool.not_eq_true'] at h
      exact ⟨fun q hq hm => by have := List.all_eq_true.1 h.2 q hq; simp [h.1] at hm; simp [hm] at this, ih h.2⟩
  (h w (by simpa using hA) (by simpa using hs A hm)).mono fun e w' ⟨_, _, he, _, _, hk, _⟩ => ⟨he, hk.below (Nat.le_refl _) (by simp [fp])⟩
theorem sep_ro : ∀ (A : List Pc), A.all (fun p => !p.mu) = true → Sep A
  | [], _ => trivial
  | p :: A, h => by
    simp only [List.all_cons, Bool.and_eq_true, Bool.not_eq_true'] at h
    exact ⟨fun q hq hm => by have := List.all_eq_true.1 h.2 q hq; simp [h.1] at hm; simp [hm] at this, sep_ro A h.2⟩
theorem Pc.nd {p : Pc} (hm : p.mu = true) {w : World} (h : p.P w) : p.F.Nodup := by
  cases p with
  | row g t o A cs B => simp [Pc.F]
  | ow E t v xs F => exact h.1
  | own E v x F => exact h.1
  | flat E cs xs F => exact h.1
  | _ => cases hm
theorem fp_nd {w : World} : ∀ {N : List Pc}, N.all (·.mu) = true → Hol N w → Sep N → (fp N).Nodup
  | [], _, _, _ => by simp [fp]
  | p :: N, hm, hH, hs => by
    simp only [List.all_cons, Bool.and_eq_true] at hm
    refine List.nodup_append.2 ⟨Pc.nd hm.1 (hH p (by simp)), fp_nd hm.2 (fun q hq => hH q (by simp [hq])) hs.2, fun b hb b' hb' e => ?_⟩
    subst e
    obtain ⟨q, hq, hqb⟩ := mem_fp.1 hb'
    exact hs.1 q hq (by simp [hm.1]) b hb hqb
/-- out of a triple that only reads: what it returns is owned, and new -/
theorem Fn.made {P : Program} {f : FuncId} {args : List Value} {A : List Pc} {σ : Type} {C : σ → Prop} {v : σ → Value} {N : σ → List Pc} (h : Fn P f args A [] C v N) (w : World) (hA : Hol A w) (hN : ∀ s, (N s).all (·.mu) = true) (hm : A.all (fun p => !p.mu) = true := by rfl) :
    Calls P f args.toArray w fun e w' => ∃ s, C s ∧ e = .returned (v s) ∧ Hol (N s) w' ∧ (fp (N s)).Nodup ∧ (∀ b ∈ fp (N s), w.heap.size ≤ b) ∧ Below w.heap.size w w' :=
  (h w (by simpa using hA) (by simpa using sep_ro A hm)).mono fun e w' ⟨s, hC, he, hH, hS, hk, hF⟩ => ⟨s, hC, he, hH, fp_nd (hN s) hH hS, (fun b hb => by
    obtain ⟨p, hp, hpb⟩ := mem_fp.1 hb
    rcases hF p hp b hpb with h | ⟨q, hq, _⟩ | ⟨h, _⟩
    · exact h
    · simp at hq
    · have := List.all_eq_true.1 (hN s) p hp; rw [h] at this; cases this), hk.below (Nat.le_refl _) (by simp [fp])⟩
/-- out of a triple that only reads: what it returns may be read -/
theorem Fn.read {P : Program} {f : FuncId} {args : List Value} {A : List Pc} {σ : Type} {C : σ → Prop} {v : σ → Value} {N : σ → List Pc} (h : Fn P f args A [] C v N) (w : World) (hA : Hol A w) (hm : A.all (fun p => !p.mu) = true := by rfl) :
    Calls P f args.toArray w fun e w' => ∃ s, C s ∧ e = .returned (v s) ∧ Hol (N s) w' ∧ Below w.heap.size w w' :=
  (h w (by simpa using hA) (by simpa using sep_ro A hm)).mono fun e w' ⟨s, hC, he, hH, hS, hk, hF⟩ => ⟨s, hC, he, hH, hk.below (Nat.le_refl _) (by simp [fp])⟩
theorem hol2 {p q : Pc} {w : World} (h : p.P w) (h2 : q.P w) : Hol [p, q] w := fun r hr => by
  simp only [List.mem_cons, List.not_mem_nil, or_false] at hr
  rcases hr with rfl | rfl <;> assumption
/-- what is to be shown behind the steps -/
structure Kp (X : Prop) : Prop where
  h : X
section
variable {c : Cx} {fr : Fr} {H : List Pc} {d : Nat} {ty : TypeId} {v : Value} {x : Operand} {Φ : Gl}
theorem o_boxX {Y : Nat → Prop} {t : TypeId} {l : List Value} (hd : Nat.blt d c.n = true) (hx : ev fr x = some v) (hv : v.cells = l.toArray) (hX : Kp (∀ g, Y g)) (h : ∀ g, Kp (Y g) → T c ((d, ptr g 0 0) :: fr) (.row g t 0 [] l [] :: H) Φ) : On c fr H (some d) (.box t x) ty Φ := o_box hd hx hv fun g => h g ⟨hX.h g⟩
theorem o_allocX {Y : Nat → Prop} {t : TypeId} {zs : List Value} [ZC c.P t zs] (hd : Nat.blt d c.n = true) (hX : Kp (∀ g, Y g)) (h : ∀ g, Kp (Y g) → T c ((d, ptr g 0 0) :: fr) (.row g t 0 [] zs [] :: H) Φ) : On c fr H (some d) (.alloc t) ty Φ := o_alloc hd fun g => h g ⟨hX.h g⟩
theorem o_bs0X {Y : Nat → Prop} {t e m : Nat} [SlC c.P t e m] (hd : Nat.blt d c.n = true) (hX : Kp (∀ g, Y g)) (h : ∀ g, Kp (Y g) → T c ((d, .slice (some ⟨g, 0, none⟩) 0 0) :: fr) (.row g e 0 [] [] [] :: H) Φ) : On c fr H (some d) (.buildSlice t 0 #[]) ty Φ := o_bs0 hd fun g => h g ⟨hX.h g⟩
theorem o_bsX {Y : Nat → Prop} {t e m b len : Nat} {z : Value} {zs cs q : List Value} {ps : List (Nat × Operand)} [SlC c.P t e m] [ElT c.P e z m b] [ZC c.P e zs] (hd : Nat.blt d c.n = true) (hlen : Nat.blt 0 len = true) (hm : Nat.blt 0 m = true) (hl : Nat.ble (len * m) 1000 = true) (hc : Rpt zs len cs) (hf : Fil (fun i => some (i * m, m)) fr cs ps q) (hX : Kp (∀ g, Y g)) (h : ∀ g, Kp (Y g) → T c ((d, .slice (some ⟨g, 0, none⟩) len len) :: fr) (.row g e 0 [] q [] :: H) Φ) :
    On c fr H (some d) (.buildSlice t len ps.toArray) ty Φ := o_bs hd hlen hm hl hc hf fun g => h g ⟨hX.h g⟩
end
/-- the steps of a walk that need no choice -/
theorem go {X : Prop} {c : Cx} {fr : Fr} {H : List Pc} {Φ : Gl} (h : X) (hs : Kp X → T c fr H Φ := by intro hX; (repeat (first | apply c_seq | apply c_reg | (apply wO; apply oc; rfl; exact ydE) | apply w_nil | apply n_cd | (apply wg_t; rfl; rfl) | (apply wg_f; rfl; rfl; rfl; rfl) | (apply wg_u; rfl; rfl; rfl) | (apply c_t; rfl) | (apply c_f; rfl) | apply c_skip | apply c_block | apply n_blk | apply c_exit | apply e_hit | apply e_cd | apply e_lp | (apply e_miss; rfl) | apply c_ret | (apply wO; apply o_boxX; rfl; rfl; rfl; exact hX; clear hX; intro _ hX) | (apply wO; apply o_allocX; rfl; exact hX; clear hX; intro _ hX) | (apply wO; apply o_st; rfl; rfl; rfl; (first | exact AggC.s | exact OneC.s); rfl; exact rplE; exact putE; rfl) | (apply wO; apply o_bs0X; rfl; exact hX; clear hX; intro _ hX) | (apply wO; apply o_bsX; rfl; rfl; rfl; rfl; exact rptE; exact filE; exact hX; clear hX; intro _ hX) | (apply wO; apply o_call; rfl; kernel_rfl; exact evsE))); exact hX.h) : T c fr H Φ := hs ⟨h⟩
/-- .. up to the next call -/
theorem goN {X : Prop} {c : Cx} {fr : Fr} {H : List Pc} {Φ : Gl} (h : X) (hs : Kp X → T c fr H Φ := by intro hX; (repeat (first | apply c_seq | apply c_reg | (apply wO; apply oc; rfl; exact ydE) | apply w_nil | apply n_cd | (apply wg_t; rfl; rfl) | (apply wg_f; rfl; rfl; rfl; rfl) | (apply wg_u; rfl; rfl; rfl) | (apply c_t; rfl) | (apply c_f; rfl) | apply c_skip | apply c_block | apply n_blk | apply c_exit | apply e_hit | apply e_cd | apply e_lp | (apply e_miss; rfl) | apply c_ret | (apply wO; apply o_boxX; rfl; rfl; rfl; exact hX; clear hX; intro _ hX) | (apply wO; apply o_allocX; rfl; exact hX; clear hX; intro _ hX) | (apply wO; apply o_st; rfl; rfl; rfl; (first | exact AggC.s | exact OneC.s); rfl; exact rplE; exact putE; rfl) | (apply wO; apply o_bs0X; rfl; exact hX; clear hX; intro _ hX) | (apply wO; apply o_bsX; rfl; rfl; rfl; rfl; exact rptE; exact filE; exact hX; clear hX; intro _ hX))); exact hX.h) : T c fr H Φ := hs ⟨h⟩
end Go.Proofs.YtccmhdheoeglmaaGreatDoor
/- Structs of type ReceiveWindow in a walk's state: opened, closed. -/
namespace Go.Proofs.YtccmhdheoeglmaaGreatDoor
open Go.RowKit
section
variable {c : Cx} {fr : Fr} {H : List Pc} {Φ : Gl}
theorem openReceiveWindow {v : Value} {x : ReceiveWindow} {F : List Nat} (h : ∀ (a1 : Option Addr) (c1 : Nat) (F1 : List Nat), v = .agg #[.int .i64 x.next, .slice a1 x.slots.length c1] → x.slots.length ≤ maxLen → T c fr (.sl ESlot (.slice a1 x.slots.length c1) x.slots F1 :: H) Φ) (hm : .isv EReceiveWindow v x F ∈ H := by (repeat (first | exact .head _ | apply List.Mem.tail)); first | done | fail) : T c fr H Φ := .mk fun a w s g => by
  obtain ⟨cs, rfl, v1, rfl, h1⟩ := s.get hm
  obtain ⟨a1, c1, rfl⟩ := h1.slice; have l1 := h1.len
  have t1 := s.ro (p := .sl ESlot (.slice a1 x.slots.length c1) x.slots F) hm rfl rfl ⟨by decide, h1⟩ fun b hb => hb
  exact (h a1 c1 F rfl  l1).h a w t1 g
theorem closeReceiveWindow (x : ReceiveWindow) {a1 : Option Addr} {c1 : Nat} {F1 : List Nat}  (h : T c fr (.isv EReceiveWindow (.agg #[.int .i64 x.next, .slice a1 x.slots.length c1]) x (F1) :: H) Φ) (m1 : .sl ESlot (.slice a1 x.slots.length c1) x.slots F1 ∈ H := by (repeat (first | exact .head _ | apply List.Mem.tail)); first | done | fail) : T c fr H Φ := .mk fun a w s g => by
  have hP : IsV EReceiveWindow w (.agg #[.int .i64 x.next, .slice a1 x.slots.length c1]) x (F1) := ⟨_, rfl, _, rfl, (s.get m1).2⟩
  refine h.h a w (s.add (N := [.isv EReceiveWindow (.agg #[.int .i64 x.next, .slice a1 x.slots.length c1]) x (F1)]) (Below.refl _ _) (by intro q hq; simp at hq; subst hq; exact hP) ⟨by simp, trivial⟩ fun q hq b hb => ?_) g
  simp at hq; subst hq
  simp only [Pc.F, List.mem_append] at hb
  exact .inr ⟨rfl, _, m1, rfl, hb⟩
end
end Go.Proofs.YtccmhdheoeglmaaGreatDoor
/- Structs of type Slot in a walk's state: opened, closed. -/
namespace Go.Proofs.YtccmhdheoeglmaaGreatDoor
open Go.RowKit
section
variable {c : Cx} {fr : Fr} {H : List Pc} {Φ : Gl}
theorem openSlot {v : Value} {x : Slot} {F : List Nat} (h : ∀ (_ : Unit), v = .agg #[.bool x.hav, .string x.item] → x.item.size ≤ maxLen → T c fr (H) Φ) (hm : .isv ESlot v x F ∈ H := by (repeat (first | exact .head _ | apply List.Mem.tail)); first | done | fail) : T c fr H Φ := .mk fun a w s g => by
  obtain ⟨cs, rfl, rfl, s1, rfl⟩ := s.get hm
  exact (h () rfl s1 ).h a w s g
theorem atSlot {a : Option Addr} {n cp : Nat} {xs : List Slot} {F : List Nat} (i : Nat) (h : ∀ (hi : i < xs.length) (b o : Nat), a = some ⟨b, o, none⟩ → xs[i].item.size ≤ maxLen → T c fr (.cel b (o + i * 2) [.bool xs[i].hav, .string xs[i].item] :: H) Φ) (hm : .sl ESlot (.slice a n cp) xs F ∈ H := by (repeat (first | exact .head _ | apply List.Mem.tail)); first | done | fail) (hi : i < xs.length := by omega) : T c fr H Φ := .mk fun ac w s g => by
  obtain ⟨b, o, cs, G, ha, hrep, hG, hb, hne, hr⟩ := sl_at (s.get hm) i hi
  obtain ⟨rfl, s1, rfl⟩ := hrep
  exact (h hi b o  ha s1 ).h ac w (s.ro hm rfl rfl ⟨hne, hr⟩ (by intro x hx; simp [Pc.F] at hx; subst hx; exact hb)) g
end
end Go.Proofs.YtccmhdheoeglmaaGreatDoor
/- Walks: serials: what lies behind, gaps, what is before what. -/
namespace Go.Proofs.YtccmhdheoeglmaaGreatDoor
open Go.RowKit

theorem isSer_iff {x : Int} : isSer x = true ↔ 0 ≤ x ∧ x ≤ 65535 := by unfold isSer btw; simp
/-- the serial n steps behind x -/
def aft (x n : Int) : Int := (x + n) % 65536
/-- the gap from a to b -/
def gp (a b : Int) : Int := (b - a) % 65536
def bef (a b : Int) : Bool := btw 1 (gp a b) 32767
theorem gp_bd (a b : Int) : 0 ≤ gp a b ∧ gp a b ≤ 65535 := by unfold gp; omega
theorem tmod_twice (z : Int) : ((z.tmod 65536) + 65536).tmod 65536 = z % 65536 := by
  rw [Int.tmod_eq_emod (a := z.tmod 65536 + 65536), Int.tmod_eq_emod]
  split <;> split <;> omega
theorem tmod_bd (z : Int) : -65535 ≤ z.tmod 65536 ∧ z.tmod 65536 ≤ 65535 := by
  rw [Int.tmod_eq_emod]
  split <;> omega
theorem after_c (x n : Int) (w : World) (h0 : -4611686018427387904 ≤ x + n) (h1 : x + n ≤ 4611686018427387904) :
    Calls Tryz.prog 168 #[.int .i64 x, .int .i64 n] w fun e w' => e = .returned (.int .i64 (aft x n)) ∧ w = w' := by
  have hb := tmod_bd (x + n)
  have hb1 := hb.1
  have hb2 := hb.2
  clear hb
  by_cases hz : 0 ≤ x + n
  · go_enter Tryz.func168, Tryz.ntmps168
    go_wp2
    go_ret
    exact ⟨ret_int (by unfold aft; omega), rfl⟩
  · have ht := tmod_twice (x + n)
    have ht := Lib.hid ht
    go_enter Tryz.func168, Tryz.ntmps168
    go_wp2
    go_ret
    refine ⟨ret_int ?_, rfl⟩
    have := ht.out
    rw [Int.tmod_eq_emod (a := (x + n).tmod 65536 + 65536)] at this
    unfold aft
    split at this <;> omega
theorem gap_c (a b : Int) (w : World) (h0 : -4611686018427387904 ≤ b - a) (h1 : b - a ≤ 4611686018427387904) (ha : -4611686018427387904 ≤ a) (ha' : a ≤ 4611686018427387904) :
    Calls Tryz.prog 120 #[.int .i64 a, .int .i64 b] w fun e w' => e = .returned (.int .i64 (gp a b)) ∧ w = w' := by
  go_enter Tryz.func120, Tryz.ntmps120
  go_wp2_with fail
  refine (after_c b (-a) _ (by omega) (by omega)).mono ?_
  rintro e w' ⟨rfl, rfl⟩
  go_wp2_with fail
  go_ret
  exact ⟨ret_int (by unfold aft gp; omega), rfl⟩
theorem l2Gap_c (a b : Int) (w : World) (h0 : -65536 ≤ b - a) (h1 : b - a ≤ 4611686018427387904) :
    Calls Tryz.prog 140 #[.int .i64 a, .int .i64 b] w fun e w' => e = .returned (.int .i64 (gp a b)) ∧ w = w' := by
  have h2 : 0 ≤ b - a + 65536 := by omega
  go_enter Tryz.func140, Tryz.ntmps140
  go_wp2
  go_ret
  exact ⟨ret_int (by unfold gp; omega), rfl⟩
theorem l2Before_c (a b : Int) (w : World) (h0 : -65536 ≤ b - a) (h1 : b - a ≤ 4611686018427387904) :
    Calls Tryz.prog 231 #[.int .i64 a, .int .i64 b] w fun e w' => e = .returned (.bool (bef a b)) ∧ w = w' := by
  go_enter Tryz.func231, Tryz.ntmps231
  go_wp2_with fail
  refine (l2Gap_c a b _ h0 h1).mono ?_
  rintro e w' ⟨rfl, rfl⟩
  go_wp2_with fail
  refine (l1In_c _ _ _ _).mono ?_
  rintro e w' ⟨rfl, rfl⟩
  go_wp2_with fail
  go_ret
  exact ⟨rfl, rfl⟩
end Go.Proofs.YtccmhdheoeglmaaGreatDoor
/- Walks: items: texts of at most eight small letters. -/
namespace Go.Proofs.YtccmhdheoeglmaaGreatDoor
open Go.RowKit Go.Shelf

def low (b : UInt8) : Bool := btw 97 b.toNat 122
def lows (l : List UInt8) : Bool := l.all low
def itm (s : ByteArray) : Bool := decide ((s.size : Int) ≤ 8) && lows s.data.toList
def abc : List UInt8 := [97, 98, 99, 100, 101, 102, 103, 104, 105, 106, 107, 108, 109, 110, 111, 112, 113, 114, 115, 116, 117, 118, 119, 120, 121, 122]
theorem abc_low (b : UInt8) : abc.contains b = low b := by
  have h : ∀ n : Fin 256, abc.contains (UInt8.ofNat n.val) = low (UInt8.ofNat n.val) := by decide +kernel
  have := h ⟨b.toNat, b.toNat_lt⟩
  simpa using this
theorem dropWhile_nil {α : Type} (p : α → Bool) (l : List α) : l.dropWhile p = [] ↔ l.all p = true := by
  induction l with
  | nil => simp
  | cons x r ih => rw [List.dropWhile_cons]; cases h : p x <;> simp [h, ih]
theorem all_dropWhile {α : Type} (p : α → Bool) (l : List α) : (l.dropWhile p).all p = l.all p := by
  induction l with
  | nil => simp
  | cons x r ih => rw [List.dropWhile_cons]; cases h : p x <;> simp [h, ih]
theorem trimS_nil (l cs : List UInt8) : (Lib.trimS l cs = []) ↔ l.all (cs.contains ·) = true := by
  unfold Lib.trimS Lib.trimLeftS Lib.trimRightS
  rw [dropWhile_nil, List.all_reverse, all_dropWhile, List.all_reverse]
theorem trim_abc (l : List UInt8) : (Lib.trimS l abc == []) = lows l := by
  rw [Bool.eq_iff_iff, beq_iff_eq, trimS_nil]
  unfold lows
  rw [show (fun b => abc.contains b) = low from funext abc_low]
set_option maxHeartbeats 400000 in
theorem isItem_c (s : ByteArray) (w : World) (hs : s.size ≤ maxLen) :
    Calls Tryz.prog 209 #[.string s] w fun e w' => e = .returned (.bool (itm s)) ∧ Below w.heap.size w w' := by
  unfold maxLen at hs
  have hc := fun w => Any.strings_Trim_laid Tryz.lays160 (by kernel_rfl) s ⟨abc.toArray⟩ w hs (by decide) (ascii_of_all (by decide))
  change ∀ w, Calls Tryz.prog 237 #[.string s, .string ⟨abc.toArray⟩] w (fun e w' => e = .returned (.string ⟨(Lib.trimS s.data.toList abc).toArray⟩) ∧ Below w.heap.size w w') at hc
  have ht := trim_abc s.data.toList
  replace hc := Lib.hid hc
  by_cases h8 : s.size ≤ 8
  · generalize Lib.trimS s.data.toList abc = t at *
    have hi : itm s = (t == []) := by unfold itm; rw [ht, decide_eq_true (by omega)]; rfl
    replace hi := Lib.hid hi
    clear ht
    cases t with
    | nil =>
      go_enter Tryz.func209, Tryz.ntmps209
      go_wp2_with fail
      refine (hc.out _).mono ?_
      rintro e w1 ⟨rfl, hb⟩
      go_wp2_with fail
      go_ret
      exact ⟨ret_bool hi.out.symm, hb⟩
    | cons a r =>
      go_enter Tryz.func209, Tryz.ntmps209
      go_wp2_with fail
      refine (hc.out _).mono ?_
      rintro e w1 ⟨rfl, hb⟩
      go_wp2_with fail
      go_ret
      exact ⟨ret_bool hi.out.symm, hb⟩
  · have hi : itm s = false := by unfold itm; rw [decide_eq_false (by omega)]; rfl
    replace hi := Lib.hid hi
    go_enter Tryz.func209, Tryz.ntmps209
    go_wp2_with fail
    go_ret
    exact ⟨ret_bool hi.out.symm, Below.refl _ _⟩
theorem lows_drop (s : ByteArray) (k : Nat) (h : k < s.size) : lows (s.data.toList.drop k) = (low s[k] && lows (s.data.toList.drop (k + 1))) := by rw [drop_at s k h]; rfl
set_option maxHeartbeats 400000 in
theorem l4Letters_c (s : ByteArray) (n : Int) (w : World) (hs : s.size ≤ maxLen) :
    Calls Tryz.prog 191 #[.string s, .int .i64 n] w fun e w' => e = .returned (.bool (decide ((s.size : Int) ≤ n) && lows s.data.toList)) ∧ w = w' := by
  unfold maxLen at hs
  go_enter Tryz.func191, Tryz.ntmps191
  go_wp2
  go_loop [5] (fun i => ∃ k : Nat, k ≤ s.size ∧ i = .int .i64 k ∧ Hid (lows s.data.toList = lows (s.data.toList.drop k))) (fun i => s.size - (intOf i).toNat)
  case atStart => exact ⟨0, Nat.zero_le _, rfl, rfl⟩
  case round =>
    obtain ⟨k, hk, rfl, hz⟩ := hrel
    by_cases hlt : k < s.size
    · have hz := Lib.hid (hz.out.trans (lows_drop s k hlt))
      have hb : (s[k].toNat : Int) ≤ 255 := by have := s[k].toNat_lt; omega
      cases hl : low s[k]
      · have hl1 : low s[k] = false := hl
        unfold low btw at hl
        by_cases h1 : (s[k].toNat : Int) < 97
        · clear hl
          go_wp2
          go_ret
          exact ⟨ret_bool (by rw [hz.out, hl1]; simp), rfl⟩
        · have h2 : (122 : Int) < s[k].toNat := by simp at hl; omega
          clear hl
          go_wp2
          go_ret
          exact ⟨ret_bool (by rw [hz.out, hl1]; simp), rfl⟩
      · have hl1 : low s[k] = true := hl
        unfold low btw at hl
        simp only [Bool.and_eq_true, decide_eq_true_eq] at hl
        have h1 : ¬ (s[k].toNat : Int) < 97 := by omega
        have h2 : ¬ (122 : Int) < s[k].toNat := by omega
        clear hl
        replace hl1 := Lib.hid hl1
        go_wp2
        go_round
        case rel => exact ⟨k + 1, by omega, by go_num, by refine Lib.hid ?_; rw [hz.out, hl1.out]; rfl⟩
        case measure => simp [intOf]; omega
    · go_wp2
      go_ret
      exact ⟨ret_bool (by rw [hz.out, drop_end s k hlt]; simp [lows]), rfl⟩
end Go.Proofs.YtccmhdheoeglmaaGreatDoor
/- Walks of Go's generic library functions on slices of impl.Slot. Written by wip/genlib.py. -/
namespace Go.Proofs.YtccmhdheoeglmaaGreatDoor
open Go.RowKit
set_option maxHeartbeats 800000 in
set_option maxRecDepth 100000 in
theorem IndexFunc_Slot (fid : FuncId) (hbd : Body Tryz.prog fid) (caps : Array Value) (v : Value) (xs : List Slot) (F : List Nat) (p : Slot → Bool) (w : World) (h : Sl ESlot w v xs F)
    (hp : ∀ (k : Nat) (hk : k < xs.length) (wr : World) (u : Value) (G : List Nat), Below w.heap.size w wr → IsV ESlot wr u xs[k] G → Calls Tryz.prog fid (#[u] ++ caps) wr fun e w' => e = .returned (.bool (p xs[k])) ∧ Below wr.heap.size wr w') :
    Calls Tryz.prog 238 #[v, .func (.func fid) #[] caps] w fun e w' => e = .returned (.int .i64 (fidx p xs)) ∧ Below w.heap.size w w' := by
  obtain ⟨a, cap, rfl⟩ := h.slice
  have hl := h.len
  unfold maxLen at hl
  go_enter Tryz.func238, Tryz.ntmps238
  go_wp2
  go_loopw [5, 8] (fun _ i wr => ∃ k : Nat, k ≤ xs.length ∧ i = .int .i64 k ∧ Hid (∀ j, j < k → ∀ hj : j < xs.length, p xs[j] = false) ∧ Below w.heap.size w wr) (fun _ i _ => xs.length - (intOf i).toNat)
  case atStart => exact ⟨0, Nat.zero_le _, rfl, fun j hj => by omega, Below.refl _ _⟩
  case round =>
    obtain ⟨k, hk, rfl, hz, hB⟩ := hrel
    by_cases hlt : k < xs.length
    · have hz0 := hz; clear hz
      obtain ⟨b, off, _, F1, rfl, hx, -, ja⟩ := (h.below (by decide) hB).at k hlt
      obtain ⟨rfl, s1, rfl⟩ := id hx
      have a0 := ja 0 (by decide)
      have a1 := ja 1 (by decide)
      simp only [show ESlot.sz = 2 from rfl, Nat.mul_one, Nat.add_zero, List.getElem?_cons_zero, List.getElem?_cons_succ] at a0 a1
      clear ja
      have hr := hp k hlt wr _ _ hB ⟨_, rfl, hx⟩
      have hp := Lib.hid hp
      cases hpk : p xs[k]
      all_goals
        rw [hpk] at hr
        have hpk := Lib.hid hpk
        have hr := Lib.hid hr
        go_wp2_with fail
        refine hbd.upon hr.out ?_
        rintro e w1 ⟨rfl, hb1⟩
        refine ⟨_, rfl, ?_⟩
        have hB := tr hB hb1 (Nat.le_refl _)
        clear hb1
        go_wp2_with fail
      · exact ⟨⟨k + 1, by omega, by go_num, fun j hj hl => by rcases Nat.lt_or_eq_of_le (Nat.le_of_lt_succ hj) with h | h; exact hz0.out j h hl; subst h; exact hpk.out, hB⟩, by simp [intOf]; omega⟩
      · go_ret
        exact ⟨ret_int (fidx_hit hlt hz0.out hpk.out).symm, hB⟩
    · go_wp2
      go_ret
      exact ⟨ret_int (fidx_none (fun j hj => hz.out j (by omega) hj)).symm, hB⟩
theorem ContainsFunc_Slot (fid : FuncId) (hbd : Body Tryz.prog fid) (caps : Array Value) (v : Value) (xs : List Slot) (F : List Nat) (p : Slot → Bool) (w : World) (h : Sl ESlot w v xs F)
    (hp : ∀ (k : Nat) (hk : k < xs.length) (wr : World) (u : Value) (G : List Nat), Below w.heap.size w wr → IsV ESlot wr u xs[k] G → Calls Tryz.prog fid (#[u] ++ caps) wr fun e w' => e = .returned (.bool (p xs[k])) ∧ Below wr.heap.size wr w') :
    Calls Tryz.prog 210 #[v, .func (.func fid) #[] caps] w fun e w' => e = .returned (.bool (xs.any p)) ∧ Below w.heap.size w w' := by
  have hp := Lib.hid hp
  go_enter Tryz.func210, Tryz.ntmps210
  go_wp2_with fail
  refine (IndexFunc_Slot fid hbd caps v xs F p _ h hp.out).mono ?_
  rintro e w1 ⟨rfl, hb1⟩
  go_wp2_with fail
  go_ret
  exact ⟨ret_bool (fidx_any p xs), hb1⟩
end Go.Proofs.YtccmhdheoeglmaaGreatDoor
/- Receive windows: the check, what is there. -/
namespace Go.Proofs.YtccmhdheoeglmaaGreatDoor
open Go.RowKit
def okSlot (s : Slot) : Bool := itm s.item && (s.hav || decide (s.item = ⟨#[]⟩))
def havAt (l : List Slot) (k : Nat) : Bool := match l[k]? with | some s => s.hav | none => false
def ends (l : List Slot) : Bool := decide (l.length = 0) || (!havAt l 0 && havAt l (l.length - 1))
def goodRW (x : ReceiveWindow) : Bool := isSer x.next && decide ((x.slots.length : Int) ≤ 8) && x.slots.all okSlot && ends x.slots
theorem havAt_lt {l : List Slot} {k : Nat} (h : k < l.length) : havAt l k = l[k].hav := by unfold havAt; rw [List.getElem?_eq_getElem h]
theorem havAt_ge {l : List Slot} {k : Nat} (h : l.length ≤ k) : havAt l k = false := by unfold havAt; rw [List.getElem?_eq_none h]
def hasB (x : ReceiveWindow) (k : Int) : Bool := havAt x.slots (gp x.next k).toNat
set_option maxRecDepth 100000 in
theorem RWhas_f (x : ReceiveWindow) (k : Int) (v : Value) (F : List Nat) (h0 : 0 ≤ x.next) (h1 : x.next ≤ 65535) (h2 : 0 ≤ k) (h3 : k ≤ 65535) :
    Fn Tryz.prog 176 [v, .int .i64 k] [.isv EReceiveWindow v x F] [] (fun (_ : Unit) => True) (fun _ => .bool (hasB x k)) (fun _ => []) := by
  refine enter Tryz.func176 rfl Tryz.ntmps176 fun w0 => ?_
  refine openReceiveWindow ?_
  rintro a1 c1 F1 rfl l1
  unfold maxLen at l1
  have hg := gp_bd x.next k
  refine go ?_; intros
  refine ce (fun w s => gap_c _ _ _ (by omega) (by omega) (by omega) (by omega)) ?_
  refine go ?_; intros
  refine wg_if rfl rfl (fun h => ?_) (fun h => ?_)
  · refine atSlot (gp x.next k).toNat ?_
    rintro hi b o rfl s1
    refine go ?_; intros
    refine ret () trivial ?_
    unfold hasB; rw [havAt_lt hi]; rfl
  · refine go ?_; intros
    refine ret () trivial ?_
    unfold hasB; rw [havAt_ge (by omega)]; rfl
set_option maxRecDepth 100000 in
theorem RWok_f (x : Slot) (v : Value) (F : List Nat) : Fn Tryz.prog 211 [v] [.isv ESlot v x F] [] (fun (_ : Unit) => True) (fun _ => .bool (!okSlot x)) (fun _ => []) := by
  refine enter Tryz.func211 rfl Tryz.ntmps211 fun w0 => ?_
  refine openSlot ?_
  rintro _ rfl s1
  refine go ?_; intros
  refine cb (fun w s => isItem_c _ _ s1) ?_
  cases g : itm x.item
  · refine go ?_; intros
    refine ret () trivial ?_
    simp [okSlot, g, tup]
  refine go ?_; intros
  cases g2 : x.hav
  · refine go ?_; intros
    refine ret () trivial ?_
    simp [okSlot, g, g2, tup]
  · refine go ?_; intros
    refine ret () trivial ?_
    simp [okSlot, g, g2, tup]
set_option maxRecDepth 100000 in
theorem RWgood_f (x : ReceiveWindow) (v : Value) (F : List Nat) : Fn Tryz.prog 172 [v] [.isv EReceiveWindow v x F] [] (fun (_ : Unit) => True) (fun _ => .bool (goodRW x)) (fun _ => []) := by
  refine enter Tryz.func172 rfl Tryz.ntmps172 fun w0 => ?_
  refine openReceiveWindow ?_
  rintro a1 c1 F1 rfl l1
  unfold maxLen at l1
  refine go ?_; intros
  refine ce (fun w s => IsSerial_c _ _) ?_
  cases g1 : isSer x.next
  · refine go ?_; intros
    refine ret () trivial ?_
    simp [goodRW, g1, tup]
  refine go ?_; intros
  refine c_if rfl (fun h => ?_) (fun h => ?_)
  · refine go ?_; intros
    refine ret () trivial ?_
    simp [goodRW, g1, tup]; omega
  refine go ?_; intros
  refine cb (fun w s => ContainsFunc_Slot _ (.mk' Tryz.func211 rfl rfl) #[] _ x.slots F1 (fun s => !okSlot s) _ (s.get (p := .sl ESlot (.slice a1 x.slots.length c1) x.slots F1) (by simp)).2 ?_) ?_
  · intro k hk wr u G _ hu
    exact (RWok_f x.slots[k] u G).val wr (hol1 hu)
  cases g2 : x.slots.all okSlot
  · have : (x.slots.any fun s => !okSlot s) = true := by rw [← List.not_all_eq_any_not, g2]; rfl
    rw [this]
    refine go ?_; intros
    refine ret () trivial ?_
    simp [goodRW, g2, tup]
  have hx : (x.slots.any fun s => !okSlot s) = false := by rw [← List.not_all_eq_any_not, g2]; rfl
  rw [hx]
  refine go ?_; intros
  have g3 : goodRW x = ends x.slots := by simp [goodRW, g1, g2]; omega
  refine wg_if rfl rfl (fun h => ?_) (fun h => ?_)
  · refine go ?_; intros
    refine ret () trivial ?_
    rw [g3]; have : x.slots.length = 0 := by omega
    simp [ends, this, tup]
  refine atSlot 0 ?_
  rintro hi b o rfl s1
  refine go ?_; intros
  cases g4 : x.slots[0].hav
  rotate_left
  · refine go ?_; intros
    refine ret () trivial ?_
    rw [g3]; unfold ends; rw [havAt_lt hi, g4, decide_eq_false (by omega)]; rfl
  refine atSlot (x.slots.length - 1) ?_
  rintro hi2 b2 o2 e s2
  cases e
  refine go ?_; intros
  have hl : ((x.slots.length : Int) - 1).toNat = x.slots.length - 1 := by omega
  rw [hl]
  refine go ?_; intros
  refine ret () trivial ?_
  rw [g3]; unfold ends; rw [havAt_lt hi, havAt_lt hi2, g4, decide_eq_false (by omega)]; rfl
end Go.Proofs.YtccmhdheoeglmaaGreatDoor
/- Receive windows: the reference's check. -/
namespace Go.Proofs.YtccmhdheoeglmaaGreatDoor
open Go.RowKit
theorem itm_8 (s : ByteArray) : (decide ((s.size : Int) ≤ 8) && lows s.data.toList) = itm s := rfl
theorem all_take_succ {α : Type} {p : α → Bool} {l : List α} {k : Nat} (h : k < l.length) : (l.take (k + 1)).all p = ((l.take k).all p && p l[k]) := by
  rw [List.take_succ_eq_append_getElem h, List.all_append]; simp
theorem all_of_not {α : Type} {p : α → Bool} {l : List α} {k : Nat} (h : k < l.length) (hp : p l[k] = false) : l.all p = false := by
  rw [List.all_eq_false]; exact ⟨l[k], List.getElem_mem h, by simp [hp]⟩
set_option maxRecDepth 100000 in
theorem l10Good_f (x : ReceiveWindow) (v : Value) (F : List Nat) : Fn Tryz.prog 198 [v] [.isv EReceiveWindow v x F] [] (fun (_ : Unit) => True) (fun _ => .bool (goodRW x)) (fun _ => []) := by
  refine enter Tryz.func198 rfl Tryz.ntmps198 fun w0 => ?_
  refine openReceiveWindow ?_
  rintro a1 c1 F1 rfl l1
  unfold maxLen at l1
  refine go ?_; intros
  refine ce (fun w s => l2Good_c _ _) ?_
  cases g1 : isSer x.next
  · refine go ?_; intros
    refine ret () trivial ?_
    simp [goodRW, g1, tup]
  refine go ?_; intros
  refine c_if rfl (fun h => ?_) (fun h => ?_)
  · refine go ?_; intros
    refine ret () trivial ?_
    simp [goodRW, g1, tup]; omega
  refine go ?_; intros
  refine c_loopR [1, 2, 3] (fun k : Nat => [(4, .int .i64 k)]) (fun k => k ≤ x.slots.length ∧ (x.slots.take k).all okSlot = true) (fun k => x.slots.length - k) 0 ⟨Nat.zero_le _, rfl⟩ fun k hk => ?_
  obtain ⟨hk1, hk2⟩ := hk
  refine go ?_; intros
  refine c_if rfl (fun h3 => ?_) (fun h3 => ?_)
  · have hk3 : k < x.slots.length := by omega
    refine atSlot k ?_
    rintro hi b o e s1
    cases e
    refine go ?_; intros
    refine ce (fun w s => l4Letters_c _ _ _ s1) ?_
    rw [itm_8]
    cases g2 : itm x.slots[k].item
    · refine go ?_; intros
      refine ret () trivial ?_
      have : x.slots.all okSlot = false := all_of_not hk3 (by simp [okSlot, g2])
      simp [goodRW, this, tup]
    refine go ?_; intros
    cases g3 : x.slots[k].hav
    rotate_left
    · refine go ?_; intros
      refine n_lp (k + 1) ⟨by omega, by rw [all_take_succ hk3, hk2]; simp [okSlot, g2, g3]⟩ (by omega)
    refine go ?_; intros
    refine c_if rfl (fun g4 => ?_) (fun g4 => ?_)
    · refine go ?_; intros
      refine ret () trivial ?_
      have : x.slots.all okSlot = false := all_of_not hk3 (by simp [okSlot, g2, g3, g4])
      simp [goodRW, this, tup]
    · refine go ?_; intros
      simp only [Decidable.not_not] at g4
      have ho : okSlot x.slots[k] = true := by unfold okSlot; rw [g2, g3, decide_eq_true g4]; rfl
      refine n_lp (k + 1) ⟨by omega, by rw [all_take_succ hk3, hk2, ho]; rfl⟩ (by omega)
  have hkl : k = x.slots.length := by omega
  subst hkl
  rw [List.take_length] at hk2
  have g3 : goodRW x = ends x.slots := by simp [goodRW, g1, hk2]; omega
  refine go ?_; intros
  refine wg_if rfl rfl (fun h4 => ?_) (fun h4 => ?_)
  · refine go ?_; intros
    refine ret () trivial ?_
    rw [g3]; have : x.slots.length = 0 := by omega
    simp [ends, this, tup]
  refine atSlot 0 ?_
  rintro hi b o e s1
  cases e
  refine go ?_; intros
  cases g4 : x.slots[0].hav
  rotate_left
  · refine go ?_; intros
    refine ret () trivial ?_
    rw [g3]; unfold ends; rw [havAt_lt hi, g4, decide_eq_false (by omega)]; rfl
  refine atSlot (x.slots.length - 1) ?_
  rintro hi2 b2 o2 e s2
  cases e
  refine go ?_; intros
  have hl : ((x.slots.length : Int) - 1).toNat = x.slots.length - 1 := by omega
  rw [hl]
  refine go ?_; intros
  refine ret () trivial ?_
  rw [g3]; unfold ends; rw [havAt_lt hi, havAt_lt hi2, g4, decide_eq_false (by omega)]; rfl
end Go.Proofs.YtccmhdheoeglmaaGreatDoor
/- Receive windows: what is released, what is taken. Plain lists. -/
namespace Go.Proofs.YtccmhdheoeglmaaGreatDoor
open Go.RowKit
def plus (s : ByteArray) : ByteArray := ⟨#[43]⟩ ++ s
def rel : Int → List Slot → Int × List Slot × List ByteArray
  | n, [] => (n, [], [])
  | n, s :: r => if s.hav then ((rel (aft n 1) r).1, (rel (aft n 1) r).2.1, plus s.item :: (rel (aft n 1) r).2.2) else (n, s :: r, [])
end Go.Proofs.YtccmhdheoeglmaaGreatDoor
/- Receive windows: the copy, a step, what is released. -/
namespace Go.Proofs.YtccmhdheoeglmaaGreatDoor
open Go.RowKit
end Go.Proofs.YtccmhdheoeglmaaGreatDoor
/- Receive windows: what is released. -/
namespace Go.Proofs.YtccmhdheoeglmaaGreatDoor
open Go.RowKit
def relW (x : ReceiveWindow) : ReceiveWindow := ⟨(rel x.next x.slots).1, (rel x.next x.slots).2.1⟩
def relE (x : ReceiveWindow) : List ByteArray := (rel x.next x.slots).2.2
/-- events so far, the window, where both lie -/
structure RelS where
  es : List ByteArray
  y : ReceiveWindow
  a : Option Addr
  c : Nat
  F : List Nat
  ae : Option Addr
  ce : Nat
  Fe : List Nat
structure RelOk (x : ReceiveWindow) (s : RelS) : Prop where
  n0 : 0 ≤ s.y.next
  n1 : s.y.next ≤ 65535
  it : ∀ z ∈ s.y.slots, z.item.size ≤ 8
  ln : s.es.length + s.y.slots.length ≤ x.slots.length
  w : relW x = relW s.y
  e : relE x = s.es ++ relE s.y
end Go.Proofs.YtccmhdheoeglmaaGreatDoor
/- Receive windows: what is taken, what is given up: in place. -/
namespace Go.Proofs.YtccmhdheoeglmaaGreatDoor
open Go.RowKit
def takeNo (x : ReceiveWindow) (n : Int) : Bool := bef n x.next || hasB x n
structure PadS where
  j : Nat
  a : Option Addr
  c : Nat
  F : List Nat
end Go.Proofs.YtccmhdheoeglmaaGreatDoor
/- Receive windows: TakeItem and GiveUpTo of the program. -/
namespace Go.Proofs.YtccmhdheoeglmaaGreatDoor
open Go.RowKit
theorem okSlot_size {s : Slot} (h : okSlot s = true) : s.item.size ≤ 8 := by
  unfold okSlot itm at h
  simp only [Bool.and_eq_true, decide_eq_true_eq] at h
  omega
structure GoodRW (x : ReceiveWindow) : Prop where
  n0 : 0 ≤ x.next
  n1 : x.next ≤ 65535
  l : x.slots.length ≤ 8
  it : ∀ s ∈ x.slots, s.item.size ≤ 8
theorem good_of {x : ReceiveWindow} (h : goodRW x = true) : GoodRW x := by
  unfold goodRW at h
  simp only [Bool.and_eq_true, decide_eq_true_eq] at h
  have hs := isSer_iff.1 h.1.1.1
  exact ⟨hs.1, hs.2, by omega, fun s hs => okSlot_size (List.all_eq_true.1 h.1.2 s hs)⟩
end Go.Proofs.YtccmhdheoeglmaaGreatDoor
/- Receive windows: the reference's. -/
namespace Go.Proofs.YtccmhdheoeglmaaGreatDoor
open Go.RowKit
structure CpS where
  g : Nat
  a : Option Addr
  c : Nat
  F : List Nat
end Go.Proofs.YtccmhdheoeglmaaGreatDoor
/- Receive windows: the reference's taking and giving up. -/
namespace Go.Proofs.YtccmhdheoeglmaaGreatDoor
open Go.RowKit
end Go.Proofs.YtccmhdheoeglmaaGreatDoor
/- Receive windows: the reference's GiveUpTo and TakeItem; the contracts that the laws ask. -/
namespace Go.Proofs.YtccmhdheoeglmaaGreatDoor
open Go.RowKit
end Go.Proofs.YtccmhdheoeglmaaGreatDoor
/- Receive windows: GiveUpTo and TakeItem of the reference; the contracts that the laws ask. -/
namespace Go.Proofs.YtccmhdheoeglmaaGreatDoor
open Go.RowKit
end Go.Proofs.YtccmhdheoeglmaaGreatDoor
/- Receive windows: what is counted, what is there, what is seen; serials. -/
namespace Go.Proofs.YtccmhdheoeglmaaGreatDoor
open Go.RowKit
set_option maxRecDepth 100000 in
theorem l10Have_f (x : ReceiveWindow) (n : Int) (v : Value) (F : List Nat) (h0 : 0 ≤ x.next) (h1 : x.next ≤ 65535) (h2 : 0 ≤ n) (h3 : n ≤ 65535) :
    Fn Tryz.prog 200 [v, .int .i64 n] [.isv EReceiveWindow v x F] [] (fun (_ : Unit) => True) (fun _ => .bool (takeNo x n)) (fun _ => []) := by
  have hg := gp_bd x.next n
  refine enter Tryz.func200 rfl Tryz.ntmps200 fun w0 => ?_
  refine openReceiveWindow ?_
  rintro a1 c1 F1 rfl l1
  refine go ?_; intros
  refine ce (fun w s => l2Gap_c _ _ _ (by omega) (by omega)) ?_
  obtain ⟨k, hk⟩ : ∃ k : Nat, gp x.next n = k := ⟨(gp x.next n).toNat, by omega⟩
  have hh : hasB x n = havAt x.slots k := by unfold hasB; rw [hk, Int.toNat_natCast]
  rw [hk]
  refine go ?_; intros
  refine ce (fun w s => l2Before_c _ _ _ (by omega) (by omega)) ?_
  cases g1 : bef n x.next
  · refine go ?_; intros
    refine wg_if rfl rfl (fun h4 => ?_) (fun h4 => ?_)
    · refine atSlot (xs := x.slots) k ?_
      rintro hi2 b2 o2 e s1
      rw [e]
      refine go ?_; intros
      refine ret () trivial ?_
      simp [takeNo, g1, hh, havAt_lt hi2, tup]
    · refine go ?_; intros
      refine ret () trivial ?_
      simp [takeNo, g1, hh, havAt_ge (show x.slots.length ≤ k by omega), tup]
  · refine go ?_; intros
    refine ret () trivial ?_
    simp [takeNo, g1, tup]
end Go.Proofs.YtccmhdheoeglmaaGreatDoor
/- Receive windows: what is given up, counted. Plain. -/
namespace Go.Proofs.YtccmhdheoeglmaaGreatDoor
open Go.RowKit
end Go.Proofs.YtccmhdheoeglmaaGreatDoor
/- Receive windows: what is left after giving up is valid; nothing before is awaited. Plain. -/
namespace Go.Proofs.YtccmhdheoeglmaaGreatDoor
open Go.RowKit
end Go.Proofs.YtccmhdheoeglmaaGreatDoor
/- Receive windows: an item that is taken is there or released, once. Plain. -/
namespace Go.Proofs.YtccmhdheoeglmaaGreatDoor
open Go.RowKit
end Go.Proofs.YtccmhdheoeglmaaGreatDoor
/- A string as a row of one. -/
namespace Go.Proofs.YtccmhdheoeglmaaGreatDoor
open Go.RowKit
theorem t_sl {c : Cx} {fr : Fr} {H : List Pc} {Φ : Gl} {α : Type} {E : Elem α} {v : Value} {xs : List α} {F : List Nat} (h : ∀ a cp, v = .slice a xs.length cp → xs.length ≤ cp → cp ≤ 9223372036854775807 → T c fr H Φ) (hm : .sl E v xs F ∈ H := by (repeat (first | exact .head _ | apply List.Mem.tail)); first | done | fail) : T c fr H Φ := .mk fun ac w s g => by
  obtain ⟨-, hs⟩ := s.get hm
  obtain ⟨a, cp, rfl⟩ := hs.slice
  obtain ⟨-, h2, h3⟩ := hs.caps
  exact (h a cp rfl h2 (by unfold maxLen at h3; omega)).h ac w s g
/-- a row of our own is an owned slice -/
theorem t_row {c : Cx} {fr : Fr} {H : List Pc} {Φ : Gl} {α : Type} {E : Elem α} {t g : Nat} {cs : List Value} {xs : List α} {S : List Pc} (hfl : ∀ w, Flat E w cs xs []) (h : T c fr (.ow E t (.slice (some ⟨g, 0, none⟩) xs.length xs.length) xs [g] :: S) Φ) (hl : xs.length ≤ 1000000) (hp : Pick H (.row g t 0 [] cs []) S := by (repeat (first | exact .here | apply Pick.there)); first | done | fail) : T c fr H Φ := .mk fun a w s g' => by
  have s1 := s.pick hp
  have hr := (s1.on (.row g t 0 [] cs []) (by simp)).2
  have hlen := (hfl w).len
  refine h.h a w (s1.conv rfl ⟨by simp, .inr ⟨g, xs.length, cs, [], [], rfl, by simpa using hr, Nat.le_refl _, by unfold maxLen; omega, by simpa using hlen, hfl w, rfl⟩⟩ (by simp [Pc.F])) g'
end Go.Proofs.YtccmhdheoeglmaaGreatDoor
/- Serials in a row. -/
namespace Go.Proofs.YtccmhdheoeglmaaGreatDoor
open Go.RowKit
structure SpS where
  k : Nat
  a : Option Addr
  c : Nat
  F : List Nat
end Go.Proofs.YtccmhdheoeglmaaGreatDoor
/- More operations: parts of texts, slices made, functions called by their value; a part of a slice that reads. -/
namespace Go.Proofs.YtccmhdheoeglmaaGreatDoor
open Go.RowKit
section
variable {P : Program} {n : Nat} {fr : Fr} {H : List Pc} {ty : TypeId} {x y z : Operand}
end
section
variable {c : Cx} {fr : Fr} {H : List Pc} {k : List It} {Φ : Gl} {ops : Array Oper} {rest : List Oper} {d : Nat} {o : Op} {ty : TypeId} {v u : Value} {x y : Operand}
theorem o_ms {t e m b : Nat} {z : Value} [hS : SlC c.P t e m] [hE : ElT c.P e z m b] (k : Nat) {kl kc : IntKind} {cs : List Value} (hd : Nat.blt d c.n = true) (hx : ev fr x = some (.int kl (k : Nat))) (hy : ev fr y = some (.int kc (k : Nat))) (hcs : madeCells z.cells (k * m) = cs.toArray) (hb : b * k ≤ 281474976710656) (h63 : k ≤ 9223372036854775807)
    (h : ∀ g, T c ((d, .slice (some ⟨g, 0, none⟩) k k) :: fr) (.row g e 0 [] cs [] :: H) Φ) : On c fr H (some d) (.makeSlice t x y) ty Φ := ⟨fun _ _ _ => ef_of fun Q a w s g => by
  obtain ⟨i, hi, hiz⟩ := Option.map_eq_some_iff.1 hE.i
  simp only [Prod.mk.injEq] at hiz
  obtain ⟨i1, i2, i3⟩ := hiz
  have hb' : (i.bytes : Int) * ((k : Nat) : Int) ≤ 281474976710656 := by rw [i3]; have : ((b * k : Nat) : Int) ≤ 281474976710656 := by omega
                                                                         rwa [Int.natCast_mul] at this
  have hr := run_make (P := c.P) w t e i z hS.u hi i1 kl kc (k : Nat) (k : Nat) (by omega) (by omega) hb' (by omega)
  simp only [Int.toNat_natCast, i2, hcs] at hr
  have e1 : ∀ pos aft gd, (execOp a.eval ⟨some d, .makeSlice t x y, ty, pos, aft, gd⟩).run c.P w = .ok (.value (.slice (some ⟨w.heap.size, 0, none⟩) k k)) (w.alloc (.cells cs.toArray e)) := by
    intro pos aft gd
    simp [execOp, g.ev hx, g.ev hy, hr]
  rw [e1]
  exact (h _).h _ _ (s.new e cs) (g.put hd)⟩
end
end Go.Proofs.YtccmhdheoeglmaaGreatDoor
/- Rows written as wholes: an owned slice as its row and back, copying, appending that grows, functions that are entries of the model, parts of a slice as values. -/
namespace Go.Proofs.YtccmhdheoeglmaaGreatDoor
open Go.RowKit
theorem hsub_refl : ∀ (H : List Pc), HSub H H
  | [] => .nil
  | _ :: R => .cons .here (hsub_refl R)
theorem Flat.all {α : Type} {E : Elem α} {w : World} {cs : List Value} {xs : List α} (h : Flat E w cs xs []) (w' : World) : Flat E w' cs xs [] := h.frame (by simp)
section
variable {P : Program} {n : Nat} {fr : Fr} {H : List Pc} {ty : TypeId} {x y z : Operand}
end
section
variable {c : Cx} {fr : Fr} {H k' : List Pc} {k : List It} {Φ : Gl} {d : Nat} {o : Op} {ty : TypeId} {v u : Value} {x y : Operand}
end
end Go.Proofs.YtccmhdheoeglmaaGreatDoor
/- Functions bound to a receiver, clearing, loops beside pieces that are not told. -/
namespace Go.Proofs.YtccmhdheoeglmaaGreatDoor
open Go.RowKit
section
variable {P : Program} {n : Nat} {fr : Fr} {H : List Pc} {ty : TypeId}
end
section
variable {c : Cx} {fr : Fr} {H : List Pc} {k : List It} {Φ : Gl} {d : Nat} {ty : TypeId} {x : Operand}
theorem o_callb {fo : Operand} {f : Nat} {bd caps : List Value} {aS : List Operand} {ts : Array TypeId} {vs : List Value} (hd : Nat.blt d c.n = true) (hf : ev fr fo = some (.func (.func f) bd.toArray caps.toArray)) (hb : bodyB c.P f = true) (ha : Evs fr aS vs) (h : Cl c fr H d f (bd ++ vs ++ caps) Φ) : On c fr H (some d) (.call { callee := .value fo, args := aS.toArray, argTypes := ts }) ty Φ := ⟨fun _ _ _ => ef_of fun Q a w s g => by
  have e : ∀ pos aft gd, (execOp a.eval ⟨some d, .call { callee := .value fo, args := aS.toArray, argTypes := ts }, ty, pos, aft, gd⟩).run c.P w = (callFunc f (bd ++ vs ++ caps).toArray).run c.P w := by
    intro pos aft gd
    simp [execOp, resolve, Deferred.ofValue, g.ev hf, invoke, g.evs ha]
  rw [e]
  obtain ⟨R, hc, hk⟩ := h.h w s
  refine (body_of hb).upon hc fun e w' hR => ?_
  obtain ⟨v, he, hv⟩ := hk e w' hR
  exact ⟨v, he, hv _ (g.put hd)⟩⟩
end
end Go.Proofs.YtccmhdheoeglmaaGreatDoor
/- Deleting out of lists of integers, by the engine. -/
namespace Go.Proofs.YtccmhdheoeglmaaGreatDoor
open Go.RowKit
end Go.Proofs.YtccmhdheoeglmaaGreatDoor
/- Receive windows: what is missing. -/
namespace Go.Proofs.YtccmhdheoeglmaaGreatDoor
open Go.RowKit
end Go.Proofs.YtccmhdheoeglmaaGreatDoor
/- Receivers: what is valid, what a tick brings; plain laws. -/
namespace Go.Proofs.YtccmhdheoeglmaaGreatDoor
open Go.RowKit
def okReq (base : Int) (r : Request) : Bool := isSer r.number && decide (gp base r.number < 8) && btw 1 r.state 3 && btw 0 r.untl 10007 && btw 0 r.tries 3
def chkQ (l : List Request) (base : Int) (i : Nat) : Bool := match l[i]? with
  | none => true
  | some r => okReq base r && (decide (i = 0) || match l[i - 1]? with | none => true | some p => !decide (gp base r.number ≤ gp base p.number))
theorem chkQ_at {l : List Request} {base : Int} {i : Nat} (h : i < l.length) : chkQ l base i = (okReq base l[i] && (decide (i = 0) || !decide (gp base l[i].number ≤ gp base (l[i - 1]'(by omega)).number))) := by
  unfold chkQ
  rw [List.getElem?_eq_getElem h, List.getElem?_eq_getElem (show i - 1 < l.length by omega)]
def areQ (l : List Request) (base : Int) : Bool := isSer base && decide ((l.length : Int) ≤ 8) && (List.range l.length).all (chkQ l base)
theorem areQ_no {l : List Request} {base : Int} {i : Nat} (h : i < l.length) (hc : chkQ l base i = false) : areQ l base = false := by
  have : (List.range l.length).all (chkQ l base) = false := List.all_eq_false.2 ⟨i, by simpa using h, by simp [hc]⟩
  simp [areQ, this]
theorem areQ_yes {l : List Request} {base : Int} (h1 : isSer base = true) (h2 : (l.length : Int) ≤ 8) (h : ∀ j, j < l.length → chkQ l base j = true) : areQ l base = true := by
  unfold areQ
  rw [h1, decide_eq_true h2, List.all_eq_true.2 fun j hj => h j (by simpa using hj)]; rfl
/-- what valid requests are -/
theorem areQ_iff {l : List Request} {base : Int} : areQ l base = true ↔ isSer base = true ∧ l.length ≤ 8 ∧ (∀ r ∈ l, okReq base r = true) ∧ l.Pairwise fun a b => gp base a.number < gp base b.number := by
  unfold areQ
  simp only [Bool.and_eq_true, List.all_eq_true, List.mem_range, decide_eq_true_eq]
  constructor
  · rintro ⟨⟨h1, h2⟩, h4⟩
    refine ⟨h1, by omega, fun r hr => ?_, ?_⟩
    · obtain ⟨i, hi, rfl⟩ := List.getElem_of_mem hr
      have := h4 i hi
      rw [chkQ_at hi] at this
      simp only [Bool.and_eq_true] at this
      exact this.1
    · have step : ∀ i (hi : i + 1 < l.length), gp base l[i].number < gp base l[i + 1].number := fun i hi => by
        have := h4 (i + 1) hi
        rw [chkQ_at hi] at this
        simp only [Bool.and_eq_true, Bool.or_eq_true, decide_eq_true_eq, Bool.not_eq_true', decide_eq_false_iff_not] at this
        have h := this.2
        rcases h with h | h
        · omega
        · simpa using h
      refine List.pairwise_iff_getElem.2 fun i j hi hj hij => ?_
      obtain ⟨d, rfl⟩ : ∃ d, j = i + 1 + d := ⟨j - i - 1, by omega⟩
      clear hij
      induction d with
      | zero => exact step i hj
      | succ d ih => exact Int.lt_trans (ih (by omega)) (step (i + 1 + d) hj)
  · rintro ⟨h1, h2, h4, h5⟩
    refine ⟨⟨h1, by omega⟩, fun i hi => ?_⟩
    rw [chkQ_at hi, h4 l[i] (List.getElem_mem hi)]
    simp only [Bool.true_and, Bool.or_eq_true, decide_eq_true_eq, Bool.not_eq_true', decide_eq_false_iff_not]
    rcases Nat.eq_zero_or_pos i with h0 | h0
    · exact .inl h0
    · have := List.pairwise_iff_getElem.1 h5 (i - 1) i (by omega) hi (by omega)
      right; omega
structure OkReq (base : Int) (r : Request) : Prop where
  n : isSer r.number = true
  g : gp base r.number < 8
  s0 : 1 ≤ r.state
  s1 : r.state ≤ 3
  u0 : 0 ≤ r.untl
  u1 : r.untl ≤ 10007
  t0 : 0 ≤ r.tries
  t1 : r.tries ≤ 3
theorem okReq_iff {base : Int} {r : Request} : okReq base r = true ↔ OkReq base r := by
  unfold okReq btw
  simp only [Bool.and_eq_true, decide_eq_true_eq]
  exact ⟨fun ⟨⟨⟨⟨a, b⟩, c, d⟩, e, f⟩, g, h⟩ => ⟨a, b, c, d, e, f, g, h⟩, fun ⟨a, b, c, d, e, f, g, h⟩ => ⟨⟨⟨⟨a, b⟩, c, d⟩, e, f⟩, g, h⟩⟩
def zeroRec (r : Receiver) : Bool := decide (r.window.next = 0) && decide (r.window.slots.length = 0) && decide (r.requests.length = 0)
def freeQ (r : Receiver) : Bool := r.requests.all fun q => !hasB r.window q.number
def goodRec (r : Receiver) : Bool := isClk r.clock && (if r.started then goodRW r.window && areQ r.requests r.window.next && freeQ r else zeroRec r)
structure GoodR (r : Receiver) : Prop where
  k0 : 0 ≤ r.clock
  k1 : r.clock ≤ 9999
  w : goodRW r.window = true
  q : areQ r.requests r.window.next = true
  f : ∀ z ∈ r.requests, hasB r.window z.number = false
  z : r.started = false → r.window = ⟨0, []⟩ ∧ r.requests = []
theorem goodR_iff {r : Receiver} : goodRec r = true ↔ GoodR r := by
  have hc : isClk r.clock = true ↔ 0 ≤ r.clock ∧ r.clock ≤ 9999 := by unfold isClk btw; simp
  have hf : freeQ r = true ↔ ∀ z ∈ r.requests, hasB r.window z.number = false := by unfold freeQ; simp
  have hz : zeroRec r = true ↔ r.window = ⟨0, []⟩ ∧ r.requests = [] := by
    unfold zeroRec
    obtain ⟨st, ck, ⟨n, s⟩, q⟩ := r
    simp [and_assoc]
  unfold goodRec
  constructor
  · intro h
    rw [Bool.and_eq_true, hc] at h
    obtain ⟨⟨c0, c1⟩, h⟩ := h
    cases hs : r.started
    · rw [hs] at h
      obtain ⟨e1, e2⟩ := hz.1 (by simpa using h)
      refine ⟨c0, c1, by rw [e1]; decide, by rw [e1, e2]; decide, by rw [e2]; simp, fun _ => ⟨e1, e2⟩⟩
    · rw [hs] at h
      simp only [if_true, Bool.and_eq_true] at h
      exact ⟨c0, c1, h.1.1, h.1.2, hf.1 h.2, fun h' => by rw [hs] at h'; cases h'⟩
  · rintro ⟨c0, c1, h1, h2, h3, h4⟩
    rw [Bool.and_eq_true, hc]
    refine ⟨⟨c0, c1⟩, ?_⟩
    cases hs : r.started
    · simpa using hz.2 (h4 hs)
    · simp [h1, h2, hf.2 h3]
end Go.Proofs.YtccmhdheoeglmaaGreatDoor
/- What a valid packet is; plain. -/
namespace Go.Proofs.YtccmhdheoeglmaaGreatDoor
open Go.RowKit
def goodPk (p : Packet) : Bool := btw 1 p.kind 5 && isSer p.number && isSer p.trail && isSer p.lead && itm p.data && decide (gp p.trail p.lead ≤ 32767) && (decide (p.data = ⟨#[]⟩) || decide (p.kind = 1) || decide (p.kind = 2))
end Go.Proofs.YtccmhdheoeglmaaGreatDoor
/- Walks of Go's generic library functions on slices of string. Written by wip/genlib.py. -/
namespace Go.Proofs.YtccmhdheoeglmaaGreatDoor
open Go.RowKit
set_option maxHeartbeats 800000 in
set_option maxRecDepth 100000 in
theorem IndexFunc_String (fid : FuncId) (hbd : Body Tryz.prog fid) (caps : Array Value) (v : Value) (xs : List ByteArray) (F : List Nat) (p : ByteArray → Bool) (w : World) (h : Sl EStr w v xs F)
    (hp : ∀ (k : Nat) (hk : k < xs.length) (wr : World) (u : Value) (G : List Nat), Below w.heap.size w wr → IsC EStr wr u xs[k] G → Calls Tryz.prog fid (#[u] ++ caps) wr fun e w' => e = .returned (.bool (p xs[k])) ∧ Below wr.heap.size wr w') :
    Calls Tryz.prog 236 #[v, .func (.func fid) #[] caps] w fun e w' => e = .returned (.int .i64 (fidx p xs)) ∧ Below w.heap.size w w' := by
  obtain ⟨a, cap, rfl⟩ := h.slice
  have hl := h.len
  unfold maxLen at hl
  go_enter Tryz.func236, Tryz.ntmps236
  go_wp2
  go_loopw [5, 8] (fun _ i wr => ∃ k : Nat, k ≤ xs.length ∧ i = .int .i64 k ∧ Hid (∀ j, j < k → ∀ hj : j < xs.length, p xs[j] = false) ∧ Below w.heap.size w wr) (fun _ i _ => xs.length - (intOf i).toNat)
  case atStart => exact ⟨0, Nat.zero_le _, rfl, fun j hj => by omega, Below.refl _ _⟩
  case round =>
    obtain ⟨k, hk, rfl, hz, hB⟩ := hrel
    by_cases hlt : k < xs.length
    · have hz0 := hz; clear hz
      obtain ⟨b, off, _, F1, rfl, hx, -, ja⟩ := (h.below (by decide) hB).at k hlt
      obtain ⟨rfl, -, -⟩ := id hx
      have a0 := ja 0 (by decide)
      simp only [show EStr.sz = 1 from rfl, Nat.mul_one, Nat.add_zero, List.getElem?_cons_zero, List.getElem?_cons_succ] at a0
      clear ja
      have hr := hp k hlt wr _ F1 hB ⟨_, rfl, hx⟩
      have hp := Lib.hid hp
      cases hpk : p xs[k]
      all_goals
        rw [hpk] at hr
        have hpk := Lib.hid hpk
        have hr := Lib.hid hr
        go_wp2_with fail
        refine hbd.upon hr.out ?_
        rintro e w1 ⟨rfl, hb1⟩
        refine ⟨_, rfl, ?_⟩
        have hB := tr hB hb1 (Nat.le_refl _)
        clear hb1
        go_wp2_with fail
      · exact ⟨⟨k + 1, by omega, by go_num, fun j hj hl => by rcases Nat.lt_or_eq_of_le (Nat.le_of_lt_succ hj) with h | h; exact hz0.out j h hl; subst h; exact hpk.out, hB⟩, by simp [intOf]; omega⟩
      · go_ret
        exact ⟨ret_int (fidx_hit hlt hz0.out hpk.out).symm, hB⟩
    · go_wp2
      go_ret
      exact ⟨ret_int (fidx_none (fun j hj => hz.out j (by omega) hj)).symm, hB⟩
theorem ContainsFunc_String (fid : FuncId) (hbd : Body Tryz.prog fid) (caps : Array Value) (v : Value) (xs : List ByteArray) (F : List Nat) (p : ByteArray → Bool) (w : World) (h : Sl EStr w v xs F)
    (hp : ∀ (k : Nat) (hk : k < xs.length) (wr : World) (u : Value) (G : List Nat), Below w.heap.size w wr → IsC EStr wr u xs[k] G → Calls Tryz.prog fid (#[u] ++ caps) wr fun e w' => e = .returned (.bool (p xs[k])) ∧ Below wr.heap.size wr w') :
    Calls Tryz.prog 207 #[v, .func (.func fid) #[] caps] w fun e w' => e = .returned (.bool (xs.any p)) ∧ Below w.heap.size w w' := by
  have hp := Lib.hid hp
  go_enter Tryz.func207, Tryz.ntmps207
  go_wp2_with fail
  refine (IndexFunc_String fid hbd caps v xs F p _ h hp.out).mono ?_
  rintro e w1 ⟨rfl, hb1⟩
  go_wp2_with fail
  go_ret
  exact ⟨ret_bool (fidx_any p xs), hb1⟩

end Go.Proofs.YtccmhdheoeglmaaGreatDoor
/- Walks: the window of a source. -/
namespace Go.Proofs.YtccmhdheoeglmaaGreatDoor
open Go.RowKit

def goodWin (x : SendWindow) : Bool := isSer x.trail && btw 1 x.size 6 && decide ((x.items.length : Int) ≤ x.size) && x.items.all itm
theorem goodWin_iff {x : SendWindow} : goodWin x = true ↔ (0 ≤ x.trail ∧ x.trail ≤ 65535) ∧ (1 ≤ x.size ∧ x.size ≤ 6) ∧ (x.items.length : Int) ≤ x.size ∧ x.items.all itm = true := by
  unfold goodWin
  simp only [Bool.and_eq_true, isSer_iff, btw, decide_eq_true_eq, and_assoc]
theorem areItems_1_c (s : ByteArray) (w : World) (hs : s.size ≤ maxLen) :
    Calls Tryz.prog 208 #[.string s] w fun e w' => e = .returned (.bool (!itm s)) ∧ Below w.heap.size w w' := by
  go_enter Tryz.func208, Tryz.ntmps208
  go_wp2_with fail
  refine (isItem_c s _ hs).mono ?_
  rintro e w1 ⟨rfl, hb⟩
  go_wp2_with fail
  go_ret
  exact ⟨rfl, hb⟩
theorem areItems_c (v : Value) (xs : List ByteArray) (F : List Nat) (w : World) (h : Sl EStr w v xs F) :
    Calls Tryz.prog 167 #[v] w fun e w' => e = .returned (.bool (xs.all itm)) ∧ Below w.heap.size w w' := by
  have hq : (!xs.any fun s => !itm s) = xs.all itm := by rw [List.not_any_eq_all_not]; simp
  replace hq := Lib.hid hq
  go_enter Tryz.func167, Tryz.ntmps167
  go_wp2_with fail
  refine (ContainsFunc_String _ (.mk' Tryz.func208 rfl rfl) _ _ xs F (fun s => !itm s) _ h ?_).mono ?_
  · rintro k hk wr u G hb ⟨_, rfl, hu⟩
    obtain ⟨hu, hsz, -⟩ := hu
    cases hu
    exact areItems_1_c _ _ hsz
  rintro e w1 ⟨rfl, hb⟩
  go_wp2_with fail
  go_ret
  exact ⟨ret_bool hq.out, hb⟩
set_option maxHeartbeats 800000 in
theorem IsValidSendWindow_c (v : Value) (x : SendWindow) (F : List Nat) (w : World) (h : IsV ESendWindow w v x F) :
    Calls Tryz.prog 116 #[v] w fun e w' => e = .returned (.bool (goodWin x)) ∧ Below w.heap.size w w' := by
  obtain ⟨_, rfl, v1, rfl, h1⟩ := h
  obtain ⟨a, c, rfl⟩ := h1.slice
  have hl := h1.len
  unfold maxLen at hl
  have hB0 : ∀ A : Obj, Below w.heap.size w (w.alloc A) := fun A => (Below.refl _ _).alloc (Nat.le_refl _) _
  go_enter Tryz.func116, Tryz.ntmps116
  go_wp2_with fail
  refine (IsSerial_c _ _).mono ?_
  rintro e w' ⟨rfl, rfl⟩
  cases g1 : isSer x.trail
  · go_wp2_with fail
    go_ret
    exact ⟨ret_bool (by simp [goodWin, g1]), hB0 _⟩
  go_wp2_with fail
  refine (within_c _ _ _ _).mono ?_
  rintro e w' ⟨rfl, rfl⟩
  cases g2 : btw 1 x.size 6
  · go_wp2_with fail
    go_ret
    exact ⟨ret_bool (by simp [goodWin, g2]), hB0 _⟩
  by_cases g3 : (x.items.length : Int) ≤ x.size
  · go_wp2_with fail
    refine (areItems_c _ x.items F _ (h1.below (by decide) (hB0 _))).mono ?_
    rintro e w1 ⟨rfl, hb⟩
    go_wp2_with fail
    go_ret
    exact ⟨ret_bool (by simp [goodWin, g1, g2, g3]), tr (hB0 _) hb (Nat.le_refl _)⟩
  · go_wp2_with fail
    go_ret
    exact ⟨ret_bool (by simp only [goodWin, decide_eq_false (show ¬ (x.items.length : Int) ≤ x.size by omega), Bool.and_false, Bool.false_and]), hB0 _⟩
end Go.Proofs.YtccmhdheoeglmaaGreatDoor
/- Walks: DropItems, the program's and the reference's. -/
namespace Go.Proofs.YtccmhdheoeglmaaGreatDoor
open Go.RowKit

set_option maxHeartbeats 800000 in
theorem l9Good_c (v : Value) (x : SendWindow) (F : List Nat) (w : World) (h : IsV ESendWindow w v x F) :
    Calls Tryz.prog 136 #[v] w fun e w' => e = .returned (.bool (goodWin x)) ∧ Below w.heap.size w w' := by
  obtain ⟨_, rfl, v1, rfl, h1⟩ := h
  obtain ⟨a, c, rfl⟩ := h1.slice
  have hl := h1.len
  unfold maxLen at hl
  have hB0 : ∀ A : Obj, Below w.heap.size w (w.alloc A) := fun A => (Below.refl _ _).alloc (Nat.le_refl _) _
  go_enter Tryz.func136, Tryz.ntmps136
  go_wp2_with fail
  refine (l2Good_c _ _).mono ?_
  rintro e w' ⟨rfl, rfl⟩
  cases g1 : isSer x.trail
  · go_wp2_with fail
    go_ret
    exact ⟨ret_bool (by simp [goodWin, g1]), hB0 _⟩
  go_wp2_with fail
  refine (l1In_c _ _ _ _).mono ?_
  rintro e w' ⟨rfl, rfl⟩
  cases g2 : btw 1 x.size 6
  · go_wp2_with fail
    go_ret
    exact ⟨ret_bool (by simp [goodWin, g2]), hB0 _⟩
  by_cases g3 : x.size < (x.items.length : Int)
  · go_wp2_with fail
    go_ret
    exact ⟨ret_bool (by simp only [goodWin, decide_eq_false (show ¬ (x.items.length : Int) ≤ x.size by omega), Bool.and_false, Bool.false_and]), hB0 _⟩
  have hg : goodWin x = x.items.all itm := by unfold goodWin; rw [g1, g2, decide_eq_true (by omega)]; simp
  replace hg := Lib.hid hg
  go_wp2_with fail
  have r0 := Row.made w 29 [.int .i64 x.trail, .int .i64 x.size, .slice a x.items.length c]
  have h2 := h1.below (by decide) (hB0 (.cells #[.int .i64 x.trail, .int .i64 x.size, .slice a x.items.length c] 29))
  have hB := hB0 (.cells #[.int .i64 x.trail, .int .i64 x.size, .slice a x.items.length c] 29)
  generalize w.alloc (.cells #[.int .i64 x.trail, .int .i64 x.size, .slice a x.items.length c] 29) = w1 at *
  have c0 := r0.cells
  go_loop [3] (fun i => ∃ k : Nat, k ≤ x.items.length ∧ i = .int .i64 k ∧ Hid (∀ j, j < k → ∀ hj : j < x.items.length, itm x.items[j] = true)) (fun i => x.items.length - (intOf i).toNat)
  case atStart => exact ⟨0, Nat.zero_le _, rfl, fun j hj => by omega⟩
  case round =>
    obtain ⟨k, hk, rfl, hz⟩ := hrel
    by_cases hlt : k < x.items.length
    · obtain ⟨hsz, b, off, rfl, hc⟩ := h2.str.2.2 k hlt
      cases hi : itm x.items[k]
      · have hi2 : (decide ((x.items[k].size : Int) ≤ 8) && lows x.items[k].data.toList) = false := hi
        go_wp2_with fail
        refine (l4Letters_c _ _ _ hsz).mono ?_
        rintro e w' ⟨rfl, rfl⟩
        go_wp2_with fail
        go_ret
        refine ⟨ret_bool ?_, hB⟩
        rw [hg.out]
        exact (List.all_eq_false.2 ⟨x.items[k], List.getElem_mem _, by simp [hi]⟩).symm
      · have hi2 : (decide ((x.items[k].size : Int) ≤ 8) && lows x.items[k].data.toList) = true := hi
        go_wp2_with fail
        refine (l4Letters_c _ _ _ hsz).mono ?_
        rintro e w' ⟨rfl, rfl⟩
        go_wp2_with fail
        exact ⟨⟨k + 1, by omega, by go_num, fun j hj hl => by rcases Nat.lt_or_eq_of_le (Nat.le_of_lt_succ hj) with h | h; exact hz.out j h hl; subst h; exact hi⟩, by simp [intOf]; omega⟩
    · have hk : k = x.items.length := by omega
      go_wp2_with fail
      go_ret
      refine ⟨ret_bool ?_, hB⟩
      rw [hg.out]
      refine (List.all_eq_true.2 fun s hs => ?_).symm
      obtain ⟨j, hj, rfl⟩ := List.getElem_of_mem hs
      exact hz.out j (by omega) hj
end Go.Proofs.YtccmhdheoeglmaaGreatDoor
/- Structs of type Source in a walk's state: opened, closed. -/
namespace Go.Proofs.YtccmhdheoeglmaaGreatDoor
open Go.RowKit
section
variable {c : Cx} {fr : Fr} {H : List Pc} {Φ : Gl}
theorem openSource {v : Value} {x : Source} {F : List Nat} (h : ∀ (a1 : Option Addr) (c1 : Nat) (F1 : List Nat) (a2 : Option Addr) (c2 : Nat) (F2 : List Nat), v = .agg #[.int .i64 x.window.trail, .int .i64 x.window.size, .slice a1 x.window.items.length c1, .int .i64 x.clock, .int .i64 x.quiet, .slice a2 x.holds.length c2] → x.window.items.length ≤ maxLen → x.holds.length ≤ maxLen → T c fr (.sl EStr (.slice a1 x.window.items.length c1) x.window.items F1 :: .sl EHold (.slice a2 x.holds.length c2) x.holds F2 :: H) Φ) (hm : .isv ESource v x F ∈ H := by (repeat (first | exact .head _ | apply List.Mem.tail)); first | done | fail) : T c fr H Φ := .mk fun a w s g => by
  obtain ⟨cs, rfl, v1, v2, G1, G2, rfl, h1, h2, rfl⟩ := s.get hm
  obtain ⟨a1, c1, rfl⟩ := h1.slice; have l1 := h1.len
  obtain ⟨a2, c2, rfl⟩ := h2.slice; have l2 := h2.len
  have t2 := s.ro (p := .sl EHold (.slice a2 x.holds.length c2) x.holds G2) hm rfl rfl ⟨by decide, h2⟩ (by intro b hb; simp only [Pc.F] at hb ⊢; simp [hb])
  have t1 := t2.ro (p := .sl EStr (.slice a1 x.window.items.length c1) x.window.items G1) (List.mem_cons_of_mem _ hm) rfl rfl ⟨by decide, h1⟩ (by intro b hb; simp only [Pc.F] at hb ⊢; simp [hb])
  exact (h a1 c1 G1 a2 c2 G2 rfl  l1 l2).h a w t1 g
theorem closeSource (x : Source) {a1 : Option Addr} {c1 : Nat} {F1 : List Nat} {a2 : Option Addr} {c2 : Nat} {F2 : List Nat}  (h : T c fr (.isv ESource (.agg #[.int .i64 x.window.trail, .int .i64 x.window.size, .slice a1 x.window.items.length c1, .int .i64 x.clock, .int .i64 x.quiet, .slice a2 x.holds.length c2]) x (F1 ++ F2) :: H) Φ) (m1 : .sl EStr (.slice a1 x.window.items.length c1) x.window.items F1 ∈ H := by (repeat (first | exact .head _ | apply List.Mem.tail)); first | done | fail) (m2 : .sl EHold (.slice a2 x.holds.length c2) x.holds F2 ∈ H := by (repeat (first | exact .head _ | apply List.Mem.tail)); first | done | fail) : T c fr H Φ := .mk fun a w s g => by
  have hP : IsV ESource w (.agg #[.int .i64 x.window.trail, .int .i64 x.window.size, .slice a1 x.window.items.length c1, .int .i64 x.clock, .int .i64 x.quiet, .slice a2 x.holds.length c2]) x (F1 ++ F2) := ⟨_, rfl, _, _, _, _, rfl, (s.get m1).2, (s.get m2).2, rfl⟩
  refine h.h a w (s.add (N := [.isv ESource (.agg #[.int .i64 x.window.trail, .int .i64 x.window.size, .slice a1 x.window.items.length c1, .int .i64 x.clock, .int .i64 x.quiet, .slice a2 x.holds.length c2]) x (F1 ++ F2)]) (Below.refl _ _) (by intro q hq; simp at hq; subst hq; exact hP) ⟨by simp, trivial⟩ fun q hq b hb => ?_) g
  simp at hq; subst hq
  simp only [Pc.F, List.mem_append] at hb
  rcases hb with hb | hb
  · exact .inr ⟨rfl, _, m1, rfl, hb⟩
  · exact .inr ⟨rfl, _, m2, rfl, hb⟩
end
end Go.Proofs.YtccmhdheoeglmaaGreatDoor
/- Structs of type Hold in a walk's state: opened, closed. -/
namespace Go.Proofs.YtccmhdheoeglmaaGreatDoor
open Go.RowKit
section
variable {c : Cx} {fr : Fr} {H : List Pc} {Φ : Gl}
theorem atHold {a : Option Addr} {n cp : Nat} {xs : List Hold} {F : List Nat} (i : Nat) (h : ∀ (hi : i < xs.length) (b o : Nat), a = some ⟨b, o, none⟩ → T c fr (.cel b (o + i * 2) [.int .i64 xs[i].number, .int .i64 xs[i].untl] :: H) Φ) (hm : .sl EHold (.slice a n cp) xs F ∈ H := by (repeat (first | exact .head _ | apply List.Mem.tail)); first | done | fail) (hi : i < xs.length := by omega) : T c fr H Φ := .mk fun ac w s g => by
  obtain ⟨b, o, cs, G, ha, hrep, hG, hb, hne, hr⟩ := sl_at (s.get hm) i hi
  obtain ⟨rfl, rfl⟩ := hrep
  exact (h hi b o  ha  ).h ac w (s.ro hm rfl rfl ⟨hne, hr⟩ (by intro x hx; simp [Pc.F] at hx; subst hx; exact hb)) g
end
end Go.Proofs.YtccmhdheoeglmaaGreatDoor
/- Structs of type SendWindow in a walk's state: opened, closed. -/
namespace Go.Proofs.YtccmhdheoeglmaaGreatDoor
open Go.RowKit
section
variable {c : Cx} {fr : Fr} {H : List Pc} {Φ : Gl}
theorem openSendWindow {v : Value} {x : SendWindow} {F : List Nat} (h : ∀ (a1 : Option Addr) (c1 : Nat) (F1 : List Nat), v = .agg #[.int .i64 x.trail, .int .i64 x.size, .slice a1 x.items.length c1] → x.items.length ≤ maxLen → T c fr (.sl EStr (.slice a1 x.items.length c1) x.items F1 :: H) Φ) (hm : .isv ESendWindow v x F ∈ H := by (repeat (first | exact .head _ | apply List.Mem.tail)); first | done | fail) : T c fr H Φ := .mk fun a w s g => by
  obtain ⟨cs, rfl, v1, rfl, h1⟩ := s.get hm
  obtain ⟨a1, c1, rfl⟩ := h1.slice; have l1 := h1.len
  have t1 := s.ro (p := .sl EStr (.slice a1 x.items.length c1) x.items F) hm rfl rfl ⟨by decide, h1⟩ fun b hb => hb
  exact (h a1 c1 F rfl  l1).h a w t1 g
theorem closeSendWindow (x : SendWindow) {a1 : Option Addr} {c1 : Nat} {F1 : List Nat}  (h : T c fr (.isv ESendWindow (.agg #[.int .i64 x.trail, .int .i64 x.size, .slice a1 x.items.length c1]) x (F1) :: H) Φ) (m1 : .sl EStr (.slice a1 x.items.length c1) x.items F1 ∈ H := by (repeat (first | exact .head _ | apply List.Mem.tail)); first | done | fail) : T c fr H Φ := .mk fun a w s g => by
  have hP : IsV ESendWindow w (.agg #[.int .i64 x.trail, .int .i64 x.size, .slice a1 x.items.length c1]) x (F1) := ⟨_, rfl, _, rfl, (s.get m1).2⟩
  refine h.h a w (s.add (N := [.isv ESendWindow (.agg #[.int .i64 x.trail, .int .i64 x.size, .slice a1 x.items.length c1]) x (F1)]) (Below.refl _ _) (by intro q hq; simp at hq; subst hq; exact hP) ⟨by simp, trivial⟩ fun q hq b hb => ?_) g
  simp at hq; subst hq
  simp only [Pc.F, List.mem_append] at hb
  exact .inr ⟨rfl, _, m1, rfl, hb⟩
end
end Go.Proofs.YtccmhdheoeglmaaGreatDoor
/- Sources: the check. -/
namespace Go.Proofs.YtccmhdheoeglmaaGreatDoor
open Go.RowKit
def heldB (w : SendWindow) (n : Int) : Bool := decide (gp w.trail n < (w.items.length : Int))
theorem clk_bd {n : Int} (h : isClk n = true) : 0 ≤ n ∧ n ≤ 9999 := by unfold isClk btw at h; simpa using h
def chkH (x : Source) (i : Nat) : Bool := match x.holds[i]? with
  | none => true
  | some h => isSer h.number && heldB x.window h.number && btw (x.clock + 1) h.untl (x.clock + 3) && (decide (i = 0) || match x.holds[i - 1]? with | none => true | some p => !decide (gp x.window.trail h.number ≤ gp x.window.trail p.number))
theorem chkH_at {x : Source} {i : Nat} (h : i < x.holds.length) : chkH x i = (isSer x.holds[i].number && heldB x.window x.holds[i].number && btw (x.clock + 1) x.holds[i].untl (x.clock + 3) && (decide (i = 0) || !decide (gp x.window.trail x.holds[i].number ≤ gp x.window.trail (x.holds[i - 1]'(by omega)).number))) := by
  unfold chkH
  rw [List.getElem?_eq_getElem h, List.getElem?_eq_getElem (show i - 1 < x.holds.length by omega)]
def goodSrc (x : Source) : Bool := goodWin x.window && isClk x.clock && btw 0 x.quiet 3 && (List.range x.holds.length).all (chkH x)
theorem goodSrc_no {x : Source} {i : Nat} (h : i < x.holds.length) (hc : chkH x i = false) : goodSrc x = false := by
  have : (List.range x.holds.length).all (chkH x) = false := List.all_eq_false.2 ⟨i, by simpa using h, by simp [hc]⟩
  simp [goodSrc, this]
theorem goodSrc_yes {x : Source} (h1 : goodWin x.window = true) (h2 : isClk x.clock = true) (h3 : btw 0 x.quiet 3 = true) (h : ∀ j, j < x.holds.length → chkH x j = true) : goodSrc x = true := by
  unfold goodSrc
  rw [h1, h2, h3, List.all_eq_true.2 fun j hj => h j (by simpa using hj)]; rfl
set_option maxRecDepth 100000 in
theorem isHeld_f (x : SendWindow) (n : Int) (v : Value) (F : List Nat) (h0 : 0 ≤ x.trail) (h1 : x.trail ≤ 65535) (h2 : 0 ≤ n) (h3 : n ≤ 65535) :
    Fn Tryz.prog 119 [v, .int .i64 n] [.isv ESendWindow v x F] [] (fun (_ : Unit) => True) (fun _ => .bool (heldB x n)) (fun _ => []) := by
  refine enter Tryz.func119 rfl Tryz.ntmps119 fun w0 => ?_
  refine openSendWindow ?_
  rintro a1 c1 F1 rfl l1
  refine go ?_; intros
  refine d_start [0] [] ?_
  refine dt 0 ?_
  refine dt 1 ?_
  refine dt 2 ?_
  refine dt 4 ?_
  refine dt 5 ?_
  refine dt 6 ?_
  refine dO 3 (by kernel_rfl) (by rw [List.getElem?_toArray]; rfl) ?_
  apply o_call; rfl; kernel_rfl; exact evsE
  refine ce (fun w s => gap_c _ _ _ (by omega) (by omega) (by omega) (by omega)) ?_
  refine dk ?_
  refine dt 7 ?_
  refine dt 8 ?_
  refine dd ?_
  refine go ?_; intros
  refine ret () trivial rfl
set_option maxRecDepth 100000 in
theorem l9HeldW_f (x : SendWindow) (n : Int) (v : Value) (F : List Nat) (h0 : 0 ≤ x.trail) (h1 : x.trail ≤ 65535) (h2 : -1 ≤ n) (h3 : n ≤ 65536) :
    Fn Tryz.prog 139 [v, .int .i64 n] [.isv ESendWindow v x F] [] (fun (_ : Unit) => True) (fun _ => .bool (heldB x n)) (fun _ => []) := by
  refine enter Tryz.func139 rfl Tryz.ntmps139 fun w0 => ?_
  refine openSendWindow ?_
  rintro a1 c1 F1 rfl l1
  refine go ?_; intros
  refine d_start [0] [] ?_
  refine dt 0 ?_
  refine dt 1 ?_
  refine dt 2 ?_
  refine dt 4 ?_
  refine dt 5 ?_
  refine dt 6 ?_
  refine dO 3 (by kernel_rfl) (by rw [List.getElem?_toArray]; rfl) ?_
  apply o_call; rfl; kernel_rfl; exact evsE
  refine ce (fun w s => l2Gap_c _ _ _ (by omega) (by omega)) ?_
  refine dk ?_
  refine dt 7 ?_
  refine dt 8 ?_
  refine dd ?_
  refine go ?_; intros
  refine ret () trivial rfl
theorem l9Held_f (x : SendWindow) (n : Int) (v : Value) (F : List Nat) (h0 : 0 ≤ x.trail) (h1 : x.trail ≤ 65535) (h2 : 0 ≤ n) (h3 : n ≤ 65535) :
    Fn Tryz.prog 139 [v, .int .i64 n] [.isv ESendWindow v x F] [] (fun (_ : Unit) => True) (fun _ => .bool (heldB x n)) (fun _ => []) := l9HeldW_f x n v F h0 h1 (by omega) (by omega)

set_option maxRecDepth 100000 in
theorem IsValidSource_f (x : Source) (v : Value) (F : List Nat) : Fn Tryz.prog 75 [v] [.isv ESource v x F] [] (fun (_ : Unit) => True) (fun _ => .bool (goodSrc x)) (fun _ => []) := by
  refine enter Tryz.func75 rfl Tryz.ntmps75 fun w0 => ?_
  refine openSource ?_
  rintro a1 c1 F1 a2 c2 F2 rfl l1 l2
  unfold maxLen at l1 l2
  refine closeSendWindow x.window ?_
  generalize F1 = F3
  refine go ?_; intros
  refine cb (fun w st => IsValidSendWindow_c _ x.window _ w (st.get (p := .isv ESendWindow (.agg #[.int .i64 x.window.trail, .int .i64 x.window.size, .slice a1 x.window.items.length c1]) x.window F3) (by simp))) ?_
  cases g1 : goodWin x.window
  · refine go ?_; intros
    refine ret () trivial ?_
    simp [goodSrc, g1, tup]
  obtain ⟨⟨t0, t1⟩, -⟩ := goodWin_iff.1 g1
  refine go ?_; intros
  refine ce (fun w s => isClock_c _ _) ?_
  cases g2 : isClk x.clock
  · refine go ?_; intros
    refine ret () trivial ?_
    simp [goodSrc, g2, tup]
  obtain ⟨k0, k1⟩ := clk_bd g2
  refine go ?_; intros
  refine ce (fun w s => within_c _ _ _ _) ?_
  cases g3 : btw 0 x.quiet 3
  · refine go ?_; intros
    refine ret () trivial ?_
    simp [goodSrc, g3, tup]
  refine go ?_; intros
  refine c_loopR [1, 2, 22, 23] (fun k : Nat => [(24, .int .i64 k)]) (fun k => k ≤ x.holds.length ∧ ∀ j, j < k → chkH x j = true) (fun k => x.holds.length - k) 0 ⟨Nat.zero_le _, fun j h => by omega⟩ fun k hk => ?_
  obtain ⟨hk1, hk2⟩ := hk
  refine go ?_; intros
  refine c_if rfl (fun h3 => ?_) (fun h3 => ?_)
  · have hk3 : k < x.holds.length := by omega
    have bad : chkH x k = false → goodSrc x = false := fun h => goodSrc_no hk3 h
    have hck := chkH_at hk3
    refine atHold (xs := x.holds) k ?_
    rintro hi b o e
    rw [e]
    refine go ?_; intros
    refine ce (fun w s => IsSerial_c _ _) ?_
    cases g4 : isSer x.holds[k].number
    · refine go ?_; intros
      refine ret () trivial ?_
      rw [bad (by rw [hck, g4]; rfl)]; rfl
    obtain ⟨m0, m1⟩ := isSer_iff.1 g4
    refine go ?_; intros
    refine cb (fun w st => (isHeld_f x.window x.holds[k].number _ _ t0 t1 m0 m1).val w (hol1 (st.get (p := .isv ESendWindow (.agg #[.int .i64 x.window.trail, .int .i64 x.window.size, .slice a1 x.window.items.length c1]) x.window F3) (by simp)))) ?_
    cases g5 : heldB x.window x.holds[k].number
    · refine go ?_; intros
      refine ret () trivial ?_
      rw [bad (by rw [hck, g4, g5]; rfl)]; rfl
    refine go ?_; intros
    refine ce (fun w s => within_c _ _ _ _) ?_
    cases g6 : btw (x.clock + 1) x.holds[k].untl (x.clock + 3)
    · refine go ?_; intros
      refine ret () trivial ?_
      rw [bad (by rw [hck, g4, g5, g6]; rfl)]; rfl
    refine go ?_; intros
    by_cases hk0 : 0 < k
    · have hk4 : k - 1 < x.holds.length := by omega
      have hp := hk2 (k - 1) (by omega)
      rw [chkH_at hk4] at hp
      simp only [Bool.and_eq_true] at hp
      obtain ⟨p0, p1⟩ := isSer_iff.1 hp.1.1.1
      rw [← e]
      refine atHold (xs := x.holds) (k - 1) ?_
      rintro hi5 b5 o5 e5
      rw [e5]
      refine d_start [0, 1, 3] [] ?_
      refine dt 0 ?_
      refine dt 1 ?_
      rw [decide_eq_true (show (0 : Int) < k by omega)]
      refine dt 2 ?_
      refine dtg 3 ?_
      refine dtg 4 ?_
      refine dtg 5 ?_
      refine dtg 6 ?_
      refine dtg 7 ?_
      refine dtg 8 ?_
      refine dtg 9 ?_
      rw [show (k : Int) - 1 = ((k - 1 : Nat) : Int) by omega]
      refine dtg 10 ?_
      refine dtg 11 ?_
      refine dtg 12 ?_
      refine dtg 14 ?_
      refine dtg 15 ?_
      refine dtg 16 ?_
      refine dtg 17 ?_
      refine dtg 18 ?_
      refine d1g 13 ?_
      apply On.h
      apply o_call; rfl; kernel_rfl; exact evsE
      refine ce (fun w s => gap_c _ _ _ (by omega) (by omega) (by omega) (by omega)) ?_
      refine dk ?_
      refine d1g 19 ?_
      apply On.h
      apply o_call; rfl; kernel_rfl; exact evsE
      refine ce (fun w s => gap_c _ _ _ (by omega) (by omega) (by omega) (by omega)) ?_
      refine dk ?_
      refine dtg 20 ?_
      refine dt 21 ?_
      refine dd ?_
      refine go ?_; intros
      refine c_if rfl (fun h6 => ?_) (fun h6 => ?_)
      · refine go ?_; intros
        refine ret () trivial ?_
        rw [bad (by rw [hck, decide_eq_true h6, decide_eq_false (show ¬ k = 0 by omega)]; simp)]; rfl
      · refine go ?_; intros
        refine n_lp (k + 1) ⟨by omega, fun j hj => ?_⟩ (by omega)
        rcases Nat.lt_or_eq_of_le (Nat.lt_succ_iff.1 hj) with h | rfl
        · exact hk2 j h
        · rw [hck, g4, g5, g6, decide_eq_false h6]; simp
    · have hz : k = 0 := by omega
      refine d_start [0, 2] [] ?_
      refine dt 0 ?_
      refine dt 1 ?_
      rw [decide_eq_false (show ¬ (0 : Int) < k by omega)]
      refine dt 2 ?_
      refine ds 3 ?_
      refine ds 4 ?_
      refine ds 5 ?_
      refine ds 6 ?_
      refine ds 7 ?_
      refine ds 8 ?_
      refine ds 9 ?_
      refine ds 10 ?_
      refine ds 11 ?_
      refine ds 12 ?_
      refine ds 13 ?_
      refine ds 14 ?_
      refine ds 15 ?_
      refine ds 16 ?_
      refine ds 17 ?_
      refine ds 18 ?_
      refine ds 19 ?_
      refine ds 20 ?_
      refine dt 21 ?_
      refine dd ?_
      refine go ?_; intros
      refine n_lp (k + 1) ⟨by omega, fun j hj => ?_⟩ (by omega)
      rcases Nat.lt_or_eq_of_le (Nat.lt_succ_iff.1 hj) with h | rfl
      · exact hk2 j h
      · rw [hck, g4, g5, g6, decide_eq_true hz]; simp
  have hkl : k = x.holds.length := by omega
  refine go ?_; intros
  refine ret () trivial ?_
  rw [goodSrc_yes g1 g2 g3 (hkl ▸ hk2)]; rfl
end Go.Proofs.YtccmhdheoeglmaaGreatDoor
/- Sources: the check of the reference. -/
namespace Go.Proofs.YtccmhdheoeglmaaGreatDoor
open Go.RowKit
set_option maxRecDepth 100000 in
theorem l11Good_f (x : Source) (v : Value) (F : List Nat) : Fn Tryz.prog 83 [v] [.isv ESource v x F] [] (fun (_ : Unit) => True) (fun _ => .bool (goodSrc x)) (fun _ => []) := by
  refine enter Tryz.func83 rfl Tryz.ntmps83 fun w0 => ?_
  refine openSource ?_
  rintro a1 c1 F1 a2 c2 F2 rfl l1 l2
  unfold maxLen at l1 l2
  refine closeSendWindow x.window ?_
  generalize F1 = F3
  refine go ?_; intros
  refine cb (fun w st => l9Good_c _ x.window _ w (st.get (p := .isv ESendWindow (.agg #[.int .i64 x.window.trail, .int .i64 x.window.size, .slice a1 x.window.items.length c1]) x.window F3) (by simp))) ?_
  cases g1 : goodWin x.window
  · refine go ?_; intros
    refine ret () trivial ?_
    simp [goodSrc, g1, tup]
  obtain ⟨⟨t0, t1⟩, -⟩ := goodWin_iff.1 g1
  refine go ?_; intros
  refine ce (fun w s => l11Clock_c _ _) ?_
  cases g2 : isClk x.clock
  · refine go ?_; intros
    refine ret () trivial ?_
    simp [goodSrc, g2, tup]
  obtain ⟨k0, k1⟩ := clk_bd g2
  refine go ?_; intros
  refine ce (fun w s => l1In_c _ _ _ _) ?_
  cases g3 : btw 0 x.quiet 3
  · refine go ?_; intros
    refine ret () trivial ?_
    simp [goodSrc, g3, tup]
  refine go ?_; intros
  refine c_loopR [1, 2] (fun k : Nat => [(3, .int .i64 k)]) (fun k => k ≤ x.holds.length ∧ ∀ j, j < k → chkH x j = true) (fun k => x.holds.length - k) 0 ⟨Nat.zero_le _, fun j h => by omega⟩ fun k hk => ?_
  obtain ⟨hk1, hk2⟩ := hk
  refine go ?_; intros
  refine c_if rfl (fun h3 => ?_) (fun h3 => ?_)
  · have hk3 : k < x.holds.length := by omega
    have bad : chkH x k = false → goodSrc x = false := fun h => goodSrc_no hk3 h
    have hck := chkH_at hk3
    refine atHold (xs := x.holds) k ?_
    rintro hi b o e
    rw [e]
    refine go ?_; intros
    refine ce (fun w s => l2Good_c _ _) ?_
    cases g4 : isSer x.holds[k].number
    · refine go ?_; intros
      refine ret () trivial ?_
      rw [bad (by rw [hck, g4]; rfl)]; rfl
    obtain ⟨m0, m1⟩ := isSer_iff.1 g4
    refine go ?_; intros
    refine cb (fun w st => (l9Held_f x.window x.holds[k].number _ _ t0 t1 m0 m1).val w (hol1 (st.get (p := .isv ESendWindow (.agg #[.int .i64 x.window.trail, .int .i64 x.window.size, .slice a1 x.window.items.length c1]) x.window F3) (by simp)))) ?_
    cases g5 : heldB x.window x.holds[k].number
    · refine go ?_; intros
      refine ret () trivial ?_
      rw [bad (by rw [hck, g4, g5]; rfl)]; rfl
    refine go ?_; intros
    refine ce (fun w s => l1In_c _ _ _ _) ?_
    cases g6 : btw (x.clock + 1) x.holds[k].untl (x.clock + 3)
    · refine go ?_; intros
      refine ret () trivial ?_
      rw [bad (by rw [hck, g4, g5, g6]; rfl)]; rfl
    refine go ?_; intros
    by_cases hk0 : 0 < k
    · have hk4 : k - 1 < x.holds.length := by omega
      have hp := hk2 (k - 1) (by omega)
      rw [chkH_at hk4] at hp
      simp only [Bool.and_eq_true] at hp
      obtain ⟨p0, p1⟩ := isSer_iff.1 hp.1.1.1
      rw [← e]
      refine atHold (xs := x.holds) (k - 1) ?_
      rintro hi5 b5 o5 e5
      rw [e5]
      refine d_start [0, 1, 3] [] ?_
      refine dt 0 ?_
      refine dt 1 ?_
      rw [decide_eq_true (show (0 : Int) < k by omega)]
      refine dt 2 ?_
      refine dtg 3 ?_
      refine dtg 4 ?_
      refine dtg 5 ?_
      refine dtg 6 ?_
      refine dtg 7 ?_
      refine dtg 8 ?_
      refine dtg 9 ?_
      rw [show (k : Int) - 1 = ((k - 1 : Nat) : Int) by omega]
      refine dtg 10 ?_
      refine dtg 11 ?_
      refine dtg 12 ?_
      refine dtg 14 ?_
      refine dtg 15 ?_
      refine dtg 16 ?_
      refine dtg 17 ?_
      refine dtg 18 ?_
      refine d1g 13 ?_
      apply On.h
      apply o_call; rfl; kernel_rfl; exact evsE
      refine ce (fun w s => l2Gap_c _ _ _ (by omega) (by omega)) ?_
      refine dk ?_
      refine d1g 19 ?_
      apply On.h
      apply o_call; rfl; kernel_rfl; exact evsE
      refine ce (fun w s => l2Gap_c _ _ _ (by omega) (by omega)) ?_
      refine dk ?_
      refine dtg 20 ?_
      refine dt 21 ?_
      refine dd ?_
      refine go ?_; intros
      refine c_if rfl (fun h6 => ?_) (fun h6 => ?_)
      · refine go ?_; intros
        refine ret () trivial ?_
        rw [bad (by rw [hck, decide_eq_true h6, decide_eq_false (show ¬ k = 0 by omega)]; simp)]; rfl
      · refine go ?_; intros
        refine n_lp (k + 1) ⟨by omega, fun j hj => ?_⟩ (by omega)
        rcases Nat.lt_or_eq_of_le (Nat.lt_succ_iff.1 hj) with h | rfl
        · exact hk2 j h
        · rw [hck, g4, g5, g6, decide_eq_false h6]; simp
    · have hz : k = 0 := by omega
      refine d_start [0, 2] [] ?_
      refine dt 0 ?_
      refine dt 1 ?_
      rw [decide_eq_false (show ¬ (0 : Int) < k by omega)]
      refine dt 2 ?_
      refine ds 3 ?_
      refine ds 4 ?_
      refine ds 5 ?_
      refine ds 6 ?_
      refine ds 7 ?_
      refine ds 8 ?_
      refine ds 9 ?_
      refine ds 10 ?_
      refine ds 11 ?_
      refine ds 12 ?_
      refine ds 13 ?_
      refine ds 14 ?_
      refine ds 15 ?_
      refine ds 16 ?_
      refine ds 17 ?_
      refine ds 18 ?_
      refine ds 19 ?_
      refine ds 20 ?_
      refine dt 21 ?_
      refine dd ?_
      refine go ?_; intros
      refine n_lp (k + 1) ⟨by omega, fun j hj => ?_⟩ (by omega)
      rcases Nat.lt_or_eq_of_le (Nat.lt_succ_iff.1 hj) with h | rfl
      · exact hk2 j h
      · rw [hck, g4, g5, g6, decide_eq_true hz]; simp
  have hkl : k = x.holds.length := by omega
  refine go ?_; intros
  refine ret () trivial ?_
  rw [goodSrc_yes g1 g2 g3 (hkl ▸ hk2)]; rfl
end Go.Proofs.YtccmhdheoeglmaaGreatDoor
/- Nets: which are valid. Plain. -/
namespace Go.Proofs.YtccmhdheoeglmaaGreatDoor
open Go.RowKit
def goodQ (l : List Packet) : Bool := decide (l.length ≤ 6) && l.all goodPk
def upQ (l : List Packet) : Bool := l.all fun p => decide (p.kind = 3)
def zElem (e : Element) : Bool := decide (e.clock = 0) && decide (e.entries.length = 0)
def zRecv (r : Receiver) : Bool := !r.started && decide (r.clock = 0) && zeroRec r
/-- what stands at node i is right -/
def rightN (par : List Int) (clk : Int) (i : Nat) (e : Element) (r : Receiver) (d u : List Packet) : Bool := goodQ d && goodQ u && upQ u &&
  (if i = 0 then zElem e && zRecv r && decide (d.length = 0) && decide (u.length = 0)
   else if leafT par i then zElem e && goodRec r && decide (r.clock = clk) else goodElement e && decide (e.clock = clk) && zRecv r)
def atNode (n : Net) (i : Nat) : Bool := match n.elements[i]?, n.receivers[i]?, n.down[i]?, n.up[i]? with
  | some e, some r, some d, some u => rightN n.tree.parent n.source.clock i e r d u
  | _, _, _, _ => true
def lensN (n : Net) : Bool := decide (n.elements.length = n.tree.parent.length) && decide (n.receivers.length = n.tree.parent.length) && decide (n.down.length = n.tree.parent.length) && decide (n.up.length = n.tree.parent.length)
def goodNet (n : Net) : Bool := goodTree n.tree && goodSrc n.source && lensN n && allUpTo (atNode n) n.tree.parent.length
theorem atNode_at {n : Net} {i : Nat} (h1 : i < n.elements.length) (h2 : i < n.receivers.length) (h3 : i < n.down.length) (h4 : i < n.up.length) : atNode n i = rightN n.tree.parent n.source.clock i n.elements[i] n.receivers[i] n.down[i] n.up[i] := by
  unfold atNode
  rw [List.getElem?_eq_getElem h1, List.getElem?_eq_getElem h2, List.getElem?_eq_getElem h3, List.getElem?_eq_getElem h4]
theorem lensN_iff {n : Net} : lensN n = true ↔ n.elements.length = n.tree.parent.length ∧ n.receivers.length = n.tree.parent.length ∧ n.down.length = n.tree.parent.length ∧ n.up.length = n.tree.parent.length := by
  unfold lensN
  simp only [Bool.and_eq_true, decide_eq_true_eq]
  exact ⟨fun ⟨⟨⟨a, b⟩, c⟩, d⟩ => ⟨a, b, c, d⟩, fun ⟨a, b, c, d⟩ => ⟨⟨⟨a, b⟩, c⟩, d⟩⟩
theorem goodNet_iff {n : Net} : goodNet n = true ↔ goodTree n.tree = true ∧ goodSrc n.source = true ∧ lensN n = true ∧ ∀ i, i < n.tree.parent.length → atNode n i = true := by
  unfold goodNet
  simp only [Bool.and_eq_true]
  exact ⟨fun ⟨⟨⟨a, b⟩, c⟩, d⟩ => ⟨a, b, c, allUpTo_get d⟩, fun ⟨a, b, c, d⟩ => ⟨⟨⟨a, b⟩, c⟩, allUpTo_yes d⟩⟩
theorem goodNet_at {n : Net} {i : Nat} (hi : i < n.tree.parent.length) (h : atNode n i = false) : goodNet n = false := by unfold goodNet; rw [allUpTo_no hi h, Bool.and_false]
/-- a valid receiver that has not started is the zero one but for its clock -/
theorem zRecv_of {r : Receiver} (h : goodRec r = true) : zRecv r = (!r.started && decide (r.clock = 0)) := by
  unfold zRecv
  cases hs : r.started
  · unfold goodRec at h
    rw [hs] at h
    simp only [Bool.and_eq_true, Bool.false_eq_true, if_false] at h
    rw [h.2, Bool.and_true]
  · rfl
theorem good_zRecv {r : Receiver} (h : zRecv r = true) : goodRec r = true := by
  unfold zRecv at h
  simp only [Bool.and_eq_true, Bool.not_eq_true', decide_eq_true_eq] at h
  unfold goodRec
  rw [h.1.1, h.2, h.1.2]; rfl
theorem good_zElem {e : Element} (h : zElem e = true) : goodElement e = true := by
  unfold zElem at h
  simp only [Bool.and_eq_true, decide_eq_true_eq] at h
  unfold goodElement
  rw [h.1, h.2]; rfl
/-- what the reference asks of a node -/
def rightS (par : List Int) (clk : Int) (i : Nat) (e : Element) (r : Receiver) (d u : List Packet) : Bool := goodElement e && goodRec r && goodQ d && (goodQ u && upQ u) &&
  (if i = 0 then zElem e && (!r.started && decide (r.clock = 0)) && decide (d.length + u.length = 0)
   else if leafT par i then zElem e && decide (r.clock = clk) else (!r.started && decide (r.clock = 0)) && decide (e.clock = clk))
theorem rightS_eq (par : List Int) (clk : Int) (i : Nat) (e : Element) (r : Receiver) (d u : List Packet) : rightS par clk i e r d u = rightN par clk i e r d u := by
  have hz : (decide (d.length + u.length = 0)) = (decide (d.length = 0) && decide (u.length = 0)) := by
    by_cases a : d.length = 0 <;> by_cases b : u.length = 0 <;> simp [a, b]
  unfold rightS rightN
  rw [hz]
  cases gq : goodQ d <;> cases gu : goodQ u <;> cases gk : upQ u <;> simp only [Bool.and_false, Bool.false_and, Bool.and_true, Bool.true_and]
  split
  · cases he : zElem e
    · simp
    · rw [good_zElem he]
      cases hr : goodRec r
      · cases hr2 : zRecv r
        · simp
        · rw [good_zRecv hr2] at hr; cases hr
      · rw [zRecv_of hr]; simp [Bool.and_assoc]
  · split
    · cases he : zElem e
      · simp
      · rw [good_zElem he]; simp
    · cases hr : goodRec r
      · cases hr2 : zRecv r
        · simp
        · rw [good_zRecv hr2] at hr; cases hr
      · rw [zRecv_of hr]
        cases goodElement e <;> cases (!r.started && decide (r.clock = 0)) <;> simp
end Go.Proofs.YtccmhdheoeglmaaGreatDoor
/- The log's plain law: lines, records, what is accepted; what the reference reads is what the program reads. No program in sight. -/
namespace Go.Proofs.YtccmhdheoeglmaaGreatDoor
open Go.RowKit
abbrev Bs := List UInt8
def upTo (b : UInt8) (l : Bs) : Bs := l.takeWhile (· != b)
def behind (b : UInt8) (l : Bs) : Bs := (l.dropWhile (· != b)).drop 1
theorem upTo_at {b : UInt8} {x r : Bs} (h : ∀ c ∈ x, c ≠ b) : upTo b (x ++ b :: r) = x := by
  unfold upTo
  rw [List.takeWhile_append_of_pos (by simpa using h)]
  simp
theorem upTo_no {b : UInt8} {x : Bs} (h : ∀ c ∈ x, c ≠ b) : upTo b x = x := by
  have := List.takeWhile_append_of_pos (p := (· != b)) (l₁ := x) (l₂ := []) (by simpa using h)
  simpa [upTo] using this
theorem behind_at {b : UInt8} {x r : Bs} (h : ∀ c ∈ x, c ≠ b) : behind b (x ++ b :: r) = r := by
  unfold behind
  rw [List.dropWhile_append_of_pos (by simpa using h)]
  simp
theorem behind_no {b : UInt8} {x : Bs} (h : ∀ c ∈ x, c ≠ b) : behind b x = [] := by
  have := List.dropWhile_append_of_pos (p := (· != b)) (l₁ := x) (l₂ := []) (by simpa using h)
  simp only [List.append_nil, List.dropWhile_nil] at this
  simp [behind, this]
theorem upTo_mem {b : UInt8} {l : Bs} : ∀ c ∈ upTo b l, c ≠ b := by
  unfold upTo
  induction l with
  | nil => simp
  | cons d l ih =>
    intro c hc
    rw [List.takeWhile_cons] at hc
    split at hc
    · rename_i h
      rcases List.mem_cons.1 hc with rfl | hc
      · simpa using h
      · exact ih c hc
    · simp at hc
theorem split_at (b : UInt8) (l : Bs) : (b ∈ l ∧ l = upTo b l ++ b :: behind b l) ∨ (b ∉ l ∧ upTo b l = l ∧ behind b l = []) := by
  by_cases h : b ∈ l
  · left
    refine ⟨h, ?_⟩
    unfold upTo behind
    induction l with
    | nil => cases h
    | cons c l ih =>
      by_cases hc : c = b
      · subst hc; simp
      · have hm : b ∈ l := by
          rcases List.mem_cons.1 h with e | e
          · exact absurd e.symm hc
          · exact e
        simp only [List.takeWhile_cons, List.dropWhile_cons, bne_iff_ne, ne_eq, hc, not_false_eq_true, if_true, List.cons_append]
        rw [← ih hm]
  · right
    exact ⟨h, upTo_no fun c hc e => h (e ▸ hc), behind_no fun c hc e => h (e ▸ hc)⟩

/-- a text's lines, each with its newline -/
def linesOf : Bs → List Bs
  | [] => []
  | b :: r => if b == 10 then [10] :: linesOf r else match linesOf r with
    | [] => [[b]]
    | x :: xs => (b :: x) :: xs
theorem linesOf_flat : ∀ l : Bs, (linesOf l).flatten = l
  | [] => rfl
  | b :: r => by
    have ih := linesOf_flat r
    unfold linesOf
    split
    · rename_i h; simp at h; subst h; simp [ih]
    · cases h : linesOf r with
      | nil => rw [h] at ih; simp at ih; subst ih; simp
      | cons x xs => rw [h] at ih; simp at ih; simp [ih]
theorem linesOf_nl : ∀ {x : Bs} (r : Bs), (∀ c ∈ x, c ≠ 10) → linesOf (x ++ 10 :: r) = (x ++ [10]) :: linesOf r
  | [], r, _ => by simp [linesOf]
  | b :: x, r, h => by
    have ih := linesOf_nl (x := x) r fun c hc => h c (by simp [hc])
    have hb : (b == 10) = false := by simpa using h b (by simp)
    simp only [List.cons_append, linesOf, hb, ih]
    simp
theorem linesOf_last : ∀ {x : Bs}, x ≠ [] → (∀ c ∈ x, c ≠ 10) → linesOf x = [x]
  | [b], _, h => by
    have hb : (b == 10) = false := by simpa using h b (by simp)
    simp [linesOf, hb]
  | b :: c :: x, _, h => by
    have ih := linesOf_last (x := c :: x) (by simp) fun c hc => h c (by simp [hc])
    have hb : (b == 10) = false := by simpa using h b (by simp)
    rw [linesOf, hb, ih]
    simp
theorem linesOf_ne : ∀ {l : Bs} {x : Bs}, x ∈ linesOf l → x ≠ []
  | b :: r, x, h => by
    unfold linesOf at h
    split at h
    · rcases List.mem_cons.1 h with rfl | h
      · simp
      · exact linesOf_ne h
    · cases h2 : linesOf r with
      | nil => rw [h2] at h; simp at h; simp [h]
      | cons y ys =>
        rw [h2] at h
        rcases List.mem_cons.1 h with rfl | h
        · simp
        · exact linesOf_ne (l := r) (by rw [h2]; simp [h])
/-- a line that is whole -/
def Whole (x : Bs) : Prop := ∃ y, x = y ++ [10] ∧ ∀ c ∈ y, c ≠ 10
theorem linesOf_wholes : ∀ {xs : List Bs} (r : Bs), (∀ x ∈ xs, Whole x) → linesOf (xs.flatten ++ r) = xs ++ linesOf r
  | [], _, _ => rfl
  | x :: xs, r, h => by
    obtain ⟨y, rfl, hy⟩ := h x (by simp)
    have ih := linesOf_wholes (xs := xs) r fun z hz => h z (by simp [hz])
    simp only [List.flatten_cons, List.append_assoc, List.cons_append, List.nil_append]
    rw [linesOf_nl _ hy, ih]

/-- numbers, sums, lines of records -/
theorem digit_mem : ∀ (u : Nat) (c : UInt8), c ∈ Lib.decDigits u → 48 ≤ c.toNat ∧ c.toNat ≤ 57 := by
  intro u
  induction u using Nat.strongRecOn with
  | ind u ih =>
    intro c hc
    rw [Lib.decDigits] at hc
    have hd : ∀ d : Nat, d < 10 → 48 ≤ (UInt8.ofNat (48 + d)).toNat ∧ (UInt8.ofNat (48 + d)).toNat ≤ 57 := fun d hd => by
      rw [UInt8.toNat_ofNat']; omega
    split at hc
    · simp only [List.mem_singleton] at hc; subst hc; exact hd _ (by omega)
    · rcases List.mem_append.1 hc with h | h
      · exact ih _ (by omega) c h
      · simp only [List.mem_singleton] at h; subst h; exact hd _ (by omega)
theorem digit_ne {u : Nat} {b : UInt8} (hb : b.toNat < 48 ∨ 57 < b.toNat) : ∀ c ∈ Lib.decDigits u, c ≠ b := fun c hc e => by
  have := digit_mem u c hc; subst e; omega
theorem digit_len : ∀ (n u : Nat), u < 10 ^ (n + 1) → (Lib.decDigits u).length ≤ n + 1
  | 0, u, h => by rw [Lib.decDigits, dif_pos (by simpa using h)]; simp
  | n + 1, u, h => by
    rw [Lib.decDigits]
    split
    · simp
    · have := digit_len n (u / 10) (by rw [Nat.pow_succ] at h; omega)
      simp; omega
def sumStep (h : Nat) (c : UInt8) : Nat := (41 * h + c.toNat + 1) % 999979
def sumL (l : Bs) : Nat := l.foldl sumStep 7
theorem sumL_lt (l : Bs) : sumL l < 999979 := by
  have h : ∀ (l : Bs) (n : Nat), n < 999979 → l.foldl sumStep n < 999979 := by
    intro l
    induction l with
    | nil => intro n hn; simpa using hn
    | cons c l ih => intro n hn; rw [List.foldl_cons]; exact ih _ (by unfold sumStep; omega)
  exact h l 7 (by omega)
theorem sumL_snoc (l : Bs) (c : UInt8) : sumL (l ++ [c]) = sumStep (sumL l) c := by simp [sumL]
def sealL (l : Bs) : Bs := l ++ 35 :: Lib.decDigits (sumL l)
theorem sealL_len (l : Bs) : (sealL l).length ≤ l.length + 7 := by
  have := digit_len 5 (sumL l) (by have := sumL_lt l; omega)
  simp [sealL]; omega
def bodyL (k : Nat) (c r : Bs) : Bs := Lib.decDigits k ++ 32 :: (c ++ 64 :: r)
def lineL (k : Nat) (c r : Bs) : Bs := sealL (bodyL k c r) ++ [10]
def goodL (c r : Bs) : Bool := btw 1 c.length 160 && decide ((r.length : Int) ≤ 200) && logText c && logText r && !stands 64 c
theorem logByte_iff {b : UInt8} : logByte b = true ↔ (32 ≤ b.toNat ∧ b.toNat ≤ 126) ∧ b ≠ 35 := by
  simp [logByte, btw]; omega
theorem logText_mem {l : Bs} (h : logText l = true) : ∀ c ∈ l, (32 ≤ c.toNat ∧ c.toNat ≤ 126) ∧ c ≠ 35 := fun c hc => by
  unfold logText at h
  exact logByte_iff.1 (List.all_eq_true.1 h c hc)
structure Good (c r : Bs) : Prop where
  c0 : 1 ≤ c.length
  c1 : c.length ≤ 160
  r1 : r.length ≤ 200
  ct : ∀ b ∈ c, (32 ≤ b.toNat ∧ b.toNat ≤ 126) ∧ b ≠ 35
  rt : ∀ b ∈ r, (32 ≤ b.toNat ∧ b.toNat ≤ 126) ∧ b ≠ 35
  ca : ∀ b ∈ c, b ≠ 64
theorem goodL_good {c r : Bs} (h : goodL c r = true) : Good c r := by
  unfold goodL btw at h
  simp only [Bool.and_eq_true, decide_eq_true_eq, Bool.not_eq_true'] at h
  obtain ⟨⟨⟨⟨⟨h1, h2⟩, h3⟩, h4⟩, h5⟩, h6⟩ := h
  refine ⟨by omega, by omega, by omega, logText_mem h4, logText_mem h5, fun b hb e => ?_⟩
  unfold stands at h6
  have := List.any_eq_false.1 h6 b hb
  simp [e] at this
theorem ne_of_toNat {a b : UInt8} (h : a.toNat ≠ b.toNat) : a ≠ b := fun e => h (by rw [e])
theorem bodyL_mem {k : Nat} {c r : Bs} (h : Good c r) : ∀ b ∈ bodyL k c r, (32 ≤ b.toNat ∧ b.toNat ≤ 126) ∧ b ≠ 35 := by
  intro b hb
  unfold bodyL at hb
  simp only [List.mem_append, List.mem_cons] at hb
  rcases hb with hb | rfl | hb | rfl | hb
  · have := digit_mem k b hb
    exact ⟨by omega, ne_of_toNat (by simp; omega)⟩
  · decide
  · exact h.ct b hb
  · decide
  · exact h.rt b hb
theorem lineL_whole {k : Nat} {c r : Bs} (h : Good c r) : Whole (lineL k c r) := by
  refine ⟨sealL (bodyL k c r), rfl, fun b hb => ?_⟩
  unfold sealL at hb
  simp only [List.mem_append, List.mem_cons] at hb
  rcases hb with hb | rfl | hb
  · have := bodyL_mem h b hb
    exact ne_of_toNat (by simp; omega)
  · decide
  · exact digit_ne (by simp) b hb
theorem bodyL_len {k : Nat} {c r : Bs} (hk : k ≤ 59) (h : Good c r) : (bodyL k c r).length ≤ 364 := by
  have := digit_len 1 k (by omega)
  have := h.c1; have := h.r1
  simp [bodyL]; omega
theorem lineL_len {k : Nat} {c r : Bs} (hk : k ≤ 59) (h : Good c r) : (lineL k c r).length ≤ 372 := by
  have := bodyL_len hk h
  have := sealL_len (bodyL k c r)
  simp [lineL]; omega
/-- the encoding of a record, where there is one -/
def encL (k : Int) (c r : Bs) : Option Bs := if btw 0 k 59 && goodL c r then some (lineL k.toNat c r) else none
theorem encL_some {k : Int} {c r x : Bs} (h : encL k c r = some x) : (0 ≤ k ∧ k ≤ 59) ∧ Good c r ∧ x = lineL k.toNat c r := by
  unfold encL at h
  split at h
  · rename_i h2
    simp only [Bool.and_eq_true, btw, decide_eq_true_eq] at h2
    exact ⟨h2.1, goodL_good h2.2, by simpa using h.symm⟩
  · cases h
/-- what the program takes of a line -/
def tailL (x : Bs) : Bs := behind 32 (upTo 35 x)
def cmdL (x : Bs) : Bs := upTo 64 (tailL x)
def repL (x : Bs) : Bs := behind 64 (tailL x)
theorem tail_line {k : Nat} {c r s : Bs} (h : Good c r) : tailL (bodyL k c r ++ 35 :: s) = c ++ 64 :: r := by
  unfold tailL
  rw [upTo_at fun b hb => (bodyL_mem h b hb).2]
  exact behind_at (digit_ne (by simp))
theorem lineL_eq (k : Nat) (c r : Bs) : lineL k c r = bodyL k c r ++ 35 :: (Lib.decDigits (sumL (bodyL k c r)) ++ [10]) := by simp [lineL, sealL]
theorem cmd_line {k : Nat} {c r : Bs} (h : Good c r) : cmdL (lineL k c r) = c := by
  unfold cmdL
  rw [lineL_eq, tail_line h]
  exact upTo_at h.ca
theorem rep_line {k : Nat} {c r : Bs} (h : Good c r) : repL (lineL k c r) = r := by
  unfold repL
  rw [lineL_eq, tail_line h]
  exact behind_at h.ca
def okL (k : Nat) (x : Bs) : Bool := encL k (cmdL x) (repL x) == some x
theorem okL_iff {k : Nat} {x : Bs} : okL k x = true ↔ ∃ c r, k ≤ 59 ∧ goodL c r = true ∧ x = lineL k c r := by
  unfold okL
  rw [beq_iff_eq]
  constructor
  · intro h
    have h2 := encL_some h
    refine ⟨cmdL x, repL x, by omega, ?_, by simpa using h2.2.2⟩
    unfold encL at h
    split at h
    · rename_i h3; simp only [Bool.and_eq_true] at h3; exact h3.2
    · cases h
  · rintro ⟨c, r, hk, hg, rfl⟩
    have hG := goodL_good hg
    rw [cmd_line hG, rep_line hG]
    unfold encL
    rw [if_pos (by simp [hg, btw]; omega)]
    simp
theorem okL_whole {k : Nat} {x : Bs} (h : okL k x = true) : Whole x := by
  obtain ⟨c, r, _, hg, rfl⟩ := okL_iff.1 h
  exact lineL_whole (goodL_good hg)
theorem okL_len {k : Nat} {x : Bs} (h : okL k x = true) : x.length ≤ 372 := by
  obtain ⟨c, r, hk, hg, rfl⟩ := okL_iff.1 h
  exact lineL_len hk (goodL_good hg)
/-- the lines that are accepted, from number k on -/
def acc : Nat → List Bs → List Bs
  | _, [] => []
  | k, x :: r => if okL k x then x :: acc (k + 1) r else []
theorem acc_pre : ∀ (k : Nat) (xs : List Bs), acc k xs <+: xs
  | _, [] => List.prefix_rfl
  | k, x :: r => by
    unfold acc
    split
    · exact (List.cons_prefix_cons).2 ⟨rfl, acc_pre (k + 1) r⟩
    · exact List.nil_prefix
theorem acc_mem : ∀ (k : Nat) (xs : List Bs), ∀ x ∈ acc k xs, ∃ j, okL j x = true
  | _, [], x, h => by simp [acc] at h
  | k, y :: r, x, h => by
    unfold acc at h
    split at h
    · rename_i hy
      rcases List.mem_cons.1 h with rfl | h
      · exact ⟨k, hy⟩
      · exact acc_mem (k + 1) r x h
    · cases h
theorem acc_len : ∀ (k : Nat) (xs : List Bs), k ≤ 60 → k + (acc k xs).length ≤ 60
  | _, [], hk => by simpa [acc] using hk
  | k, x :: r, hk => by
    unfold acc
    split
    · rename_i h
      obtain ⟨c, r', h2, _⟩ := okL_iff.1 h
      have := acc_len (k + 1) r (by omega)
      simp; omega
    · simpa using hk
theorem acc_size (k : Nat) (xs : List Bs) : (acc k xs).flatten.length ≤ 372 * (acc k xs).length := by
  have h := acc_mem k xs
  revert h
  generalize acc k xs = ys
  intro h
  induction ys with
  | nil => simp
  | cons y ys ih =>
    obtain ⟨j, hj⟩ := h y (by simp)
    have h1 := okL_len hj
    have h2 := ih fun x hx => h x (by simp [hx])
    simp only [List.flatten_cons, List.length_append, List.length_cons]; omega
theorem acc_all : ∀ (k : Nat) (xs : List Bs) (m : Nat), acc k ((acc k xs).take m) = (acc k xs).take m
  | _, [], m => by simp [acc]
  | k, x :: r, m => by
    by_cases h : okL k x = true
    · have e : acc k (x :: r) = x :: acc (k + 1) r := by simp [acc, h]
      rw [e]
      cases m with
      | zero => simp [acc]
      | succ m => simp [acc, h, acc_all (k + 1) r m]
    · simp [acc, h]
theorem acc_append : ∀ (k : Nat) (xs ys : List Bs), acc k xs = xs → acc k (xs ++ ys) = xs ++ acc (k + xs.length) ys
  | _, [], _, _ => by simp
  | k, x :: r, ys, h => by
    unfold acc at h
    split at h
    · rename_i hx
      have h2 := acc_append (k + 1) r ys (by simpa using h)
      simp only [List.cons_append, acc, hx, if_true, h2, List.length_cons]
      rw [show k + 1 + r.length = k + (r.length + 1) by omega]
    · cases h
/-- what has been read of a text -/
def opened (s : Bs) : List Bs := acc 0 (linesOf s)
theorem opened_full {s : Bs} (h : (opened s).flatten.length = s.length) : opened s = linesOf s := by
  obtain ⟨t, ht⟩ := acc_pre 0 (linesOf s)
  have h2 := linesOf_flat s
  rw [← ht, List.flatten_append] at h2
  have h3 : t.flatten = [] := by
    have := congrArg List.length h2
    rw [List.length_append] at this
    have h4 : (acc 0 (linesOf s)).flatten.length = s.length := h
    exact List.eq_nil_of_length_eq_zero (by omega)
  have h4 : t = [] := by
    cases t with
    | nil => rfl
    | cons x t =>
      have := linesOf_ne (l := s) (x := x) (by rw [← ht]; simp)
      simp at h3
      exact absurd h3.1 this
  unfold opened
  rw [h4] at ht
  simpa using ht
theorem opened_eq {s : Bs} (h : (opened s).flatten.length = s.length) : (opened s).flatten = s := by rw [opened_full h, linesOf_flat]
theorem opened_small (s : Bs) : (opened s).flatten.length ≤ 22320 ∧ (opened s).length ≤ 60 := by
  have h1 := acc_size 0 (linesOf s)
  have h2 := acc_len 0 (linesOf s) (by omega)
  unfold opened; omega
/-- a text of accepted lines opens aS these -/
theorem opened_lines {xs : List Bs} (h : acc 0 xs = xs) (r : Bs) : opened (xs.flatten ++ r) = xs ++ acc xs.length (linesOf r) := by
  unfold opened
  rw [linesOf_wholes r (fun x hx => by rw [← h] at hx; obtain ⟨j, hj⟩ := acc_mem 0 _ x hx; exact okL_whole hj), acc_append 0 xs _ h]
  simp
/-- where the records end -/
def endsL : Nat → List Bs → List Nat
  | n, [] => [n]
  | n, x :: r => n :: endsL (n + x.length) r
theorem endsL_mem {m : Nat} : ∀ {n : Nat} {xs : List Bs}, m ∈ endsL n xs ↔ ∃ j, j ≤ xs.length ∧ m = n + (xs.take j).flatten.length
  | n, [] => by simp [endsL]
  | n, x :: r => by
    unfold endsL
    rw [List.mem_cons, endsL_mem]
    constructor
    · rintro (rfl | ⟨j, hj, rfl⟩)
      · exact ⟨0, by simp, by simp⟩
      · exact ⟨j + 1, by simpa using hj, by simp; omega⟩
    · rintro ⟨j, hj, rfl⟩
      cases j with
      | zero => left; simp
      | succ j => right; exact ⟨j, by simpa using hj, by simp; omega⟩
theorem endsL_last : ∀ {n : Nat} {xs : List Bs}, (endsL n xs).getLast? = some (n + xs.flatten.length)
  | n, [] => by simp [endsL]
  | n, x :: r => by
    have ih := endsL_last (n := n + x.length) (xs := r)
    unfold endsL
    rw [List.getLast?_cons]
    rw [ih]
    simp; omega
theorem endsL_len : ∀ {n : Nat} {xs : List Bs}, (endsL n xs).length = xs.length + 1
  | n, [] => rfl
  | n, x :: r => by simp [endsL, endsL_len]
theorem endsL_snoc : ∀ {n : Nat} {xs : List Bs} {x : Bs}, endsL n (xs ++ [x]) = endsL n xs ++ [n + xs.flatten.length + x.length]
  | n, [], x => by simp [endsL]
  | n, y :: r, x => by
    have := endsL_snoc (n := n + y.length) (xs := r) (x := x)
    simp only [List.cons_append, endsL, this]
    simp; omega
/-- a log is valid, aS the program says it -/
def validP (d p : Bs) (n : Int) : Bool := decide ((opened (d ++ p)).flatten.length = d.length + p.length) && (endsL 0 (opened (d ++ p))).contains d.length && decide (n = (opened (d ++ p)).length)
/-- and aS the reference says it -/
def validR (d p : Bs) (n : Int) : Bool := decide (d.length + p.length ≤ 30000) && (decide ((opened (d ++ p)).flatten.length = d.length + p.length) && decide ((opened d).flatten.length = d.length) && decide (((opened (d ++ p)).length : Int) = n))
theorem valid_durable {d p : Bs} (h : (opened (d ++ p)).flatten.length = d.length + p.length) : d.length ∈ endsL 0 (opened (d ++ p)) ↔ (opened d).flatten.length = d.length := by
  rw [endsL_mem]
  have hA : (opened (d ++ p)).flatten = d ++ p := opened_eq (by rw [h]; simp)
  constructor
  · rintro ⟨j, hj, e⟩
    rw [Nat.zero_add] at e
    have hd : ((opened (d ++ p)).take j).flatten = d := by
      have h1 : ((opened (d ++ p)).take j).flatten ++ ((opened (d ++ p)).drop j).flatten = d ++ p := by rw [← List.flatten_append, List.take_append_drop, hA]
      exact (List.append_inj h1 e.symm).1
    have h2 := opened_lines (xs := (opened (d ++ p)).take j) (acc_all 0 _ j) []
    rw [List.append_nil, hd] at h2
    rw [h2]
    simp [linesOf, acc, hd]
  · intro hd
    have hf := opened_full hd
    have hD : (opened d).flatten = d := opened_eq hd
    have h2 := opened_lines (xs := opened d) (by rw [hf]; exact hf) p
    rw [hD] at h2
    refine ⟨(opened d).length, by rw [h2]; simp, ?_⟩
    rw [h2]; simp [hD]
theorem valid_eq (d p : Bs) (n : Int) : validP d p n = validR d p n := by
  unfold validP validR
  by_cases h : (opened (d ++ p)).flatten.length = d.length + p.length
  · have h1 := opened_small (d ++ p)
    have h2 := valid_durable h
    have h3 : decide (d.length + p.length ≤ 30000) = true := by simp; omega
    have h4 : (endsL 0 (opened (d ++ p))).contains d.length = decide ((opened d).flatten.length = d.length) := by
      rw [Bool.eq_iff_iff, decide_eq_true_iff, List.contains_iff_mem]; exact h2
    rw [h3, h4]
    have h5 : decide (n = ((opened (d ++ p)).length : Int)) = decide (((opened (d ++ p)).length : Int) = n) := by
      rw [Bool.eq_iff_iff]; simp [eq_comm]
    rw [h5]
    cases decide ((opened d).flatten.length = d.length) <;> simp [h]
  · rw [decide_eq_false h]; simp

/-- how the reference reads a line without its newline -/
def aheadL (k : Nat) : Bs := Lib.decDigits k ++ [32]
def readR (s : Bs) (k : Nat) : (Bs × Bs) × Bool :=
  let text := upTo 35 s
  if text.length < (aheadL k).length ∨ text.take (aheadL k).length ≠ aheadL k then (([], []), false)
  else
    let rest := text.drop (aheadL k).length
    if (upTo 64 rest).length = rest.length then (([], []), false)
    else ((upTo 64 rest, rest.drop ((upTo 64 rest).length + 1)), goodL (upTo 64 rest) (rest.drop ((upTo 64 rest).length + 1)) && (lineL k (upTo 64 rest) (rest.drop ((upTo 64 rest).length + 1)) == s ++ [10]))
theorem readR_ok {k : Nat} {s : Bs} (hk : k ≤ 59) : (readR s k).2 = okL k (s ++ [10]) := by
  rw [Bool.eq_iff_iff, okL_iff]
  constructor
  · intro h
    unfold readR at h
    dsimp only at h
    split at h
    · cases h
    · split at h
      · cases h
      · simp only [Bool.and_eq_true, beq_iff_eq] at h
        exact ⟨_, _, hk, h.1, h.2.symm⟩
  · rintro ⟨c, r, _, hg, e⟩
    have hG := goodL_good hg
    have e2 : s = bodyL k c r ++ 35 :: Lib.decDigits (sumL (bodyL k c r)) := by
      unfold lineL at e
      exact (List.append_cancel_right e)
    have ht : upTo 35 s = bodyL k c r := by rw [e2]; exact upTo_at fun b hb => (bodyL_mem hG b hb).2
    have hb : bodyL k c r = aheadL k ++ (c ++ 64 :: r) := by simp [bodyL, aheadL]
    unfold readR
    simp only [ht, hb, List.length_append, List.take_left', List.drop_left', ne_eq, not_true_eq_false, or_false]
    rw [if_neg (by simp), upTo_at hG.ca, if_neg (by simp)]
    have hd : (c ++ 64 :: r).drop (c.length + 1) = r := by
      rw [← List.drop_drop]; simp
    simp only [hd, hg, Bool.true_and]
    rw [e]; simp
theorem readR_rec {k : Nat} {s : Bs} (h : (readR s k).2 = true) : (readR s k).1 = (cmdL (s ++ [10]), repL (s ++ [10])) := by
  unfold readR at h ⊢
  dsimp only at h ⊢
  split at h
  · cases h
  · rename_i h1
    rw [if_neg h1]
    split at h
    · cases h
    · rename_i h2
      rw [if_neg h2]
      simp only [Bool.and_eq_true, beq_iff_eq] at h
      have hG := goodL_good h.1
      rw [← h.2, cmd_line hG, rep_line hG]
end Go.Proofs.YtccmhdheoeglmaaGreatDoor
/- Numbers as texts; what the library's variables read as: the environment as one piece. -/
namespace Go.Proofs.YtccmhdheoeglmaaGreatDoor
open Go.RowKit
def bz (l : Bs) : ByteArray := ⟨l.toArray⟩
theorem bz_list (l : Bs) : (bz l).data.toList = l := by simp [bz]
theorem bz_size (l : Bs) : (bz l).size = l.length := by simp [bz, ByteArray.size]
theorem size_list (s : ByteArray) : s.data.toList.length = s.size := by simp
theorem bz_app (a b : Bs) : bz a ++ bz b = bz (a ++ b) := by apply ByteArray.ext; simp [bz, ByteArray.data_append]
theorem app_list (s t : ByteArray) : (s ++ t).data.toList = s.data.toList ++ t.data.toList := by simp [ByteArray.data_append]
theorem ret_str {a b : ByteArray} (h : a = b) : Ending.returned (.string a) = .returned (.string b) := by rw [h]
theorem below_grow (w : World) (k : Nat) (os : Array Obj) : Below w.heap.size w (Go.Sort.grow (w.drewN k) os) := by
  refine ⟨rfl, rfl, rfl, ?_, fun i hi => ?_⟩
  · simp [Go.Sort.grow, World.drewN]
  · simp [Go.Sort.grow, World.drewN, Array.getElem?_append_left hi]
theorem dig_small : ∀ n : Nat, n < 10 → (⟨#[48, 49, 50, 51, 52, 53, 54, 55, 56, 57]⟩ : ByteArray).extract n (n + 1) = ⟨#[UInt8.ofNat (48 + n)]⟩ := by decide
set_option maxHeartbeats 400000 in
set_option maxRecDepth 100000 in
theorem l1Num_c : ∀ (k n : Nat) (w : World), n < 10 ^ (k + 1) → n ≤ 999999999999999999 →
    Calls Tryz.prog 39 #[.int .i64 (n : Int)] w fun e w' => e = .returned (.string (bz (Lib.decDigits n))) ∧ ∃ j, w' = w.drewN j := by
  intro k
  induction k with
  | zero =>
    intro n w h1 h2
    have h3 : n < 10 := by simpa using h1
    have hd := Lib.hid (dig_small n h3)
    have hn : ¬ ((n : Int) < 0) := by omega
    go_enter Tryz.func39, Tryz.ntmps39
    go_wp2_with fail
    go_ret
    refine ⟨ret_str ?_, 0, rfl⟩
    rw [hd.out, Lib.decDigits, dif_pos h3]; rfl
  | succ k ih =>
    intro n w h1 h2
    by_cases h3 : n < 10
    · have hd := Lib.hid (dig_small n h3)
      have hn : ¬ ((n : Int) < 0) := by omega
      go_enter Tryz.func39, Tryz.ntmps39
      go_wp2_with fail
      go_ret
      refine ⟨ret_str ?_, 0, rfl⟩
      rw [hd.out, Lib.decDigits, dif_pos h3]; rfl
    · have h4 : n / 10 < 10 ^ (k + 1) := by rw [Nat.pow_succ] at h1; omega
      have hc := fun w => ih (n / 10) w h4 (by omega)
      rw [show ((n / 10 : Nat) : Int) = (n : Int) / 10 from by omega] at hc
      have hn : ¬ ((n : Int) < 0) := by omega
      have h5 : ¬ ((n : Int) < 10) := by omega
      have hd := Lib.hid (dig_small (n % 10) (by omega))
      have b0 : (0 : Int) ≤ (n : Int) % 10 := by omega
      have b1 : (n : Int) % 10 ≤ 9 := by omega
      have e0 : IntKind.i64.wrap ((n : Int) / 10) = (n : Int) / 10 := by rw [IntKind.wrap_i64]; omega
      have e1 : IntKind.i64.wrap ((n : Int) % 10) = (n : Int) % 10 := by rw [IntKind.wrap_i64]; omega
      have e2 : IntKind.i64.wrap ((n : Int) % 10 + 1) = (n : Int) % 10 + 1 := by rw [IntKind.wrap_i64]; omega
      have e3 : ((n : Int) % 10).toNat = n % 10 := by omega
      have e4 : ((n : Int) % 10 + 1).toNat = n % 10 + 1 := by omega
      have e5 : (n : Int).tmod 10 = (n : Int) % 10 := Int.tmod_eq_emod_of_nonneg (by omega)
      have e6 : (n : Int).tdiv 10 = (n : Int) / 10 := Int.tdiv_eq_ediv_of_nonneg (by omega)
      have hsl : ∀ wx, (Instr.slice 9 (.string ⟨#[48, 49, 50, 51, 52, 53, 54, 55, 56, 57]⟩) (some (.int .i64 ((n : Int) % 10))) (some (.int .i64 ((n : Int) % 10 + 1))) none).run Tryz.prog wx = .ok (.string ⟨#[UInt8.ofNat (48 + n % 10)]⟩) wx := fun wx => by
        have h6 := run_slice_string (P := Tryz.prog) wx 9 ⟨#[48, 49, 50, 51, 52, 53, 54, 55, 56, 57]⟩ .i64 .i64 ((n : Int) % 10) ((n : Int) % 10 + 1) Tryz.underlying9 (by omega) (by omega) (by show _ ≤ ((10 : Nat) : Int); omega)
        rw [h6, e3, e4, hd.out]
      have hD : (bz (Lib.decDigits (n / 10))).size ≤ 18 := by rw [bz_size]; exact digit_len 17 _ (by omega)
      have hd1 : (⟨#[UInt8.ofNat (48 + n % 10)]⟩ : ByteArray).size ≤ 1 := by simp [ByteArray.size]
      have hR : Hid (bz (Lib.decDigits (n / 10)) ++ ⟨#[UInt8.ofNat (48 + n % 10)]⟩ = bz (Lib.decDigits n)) := by
        refine Lib.hid ?_
        conv => rhs; rw [Lib.decDigits, dif_neg (by omega), ← bz_app]
        rfl
      generalize bz (Lib.decDigits (n / 10)) = D at *
      generalize (⟨#[UInt8.ofNat (48 + n % 10)]⟩ : ByteArray) = d at *
      clear ih h1 e3 e4
      go_enter Tryz.func39, Tryz.ntmps39
      go_wp2_with fail
      go_quiet ((go_at_call 39; exact Calls.quiet_of (v := .string D) (hc (World.drewN _ _))))
      go_wp2_with fail
      go_ret
      refine ⟨ret_str ?_, _, rfl⟩
      exact hR.out
def EEnv : Elem Unit where
  sz := 0
  rep w cs _ F := cs = [] ∧ Lib.TabIs Tryz.prog w "internal/strconv.uint64pow10" .u64 Lib.pow10Tab ∧ F = [0] ∧ ∀ b ∈ F, b < w.heap.size
  len h := by simp [h.1]
  lt h := h.2.2.2
  frame h hF := by
    obtain ⟨h1, h2, rfl, h6⟩ := h
    have e0 := hF 0 (by simp)
    refine ⟨h1, ?_, rfl, fun b hb => ?_⟩
    · unfold Lib.TabIs World.var? at h2 ⊢
      rw [show Tryz.prog.globalNamed "internal/strconv.uint64pow10" = some 0 by kernel_rfl] at h2 ⊢
      simp only [Option.bind_some] at h2 ⊢
      rw [e0]; exact h2
    · have e := hF b hb
      have := h6 b hb
      rw [Array.getElem?_eq_getElem this] at e
      exact (Array.getElem?_eq_some_iff.1 e).1
def EnvP (FT : List Nat) : Pc := .isv EEnv (.agg #[]) () FT
theorem EnvP.env {w : World} {FT : List Nat} (h : (EnvP FT).P w) : Lib.TabIs Tryz.prog w "internal/strconv.uint64pow10" .u64 Lib.pow10Tab ∧ True := by
  obtain ⟨cs, _, h⟩ := h; exact ⟨h.2.1, trivial⟩
theorem itoa_c (n : Int) (h0 : -9223372036854775808 ≤ n) (h1 : n ≤ 9223372036854775807) (FT : List Nat) (w : World) (hT : (EnvP FT).P w) :
    Calls Tryz.prog 43 #[.int .i64 n] w fun e w' => e = .returned (.string (bz (Lib.itoa n))) ∧ Below w.heap.size w w' := by
  refine (Tryz.strconv_Itoa n h0 h1 w (EnvP.env hT).1).mono ?_
  rintro e w' ⟨rfl, k, os, rfl⟩
  exact ⟨rfl, below_grow w k os⟩
theorem num_c (n : Nat) (hn : n ≤ 999999) (w : World) : Calls Tryz.prog 39 #[.int .i64 (n : Int)] w fun e w2 => e = .returned (.string (bz (Lib.decDigits n))) ∧ Below w.heap.size w w2 := by
  refine (l1Num_c 5 n w (by omega) (by omega)).mono ?_
  rintro e w2 ⟨rfl, j, rfl⟩
  exact ⟨rfl, belowDrewN (Below.refl _ _) j⟩
end Go.Proofs.YtccmhdheoeglmaaGreatDoor
/- Receive windows as texts. -/
namespace Go.Proofs.YtccmhdheoeglmaaGreatDoor
open Go.RowKit
def sword (s : Slot) : ByteArray := if s.hav then (if s.item = ⟨#[]⟩ then ⟨#[46]⟩ else s.item) else ⟨#[63]⟩
def slT (x : ReceiveWindow) (k : Nat) : ByteArray := (x.slots.take k).foldl (fun a s => a ++ (⟨#[32]⟩ ++ sword s)) (bz (Lib.decDigits x.next.toNat) ++ ⟨#[58]⟩)
def slTxt (x : ReceiveWindow) : ByteArray := slT x x.slots.length
theorem slT_succ {x : ReceiveWindow} {k : Nat} (hk : k < x.slots.length) : slT x (k + 1) = slT x k ++ (⟨#[32]⟩ ++ sword x.slots[k]) := by
  unfold slT; rw [← List.take_append_getElem hk, List.foldl_append]; rfl
theorem slT_q {x : ReceiveWindow} {k : Nat} (hk : k < x.slots.length) (h : x.slots[k].hav = false) : slT x k ++ ⟨#[32, 63]⟩ = slT x (k + 1) := by
  rw [slT_succ hk, sword, h]; rfl
theorem slT_d {x : ReceiveWindow} {k : Nat} (hk : k < x.slots.length) (h : x.slots[k].hav = true) (h2 : x.slots[k].item = ⟨#[]⟩) : slT x k ++ ⟨#[32, 46]⟩ = slT x (k + 1) := by
  rw [slT_succ hk, sword, h, if_pos rfl, if_pos h2]; rfl
theorem slT_w {x : ReceiveWindow} {k : Nat} (hk : k < x.slots.length) (h : x.slots[k].hav = true) (h2 : ¬ x.slots[k].item = ⟨#[]⟩) : slT x k ++ (⟨#[32]⟩ ++ x.slots[k].item) = slT x (k + 1) := by
  rw [slT_succ hk, sword, h, if_pos rfl, if_neg h2]
theorem sword_size {s : Slot} (h : s.item.size ≤ 8) : (sword s).size ≤ 8 := by
  unfold sword; split
  · split
    · decide
    · exact h
  · decide
theorem slT_size {x : ReceiveWindow} (hg : goodRW x = true) : ∀ k, (slT x k).size ≤ 6 + 9 * k
  | 0 => by
    obtain ⟨n0, n1, hl, hit⟩ := good_of hg
    unfold slT
    rw [List.take_zero, List.foldl_nil, ByteArray.size_append, bz_size]
    have := digit_len 4 x.next.toNat (by omega)
    have : (⟨#[58]⟩ : ByteArray).size = 1 := rfl
    omega
  | k + 1 => by
    have ih := slT_size hg k
    obtain ⟨n0, n1, hl, hit⟩ := good_of hg
    by_cases hk : k < x.slots.length
    · rw [slT_succ hk, ByteArray.size_append, ByteArray.size_append]
      have := sword_size (hit _ (List.getElem_mem hk))
      have : (⟨#[32]⟩ : ByteArray).size = 1 := rfl
      omega
    · have e : slT x (k + 1) = slT x k := by unfold slT; rw [List.take_of_length_le (by omega), List.take_of_length_le (by omega)]
      rw [e]; omega
set_option maxRecDepth 100000 in
theorem slotsText_f (x : ReceiveWindow) (v : Value) (F FT : List Nat) (hg : goodRW x = true) : Fn Tryz.prog 45 [v] [.isv EReceiveWindow v x F, EnvP FT] [] (fun (_ : Unit) => True) (fun _ => .string (slTxt x)) (fun _ => []) := by
  obtain ⟨n0, n1, hl, hit⟩ := good_of hg
  have hzd : (bz (Lib.decDigits x.next.toNat)).size ≤ 5 := by rw [bz_size]; exact digit_len 4 _ (by omega)
  have z58 : (⟨#[58]⟩ : ByteArray).size = 1 := rfl
  refine enter Tryz.func45 rfl Tryz.ntmps45 fun w0 => ?_
  refine openReceiveWindow ?_
  rintro a1 c1 F1 rfl l1
  unfold maxLen at l1
  refine go ?_; intros
  refine cb (fun w st => itoa_c x.next (by omega) (by omega) FT w (st.get (p := EnvP FT) (by simp))) ?_
  rw [show Lib.itoa x.next = Lib.decDigits x.next.toNat by unfold Lib.itoa; rw [if_neg (by omega)]]
  refine go ?_; intros
  refine c_loopR [2, 11, 12] (fun k : Nat => [(3, .string (slT x k)), (13, .int .i64 k)]) (fun k => k ≤ x.slots.length) (fun k => x.slots.length - k) 0 (Nat.zero_le _) fun k hk => ?_
  have hz := slT_size hg k
  have z2 : (⟨#[32, 63]⟩ : ByteArray).size = 2 := rfl
  have z3 : (⟨#[32, 46]⟩ : ByteArray).size = 2 := rfl
  have z1 : (⟨#[32]⟩ : ByteArray).size = 1 := rfl
  refine go ?_; intros
  refine c_if rfl (fun h => ?_) (fun h => ?_)
  · have hk3 : k < x.slots.length := by omega
    have hs8 := hit _ (List.getElem_mem hk3)
    refine atSlot (xs := x.slots) k ?_
    rintro hi b o e s1
    rw [e]
    refine go ?_; intros
    cases g2 : x.slots[k].hav
    · refine go ?_; intros
      rw [slT_q hk3 g2]
      refine n_lp (k + 1) hk3 (by omega)
    · 
      refine go ?_; intros
      by_cases g3 : x.slots[k].item = ⟨#[]⟩
      · rw [decide_eq_true g3]
        refine go ?_; intros
        rw [slT_d hk3 g2 g3]
        refine n_lp (k + 1) hk3 (by omega)
      · rw [decide_eq_false g3]
        have z9 := ByteArray.size_append (a := ⟨#[32]⟩) (b := x.slots[k].item)
        refine go ?_; intros
        rw [slT_w hk3 g2 g3]
        refine n_lp (k + 1) hk3 (by omega)
  · obtain rfl : k = x.slots.length := by omega
    refine go ?_; intros
    refine ret () trivial ?_
    unfold slTxt; rfl
set_option maxRecDepth 100000 in
theorem l10Text_f (x : ReceiveWindow) (v : Value) (F FT : List Nat) (hg : goodRW x = true) : Fn Tryz.prog 41 [v] [.isv EReceiveWindow v x F, EnvP FT] [] (fun (_ : Unit) => True) (fun _ => .string (slTxt x)) (fun _ => []) := by
  obtain ⟨n0, n1, hl, hit⟩ := good_of hg
  have hzd : (bz (Lib.decDigits x.next.toNat)).size ≤ 5 := by rw [bz_size]; exact digit_len 4 _ (by omega)
  have z58 : (⟨#[58]⟩ : ByteArray).size = 1 := rfl
  refine enter Tryz.func41 rfl Tryz.ntmps41 fun w0 => ?_
  refine openReceiveWindow ?_
  rintro a1 c1 F1 rfl l1
  unfold maxLen at l1
  refine go ?_; intros
  refine cb (fun w st => (by rw [show x.next = ((x.next.toNat : Nat) : Int) by omega]; exact num_c _ (by omega) w)) ?_
  refine go ?_; intros
  refine c_loopR [1, 2] (fun k : Nat => [(3, .string (slT x k)), (4, .int .i64 k)]) (fun k => k ≤ x.slots.length) (fun k => x.slots.length - k) 0 (Nat.zero_le _) fun k hk => ?_
  have hz := slT_size hg k
  have z2 : (⟨#[32, 63]⟩ : ByteArray).size = 2 := rfl
  have z3 : (⟨#[32, 46]⟩ : ByteArray).size = 2 := rfl
  have z1 : (⟨#[32]⟩ : ByteArray).size = 1 := rfl
  refine go ?_; intros
  refine c_if rfl (fun h => ?_) (fun h => ?_)
  · have hk3 : k < x.slots.length := by omega
    have hs8 := hit _ (List.getElem_mem hk3)
    refine atSlot (xs := x.slots) k ?_
    rintro hi b o e s1
    rw [e]
    refine go ?_; intros
    cases g2 : x.slots[k].hav
    · refine go ?_; intros
      rw [slT_q hk3 g2]
      refine n_lp (k + 1) hk3 (by omega)
    · 
      refine go ?_; intros
      by_cases g3 : x.slots[k].item = ⟨#[]⟩
      · rw [decide_eq_true g3]
        refine go ?_; intros
        rw [slT_d hk3 g2 g3]
        refine n_lp (k + 1) hk3 (by omega)
      · rw [decide_eq_false g3]
        have z9 := ByteArray.size_append (a := slT x k) (b := ⟨#[32]⟩)
        refine go ?_; intros
        rw [ByteArray.append_assoc, slT_w hk3 g2 g3]
        refine n_lp (k + 1) hk3 (by omega)
  · obtain rfl : k = x.slots.length := by omega
    refine go ?_; intros
    refine ret () trivial ?_
    unfold slTxt; rfl
end Go.Proofs.YtccmhdheoeglmaaGreatDoor
/- Joined texts. Plain. -/
namespace Go.Proofs.YtccmhdheoeglmaaGreatDoor
open Go.RowKit
theorem itoa_nt {v : Int} (h : 0 ≤ v) : Lib.itoa v = Lib.decDigits v.natAbs := by unfold Lib.itoa; rw [if_neg (by omega), show v.toNat = v.natAbs by omega]
theorem join_snoc (xs : List Bs) (x sep : Bs) (h : 0 < xs.length) : Lib.join (xs ++ [x]) sep = Lib.join xs sep ++ (sep ++ x) := by
  cases xs with
  | nil => cases h
  | cons a r =>
    rw [List.cons_append, Lib.join_cons, Lib.join_cons]
    unfold Lib.joinTail
    simp
theorem joinTail_len {sep : Bs} {m : Nat} : ∀ {xs : List Bs}, (∀ x ∈ xs, x.length ≤ m) → (Lib.joinTail sep xs).length ≤ (sep.length + m) * xs.length
  | [], _ => by unfold Lib.joinTail; simp
  | x :: r, h => by
    have ih := joinTail_len (sep := sep) (m := m) (xs := r) fun y hy => h y (by simp [hy])
    have hx := h x (by simp)
    unfold Lib.joinTail at ih ⊢
    simp only [List.map_cons, List.flatten_cons, List.length_append, List.length_cons] at ih ⊢
    rw [Nat.mul_add]; omega
theorem join_len {sep : Bs} {m : Nat} {xs : List Bs} (h : ∀ x ∈ xs, x.length ≤ m) : (Lib.join xs sep).length ≤ (sep.length + m) * xs.length := by
  cases xs with
  | nil => simp [Lib.join]
  | cons a r =>
    have hr := joinTail_len (sep := sep) (m := m) (xs := r) fun y hy => h y (by simp [hy])
    have ha := h a (by simp)
    rw [Lib.join_cons, List.length_append, List.length_cons, Nat.mul_add]; omega
/-- numbers with a space between them -/
def jn (l : List Int) : Bs := Lib.join (l.map Lib.itoa) [32]
theorem jn_one (x : Int) : jn [x] = Lib.itoa x := by unfold jn; rw [List.map_cons, Lib.join_cons]; simp [Lib.joinTail]
theorem jn_succ {l : List Int} {k : Nat} (h0 : 0 < k) (h : k < l.length) : jn (l.take (k + 1)) = jn (l.take k) ++ 32 :: Lib.itoa l[k] := by
  unfold jn
  rw [List.take_succ_eq_append_getElem h, List.map_append, List.map_cons, List.map_nil, join_snoc _ _ _ (by rw [List.length_map, List.length_take]; omega)]; rfl
theorem jn_len {l : List Int} {k : Nat} (h : ∀ x ∈ l, 0 ≤ x ∧ x.natAbs < 10 ^ (k + 1)) : (jn l).length ≤ (k + 2) * l.length := by
  have := join_len (sep := [32]) (m := k + 1) (xs := l.map Lib.itoa) fun y hy => by
    obtain ⟨x, hx, rfl⟩ := List.mem_map.1 hy
    rw [itoa_nt (h x hx).1]; exact digit_len k _ (h x hx).2
  unfold jn
  rw [List.length_map] at this
  simp only [List.length_cons, List.length_nil] at this
  rw [show (k + 2) = (0 + 1 + (k + 1)) by omega]; exact this
end Go.Proofs.YtccmhdheoeglmaaGreatDoor
/- Consoles: which are valid, their texts. Plain. -/
namespace Go.Proofs.YtccmhdheoeglmaaGreatDoor
open Go.RowKit
/-- the leaves among the first k nodes -/
def lvsTo (l : List Int) (k : Nat) : List Int := ((List.range k).filter fun i => leafT l ((i : Nat) : Int)).map fun (i : Nat) => ((i : Nat) : Int)
def lvs (l : List Int) : List Int := lvsTo l l.length
theorem lvsTo_succ (l : List Int) (k : Nat) : lvsTo l (k + 1) = lvsTo l k ++ if leafT l (k : Int) = true then [(k : Int)] else [] := by
  unfold lvsTo
  rw [List.range_succ, List.filter_append, List.map_append]
  split <;> simp_all
theorem lvsTo_yes {l : List Int} {k : Nat} (h : leafT l (k : Int) = true) : lvsTo l (k + 1) = lvsTo l k ++ [(k : Int)] := by rw [lvsTo_succ, if_pos h]
theorem lvsTo_no {l : List Int} {k : Nat} (h : leafT l (k : Int) = false) : lvsTo l (k + 1) = lvsTo l k := by rw [lvsTo_succ, if_neg (by rw [h]; decide), List.append_nil]
theorem lvsTo_len (l : List Int) (k : Nat) : (lvsTo l k).length ≤ k := by
  unfold lvsTo
  rw [List.length_map]
  exact Nat.le_trans (List.length_filter_le _ _) (by simp)
theorem lvs_mem {l : List Int} {x : Int} {k : Nat} (h : x ∈ lvsTo l k) : ∃ i, i < k ∧ x = ((i : Nat) : Int) ∧ leafT l x = true := by
  unfold lvsTo at h
  obtain ⟨i, hi, rfl⟩ := List.mem_map.1 h
  obtain ⟨h1, h2⟩ := List.mem_filter.1 hi
  exact ⟨i, List.mem_range.1 h1, rfl, h2⟩
/-- the leaves among the k nodes behind the first -/
def lvs1 (l : List Int) (k : Nat) : List Int := ((List.range k).filter fun i => leafT l ((i + 1 : Nat) : Int)).map fun (i : Nat) => ((i + 1 : Nat) : Int)
theorem lvs1_succ (l : List Int) (k : Nat) : lvs1 l (k + 1) = lvs1 l k ++ if leafT l ((k + 1 : Nat) : Int) = true then [((k + 1 : Nat) : Int)] else [] := by
  unfold lvs1
  rw [List.range_succ, List.filter_append, List.map_append]
  split <;> simp_all
theorem lvs1_yes {l : List Int} {k : Nat} (h : leafT l ((k + 1 : Nat) : Int) = true) : lvs1 l (k + 1) = lvs1 l k ++ [((k + 1 : Nat) : Int)] := by rw [lvs1_succ, if_pos h]
theorem lvs1_no {l : List Int} {k : Nat} (h : leafT l ((k + 1 : Nat) : Int) = false) : lvs1 l (k + 1) = lvs1 l k := by rw [lvs1_succ, if_neg (by rw [h]; decide), List.append_nil]
theorem lvs1_len (l : List Int) (k : Nat) : (lvs1 l k).length ≤ k := by
  unfold lvs1
  rw [List.length_map]
  exact Nat.le_trans (List.length_filter_le _ _) (by simp)
theorem root_no {l : List Int} (hg : GoodT l) : leafT l ((0 : Nat) : Int) = false := by
  have h1 := hg.n0
  have h2 := hg.p 1 (by omega) (by omega)
  have h3 : (((0 : Nat) : Int)) ∈ l := by
    have : l[1] = ((0 : Nat) : Int) := by omega
    rw [← this]; exact List.getElem_mem _
  unfold leafT
  rw [decide_eq_true h3]; rfl
theorem lvs1_eq {l : List Int} (hg : GoodT l) : ∀ k, lvsTo l (k + 1) = lvs1 l k
  | 0 => by rw [lvsTo_no (root_no hg)]; rfl
  | k + 1 => by rw [lvsTo_succ, lvs1_eq hg k, lvs1_succ]
theorem lvs1_all {l : List Int} (hg : GoodT l) {k : Nat} (hk : k + 1 = l.length) : lvs1 l k = lvs l := by
  rw [← lvs1_eq hg]; unfold lvs; rw [hk]
/-- the line of a leaf -/
def slB (r : Receiver) : ByteArray := if r.started then slTxt r.window else ⟨#[45]⟩
def lineB (r : Receiver) (f : Int) : ByteArray := bz (Lib.itoa f) ++ ⟨#[32]⟩ ++ slB r ++ ⟨#[10]⟩
def zR : Receiver := ⟨false, 0, ⟨0, []⟩, []⟩
def recAt (n : Net) (f : Int) : Receiver := n.receivers.getD f.toNat zR
theorem recAt_at {n : Net} {i : Nat} (h : i < n.receivers.length) : recAt n ((i : Nat) : Int) = n.receivers[i] := by
  unfold recAt
  rw [Int.toNat_natCast, List.getD_eq_getElem?_getD, List.getElem?_eq_getElem h]; rfl
def conH (c : Console) : ByteArray := bz (jn (c.net.tree.parent.drop 1)) ++ ⟨#[59, 32, 99, 108, 111, 99, 107, 32]⟩ ++ bz (Lib.itoa c.net.source.clock) ++ ⟨#[59, 32, 114, 101, 99, 111, 114, 100, 115, 32]⟩ ++ bz (Lib.itoa c.log.count) ++ ⟨#[10]⟩
def conT (c : Console) (k : Nat) : ByteArray := ((lvs c.net.tree.parent).take k).foldl (fun a f => a ++ lineB (recAt c.net f) f) (conH c)
def conTxt (c : Console) : ByteArray := conT c (lvs c.net.tree.parent).length
theorem conT_succ {c : Console} {k : Nat} (hk : k < (lvs c.net.tree.parent).length) : conT c (k + 1) = conT c k ++ lineB (recAt c.net (lvs c.net.tree.parent)[k]) (lvs c.net.tree.parent)[k] := by
  unfold conT; rw [List.take_succ_eq_append_getElem hk, List.foldl_append]; rfl
/-- what a valid net's receiver at a node is -/
theorem net_rec {n : Net} (hg : goodNet n = true) {i : Nat} (hi : i < n.receivers.length) : goodRec n.receivers[i] = true := by
  obtain ⟨-, -, hl, ha⟩ := goodNet_iff.1 hg
  obtain ⟨q1, q2, q3, q4⟩ := lensN_iff.1 hl
  have h := ha i (by omega)
  rw [atNode_at (by omega) hi (by omega) (by omega), ← rightS_eq] at h
  unfold rightS at h
  simp only [Bool.and_eq_true] at h
  exact h.1.1.1.2
theorem rec_rw {r : Receiver} (hg : goodRec r = true) (hs : r.started = true) : goodRW r.window = true := by
  unfold goodRec at hg
  rw [hs] at hg
  simp only [Bool.and_eq_true, if_true] at hg
  exact hg.2.1.1
theorem slB_size {r : Receiver} (hg : goodRec r = true) : (slB r).size ≤ 100 := by
  unfold slB
  split
  · rename_i hs
    have h := rec_rw hg hs
    obtain ⟨-, -, hl, -⟩ := good_of h
    have := slT_size h r.window.slots.length
    unfold slTxt; omega
  · decide
theorem par_bd {l : List Int} (hg : GoodT l) : ∀ f ∈ l.drop 1, 0 ≤ f ∧ f.natAbs < 10 ^ (4 + 1) := fun f hf => by
  obtain ⟨i, hi, rfl⟩ := List.getElem_of_mem hf
  rw [List.getElem_drop]
  have h1 := hg.n1
  have h3 : 1 + i < l.length := by rw [List.length_drop] at hi; omega
  have h2 := hg.p (1 + i) h3 (by omega)
  have : (10 : Nat) ^ (4 + 1) = 100000 := by decide
  omega
theorem jn_par {l : List Int} (hg : GoodT l) (k : Nat) : (bz (jn ((l.drop 1).take k))).size ≤ 60 := by
  rw [bz_size]
  have := jn_len (l := (l.drop 1).take k) (k := 4) fun x hx => par_bd hg x (List.mem_of_mem_take hx)
  have h1 := hg.n1
  rw [List.length_take, List.length_drop] at this
  have h2 : min k (l.length - 1) ≤ 7 := by omega
  have h3 : (4 + 2) * min k (l.length - 1) ≤ (4 + 2) * 7 := Nat.mul_le_mul_left _ h2
  omega
theorem jn_parW {l : List Int} (hg : GoodT l) : (bz (jn (l.drop 1))).size ≤ 60 := by
  have := jn_par hg (l.drop 1).length
  rwa [List.take_length] at this
theorem itoa_sz {n : Int} {k : Nat} (h0 : 0 ≤ n) (h1 : n.natAbs < 10 ^ (k + 1)) : (bz (Lib.itoa n)).size ≤ k + 1 := by rw [bz_size, itoa_nt h0]; exact digit_len k _ h1
theorem src_clk {x : Source} (h : goodSrc x = true) : 0 ≤ x.clock ∧ x.clock ≤ 9999 := by
  unfold goodSrc at h
  simp only [Bool.and_eq_true] at h
  exact isClk_iff.1 h.1.1.2
theorem conH_size {c : Console} (hg : GoodT c.net.tree.parent) (h0 : 0 ≤ c.net.source.clock) (h1 : c.net.source.clock ≤ 9999) (h2 : 0 ≤ c.log.count) (h3 : c.log.count ≤ 60) : (conH c).size ≤ 90 := by
  have e1 := jn_parW hg
  have e2 : (bz (Lib.itoa c.net.source.clock)).size ≤ 4 := itoa_sz h0 (by show _ < 10000; omega)
  have e3 : (bz (Lib.itoa c.log.count)).size ≤ 2 := itoa_sz h2 (by show _ < 100; omega)
  have e4 : (⟨#[59, 32, 99, 108, 111, 99, 107, 32]⟩ : ByteArray).size = 8 := rfl
  have e5 : (⟨#[59, 32, 114, 101, 99, 111, 114, 100, 115, 32]⟩ : ByteArray).size = 10 := rfl
  have e6 : (⟨#[10]⟩ : ByteArray).size = 1 := rfl
  unfold conH
  simp only [ByteArray.size_append]; omega
theorem lvs_lt {l : List Int} {k : Nat} (h : k < (lvs l).length) : ∃ i, i < l.length ∧ (lvs l)[k] = ((i : Nat) : Int) ∧ leafT l ((i : Nat) : Int) = true := by
  obtain ⟨i, hi, e, hl⟩ := lvs_mem (List.getElem_mem h)
  exact ⟨i, hi, e, e ▸ hl⟩
theorem line_size {c : Console} (hn : goodNet c.net = true) {i : Nat} (hi : i < c.net.receivers.length) (h8 : i < 8) : (lineB c.net.receivers[i] ((i : Nat) : Int)).size ≤ 103 := by
  have e1 : (bz (Lib.itoa ((i : Nat) : Int))).size ≤ 1 := itoa_sz (k := 0) (by omega) (by show _ < 10; omega)
  have e2 := slB_size (net_rec hn hi)
  have e3 : (⟨#[32]⟩ : ByteArray).size = 1 := rfl
  have e4 : (⟨#[10]⟩ : ByteArray).size = 1 := rfl
  unfold lineB
  simp only [ByteArray.size_append]; omega
theorem conT_size {c : Console} (hn : goodNet c.net = true) (h2 : 0 ≤ c.log.count) (h3 : c.log.count ≤ 60) : ∀ k, k ≤ (lvs c.net.tree.parent).length → (conT c k).size ≤ 90 + 103 * k
  | 0, _ => by
    obtain ⟨g1, g2, -, -⟩ := goodNet_iff.1 hn
    have := src_clk g2
    exact conH_size (goodT g1) this.1 this.2 h2 h3
  | k + 1, hk => by
    obtain ⟨g1, -, gl, -⟩ := goodNet_iff.1 hn
    obtain ⟨-, q2, -, -⟩ := lensN_iff.1 gl
    have g8 := (goodT g1).n1
    obtain ⟨i, hi, e, -⟩ := lvs_lt (show k < (lvs c.net.tree.parent).length by omega)
    have ih := conT_size hn h2 h3 k (by omega)
    have := line_size hn (show i < c.net.receivers.length by omega) (by omega)
    rw [conT_succ (by omega), e, recAt_at (by omega), ByteArray.size_append]
    omega
end Go.Proofs.YtccmhdheoeglmaaGreatDoor
/- Structs of type Packet in a walk's state: opened, closed. -/
namespace Go.Proofs.YtccmhdheoeglmaaGreatDoor
open Go.RowKit
section
variable {c : Cx} {fr : Fr} {H : List Pc} {Φ : Gl}
theorem atPacket {a : Option Addr} {n cp : Nat} {xs : List Packet} {F : List Nat} (i : Nat) (h : ∀ (hi : i < xs.length) (b o : Nat), a = some ⟨b, o, none⟩ → xs[i].data.size ≤ maxLen → T c fr (.cel b (o + i * 5) [.int .i64 xs[i].kind, .int .i64 xs[i].number, .int .i64 xs[i].trail, .int .i64 xs[i].lead, .string xs[i].data] :: H) Φ) (hm : .sl EPacket (.slice a n cp) xs F ∈ H := by (repeat (first | exact .head _ | apply List.Mem.tail)); first | done | fail) (hi : i < xs.length := by omega) : T c fr H Φ := .mk fun ac w s g => by
  obtain ⟨b, o, cs, G, ha, hrep, hG, hb, hne, hr⟩ := sl_at (s.get hm) i hi
  obtain ⟨rfl, s1, rfl⟩ := hrep
  exact (h hi b o  ha s1 ).h ac w (s.ro hm rfl rfl ⟨hne, hr⟩ (by intro x hx; simp [Pc.F] at hx; subst hx; exact hb)) g
end
end Go.Proofs.YtccmhdheoeglmaaGreatDoor
/- Valid packets, on both sides. -/
namespace Go.Proofs.YtccmhdheoeglmaaGreatDoor
open Go.RowKit
set_option maxRecDepth 100000 in
theorem IsValidPacket_f (p : Packet) (hs : p.data.size ≤ maxLen) : Fn Tryz.prog 170 [.agg #[.int .i64 p.kind, .int .i64 p.number, .int .i64 p.trail, .int .i64 p.lead, .string p.data]] [] [] (fun (_ : Unit) => True) (fun _ => .bool (goodPk p)) (fun _ => []) := by
  refine enter Tryz.func170 rfl Tryz.ntmps170 fun w0 => ?_
  refine go ?_; intros
  refine ce (fun w s => within_c _ _ _ _) ?_
  cases g1 : btw 1 p.kind 5
  · refine go ?_; intros
    refine ret () trivial ?_
    show Value.bool _ = Value.bool _; congr 1; unfold goodPk; simp [g1]
  refine go ?_; intros
  refine ce (fun w s => IsSerial_c _ _) ?_
  cases g2 : isSer p.number
  · refine go ?_; intros
    refine ret () trivial ?_
    show Value.bool _ = Value.bool _; congr 1; unfold goodPk; simp [g2]
  refine go ?_; intros
  refine ce (fun w s => IsSerial_c _ _) ?_
  cases g3 : isSer p.trail
  · refine go ?_; intros
    refine ret () trivial ?_
    show Value.bool _ = Value.bool _; congr 1; unfold goodPk; simp [g3]
  refine go ?_; intros
  refine ce (fun w s => IsSerial_c _ _) ?_
  cases g4 : isSer p.lead
  · refine go ?_; intros
    refine ret () trivial ?_
    show Value.bool _ = Value.bool _; congr 1; unfold goodPk; simp [g4]
  refine go ?_; intros
  refine cb (fun w s => isItem_c _ _ hs) ?_
  cases g5 : itm p.data
  · refine go ?_; intros
    refine ret () trivial ?_
    show Value.bool _ = Value.bool _; congr 1; unfold goodPk; simp [g5]
  obtain ⟨t0, t1⟩ := isSer_iff.1 g3
  obtain ⟨l0, l1⟩ := isSer_iff.1 g4
  refine go ?_; intros
  refine ce (fun w s => gap_c _ _ _ (by omega) (by omega) (by omega) (by omega)) ?_
  refine go ?_; intros
  refine wg_if rfl rfl (fun h6 => ?_) (fun h6 => ?_)
  · refine go ?_; intros
    refine wg_if rfl rfl (fun h7 => ?_) (fun h7 => ?_)
    · refine go ?_; intros
      refine ret () trivial ?_
      show Value.bool _ = Value.bool _; congr 1; unfold goodPk; rw [g1, g2, g3, g4, g5, decide_eq_true h6, decide_eq_true h7]; rfl
    refine go ?_; intros
    refine wg_if rfl rfl (fun h8 => ?_) (fun h8 => ?_)
    · refine go ?_; intros
      refine ret () trivial ?_
      show Value.bool _ = Value.bool _; congr 1; unfold goodPk; rw [g1, g2, g3, g4, g5, decide_eq_true h6, decide_eq_true h8]; simp
    · refine go ?_; intros
      refine ret () trivial ?_
      show Value.bool _ = Value.bool _; congr 1; unfold goodPk; rw [g1, g2, g3, g4, g5, decide_eq_true h6, decide_eq_false h7, decide_eq_false h8]; rfl
  · refine go ?_; intros
    refine ret () trivial ?_
    show Value.bool _ = Value.bool _; congr 1; unfold goodPk; simp [h6]
set_option maxRecDepth 100000 in
theorem l4Good_f (p : Packet) (hs : p.data.size ≤ maxLen) : Fn Tryz.prog 201 [.agg #[.int .i64 p.kind, .int .i64 p.number, .int .i64 p.trail, .int .i64 p.lead, .string p.data]] [] [] (fun (_ : Unit) => True) (fun _ => .bool (goodPk p)) (fun _ => []) := by
  refine enter Tryz.func201 rfl Tryz.ntmps201 fun w0 => ?_
  refine go ?_; intros
  refine ce (fun w s => l1In_c _ _ _ _) ?_
  cases g1 : btw 1 p.kind 5
  · refine go ?_; intros
    refine ret () trivial ?_
    show Value.bool _ = Value.bool _; congr 1; unfold goodPk; simp [g1]
  refine go ?_; intros
  refine ce (fun w s => l2Good_c _ _) ?_
  cases g2 : isSer p.number
  · refine go ?_; intros
    refine ret () trivial ?_
    show Value.bool _ = Value.bool _; congr 1; unfold goodPk; simp [g2]
  refine go ?_; intros
  refine ce (fun w s => l2Good_c _ _) ?_
  cases g3 : isSer p.trail
  · refine go ?_; intros
    refine ret () trivial ?_
    show Value.bool _ = Value.bool _; congr 1; unfold goodPk; simp [g3]
  refine go ?_; intros
  refine ce (fun w s => l2Good_c _ _) ?_
  cases g4 : isSer p.lead
  · refine go ?_; intros
    refine ret () trivial ?_
    show Value.bool _ = Value.bool _; congr 1; unfold goodPk; simp [g4]
  obtain ⟨t0, t1⟩ := isSer_iff.1 g3
  obtain ⟨l0, l1⟩ := isSer_iff.1 g4
  refine go ?_; intros
  refine ce (fun w s => l2Gap_c _ _ _ (by omega) (by omega)) ?_
  refine go ?_; intros
  refine wg_if rfl rfl (fun h6 => ?_) (fun h6 => ?_)
  · refine go ?_; intros
    refine ret () trivial ?_
    have h6 : ¬ gp p.trail p.lead ≤ 32767 := by omega
    show Value.bool _ = Value.bool _; congr 1; unfold goodPk; simp [h6]
  have h6 : gp p.trail p.lead ≤ 32767 := by omega
  refine go ?_; intros
  refine ce (fun w s => l4Letters_c _ _ _ hs) ?_
  rw [show (decide ((p.data.size : Int) ≤ 8) && lows p.data.data.toList) = itm p.data from rfl]
  cases g5 : itm p.data
  · refine go ?_; intros
    refine ret () trivial ?_
    show Value.bool _ = Value.bool _; congr 1; unfold goodPk; simp [g5]
  refine go ?_; intros
  refine wg_if rfl rfl (fun h7 => ?_) (fun h7 => ?_)
  · refine go ?_; intros
    refine ret () trivial ?_
    show Value.bool _ = Value.bool _; congr 1; unfold goodPk; rw [g1, g2, g3, g4, g5, decide_eq_true h6, decide_eq_true h7]; rfl
  refine go ?_; intros
  refine wg_if rfl rfl (fun h8 => ?_) (fun h8 => ?_)
  · refine go ?_; intros
    refine ret () trivial ?_
    show Value.bool _ = Value.bool _; congr 1; unfold goodPk; rw [g1, g2, g3, g4, g5, decide_eq_true h6, decide_eq_true h8]; simp
  · refine go ?_; intros
    refine ret () trivial ?_
    show Value.bool _ = Value.bool _; congr 1; unfold goodPk; rw [g1, g2, g3, g4, g5, decide_eq_true h6, decide_eq_false h7, decide_eq_false h8]; rfl
end Go.Proofs.YtccmhdheoeglmaaGreatDoor
/- A call that reads what is owned, and gives new pieces. -/
namespace Go.Proofs.YtccmhdheoeglmaaGreatDoor
open Go.RowKit
section
variable {c : Cx} {fr : Fr} {H : List Pc} {d : Nat} {Φ : Gl}
/-- what every element of a slice has -/
theorem t_each {α : Type} {E : Elem α} (Q : α → Prop) (hQ : ∀ w cs x F, E.rep w cs x F → Q x) {a : Option Addr} {n cp : Nat} {xs : List α} {F : List Nat} (h : (∀ x ∈ xs, Q x) → T c fr H Φ) (hm : .sl E (.slice a n cp) xs F ∈ H := by (repeat (first | exact .head _ | apply List.Mem.tail)); first | done | fail) : T c fr H Φ := .mk fun ac w s g =>
  (h fun x hx => by
    obtain ⟨k, hk, rfl⟩ := List.getElem_of_mem hx
    obtain ⟨-, hs⟩ := s.get hm
    obtain ⟨-, -, cs, F1, -, h1, -, -⟩ := hs.at k hk
    exact hQ _ _ _ _ h1).h ac w s g
end
end Go.Proofs.YtccmhdheoeglmaaGreatDoor
/- Structs of type Element in a walk's state: opened, closed. -/
namespace Go.Proofs.YtccmhdheoeglmaaGreatDoor
open Go.RowKit
section
variable {c : Cx} {fr : Fr} {H : List Pc} {Φ : Gl}
theorem openElement {v : Value} {x : Element} {F : List Nat} (h : ∀ (a1 : Option Addr) (c1 : Nat) (F1 : List Nat), v = .agg #[.int .i64 x.clock, .slice a1 x.entries.length c1] → x.entries.length ≤ maxLen → T c fr (.sl EEntry (.slice a1 x.entries.length c1) x.entries F1 :: H) Φ) (hm : .isv EElement v x F ∈ H := by (repeat (first | exact .head _ | apply List.Mem.tail)); first | done | fail) : T c fr H Φ := .mk fun a w s g => by
  obtain ⟨cs, rfl, v1, rfl, h1⟩ := s.get hm
  obtain ⟨a1, c1, rfl⟩ := h1.slice; have l1 := h1.len
  have t1 := s.ro (p := .sl EEntry (.slice a1 x.entries.length c1) x.entries F) hm rfl rfl ⟨by decide, h1⟩ fun b hb => hb
  exact (h a1 c1 F rfl  l1).h a w t1 g
theorem closeElement (x : Element) {a1 : Option Addr} {c1 : Nat} {F1 : List Nat}  (h : T c fr (.isv EElement (.agg #[.int .i64 x.clock, .slice a1 x.entries.length c1]) x (F1) :: H) Φ) (m1 : .sl EEntry (.slice a1 x.entries.length c1) x.entries F1 ∈ H := by (repeat (first | exact .head _ | apply List.Mem.tail)); first | done | fail) : T c fr H Φ := .mk fun a w s g => by
  have hP : IsV EElement w (.agg #[.int .i64 x.clock, .slice a1 x.entries.length c1]) x (F1) := ⟨_, rfl, _, rfl, (s.get m1).2⟩
  refine h.h a w (s.add (N := [.isv EElement (.agg #[.int .i64 x.clock, .slice a1 x.entries.length c1]) x (F1)]) (Below.refl _ _) (by intro q hq; simp at hq; subst hq; exact hP) ⟨by simp, trivial⟩ fun q hq b hb => ?_) g
  simp at hq; subst hq
  simp only [Pc.F, List.mem_append] at hb
  exact .inr ⟨rfl, _, m1, rfl, hb⟩
theorem atElement {a : Option Addr} {n cp : Nat} {xs : List Element} {F : List Nat} (i : Nat) (h : ∀ (hi : i < xs.length) (b o : Nat) (a1 : Option Addr) (c1 : Nat) (F1 : List Nat), a = some ⟨b, o, none⟩ → xs[i].entries.length ≤ maxLen → T c fr (.cel b (o + i * 2) [.int .i64 xs[i].clock, .slice a1 xs[i].entries.length c1] :: .sl EEntry (.slice a1 xs[i].entries.length c1) xs[i].entries F1 :: H) Φ) (hm : .sl EElement (.slice a n cp) xs F ∈ H := by (repeat (first | exact .head _ | apply List.Mem.tail)); first | done | fail) (hi : i < xs.length := by omega) : T c fr H Φ := .mk fun ac w s g => by
  obtain ⟨b, o, cs, G, ha, hrep, hG, hb, hne, hr⟩ := sl_at (s.get hm) i hi
  obtain ⟨v1, rfl, h1⟩ := hrep
  obtain ⟨a1, c1, rfl⟩ := h1.slice; have l1 := h1.len
  have t1 := s.ro (p := .sl EEntry (.slice a1 xs[i].entries.length c1) xs[i].entries G) hm rfl rfl ⟨by decide, h1⟩ (by intro b hb; simp only [Pc.F] at hb ⊢; exact hG b (by simp [hb]))
  exact (h hi b o a1 c1 G ha  l1).h ac w (t1.ro (List.mem_cons_of_mem _ hm) rfl rfl ⟨hne, hr⟩ (by intro x hx; simp [Pc.F] at hx; subst hx; exact hb)) g
end
end Go.Proofs.YtccmhdheoeglmaaGreatDoor
/- Nets: queues that are valid, zero elements. -/
namespace Go.Proofs.YtccmhdheoeglmaaGreatDoor
open Go.RowKit
def okQ (up : Bool) (p : Packet) : Bool := goodPk p && (!up || decide (p.kind = 3))
theorem okQ_all (up : Bool) (l : List Packet) : (l.all (okQ up) && decide (l.length ≤ 6)) = (goodQ l && (!up || upQ l)) := by
  have h : l.all (okQ up) = (l.all goodPk && (!up || upQ l)) := by
    unfold upQ okQ
    induction l with
    | nil => cases up <;> rfl
    | cons p l ih =>
      simp only [List.all_cons, ih]
      cases goodPk p <;> cases up <;> cases decide (p.kind = 3) <;> cases l.all goodPk <;> simp
  rw [h]
  unfold goodQ
  cases decide (l.length ≤ 6) <;> cases l.all goodPk <;> simp
theorem okQ_no {up : Bool} {l : List Packet} {k : Nat} (h : k < l.length) (hp : okQ up l[k] = false) : (goodQ l && (!up || upQ l)) = false := by
  rw [← okQ_all, show l.all (okQ up) = false from List.all_eq_false.2 ⟨l[k], List.getElem_mem h, by simp [hp]⟩]; rfl
set_option maxRecDepth 100000 in
theorem l15Queue_f (l : List Packet) (up : Bool) (a : Option Addr) (c : Nat) (F : List Nat) (hl : l.length ≤ 9223372036854775807) : Fn Tryz.prog 157 [.slice a l.length c, .bool up] [.sl EPacket (.slice a l.length c) l F] [] (fun (_ : Unit) => True) (fun _ => .bool (goodQ l && (!up || upQ l))) (fun _ => []) := by
  refine enter Tryz.func157 rfl Tryz.ntmps157 fun w0 => ?_
  refine go ?_; intros
  refine c_loopR [0, 1, 4] (fun k : Nat => [(5, .int .i64 (k : Nat))]) (fun k => k ≤ l.length ∧ ∀ j, j < k → ∀ h : j < l.length, okQ up l[j] = true) (fun k => l.length - k) 0 ⟨Nat.zero_le _, fun j h => by omega⟩ fun k hk => ?_
  obtain ⟨hk1, hk2⟩ := hk
  refine go ?_; intros
  refine c_if rfl (fun h1 => ?_) (fun h1 => ?_)
  · have hh : k < l.length := by omega
    refine atPacket (xs := l) k ?_
    rintro hi b o e1 s1
    rw [e1]
    refine go ?_; intros
    refine cf (l4Good_f l[k] s1) fun _ _ => ?_
    refine t_app ?_
    cases g : goodPk l[k]
    · rw [okQ_no hh (by unfold okQ; rw [g]; rfl)]
      refine go ?_; intros
      refine ret () trivial rfl
    cases up
    · refine go ?_; intros
      refine n_lp (k + 1) ⟨hh, fun j hj h => ?_⟩ (by show l.length - (k + 1) < l.length - k; omega)
      rcases Nat.lt_or_eq_of_le (Nat.lt_succ_iff.1 hj) with h' | rfl
      · exact hk2 j h' h
      · unfold okQ; rw [g]; rfl
    · refine go ?_; intros
      refine c_if rfl (fun h3 => ?_) (fun h3 => ?_)
      · rw [okQ_no hh (by unfold okQ; rw [g, decide_eq_false h3]; rfl)]
        refine go ?_; intros
        refine ret () trivial rfl
      · refine go ?_; intros
        refine n_lp (k + 1) ⟨hh, fun j hj h => ?_⟩ (by show l.length - (k + 1) < l.length - k; omega)
        rcases Nat.lt_or_eq_of_le (Nat.lt_succ_iff.1 hj) with h' | rfl
        · exact hk2 j h' h
        · unfold okQ; rw [g, decide_eq_true (by omega)]; rfl
  · obtain rfl : k = l.length := by omega
    refine go ?_; intros
    refine ret () trivial ?_
    rw [← okQ_all, show l.all (okQ up) = true from List.all_eq_true.2 fun p hp => by obtain ⟨j, hj, rfl⟩ := List.getElem_of_mem hp; exact hk2 j hj hj, Bool.true_and]
    by_cases h6 : l.length ≤ 6
    · rw [decide_eq_true h6, decide_eq_true (by omega)]; rfl
    · rw [decide_eq_false h6, decide_eq_false (by omega)]; rfl
theorem isZeroElement_f (e : Element) (v : Value) (F : List Nat) : Fn Tryz.prog 124 [v] [.isv EElement v e F] [] (fun (_ : Unit) => True) (fun _ => .bool (zElem e)) (fun _ => []) := by
  refine enter Tryz.func124 rfl Tryz.ntmps124 fun w0 => ?_
  refine openElement ?_
  rintro a1 c1 F1 rfl l1
  refine go ?_; intros
  refine wg_if rfl rfl (fun h1 => ?_) (fun h1 => ?_)
  · refine go ?_; intros
    refine ret () trivial ?_
    unfold zElem
    rw [decide_eq_true h1, Bool.true_and]
    by_cases h : e.entries.length = 0
    · rw [decide_eq_true h, decide_eq_true (by omega)]; rfl
    · rw [decide_eq_false h, decide_eq_false (by omega)]; rfl
  · refine go ?_; intros
    refine ret () trivial ?_
    unfold zElem
    rw [decide_eq_false h1]; rfl
end Go.Proofs.YtccmhdheoeglmaaGreatDoor
/- Structs of type Tree in a walk's state: opened, closed. -/
namespace Go.Proofs.YtccmhdheoeglmaaGreatDoor
open Go.RowKit
section
variable {c : Cx} {fr : Fr} {H : List Pc} {Φ : Gl}
theorem openTree {v : Value} {x : Tree} {F : List Nat} (h : ∀ (a1 : Option Addr) (c1 : Nat) (F1 : List Nat), v = .agg #[.slice a1 x.parent.length c1] → x.parent.length ≤ maxLen → T c fr (.sl EInt (.slice a1 x.parent.length c1) x.parent F1 :: H) Φ) (hm : .isv ETree v x F ∈ H := by (repeat (first | exact .head _ | apply List.Mem.tail)); first | done | fail) : T c fr H Φ := .mk fun a w s g => by
  obtain ⟨cs, rfl, v1, rfl, h1⟩ := s.get hm
  obtain ⟨a1, c1, rfl⟩ := h1.slice; have l1 := h1.len
  have t1 := s.ro (p := .sl EInt (.slice a1 x.parent.length c1) x.parent F) hm rfl rfl ⟨by decide, h1⟩ fun b hb => hb
  exact (h a1 c1 F rfl  l1).h a w t1 g
theorem closeTree (x : Tree) {a1 : Option Addr} {c1 : Nat} {F1 : List Nat}  (h : T c fr (.isv ETree (.agg #[.slice a1 x.parent.length c1]) x (F1) :: H) Φ) (m1 : .sl EInt (.slice a1 x.parent.length c1) x.parent F1 ∈ H := by (repeat (first | exact .head _ | apply List.Mem.tail)); first | done | fail) : T c fr H Φ := .mk fun a w s g => by
  have hP : IsV ETree w (.agg #[.slice a1 x.parent.length c1]) x (F1) := ⟨_, rfl, _, rfl, (s.get m1).2⟩
  refine h.h a w (s.add (N := [.isv ETree (.agg #[.slice a1 x.parent.length c1]) x (F1)]) (Below.refl _ _) (by intro q hq; simp at hq; subst hq; exact hP) ⟨by simp, trivial⟩ fun q hq b hb => ?_) g
  simp at hq; subst hq
  simp only [Pc.F, List.mem_append] at hb
  exact .inr ⟨rfl, _, m1, rfl, hb⟩
end
end Go.Proofs.YtccmhdheoeglmaaGreatDoor
/- The first elements that satisfy a test: how many; plain. -/
namespace Go.Proofs.YtccmhdheoeglmaaGreatDoor
end Go.Proofs.YtccmhdheoeglmaaGreatDoor
/- Walks of Go's generic library functions on slices of int. Written by wip/genlib.py. -/
namespace Go.Proofs.YtccmhdheoeglmaaGreatDoor
open Go.RowKit
end Go.Proofs.YtccmhdheoeglmaaGreatDoor
/- Walks of the reference's small functions on slices of numbers. -/
namespace Go.Proofs.YtccmhdheoeglmaaGreatDoor
open Go.RowKit
end Go.Proofs.YtccmhdheoeglmaaGreatDoor
/- Walks: copies of an element. -/
namespace Go.Proofs.YtccmhdheoeglmaaGreatDoor
open Go.RowKit
end Go.Proofs.YtccmhdheoeglmaaGreatDoor
/- Walks: the reference's copy of an element. -/
namespace Go.Proofs.YtccmhdheoeglmaaGreatDoor
open Go.RowKit
end Go.Proofs.YtccmhdheoeglmaaGreatDoor
/- Walks: a tick of an element. -/
namespace Go.Proofs.YtccmhdheoeglmaaGreatDoor
open Go.RowKit
end Go.Proofs.YtccmhdheoeglmaaGreatDoor
/- Walks: TickElement, the program's and the reference's. -/
namespace Go.Proofs.YtccmhdheoeglmaaGreatDoor
open Go.RowKit
end Go.Proofs.YtccmhdheoeglmaaGreatDoor
/- Elements: what requests and repairs bring; plain laws. -/
namespace Go.Proofs.YtccmhdheoeglmaaGreatDoor
open Go.RowKit
end Go.Proofs.YtccmhdheoeglmaaGreatDoor
/- Lists of numbers: searching, inserting, what is there. -/
namespace Go.Proofs.YtccmhdheoeglmaaGreatDoor
open Go.RowKit

theorem idxI_f (xs : List Int) (n : Int) (a : Option Addr) (c : Nat) (F : List Nat) : Fn Tryz.prog 131 [.slice a xs.length c, .int .i64 n] [.sl EInt (.slice a xs.length c) xs F] [] (fun (_ : Unit) => True) (fun _ => .int .i64 (fidx (fun x => x == n) xs)) (fun _ => []) := by
  refine enter Tryz.func131 rfl Tryz.ntmps131 fun w0 => ?_
  refine t_sl (xs := xs) ?_
  rintro _ _ - l2 l3
  refine go ?_; intros
  refine c_loopR [0, 1, 4, 7] (fun k : Nat => [(8, .int .i64 (k : Nat))]) (fun k => k ≤ xs.length ∧ ∀ j (_ : j < k) (hj : j < xs.length), (xs[j] == n) = false) (fun k => xs.length - k) 0 ⟨Nat.zero_le _, fun j h => by omega⟩ fun k hk => ?_
  obtain ⟨hk1, hk2⟩ := hk
  refine go ?_; intros
  refine c_if rfl (fun h1 => ?_) (fun h1 => ?_)
  · have hh : k < xs.length := by omega
    refine go ?_; intros
    refine at_int (xs := xs) k ?_
    rintro hi b o e1
    rw [e1]
    refine go ?_; intros
    refine c_if rfl (fun h2 => ?_) (fun h2 => ?_)
    · refine go ?_; intros
      refine ret () trivial ?_
      rw [fidx_hit hh hk2 (by simpa using h2.symm)]; rfl
    · refine go ?_; intros
      refine n_lp (k + 1) ⟨hh, fun j hj hl => ?_⟩ (by omega)
      rcases Nat.lt_or_eq_of_le (Nat.lt_succ_iff.1 hj) with h | rfl
      · exact hk2 j h hl
      · simpa using fun e => h2 e.symm
  · obtain rfl : k = xs.length := by omega
    refine go ?_; intros
    refine ret () trivial ?_
    rw [fidx_none (fun j hj => hk2 j hj hj)]; rfl
theorem any_mem (l : List Int) (n : Int) : (l.any fun x => x == n) = decide (n ∈ l) := by
  rw [Bool.eq_iff_iff, List.any_eq_true, decide_eq_true_eq]
  exact ⟨fun ⟨x, hx, h⟩ => by simp at h; exact h ▸ hx, fun h => ⟨n, h, by simp⟩⟩
theorem conI_f (xs : List Int) (n : Int) (a : Option Addr) (c : Nat) (F : List Nat) : Fn Tryz.prog 78 [.slice a xs.length c, .int .i64 n] [.sl EInt (.slice a xs.length c) xs F] [] (fun (_ : Unit) => True) (fun _ => .bool (decide (n ∈ xs))) (fun _ => []) := by
  refine enter Tryz.func78 rfl Tryz.ntmps78 fun w0 => ?_
  refine go ?_; intros
  refine cf (idxI_f xs n _ _ F) fun _ _ => ?_
  refine t_app ?_
  refine go ?_; intros
  refine ret () trivial ?_
  rw [fidx_any, any_mem]; rfl

end Go.Proofs.YtccmhdheoeglmaaGreatDoor
/- Trees: valid ones, children, leaves; both sides. -/
namespace Go.Proofs.YtccmhdheoeglmaaGreatDoor
open Go.RowKit
set_option maxRecDepth 100000 in
theorem IsValidTree_f (t : Tree) (v : Value) (F : List Nat) : Fn Tryz.prog 50 [v] [.isv ETree v t F] [] (fun (_ : Unit) => True) (fun _ => .bool (goodTree t)) (fun _ => []) := by
  refine enter Tryz.func50 rfl Tryz.ntmps50 fun w0 => ?_
  refine openTree ?_
  rintro a1 c1 F1 rfl l1
  unfold maxLen at l1
  refine go ?_; intros
  refine c_loopR [1, 2, 6, 7] (fun k : Nat => [(8, .int .i64 (k : Nat))]) (fun k => k ≤ t.parent.length ∧ ∀ j, j < k → parAt t.parent j = true) (fun k => t.parent.length - k) 0 ⟨Nat.zero_le _, fun j h => by omega⟩ fun k hk => ?_
  obtain ⟨hk1, hk2⟩ := hk
  refine go ?_; intros
  refine c_if rfl (fun h1 => ?_) (fun h1 => ?_)
  · have hh : k < t.parent.length := by omega
    refine at_int (xs := t.parent) k ?_
    rintro hi b o e1
    rw [e1]
    refine go ?_; intros
    refine wg_if rfl rfl (fun h2 => ?_) (fun h2 => ?_)
    · obtain rfl : k = 0 := by omega
      refine go ?_; intros
      refine wg_if rfl rfl (fun h3 => ?_) (fun h3 => ?_)
      · refine go ?_; intros
        rw [goodT_at hh (by rw [parAt_zero hh]; exact decide_eq_false h3)]
        refine ret () trivial rfl
      · refine go ?_; intros
        refine n_lp 1 ⟨hh, fun j hj => by obtain rfl : j = 0 := (by omega); rw [parAt_zero hh]; exact decide_eq_true (by omega)⟩ (by show t.parent.length - 1 < t.parent.length - 0; omega)
    · refine go ?_; intros
      refine wg_if rfl rfl (fun h3 => ?_) (fun h3 => ?_)
      · refine go ?_; intros
        refine ce (fun w s => within_c _ _ _ w) ?_
        cases g : btw 0 t.parent[k] ((k : Int) - 1)
        · refine go ?_; intros
          rw [goodT_at hh (by rw [parAt_pos hh (by omega)]; exact g)]
          refine ret () trivial rfl
        · refine go ?_; intros
          refine n_lp (k + 1) ⟨hh, fun j hj => ?_⟩ (by show t.parent.length - (k + 1) < t.parent.length - k; omega)
          rcases Nat.lt_or_eq_of_le (Nat.lt_succ_iff.1 hj) with h | rfl
          · exact hk2 j h
          · rw [parAt_pos hh (by omega)]; exact g
      · exact absurd h3 (by omega)
  · obtain rfl : k = t.parent.length := by omega
    refine go ?_; intros
    refine ce (fun w s => within_c _ _ _ w) ?_
    refine go ?_; intros
    refine ret () trivial ?_
    unfold goodTree
    rw [allUpTo_yes hk2, Bool.and_true]; rfl
set_option maxRecDepth 100000 in
theorem l6Good_f (t : Tree) (v : Value) (F : List Nat) : Fn Tryz.prog 47 [v] [.isv ETree v t F] [] (fun (_ : Unit) => True) (fun _ => .bool (goodTree t)) (fun _ => []) := by
  refine enter Tryz.func47 rfl Tryz.ntmps47 fun w0 => ?_
  refine openTree ?_
  rintro a1 c1 F1 rfl l1
  unfold maxLen at l1
  refine go ?_; intros
  refine ce (fun w s => l1In_c _ _ _ w) ?_
  cases g0 : btw 2 (t.parent.length : Int) 8
  · rw [goodT_len g0]
    refine go ?_; intros
    refine ret () trivial rfl
  have hb : 2 ≤ t.parent.length ∧ t.parent.length ≤ 8 := by
    unfold btw at g0
    simp only [Bool.and_eq_true, decide_eq_true_eq] at g0
    omega
  have h0 : 0 < t.parent.length := by omega
  refine at_int (xs := t.parent) 0 ?_
  rintro hi b o e1
  rw [e1]
  refine go ?_; intros
  refine c_if rfl (fun h2 => ?_) (fun h2 => ?_)
  · refine go ?_; intros
    rw [goodT_at h0 (by rw [parAt_zero h0]; exact decide_eq_false h2)]
    refine ret () trivial rfl
  refine go ?_; intros
  refine c_loopR [1, 2, 3] (fun k : Nat => [(4, .int .i64 ((k + 1 : Nat) : Int))]) (fun k => k + 1 ≤ t.parent.length ∧ ∀ j, j < k + 1 → parAt t.parent j = true) (fun k => t.parent.length - k) 0 ⟨by omega, fun j h => by obtain rfl : j = 0 := (by omega); rw [parAt_zero h0]; exact decide_eq_true (by omega)⟩ fun k hk => ?_
  obtain ⟨hk1, hk2⟩ := hk
  refine go ?_; intros
  refine c_if rfl (fun h1 => ?_) (fun h1 => ?_)
  · have hh : k + 1 < t.parent.length := by omega
    refine at_int (a := some ⟨b, o, none⟩) (xs := t.parent) (k + 1) ?_
    rintro hi2 _ _ e2
    cases e2
    refine go ?_; intros
    refine ce (fun w s => l1In_c _ _ _ w) ?_
    cases g : btw 0 t.parent[k + 1] (((k + 1 : Nat) : Int) - 1)
    · refine go ?_; intros
      rw [goodT_at hh (by rw [parAt_pos hh (by omega)]; exact g)]
      refine ret () trivial rfl
    · refine go ?_; intros
      refine n_lp (k + 1) ⟨hh, fun j hj => ?_⟩ (by show t.parent.length - (k + 1) < t.parent.length - k; omega)
      rcases Nat.lt_or_eq_of_le (Nat.lt_succ_iff.1 hj) with h | rfl
      · exact hk2 j h
      · rw [parAt_pos hh (by omega)]; exact g
  · have hk : k + 1 = t.parent.length := by omega
    refine go ?_; intros
    refine ret () trivial ?_
    unfold goodTree
    rw [g0, allUpTo_yes (fun j hj => hk2 j (by omega))]; rfl
end Go.Proofs.YtccmhdheoeglmaaGreatDoor
/- Structs of type Entry in a walk's state: opened, closed. -/
namespace Go.Proofs.YtccmhdheoeglmaaGreatDoor
open Go.RowKit
section
variable {c : Cx} {fr : Fr} {H : List Pc} {Φ : Gl}
end
end Go.Proofs.YtccmhdheoeglmaaGreatDoor
/- Slices whose elements have blocks of their own: their cells and what stands behind them, told apart. Plain: no program in sight. -/
namespace Go.Proofs.YtccmhdheoeglmaaGreatDoor
open Go.RowKit
section
variable {c : Cx} {fr : Fr} {H : List Pc} {Φ : Gl}
/-! the same for slices that read -/
end
end Go.Proofs.YtccmhdheoeglmaaGreatDoor
/- Elements: finding, lists of numbers. -/
namespace Go.Proofs.YtccmhdheoeglmaaGreatDoor
open Go.RowKit
end Go.Proofs.YtccmhdheoeglmaaGreatDoor
/- Elements: a number put to its place. -/
namespace Go.Proofs.YtccmhdheoeglmaaGreatDoor
open Go.RowKit
theorem rep_i (n : Int) (w : World) : Flat EInt w [.int .i64 n] [n] [] := ⟨_, [], [], [], by simp, by simp, ⟨rfl, rfl⟩, rfl, rfl⟩
end Go.Proofs.YtccmhdheoeglmaaGreatDoor
/- Trees: children and leaves; both sides. -/
namespace Go.Proofs.YtccmhdheoeglmaaGreatDoor
open Go.RowKit
structure KiS where
  k : Nat
  a : Option Addr
  c : Nat
  F : List Nat
set_option maxRecDepth 100000 in
theorem l6Children_f (t : Tree) (node : Int) (v : Value) (F : List Nat) (hz : kidsTo t.parent node 1 = []) (hl : 1 ≤ t.parent.length ∧ t.parent.length ≤ 1000000) : Fn Tryz.prog 79 [v, .int .i64 node] [.isv ETree v t F] [] (fun (_ : KiS) => True) (fun z => .slice z.a (kids t.parent node).length z.c) (fun z => [.ow EInt 3 (.slice z.a (kids t.parent node).length z.c) (kids t.parent node) z.F]) := by
  refine enter Tryz.func79 rfl Tryz.ntmps79 fun w0 => ?_
  refine openTree ?_
  rintro a1 c1 F1 rfl l1
  unfold maxLen at l1
  refine go ?_; intros
  refine t_emp EInt ?_
  refine c_loopS [1, 2, 4] (fun z : KiS => [(5, .slice z.a (kids1 t.parent node z.k).length z.c), (6, .int .i64 ((z.k + 1 : Nat) : Int))]) (fun z => [.ow EInt 3 (.slice z.a (kids1 t.parent node z.k).length z.c) (kids1 t.parent node z.k) z.F]) (fun z => z.k + 1 ≤ t.parent.length) (fun z => t.parent.length - z.k) ⟨0, _, _, _⟩ hl.1 fun z hz2 => ?_
  have hkl := kids1_len t.parent node z.k
  have hl2 := hl.2
  refine go ?_; intros
  refine c_if rfl (fun h1 => ?_) (fun h1 => ?_)
  · have hh : z.k + 1 < t.parent.length := by omega
    refine at_int (xs := t.parent) (z.k + 1) ?_
    rintro hi b o e1
    rw [e1]
    refine go ?_; intros
    refine c_if rfl (fun h2 => ?_) (fun h2 => ?_)
    · refine goN ?_; intros
      apply wO
      refine ap1 (rep_i _) one_EInt fun a9 c9 F9 => ?_
      refine go ?_; intros
      rw [← kids1_yes hh h2]
      refine n_lp ⟨z.k + 1, a9, c9, F9⟩ (by show z.k + 1 + 1 ≤ t.parent.length; omega) (by show t.parent.length - (z.k + 1) < t.parent.length - z.k; omega)
    · rw [← kids1_no hh h2]
      refine go ?_; intros
      refine n_lp ⟨z.k + 1, z.a, z.c, z.F⟩ (by show z.k + 1 + 1 ≤ t.parent.length; omega) (by show t.parent.length - (z.k + 1) < t.parent.length - z.k; omega)
  · have hk : z.k + 1 = t.parent.length := by omega
    rw [kids1_all hz hk]
    refine go ?_; intros
    refine ret z trivial rfl
theorem isLeaf_f (t : Tree) (node : Int) (v : Value) (F : List Nat) : Fn Tryz.prog 82 [v, .int .i64 node] [.isv ETree v t F] [] (fun (_ : Unit) => True) (fun _ => .bool (leafT t.parent node)) (fun _ => []) := by
  refine enter Tryz.func82 rfl Tryz.ntmps82 fun w0 => ?_
  refine openTree ?_
  rintro a1 c1 F1 rfl l1
  refine go ?_; intros
  refine cf (conI_f t.parent node _ _ F1) fun _ _ => ?_
  refine t_app ?_
  refine go ?_; intros
  refine ret () trivial ?_
  unfold leafT
  rw [← decide_not]; rfl
theorem l15Leaf_f (t : Tree) (node : Int) (v : Value) (F : List Nat) (hg : GoodT t.parent) (h0 : 0 < node) : Fn Tryz.prog 158 [v, .int .i64 node] [.isv ETree v t F] [] (fun (_ : Unit) => True) (fun _ => .bool (leafT t.parent node)) (fun _ => []) := by
  refine enter Tryz.func158 rfl Tryz.ntmps158 fun w0 => ?_
  refine openTree ?_
  rintro a1 c1 F1 rfl l1
  refine go ?_; intros
  refine wg_if rfl rfl (fun h1 => ?_) (fun h1 => ?_)
  · refine go ?_; intros
    refine cf (l6Children_f t node _ F (kids_zero hg.z (by omega)) (by have := hg.n0; have := hg.n1; omega)) fun q _ => ?_
    refine t_app ?_
    refine go ?_; intros
    refine ret () trivial ?_
    rw [leaf_kids]
    by_cases hk : kids t.parent node = []
    · rw [hk]; rfl
    · rw [decide_eq_false hk, decide_eq_false fun e => hk (List.length_eq_zero_iff.1 (by omega))]; rfl
  · exact absurd h0 h1
end Go.Proofs.YtccmhdheoeglmaaGreatDoor
/- Receivers: what stands when a window has moved; plain laws. -/
namespace Go.Proofs.YtccmhdheoeglmaaGreatDoor
open Go.RowKit
theorem next_ser {w : ReceiveWindow} (hg : goodRW w = true) : 0 ≤ w.next ∧ w.next ≤ 65535 := by
  unfold goodRW at hg
  simp only [Bool.and_eq_true] at hg
  exact isSer_iff.1 hg.1.1.1
end Go.Proofs.YtccmhdheoeglmaaGreatDoor
/- Hearing: what a packet changes in a receiver; plain laws. -/
namespace Go.Proofs.YtccmhdheoeglmaaGreatDoor
open Go.RowKit
end Go.Proofs.YtccmhdheoeglmaaGreatDoor
/- Structs of type Request in a walk's state: opened, closed. -/
namespace Go.Proofs.YtccmhdheoeglmaaGreatDoor
open Go.RowKit
section
variable {c : Cx} {fr : Fr} {H : List Pc} {Φ : Gl}
theorem atRequest {a : Option Addr} {n cp : Nat} {xs : List Request} {F : List Nat} (i : Nat) (h : ∀ (hi : i < xs.length) (b o : Nat), a = some ⟨b, o, none⟩ → T c fr (.cel b (o + i * 4) [.int .i64 xs[i].number, .int .i64 xs[i].state, .int .i64 xs[i].untl, .int .i64 xs[i].tries] :: H) Φ) (hm : .sl ERequest (.slice a n cp) xs F ∈ H := by (repeat (first | exact .head _ | apply List.Mem.tail)); first | done | fail) (hi : i < xs.length := by omega) : T c fr H Φ := .mk fun ac w s g => by
  obtain ⟨b, o, cs, G, ha, hrep, hG, hb, hne, hr⟩ := sl_at (s.get hm) i hi
  obtain ⟨rfl, rfl⟩ := hrep
  exact (h hi b o  ha  ).h ac w (s.ro hm rfl rfl ⟨hne, hr⟩ (by intro x hx; simp [Pc.F] at hx; subst hx; exact hb)) g
end
end Go.Proofs.YtccmhdheoeglmaaGreatDoor
/- Requests: the checks. -/
namespace Go.Proofs.YtccmhdheoeglmaaGreatDoor
open Go.RowKit
/-- a slice, its value by parts -/
theorem t_fnsl {P : Program} {f : FuncId} {α : Type} {E : Elem α} {v : Value} {xs : List α} {F : List Nat} {rest : List Value} {A M : List Pc} {σ : Type} {C : σ → Prop} {w : σ → Value} {N : σ → List Pc} (h : ∀ a c, Fn P f (.slice a xs.length c :: rest) (.sl E (.slice a xs.length c) xs F :: A) M C w N) : Fn P f (v :: rest) (.sl E v xs F :: A) M C w N := fun w0 hH hS => by
  obtain ⟨-, hs⟩ := hH (.sl E v xs F) (by simp)
  obtain ⟨a, c, rfl⟩ := hs.slice
  exact h a c w0 hH hS
theorem isRequest_f (r : Request) (base : Int) (b0 : 0 ≤ base) (b1 : base ≤ 65535) : Fn Tryz.prog 212 [.agg #[.int .i64 r.number, .int .i64 r.state, .int .i64 r.untl, .int .i64 r.tries], .int .i64 base] [] [] (fun (_ : Unit) => True) (fun _ => .bool (okReq base r)) (fun _ => []) := by
  refine enter Tryz.func212 rfl Tryz.ntmps212 fun w0 => ?_
  refine go ?_; intros
  refine ce (fun w s => IsSerial_c _ _) ?_
  cases g1 : isSer r.number
  · refine go ?_; intros
    refine ret () trivial ?_
    simp [okReq, g1, tup]
  obtain ⟨n0, n1⟩ := isSer_iff.1 g1
  refine go ?_; intros
  refine ce (fun w s => gap_c _ _ _ (by omega) (by omega) (by omega) (by omega)) ?_
  refine go ?_; intros
  refine wg_if rfl rfl (fun g2 => ?_) (fun g2 => ?_)
  rotate_left
  · refine go ?_; intros
    refine ret () trivial ?_
    simp [okReq, g2, tup]
  refine go ?_; intros
  refine ce (fun w s => within_c _ _ _ _) ?_
  cases g3 : btw 1 r.state 3
  · refine go ?_; intros
    refine ret () trivial ?_
    simp [okReq, g3, tup]
  refine go ?_; intros
  refine ce (fun w s => within_c _ _ _ _) ?_
  cases g4 : btw 0 r.untl 10007
  · refine go ?_; intros
    refine ret () trivial ?_
    simp [okReq, g4, tup]
  refine go ?_; intros
  refine ce (fun w s => within_c _ _ _ _) ?_
  refine go ?_; intros
  refine ret () trivial ?_
  simp [okReq, g1, g2, g3, g4, tup]
set_option maxRecDepth 100000 in
theorem AreRequests_f (l : List Request) (base : Int) (v : Value) (F : List Nat) : Fn Tryz.prog 173 [v, .int .i64 base] [.sl ERequest v l F] [] (fun (_ : Unit) => True) (fun _ => .bool (areQ l base)) (fun _ => []) := by
  refine t_fnsl (fun a c => ?_)
  refine enter Tryz.func173 rfl Tryz.ntmps173 fun w0 => ?_
  refine go ?_; intros
  refine ce (fun w s => IsSerial_c _ _) ?_
  cases g1 : isSer base
  · refine go ?_; intros
    refine ret () trivial ?_
    simp [areQ, g1, tup]
  obtain ⟨b0, b1⟩ := isSer_iff.1 g1
  refine go ?_; intros
  refine c_if rfl (fun g2 => ?_) (fun g2 => ?_)
  · refine go ?_; intros
    refine ret () trivial ?_
    rw [show areQ l base = false by unfold areQ; rw [decide_eq_false (by omega)]; simp]; rfl
  refine go ?_; intros
  refine c_loopR [0, 1, 4, 15, 16] (fun k : Nat => [(17, .int .i64 (k : Nat))]) (fun k => k ≤ l.length ∧ ∀ j, j < k → chkQ l base j = true) (fun k => l.length - k) 0 ⟨Nat.zero_le _, fun j h => by omega⟩ fun k hk => ?_
  obtain ⟨hk1, hk2⟩ := hk
  refine go ?_; intros
  refine c_if rfl (fun h3 => ?_) (fun h3 => ?_)
  · have hk3 : k < l.length := by omega
    have bad : chkQ l base k = false → areQ l base = false := fun h => areQ_no hk3 h
    have hck := chkQ_at (base := base) hk3
    refine atRequest (xs := l) k ?_
    rintro hi b o e
    rw [e]
    have p4 : 0 < k → ∃ h : k - 1 < l.length, OkReq base l[k - 1] := fun h0 => by
      have hk4 : k - 1 < l.length := by omega
      have hp := hk2 (k - 1) (by omega)
      rw [chkQ_at hk4] at hp
      simp only [Bool.and_eq_true] at hp
      exact ⟨hk4, okReq_iff.1 hp.1⟩
    refine go ?_; intros
    cases g4 : okReq base l[k]
    · skip
      refine d_start [0] [] ?_
      refine dt 0 ?_
      refine dt 1 ?_
      refine dO 2 (by kernel_rfl) (by rw [List.getElem?_toArray]; rfl) ?_
      apply o_call; rfl; kernel_rfl; exact evsE
      refine cf (isRequest_f l[k] base b0 b1) fun _ _ => ?_
      refine t_app ?_
      rw [g4]
      refine dk ?_
      refine dt 3 ?_
      refine dt 4 ?_
      refine ds 5 ?_
      refine ds 6 ?_
      refine ds 7 ?_
      refine dsu 8 ?_
      refine dsu 9 ?_
      refine dsu 10 ?_
      refine dsu 11 ?_
      refine dsu 12 ?_
      refine dsu 13 ?_
      refine dsu 14 ?_
      refine dsu 15 ?_
      refine dsu 16 ?_
      refine dsu 17 ?_
      refine dsu 18 ?_
      refine dsu 19 ?_
      refine dsu 20 ?_
      refine ds 21 ?_
      refine dt 22 ?_
      refine dd ?_
      refine go ?_; intros
      refine ret () trivial ?_
      rw [bad (by rw [hck, g4]; rfl)]; rfl
    obtain ⟨q0, q1⟩ := isSer_iff.1 (okReq_iff.1 g4).n
    by_cases hk0 : 0 < k
    · obtain ⟨hk4, p5⟩ := p4 hk0
      obtain ⟨p0, p1⟩ := isSer_iff.1 p5.n
      rw [← e]
      refine atRequest (xs := l) (k - 1) ?_
      rintro hi5 b5 o5 e5
      rw [e5]
      refine d_start [0, 1] [] ?_
      refine dt 0 ?_
      refine dt 1 ?_
      refine dO 2 (by kernel_rfl) (by rw [List.getElem?_toArray]; rfl) ?_
      apply o_call; rfl; kernel_rfl; exact evsE
      refine cf (isRequest_f l[k] base b0 b1) fun _ _ => ?_
      refine t_app ?_
      rw [g4]
      refine dk ?_
      refine dt 3 ?_
      refine dt 4 ?_
      refine dtg 5 ?_
      refine dtg 6 ?_
      rw [decide_eq_true (show (0 : Int) < k by omega)]
      refine dtg 7 ?_
      refine dtg 8 ?_
      refine dtg 9 ?_
      refine dtg 10 ?_
      refine dtg 11 ?_
      rw [show (k : Int) - 1 = ((k - 1 : Nat) : Int) by omega]
      refine dtg 12 ?_
      refine dtg 13 ?_
      refine dtg 14 ?_
      refine dtg 16 ?_
      refine dtg 17 ?_
      refine dtg 18 ?_
      refine d1g 15 ?_
      apply On.h
      apply o_call; rfl; kernel_rfl; exact evsE
      refine ce (fun w s => gap_c _ _ _ (by omega) (by omega) (by omega) (by omega)) ?_
      refine dk ?_
      refine d1g 19 ?_
      apply On.h
      apply o_call; rfl; kernel_rfl; exact evsE
      refine ce (fun w s => gap_c _ _ _ (by omega) (by omega) (by omega) (by omega)) ?_
      refine dk ?_
      refine dtg 20 ?_
      refine dtg 21 ?_
      refine dt 22 ?_
      refine dd ?_
      refine go ?_; intros
      refine c_if rfl (fun h6 => ?_) (fun h6 => ?_)
      · refine go ?_; intros
        refine ret () trivial ?_
        rw [bad (by rw [hck, decide_eq_true h6, decide_eq_false (show ¬ k = 0 by omega)]; simp)]; rfl
      · refine go ?_; intros
        refine n_lp (k + 1) ⟨by omega, fun j hj => ?_⟩ (by omega)
        rcases Nat.lt_or_eq_of_le (Nat.lt_succ_iff.1 hj) with h | rfl
        · exact hk2 j h
        · rw [hck, g4, decide_eq_false h6]; simp
    · have hz : k = 0 := by omega
      refine d_start [0] [] ?_
      refine dt 0 ?_
      refine dt 1 ?_
      refine dO 2 (by kernel_rfl) (by rw [List.getElem?_toArray]; rfl) ?_
      apply o_call; rfl; kernel_rfl; exact evsE
      refine cf (isRequest_f l[k] base b0 b1) fun _ _ => ?_
      refine t_app ?_
      rw [g4]
      refine dk ?_
      refine dt 3 ?_
      refine dt 4 ?_
      refine dtg 5 ?_
      refine dtg 6 ?_
      rw [decide_eq_false (show ¬ (0 : Int) < k by omega)]
      refine dtg 7 ?_
      refine ds 8 ?_
      refine ds 9 ?_
      refine ds 10 ?_
      refine ds 11 ?_
      refine ds 12 ?_
      refine ds 13 ?_
      refine ds 14 ?_
      refine ds 15 ?_
      refine ds 16 ?_
      refine ds 17 ?_
      refine ds 18 ?_
      refine ds 19 ?_
      refine ds 20 ?_
      refine dtg 21 ?_
      refine dt 22 ?_
      refine dd ?_
      refine go ?_; intros
      refine n_lp (k + 1) ⟨by omega, fun j hj => ?_⟩ (by omega)
      rcases Nat.lt_or_eq_of_le (Nat.lt_succ_iff.1 hj) with h | rfl
      · exact hk2 j h
      · rw [hck, g4, decide_eq_true hz]; simp
  have hkl : k = l.length := by omega
  refine go ?_; intros
  refine ret () trivial ?_
  rw [areQ_yes g1 (by omega) (hkl ▸ hk2)]; rfl
set_option maxRecDepth 100000 in
theorem l12Good_f (l : List Request) (base : Int) (v : Value) (F : List Nat) : Fn Tryz.prog 199 [v, .int .i64 base] [.sl ERequest v l F] [] (fun (_ : Unit) => True) (fun _ => .bool (areQ l base)) (fun _ => []) := by
  refine t_fnsl (fun a c => ?_)
  refine enter Tryz.func199 rfl Tryz.ntmps199 fun w0 => ?_
  refine go ?_; intros
  refine ce (fun w s => l2Good_c _ _) ?_
  cases g1 : isSer base
  · refine go ?_; intros
    refine ret () trivial ?_
    simp [areQ, g1, tup]
  obtain ⟨b0, b1⟩ := isSer_iff.1 g1
  refine go ?_; intros
  refine c_if rfl (fun g2 => ?_) (fun g2 => ?_)
  · refine go ?_; intros
    refine ret () trivial ?_
    rw [show areQ l base = false by unfold areQ; rw [decide_eq_false (by omega)]; simp]; rfl
  refine go ?_; intros
  refine c_loopR [0, 1, 4] (fun k : Nat => [(5, .int .i64 (k : Nat))]) (fun k => k ≤ l.length ∧ ∀ j, j < k → chkQ l base j = true) (fun k => l.length - k) 0 ⟨Nat.zero_le _, fun j h => by omega⟩ fun k hk => ?_
  obtain ⟨hk1, hk2⟩ := hk
  refine go ?_; intros
  refine c_if rfl (fun h3 => ?_) (fun h3 => ?_)
  · have hk3 : k < l.length := by omega
    have bad : chkQ l base k = false → areQ l base = false := fun h => areQ_no hk3 h
    have hck := chkQ_at (base := base) hk3
    refine atRequest (xs := l) k ?_
    rintro hi b o e
    rw [e]
    have p4 : 0 < k → ∃ h : k - 1 < l.length, OkReq base l[k - 1] := fun h0 => by
      have hk4 : k - 1 < l.length := by omega
      have hp := hk2 (k - 1) (by omega)
      rw [chkQ_at hk4] at hp
      simp only [Bool.and_eq_true] at hp
      exact ⟨hk4, okReq_iff.1 hp.1⟩
    refine go ?_; intros
    refine ce (fun w s => l2Good_c _ _) ?_
    cases g5 : isSer l[k].number
    · refine go ?_; intros
      refine ret () trivial ?_
      rw [bad (by rw [hck, show okReq base l[k] = false by unfold okReq; simp [g5]]; rfl)]; rfl
    obtain ⟨q0, q1⟩ := isSer_iff.1 g5
    refine go ?_; intros
    refine ce (fun w s => l2Gap_c _ _ _ (by omega) (by omega)) ?_
    refine go ?_; intros
    refine wg_if rfl rfl (fun g6 => ?_) (fun g6 => ?_)
    · refine go ?_; intros
      refine ret () trivial ?_
      rw [bad (by rw [hck, show okReq base l[k] = false by unfold okReq; rw [decide_eq_false (by omega)]; simp]; rfl)]; rfl
    refine go ?_; intros
    refine ce (fun w s => l1In_c _ _ _ _) ?_
    cases g7 : btw 1 l[k].state 3
    · refine go ?_; intros
      refine ret () trivial ?_
      rw [bad (by rw [hck, show okReq base l[k] = false by unfold okReq; simp [g7]]; rfl)]; rfl
    refine go ?_; intros
    refine ce (fun w s => l1In_c _ _ _ _) ?_
    cases g8 : btw 0 l[k].untl 10007
    · refine go ?_; intros
      refine ret () trivial ?_
      rw [bad (by rw [hck, show okReq base l[k] = false by unfold okReq; simp [g8]]; rfl)]; rfl
    refine go ?_; intros
    refine ce (fun w s => l1In_c _ _ _ _) ?_
    cases g9 : btw 0 l[k].tries 3
    · refine go ?_; intros
      refine ret () trivial ?_
      rw [bad (by rw [hck, show okReq base l[k] = false by unfold okReq; simp [g9]]; rfl)]; rfl
    refine go ?_; intros
    have g4 : okReq base l[k] = true := by unfold okReq; rw [g5, g7, g8, g9, decide_eq_true (by omega)]; rfl
    by_cases hk0 : 0 < k
    · obtain ⟨hk4, p5⟩ := p4 hk0
      obtain ⟨p0, p1⟩ := isSer_iff.1 p5.n
      rw [← e]
      refine atRequest (xs := l) (k - 1) ?_
      rintro hi5 b5 o5 e5
      rw [e5]
      refine d_start [1, 0] [] ?_
      refine dt 0 ?_
      refine dt 1 ?_
      rw [decide_eq_true (show (0 : Int) < k by omega)]
      refine dt 2 ?_
      refine dtg 3 ?_
      refine dtg 4 ?_
      refine dtg 5 ?_
      refine dtg 6 ?_
      rw [show (k : Int) - 1 = ((k - 1 : Nat) : Int) by omega]
      refine dtg 7 ?_
      refine dtg 8 ?_
      refine dtg 9 ?_
      refine dtg 11 ?_
      refine dtg 12 ?_
      refine dtg 13 ?_
      refine d1g 10 ?_
      apply On.h
      apply o_call; rfl; kernel_rfl; exact evsE
      refine ce (fun w s => l2Gap_c _ _ _ (by omega) (by omega)) ?_
      refine dk ?_
      refine d1g 14 ?_
      apply On.h
      apply o_call; rfl; kernel_rfl; exact evsE
      refine ce (fun w s => l2Gap_c _ _ _ (by omega) (by omega)) ?_
      refine dk ?_
      refine dtg 15 ?_
      refine dt 16 ?_
      refine dd ?_
      refine go ?_; intros
      refine c_if rfl (fun h6 => ?_) (fun h6 => ?_)
      · refine go ?_; intros
        refine ret () trivial ?_
        rw [bad (by rw [hck, decide_eq_true h6, decide_eq_false (show ¬ k = 0 by omega)]; simp)]; rfl
      · refine go ?_; intros
        refine n_lp (k + 1) ⟨by omega, fun j hj => ?_⟩ (by omega)
        rcases Nat.lt_or_eq_of_le (Nat.lt_succ_iff.1 hj) with h | rfl
        · exact hk2 j h
        · rw [hck, g4, decide_eq_false h6]; simp
    · have hz : k = 0 := by omega
      refine d_start [0] [] ?_
      refine dt 0 ?_
      refine dt 1 ?_
      rw [decide_eq_false (show ¬ (0 : Int) < k by omega)]
      refine dt 2 ?_
      refine ds 3 ?_
      refine ds 4 ?_
      refine ds 5 ?_
      refine ds 6 ?_
      refine ds 7 ?_
      refine ds 8 ?_
      refine ds 9 ?_
      refine ds 10 ?_
      refine ds 11 ?_
      refine ds 12 ?_
      refine ds 13 ?_
      refine ds 14 ?_
      refine ds 15 ?_
      refine dt 16 ?_
      refine dd ?_
      refine go ?_; intros
      refine n_lp (k + 1) ⟨by omega, fun j hj => ?_⟩ (by omega)
      rcases Nat.lt_or_eq_of_le (Nat.lt_succ_iff.1 hj) with h | rfl
      · exact hk2 j h
      · rw [hck, g4, decide_eq_true hz]; simp
  have hkl : k = l.length := by omega
  refine go ?_; intros
  refine ret () trivial ?_
  rw [areQ_yes g1 (by omega) (hkl ▸ hk2)]; rfl
end Go.Proofs.YtccmhdheoeglmaaGreatDoor
/- Copies of slices by the library. -/
namespace Go.Proofs.YtccmhdheoeglmaaGreatDoor
open Go.RowKit
end Go.Proofs.YtccmhdheoeglmaaGreatDoor
/- Structs of type Receiver in a walk's state: opened, closed. -/
namespace Go.Proofs.YtccmhdheoeglmaaGreatDoor
open Go.RowKit
section
variable {c : Cx} {fr : Fr} {H : List Pc} {Φ : Gl}
theorem openReceiver {v : Value} {x : Receiver} {F : List Nat} (h : ∀ (a1 : Option Addr) (c1 : Nat) (F1 : List Nat) (a2 : Option Addr) (c2 : Nat) (F2 : List Nat), v = .agg #[.bool x.started, .int .i64 x.clock, .int .i64 x.window.next, .slice a1 x.window.slots.length c1, .slice a2 x.requests.length c2] → x.window.slots.length ≤ maxLen → x.requests.length ≤ maxLen → T c fr (.sl ESlot (.slice a1 x.window.slots.length c1) x.window.slots F1 :: .sl ERequest (.slice a2 x.requests.length c2) x.requests F2 :: H) Φ) (hm : .isv EReceiver v x F ∈ H := by (repeat (first | exact .head _ | apply List.Mem.tail)); first | done | fail) : T c fr H Φ := .mk fun a w s g => by
  obtain ⟨cs, rfl, v1, v2, G1, G2, rfl, h1, h2, rfl⟩ := s.get hm
  obtain ⟨a1, c1, rfl⟩ := h1.slice; have l1 := h1.len
  obtain ⟨a2, c2, rfl⟩ := h2.slice; have l2 := h2.len
  have t2 := s.ro (p := .sl ERequest (.slice a2 x.requests.length c2) x.requests G2) hm rfl rfl ⟨by decide, h2⟩ (by intro b hb; simp only [Pc.F] at hb ⊢; simp [hb])
  have t1 := t2.ro (p := .sl ESlot (.slice a1 x.window.slots.length c1) x.window.slots G1) (List.mem_cons_of_mem _ hm) rfl rfl ⟨by decide, h1⟩ (by intro b hb; simp only [Pc.F] at hb ⊢; simp [hb])
  exact (h a1 c1 G1 a2 c2 G2 rfl  l1 l2).h a w t1 g
theorem closeReceiver (x : Receiver) {a1 : Option Addr} {c1 : Nat} {F1 : List Nat} {a2 : Option Addr} {c2 : Nat} {F2 : List Nat}  (h : T c fr (.isv EReceiver (.agg #[.bool x.started, .int .i64 x.clock, .int .i64 x.window.next, .slice a1 x.window.slots.length c1, .slice a2 x.requests.length c2]) x (F1 ++ F2) :: H) Φ) (m1 : .sl ESlot (.slice a1 x.window.slots.length c1) x.window.slots F1 ∈ H := by (repeat (first | exact .head _ | apply List.Mem.tail)); first | done | fail) (m2 : .sl ERequest (.slice a2 x.requests.length c2) x.requests F2 ∈ H := by (repeat (first | exact .head _ | apply List.Mem.tail)); first | done | fail) : T c fr H Φ := .mk fun a w s g => by
  have hP : IsV EReceiver w (.agg #[.bool x.started, .int .i64 x.clock, .int .i64 x.window.next, .slice a1 x.window.slots.length c1, .slice a2 x.requests.length c2]) x (F1 ++ F2) := ⟨_, rfl, _, _, _, _, rfl, (s.get m1).2, (s.get m2).2, rfl⟩
  refine h.h a w (s.add (N := [.isv EReceiver (.agg #[.bool x.started, .int .i64 x.clock, .int .i64 x.window.next, .slice a1 x.window.slots.length c1, .slice a2 x.requests.length c2]) x (F1 ++ F2)]) (Below.refl _ _) (by intro q hq; simp at hq; subst hq; exact hP) ⟨by simp, trivial⟩ fun q hq b hb => ?_) g
  simp at hq; subst hq
  simp only [Pc.F, List.mem_append] at hb
  rcases hb with hb | hb
  · exact .inr ⟨rfl, _, m1, rfl, hb⟩
  · exact .inr ⟨rfl, _, m2, rfl, hb⟩
theorem atReceiver {a : Option Addr} {n cp : Nat} {xs : List Receiver} {F : List Nat} (i : Nat) (h : ∀ (hi : i < xs.length) (b o : Nat) (a1 : Option Addr) (c1 : Nat) (F1 : List Nat) (a2 : Option Addr) (c2 : Nat) (F2 : List Nat), a = some ⟨b, o, none⟩ → xs[i].window.slots.length ≤ maxLen → xs[i].requests.length ≤ maxLen → T c fr (.cel b (o + i * 5) [.bool xs[i].started, .int .i64 xs[i].clock, .int .i64 xs[i].window.next, .slice a1 xs[i].window.slots.length c1, .slice a2 xs[i].requests.length c2] :: .sl ESlot (.slice a1 xs[i].window.slots.length c1) xs[i].window.slots F1 :: .sl ERequest (.slice a2 xs[i].requests.length c2) xs[i].requests F2 :: H) Φ) (hm : .sl EReceiver (.slice a n cp) xs F ∈ H := by (repeat (first | exact .head _ | apply List.Mem.tail)); first | done | fail) (hi : i < xs.length := by omega) : T c fr H Φ := .mk fun ac w s g => by
  obtain ⟨b, o, cs, G, ha, hrep, hG, hb, hne, hr⟩ := sl_at (s.get hm) i hi
  obtain ⟨v1, v2, G1, G2, rfl, h1, h2, rfl⟩ := hrep
  obtain ⟨a1, c1, rfl⟩ := h1.slice; have l1 := h1.len
  obtain ⟨a2, c2, rfl⟩ := h2.slice; have l2 := h2.len
  have t2 := s.ro (p := .sl ERequest (.slice a2 xs[i].requests.length c2) xs[i].requests G2) hm rfl rfl ⟨by decide, h2⟩ (by intro b hb; simp only [Pc.F] at hb ⊢; exact hG b (by simp [hb]))
  have t1 := t2.ro (p := .sl ESlot (.slice a1 xs[i].window.slots.length c1) xs[i].window.slots G1) (List.mem_cons_of_mem _ hm) rfl rfl ⟨by decide, h1⟩ (by intro b hb; simp only [Pc.F] at hb ⊢; exact hG b (by simp [hb]))
  exact (h hi b o a1 c1 G1 a2 c2 G2 ha  l1 l2).h ac w (t1.ro (List.mem_cons_of_mem _ (List.mem_cons_of_mem _ hm)) rfl rfl ⟨hne, hr⟩ (by intro x hx; simp [Pc.F] at hx; subst hx; exact hb)) g
end
end Go.Proofs.YtccmhdheoeglmaaGreatDoor
/- A row of our own that is only read from here on. -/
namespace Go.Proofs.YtccmhdheoeglmaaGreatDoor
open Go.RowKit
theorem t_rocel {c : Cx} {fr : Fr} {H S : List Pc} {Φ : Gl} {g t : Nat} {cs : List Value} (h : T c fr (.cel g 0 cs :: S) Φ) (h0 : cs ≠ []) (hp : Pick H (.row g t 0 [] cs []) S := by (repeat (first | exact .here | apply Pick.there)); first | done | fail) : T c fr H Φ := .mk fun ac w s ag => by
  have s1 := s.pick hp
  exact h.h ac w (s1.conv rfl ⟨h0, row_range (s1.on (.row g t 0 [] cs []) (by simp))⟩ (fun b hb => hb)) ag
end Go.Proofs.YtccmhdheoeglmaaGreatDoor
/- Receivers: the checks, copies. -/
namespace Go.Proofs.YtccmhdheoeglmaaGreatDoor
open Go.RowKit
set_option maxRecDepth 100000 in
theorem IdxReq_f (fid : FuncId) (bd caps : List Value) (A : List Pc) (hA : A.all (fun p => !p.mu) = true) (xs : List Request) (a : Option Addr) (c : Nat) (F : List Nat) (p : Request → Bool) (hb : bodyB Tryz.prog fid = true) (hl : xs.length ≤ 1000000000)
    (hp : ∀ x ∈ xs, ∀ w, Hol A w → Calls Tryz.prog fid (bd ++ [(.agg #[.int .i64 (x).number, .int .i64 (x).state, .int .i64 (x).untl, .int .i64 (x).tries] : Value)] ++ caps).toArray w fun e w' => e = .returned (.bool (p x)) ∧ Below w.heap.size w w') :
    Fn Tryz.prog 213 [.slice a xs.length c, .func (.func fid) bd.toArray caps.toArray] (.sl ERequest (.slice a xs.length c) xs F :: A) [] (fun (_ : Unit) => True) (fun _ => .int .i64 (fidx p xs)) (fun _ => []) := by
  refine enter Tryz.func213 rfl Tryz.ntmps213 (fun w0 => ?_) rfl (by simpa [Pc.mu] using hA) .nil
  refine go ?_; intros
  refine c_loopR [0, 1, 4, 7] (fun k : Nat => [(8, .int .i64 (k : Nat))]) (fun k => k ≤ xs.length ∧ ∀ j (_ : j < k) (hj : j < xs.length), p xs[j] = false) (fun k => xs.length - k) 0 ⟨Nat.zero_le _, fun j h => by omega⟩ fun k hk => ?_
  obtain ⟨hk1, hk2⟩ := hk
  refine go ?_; intros
  refine c_if rfl (fun h5 => ?_) (fun h5 => ?_)
  · have hh : k < xs.length := by omega
    refine go ?_; intros
    refine atRequest (xs := xs) k ?_
    rintro hi b o e
    rw [e]
    refine go ?_; intros
    apply wO
    refine o_callb rfl rfl hb evsE ?_
    refine cb (fun w st => hp xs[k] (List.getElem_mem hh) w (fun q hq => st.on q (by simp [hq]))) ?_
    cases hpk : p xs[k]
    · refine go ?_; intros
      refine t_drop ?_
      refine n_lp (hH := hsub_refl _) (k + 1) ⟨hh, fun j hj h => ?_⟩ (by omega)
      rcases Nat.lt_or_eq_of_le (Nat.lt_succ_iff.1 hj) with h2 | rfl
      · exact hk2 j h2 h
      · exact hpk
    · refine go ?_; intros
      refine ret () trivial ?_
      rw [fidx_hit hh hk2 hpk]; rfl
  · obtain rfl : k = xs.length := by omega
    refine go ?_; intros
    refine ret () trivial ?_
    rw [fidx_none (fun j hj => hk2 j hj hj)]; rfl

theorem ConReq_f (fid : FuncId) (bd caps : List Value) (A : List Pc) (hA : A.all (fun p => !p.mu) = true) (xs : List Request) (a : Option Addr) (c : Nat) (F : List Nat) (p : Request → Bool) (hb : bodyB Tryz.prog fid = true) (hl : xs.length ≤ 1000000000)
    (hp : ∀ x ∈ xs, ∀ w, Hol A w → Calls Tryz.prog fid (bd ++ [(.agg #[.int .i64 (x).number, .int .i64 (x).state, .int .i64 (x).untl, .int .i64 (x).tries] : Value)] ++ caps).toArray w fun e w' => e = .returned (.bool (p x)) ∧ Below w.heap.size w w') :
    Fn Tryz.prog 174 [.slice a xs.length c, .func (.func fid) bd.toArray caps.toArray] (.sl ERequest (.slice a xs.length c) xs F :: A) [] (fun (_ : Unit) => True) (fun _ => .bool (xs.any p)) (fun _ => []) := by
  refine enter Tryz.func174 rfl Tryz.ntmps174 (fun w0 => ?_) rfl (by simpa [Pc.mu] using hA) .nil
  refine go ?_; intros
  refine cb (fun w st => (IdxReq_f fid bd caps A hA xs a c F p hb hl hp).val w (fun q hq => st.on q (by simpa using hq)) (by simpa [Pc.mu] using hA)) ?_
  refine go ?_; intros
  refine ret () trivial ?_
  rw [fidx_any]; rfl

theorem recv1_f (x : ReceiveWindow) (r : Request) (g : Nat) (b : Bool) (ck : Int) (q : Value) (a1 : Option Addr) (c1 : Nat) (F : List Nat) (h0 : 0 ≤ x.next) (h1 : x.next ≤ 65535) (n0 : 0 ≤ r.number) (n1 : r.number ≤ 65535) : Fn Tryz.prog 175 [.agg #[.int .i64 r.number, .int .i64 r.state, .int .i64 r.untl, .int .i64 r.tries], ptr g 0 0] [.cel g 0 [.bool b, .int .i64 ck, .int .i64 x.next, .slice a1 x.slots.length c1, q], .isv EReceiveWindow (.agg #[.int .i64 x.next, .slice a1 x.slots.length c1]) x F] [] (fun (_ : Unit) => True) (fun _ => .bool (hasB x r.number)) (fun _ => []) := by
  refine enter Tryz.func175 rfl Tryz.ntmps175 fun w0 => ?_
  refine go ?_; intros
  refine cf (RWhas_f x r.number _ F h0 h1 n0 n1) fun _ _ => ?_
  refine t_app ?_
  refine go ?_; intros
  refine ret () trivial rfl
set_option maxRecDepth 100000 in
theorem IsValidReceiver_f (x : Receiver) (v : Value) (F : List Nat) : Fn Tryz.prog 126 [v] [.isv EReceiver v x F] [] (fun (_ : Unit) => True) (fun _ => .bool (goodRec x)) (fun _ => []) := by
  refine enter Tryz.func126 rfl Tryz.ntmps126 fun w0 => ?_
  refine openReceiver ?_
  rintro a1 c1 F1 a2 c2 F2 rfl l1 l2
  unfold maxLen at l1 l2
  refine closeReceiveWindow x.window ?_
  generalize F1 = F3
  refine go ?_; intros
  refine ce (fun w s => isClock_c _ _) ?_
  cases g1 : isClk x.clock
  · refine go ?_; intros
    refine ret () trivial ?_
    simp [goodRec, g1, tup]
  refine go ?_; intros
  cases hs : x.started
  · have nog : zeroRec x = false → goodRec x = false := fun h => by unfold goodRec; rw [g1, hs]; simpa using h
    refine go ?_; intros
    refine wg_if rfl rfl (fun h1 => ?_) (fun h1 => ?_)
    rotate_left
    · refine go ?_; intros
      refine ret () trivial ?_
      rw [nog (by unfold zeroRec; rw [decide_eq_false h1]; rfl)]; rfl
    refine go ?_; intros
    refine wg_if rfl rfl (fun h2 => ?_) (fun h2 => ?_)
    rotate_left
    · refine go ?_; intros
      refine ret () trivial ?_
      rw [nog (by unfold zeroRec; rw [decide_eq_false (show ¬ x.window.slots.length = 0 by omega)]; simp)]; rfl
    refine go ?_; intros
    refine ret () trivial ?_
    rw [show goodRec x = decide ((x.requests.length : Int) = 0) by unfold goodRec; rw [g1, hs]; unfold zeroRec; rw [decide_eq_true h1, decide_eq_true (show x.window.slots.length = 0 by omega)]; simp]; rfl
  rename_i g
  refine t_rocel (cs := [.bool true, .int .i64 x.clock, .int .i64 x.window.next, .slice a1 x.window.slots.length c1, .slice a2 x.requests.length c2]) ?_ (by simp)
  refine go ?_; intros
  refine cf (RWgood_f x.window _ F3) fun _ _ => ?_
  refine t_app ?_
  cases g2 : goodRW x.window
  · refine go ?_; intros
    refine ret () trivial ?_
    simp [goodRec, g1, g2, hs, tup]
  obtain ⟨w0_, w1_⟩ := next_ser g2
  refine go ?_; intros
  refine cf (AreRequests_f x.requests x.window.next _ F2) fun _ _ => ?_
  refine t_app ?_
  cases g3 : areQ x.requests x.window.next
  · refine go ?_; intros
    refine ret () trivial ?_
    simp [goodRec, g1, g2, g3, hs, tup]
  obtain ⟨-, q1, q2, -⟩ := areQ_iff.1 g3
  refine go ?_; intros
  refine cb (fun w st => (ConReq_f 175 [] [ptr g 0 0] [.cel g 0 [.bool true, .int .i64 x.clock, .int .i64 x.window.next, .slice a1 x.window.slots.length c1, .slice a2 x.requests.length c2], .isv EReceiveWindow (.agg #[.int .i64 x.window.next, .slice a1 x.window.slots.length c1]) x.window F3] rfl x.requests a2 c2 F2 (fun z => hasB x.window z.number) (by kernel_rfl) (by omega) (fun z hz w hA => by
    obtain ⟨n0, n1⟩ := isSer_iff.1 (okReq_iff.1 (q2 z hz)).n
    exact (recv1_f x.window z g true x.clock _ a1 c1 F3 w0_ w1_ n0 n1).val w hA)).val w (fun q hq => by
      simp only [List.mem_cons, List.not_mem_nil, or_false] at hq
      rcases hq with rfl | rfl | rfl <;> exact st.get (by exact memE))) ?_
  refine go ?_; intros
  refine ret () trivial ?_
  rw [show goodRec x = !(x.requests.any fun z => hasB x.window z.number) by unfold goodRec freeQ; rw [g1, g2, g3, hs, List.not_any_eq_all_not]; simp]; rfl
theorem freeQ_no {x : Receiver} {k : Nat} (h : k < x.requests.length) (hh : hasB x.window x.requests[k].number = true) : freeQ x = false := List.all_eq_false.2 ⟨_, List.getElem_mem h, by simp [hh]⟩
theorem have_has {w : ReceiveWindow} {n : Int} (hw : goodRW w = true) (hn : isSer n = true) (h8 : gp w.next n < 8) : (bef n w.next || hasB w n) = hasB w n := by
  obtain ⟨w0, w1⟩ := next_ser hw
  obtain ⟨n0, n1⟩ := isSer_iff.1 hn
  have : bef n w.next = false := by
    have : ¬ (1 ≤ gp n w.next ∧ gp n w.next ≤ 32767) := by unfold gp at *; omega
    unfold bef btw
    simpa using this
  rw [this]; rfl
set_option maxRecDepth 100000 in
theorem l13Good_f (x : Receiver) (v : Value) (F : List Nat) : Fn Tryz.prog 156 [v] [.isv EReceiver v x F] [] (fun (_ : Unit) => True) (fun _ => .bool (goodRec x)) (fun _ => []) := by
  refine enter Tryz.func156 rfl Tryz.ntmps156 fun w0 => ?_
  refine openReceiver ?_
  rintro a1 c1 F1 a2 c2 F2 rfl l1 l2
  unfold maxLen at l1 l2
  refine closeReceiveWindow x.window ?_
  generalize F1 = F3
  refine go ?_; intros
  refine ce (fun w s => l11Clock_c _ _) ?_
  cases g1 : isClk x.clock
  · refine go ?_; intros
    refine ret () trivial ?_
    simp [goodRec, g1, tup]
  refine go ?_; intros
  refine cf (l10Good_f x.window _ F3) fun _ _ => ?_
  refine t_app ?_
  cases g2 : goodRW x.window
  · refine go ?_; intros
    refine ret () trivial ?_
    cases hg : goodRec x
    · rfl
    · rw [(goodR_iff.1 hg).w] at g2; cases g2
  obtain ⟨w0_, w1_⟩ := next_ser g2
  refine go ?_; intros
  refine cf (l12Good_f x.requests x.window.next _ F2) fun _ _ => ?_
  refine t_app ?_
  cases g3 : areQ x.requests x.window.next
  · refine go ?_; intros
    refine ret () trivial ?_
    cases hg : goodRec x
    · rfl
    · rw [(goodR_iff.1 hg).q] at g3; cases g3
  obtain ⟨-, q1, q2, -⟩ := areQ_iff.1 g3
  refine go ?_; intros
  cases hs : x.started
  · have nog : zeroRec x = false → goodRec x = false := fun h => by unfold goodRec; rw [g1, hs]; simpa using h
    refine go ?_; intros
    refine wg_if rfl rfl (fun h1 => ?_) (fun h1 => ?_)
    rotate_left
    · refine go ?_; intros
      refine ret () trivial ?_
      rw [nog (by unfold zeroRec; rw [decide_eq_false h1]; rfl)]; rfl
    refine go ?_; intros
    refine wg_if rfl rfl (fun h2 => ?_) (fun h2 => ?_)
    rotate_left
    · refine go ?_; intros
      refine ret () trivial ?_
      rw [nog (by unfold zeroRec; rw [decide_eq_false (show ¬ x.window.slots.length = 0 by omega)]; simp)]; rfl
    refine go ?_; intros
    refine ret () trivial ?_
    rw [show goodRec x = decide ((x.requests.length : Int) = 0) by unfold goodRec; rw [g1, hs]; unfold zeroRec; rw [decide_eq_true h1, decide_eq_true (show x.window.slots.length = 0 by omega)]; simp]; rfl
  refine go ?_; intros
  refine c_loopR [1, 2] (fun k : Nat => [(3, .int .i64 (k : Nat))]) (fun k => k ≤ x.requests.length ∧ ∀ j (_ : j < k) (h : j < x.requests.length), hasB x.window x.requests[j].number = false) (fun k => x.requests.length - k) 0 ⟨Nat.zero_le _, fun j h => by omega⟩ fun k hk => ?_
  obtain ⟨hk1, hk2⟩ := hk
  refine go ?_; intros
  refine c_if rfl (fun h3 => ?_) (fun h3 => ?_)
  · have hk3 : k < x.requests.length := by omega
    have hq := okReq_iff.1 (q2 _ (List.getElem_mem hk3))
    obtain ⟨n0, n1⟩ := isSer_iff.1 hq.n
    refine atRequest (xs := x.requests) k ?_
    rintro hi b o e
    rw [e]
    refine go ?_; intros
    refine d_start [0, 1] [] ?_
    refine dt 0 ?_
    refine dt 1 ?_
    refine dt 2 ?_
    refine dt 3 ?_
    refine dt 4 ?_
    refine dt 5 ?_
    refine dt 6 ?_
    refine dt 7 ?_
    refine dO 8 (by kernel_rfl) (by rw [List.getElem?_toArray]; rfl) ?_
    apply o_call; rfl; kernel_rfl; exact evsE
    refine cf (l10Have_f x.window x.requests[k].number _ F3 w0_ w1_ n0 n1) fun _ _ => ?_
    refine t_app ?_
    refine dk ?_
    refine dd ?_
    rw [show takeNo x.window x.requests[k].number = hasB x.window x.requests[k].number from have_has g2 hq.n hq.g]
    cases g5 : hasB x.window x.requests[k].number
    · refine go ?_; intros
      refine n_lp (k + 1) ⟨by omega, fun j hj h => ?_⟩ (by omega)
      rcases Nat.lt_or_eq_of_le (Nat.lt_succ_iff.1 hj) with h' | rfl
      · exact hk2 j h' h
      · exact g5
    · refine go ?_; intros
      refine ret () trivial ?_
      rw [show goodRec x = false by unfold goodRec; rw [g1, g2, g3, hs, freeQ_no hk3 g5]; rfl]; rfl
  have hkl : k = x.requests.length := by omega
  refine go ?_; intros
  refine ret () trivial ?_
  rw [show goodRec x = true by
    unfold goodRec freeQ; rw [g1, g2, g3, hs, List.all_eq_true.2 fun z hz => ?_]; rfl
    obtain ⟨i, hi, rfl⟩ := List.getElem_of_mem hz
    rw [hk2 i (by omega) hi]; rfl]; rfl
end Go.Proofs.YtccmhdheoeglmaaGreatDoor
/- Requests: a tick. -/
namespace Go.Proofs.YtccmhdheoeglmaaGreatDoor
open Go.RowKit
structure TkS where
  k : Nat
  a : Option Addr
  c : Nat
  F : List Nat
  a2 : Option Addr
  c2 : Nat
  F2 : List Nat
  a3 : Option Addr
  c3 : Nat
  F3 : List Nat
end Go.Proofs.YtccmhdheoeglmaaGreatDoor
/- Receivers: a tick of the program. -/
namespace Go.Proofs.YtccmhdheoeglmaaGreatDoor
open Go.RowKit
end Go.Proofs.YtccmhdheoeglmaaGreatDoor
/- Hearing: the place of a serial among the requests. -/
namespace Go.Proofs.YtccmhdheoeglmaaGreatDoor
open Go.RowKit

instance : IntC Tryz.prog 270 .u64 := ⟨Tryz.underlying270⟩


end Go.Proofs.YtccmhdheoeglmaaGreatDoor
/- Hearing: a request more, on both sides. -/
namespace Go.Proofs.YtccmhdheoeglmaaGreatDoor
open Go.RowKit
structure OwR where
  a : Option Addr
  c : Nat
  F : List Nat
end Go.Proofs.YtccmhdheoeglmaaGreatDoor
/- Hearing: a request is confirmed, on both sides. -/
namespace Go.Proofs.YtccmhdheoeglmaaGreatDoor
open Go.RowKit
end Go.Proofs.YtccmhdheoeglmaaGreatDoor
/- Hearing: skipping and awaiting, the program's. -/
namespace Go.Proofs.YtccmhdheoeglmaaGreatDoor
open Go.RowKit
structure SkS where
  a : Option Addr
  c : Nat
  F : List Nat
  ae : Option Addr
  ce : Nat
  Fe : List Nat
structure AwS where
  i : Nat
  a : Option Addr
  c : Nat
  F : List Nat
end Go.Proofs.YtccmhdheoeglmaaGreatDoor
/- Hearing: news, the program's. -/
namespace Go.Proofs.YtccmhdheoeglmaaGreatDoor
open Go.RowKit
structure NwS where
  a1 : Option Addr
  c1 : Nat
  F1 : List Nat
  a2 : Option Addr
  c2 : Nat
  F2 : List Nat
  ae : Option Addr
  ce : Nat
  Fe : List Nat
end Go.Proofs.YtccmhdheoeglmaaGreatDoor
/- Receivers: a tick of the reference. -/
namespace Go.Proofs.YtccmhdheoeglmaaGreatDoor
open Go.RowKit
structure OwnS where
  g : Nat
  a : Option Addr
  c : Nat
  F : List Nat
end Go.Proofs.YtccmhdheoeglmaaGreatDoor
/- Receivers: TickReceiver, the program's and the reference's. -/
namespace Go.Proofs.YtccmhdheoeglmaaGreatDoor
open Go.RowKit
structure GvS where
  g : Nat
  y : RelS
end Go.Proofs.YtccmhdheoeglmaaGreatDoor
/- Regions that draw: an operation that may stand behind a store. -/
namespace Go.Proofs.YtccmhdheoeglmaaGreatDoor
open Go.RowKit
section
variable {P : Program} {ops : Array Oper} {Q : Exit → Act → World → Prop} {md : Region.Mode} {S : World → Prop} {X : Nat → Bool}
end
end Go.Proofs.YtccmhdheoeglmaaGreatDoor
/- Regions that draw: pure operations that may stand behind a store. -/
namespace Go.Proofs.YtccmhdheoeglmaaGreatDoor
open Go.RowKit
section
variable {c : Cx} {fr : Fr} {H H0 : List Pc} {k : List It} {X : List Nat} {ops : Array Oper} {f : Nat} {listed : Array Bool} {d : Nat} {o : Op} {ty : TypeId} {pos : String} {aft : Array Edge} {v : Value}
end
end Go.Proofs.YtccmhdheoeglmaaGreatDoor
