/- Part 2 of the proof: 16 texts, one behind the other. -/
import Derived.Laws.IdiomStrings
import Derived.Test.YtidephmobajikaaDoorM1
/- The rules as walks use them, with the tactics that close their side conditions; parts of slices; appending; regions that draw their order. Plain: no program in sight. -/
namespace Go.Proofs.YtidephmobajikaaDoor
open Go.RowKit
theorem memE {p : Pc} {H : List Pc} (h : p ∈ H := by first | exact .head _ | exact .tail _ (.head _) | exact .tail _ (.tail _ (.head _)) | exact .tail _ (.tail _ (.tail _ (.head _))) | exact .tail _ (.tail _ (.tail _ (.tail _ (.head _)))) | exact .tail _ (.tail _ (.tail _ (.tail _ (.tail _ (.head _))))) | exact .tail _ (.tail _ (.tail _ (.tail _ (.tail _ (.tail _ (.head _)))))) | exact .tail _ (.tail _ (.tail _ (.tail _ (.tail _ (.tail _ (.tail _ (.head _))))))) | exact .tail _ (.tail _ (.tail _ (.tail _ (.tail _ (.tail _ (.tail _ (.tail _ (.head _)))))))) | exact .tail _ (.tail _ (.tail _ (.tail _ (.tail _ (.tail _ (.tail _ (.tail _ (.tail _ (.head _))))))))) | exact .tail _ (.tail _ (.tail _ (.tail _ (.tail _ (.tail _ (.tail _ (.tail _ (.tail _ (.tail _ (.head _)))))))))) | exact .tail _ (.tail _ (.tail _ (.tail _ (.tail _ (.tail _ (.tail _ (.tail _ (.tail _ (.tail _ (.tail _ (.head _))))))))))) | exact .tail _ (.tail _ (.tail _ (.tail _ (.tail _ (.tail _ (.tail _ (.tail _ (.tail _ (.tail _ (.tail _ (.tail _ (.head _)))))))))))) | exact .tail _ (.tail _ (.tail _ (.tail _ (.tail _ (.tail _ (.tail _ (.tail _ (.tail _ (.tail _ (.tail _ (.tail _ (.tail _ (.head _)))))))))))))) : p ∈ H := h
theorem cutE {l : List Value} {j m : Nat} {r : List Value} (h : Cut l j m r := by repeat constructor) : Cut l j m r := h
theorem putE {l r s : List Value} {j : Nat} (h : Put l j r s := by first | exact .one .zero | repeat constructor) : Put l j r s := h
theorem evsE {fr : Fr} {aS : List Operand} {vs : List Value} (h : Evs fr aS vs := by repeat (first | exact Evs.nil | apply Evs.cons (by rfl))) : Evs fr aS vs := h
theorem rplE {H S : List Pc} {p q : Pc} (h : Rpl H p q S := by first | exact .here | exact .there .here | exact .there (.there .here) | exact .there (.there (.there .here)) | exact .there (.there (.there (.there .here))) | exact .there (.there (.there (.there (.there .here)))) | exact .there (.there (.there (.there (.there (.there .here))))) | exact .there (.there (.there (.there (.there (.there (.there .here)))))) | exact .there (.there (.there (.there (.there (.there (.there (.there .here))))))) | exact .there (.there (.there (.there (.there (.there (.there (.there (.there .here)))))))) | exact .there (.there (.there (.there (.there (.there (.there (.there (.there (.there .here))))))))) | exact .there (.there (.there (.there (.there (.there (.there (.there (.there (.there (.there .here)))))))))) | exact .there (.there (.there (.there (.there (.there (.there (.there (.there (.there (.there (.there .here))))))))))) | exact .there (.there (.there (.there (.there (.there (.there (.there (.there (.there (.there (.there (.there .here))))))))))))) : Rpl H p q S := h
theorem pickE {H R : List Pc} {p : Pc} (h : Pick H p R := by first | exact .here | exact .there .here | exact .there (.there .here) | exact .there (.there (.there .here)) | exact .there (.there (.there (.there .here))) | exact .there (.there (.there (.there (.there .here)))) | exact .there (.there (.there (.there (.there (.there .here))))) | exact .there (.there (.there (.there (.there (.there (.there .here)))))) | exact .there (.there (.there (.there (.there (.there (.there (.there .here))))))) | exact .there (.there (.there (.there (.there (.there (.there (.there (.there .here)))))))) | exact .there (.there (.there (.there (.there (.there (.there (.there (.there (.there .here))))))))) | exact .there (.there (.there (.there (.there (.there (.there (.there (.there (.there (.there .here)))))))))) | exact .there (.there (.there (.there (.there (.there (.there (.there (.there (.there (.there (.there .here))))))))))) | exact .there (.there (.there (.there (.there (.there (.there (.there (.there (.there (.there (.there (.there .here))))))))))))) : Pick H p R := h
theorem picksE {H M R : List Pc} (h : Picks H M R := by repeat (first | exact Picks.nil | apply Picks.cons (by first | exact .here | exact .there .here | exact .there (.there .here) | exact .there (.there (.there .here)) | exact .there (.there (.there (.there .here))) | exact .there (.there (.there (.there (.there .here)))) | exact .there (.there (.there (.there (.there (.there .here))))) | exact .there (.there (.there (.there (.there (.there (.there .here)))))) | exact .there (.there (.there (.there (.there (.there (.there (.there .here))))))) | exact .there (.there (.there (.there (.there (.there (.there (.there (.there .here)))))))) | exact .there (.there (.there (.there (.there (.there (.there (.there (.there (.there .here))))))))) | exact .there (.there (.there (.there (.there (.there (.there (.there (.there (.there (.there .here)))))))))) | exact .there (.there (.there (.there (.there (.there (.there (.there (.there (.there (.there (.there .here))))))))))) | exact .there (.there (.there (.there (.there (.there (.there (.there (.there (.there (.there (.there (.there .here))))))))))))))) : Picks H M R := h
theorem frE {a b : Fr} (h : FrSub a b := by repeat (first | exact FrSub.nil | refine FrSub.cons (by rfl) ?_)) : FrSub a b := h
theorem foldl_put (l : List Value) : ∀ (k off : Nat) (A o B : List Value), A.length = off + k → o.length = l.length → (l.zipIdx k).foldl (fun (cs : Array Value) (x : Value × Nat) => cs.setIfInBounds (off + x.2) x.1) (A ++ o ++ B).toArray = (A ++ l ++ B).toArray := by
  induction l with
  | nil => intro k off A o B _ ho; simp at ho; subst ho; simp
  | cons u r ih =>
    intro k off A o B hA ho
    cases o with
    | nil => simp at ho
    | cons z o =>
      rw [List.zipIdx_cons, List.foldl_cons]
      have h4 : (A ++ (z :: o) ++ B).toArray.setIfInBounds (off + k) u = ((A ++ [u]) ++ o ++ B).toArray := by
        rw [← hA]; simp [List.set_append]
      show List.foldl _ ((A ++ (z :: o) ++ B).toArray.setIfInBounds (off + k) u) _ = _
      rw [h4, ih (k + 1) off (A ++ [u]) o B (by simp; omega) (by simpa using ho)]; simp
/-- parts go to their places -/
inductive Fil (pl : Nat → Option (Nat × Nat)) (fr : Fr) : List Value → List (Nat × Operand) → List Value → Prop
  | nil {cs} : Fil pl fr cs [] cs
  | cons {cs i x ps v l off r q} : ev fr x = some v → v.cells = l.toArray → pl i = some (off, l.length) → Put cs off l r → Fil pl fr r ps q → Fil pl fr cs ((i, x) :: ps) q
theorem Fil.run {pl : Nat → Option (Nat × Nat)} {fr : Fr} {n : Nat} {cs q : List Value} {ps : List (Nat × Operand)} (h : Fil pl fr cs ps q) {a : Act} (g : Ag n fr a) : Instr.fill pl cs.toArray (ps.map fun (i, x) => (i, a.eval x)) = some q.toArray := by
  induction h with
  | nil => rfl
  | @cons cs i x ps v l off r q hx hv hp hput _ ih =>
    obtain ⟨A, o, B, rfl, rfl, rfl, ho⟩ := hput.parts
    rw [List.map_cons]
    unfold Instr.fill
    simp only [hp, g.ev hx, hv]
    have h1 : ¬ ((l.toArray.size ≠ l.length) ∨ (A.length + l.toArray.size > (A ++ o ++ B).toArray.size)) := by simp; omega
    rw [if_neg (by simpa using h1)]
    have h2 : l.toArray.zipIdx.foldl (fun (cs : Array Value) (x : Value × Nat) => cs.setIfInBounds (A.length + x.2) x.1) (A ++ o ++ B).toArray = (A ++ l ++ B).toArray := by
      rw [← Array.foldl_toList]
      have := foldl_put l 0 A.length A o B rfl ho
      simpa using this
    rw [h2]; exact ih
theorem filE {pl : Nat → Option (Nat × Nat)} {fr : Fr} {cs q : List Value} {ps : List (Nat × Operand)} (h : Fil pl fr cs ps q := by repeat (first | exact Fil.nil | apply Fil.cons (by rfl) (by rfl) (by rfl) (by repeat constructor))) : Fil pl fr cs ps q := h
theorem yd_bd {P : Program} {n : Nat} {fr : Fr} {H : List Pc} {ty : TypeId} {t : Nat} {pl : List (Nat × Nat)} {zs q : List Value} {ps : List (Nat × Operand)} [hB : BldC P t pl zs] (hf : Fil (pl.toArray[·]?) fr zs ps q) : Yd P n fr H (.build t ps.toArray) ty (.agg q.toArray) := .mk fun a w d pos aft gd g _ => by
  have h3 := hf.run g
  have h4 := run_build (P := P) w t (ps.map fun (i, x) => (i, a.eval x)).toArray q.toArray (by rw [hB.b]; exact h3)
  simp only [List.map_toArray] at h4
  simp [execOp, h4]
theorem ydE {P : Program} {n : Nat} {fr : Fr} {H : List Pc} {o : Op} {ty : TypeId} {v : Value} (h : Yd P n fr H o ty v := by first | (apply yd_move; rfl) | (apply yd_assign; rfl) | (apply yd_nil; rfl) | (apply yd_fa; rfl) | (apply yd_ld; rfl; exact memE; rfl) | (apply yd_ldc; rfl; exact memE; rfl) | (apply yd_lda; rfl; exact memE; exact cutE) | (apply yd_ldac; rfl; exact memE; exact cutE) | (apply yd_pick_t; rfl; rfl) | (apply yd_pick_f; rfl; rfl) | (apply yd_len; rfl) | (apply yd_lens; rfl) | (apply yd_ex; rfl; rfl) | (apply yd_fld; rfl; rfl) | (apply yd_flda; rfl; exact cutE) | (apply yd_lt; rfl; rfl) | (apply yd_le; rfl; rfl) | (apply yd_gt; rfl; rfl) | (apply yd_ge; rfl; rfl) | (apply yd_eq; rfl; rfl) | (apply yd_ne; rfl; rfl) | (apply yd_add; rfl; rfl; omega; omega) | (apply yd_sub; rfl; rfl; omega; omega) | (apply yd_eqs; rfl; rfl) | (apply yd_nes; rfl; rfl) | (apply yd_cat; rfl; rfl; omega) | (apply yd_notd; rfl) | (apply yd_not; rfl) | (apply yd_neg; rfl; omega; omega) | (apply yd_ix; rfl; rfl; omega; omega) | (apply yd_ixs; rfl; rfl; omega; omega) | (apply yd_quo; rfl; rfl; omega; omega; omega) | (apply yd_rem; rfl; rfl; omega; omega) | (apply yd_mul; rfl; rfl; omega; omega) | (apply yd_cv; rfl; omega; omega) | (apply yd_eqb; rfl; rfl) | (apply yd_neb; rfl; rfl) | (apply yd_fn; exact evsE) | (apply yd_nilf; rfl) | (apply yd_min; rfl; rfl) | (apply yd_max; rfl; rfl) | (apply yd_bd; exact filE)) : Yd P n fr H o ty v := h
section
variable {c : Cx} {fr : Fr} {H : List Pc} {k : List It} {Φ : Gl} {ops : Array Oper} {rest : List Oper} {d : Nat} {o : Op} {ty : TypeId} {pos : String} {aft : Array Edge} {v u : Value} {x y : Operand}
theorem st {t g tt o' j m : Nat} {A cs B l r : List Value} {S : List Pc} {gd : Option (Nat × Bool)} (h : T c fr S Φ) (hx : ev fr x = some (ptr g o' j) := by rfl) (hy : ev fr y = some v := by rfl) (hv : v.cells = l.toArray := by rfl) (hs : (c.P.info? t).map (·.size) = some m := by first | exact AggC.s | exact OneC.s) (hl : l.length = m := by rfl)
    (hr : Rpl H (.row g tt o' A cs B) (.row g tt o' A r B) S := by first | exact .here | exact .there .here | exact .there (.there .here) | exact .there (.there (.there .here)) | exact .there (.there (.there (.there .here))) | exact .there (.there (.there (.there (.there .here)))) | exact .there (.there (.there (.there (.there (.there .here))))) | exact .there (.there (.there (.there (.there (.there (.there .here)))))) | exact .there (.there (.there (.there (.there (.there (.there (.there .here))))))) | exact .there (.there (.there (.there (.there (.there (.there (.there (.there .here)))))))) | exact .there (.there (.there (.there (.there (.there (.there (.there (.there (.there .here))))))))) | exact .there (.there (.there (.there (.there (.there (.there (.there (.there (.there (.there .here)))))))))) | exact .there (.there (.there (.there (.there (.there (.there (.there (.there (.there (.there (.there .here))))))))))) | exact .there (.there (.there (.there (.there (.there (.there (.there (.there (.there (.there (.there (.there .here))))))))))))) (hp : Put cs j l r := by first | exact .one .zero | repeat constructor) (h1 : l.all (·.oneCell') = true := by rfl) : Ef c fr H ⟨none, .store t x y, ty, pos, aft, gd⟩ Φ := ef_store hs hx hy hv hl h1 hp hr h
theorem cf {f : Nat} {vs : List Value} {A M R : List Pc} {σ : Type} {C : σ → Prop} {vv : σ → Value} {N : σ → List Pc} (hf : Fn c.P f vs A M C vv N) (h : ∀ s, C s → T c ((d, vv s) :: fr) (N s ++ R) Φ)
    (hM : Picks H M R := by repeat (first | exact Picks.nil | apply Picks.cons (by first | exact .here | exact .there .here | exact .there (.there .here) | exact .there (.there (.there .here)) | exact .there (.there (.there (.there .here))) | exact .there (.there (.there (.there (.there .here)))) | exact .there (.there (.there (.there (.there (.there .here))))) | exact .there (.there (.there (.there (.there (.there (.there .here)))))) | exact .there (.there (.there (.there (.there (.there (.there (.there .here))))))) | exact .there (.there (.there (.there (.there (.there (.there (.there (.there .here)))))))) | exact .there (.there (.there (.there (.there (.there (.there (.there (.there (.there .here))))))))) | exact .there (.there (.there (.there (.there (.there (.there (.there (.there (.there (.there .here)))))))))) | exact .there (.there (.there (.there (.there (.there (.there (.there (.there (.there (.there (.there .here))))))))))) | exact .there (.there (.there (.there (.there (.there (.there (.there (.there (.there (.there (.there (.there .here))))))))))))))) (hA : Mems A R := by repeat (first | exact Mems.nil | refine Mems.cons (by first | exact .head _ | exact .tail _ (.head _) | exact .tail _ (.tail _ (.head _)) | exact .tail _ (.tail _ (.tail _ (.head _))) | exact .tail _ (.tail _ (.tail _ (.tail _ (.head _)))) | exact .tail _ (.tail _ (.tail _ (.tail _ (.tail _ (.head _))))) | exact .tail _ (.tail _ (.tail _ (.tail _ (.tail _ (.tail _ (.head _)))))) | exact .tail _ (.tail _ (.tail _ (.tail _ (.tail _ (.tail _ (.tail _ (.head _))))))) | exact .tail _ (.tail _ (.tail _ (.tail _ (.tail _ (.tail _ (.tail _ (.tail _ (.head _)))))))) | exact .tail _ (.tail _ (.tail _ (.tail _ (.tail _ (.tail _ (.tail _ (.tail _ (.tail _ (.head _))))))))) | exact .tail _ (.tail _ (.tail _ (.tail _ (.tail _ (.tail _ (.tail _ (.tail _ (.tail _ (.tail _ (.head _)))))))))) | exact .tail _ (.tail _ (.tail _ (.tail _ (.tail _ (.tail _ (.tail _ (.tail _ (.tail _ (.tail _ (.tail _ (.head _))))))))))) | exact .tail _ (.tail _ (.tail _ (.tail _ (.tail _ (.tail _ (.tail _ (.tail _ (.tail _ (.tail _ (.tail _ (.tail _ (.head _)))))))))))) | exact .tail _ (.tail _ (.tail _ (.tail _ (.tail _ (.tail _ (.tail _ (.tail _ (.tail _ (.tail _ (.tail _ (.tail _ (.tail _ (.head _)))))))))))))) ?_)) (hmM : M.all (·.mu) = true := by rfl) (hmA : A.all (fun p => !p.mu) = true := by rfl) : Cl c fr H d f vs Φ := cf_ hf h hM hA hmM hmA
/-- lists put together -/
inductive AppL : List Pc → List Pc → List Pc → Prop
  | nil {R} : AppL [] R R
  | cons {p N R X} : AppL N R X → AppL (p :: N) R (p :: X)
theorem AppL.eq {N R X} (h : AppL N R X) : N ++ R = X := by
  induction h with
  | nil => rfl
  | cons _ ih => simp [ih]
theorem t_app {N R X : List Pc} (h : T c fr X Φ) (hX : AppL N R X := by repeat constructor) : T c fr (N ++ R) Φ := by rw [hX.eq]; exact h
theorem St.ro {G D w0 w} {p q : Pc} (s : St G D w0 H w) (hq : q ∈ H) (hm : q.mu = false) (hpm : p.mu = false) (hp : p.P w) (hF : ∀ b ∈ p.F, b ∈ q.F) : St G D w0 (p :: H) w :=
  s.add (N := [p]) (Below.refl _ _) (by intro x hx; simp at hx; subst hx; exact hp) ⟨by simp, trivial⟩ (by intro x hx b hb; simp at hx; subst hx; exact .inr ⟨hpm, q, hq, hm, hF b hb⟩)
theorem St.conv {G D w0 w} {p q : Pc} {S : List Pc} (s : St G D w0 (p :: S) w) (hm : p.mu = true) (hq : q.P w) (hF : ∀ b ∈ q.F, b ∈ p.F) : St G D w0 (q :: S) w :=
  St.turn (M := [p]) (N := [q]) s (Keep.refl _ w) (by intro x hx; simp at hx; subst hx; exact hq) ⟨by simp, trivial⟩ (by intro x hx b hb; simp at hx; subst hx; exact .inr (.inl ⟨p, by simp, hm, hF b hb⟩))
/-! elements, parts of slices that read -/
/-- what holds of element i: its cells lie there -/
theorem sl_at {α : Type} {E : Elem α} {w : World} {a : Option Addr} {n cp : Nat} {xs : List α} {F : List Nat} (h : (Pc.sl E (.slice a n cp) xs F).P w) (i : Nat) (hi : i < xs.length) :
    ∃ b o cs G, a = some ⟨b, o, none⟩ ∧ E.rep w cs xs[i] G ∧ (∀ x ∈ G, x ∈ F) ∧ b ∈ F ∧ cs ≠ [] ∧ w.rangeAt b (o + i * E.sz) cs := by
  obtain ⟨hz, a', cap, hv, hl, h | ⟨b, o, F', rfl, hne, rfl, hc⟩⟩ := h
  · rw [h.1] at hi; simp at hi
  · simp only [Value.slice.injEq] at hv
    obtain ⟨rfl, -, -⟩ := hv
    obtain ⟨cs, F1, h1, h2, h3⟩ := hc.get i hi
    have hl := E.len h1
    refine ⟨b, o, cs, F1, rfl, h1, fun x hx => by simp [h3 x hx], by simp, fun e => by subst e; simp at hl; omega, fun j u hu => ?_⟩
    have hj : j < E.sz := by have := (List.getElem?_eq_some_iff.1 hu).1; omega
    rw [h2 j hj]; exact hu
theorem at_int {a : Option Addr} {n cp : Nat} {xs : List Int} {F : List Nat} (i : Nat) (h : ∀ (hi : i < xs.length) b o, a = some ⟨b, o, none⟩ → T c fr (.cel b (o + i * 1) [.int .i64 xs[i]] :: H) Φ) (hm : .sl EInt (.slice a n cp) xs F ∈ H := by first | exact .head _ | exact .tail _ (.head _) | exact .tail _ (.tail _ (.head _)) | exact .tail _ (.tail _ (.tail _ (.head _))) | exact .tail _ (.tail _ (.tail _ (.tail _ (.head _)))) | exact .tail _ (.tail _ (.tail _ (.tail _ (.tail _ (.head _))))) | exact .tail _ (.tail _ (.tail _ (.tail _ (.tail _ (.tail _ (.head _)))))) | exact .tail _ (.tail _ (.tail _ (.tail _ (.tail _ (.tail _ (.tail _ (.head _))))))) | exact .tail _ (.tail _ (.tail _ (.tail _ (.tail _ (.tail _ (.tail _ (.tail _ (.head _)))))))) | exact .tail _ (.tail _ (.tail _ (.tail _ (.tail _ (.tail _ (.tail _ (.tail _ (.tail _ (.head _))))))))) | exact .tail _ (.tail _ (.tail _ (.tail _ (.tail _ (.tail _ (.tail _ (.tail _ (.tail _ (.tail _ (.head _)))))))))) | exact .tail _ (.tail _ (.tail _ (.tail _ (.tail _ (.tail _ (.tail _ (.tail _ (.tail _ (.tail _ (.tail _ (.head _))))))))))) | exact .tail _ (.tail _ (.tail _ (.tail _ (.tail _ (.tail _ (.tail _ (.tail _ (.tail _ (.tail _ (.tail _ (.tail _ (.head _)))))))))))) | exact .tail _ (.tail _ (.tail _ (.tail _ (.tail _ (.tail _ (.tail _ (.tail _ (.tail _ (.tail _ (.tail _ (.tail _ (.tail _ (.head _)))))))))))))) (hi : i < xs.length := by omega) : T c fr H Φ := .mk fun ac w s g => by
  obtain ⟨b, o, cs, G, ha, ⟨rfl, rfl⟩, -, hb, hne, hr⟩ := sl_at (s.get hm) i hi
  exact (h hi b o ha).h ac w (s.ro hm rfl rfl ⟨hne, hr⟩ (by intro x hx; simp [Pc.F] at hx; subst hx; exact hb)) g
theorem at_str {a : Option Addr} {n cp : Nat} {xs : List ByteArray} {F : List Nat} (i : Nat) (h : ∀ (hi : i < xs.length) b o, a = some ⟨b, o, none⟩ → xs[i].size ≤ maxLen → T c fr (.cel b (o + i * 1) [.string xs[i]] :: H) Φ) (hm : .sl EStr (.slice a n cp) xs F ∈ H := by first | exact .head _ | exact .tail _ (.head _) | exact .tail _ (.tail _ (.head _)) | exact .tail _ (.tail _ (.tail _ (.head _))) | exact .tail _ (.tail _ (.tail _ (.tail _ (.head _)))) | exact .tail _ (.tail _ (.tail _ (.tail _ (.tail _ (.head _))))) | exact .tail _ (.tail _ (.tail _ (.tail _ (.tail _ (.tail _ (.head _)))))) | exact .tail _ (.tail _ (.tail _ (.tail _ (.tail _ (.tail _ (.tail _ (.head _))))))) | exact .tail _ (.tail _ (.tail _ (.tail _ (.tail _ (.tail _ (.tail _ (.tail _ (.head _)))))))) | exact .tail _ (.tail _ (.tail _ (.tail _ (.tail _ (.tail _ (.tail _ (.tail _ (.tail _ (.head _))))))))) | exact .tail _ (.tail _ (.tail _ (.tail _ (.tail _ (.tail _ (.tail _ (.tail _ (.tail _ (.tail _ (.head _)))))))))) | exact .tail _ (.tail _ (.tail _ (.tail _ (.tail _ (.tail _ (.tail _ (.tail _ (.tail _ (.tail _ (.tail _ (.head _))))))))))) | exact .tail _ (.tail _ (.tail _ (.tail _ (.tail _ (.tail _ (.tail _ (.tail _ (.tail _ (.tail _ (.tail _ (.tail _ (.head _)))))))))))) | exact .tail _ (.tail _ (.tail _ (.tail _ (.tail _ (.tail _ (.tail _ (.tail _ (.tail _ (.tail _ (.tail _ (.tail _ (.tail _ (.head _)))))))))))))) (hi : i < xs.length := by omega) : T c fr H Φ := .mk fun ac w s g => by
  obtain ⟨b, o, cs, G, ha, ⟨rfl, hs, rfl⟩, -, hb, hne, hr⟩ := sl_at (s.get hm) i hi
  exact (h hi b o ha hs).h ac w (s.ro hm rfl rfl ⟨hne, hr⟩ (by intro x hx; simp [Pc.F] at hx; subst hx; exact hb)) g
/-- an owned slice may be read aS one -/
theorem t_read {α : Type} {E : Elem α} {t : TypeId} {v : Value} {xs : List α} {F : List Nat} {S : List Pc} (h : ∀ F', T c fr (.sl E v xs F' :: S) Φ) (hp : Pick H (.ow E t v xs F) S := by first | exact .here | exact .there .here | exact .there (.there .here) | exact .there (.there (.there .here)) | exact .there (.there (.there (.there .here))) | exact .there (.there (.there (.there (.there .here)))) | exact .there (.there (.there (.there (.there (.there .here))))) | exact .there (.there (.there (.there (.there (.there (.there .here)))))) | exact .there (.there (.there (.there (.there (.there (.there (.there .here))))))) | exact .there (.there (.there (.there (.there (.there (.there (.there (.there .here)))))))) | exact .there (.there (.there (.there (.there (.there (.there (.there (.there (.there .here))))))))) | exact .there (.there (.there (.there (.there (.there (.there (.there (.there (.there (.there .here)))))))))) | exact .there (.there (.there (.there (.there (.there (.there (.there (.there (.there (.there (.there .here))))))))))) | exact .there (.there (.there (.there (.there (.there (.there (.there (.there (.there (.there (.there (.there .here))))))))))))) (hz : 0 < E.sz := by decide) : T c fr H Φ := .mk fun a w s g => by
  have s1 := s.pick hp
  obtain ⟨-, ho⟩ := s1.on (.ow E t v xs F) (by simp)
  obtain ⟨F', hF, hs⟩ := ho.read
  exact (h F').h a w (s1.conv rfl ⟨hz, hs⟩ hF) g
theorem Ow.takeO {α : Type} {E : Elem α} {t : TypeId} {w : World} {a : Option Addr} {n cp : Nat} {xs : List α} {F : List Nat} (h : Ow E t w (.slice a n cp) xs F) (k : Nat) (hk : k ≤ xs.length) : ∃ F', F'.Sublist F ∧ Ow E t w (.slice a k cp) (xs.take k) F' := by
  rcases h with ⟨h1, rfl, rfl⟩ | ⟨g, cap, cs, rest, G, h1, h2, h3, h4, h5, h6, rfl⟩
  · cases h1
    have : k = 0 := by simpa using hk
    subst this
    exact ⟨[], .slnil, .inl ⟨rfl, rfl, rfl⟩⟩
  · cases h1
    rw [← List.take_append_drop k xs] at h6
    obtain ⟨c1, c2, G1, G2, rfl, rfl, f1, f2⟩ := h6.split
    have hl : (xs.take k).length = k := by simp [Nat.min_eq_left hk]
    refine ⟨g :: G1, (List.sublist_append_left G1 G2).cons_cons g, .inr ⟨g, cp, c1, c2 ++ rest, G1, by rw [hl], by rw [← List.append_assoc]; exact h2, by omega, h4, by simp only [List.length_append] at h5 ⊢; omega, f1, rfl⟩⟩
/-- the first k of an owned slice, in its place -/
theorem t_take {α : Type} {E : Elem α} {t : TypeId} {a : Option Addr} {n cp : Nat} {xs : List α} {F : List Nat} {S : List Pc} (k : Nat) (h : ∀ F', T c fr (.ow E t (.slice a k cp) (xs.take k) F' :: S) Φ) (hk : k ≤ xs.length := by omega) (hp : Pick H (.ow E t (.slice a n cp) xs F) S := by first | exact .here | exact .there .here | exact .there (.there .here) | exact .there (.there (.there .here)) | exact .there (.there (.there (.there .here))) | exact .there (.there (.there (.there (.there .here)))) | exact .there (.there (.there (.there (.there (.there .here))))) | exact .there (.there (.there (.there (.there (.there (.there .here)))))) | exact .there (.there (.there (.there (.there (.there (.there (.there .here))))))) | exact .there (.there (.there (.there (.there (.there (.there (.there (.there .here)))))))) | exact .there (.there (.there (.there (.there (.there (.there (.there (.there (.there .here))))))))) | exact .there (.there (.there (.there (.there (.there (.there (.there (.there (.there (.there .here)))))))))) | exact .there (.there (.there (.there (.there (.there (.there (.there (.there (.there (.there (.there .here))))))))))) | exact .there (.there (.there (.there (.there (.there (.there (.there (.there (.there (.there (.there (.there .here))))))))))))) : T c fr H Φ := .mk fun ac w s g => by
  have s1 := s.pick hp
  obtain ⟨hn, ho⟩ := s1.on (.ow E t (.slice a n cp) xs F) (by simp)
  obtain ⟨F', hF, hs⟩ := ho.takeO k hk
  exact (h F').h ac w (s1.conv rfl ⟨hn.sublist hF, hs⟩ hF.subset) g
/-- what an owned slice knows of its room -/
theorem t_cap {α : Type} {E : Elem α} {t : TypeId} {a : Option Addr} {n cp : Nat} {xs : List α} {F : List Nat} (h : n ≤ cp → cp ≤ 9223372036854775807 → T c fr H Φ) (hm : .ow E t (.slice a n cp) xs F ∈ H := by first | exact .head _ | exact .tail _ (.head _) | exact .tail _ (.tail _ (.head _)) | exact .tail _ (.tail _ (.tail _ (.head _))) | exact .tail _ (.tail _ (.tail _ (.tail _ (.head _)))) | exact .tail _ (.tail _ (.tail _ (.tail _ (.tail _ (.head _))))) | exact .tail _ (.tail _ (.tail _ (.tail _ (.tail _ (.tail _ (.head _)))))) | exact .tail _ (.tail _ (.tail _ (.tail _ (.tail _ (.tail _ (.tail _ (.head _))))))) | exact .tail _ (.tail _ (.tail _ (.tail _ (.tail _ (.tail _ (.tail _ (.tail _ (.head _)))))))) | exact .tail _ (.tail _ (.tail _ (.tail _ (.tail _ (.tail _ (.tail _ (.tail _ (.tail _ (.head _))))))))) | exact .tail _ (.tail _ (.tail _ (.tail _ (.tail _ (.tail _ (.tail _ (.tail _ (.tail _ (.tail _ (.head _)))))))))) | exact .tail _ (.tail _ (.tail _ (.tail _ (.tail _ (.tail _ (.tail _ (.tail _ (.tail _ (.tail _ (.tail _ (.head _))))))))))) | exact .tail _ (.tail _ (.tail _ (.tail _ (.tail _ (.tail _ (.tail _ (.tail _ (.tail _ (.tail _ (.tail _ (.tail _ (.head _)))))))))))) | exact .tail _ (.tail _ (.tail _ (.tail _ (.tail _ (.tail _ (.tail _ (.tail _ (.tail _ (.tail _ (.tail _ (.tail _ (.tail _ (.head _)))))))))))))) : T c fr H Φ := .mk fun ac w s g => by
  obtain ⟨-, h' | ⟨g', cap, cs, rest, G, h1, h2, h3, h4, -⟩⟩ := s.get hm
  · obtain ⟨h1, h2, -⟩ := h'
    cases h1
    exact (h (by simp) (by decide)).h ac w s g
  · cases h1
    exact (h h3 (by unfold maxLen at h4; omega)).h ac w s g
/-- the empty slice is owned -/
theorem t_nilow {α : Type} (E : Elem α) (t : TypeId) (h : T c fr (.ow E t (.slice none 0 0) [] [] :: H) Φ) : T c fr H Φ := .mk fun a w s g =>
  h.h a w (s.add (N := [.ow E t (.slice none 0 0) [] []]) (Below.refl _ _) (by intro p hp; simp at hp; subst hp; exact ⟨by simp, .inl ⟨rfl, rfl, rfl⟩⟩) ⟨by simp, trivial⟩ (by intro p hp b hb; simp at hp; subst hp; simp [Pc.F] at hb)) g
theorem t_nilsl {α : Type} (E : Elem α) (hz : 0 < E.sz) (h : T c fr (.sl E (.slice none 0 0) [] [] :: H) Φ) : T c fr H Φ := .mk fun a w s g =>
  h.h a w (s.add (N := [.sl E (.slice none 0 0) [] []]) (Below.refl _ _) (by intro p hp; simp at hp; subst hp; exact ⟨hz, none, 0, rfl, ⟨Nat.le_refl _, by unfold maxLen; omega⟩, .inl ⟨rfl, rfl, fun _ => rfl⟩⟩) ⟨by simp, trivial⟩ (by intro p hp b hb; simp at hp; subst hp; simp [Pc.F] at hb)) g
/-- a row of no cells is an empty owned slice -/
theorem t_emp {α : Type} (E : Elem α) {t g : Nat} {S : List Pc} (h : T c fr (.ow E t (.slice (some ⟨g, 0, none⟩) 0 0) [] [g] :: S) Φ) (hp : Pick H (.row g t 0 [] [] []) S := by first | exact .here | exact .there .here | exact .there (.there .here) | exact .there (.there (.there .here)) | exact .there (.there (.there (.there .here))) | exact .there (.there (.there (.there (.there .here)))) | exact .there (.there (.there (.there (.there (.there .here))))) | exact .there (.there (.there (.there (.there (.there (.there .here)))))) | exact .there (.there (.there (.there (.there (.there (.there (.there .here))))))) | exact .there (.there (.there (.there (.there (.there (.there (.there (.there .here)))))))) | exact .there (.there (.there (.there (.there (.there (.there (.there (.there (.there .here))))))))) | exact .there (.there (.there (.there (.there (.there (.there (.there (.there (.there (.there .here)))))))))) | exact .there (.there (.there (.there (.there (.there (.there (.there (.there (.there (.there (.there .here))))))))))) | exact .there (.there (.there (.there (.there (.there (.there (.there (.there (.there (.there (.there (.there .here))))))))))))) : T c fr H Φ := .mk fun a w s ag => by
  have s1 := s.pick hp
  obtain ⟨-, hr⟩ := s1.on (.row g t 0 [] [] []) (by simp)
  exact h.h a w (s1.conv rfl ⟨by simp, Ow.empty (by simpa using hr)⟩ (fun b hb => hb)) ag
/-- an empty slice is built -/
theorem bs0 {t e m : Nat} {gd : Option (Nat × Bool)} [hS : SlC c.P t e m] (h : ∀ g, T c ((d, .slice (some ⟨g, 0, none⟩) 0 0) :: fr) (.row g e 0 [] [] [] :: H) Φ) (hd : Nat.blt d c.n = true := by rfl) : Ef c fr H ⟨some d, .buildSlice t 0 #[], ty, pos, aft, gd⟩ Φ := ef_of fun Q a w s g => by
  have e1 : (execOp a.eval ⟨some d, .buildSlice t 0 #[], ty, pos, aft, gd⟩).run c.P w = .ok (.value (.slice (some ⟨w.heap.size, 0, none⟩) 0 0)) (w.alloc (.cells #[] e)) := by
    simp [execOp, Instr.buildSlice, run_underlying hS.u, size_of hS.s, Instr.fill, newRow, Array.range_zero']
  rw [e1]
  exact (h _).h _ _ (s.new e []) (g.put hd)
inductive AppV : List Value → List Value → List Value → Prop
  | nil {r} : AppV [] r r
  | cons {u l r q} : AppV l r q → AppV (u :: l) r (u :: q)
theorem AppV.eq {l r q} (h : AppV l r q) : l ++ r = q := by
  induction h with
  | nil => rfl
  | cons _ ih => simp [ih]
inductive Rpt (zs : List Value) : Nat → List Value → Prop
  | zero : Rpt zs 0 []
  | succ {n r q} : Rpt zs n r → AppV zs r q → Rpt zs (n + 1) q
theorem Rpt.eq {zs : List Value} {n q} (h : Rpt zs n q) : q = (List.replicate n zs).flatten := by
  induction h with
  | zero => rfl
  | succ _ h2 ih => rw [← h2.eq, ih, List.replicate_succ, List.flatten_cons]
/-- a slice's literal -/
theorem bs {t e m b len : Nat} {z : Value} {zs cs q : List Value} {ps : List (Nat × Operand)} {gd : Option (Nat × Bool)} [hS : SlC c.P t e m] [hE : ElT c.P e z m b] [hZ : ZC c.P e zs] (h : ∀ g, T c ((d, .slice (some ⟨g, 0, none⟩) len len) :: fr) (.row g e 0 [] q [] :: H) Φ)
    (hc : Rpt zs len cs := by repeat constructor) (hf : Fil (fun i => some (i * m, m)) fr cs ps q := by repeat (first | exact Fil.nil | apply Fil.cons (by rfl) (by rfl) (by rfl) (by repeat constructor))) (hl : Nat.ble (len * m) 1000 = true := by rfl) (hm : Nat.blt 0 m = true := by rfl) (hlen : Nat.blt 0 len = true := by rfl) (hd : Nat.blt d c.n = true := by rfl) :
    Ef c fr H ⟨some d, .buildSlice t len ps.toArray, ty, pos, aft, gd⟩ Φ := ef_of fun Q a w s g => by
  have hm0 : m ≠ 0 := by have : 0 < m := by simpa using hm
                         omega
  have hlen0 : len ≠ 0 := by have : 0 < len := by simpa using hlen
                             omega
  have hl2 : len * m ≤ 1000 := by simpa using hl
  obtain ⟨i, hi, hz⟩ := Option.map_eq_some_iff.1 hE.i
  simp only [Prod.mk.injEq] at hz
  obtain ⟨hz, hs, -⟩ := hz
  obtain ⟨z', hz', hzc⟩ := hZ.z
  obtain rfl : z' = z := by rw [hi] at hz'; simp [hz] at hz'; exact hz'.symm
  have hzl : zs.length = m := by have := hE.s; rw [hzc] at this; simpa using this
  have e2 : ((Array.range (len * m)).map (zs.toArray[· % zs.toArray.size]!)) = cs.toArray := by
    have := madeCells_flat zs.toArray len
    rw [hc.eq]
    apply Array.ext'
    rw [show zs.toArray.size = m from by simp [hzl]] at this
    simpa [madeCells] using this
  have e1 : (execOp a.eval ⟨some d, .buildSlice t len ps.toArray, ty, pos, aft, gd⟩).run c.P w = .ok (.value (.slice (some ⟨w.heap.size, 0, none⟩) len len)) (w.alloc (.cells q.toArray e)) := by
    have h3 := hf.run g
    have hne : ¬ (len * m = 0) := Nat.mul_ne_zero hlen0 hm0
    have hns : ¬ (len * m > 2 ^ 24) := by omega
    have hzv : (zeroValue e).run c.P w = .ok z' w := by simp [zeroValue, typeInfo, hi, hz]
    simp only [execOp, Instr.buildSlice, Sem.run_bind, run_underlying hS.u, size_of hS.s, Result.andThen_ok, if_neg hns, if_neg hne, hzv, hzc, Sem.run_pure, Sem.run_ite, e2]
    simp only [List.map_toArray, h3, newRow, Sem.run_bind, run_newObj_alloc, Result.andThen_ok, Sem.run_pure]
  rw [e1]
  exact (h _).h _ _ (s.new e q) (g.put hd)
theorem o_bs0 {t e m : Nat} [SlC c.P t e m] (hd : Nat.blt d c.n = true) (h : ∀ g, T c ((d, .slice (some ⟨g, 0, none⟩) 0 0) :: fr) (.row g e 0 [] [] [] :: H) Φ) : On c fr H (some d) (.buildSlice t 0 #[]) ty Φ := ⟨fun _ _ _ => bs0 h hd⟩
theorem rptE {zs : List Value} {n : Nat} {q : List Value} (h : Rpt zs n q := by repeat constructor) : Rpt zs n q := h
theorem o_bs {t e m b len : Nat} {z : Value} {zs cs q : List Value} {ps : List (Nat × Operand)} [SlC c.P t e m] [ElT c.P e z m b] [ZC c.P e zs] (hd : Nat.blt d c.n = true) (hlen : Nat.blt 0 len = true) (hm : Nat.blt 0 m = true) (hl : Nat.ble (len * m) 1000 = true) (hc : Rpt zs len cs) (hf : Fil (fun i => some (i * m, m)) fr cs ps q) (h : ∀ g, T c ((d, .slice (some ⟨g, 0, none⟩) len len) :: fr) (.row g e 0 [] q [] :: H) Φ) :
    On c fr H (some d) (.buildSlice t len ps.toArray) ty Φ := ⟨fun _ _ _ => bs h hc hf hl hm hlen hd⟩
end
end Go.Proofs.YtidephmobajikaaDoor
/- Appending, parts of slices, regions that draw their order, a function's beginning and end: as walks use them. Plain: no program in sight. -/
namespace Go.Proofs.YtidephmobajikaaDoor
open Go.RowKit
section
variable {c : Cx} {fr : Fr} {H : List Pc} {k : List It} {Φ : Gl} {ops : Array Oper} {rest : List Oper} {d : Nat} {o : Op} {ty : TypeId} {pos : String} {aft : Array Edge} {v u : Value} {x y : Operand}
theorem ap {α : Type} {E : Elem α} {t e m b : Nat} {z : Value} [hS : SlC c.P t e m] [hE : ElT c.P e z m b] {xs ys : List α} {F Fy : List Nat} {ao : Option Addr} {n cp : Nat} {gd : Option (Nat × Bool)} {R S : List Pc} (one : One E) (hz : 0 < E.sz) (hm : E.sz = m)
    (hp : Pick H (.ow E e v xs F) R) (hx : ev fr x = some v) (hy : ev fr y = some (.slice ao n cp)) (hn : n = ys.length)
    (hsrc : ∀ w, St c.G c.D c.w0 (.ow E e v xs F :: R) w → ∃ news, Flat E w news ys Fy ∧ ((ao = none ∧ cp = 0 ∧ ys = []) ∨ ∃ ad, ao = some ad ∧ ∀ j u, news[j]? = some u → w.cell? (ad.add j) = some u) ∧ (∀ b ∈ Fy, b ∉ F) ∧ Fy.Nodup)
    (hFy : ∀ w v' F', St c.G c.D c.w0 (.ow E e v xs F :: R) w → (∀ b ∈ F', b ∈ F ∨ b ∈ Fy ∨ b = w.heap.size) → ∀ w', Keep F w w' → (Pc.ow E e v' (xs ++ ys) F').P w' → St c.G c.D c.w0 (.ow E e v' (xs ++ ys) F' :: S) w')
    (h63 : xs.length + ys.length ≤ maxLen) (hby : (xs.length + ys.length) * b ≤ 140737488355328)
    (h : ∀ a' c' F', T c ((d, .slice a' (xs ++ ys).length c') :: fr) (.ow E e (.slice a' (xs ++ ys).length c') (xs ++ ys) F' :: S) Φ) (hd : Nat.blt d c.n = true) :
    Ef c fr H ⟨some d, .call { callee := .builtin .append, args := #[x, y], argTypes := #[t, t] }, ty, pos, aft, gd⟩ Φ := .mk fun Q a w s g => by
  have s1 := s.pick hp
  obtain ⟨hnd, how⟩ := s1.on (.ow E e v xs F) (by simp)
  obtain ⟨news, hfl, hsr, hdis, hny⟩ := hsrc w s1
  subst hn
  refine wp_apd (P := c.P) one hz x y t rfl e z b hS.u (by rw [hE.i, hm]) (by rw [hE.s, hm]) v xs F (g.ev hx) how (Hd.of hnd) ao ys cp (g.ev hy) news Fy hfl hsr (fun b hb e => hdis b hb (how.own_mem b e)) h63 hby fun v' w' F' hA => ?_
  obtain ⟨a', c', rfl⟩ := hA.val
  rw [← List.length_append] at hA ⊢
  have hw := hA.ow
  exact (h a' c' F').h _ _ (hFy w _ F' s1 hA.mem w' hA.keep ⟨hA.nodup hnd hny hdis, hw⟩) (g.put hd)
/-- what is appended lies in a row of our own -/
theorem ap1 {α : Type} {E : Elem α} {t e m b : Nat} {z : Value} [hS : SlC c.P t e m] [hE : ElT c.P e z m b] {xs ys : List α} {F : List Nat} {g n cp tt : Nat} {cs : List Value} {R S : List Pc}
    (hfl : ∀ w, Flat E w cs ys []) (one : One E) (h : ∀ a' c' F', T c ((d, .slice a' (xs ++ ys).length c') :: fr) (.ow E e (.slice a' (xs ++ ys).length c') (xs ++ ys) F' :: S) Φ)
    (hx : ev fr x = some v := by rfl) (hy : ev fr y = some (.slice (some ⟨g, 0, none⟩) n cp) := by rfl) (hp : Pick H (.ow E e v xs F) R := by first | exact .here | exact .there .here | exact .there (.there .here) | exact .there (.there (.there .here)) | exact .there (.there (.there (.there .here))) | exact .there (.there (.there (.there (.there .here)))) | exact .there (.there (.there (.there (.there (.there .here))))) | exact .there (.there (.there (.there (.there (.there (.there .here)))))) | exact .there (.there (.there (.there (.there (.there (.there (.there .here))))))) | exact .there (.there (.there (.there (.there (.there (.there (.there (.there .here)))))))) | exact .there (.there (.there (.there (.there (.there (.there (.there (.there (.there .here))))))))) | exact .there (.there (.there (.there (.there (.there (.there (.there (.there (.there (.there .here)))))))))) | exact .there (.there (.there (.there (.there (.there (.there (.there (.there (.there (.there (.there .here))))))))))) | exact .there (.there (.there (.there (.there (.there (.there (.there (.there (.there (.there (.there (.there .here))))))))))))) (hp2 : Pick R (.row g tt 0 [] cs []) S := by first | exact .here | exact .there .here | exact .there (.there .here) | exact .there (.there (.there .here)) | exact .there (.there (.there (.there .here))) | exact .there (.there (.there (.there (.there .here)))) | exact .there (.there (.there (.there (.there (.there .here))))) | exact .there (.there (.there (.there (.there (.there (.there .here)))))) | exact .there (.there (.there (.there (.there (.there (.there (.there .here))))))) | exact .there (.there (.there (.there (.there (.there (.there (.there (.there .here)))))))) | exact .there (.there (.there (.there (.there (.there (.there (.there (.there (.there .here))))))))) | exact .there (.there (.there (.there (.there (.there (.there (.there (.there (.there (.there .here)))))))))) | exact .there (.there (.there (.there (.there (.there (.there (.there (.there (.there (.there (.there .here))))))))))) | exact .there (.there (.there (.there (.there (.there (.there (.there (.there (.there (.there (.there (.there .here))))))))))))) (hn : n = ys.length := by rfl) (hz : 0 < E.sz := by decide) (hm : E.sz = m := by rfl)
    (h63 : xs.length + ys.length ≤ 9223372036854775807 := by simp only [List.length_cons, List.length_nil]; omega) (hby : (xs.length + ys.length) * b ≤ 140737488355328 := by simp only [List.length_cons, List.length_nil]; omega) (hd : Nat.blt d c.n = true := by rfl) :
    On c fr H (some d) (.call { callee := .builtin .append, args := #[x, y], argTypes := #[t, t] }) ty Φ :=
  ⟨fun _ _ _ => ap one hz hm hp hx hy hn (Fy := []) (fun w s => ⟨cs, hfl w, .inr ⟨_, rfl, fun j u hu => by
      have hr := (s.on (.row g tt 0 [] cs []) (by simp [hp2.mem])).2
      have := hr.cell j
      simp only [List.nil_append, List.append_nil] at this
      rw [hu] at this
      unfold Addr.add
      split
      · rename_i e; subst e; exact this
      · simpa using this⟩, by simp, by simp⟩)
    (fun w v' F' s hF w' hk hv => by
      have s2 : St c.G c.D c.w0 (.ow E e v xs F :: S) w := ⟨s.keep, fun q hq => s.on q (by rcases List.mem_cons.1 hq with rfl | hq; simp; simp [hp2.sub q hq]), ⟨fun q hq => s.sep.1 q (hp2.sub q hq), (hp2.sep s.sep.2).2⟩, fun q hq => s.mine q (by rcases List.mem_cons.1 hq with rfl | hq; simp; simp [hp2.sub q hq])⟩
      exact St.turn (M := [.ow E e v xs F]) (N := [.ow E e v' (xs ++ ys) F']) s2 (by simpa [List.filter, Pc.mu, fp, Pc.F] using hk) (by intro q hq; simp at hq; subst hq; exact hv) ⟨by simp, trivial⟩ (by
        intro q hq b hb
        simp at hq; subst hq
        rcases hF b hb with h | h | h
        · exact .inr (.inl ⟨.ow E e v xs F, by simp, rfl, h⟩)
        · simp at h
        · exact .inl (by omega)))
    (by unfold maxLen; exact h63) hby h hd⟩
/-- a slice that reads, of elements without blocks of their own, is appended -/
theorem aps {α : Type} {E : Elem α} {t e m b : Nat} {z : Value} [hS : SlC c.P t e m] [hE : ElT c.P e z m b] {xs ys : List α} {F G : List Nat} {ao : Option Addr} {n cp : Nat} {R : List Pc}
    (one : One E) (sc : ∀ {w cs x F}, E.rep w cs x F → F = []) (h : ∀ a' c' F', T c ((d, .slice a' (xs ++ ys).length c') :: fr) (.ow E e (.slice a' (xs ++ ys).length c') (xs ++ ys) F' :: R) Φ)
    (hx : ev fr x = some v := by rfl) (hy : ev fr y = some (.slice ao n cp) := by rfl) (hp : Pick H (.ow E e v xs F) R := by first | exact .here | exact .there .here | exact .there (.there .here) | exact .there (.there (.there .here)) | exact .there (.there (.there (.there .here))) | exact .there (.there (.there (.there (.there .here)))) | exact .there (.there (.there (.there (.there (.there .here))))) | exact .there (.there (.there (.there (.there (.there (.there .here)))))) | exact .there (.there (.there (.there (.there (.there (.there (.there .here))))))) | exact .there (.there (.there (.there (.there (.there (.there (.there (.there .here)))))))) | exact .there (.there (.there (.there (.there (.there (.there (.there (.there (.there .here))))))))) | exact .there (.there (.there (.there (.there (.there (.there (.there (.there (.there (.there .here)))))))))) | exact .there (.there (.there (.there (.there (.there (.there (.there (.there (.there (.there (.there .here))))))))))) | exact .there (.there (.there (.there (.there (.there (.there (.there (.there (.there (.there (.there (.there .here))))))))))))) (hp2 : .sl E (.slice ao n cp) ys G ∈ R := by first | exact .head _ | exact .tail _ (.head _) | exact .tail _ (.tail _ (.head _)) | exact .tail _ (.tail _ (.tail _ (.head _))) | exact .tail _ (.tail _ (.tail _ (.tail _ (.head _)))) | exact .tail _ (.tail _ (.tail _ (.tail _ (.tail _ (.head _))))) | exact .tail _ (.tail _ (.tail _ (.tail _ (.tail _ (.tail _ (.head _)))))) | exact .tail _ (.tail _ (.tail _ (.tail _ (.tail _ (.tail _ (.tail _ (.head _))))))) | exact .tail _ (.tail _ (.tail _ (.tail _ (.tail _ (.tail _ (.tail _ (.tail _ (.head _)))))))) | exact .tail _ (.tail _ (.tail _ (.tail _ (.tail _ (.tail _ (.tail _ (.tail _ (.tail _ (.head _))))))))) | exact .tail _ (.tail _ (.tail _ (.tail _ (.tail _ (.tail _ (.tail _ (.tail _ (.tail _ (.tail _ (.head _)))))))))) | exact .tail _ (.tail _ (.tail _ (.tail _ (.tail _ (.tail _ (.tail _ (.tail _ (.tail _ (.tail _ (.tail _ (.head _))))))))))) | exact .tail _ (.tail _ (.tail _ (.tail _ (.tail _ (.tail _ (.tail _ (.tail _ (.tail _ (.tail _ (.tail _ (.tail _ (.head _)))))))))))) | exact .tail _ (.tail _ (.tail _ (.tail _ (.tail _ (.tail _ (.tail _ (.tail _ (.tail _ (.tail _ (.tail _ (.tail _ (.tail _ (.head _)))))))))))))) (hn : n = ys.length := by rfl) (hz : 0 < E.sz := by decide) (hm : E.sz = m := by rfl)
    (h63 : xs.length + ys.length ≤ 9223372036854775807 := by first | omega | (simp only [List.length_cons, List.length_nil]; omega)) (hby : (xs.length + ys.length) * b ≤ 140737488355328 := by first | omega | (simp only [List.length_cons, List.length_nil]; omega)) (hd : Nat.blt d c.n = true := by rfl) :
    On c fr H (some d) (.call { callee := .builtin .append, args := #[x, y], argTypes := #[t, t] }) ty Φ :=
  have flat0 : ∀ {w cs zs G}, Flat E w cs zs G → G = [] := fun {w cs zs G} => by
    induction zs generalizing cs G with
    | nil => intro h; exact h.2
    | cons z r ih => intro h; obtain ⟨c1, c2, F1, F2, _, rfl, h1, h2⟩ := h; rw [sc h1, ih h2]; rfl
  ⟨fun _ _ _ => ap one hz hm hp hx hy hn (Fy := []) (fun w s => by
      obtain ⟨-, hs⟩ := s.on (.sl E (.slice ao n cp) ys G) (by simp [hp2])
      obtain ⟨ao', cc, news, Fy, he, -, hfy, -, hsrc⟩ := hs.src
      simp only [Value.slice.injEq] at he
      obtain ⟨rfl, -, rfl⟩ := he
      obtain rfl := flat0 hfy
      exact ⟨news, hfy, hsrc, by simp, by simp⟩)
    (fun w v' F' s hF w' hk hv => St.turn (M := [.ow E e v xs F]) (N := [.ow E e v' (xs ++ ys) F']) s (by simpa [List.filter, Pc.mu, fp, Pc.F] using hk) (by intro q hq; simp at hq; subst hq; exact hv) ⟨by simp, trivial⟩ (by
        intro q hq b hb
        simp at hq; subst hq
        rcases hF b hb with h | h | h
        · exact .inr (.inl ⟨.ow E e v xs F, by simp, rfl, h⟩)
        · simp at h
        · exact .inl (by omega)))
    (by unfold maxLen; exact h63) hby h hd⟩
/-! parts of slices that read -/
/-! one element of an owned slice, of elements without blocks of their own -/
def Hole {α : Type} (E : Elem α) (t : TypeId) (g : Nat) (v : Value) (xs : List α) (i : Nat) (A B : List Value) : Prop := ∀ w cs y, Row w g t (A ++ cs ++ B) → E.rep w cs y [] → Ow E t w v (xs.set i y) [g]
theorem focF {α : Type} {E : Elem α} {t : TypeId} {a : Option Addr} {n cp m : Nat} {xs : List α} {F : List Nat} {S : List Pc} (sc : Scal E) (i : Nat) (h : ∀ (_ : i < xs.length) g A cs B, a = some ⟨g, 0, none⟩ → F = [g] → (∀ w, E.rep w cs xs[i] []) → Hole E t g (.slice (some ⟨g, 0, none⟩) n cp) xs i A B → T c fr (.row g t (0 + i * m) A cs B :: S) Φ)
    (hp : Pick H (.ow E t (.slice a n cp) xs F) S) (hm : E.sz = m) (hi : i < xs.length) : T c fr H Φ := .mk fun ac w s g => by
  have z1 := s.pick hp
  obtain ⟨-, ho⟩ := z1.on (.ow E t (.slice a n cp) xs F) (by simp)
  obtain ⟨g0, cap, A, cs, B, G1, Fi, G2, hv, hr, hA, -, hx, rfl, -, hW⟩ := ho.focus i hi
  cases hv
  obtain rfl := sc hx
  have hG : ∀ b, b ∉ G1 ++ G2 := by
    intro b hb
    have := ho.scal sc
    simp only [Value.ownBlock, Option.toList_some, List.append_nil, List.cons.injEq, true_and] at this
    rw [this] at hb; simp at hb
  have hG0 : G1 ++ G2 = [] := List.eq_nil_iff_forall_not_mem.2 hG
  subst hm
  refine (h hi g0 A cs B rfl (by simpa using hG0) (fun w' => E.frame hx (by simp)) (fun w' c' y hr' hy => ?_)).h ac w (z1.conv rfl ⟨by omega, hr⟩ (by intro b hb; simp [Pc.F] at hb; subst hb; simp [Pc.F])) g
  have := hW w' c' y [] hr' hy (fun b hb => absurd hb (hG b))
  simpa [hG0] using this
theorem unfF {α : Type} {E : Elem α} {t : TypeId} {g o : Nat} {v : Value} {xs : List α} {i : Nat} {A cs B : List Value} {S : List Pc} (y : α) (hh : Hole E t g v xs i A B) (hy : ∀ w, E.rep w cs y []) (h : T c fr (.ow E t v (xs.set i y) [g] :: S) Φ) (hp : Pick H (.row g t o A cs B) S := by first | exact .here | exact .there .here | exact .there (.there .here) | exact .there (.there (.there .here)) | exact .there (.there (.there (.there .here))) | exact .there (.there (.there (.there (.there .here)))) | exact .there (.there (.there (.there (.there (.there .here))))) | exact .there (.there (.there (.there (.there (.there (.there .here)))))) | exact .there (.there (.there (.there (.there (.there (.there (.there .here))))))) | exact .there (.there (.there (.there (.there (.there (.there (.there (.there .here)))))))) | exact .there (.there (.there (.there (.there (.there (.there (.there (.there (.there .here))))))))) | exact .there (.there (.there (.there (.there (.there (.there (.there (.there (.there (.there .here)))))))))) | exact .there (.there (.there (.there (.there (.there (.there (.there (.there (.there (.there (.there .here))))))))))) | exact .there (.there (.there (.there (.there (.there (.there (.there (.there (.there (.there (.there (.there .here))))))))))))) : T c fr H Φ := .mk fun ac w s ag => by
  have z1 := s.pick hp
  obtain ⟨-, hr⟩ := z1.on (.row g t o A cs B) (by simp)
  exact h.h ac w (z1.conv rfl ⟨by simp, hh w cs y hr (hy w)⟩ (fun b hb => hb)) ag
/-! calls by the elder contracts -/
theorem cn {α : Type} {E : Elem α} {t : TypeId} {xs : List α} {f : Nat} {vs : List Value} (hc : ∀ w, St c.G c.D c.w0 H w → Calls c.P f vs.toArray w (RetNew E t xs w)) (h : ∀ a cp F, T c ((d, .slice a xs.length cp) :: fr) (.ow E t (.slice a xs.length cp) xs F :: H) Φ) : Cl c fr H d f vs Φ :=
  cl_of hc (fun w e w' s hR => by
    obtain ⟨v, F, he, ho, hn, hF, hB⟩ := hR
    obtain ⟨a, cp, rfl⟩ := ho.slice
    exact ⟨_, he, fun ac g => (h a cp F).h ac w' (s.add (N := [.ow E t (.slice a xs.length cp) xs F]) hB (by intro q hq; simp at hq; subst hq; exact ⟨hn, ho⟩) ⟨by simp, trivial⟩ (by intro q hq b hb; simp at hq; subst hq; exact .inl (hF b hb))) g⟩)
theorem cv {α : Type} {E : Elem α} {z : α} {f : Nat} {vs : List Value} (hc : ∀ w, St c.G c.D c.w0 H w → Calls c.P f vs.toArray w (RetV E z w)) (h : ∀ v F, T c ((d, v) :: fr) (.own E v z F :: H) Φ) : Cl c fr H d f vs Φ :=
  cl_of hc (fun w e w' s hR => by
    obtain ⟨v, F, he, ho, hn, hF, hB⟩ := hR
    exact ⟨_, he, fun ac g => (h v F).h ac w' (s.add (N := [.own E v z F]) hB (by intro q hq; simp at hq; subst hq; exact ⟨hn, ho⟩) ⟨by simp, trivial⟩ (by intro q hq b hb; simp at hq; subst hq; exact .inl (hF b hb))) g⟩)
/-! regions that draw their order -/
inductive Nth : List Pc → Nat → Pc → Prop
  | zero {p R} : Nth (p :: R) 0 p
  | succ {x p R i} : Nth R i p → Nth (x :: R) (i + 1) p
inductive Sel (H : List Pc) : List Nat → List Pc → Prop
  | nil : Sel H [] []
  | cons {i is p R} : Nth H i p → Sel H is R → Sel H (i :: is) (p :: R)
variable {H0 : List Pc} {X : List Nat} {f : Nat} {listed : Array Bool}
theorem d_start {id : Nat} {l : List Oper} (is X : List Nat) (h : T c fr H (.dx k H0 X l.toArray l.length (Array.replicate l.length false))) (_hsel : Sel H is H0 := by repeat constructor) (hm : c.P.follows .mixedOrders = true := by kernel_rfl) : T c fr H (.code k (Code.region id l.toArray true)) := .mk fun a w s g => by
  refine AnyX.start (S := Hol H0) (X := fun i => X.contains i) hm ?_
  have := h.h a w.drew (s.below (belowDrewN (Below.refl _ _) 1)) g
  simpa [Gl.sem] using this
/-- a panic leaves the slots alone -/
def PanOk (c : Cx) : Prop := ∀ ch d v a w, c.R (.panic ch) (Act.put a d v) w → c.R (.panic ch) a w
theorem panOk {P : Program} {D G : List Nat} {w0 : World} {n : Nat} {fn : Func} {R : Ending → World → Prop} : PanOk ⟨P, G, D, w0, n, bodyPost P fn R⟩ := fun ch d v a w h => by
  cases d <;> exact h
theorem dt (i : Nat) (h : T c ((d, v) :: fr) H (.dx k H0 X ops f (listed.setIfInBounds i true))) (ho : ops[i]? = some ⟨some d, o, ty, pos, aft, none⟩ := by rw [List.getElem?_toArray]; rfl) (hy : Yd c.P c.n fr H0 o ty v := by exact ydE) (hs : Mems H0 H := by repeat (first | exact Mems.nil | refine Mems.cons (by first | exact .head _ | exact .tail _ (.head _) | exact .tail _ (.tail _ (.head _)) | exact .tail _ (.tail _ (.tail _ (.head _))) | exact .tail _ (.tail _ (.tail _ (.tail _ (.head _)))) | exact .tail _ (.tail _ (.tail _ (.tail _ (.tail _ (.head _))))) | exact .tail _ (.tail _ (.tail _ (.tail _ (.tail _ (.tail _ (.head _)))))) | exact .tail _ (.tail _ (.tail _ (.tail _ (.tail _ (.tail _ (.tail _ (.head _))))))) | exact .tail _ (.tail _ (.tail _ (.tail _ (.tail _ (.tail _ (.tail _ (.tail _ (.head _)))))))) | exact .tail _ (.tail _ (.tail _ (.tail _ (.tail _ (.tail _ (.tail _ (.tail _ (.tail _ (.head _))))))))) | exact .tail _ (.tail _ (.tail _ (.tail _ (.tail _ (.tail _ (.tail _ (.tail _ (.tail _ (.tail _ (.head _)))))))))) | exact .tail _ (.tail _ (.tail _ (.tail _ (.tail _ (.tail _ (.tail _ (.tail _ (.tail _ (.tail _ (.tail _ (.head _))))))))))) | exact .tail _ (.tail _ (.tail _ (.tail _ (.tail _ (.tail _ (.tail _ (.tail _ (.tail _ (.tail _ (.tail _ (.tail _ (.head _)))))))))))) | exact .tail _ (.tail _ (.tail _ (.tail _ (.tail _ (.tail _ (.tail _ (.tail _ (.tail _ (.tail _ (.tail _ (.tail _ (.tail _ (.head _)))))))))))))) ?_))
    (h1 : Region.noSelect ops = true := by kernel_rfl) (h2 : Region.free .any ops listed i = true := by kernel_rfl) (h3 : (Region.ready .any ops listed).contains i = true := by kernel_rfl) (h4 : waitsAll .any ops (fun i => X.contains i) i = true := by kernel_rfl) (h5 : closedB .any ops listed = true := by kernel_rfl) (hR : PanOk c := by exact panOk) (hd : Nat.blt d c.n = true := by rfl) :
    T c fr H (.dx k H0 X ops (f + 1) listed) := .mk fun a w s g =>
  AnyX.take (v := v) ho h1 h2 h3 h4 h5 (fun ch a w hp => by rw [run_panic] at hp ⊢; exact hR _ _ _ _ _ hp) (.inl ⟨rfl, fun w' hw' => hy.h a w' _ _ _ _ g hw'⟩) (fun p hp => s.on p (hs.all p hp)) (h.h _ _ s (g.put hd))
/-- an operation with a guard that holds, taken first -/
theorem dtg (i : Nat) {j t : Nat} {b : Bool} (h : T c ((d, v) :: fr) H (.dx k H0 X ops f (listed.setIfInBounds i true))) (ho : ops[i]? = some ⟨some d, o, ty, pos, aft, some (j, b)⟩ := by rw [List.getElem?_toArray]; rfl) (ht : (ops[j]?).bind (·.dst) = some t := by rfl) (hl : look fr t = some (.bool b) := by rfl) (hy : Yd c.P c.n fr H0 o ty v := by exact ydE) (hs : Mems H0 H := by repeat (first | exact Mems.nil | refine Mems.cons (by first | exact .head _ | exact .tail _ (.head _) | exact .tail _ (.tail _ (.head _)) | exact .tail _ (.tail _ (.tail _ (.head _))) | exact .tail _ (.tail _ (.tail _ (.tail _ (.head _)))) | exact .tail _ (.tail _ (.tail _ (.tail _ (.tail _ (.head _))))) | exact .tail _ (.tail _ (.tail _ (.tail _ (.tail _ (.tail _ (.head _)))))) | exact .tail _ (.tail _ (.tail _ (.tail _ (.tail _ (.tail _ (.tail _ (.head _))))))) | exact .tail _ (.tail _ (.tail _ (.tail _ (.tail _ (.tail _ (.tail _ (.tail _ (.head _)))))))) | exact .tail _ (.tail _ (.tail _ (.tail _ (.tail _ (.tail _ (.tail _ (.tail _ (.tail _ (.head _))))))))) | exact .tail _ (.tail _ (.tail _ (.tail _ (.tail _ (.tail _ (.tail _ (.tail _ (.tail _ (.tail _ (.head _)))))))))) | exact .tail _ (.tail _ (.tail _ (.tail _ (.tail _ (.tail _ (.tail _ (.tail _ (.tail _ (.tail _ (.tail _ (.head _))))))))))) | exact .tail _ (.tail _ (.tail _ (.tail _ (.tail _ (.tail _ (.tail _ (.tail _ (.tail _ (.tail _ (.tail _ (.tail _ (.head _)))))))))))) | exact .tail _ (.tail _ (.tail _ (.tail _ (.tail _ (.tail _ (.tail _ (.tail _ (.tail _ (.tail _ (.tail _ (.tail _ (.tail _ (.head _)))))))))))))) ?_))
    (h1 : Region.noSelect ops = true := by kernel_rfl) (h2 : Region.free .any ops listed i = true := by kernel_rfl) (h3 : (Region.ready .any ops listed).contains i = true := by kernel_rfl) (h4 : waitsAll .any ops (fun i => X.contains i) i = true := by kernel_rfl) (h5 : closedB .any ops listed = true := by kernel_rfl) (hR : PanOk c := by exact panOk) (hd : Nat.blt d c.n = true := by rfl) :
    T c fr H (.dx k H0 X ops (f + 1) listed) := .mk fun a w s g =>
  AnyX.take (v := v) ho h1 h2 h3 h4 h5 (fun ch a w hp => by rw [run_panic] at hp ⊢; exact hR _ _ _ _ _ hp) (.inl ⟨by rw [wanted_eq (c := c) ht hl g]; simp, fun w' hw' => hy.h a w' _ _ _ _ g hw'⟩) (fun p hp => s.on p (hs.all p hp)) (h.h _ _ s (g.put hd))
/-- an operation whose guard says no -/
theorem ds (i : Nat) {j t : Nat} {b b' : Bool} (h : T c ((d, undef) :: fr) H (.dx k H0 X ops f (listed.setIfInBounds i true))) (ho : ops[i]? = some ⟨some d, o, ty, pos, aft, some (j, b)⟩ := by rw [List.getElem?_toArray]; rfl) (ht : (ops[j]?).bind (·.dst) = some t := by rfl) (hl : look fr t = some (.bool b') := by rfl) (hb : (b' == b) = false := by rfl) (hs : Mems H0 H := by repeat (first | exact Mems.nil | refine Mems.cons (by first | exact .head _ | exact .tail _ (.head _) | exact .tail _ (.tail _ (.head _)) | exact .tail _ (.tail _ (.tail _ (.head _))) | exact .tail _ (.tail _ (.tail _ (.tail _ (.head _)))) | exact .tail _ (.tail _ (.tail _ (.tail _ (.tail _ (.head _))))) | exact .tail _ (.tail _ (.tail _ (.tail _ (.tail _ (.tail _ (.head _)))))) | exact .tail _ (.tail _ (.tail _ (.tail _ (.tail _ (.tail _ (.tail _ (.head _))))))) | exact .tail _ (.tail _ (.tail _ (.tail _ (.tail _ (.tail _ (.tail _ (.tail _ (.head _)))))))) | exact .tail _ (.tail _ (.tail _ (.tail _ (.tail _ (.tail _ (.tail _ (.tail _ (.tail _ (.head _))))))))) | exact .tail _ (.tail _ (.tail _ (.tail _ (.tail _ (.tail _ (.tail _ (.tail _ (.tail _ (.tail _ (.head _)))))))))) | exact .tail _ (.tail _ (.tail _ (.tail _ (.tail _ (.tail _ (.tail _ (.tail _ (.tail _ (.tail _ (.tail _ (.head _))))))))))) | exact .tail _ (.tail _ (.tail _ (.tail _ (.tail _ (.tail _ (.tail _ (.tail _ (.tail _ (.tail _ (.tail _ (.tail _ (.head _)))))))))))) | exact .tail _ (.tail _ (.tail _ (.tail _ (.tail _ (.tail _ (.tail _ (.tail _ (.tail _ (.tail _ (.tail _ (.tail _ (.tail _ (.head _)))))))))))))) ?_))
    (h1 : Region.noSelect ops = true := by kernel_rfl) (h2 : Region.free .any ops listed i = true := by kernel_rfl) (h3 : (Region.ready .any ops listed).contains i = true := by kernel_rfl) (h4 : waitsAll .any ops (fun i => X.contains i) i = true := by kernel_rfl) (h5 : closedB .any ops listed = true := by kernel_rfl) (hR : PanOk c := by exact panOk) (hd : Nat.blt d c.n = true := by rfl) :
    T c fr H (.dx k H0 X ops (f + 1) listed) := .mk fun a w s g =>
  AnyX.take (v := undef) ho h1 h2 h3 h4 h5 (fun ch a w hp => by rw [run_panic] at hp ⊢; exact hR _ _ _ _ _ hp) (.inr ⟨by rw [wanted_eq (c := c) ht hl g]; exact hb, rfl⟩) (fun p hp => s.on p (hs.all p hp)) (h.h _ _ s (g.put hd))
/-- the state holds once more behind an operation -/
theorem dk {i : Nat} (h : T c fr H (.dx k H0 X ops f listed)) (hs : Mems H0 H := by repeat (first | exact Mems.nil | refine Mems.cons (by first | exact .head _ | exact .tail _ (.head _) | exact .tail _ (.tail _ (.head _)) | exact .tail _ (.tail _ (.tail _ (.head _))) | exact .tail _ (.tail _ (.tail _ (.tail _ (.head _)))) | exact .tail _ (.tail _ (.tail _ (.tail _ (.tail _ (.head _))))) | exact .tail _ (.tail _ (.tail _ (.tail _ (.tail _ (.tail _ (.head _)))))) | exact .tail _ (.tail _ (.tail _ (.tail _ (.tail _ (.tail _ (.tail _ (.head _))))))) | exact .tail _ (.tail _ (.tail _ (.tail _ (.tail _ (.tail _ (.tail _ (.tail _ (.head _)))))))) | exact .tail _ (.tail _ (.tail _ (.tail _ (.tail _ (.tail _ (.tail _ (.tail _ (.tail _ (.head _))))))))) | exact .tail _ (.tail _ (.tail _ (.tail _ (.tail _ (.tail _ (.tail _ (.tail _ (.tail _ (.tail _ (.head _)))))))))) | exact .tail _ (.tail _ (.tail _ (.tail _ (.tail _ (.tail _ (.tail _ (.tail _ (.tail _ (.tail _ (.tail _ (.head _))))))))))) | exact .tail _ (.tail _ (.tail _ (.tail _ (.tail _ (.tail _ (.tail _ (.tail _ (.tail _ (.tail _ (.tail _ (.tail _ (.head _)))))))))))) | exact .tail _ (.tail _ (.tail _ (.tail _ (.tail _ (.tail _ (.tail _ (.tail _ (.tail _ (.tail _ (.tail _ (.tail _ (.tail _ (.head _)))))))))))))) ?_)) : T c fr H (.dk i k H0 X ops f listed) := .mk fun a w s g => ⟨fun _ p hp => s.on p (hs.all p hp), h.h a w s g⟩
theorem dkx {i : Nat} (h : T c fr H (.dx k H0 X ops f listed)) (hi : X.contains i = true := by rfl) : T c fr H (.dk i k H0 X ops f listed) := .mk fun a w s g => ⟨fun h0 => (by rw [hi] at h0; cases h0), h.h a w s g⟩
/-- the only one that may come up -/
theorem d1 (i : Nat) {o : Oper} (h : Ef c fr H o (.dk i k H0 X ops f (listed.setIfInBounds i true))) (hr : Region.ready .any ops listed = [i] := by kernel_rfl) (ho : ops[i]? = some o := by rw [List.getElem?_toArray]; rfl) (hg : o.guard = none := by rfl) : T c fr H (.dx k H0 X ops (f + 1) listed) := .mk fun a w s g =>
  AnyX.only hr ho fun K hK => by
    rw [if_pos (by simp [Region.wanted, hg])]
    exact Oper.wp_mono (fun a' w' h' => hK a' w' h'.1 h'.2) (h.h _ a w s g)
theorem d1g (i : Nat) {od : Option Tmp} {j t : Nat} {b : Bool} (h : Ef c fr H ⟨od, o, ty, pos, aft, some (j, b)⟩ (.dk i k H0 X ops f (listed.setIfInBounds i true))) (hr : Region.ready .any ops listed = [i] := by kernel_rfl) (ho : ops[i]? = some ⟨od, o, ty, pos, aft, some (j, b)⟩ := by rw [List.getElem?_toArray]; rfl) (ht : (ops[j]?).bind (·.dst) = some t := by rfl) (hl : look fr t = some (.bool b) := by rfl) : T c fr H (.dx k H0 X ops (f + 1) listed) := .mk fun a w s g =>
  AnyX.only hr ho fun K hK => by
    rw [if_pos (by rw [wanted_eq (c := c) ht hl g]; simp)]
    exact Oper.wp_mono (fun a' w' h' => hK a' w' h'.1 h'.2) (h.h _ a w s g)
/-- two that may come up -/
theorem d2 (i j : Nat) {o o2 : Oper} (h : Ef c fr H o (.dk i k H0 X ops f (listed.setIfInBounds i true))) (h' : Ef c fr H o2 (.dk j k H0 X ops f (listed.setIfInBounds j true)))
    (hr : Region.ready .any ops listed = [i, j] := by kernel_rfl) (ho : ops[i]? = some o := by rw [List.getElem?_toArray]; rfl) (ho2 : ops[j]? = some o2 := by rw [List.getElem?_toArray]; rfl) (hg : o.guard = none := by rfl) (hg2 : o2.guard = none := by rfl) : T c fr H (.dx k H0 X ops (f + 1) listed) := .mk fun a w s g =>
  AnyX.two hr ho ho2 (fun K hK => by
    rw [if_pos (by simp [Region.wanted, hg])]
    exact Oper.wp_mono (fun a' w' h' => hK a' w' h'.1 h'.2) (h.h _ a w s g)) (fun K hK => by
    rw [if_pos (by simp [Region.wanted, hg2])]
    exact Oper.wp_mono (fun a' w' h'' => hK a' w' h''.1 h''.2) (h'.h _ a w s g))
theorem dO (i : Nat) {od : Option Tmp} (hr : Region.ready .any ops listed = [i]) (ho : ops[i]? = some ⟨od, o, ty, pos, aft, none⟩) (h : On c fr H od o ty (.dk i k H0 X ops f (listed.setIfInBounds i true))) : T c fr H (.dx k H0 X ops (f + 1) listed) := d1 i (h.h pos aft none) hr ho rfl
theorem dO2 (i j : Nat) {od od2 : Option Tmp} {o2 : Op} {ty2 : TypeId} {pos2 : String} {aft2 : Array Edge} (hr : Region.ready .any ops listed = [i, j]) (ho : ops[i]? = some ⟨od, o, ty, pos, aft, none⟩) (ho2 : ops[j]? = some ⟨od2, o2, ty2, pos2, aft2, none⟩) (h : On c fr H od o ty (.dk i k H0 X ops f (listed.setIfInBounds i true))) (h' : On c fr H od2 o2 ty2 (.dk j k H0 X ops f (listed.setIfInBounds j true))) : T c fr H (.dx k H0 X ops (f + 1) listed) := d2 i j (h.h pos aft none) (h'.h pos2 aft2 none) hr ho ho2 rfl rfl
theorem dd (h : T c fr H (.norm k)) (hr : Region.ready .any ops listed = [] := by kernel_rfl) : T c fr H (.dx k H0 X ops f listed) := .mk fun a w s g => AnyX.done hr (h.h a w s g) f
end
/-- slots that keep their values -/
inductive Kf (fr : Fr) : List Nat → Fr → Prop
  | nil : Kf fr [] []
  | cons {t v ts r} : look fr t = some v → Kf fr ts r → Kf fr (t :: ts) ((t, v) :: r)
theorem Kf.sub {fr ts r} (h : Kf fr ts r) : FrSub fr r := by
  induction h with
  | nil => exact .nil
  | cons h _ ih => exact .cons h ih
theorem FrSub.app {fr a b : Fr} (h : FrSub fr a) (h2 : FrSub fr b) : FrSub fr (a ++ b) := by
  induction h with
  | nil => exact h2
  | cons h _ ih => exact .cons h ih
theorem Picks.hsub {H M R : List Pc} (h : Picks H M R) : HSub H (M ++ R) := by
  have all : ∀ (H : List Pc), HSub H H := by
    intro H
    induction H with
    | nil => exact .nil
    | cons p H ih => exact .cons .here ih
  induction h with
  | nil => exact all _
  | cons hp _ ih => exact .cons hp ih
theorem c_loopS {c : Cx} {fr : Fr} {H : List Pc} {k : List It} {x : Code} {σ : Type} {cst : Fr} {rest : List Pc} (ks : List Nat) (upd : σ → Fr) (chg : σ → List Pc) (C : σ → Prop) (μ : σ → Nat) (s0 : σ) (h0 : C s0)
    (round : ∀ s, C s → T c (upd s ++ cst) (chg s ++ rest) (.code (.lp (LpN c (fun s => upd s ++ cst) (fun s => chg s ++ rest) C μ (μ s)) :: k) x)) (hk : Kf fr ks cst := by repeat (first | exact Kf.nil | apply Kf.cons (by rfl))) (hf : FrSub fr (upd s0) := by exact frE) (hH : Picks H (chg s0) rest := by exact picksE) : T c fr H (.code k (Code.loop x)) :=
  c_loop (fun s => upd s ++ cst) (fun s => chg s ++ rest) C μ s0 h0 round (hf.app hk.sub) hH.hsub
/-- a loop that leaves the pieces alone -/
theorem c_loopR {c : Cx} {fr : Fr} {H : List Pc} {k : List It} {x : Code} {σ : Type} {cst : Fr} (ks : List Nat) (upd : σ → Fr) (C : σ → Prop) (μ : σ → Nat) (s0 : σ) (h0 : C s0)
    (round : ∀ s, C s → T c (upd s ++ cst) H (.code (.lp (LpN c (fun s => upd s ++ cst) (fun _ => H) C μ (μ s)) :: k) x)) (hk : Kf fr ks cst := by repeat (first | exact Kf.nil | apply Kf.cons (by rfl))) (hf : FrSub fr (upd s0) := by exact frE) : T c fr H (.code k (Code.loop x)) :=
  c_loop (fun s => upd s ++ cst) (fun _ => H) C μ s0 h0 round (hf.app hk.sub) (by
    have all : ∀ (H : List Pc), HSub H H := by
      intro H
      induction H with
      | nil => exact .nil
      | cons p H ih => exact .cons .here ih
    exact all _)
/-- ways that meet: what is known where they do, aS a function of s -/
def Jn {σ : Type} (c : Cx) (fr' : σ → Fr) (H' : σ → List Pc) (C : σ → Prop) (a : Act) (w : World) : Prop := ∃ s, C s ∧ St c.G c.D c.w0 (H' s) w ∧ Ag c.n (fr' s) a
theorem c_join {c : Cx} {fr : Fr} {H : List Pc} {k : List It} {x : Code} {σ : Type} (fr' : σ → Fr) (H' : σ → List Pc) (C : σ → Prop) (h : T c fr H (.code (.lp (Jn c fr' H' C) :: k) x)) (h2 : ∀ s, C s → T c (fr' s) (H' s) (.norm k)) : T c fr H (.code k x) := .mk fun a w s g =>
  wp_mono (h.h a w s g) fun e a' w' he => by
    cases e with
    | normal => obtain ⟨z, hz, hs, hg⟩ := he; exact (h2 z hz).h a' w' hs hg
    | _ => exact he
theorem n_join {c : Cx} {fr : Fr} {H : List Pc} {k : List It} {σ : Type} {fr' : σ → Fr} {H' : σ → List Pc} {C : σ → Prop} (s : σ) (hC : C s) (hf : FrSub fr (fr' s) := by repeat (first | exact FrSub.nil | refine FrSub.cons (by rfl) ?_)) (hH : HSub H (H' s) := by repeat (first | exact HSub.nil | refine HSub.cons (by first | exact .here | exact .there .here | exact .there (.there .here) | exact .there (.there (.there .here)) | exact .there (.there (.there (.there .here))) | exact .there (.there (.there (.there (.there .here)))) | exact .there (.there (.there (.there (.there (.there .here))))) | exact .there (.there (.there (.there (.there (.there (.there .here)))))) | exact .there (.there (.there (.there (.there (.there (.there (.there .here))))))) | exact .there (.there (.there (.there (.there (.there (.there (.there (.there .here)))))))) | exact .there (.there (.there (.there (.there (.there (.there (.there (.there (.there .here))))))))) | exact .there (.there (.there (.there (.there (.there (.there (.there (.there (.there (.there .here)))))))))) | exact .there (.there (.there (.there (.there (.there (.there (.there (.there (.there (.there (.there .here))))))))))) | exact .there (.there (.there (.there (.there (.there (.there (.there (.there (.there (.there (.there (.there .here))))))))))))) ?_)) : T c fr H (.norm (.lp (Jn c fr' H' C) :: k)) :=
  .mk fun _ _ st g => ⟨s, hC, st.sub hH, g.sub hf⟩
theorem c_joinS {c : Cx} {fr : Fr} {H : List Pc} {k : List It} {x : Code} {σ : Type} {cst : Fr} {rest : List Pc} (ks rs : List Nat) (upd : σ → Fr) (chg : σ → List Pc) (C : σ → Prop) (h : T c fr H (.code (.lp (Jn c (fun s => upd s ++ cst) (fun s => chg s ++ rest) C) :: k) x)) (h2 : ∀ s, C s → T c (upd s ++ cst) (chg s ++ rest) (.norm k)) (_hk : Kf fr ks cst := by repeat (first | exact Kf.nil | apply Kf.cons (by rfl))) (_hr : Sel H rs rest := by repeat constructor) : T c fr H (.code k x) :=
  c_join _ _ C h h2
theorem enter {P : Program} {f : FuncId} {fn : Func} {cd : Code} {args : List Value} {A M H : List Pc} {σ : Type} {C : σ → Prop} {v : σ → Value} {N : σ → List Pc} {n : Nat} (hf : P.funcs[f]? = some fn) (hb : fn.body = some cd) (hn : fn.ntmps = n)
    (h : ∀ w, T ⟨P, fp M, fp A, w, n, bodyPost P fn (FnPost P w A M C v N)⟩ (args0 0 args) H (.code [] cd))
    (hl : Nat.ble args.length n = true := by rfl) (hmA : A.all (fun p => !p.mu) = true := by rfl) (hH : AppL M A H := by repeat constructor) : Fn P f args A M C v N := by
  subst hn
  exact fn_enter hf hb (fun w => by rw [hH.eq]; exact h w) (by simpa using hl) hmA
theorem ret {P : Program} {fn : Func} {G D : List Nat} {w0 : World} {n : Nat} {A M : List Pc} {σ : Type} {C : σ → Prop} {v : σ → Value} {N : σ → List Pc} {fr : Fr} {H : List Pc} {rs : List ResultVar} {vs : List Value} (s : σ) (hC : C s) (hv : tup vs = v s)
    (hr : fn.results = rs.toArray := by rfl) (h : Res P fr H rs vs := by repeat (first | exact Res.nil | apply Res.tmp (by rfl) | apply Res.agg inferInstance (by rfl) (by first | exact .head _ | exact .tail _ (.head _) | exact .tail _ (.tail _ (.head _)) | exact .tail _ (.tail _ (.tail _ (.head _))) | exact .tail _ (.tail _ (.tail _ (.tail _ (.head _)))) | exact .tail _ (.tail _ (.tail _ (.tail _ (.tail _ (.head _))))) | exact .tail _ (.tail _ (.tail _ (.tail _ (.tail _ (.tail _ (.head _)))))) | exact .tail _ (.tail _ (.tail _ (.tail _ (.tail _ (.tail _ (.tail _ (.head _))))))) | exact .tail _ (.tail _ (.tail _ (.tail _ (.tail _ (.tail _ (.tail _ (.tail _ (.head _)))))))) | exact .tail _ (.tail _ (.tail _ (.tail _ (.tail _ (.tail _ (.tail _ (.tail _ (.tail _ (.head _))))))))) | exact .tail _ (.tail _ (.tail _ (.tail _ (.tail _ (.tail _ (.tail _ (.tail _ (.tail _ (.tail _ (.head _)))))))))) | exact .tail _ (.tail _ (.tail _ (.tail _ (.tail _ (.tail _ (.tail _ (.tail _ (.tail _ (.tail _ (.tail _ (.head _))))))))))) | exact .tail _ (.tail _ (.tail _ (.tail _ (.tail _ (.tail _ (.tail _ (.tail _ (.tail _ (.tail _ (.tail _ (.tail _ (.head _)))))))))))) | exact .tail _ (.tail _ (.tail _ (.tail _ (.tail _ (.tail _ (.tail _ (.tail _ (.tail _ (.tail _ (.tail _ (.tail _ (.tail _ (.head _)))))))))))))) (by rfl) | apply Res.one inferInstance (by rfl) (by first | exact .head _ | exact .tail _ (.head _) | exact .tail _ (.tail _ (.head _)) | exact .tail _ (.tail _ (.tail _ (.head _))) | exact .tail _ (.tail _ (.tail _ (.tail _ (.head _)))) | exact .tail _ (.tail _ (.tail _ (.tail _ (.tail _ (.head _))))) | exact .tail _ (.tail _ (.tail _ (.tail _ (.tail _ (.tail _ (.head _)))))) | exact .tail _ (.tail _ (.tail _ (.tail _ (.tail _ (.tail _ (.tail _ (.head _))))))) | exact .tail _ (.tail _ (.tail _ (.tail _ (.tail _ (.tail _ (.tail _ (.tail _ (.head _)))))))) | exact .tail _ (.tail _ (.tail _ (.tail _ (.tail _ (.tail _ (.tail _ (.tail _ (.tail _ (.head _))))))))) | exact .tail _ (.tail _ (.tail _ (.tail _ (.tail _ (.tail _ (.tail _ (.tail _ (.tail _ (.tail _ (.head _)))))))))) | exact .tail _ (.tail _ (.tail _ (.tail _ (.tail _ (.tail _ (.tail _ (.tail _ (.tail _ (.tail _ (.tail _ (.head _))))))))))) | exact .tail _ (.tail _ (.tail _ (.tail _ (.tail _ (.tail _ (.tail _ (.tail _ (.tail _ (.tail _ (.tail _ (.tail _ (.head _)))))))))))) | exact .tail _ (.tail _ (.tail _ (.tail _ (.tail _ (.tail _ (.tail _ (.tail _ (.tail _ (.tail _ (.tail _ (.tail _ (.tail _ (.head _)))))))))))))))) (hN : HSub H (N s) := by repeat (first | exact HSub.nil | refine HSub.cons (by first | exact .here | exact .there .here | exact .there (.there .here) | exact .there (.there (.there .here)) | exact .there (.there (.there (.there .here))) | exact .there (.there (.there (.there (.there .here)))) | exact .there (.there (.there (.there (.there (.there .here))))) | exact .there (.there (.there (.there (.there (.there (.there .here)))))) | exact .there (.there (.there (.there (.there (.there (.there (.there .here))))))) | exact .there (.there (.there (.there (.there (.there (.there (.there (.there .here)))))))) | exact .there (.there (.there (.there (.there (.there (.there (.there (.there (.there .here))))))))) | exact .there (.there (.there (.there (.there (.there (.there (.there (.there (.there (.there .here)))))))))) | exact .there (.there (.there (.there (.there (.there (.there (.there (.there (.there (.there (.there .here))))))))))) | exact .there (.there (.there (.there (.there (.there (.there (.there (.there (.there (.there (.there (.there .here))))))))))))) ?_)) (hG : G = fp M := by rfl) (hD : D = fp A := by rfl) : T ⟨P, G, D, w0, n, bodyPost P fn (FnPost P w0 A M C v N)⟩ fr H (.fin .ret) := fn_ret s hC hr h hv hN hG hD
/-- out of a triple: a value, nothing that was there has turned -/
theorem Fn.val {P : Program} {f : FuncId} {args : List Value} {A : List Pc} {C : Unit → Prop} {v : Value} (h : Fn P f args A [] C (fun _ => v) (fun _ => [])) (w : World) (hA : Hol A w) (hm : A.all (fun p => !p.mu) = true := by rfl) : Calls P f args.toArray w fun e w' => e = .returned v ∧ Below w.heap.size w w' :=
  have hs : ∀ (A : List Pc), A.all (fun p => !p.mu) = true → Sep A := by
    intro A
    induction A with
    | nil => intro _; trivial
    | cons p A ih =>
      intro h
      simp only [List.all_cons, Bool.and_eq_true, Bool.not_eq_true'] at h
      exact ⟨fun q hq hm => by have := List.all_eq_true.1 h.2 q hq; simp [h.1] at hm; simp [hm] at this, ih h.2⟩
  (h w (by simpa using hA) (by simpa using hs A hm)).mono fun e w' ⟨_, _, he, _, _, hk, _⟩ => ⟨he, hk.below (Nat.le_refl _) (by simp [fp])⟩
theorem sep_ro : ∀ (A : List Pc), A.all (fun p => !p.mu) = true → Sep A
  | [], _ => trivial
  | p :: A, h => by
    simp only [List.all_cons, Bool.and_eq_true, Bool.not_eq_true'] at h
    exact ⟨fun q hq hm => by have := List.all_eq_true.1 h.2 q hq; simp [h.1] at hm; simp [hm] at this, sep_ro A h.2⟩
theorem Pc.nd {p : Pc} (hm : p.mu = true) {w : World} (h : p.P w) : p.F.Nodup := by
  cases p with
  | row g t o A cs B => simp [Pc.F]
  | ow E t v xs F => exact h.1
  | own E v x F => exact h.1
  | flat E cs xs F => exact h.1
  | _ => cases hm
theorem fp_nd {w : World} : ∀ {N : List Pc}, N.all (·.mu) = true → Hol N w → Sep N → (fp N).Nodup
  | [], _, _, _ => by simp [fp]
  | p :: N, hm, hH, hs => by
    simp only [List.all_cons, Bool.and_eq_true] at hm
    refine List.nodup_append.2 ⟨Pc.nd hm.1 (hH p (by simp)), fp_nd hm.2 (fun q hq => hH q (by simp [hq])) hs.2, fun b hb b' hb' e => ?_⟩
    subst e
    obtain ⟨q, hq, hqb⟩ := mem_fp.1 hb'
    exact hs.1 q hq (by simp [hm.1]) b hb hqb
/-- out of a triple that only reads: what it returns is owned, and new -/
theorem Fn.made {P : Program} {f : FuncId} {args : List Value} {A : List Pc} {σ : Type} {C : σ → Prop} {v : σ → Value} {N : σ → List Pc} (h : Fn P f args A [] C v N) (w : World) (hA : Hol A w) (hN : ∀ s, (N s).all (·.mu) = true) (hm : A.all (fun p => !p.mu) = true := by rfl) :
    Calls P f args.toArray w fun e w' => ∃ s, C s ∧ e = .returned (v s) ∧ Hol (N s) w' ∧ (fp (N s)).Nodup ∧ (∀ b ∈ fp (N s), w.heap.size ≤ b) ∧ Below w.heap.size w w' :=
  (h w (by simpa using hA) (by simpa using sep_ro A hm)).mono fun e w' ⟨s, hC, he, hH, hS, hk, hF⟩ => ⟨s, hC, he, hH, fp_nd (hN s) hH hS, (fun b hb => by
    obtain ⟨p, hp, hpb⟩ := mem_fp.1 hb
    rcases hF p hp b hpb with h | ⟨q, hq, _⟩ | ⟨h, _⟩
    · exact h
    · simp at hq
    · have := List.all_eq_true.1 (hN s) p hp; rw [h] at this; cases this), hk.below (Nat.le_refl _) (by simp [fp])⟩
end Go.Proofs.YtidephmobajikaaDoor
/- Structs of type Link in a walk's state: opened, closed. -/
namespace Go.Proofs.YtidephmobajikaaDoor
open Go.RowKit
section
variable {c : Cx} {fr : Fr} {H : List Pc} {Φ : Gl}
theorem openLink {v : Value} {x : Link} {F : List Nat} (h : ∀ (a1 : Option Addr) (c1 : Nat) (F1 : List Nat), v = .agg #[.slice a1 x.queue.length c1, .string x.fates, .int .i64 x.used] → x.fates.size ≤ maxLen → x.queue.length ≤ maxLen → T c fr (.sl EStr (.slice a1 x.queue.length c1) x.queue F1 :: H) Φ) (hm : .isv ELink v x F ∈ H := by first | exact .head _ | exact .tail _ (.head _) | exact .tail _ (.tail _ (.head _)) | exact .tail _ (.tail _ (.tail _ (.head _))) | exact .tail _ (.tail _ (.tail _ (.tail _ (.head _)))) | exact .tail _ (.tail _ (.tail _ (.tail _ (.tail _ (.head _))))) | exact .tail _ (.tail _ (.tail _ (.tail _ (.tail _ (.tail _ (.head _)))))) | exact .tail _ (.tail _ (.tail _ (.tail _ (.tail _ (.tail _ (.tail _ (.head _))))))) | exact .tail _ (.tail _ (.tail _ (.tail _ (.tail _ (.tail _ (.tail _ (.tail _ (.head _)))))))) | exact .tail _ (.tail _ (.tail _ (.tail _ (.tail _ (.tail _ (.tail _ (.tail _ (.tail _ (.head _))))))))) | exact .tail _ (.tail _ (.tail _ (.tail _ (.tail _ (.tail _ (.tail _ (.tail _ (.tail _ (.tail _ (.head _)))))))))) | exact .tail _ (.tail _ (.tail _ (.tail _ (.tail _ (.tail _ (.tail _ (.tail _ (.tail _ (.tail _ (.tail _ (.head _))))))))))) | exact .tail _ (.tail _ (.tail _ (.tail _ (.tail _ (.tail _ (.tail _ (.tail _ (.tail _ (.tail _ (.tail _ (.tail _ (.head _)))))))))))) | exact .tail _ (.tail _ (.tail _ (.tail _ (.tail _ (.tail _ (.tail _ (.tail _ (.tail _ (.tail _ (.tail _ (.tail _ (.tail _ (.head _)))))))))))))) : T c fr H Φ := .mk fun a w s g => by
  obtain ⟨cs, rfl, v1, rfl, s1, h1⟩ := s.get hm
  obtain ⟨a1, c1, rfl⟩ := h1.slice; have l1 := h1.len
  have t1 := s.ro (p := .sl EStr (.slice a1 x.queue.length c1) x.queue F) hm rfl rfl ⟨by decide, h1⟩ fun b hb => hb
  exact (h a1 c1 F rfl s1 l1).h a w t1 g
theorem closeLink (x : Link) {a1 : Option Addr} {c1 : Nat} {F1 : List Nat} (s1 : x.fates.size ≤ maxLen) (h : T c fr (.isv ELink (.agg #[.slice a1 x.queue.length c1, .string x.fates, .int .i64 x.used]) x (F1) :: H) Φ) (m1 : .sl EStr (.slice a1 x.queue.length c1) x.queue F1 ∈ H := by first | exact .head _ | exact .tail _ (.head _) | exact .tail _ (.tail _ (.head _)) | exact .tail _ (.tail _ (.tail _ (.head _))) | exact .tail _ (.tail _ (.tail _ (.tail _ (.head _)))) | exact .tail _ (.tail _ (.tail _ (.tail _ (.tail _ (.head _))))) | exact .tail _ (.tail _ (.tail _ (.tail _ (.tail _ (.tail _ (.head _)))))) | exact .tail _ (.tail _ (.tail _ (.tail _ (.tail _ (.tail _ (.tail _ (.head _))))))) | exact .tail _ (.tail _ (.tail _ (.tail _ (.tail _ (.tail _ (.tail _ (.tail _ (.head _)))))))) | exact .tail _ (.tail _ (.tail _ (.tail _ (.tail _ (.tail _ (.tail _ (.tail _ (.tail _ (.head _))))))))) | exact .tail _ (.tail _ (.tail _ (.tail _ (.tail _ (.tail _ (.tail _ (.tail _ (.tail _ (.tail _ (.head _)))))))))) | exact .tail _ (.tail _ (.tail _ (.tail _ (.tail _ (.tail _ (.tail _ (.tail _ (.tail _ (.tail _ (.tail _ (.head _))))))))))) | exact .tail _ (.tail _ (.tail _ (.tail _ (.tail _ (.tail _ (.tail _ (.tail _ (.tail _ (.tail _ (.tail _ (.tail _ (.head _)))))))))))) | exact .tail _ (.tail _ (.tail _ (.tail _ (.tail _ (.tail _ (.tail _ (.tail _ (.tail _ (.tail _ (.tail _ (.tail _ (.tail _ (.head _)))))))))))))) : T c fr H Φ := .mk fun a w s g => by
  have hP : IsV ELink w (.agg #[.slice a1 x.queue.length c1, .string x.fates, .int .i64 x.used]) x (F1) := ⟨_, rfl, _, rfl, s1, (s.get m1).2⟩
  refine h.h a w (s.add (N := [.isv ELink (.agg #[.slice a1 x.queue.length c1, .string x.fates, .int .i64 x.used]) x (F1)]) (Below.refl _ _) (by intro q hq; simp at hq; subst hq; exact hP) ⟨by simp, trivial⟩ fun q hq b hb => ?_) g
  simp at hq; subst hq
  simp only [Pc.F, List.mem_append] at hb
  exact .inr ⟨rfl, _, m1, rfl, hb⟩
theorem openOLink {v : Value} {x : Link} {F : List Nat} {S : List Pc} (h : ∀ (a1 : Option Addr) (c1 : Nat) (F1 : List Nat), v = .agg #[.slice a1 x.queue.length c1, .string x.fates, .int .i64 x.used] → x.fates.size ≤ maxLen → x.queue.length ≤ maxLen → T c fr (.ow EStr 9 (.slice a1 x.queue.length c1) x.queue F1 :: S) Φ) (hp : Pick H (.own OLink v x F) S := by first | exact .here | exact .there .here | exact .there (.there .here) | exact .there (.there (.there .here)) | exact .there (.there (.there (.there .here))) | exact .there (.there (.there (.there (.there .here)))) | exact .there (.there (.there (.there (.there (.there .here))))) | exact .there (.there (.there (.there (.there (.there (.there .here)))))) | exact .there (.there (.there (.there (.there (.there (.there (.there .here))))))) | exact .there (.there (.there (.there (.there (.there (.there (.there (.there .here)))))))) | exact .there (.there (.there (.there (.there (.there (.there (.there (.there (.there .here))))))))) | exact .there (.there (.there (.there (.there (.there (.there (.there (.there (.there (.there .here)))))))))) | exact .there (.there (.there (.there (.there (.there (.there (.there (.there (.there (.there (.there .here))))))))))) | exact .there (.there (.there (.there (.there (.there (.there (.there (.there (.there (.there (.there (.there .here))))))))))))) : T c fr H Φ := .mk fun a w s g => by
  have z1 := s.pick hp
  obtain ⟨hn, cs, rfl, v1, rfl, s1, h1⟩ := z1.on (.own OLink v x F) (by simp)
  obtain ⟨a1, c1, rfl⟩ := h1.slice; have l1 := h1.len
  refine (h a1 c1 F rfl s1 l1).h a w (St.turn (M := [.own OLink (.agg #[.slice a1 x.queue.length c1, .string x.fates, .int .i64 x.used]) x _]) (N := [.ow EStr 9 (.slice a1 x.queue.length c1) x.queue F]) z1 (Keep.refl _ w) ?_ ?_ ?_) g
  · intro q hq; simp at hq; subst hq; exact ⟨hn, h1⟩
  · exact ⟨by simp, trivial⟩
  · intro q hq b hb; simp at hq; subst hq; exact .inr (.inl ⟨_, List.mem_singleton.2 rfl, rfl, hb⟩)
theorem closeOLink (x : Link) {a1 : Option Addr} {c1 : Nat} {F1 : List Nat} {S1 : List Pc} (s1 : x.fates.size ≤ maxLen) (h : T c fr (.own OLink (.agg #[.slice a1 x.queue.length c1, .string x.fates, .int .i64 x.used]) x (F1) :: S1) Φ) (m1 : Pick H (.ow EStr 9 (.slice a1 x.queue.length c1) x.queue F1) S1 := by first | exact .here | exact .there .here | exact .there (.there .here) | exact .there (.there (.there .here)) | exact .there (.there (.there (.there .here))) | exact .there (.there (.there (.there (.there .here)))) | exact .there (.there (.there (.there (.there (.there .here))))) | exact .there (.there (.there (.there (.there (.there (.there .here)))))) | exact .there (.there (.there (.there (.there (.there (.there (.there .here))))))) | exact .there (.there (.there (.there (.there (.there (.there (.there (.there .here)))))))) | exact .there (.there (.there (.there (.there (.there (.there (.there (.there (.there .here))))))))) | exact .there (.there (.there (.there (.there (.there (.there (.there (.there (.there (.there .here)))))))))) | exact .there (.there (.there (.there (.there (.there (.there (.there (.there (.there (.there (.there .here))))))))))) | exact .there (.there (.there (.there (.there (.there (.there (.there (.there (.there (.there (.there (.there .here)))))))))))))  : T c fr H Φ := .mk fun a w s g => by
  have z1 : St c.G c.D c.w0 ([.ow EStr 9 (.slice a1 x.queue.length c1) x.queue F1] ++ S1) w := by simpa using (show Picks H [.ow EStr 9 (.slice a1 x.queue.length c1) x.queue F1] S1 from Picks.cons m1 (Picks.nil)).st (X := []) (by simpa using s)
  obtain ⟨n1, k1⟩ := z1.on (.ow EStr 9 (.slice a1 x.queue.length c1) x.queue F1) (by simp)
  have hN := n1
  refine h.h a w (St.turn (M := [.ow EStr 9 (.slice a1 x.queue.length c1) x.queue F1]) (N := [.own OLink (.agg #[.slice a1 x.queue.length c1, .string x.fates, .int .i64 x.used]) x (F1)]) z1 (Keep.refl _ w) (by intro q hq; simp at hq; subst hq; exact ⟨hN, _, rfl, _, rfl, s1, k1⟩) ⟨by simp, trivial⟩ fun q hq b hb => ?_) g
  simp at hq; subst hq
  simp only [Pc.F, List.mem_append] at hb
  exact .inr (.inl ⟨_, List.mem_singleton.2 rfl, rfl, hb⟩)
end
end Go.Proofs.YtidephmobajikaaDoor
/- A string as a row of one. -/
namespace Go.Proofs.YtidephmobajikaaDoor
open Go.RowKit
theorem rep_s {s : ByteArray} (h : s.size ≤ maxLen) (w : World) : Flat EStr w [.string s] [s] [] := ⟨_, [], [], [], by simp, by simp, ⟨rfl, h, rfl⟩, rfl, rfl⟩
theorem rep_s2 {s r : ByteArray} (h : s.size ≤ maxLen) (h2 : r.size ≤ maxLen) (w : World) : Flat EStr w [.string s, .string r] [s, r] [] := ⟨[.string s], [.string r], [], [], by simp, by simp, ⟨rfl, h, rfl⟩, rep_s h2 w⟩
theorem t_sl {c : Cx} {fr : Fr} {H : List Pc} {Φ : Gl} {α : Type} {E : Elem α} {v : Value} {xs : List α} {F : List Nat} (h : ∀ a cp, v = .slice a xs.length cp → xs.length ≤ cp → cp ≤ 9223372036854775807 → T c fr H Φ) (hm : .sl E v xs F ∈ H := by first | exact .head _ | exact .tail _ (.head _) | exact .tail _ (.tail _ (.head _)) | exact .tail _ (.tail _ (.tail _ (.head _))) | exact .tail _ (.tail _ (.tail _ (.tail _ (.head _)))) | exact .tail _ (.tail _ (.tail _ (.tail _ (.tail _ (.head _))))) | exact .tail _ (.tail _ (.tail _ (.tail _ (.tail _ (.tail _ (.head _)))))) | exact .tail _ (.tail _ (.tail _ (.tail _ (.tail _ (.tail _ (.tail _ (.head _))))))) | exact .tail _ (.tail _ (.tail _ (.tail _ (.tail _ (.tail _ (.tail _ (.tail _ (.head _)))))))) | exact .tail _ (.tail _ (.tail _ (.tail _ (.tail _ (.tail _ (.tail _ (.tail _ (.tail _ (.head _))))))))) | exact .tail _ (.tail _ (.tail _ (.tail _ (.tail _ (.tail _ (.tail _ (.tail _ (.tail _ (.tail _ (.head _)))))))))) | exact .tail _ (.tail _ (.tail _ (.tail _ (.tail _ (.tail _ (.tail _ (.tail _ (.tail _ (.tail _ (.tail _ (.head _))))))))))) | exact .tail _ (.tail _ (.tail _ (.tail _ (.tail _ (.tail _ (.tail _ (.tail _ (.tail _ (.tail _ (.tail _ (.tail _ (.head _)))))))))))) | exact .tail _ (.tail _ (.tail _ (.tail _ (.tail _ (.tail _ (.tail _ (.tail _ (.tail _ (.tail _ (.tail _ (.tail _ (.tail _ (.head _)))))))))))))) : T c fr H Φ := .mk fun ac w s g => by
  obtain ⟨-, hs⟩ := s.get hm
  obtain ⟨a, cp, rfl⟩ := hs.slice
  obtain ⟨-, h2, h3⟩ := hs.caps
  exact (h a cp rfl h2 (by unfold maxLen at h3; omega)).h ac w s g
/-- a row of our own is an owned slice -/
theorem t_row {c : Cx} {fr : Fr} {H : List Pc} {Φ : Gl} {α : Type} {E : Elem α} {t g : Nat} {cs : List Value} {xs : List α} {S : List Pc} (hfl : ∀ w, Flat E w cs xs []) (h : T c fr (.ow E t (.slice (some ⟨g, 0, none⟩) xs.length xs.length) xs [g] :: S) Φ) (hl : xs.length ≤ 1000000) (hp : Pick H (.row g t 0 [] cs []) S := by first | exact .here | exact .there .here | exact .there (.there .here) | exact .there (.there (.there .here)) | exact .there (.there (.there (.there .here))) | exact .there (.there (.there (.there (.there .here)))) | exact .there (.there (.there (.there (.there (.there .here))))) | exact .there (.there (.there (.there (.there (.there (.there .here)))))) | exact .there (.there (.there (.there (.there (.there (.there (.there .here))))))) | exact .there (.there (.there (.there (.there (.there (.there (.there (.there .here)))))))) | exact .there (.there (.there (.there (.there (.there (.there (.there (.there (.there .here))))))))) | exact .there (.there (.there (.there (.there (.there (.there (.there (.there (.there (.there .here)))))))))) | exact .there (.there (.there (.there (.there (.there (.there (.there (.there (.there (.there (.there .here))))))))))) | exact .there (.there (.there (.there (.there (.there (.there (.there (.there (.there (.there (.there (.there .here))))))))))))) : T c fr H Φ := .mk fun a w s g' => by
  have s1 := s.pick hp
  have hr := (s1.on (.row g t 0 [] cs []) (by simp)).2
  have hlen := (hfl w).len
  refine h.h a w (s1.conv rfl ⟨by simp, .inr ⟨g, xs.length, cs, [], [], rfl, by simpa using hr, Nat.le_refl _, by unfold maxLen; omega, by simpa using hlen, hfl w, rfl⟩⟩ (by simp [Pc.F])) g'
/-- out of a contract that makes a value -/
theorem fn_made {P : Program} {f : FuncId} {args : List Value} {A : List Pc} {σ : Type} {C : σ → Prop} {v : σ → Value} {N : σ → Pc}
    (h : ∀ w, Hol A w → Calls P f args.toArray w fun e w' => ∃ s, C s ∧ e = .returned (v s) ∧ (N s).P w' ∧ (∀ b ∈ (N s).F, w.heap.size ≤ b) ∧ Below w.heap.size w w') : Fn P f args A [] C v (fun s => [N s]) := fun w hA _ => by
  refine (h w (by simpa using hA)).mono ?_
  rintro e w' ⟨s, hC, he, hN, hF, hB⟩
  refine ⟨s, hC, he, hol1 hN, ⟨by simp, trivial⟩, Keep.ofBelow hB, fun p hp b hb => ?_⟩
  simp at hp
  subst hp
  exact .inl (hF b hb)
end Go.Proofs.YtidephmobajikaaDoor
/- Links: the fate of a thing, sending it. The program. -/
namespace Go.Proofs.YtidephmobajikaaDoor
open Go.RowKit
set_option maxRecDepth 100000 in
theorem fate_f (x : Link) (g t o : Nat) (A B : List Value) (a : Option Addr) (cc : Nat) (h0 : 0 ≤ x.used) (h1 : x.used ≤ x.fates.size) (hf : x.fates.size ≤ 1000) :
    Fn Tryd.prog 146 [ptr g o 0] [] [.row g t o A [.slice a x.queue.length cc, .string x.fates, .int .i64 x.used] B] (fun (_ : Unit) => True) (fun _ => .int .u8 (fateAt x.fates x.used)) (fun _ => [.row g t o A [.slice a x.queue.length cc, .string x.fates, .int .i64 x.used] B]) := by
  refine enter Tryd.func146 rfl Tryd.ntmps146 fun w0 => ?_
  repeat (first | apply c_seq | apply c_reg | (apply wO; apply oc; rfl; exact ydE) | apply w_nil | apply n_cd | (apply wg_t; rfl; rfl) | (apply wg_f; rfl; rfl; rfl; rfl) | (apply wg_u; rfl; rfl; rfl) | (apply c_t; rfl) | (apply c_f; rfl) | apply c_skip | apply c_block | apply n_blk | apply c_exit | apply e_hit | apply e_cd | apply e_lp | (apply e_miss; rfl) | apply c_ret | (apply wO; apply o_box; rfl; rfl; rfl; intro _) | (apply wO; apply o_alloc; rfl; intro _) | (apply wO; apply o_st; rfl; rfl; rfl; (first | exact AggC.s | exact OneC.s); rfl; exact rplE; exact putE; rfl) | (apply wO; apply o_bs0; rfl; intro _) | (apply wO; apply o_bs; rfl; rfl; rfl; rfl; exact rptE; exact filE; intro _) | (apply wO; apply o_call; rfl; kernel_rfl; exact evsE))
  refine d_start [0] [] ?_
  refine dt 0 ?_
  refine dt 1 ?_
  refine dt 2 ?_
  refine dt 3 ?_
  refine dt 4 ?_
  refine dt 5 ?_
  refine dt 6 ?_
  refine dt 7 ?_
  refine dt 8 ?_
  refine dt 9 ?_
  refine dd ?_
  repeat (first | apply c_seq | apply c_reg | (apply wO; apply oc; rfl; exact ydE) | apply w_nil | apply n_cd | (apply wg_t; rfl; rfl) | (apply wg_f; rfl; rfl; rfl; rfl) | (apply wg_u; rfl; rfl; rfl) | (apply c_t; rfl) | (apply c_f; rfl) | apply c_skip | apply c_block | apply n_blk | apply c_exit | apply e_hit | apply e_cd | apply e_lp | (apply e_miss; rfl) | apply c_ret | (apply wO; apply o_box; rfl; rfl; rfl; intro _) | (apply wO; apply o_alloc; rfl; intro _) | (apply wO; apply o_st; rfl; rfl; rfl; (first | exact AggC.s | exact OneC.s); rfl; exact rplE; exact putE; rfl) | (apply wO; apply o_bs0; rfl; intro _) | (apply wO; apply o_bs; rfl; rfl; rfl; rfl; exact rptE; exact filE; intro _) | (apply wO; apply o_call; rfl; kernel_rfl; exact evsE))
  refine c_if rfl (fun h => ?_) (fun h => ?_)
  · repeat (first | apply c_seq | apply c_reg | (apply wO; apply oc; rfl; exact ydE) | apply w_nil | apply n_cd | (apply wg_t; rfl; rfl) | (apply wg_f; rfl; rfl; rfl; rfl) | (apply wg_u; rfl; rfl; rfl) | (apply c_t; rfl) | (apply c_f; rfl) | apply c_skip | apply c_block | apply n_blk | apply c_exit | apply e_hit | apply e_cd | apply e_lp | (apply e_miss; rfl) | apply c_ret | (apply wO; apply o_box; rfl; rfl; rfl; intro _) | (apply wO; apply o_alloc; rfl; intro _) | (apply wO; apply o_st; rfl; rfl; rfl; (first | exact AggC.s | exact OneC.s); rfl; exact rplE; exact putE; rfl) | (apply wO; apply o_bs0; rfl; intro _) | (apply wO; apply o_bs; rfl; rfl; rfl; rfl; exact rptE; exact filE; intro _) | (apply wO; apply o_call; rfl; kernel_rfl; exact evsE))
    rw [← fateAt_end h]
    refine ret () trivial rfl
  · repeat (first | apply c_seq | apply c_reg | (apply wO; apply oc; rfl; exact ydE) | apply w_nil | apply n_cd | (apply wg_t; rfl; rfl) | (apply wg_f; rfl; rfl; rfl; rfl) | (apply wg_u; rfl; rfl; rfl) | (apply c_t; rfl) | (apply c_f; rfl) | apply c_skip | apply c_block | apply n_blk | apply c_exit | apply e_hit | apply e_cd | apply e_lp | (apply e_miss; rfl) | apply c_ret | (apply wO; apply o_box; rfl; rfl; rfl; intro _) | (apply wO; apply o_alloc; rfl; intro _) | (apply wO; apply o_st; rfl; rfl; rfl; (first | exact AggC.s | exact OneC.s); rfl; exact rplE; exact putE; rfl) | (apply wO; apply o_bs0; rfl; intro _) | (apply wO; apply o_bs; rfl; rfl; rfl; rfl; exact rptE; exact filE; intro _) | (apply wO; apply o_call; rfl; kernel_rfl; exact evsE))
    have hu : x.used.toNat < x.fates.size := by omega
    refine d_start [0] [] ?_
    refine dt 0 ?_
    refine dt 1 ?_
    refine dt 2 ?_
    refine dt 3 ?_
    refine dt 4 ?_
    refine dt 5 ?_
    refine dt 6 ?_
    refine dt 7 ?_
    refine dt 8 ?_
    refine dt 9 ?_
    refine dd ?_
    repeat (first | apply c_seq | apply c_reg | (apply wO; apply oc; rfl; exact ydE) | apply w_nil | apply n_cd | (apply wg_t; rfl; rfl) | (apply wg_f; rfl; rfl; rfl; rfl) | (apply wg_u; rfl; rfl; rfl) | (apply c_t; rfl) | (apply c_f; rfl) | apply c_skip | apply c_block | apply n_blk | apply c_exit | apply e_hit | apply e_cd | apply e_lp | (apply e_miss; rfl) | apply c_ret | (apply wO; apply o_box; rfl; rfl; rfl; intro _) | (apply wO; apply o_alloc; rfl; intro _) | (apply wO; apply o_st; rfl; rfl; rfl; (first | exact AggC.s | exact OneC.s); rfl; exact rplE; exact putE; rfl) | (apply wO; apply o_bs0; rfl; intro _) | (apply wO; apply o_bs; rfl; rfl; rfl; rfl; exact rptE; exact filE; intro _) | (apply wO; apply o_call; rfl; kernel_rfl; exact evsE))
    rw [← fateAt_lt h hu]
    refine ret () trivial rfl
theorem Insert_f (a : Option Addr) (n c : Nat) (xs : List ByteArray) (F : List Nat) (i : Nat) (s : ByteArray) (vb : Nat) (hi : i ≤ xs.length) (hs : s.size ≤ maxLen) (hl : xs.length ≤ 4294967296) :
    Fn Tryd.prog 187 [.slice a n c, .int .i64 i, .slice (some ⟨vb, 0, none⟩) 1 1] [] [.ow EStr 9 (.slice a n c) xs F, .row vb 9 0 [] [.string s] []] (fun (_ : Option Addr × Nat × List Nat) => True)
      (fun z => .slice z.1 (xs.take i ++ s :: xs.drop i).length z.2.1) (fun z => [.ow EStr 9 (.slice z.1 (xs.take i ++ s :: xs.drop i).length z.2.1) (xs.take i ++ s :: xs.drop i) z.2.2]) := fun w hH hS => by
  have h1 := hH (.ow EStr 9 (.slice a n c) xs F) (by simp)
  have h2 := hH (.row vb 9 0 [] [.string s] []) (by simp)
  have hv : vb ∉ F := fun hm => hS.1 (.row vb 9 0 [] [.string s] []) (by simp) (by simp [Pc.mu]) vb hm (by simp [Pc.F])
  refine (Insert_String a n c xs F i s vb w h1.2 hi (by simpa using h2.2) hv hs hl).mono ?_
  rintro e w' ⟨v', F', rfl, ho, hn, hF, hk⟩
  obtain ⟨a', c', rfl⟩ := ho.slice
  refine ⟨(a', c', F'), trivial, rfl, hol1 ⟨hn, ho⟩, ⟨by simp, trivial⟩, hk.mono (fun b hb _ => by simp [fp, Pc.F, hb]), fun p hp b hb => ?_⟩
  simp at hp
  subst hp
  rcases hF b hb with h | h
  · exact .inr (.inl ⟨_, List.mem_cons_self .., h⟩)
  · exact .inl (by omega)
structure LinkS where
  a : Option Addr
  c : Nat
  F : List Nat
def sendL (x : Link) (s : ByteArray) : Link := if sendOk x s then sentL x s else x
set_option maxRecDepth 100000 in
theorem send_f (x : Link) (s : ByteArray) (g t o : Nat) (A B : List Value) (a : Option Addr) (cc : Nat) (F : List Nat) (hx : goodLink x = true) (hs : s.size ≤ maxLen) :
    Fn Tryd.prog 141 [ptr g o 0, .string s] [] [.row g t o A [.slice a x.queue.length cc, .string x.fates, .int .i64 x.used] B, .ow EStr 9 (.slice a x.queue.length cc) x.queue F] (fun (_ : LinkS) => True) (fun _ => .bool (sendOk x s))
      (fun z => [.row g t o A [.slice z.a (sendL x s).queue.length z.c, .string (sendL x s).fates, .int .i64 (sendL x s).used] B, .ow EStr 9 (.slice z.a (sendL x s).queue.length z.c) (sendL x s).queue z.F]) := by
  obtain ⟨hl, hq, hf, hu0, hu1⟩ := goodL_of hx
  have hor := fate_or hx
  have no : sendOk x s = false → sendL x s = x := fun h => by unfold sendL; rw [h]; rfl
  have yes : sendOk x s = true → sendL x s = sentL x s := fun h => by unfold sendL; rw [h]; rfl
  refine enter Tryd.func141 rfl Tryd.ntmps141 fun w0 => ?_
  repeat (first | apply c_seq | apply c_reg | (apply wO; apply oc; rfl; exact ydE) | apply w_nil | apply n_cd | (apply wg_t; rfl; rfl) | (apply wg_f; rfl; rfl; rfl; rfl) | (apply wg_u; rfl; rfl; rfl) | (apply c_t; rfl) | (apply c_f; rfl) | apply c_skip | apply c_block | apply n_blk | apply c_exit | apply e_hit | apply e_cd | apply e_lp | (apply e_miss; rfl) | apply c_ret | (apply wO; apply o_box; rfl; rfl; rfl; intro _) | (apply wO; apply o_alloc; rfl; intro _) | (apply wO; apply o_st; rfl; rfl; rfl; (first | exact AggC.s | exact OneC.s); rfl; exact rplE; exact putE; rfl) | (apply wO; apply o_bs0; rfl; intro _) | (apply wO; apply o_bs; rfl; rfl; rfl; rfl; exact rptE; exact filE; intro _) | (apply wO; apply o_call; rfl; kernel_rfl; exact evsE))
  refine cf (fate_f x g t o A B a cc hu0 hu1 (by omega)) fun _ _ => ?_
  refine t_app ?_
  repeat (first | apply c_seq | apply c_reg | (apply wO; apply oc; rfl; exact ydE) | apply w_nil | apply n_cd | (apply wg_t; rfl; rfl) | (apply wg_f; rfl; rfl; rfl; rfl) | (apply wg_u; rfl; rfl; rfl) | (apply c_t; rfl) | (apply c_f; rfl) | apply c_skip | apply c_block | apply n_blk | apply c_exit | apply e_hit | apply e_cd | apply e_lp | (apply e_miss; rfl) | apply c_ret | (apply wO; apply o_box; rfl; rfl; rfl; intro _) | (apply wO; apply o_alloc; rfl; intro _) | (apply wO; apply o_st; rfl; rfl; rfl; (first | exact AggC.s | exact OneC.s); rfl; exact rplE; exact putE; rfl) | (apply wO; apply o_bs0; rfl; intro _) | (apply wO; apply o_bs; rfl; rfl; rfl; rfl; exact rptE; exact filE; intro _) | (apply wO; apply o_call; rfl; kernel_rfl; exact evsE))
  refine wg_if rfl rfl (fun h1 => ?_) (fun h1 => ?_)
  · have h : sendOk x s = false := by unfold sendOk; rw [decide_eq_true h1]; rfl
    repeat (first | apply c_seq | apply c_reg | (apply wO; apply oc; rfl; exact ydE) | apply w_nil | apply n_cd | (apply wg_t; rfl; rfl) | (apply wg_f; rfl; rfl; rfl; rfl) | (apply wg_u; rfl; rfl; rfl) | (apply c_t; rfl) | (apply c_f; rfl) | apply c_skip | apply c_block | apply n_blk | apply c_exit | apply e_hit | apply e_cd | apply e_lp | (apply e_miss; rfl) | apply c_ret | (apply wO; apply o_box; rfl; rfl; rfl; intro _) | (apply wO; apply o_alloc; rfl; intro _) | (apply wO; apply o_st; rfl; rfl; rfl; (first | exact AggC.s | exact OneC.s); rfl; exact rplE; exact putE; rfl) | (apply wO; apply o_bs0; rfl; intro _) | (apply wO; apply o_bs; rfl; rfl; rfl; rfl; exact rptE; exact filE; intro _) | (apply wO; apply o_call; rfl; kernel_rfl; exact evsE))
    rw [no h, h]
    refine ret ⟨a, cc, F⟩ trivial rfl
  generalize hfe : fateAt x.fates x.used = f at hor
  have fin : ∀ q, sentQ x.queue f s = q → (f = 108 ∨ ¬ x.queue.length = 8) → sendOk x s = true ∧ sentL x s = ⟨q, x.fates, min (x.used + 1) x.fates.size⟩ := fun q e h => by
    subst hfe
    refine ⟨?_, by unfold sentL; rw [e]⟩
    unfold sendOk
    rw [decide_eq_false h1]
    rcases h with h | h
    · rw [decide_eq_true h]; rfl
    · rw [decide_eq_false h]; simp
  repeat (first | apply c_seq | apply c_reg | (apply wO; apply oc; rfl; exact ydE) | apply w_nil | apply n_cd | (apply wg_t; rfl; rfl) | (apply wg_f; rfl; rfl; rfl; rfl) | (apply wg_u; rfl; rfl; rfl) | (apply c_t; rfl) | (apply c_f; rfl) | apply c_skip | apply c_block | apply n_blk | apply c_exit | apply e_hit | apply e_cd | apply e_lp | (apply e_miss; rfl) | apply c_ret | (apply wO; apply o_box; rfl; rfl; rfl; intro _) | (apply wO; apply o_alloc; rfl; intro _) | (apply wO; apply o_st; rfl; rfl; rfl; (first | exact AggC.s | exact OneC.s); rfl; exact rplE; exact putE; rfl) | (apply wO; apply o_bs0; rfl; intro _) | (apply wO; apply o_bs; rfl; rfl; rfl; rfl; exact rptE; exact filE; intro _) | (apply wO; apply o_call; rfl; kernel_rfl; exact evsE))
  refine wg_if rfl rfl (fun h2 => ?_) (fun h2 => ?_)
  · repeat (first | apply c_seq | apply c_reg | (apply wO; apply oc; rfl; exact ydE) | apply w_nil | apply n_cd | (apply wg_t; rfl; rfl) | (apply wg_f; rfl; rfl; rfl; rfl) | (apply wg_u; rfl; rfl; rfl) | (apply c_t; rfl) | (apply c_f; rfl) | apply c_skip | apply c_block | apply n_blk | apply c_exit | apply e_hit | apply e_cd | apply e_lp | (apply e_miss; rfl) | apply c_ret | (apply wO; apply o_box; rfl; rfl; rfl; intro _) | (apply wO; apply o_alloc; rfl; intro _) | (apply wO; apply o_st; rfl; rfl; rfl; (first | exact AggC.s | exact OneC.s); rfl; exact rplE; exact putE; rfl) | (apply wO; apply o_bs0; rfl; intro _) | (apply wO; apply o_bs; rfl; rfl; rfl; rfl; exact rptE; exact filE; intro _) | (apply wO; apply o_call; rfl; kernel_rfl; exact evsE))
    refine c_if rfl (fun h3 => ?_) (fun h3 => ?_)
    · have h : sendOk x s = false := by unfold sendOk; rw [hfe, decide_eq_false h2, decide_eq_true (show x.queue.length = 8 by omega)]; simp
      repeat (first | apply c_seq | apply c_reg | (apply wO; apply oc; rfl; exact ydE) | apply w_nil | apply n_cd | (apply wg_t; rfl; rfl) | (apply wg_f; rfl; rfl; rfl; rfl) | (apply wg_u; rfl; rfl; rfl) | (apply c_t; rfl) | (apply c_f; rfl) | apply c_skip | apply c_block | apply n_blk | apply c_exit | apply e_hit | apply e_cd | apply e_lp | (apply e_miss; rfl) | apply c_ret | (apply wO; apply o_box; rfl; rfl; rfl; intro _) | (apply wO; apply o_alloc; rfl; intro _) | (apply wO; apply o_st; rfl; rfl; rfl; (first | exact AggC.s | exact OneC.s); rfl; exact rplE; exact putE; rfl) | (apply wO; apply o_bs0; rfl; intro _) | (apply wO; apply o_bs; rfl; rfl; rfl; rfl; exact rptE; exact filE; intro _) | (apply wO; apply o_call; rfl; kernel_rfl; exact evsE))
      rw [no h, h]
      refine ret ⟨a, cc, F⟩ trivial rfl
    repeat (first | apply c_seq | apply c_reg | (apply wO; apply oc; rfl; exact ydE) | apply w_nil | apply n_cd | (apply wg_t; rfl; rfl) | (apply wg_f; rfl; rfl; rfl; rfl) | (apply wg_u; rfl; rfl; rfl) | (apply c_t; rfl) | (apply c_f; rfl) | apply c_skip | apply c_block | apply n_blk | apply c_exit | apply e_hit | apply e_cd | apply e_lp | (apply e_miss; rfl) | apply c_ret | (apply wO; apply o_box; rfl; rfl; rfl; intro _) | (apply wO; apply o_alloc; rfl; intro _) | (apply wO; apply o_st; rfl; rfl; rfl; (first | exact AggC.s | exact OneC.s); rfl; exact rplE; exact putE; rfl) | (apply wO; apply o_bs0; rfl; intro _) | (apply wO; apply o_bs; rfl; rfl; rfl; rfl; exact rptE; exact filE; intro _) | (apply wO; apply o_call; rfl; kernel_rfl; exact evsE))
    refine d_start [0] [14] ?_
    refine dt 0 ?_
    refine dt 1 ?_
    refine dt 2 ?_
    refine dt 3 ?_
    refine dt 4 ?_
    refine dt 5 ?_
    refine dt 6 ?_
    refine dt 7 ?_
    refine dt 8 ?_
    refine dt 9 ?_
    refine dt 10 ?_
    refine dt 11 ?_
    refine dt 12 ?_
    refine dt 13 ?_
    refine dO 14 (by kernel_rfl) (by rw [List.getElem?_toArray]; rfl) ?_
    apply o_st; rfl; rfl; rfl; (first | exact AggC.s | exact OneC.s); rfl; exact rplE; exact putE; rfl
    refine dkx ?_
    refine dd ?_
    repeat (first | apply c_seq | apply c_reg | (apply wO; apply oc; rfl; exact ydE) | apply w_nil | apply n_cd | (apply wg_t; rfl; rfl) | (apply wg_f; rfl; rfl; rfl; rfl) | (apply wg_u; rfl; rfl; rfl) | (apply c_t; rfl) | (apply c_f; rfl) | apply c_skip | apply c_block | apply n_blk | apply c_exit | apply e_hit | apply e_cd | apply e_lp | (apply e_miss; rfl) | apply c_ret | (apply wO; apply o_box; rfl; rfl; rfl; intro _) | (apply wO; apply o_alloc; rfl; intro _) | (apply wO; apply o_st; rfl; rfl; rfl; (first | exact AggC.s | exact OneC.s); rfl; exact rplE; exact putE; rfl) | (apply wO; apply o_bs0; rfl; intro _) | (apply wO; apply o_bs; rfl; rfl; rfl; rfl; exact rptE; exact filE; intro _) | (apply wO; apply o_call; rfl; kernel_rfl; exact evsE))
    refine c_if rfl (fun e1 => ?_) (fun e1 => ?_)
    · obtain ⟨o1, o2⟩ := fin (x.queue ++ [s]) (by unfold sentQ; subst e1; simp) (.inr (by omega))
      rw [yes o1, o1, o2]
      repeat (first | apply c_seq | apply c_reg | (apply wO; apply oc; rfl; exact ydE) | apply w_nil | apply n_cd | (apply wg_t; rfl; rfl) | (apply wg_f; rfl; rfl; rfl; rfl) | (apply wg_u; rfl; rfl; rfl) | (apply c_t; rfl) | (apply c_f; rfl) | apply c_skip | apply c_block | apply n_blk | apply c_exit | apply e_hit | apply e_cd | apply e_lp | (apply e_miss; rfl) | apply c_ret | (apply wO; apply o_box; rfl; rfl; rfl; intro _) | (apply wO; apply o_alloc; rfl; intro _) | (apply wO; apply o_st; rfl; rfl; rfl; (first | exact AggC.s | exact OneC.s); rfl; exact rplE; exact putE; rfl) | (apply wO; apply o_bs0; rfl; intro _) | (apply wO; apply o_bs; rfl; rfl; rfl; rfl; exact rptE; exact filE; intro _) | (apply wO; apply o_call; rfl; kernel_rfl; exact evsE))
      apply wO
      refine ap1 (rep_s hs) one_EStr fun a' c' F' => ?_
      repeat (first | apply c_seq | apply c_reg | (apply wO; apply oc; rfl; exact ydE) | apply w_nil | apply n_cd | (apply wg_t; rfl; rfl) | (apply wg_f; rfl; rfl; rfl; rfl) | (apply wg_u; rfl; rfl; rfl) | (apply c_t; rfl) | (apply c_f; rfl) | apply c_skip | apply c_block | apply n_blk | apply c_exit | apply e_hit | apply e_cd | apply e_lp | (apply e_miss; rfl) | apply c_ret | (apply wO; apply o_box; rfl; rfl; rfl; intro _) | (apply wO; apply o_alloc; rfl; intro _) | (apply wO; apply o_st; rfl; rfl; rfl; (first | exact AggC.s | exact OneC.s); rfl; exact rplE; exact putE; rfl) | (apply wO; apply o_bs0; rfl; intro _) | (apply wO; apply o_bs; rfl; rfl; rfl; rfl; exact rptE; exact filE; intro _) | (apply wO; apply o_call; rfl; kernel_rfl; exact evsE))
      refine ret ⟨a', c', F'⟩ trivial rfl
    repeat (first | apply c_seq | apply c_reg | (apply wO; apply oc; rfl; exact ydE) | apply w_nil | apply n_cd | (apply wg_t; rfl; rfl) | (apply wg_f; rfl; rfl; rfl; rfl) | (apply wg_u; rfl; rfl; rfl) | (apply c_t; rfl) | (apply c_f; rfl) | apply c_skip | apply c_block | apply n_blk | apply c_exit | apply e_hit | apply e_cd | apply e_lp | (apply e_miss; rfl) | apply c_ret | (apply wO; apply o_box; rfl; rfl; rfl; intro _) | (apply wO; apply o_alloc; rfl; intro _) | (apply wO; apply o_st; rfl; rfl; rfl; (first | exact AggC.s | exact OneC.s); rfl; exact rplE; exact putE; rfl) | (apply wO; apply o_bs0; rfl; intro _) | (apply wO; apply o_bs; rfl; rfl; rfl; rfl; exact rptE; exact filE; intro _) | (apply wO; apply o_call; rfl; kernel_rfl; exact evsE))
    refine c_if rfl (fun e2 => ?_) (fun e2 => ?_)
    · repeat (first | apply c_seq | apply c_reg | (apply wO; apply oc; rfl; exact ydE) | apply w_nil | apply n_cd | (apply wg_t; rfl; rfl) | (apply wg_f; rfl; rfl; rfl; rfl) | (apply wg_u; rfl; rfl; rfl) | (apply c_t; rfl) | (apply c_f; rfl) | apply c_skip | apply c_block | apply n_blk | apply c_exit | apply e_hit | apply e_cd | apply e_lp | (apply e_miss; rfl) | apply c_ret | (apply wO; apply o_box; rfl; rfl; rfl; intro _) | (apply wO; apply o_alloc; rfl; intro _) | (apply wO; apply o_st; rfl; rfl; rfl; (first | exact AggC.s | exact OneC.s); rfl; exact rplE; exact putE; rfl) | (apply wO; apply o_bs0; rfl; intro _) | (apply wO; apply o_bs; rfl; rfl; rfl; rfl; exact rptE; exact filE; intro _) | (apply wO; apply o_call; rfl; kernel_rfl; exact evsE))
      apply wO
      refine ap1 (rep_s hs) one_EStr fun a' c' F' => ?_
      have hl1 : (x.queue ++ [s]).length = x.queue.length + 1 := by simp
      repeat (first | apply c_seq | apply c_reg | (apply wO; apply oc; rfl; exact ydE) | apply w_nil | apply n_cd | (apply wg_t; rfl; rfl) | (apply wg_f; rfl; rfl; rfl; rfl) | (apply wg_u; rfl; rfl; rfl) | (apply c_t; rfl) | (apply c_f; rfl) | apply c_skip | apply c_block | apply n_blk | apply c_exit | apply e_hit | apply e_cd | apply e_lp | (apply e_miss; rfl) | apply c_ret | (apply wO; apply o_box; rfl; rfl; rfl; intro _) | (apply wO; apply o_alloc; rfl; intro _) | (apply wO; apply o_st; rfl; rfl; rfl; (first | exact AggC.s | exact OneC.s); rfl; exact rplE; exact putE; rfl) | (apply wO; apply o_bs0; rfl; intro _) | (apply wO; apply o_bs; rfl; rfl; rfl; rfl; exact rptE; exact filE; intro _) | (apply wO; apply o_call; rfl; kernel_rfl; exact evsE))
      refine c_if rfl (fun e3 => ?_) (fun e3 => ?_)
      · obtain ⟨o1, o2⟩ := fin (x.queue ++ [s] ++ [s]) (by unfold sentQ; subst e2; rw [if_neg (by decide), if_neg (by simp), if_pos ⟨rfl, by omega⟩, List.append_assoc]; rfl) (.inr (by omega))
        rw [yes o1, o1, o2]
        repeat (first | apply c_seq | apply c_reg | (apply wO; apply oc; rfl; exact ydE) | apply w_nil | apply n_cd | (apply wg_t; rfl; rfl) | (apply wg_f; rfl; rfl; rfl; rfl) | (apply wg_u; rfl; rfl; rfl) | (apply c_t; rfl) | (apply c_f; rfl) | apply c_skip | apply c_block | apply n_blk | apply c_exit | apply e_hit | apply e_cd | apply e_lp | (apply e_miss; rfl) | apply c_ret | (apply wO; apply o_box; rfl; rfl; rfl; intro _) | (apply wO; apply o_alloc; rfl; intro _) | (apply wO; apply o_st; rfl; rfl; rfl; (first | exact AggC.s | exact OneC.s); rfl; exact rplE; exact putE; rfl) | (apply wO; apply o_bs0; rfl; intro _) | (apply wO; apply o_bs; rfl; rfl; rfl; rfl; exact rptE; exact filE; intro _) | (apply wO; apply o_call; rfl; kernel_rfl; exact evsE))
        apply wO
        refine ap1 (rep_s hs) one_EStr fun a' c' F' => ?_
        repeat (first | apply c_seq | apply c_reg | (apply wO; apply oc; rfl; exact ydE) | apply w_nil | apply n_cd | (apply wg_t; rfl; rfl) | (apply wg_f; rfl; rfl; rfl; rfl) | (apply wg_u; rfl; rfl; rfl) | (apply c_t; rfl) | (apply c_f; rfl) | apply c_skip | apply c_block | apply n_blk | apply c_exit | apply e_hit | apply e_cd | apply e_lp | (apply e_miss; rfl) | apply c_ret | (apply wO; apply o_box; rfl; rfl; rfl; intro _) | (apply wO; apply o_alloc; rfl; intro _) | (apply wO; apply o_st; rfl; rfl; rfl; (first | exact AggC.s | exact OneC.s); rfl; exact rplE; exact putE; rfl) | (apply wO; apply o_bs0; rfl; intro _) | (apply wO; apply o_bs; rfl; rfl; rfl; rfl; exact rptE; exact filE; intro _) | (apply wO; apply o_call; rfl; kernel_rfl; exact evsE))
        refine ret ⟨a', c', F'⟩ trivial rfl
      · obtain ⟨o1, o2⟩ := fin (x.queue ++ [s]) (by unfold sentQ; subst e2; rw [if_neg (by decide), if_neg (by simp), if_neg (by omega)]) (.inr (by omega))
        rw [yes o1, o1, o2]
        repeat (first | apply c_seq | apply c_reg | (apply wO; apply oc; rfl; exact ydE) | apply w_nil | apply n_cd | (apply wg_t; rfl; rfl) | (apply wg_f; rfl; rfl; rfl; rfl) | (apply wg_u; rfl; rfl; rfl) | (apply c_t; rfl) | (apply c_f; rfl) | apply c_skip | apply c_block | apply n_blk | apply c_exit | apply e_hit | apply e_cd | apply e_lp | (apply e_miss; rfl) | apply c_ret | (apply wO; apply o_box; rfl; rfl; rfl; intro _) | (apply wO; apply o_alloc; rfl; intro _) | (apply wO; apply o_st; rfl; rfl; rfl; (first | exact AggC.s | exact OneC.s); rfl; exact rplE; exact putE; rfl) | (apply wO; apply o_bs0; rfl; intro _) | (apply wO; apply o_bs; rfl; rfl; rfl; rfl; exact rptE; exact filE; intro _) | (apply wO; apply o_call; rfl; kernel_rfl; exact evsE))
        refine ret ⟨a', c', F'⟩ trivial rfl
    repeat (first | apply c_seq | apply c_reg | (apply wO; apply oc; rfl; exact ydE) | apply w_nil | apply n_cd | (apply wg_t; rfl; rfl) | (apply wg_f; rfl; rfl; rfl; rfl) | (apply wg_u; rfl; rfl; rfl) | (apply c_t; rfl) | (apply c_f; rfl) | apply c_skip | apply c_block | apply n_blk | apply c_exit | apply e_hit | apply e_cd | apply e_lp | (apply e_miss; rfl) | apply c_ret | (apply wO; apply o_box; rfl; rfl; rfl; intro _) | (apply wO; apply o_alloc; rfl; intro _) | (apply wO; apply o_st; rfl; rfl; rfl; (first | exact AggC.s | exact OneC.s); rfl; exact rplE; exact putE; rfl) | (apply wO; apply o_bs0; rfl; intro _) | (apply wO; apply o_bs; rfl; rfl; rfl; rfl; exact rptE; exact filE; intro _) | (apply wO; apply o_call; rfl; kernel_rfl; exact evsE))
    refine c_if rfl (fun e3 => ?_) (fun e3 => ?_)
    · have hQ : sentQ x.queue f s = x.queue.take (x.queue.length - 1) ++ s :: x.queue.drop (x.queue.length - 1) := by
        unfold sentQ; subst e3; rw [if_neg (by decide)]
        by_cases h0 : 0 < x.queue.length
        · rw [if_pos ⟨rfl, h0⟩]
        · rw [if_neg (by omega), if_neg (by omega)]
          have : x.queue = [] := List.eq_nil_of_length_eq_zero (by omega)
          rw [this]; rfl
      obtain ⟨o1, o2⟩ := fin _ hQ (.inr (by omega))
      rw [yes o1, o1, o2]
      repeat (first | apply c_seq | apply c_reg | (apply wO; apply oc; rfl; exact ydE) | apply w_nil | apply n_cd | (apply wg_t; rfl; rfl) | (apply wg_f; rfl; rfl; rfl; rfl) | (apply wg_u; rfl; rfl; rfl) | (apply c_t; rfl) | (apply c_f; rfl) | apply c_skip | apply c_block | apply n_blk | apply c_exit | apply e_hit | apply e_cd | apply e_lp | (apply e_miss; rfl) | apply c_ret | (apply wO; apply o_box; rfl; rfl; rfl; intro _) | (apply wO; apply o_alloc; rfl; intro _) | (apply wO; apply o_st; rfl; rfl; rfl; (first | exact AggC.s | exact OneC.s); rfl; exact rplE; exact putE; rfl) | (apply wO; apply o_bs0; rfl; intro _) | (apply wO; apply o_bs; rfl; rfl; rfl; rfl; exact rptE; exact filE; intro _) | (apply wO; apply o_call; rfl; kernel_rfl; exact evsE))
      refine d_start [0] [17] ?_
      refine dt 0 ?_
      refine dt 1 ?_
      refine dt 2 ?_
      refine dt 3 ?_
      refine dt 4 ?_
      refine dt 5 ?_
      refine dt 6 ?_
      refine dt 7 ?_
      refine dt 8 ?_
      refine dt 9 ?_
      refine dt 10 ?_
      refine dt 11 ?_
      refine dt 12 ?_
      refine dO 13 (by kernel_rfl) (by rw [List.getElem?_toArray]; rfl) ?_
      apply o_bs; rfl; rfl; rfl; rfl; exact rptE; exact filE; intro _
      refine dk ?_
      refine dO 14 (by kernel_rfl) (by rw [List.getElem?_toArray]; rfl) ?_
      apply o_call; rfl; kernel_rfl; exact evsE
      have e : max (0 : Int) (x.queue.length - 1) = ((x.queue.length - 1 : Nat) : Int) := by omega
      rw [e]
      refine cf (Insert_f _ _ _ x.queue _ (x.queue.length - 1) s _ (by omega) hs (by omega)) fun z _ => ?_
      refine t_app ?_
      refine dk ?_
      refine dt 15 ?_
      refine dt 16 ?_
      refine dO 17 (by kernel_rfl) (by rw [List.getElem?_toArray]; rfl) ?_
      apply o_st; rfl; rfl; rfl; (first | exact AggC.s | exact OneC.s); rfl; exact rplE; exact putE; rfl
      refine dkx ?_
      refine dd ?_
      repeat (first | apply c_seq | apply c_reg | (apply wO; apply oc; rfl; exact ydE) | apply w_nil | apply n_cd | (apply wg_t; rfl; rfl) | (apply wg_f; rfl; rfl; rfl; rfl) | (apply wg_u; rfl; rfl; rfl) | (apply c_t; rfl) | (apply c_f; rfl) | apply c_skip | apply c_block | apply n_blk | apply c_exit | apply e_hit | apply e_cd | apply e_lp | (apply e_miss; rfl) | apply c_ret | (apply wO; apply o_box; rfl; rfl; rfl; intro _) | (apply wO; apply o_alloc; rfl; intro _) | (apply wO; apply o_st; rfl; rfl; rfl; (first | exact AggC.s | exact OneC.s); rfl; exact rplE; exact putE; rfl) | (apply wO; apply o_bs0; rfl; intro _) | (apply wO; apply o_bs; rfl; rfl; rfl; rfl; exact rptE; exact filE; intro _) | (apply wO; apply o_call; rfl; kernel_rfl; exact evsE))
      refine ret ⟨z.1, z.2.1, z.2.2⟩ trivial rfl
    · omega
  · have h2' : f = 108 := by omega
    obtain ⟨o1, o2⟩ := fin x.queue (by unfold sentQ; rw [if_pos h2']) (.inl h2')
    rw [yes o1, o1, o2]
    subst h2'
    repeat (first | apply c_seq | apply c_reg | (apply wO; apply oc; rfl; exact ydE) | apply w_nil | apply n_cd | (apply wg_t; rfl; rfl) | (apply wg_f; rfl; rfl; rfl; rfl) | (apply wg_u; rfl; rfl; rfl) | (apply c_t; rfl) | (apply c_f; rfl) | apply c_skip | apply c_block | apply n_blk | apply c_exit | apply e_hit | apply e_cd | apply e_lp | (apply e_miss; rfl) | apply c_ret | (apply wO; apply o_box; rfl; rfl; rfl; intro _) | (apply wO; apply o_alloc; rfl; intro _) | (apply wO; apply o_st; rfl; rfl; rfl; (first | exact AggC.s | exact OneC.s); rfl; exact rplE; exact putE; rfl) | (apply wO; apply o_bs0; rfl; intro _) | (apply wO; apply o_bs; rfl; rfl; rfl; rfl; exact rptE; exact filE; intro _) | (apply wO; apply o_call; rfl; kernel_rfl; exact evsE))
    refine d_start [0] [14] ?_
    refine dt 0 ?_
    refine dt 1 ?_
    refine dt 2 ?_
    refine dt 3 ?_
    refine dt 4 ?_
    refine dt 5 ?_
    refine dt 6 ?_
    refine dt 7 ?_
    refine dt 8 ?_
    refine dt 9 ?_
    refine dt 10 ?_
    refine dt 11 ?_
    refine dt 12 ?_
    refine dt 13 ?_
    refine dO 14 (by kernel_rfl) (by rw [List.getElem?_toArray]; rfl) ?_
    apply o_st; rfl; rfl; rfl; (first | exact AggC.s | exact OneC.s); rfl; exact rplE; exact putE; rfl
    refine dkx ?_
    refine dd ?_
    repeat (first | apply c_seq | apply c_reg | (apply wO; apply oc; rfl; exact ydE) | apply w_nil | apply n_cd | (apply wg_t; rfl; rfl) | (apply wg_f; rfl; rfl; rfl; rfl) | (apply wg_u; rfl; rfl; rfl) | (apply c_t; rfl) | (apply c_f; rfl) | apply c_skip | apply c_block | apply n_blk | apply c_exit | apply e_hit | apply e_cd | apply e_lp | (apply e_miss; rfl) | apply c_ret | (apply wO; apply o_box; rfl; rfl; rfl; intro _) | (apply wO; apply o_alloc; rfl; intro _) | (apply wO; apply o_st; rfl; rfl; rfl; (first | exact AggC.s | exact OneC.s); rfl; exact rplE; exact putE; rfl) | (apply wO; apply o_bs0; rfl; intro _) | (apply wO; apply o_bs; rfl; rfl; rfl; rfl; exact rptE; exact filE; intro _) | (apply wO; apply o_call; rfl; kernel_rfl; exact evsE))
    refine ret ⟨a, cc, F⟩ trivial rfl
end Go.Proofs.YtidephmobajikaaDoor
/- Links: SendOn. -/
namespace Go.Proofs.YtidephmobajikaaDoor
open Go.RowKit
def zL : Link := ⟨[], ⟨#[]⟩, 0⟩
def okSendOn (x : Link) (s : ByteArray) : Bool := goodLink x && sendOk x s
def resSendOn (x : Link) (s : ByteArray) : Link × Bool := if okSendOn x s then (sentL x s, true) else (zL, false)
theorem resSendOn_no {x : Link} {s : ByteArray} (h : okSendOn x s = false) : resSendOn x s = (zL, false) := by unfold resSendOn; rw [h]; rfl
theorem resSendOn_yes {x : Link} {s : ByteArray} (h : okSendOn x s = true) : resSendOn x s = (sentL x s, true) := by unfold resSendOn; rw [h]; rfl
theorem zs_size : (⟨#[]⟩ : ByteArray).size ≤ maxLen := by decide
set_option maxRecDepth 100000 in
theorem SendOn_f (x : Link) (item : ByteArray) (v : Value) (F : List Nat) (hi : item.size ≤ maxLen) :
    Fn Tryd.prog 56 [v, .string item] [.isv ELink v x F] [] (fun (_ : LinkS) => True)
      (fun s => .tuple #[.agg #[.slice s.a (resSendOn x item).1.queue.length s.c, .string (resSendOn x item).1.fates, .int .i64 (resSendOn x item).1.used], .bool (resSendOn x item).2]) (fun s => [.own OLink (.agg #[.slice s.a (resSendOn x item).1.queue.length s.c, .string (resSendOn x item).1.fates, .int .i64 (resSendOn x item).1.used]) (resSendOn x item).1 s.F]) := by
  refine enter Tryd.func56 rfl Tryd.ntmps56 fun w0 => ?_
  refine t_nilow EStr 9 ?_
  refine closeOLink zL zs_size ?_
  refine openLink ?_
  rintro a1 c1 F1 rfl l1 l2
  repeat (first | apply c_seq | apply c_reg | (apply wO; apply oc; rfl; exact ydE) | apply w_nil | apply n_cd | (apply wg_t; rfl; rfl) | (apply wg_f; rfl; rfl; rfl; rfl) | (apply wg_u; rfl; rfl; rfl) | (apply c_t; rfl) | (apply c_f; rfl) | apply c_skip | apply c_block | apply n_blk | apply c_exit | apply e_hit | apply e_cd | apply e_lp | (apply e_miss; rfl) | apply c_ret | (apply wO; apply o_box; rfl; rfl; rfl; intro _) | (apply wO; apply o_alloc; rfl; intro _) | (apply wO; apply o_st; rfl; rfl; rfl; (first | exact AggC.s | exact OneC.s); rfl; exact rplE; exact putE; rfl) | (apply wO; apply o_bs0; rfl; intro _) | (apply wO; apply o_bs; rfl; rfl; rfl; rfl; exact rptE; exact filE; intro _) | (apply wO; apply o_call; rfl; kernel_rfl; exact evsE))
  refine cb (fun w st => IsValidLink_c _ x _ w (st.get (p := .isv ELink (.agg #[.slice a1 x.queue.length c1, .string x.fates, .int .i64 x.used]) x F) (by simp))) ?_
  cases g1 : goodLink x
  · repeat (first | apply c_seq | apply c_reg | (apply wO; apply oc; rfl; exact ydE) | apply w_nil | apply n_cd | (apply wg_t; rfl; rfl) | (apply wg_f; rfl; rfl; rfl; rfl) | (apply wg_u; rfl; rfl; rfl) | (apply c_t; rfl) | (apply c_f; rfl) | apply c_skip | apply c_block | apply n_blk | apply c_exit | apply e_hit | apply e_cd | apply e_lp | (apply e_miss; rfl) | apply c_ret | (apply wO; apply o_box; rfl; rfl; rfl; intro _) | (apply wO; apply o_alloc; rfl; intro _) | (apply wO; apply o_st; rfl; rfl; rfl; (first | exact AggC.s | exact OneC.s); rfl; exact rplE; exact putE; rfl) | (apply wO; apply o_bs0; rfl; intro _) | (apply wO; apply o_bs; rfl; rfl; rfl; rfl; exact rptE; exact filE; intro _) | (apply wO; apply o_call; rfl; kernel_rfl; exact evsE))
    rw [resSendOn_no (by unfold okSendOn; rw [g1]; rfl)]
    refine ret ⟨none, 0, []⟩ trivial rfl
  obtain ⟨hl, hq, hf, hu0, hu1⟩ := goodL_of g1
  repeat (first | apply c_seq | apply c_reg | (apply wO; apply oc; rfl; exact ydE) | apply w_nil | apply n_cd | (apply wg_t; rfl; rfl) | (apply wg_f; rfl; rfl; rfl; rfl) | (apply wg_u; rfl; rfl; rfl) | (apply c_t; rfl) | (apply c_f; rfl) | apply c_skip | apply c_block | apply n_blk | apply c_exit | apply e_hit | apply e_cd | apply e_lp | (apply e_miss; rfl) | apply c_ret | (apply wO; apply o_box; rfl; rfl; rfl; intro _) | (apply wO; apply o_alloc; rfl; intro _) | (apply wO; apply o_st; rfl; rfl; rfl; (first | exact AggC.s | exact OneC.s); rfl; exact rplE; exact putE; rfl) | (apply wO; apply o_bs0; rfl; intro _) | (apply wO; apply o_bs; rfl; rfl; rfl; rfl; exact rptE; exact filE; intro _) | (apply wO; apply o_call; rfl; kernel_rfl; exact evsE))
  refine cv (fun w st => Link_clone_c _ x _ w (st.get (p := .isv ELink (.agg #[.slice a1 x.queue.length c1, .string x.fates, .int .i64 x.used]) x F) (by simp)) (by omega)) fun v F2 => ?_
  refine openOLink ?_
  rintro a2 c2 F3 rfl l3 l4
  repeat (first | apply c_seq | apply c_reg | (apply wO; apply oc; rfl; exact ydE) | apply w_nil | apply n_cd | (apply wg_t; rfl; rfl) | (apply wg_f; rfl; rfl; rfl; rfl) | (apply wg_u; rfl; rfl; rfl) | (apply c_t; rfl) | (apply c_f; rfl) | apply c_skip | apply c_block | apply n_blk | apply c_exit | apply e_hit | apply e_cd | apply e_lp | (apply e_miss; rfl) | apply c_ret | (apply wO; apply o_box; rfl; rfl; rfl; intro _) | (apply wO; apply o_alloc; rfl; intro _) | (apply wO; apply o_st; rfl; rfl; rfl; (first | exact AggC.s | exact OneC.s); rfl; exact rplE; exact putE; rfl) | (apply wO; apply o_bs0; rfl; intro _) | (apply wO; apply o_bs; rfl; rfl; rfl; rfl; exact rptE; exact filE; intro _) | (apply wO; apply o_call; rfl; kernel_rfl; exact evsE))
  refine cf (send_f x item _ _ _ _ _ a2 c2 F3 g1 hi) fun z _ => ?_
  refine t_app ?_
  cases g2 : sendOk x item
  · repeat (first | apply c_seq | apply c_reg | (apply wO; apply oc; rfl; exact ydE) | apply w_nil | apply n_cd | (apply wg_t; rfl; rfl) | (apply wg_f; rfl; rfl; rfl; rfl) | (apply wg_u; rfl; rfl; rfl) | (apply c_t; rfl) | (apply c_f; rfl) | apply c_skip | apply c_block | apply n_blk | apply c_exit | apply e_hit | apply e_cd | apply e_lp | (apply e_miss; rfl) | apply c_ret | (apply wO; apply o_box; rfl; rfl; rfl; intro _) | (apply wO; apply o_alloc; rfl; intro _) | (apply wO; apply o_st; rfl; rfl; rfl; (first | exact AggC.s | exact OneC.s); rfl; exact rplE; exact putE; rfl) | (apply wO; apply o_bs0; rfl; intro _) | (apply wO; apply o_bs; rfl; rfl; rfl; rfl; exact rptE; exact filE; intro _) | (apply wO; apply o_call; rfl; kernel_rfl; exact evsE))
    rw [resSendOn_no (by unfold okSendOn; rw [g2]; simp)]
    refine ret ⟨none, 0, []⟩ trivial rfl
  rw [show sendL x item = sentL x item by unfold sendL; rw [g2]; rfl]
  rw [resSendOn_yes (by unfold okSendOn; rw [g1, g2]; rfl)]
  repeat (first | apply c_seq | apply c_reg | (apply wO; apply oc; rfl; exact ydE) | apply w_nil | apply n_cd | (apply wg_t; rfl; rfl) | (apply wg_f; rfl; rfl; rfl; rfl) | (apply wg_u; rfl; rfl; rfl) | (apply c_t; rfl) | (apply c_f; rfl) | apply c_skip | apply c_block | apply n_blk | apply c_exit | apply e_hit | apply e_cd | apply e_lp | (apply e_miss; rfl) | apply c_ret | (apply wO; apply o_box; rfl; rfl; rfl; intro _) | (apply wO; apply o_alloc; rfl; intro _) | (apply wO; apply o_st; rfl; rfl; rfl; (first | exact AggC.s | exact OneC.s); rfl; exact rplE; exact putE; rfl) | (apply wO; apply o_bs0; rfl; intro _) | (apply wO; apply o_bs; rfl; rfl; rfl; rfl; exact rptE; exact filE; intro _) | (apply wO; apply o_call; rfl; kernel_rfl; exact evsE))
  refine closeOLink (sentL x item) l1 ?_
  refine ret z trivial rfl
end Go.Proofs.YtidephmobajikaaDoor
/- Links: SendOn of the reference. -/
namespace Go.Proofs.YtidephmobajikaaDoor
open Go.RowKit
set_option maxRecDepth 100000 in
theorem l7Next_f (x : Link) (v : Value) (F : List Nat) (h0 : 0 ≤ x.used) (h1 : x.used ≤ x.fates.size) (hf : x.fates.size ≤ 1000) :
    Fn Tryd.prog 143 [v] [.isv ELink v x F] [] (fun (_ : Unit) => True) (fun _ => .int .u8 (fateAt x.fates x.used)) (fun _ => []) := by
  refine enter Tryd.func143 rfl Tryd.ntmps143 fun w0 => ?_
  refine openLink ?_
  rintro a1 c1 F1 rfl l1 l2
  repeat (first | apply c_seq | apply c_reg | (apply wO; apply oc; rfl; exact ydE) | apply w_nil | apply n_cd | (apply wg_t; rfl; rfl) | (apply wg_f; rfl; rfl; rfl; rfl) | (apply wg_u; rfl; rfl; rfl) | (apply c_t; rfl) | (apply c_f; rfl) | apply c_skip | apply c_block | apply n_blk | apply c_exit | apply e_hit | apply e_cd | apply e_lp | (apply e_miss; rfl) | apply c_ret | (apply wO; apply o_box; rfl; rfl; rfl; intro _) | (apply wO; apply o_alloc; rfl; intro _) | (apply wO; apply o_st; rfl; rfl; rfl; (first | exact AggC.s | exact OneC.s); rfl; exact rplE; exact putE; rfl) | (apply wO; apply o_bs0; rfl; intro _) | (apply wO; apply o_bs; rfl; rfl; rfl; rfl; exact rptE; exact filE; intro _) | (apply wO; apply o_call; rfl; kernel_rfl; exact evsE))
  refine c_if rfl (fun h => ?_) (fun h => ?_)
  · repeat (first | apply c_seq | apply c_reg | (apply wO; apply oc; rfl; exact ydE) | apply w_nil | apply n_cd | (apply wg_t; rfl; rfl) | (apply wg_f; rfl; rfl; rfl; rfl) | (apply wg_u; rfl; rfl; rfl) | (apply c_t; rfl) | (apply c_f; rfl) | apply c_skip | apply c_block | apply n_blk | apply c_exit | apply e_hit | apply e_cd | apply e_lp | (apply e_miss; rfl) | apply c_ret | (apply wO; apply o_box; rfl; rfl; rfl; intro _) | (apply wO; apply o_alloc; rfl; intro _) | (apply wO; apply o_st; rfl; rfl; rfl; (first | exact AggC.s | exact OneC.s); rfl; exact rplE; exact putE; rfl) | (apply wO; apply o_bs0; rfl; intro _) | (apply wO; apply o_bs; rfl; rfl; rfl; rfl; exact rptE; exact filE; intro _) | (apply wO; apply o_call; rfl; kernel_rfl; exact evsE))
    rw [← fateAt_end h]
    refine ret () trivial rfl
  · have hu : x.used.toNat < x.fates.size := by omega
    repeat (first | apply c_seq | apply c_reg | (apply wO; apply oc; rfl; exact ydE) | apply w_nil | apply n_cd | (apply wg_t; rfl; rfl) | (apply wg_f; rfl; rfl; rfl; rfl) | (apply wg_u; rfl; rfl; rfl) | (apply c_t; rfl) | (apply c_f; rfl) | apply c_skip | apply c_block | apply n_blk | apply c_exit | apply e_hit | apply e_cd | apply e_lp | (apply e_miss; rfl) | apply c_ret | (apply wO; apply o_box; rfl; rfl; rfl; intro _) | (apply wO; apply o_alloc; rfl; intro _) | (apply wO; apply o_st; rfl; rfl; rfl; (first | exact AggC.s | exact OneC.s); rfl; exact rplE; exact putE; rfl) | (apply wO; apply o_bs0; rfl; intro _) | (apply wO; apply o_bs; rfl; rfl; rfl; rfl; exact rptE; exact filE; intro _) | (apply wO; apply o_call; rfl; kernel_rfl; exact evsE))
    rw [← fateAt_lt h hu]
    refine ret () trivial rfl
set_option maxRecDepth 100000 in
theorem l1Least_f (a b : Int) : Fn Tryd.prog 144 [.int .i64 a, .int .i64 b] [] [] (fun (_ : Unit) => True) (fun _ => .int .i64 (min a b)) (fun _ => []) := by
  refine enter Tryd.func144 rfl Tryd.ntmps144 fun w0 => ?_
  repeat (first | apply c_seq | apply c_reg | (apply wO; apply oc; rfl; exact ydE) | apply w_nil | apply n_cd | (apply wg_t; rfl; rfl) | (apply wg_f; rfl; rfl; rfl; rfl) | (apply wg_u; rfl; rfl; rfl) | (apply c_t; rfl) | (apply c_f; rfl) | apply c_skip | apply c_block | apply n_blk | apply c_exit | apply e_hit | apply e_cd | apply e_lp | (apply e_miss; rfl) | apply c_ret | (apply wO; apply o_box; rfl; rfl; rfl; intro _) | (apply wO; apply o_alloc; rfl; intro _) | (apply wO; apply o_st; rfl; rfl; rfl; (first | exact AggC.s | exact OneC.s); rfl; exact rplE; exact putE; rfl) | (apply wO; apply o_bs0; rfl; intro _) | (apply wO; apply o_bs; rfl; rfl; rfl; rfl; exact rptE; exact filE; intro _) | (apply wO; apply o_call; rfl; kernel_rfl; exact evsE))
  refine c_if rfl (fun h => ?_) (fun h => ?_)
  · repeat (first | apply c_seq | apply c_reg | (apply wO; apply oc; rfl; exact ydE) | apply w_nil | apply n_cd | (apply wg_t; rfl; rfl) | (apply wg_f; rfl; rfl; rfl; rfl) | (apply wg_u; rfl; rfl; rfl) | (apply c_t; rfl) | (apply c_f; rfl) | apply c_skip | apply c_block | apply n_blk | apply c_exit | apply e_hit | apply e_cd | apply e_lp | (apply e_miss; rfl) | apply c_ret | (apply wO; apply o_box; rfl; rfl; rfl; intro _) | (apply wO; apply o_alloc; rfl; intro _) | (apply wO; apply o_st; rfl; rfl; rfl; (first | exact AggC.s | exact OneC.s); rfl; exact rplE; exact putE; rfl) | (apply wO; apply o_bs0; rfl; intro _) | (apply wO; apply o_bs; rfl; rfl; rfl; rfl; exact rptE; exact filE; intro _) | (apply wO; apply o_call; rfl; kernel_rfl; exact evsE))
    rw [show min a b = a by omega]
    refine ret () trivial rfl
  · repeat (first | apply c_seq | apply c_reg | (apply wO; apply oc; rfl; exact ydE) | apply w_nil | apply n_cd | (apply wg_t; rfl; rfl) | (apply wg_f; rfl; rfl; rfl; rfl) | (apply wg_u; rfl; rfl; rfl) | (apply c_t; rfl) | (apply c_f; rfl) | apply c_skip | apply c_block | apply n_blk | apply c_exit | apply e_hit | apply e_cd | apply e_lp | (apply e_miss; rfl) | apply c_ret | (apply wO; apply o_box; rfl; rfl; rfl; intro _) | (apply wO; apply o_alloc; rfl; intro _) | (apply wO; apply o_st; rfl; rfl; rfl; (first | exact AggC.s | exact OneC.s); rfl; exact rplE; exact putE; rfl) | (apply wO; apply o_bs0; rfl; intro _) | (apply wO; apply o_bs; rfl; rfl; rfl; rfl; exact rptE; exact filE; intro _) | (apply wO; apply o_call; rfl; kernel_rfl; exact evsE))
    rw [show min a b = b by omega]
    refine ret () trivial rfl
theorem l1Least_c (a b : Int) (w : World) : Calls Tryd.prog 144 #[.int .i64 a, .int .i64 b] w fun e w' => e = .returned (.int .i64 (min a b)) ∧ Below w.heap.size w w' := (l1Least_f a b).val w (fun _ h => by cases h)
set_option maxRecDepth 100000 in
theorem specSendOn_f (x : Link) (item : ByteArray) (v : Value) (F : List Nat) (hi : item.size ≤ maxLen) :
    Fn Tryd.prog 57 [v, .string item] [.isv ELink v x F] [] (fun (_ : LinkS) => True)
      (fun s => .tuple #[.agg #[.slice s.a (resSendOn x item).1.queue.length s.c, .string (resSendOn x item).1.fates, .int .i64 (resSendOn x item).1.used], .bool (resSendOn x item).2]) (fun s => [.isv ELink (.agg #[.slice s.a (resSendOn x item).1.queue.length s.c, .string (resSendOn x item).1.fates, .int .i64 (resSendOn x item).1.used]) (resSendOn x item).1 s.F]) := by
  have hor : goodLink x = true → _ := fate_or (x := x)
  generalize hfe : fateAt x.fates x.used = f at hor
  refine enter Tryd.func57 rfl Tryd.ntmps57 fun w0 => ?_
  refine openLink ?_
  rintro a1 c1 F1 rfl l1 l2
  repeat (first | apply c_seq | apply c_reg | (apply wO; apply oc; rfl; exact ydE) | apply w_nil | apply n_cd | (apply wg_t; rfl; rfl) | (apply wg_f; rfl; rfl; rfl; rfl) | (apply wg_u; rfl; rfl; rfl) | (apply c_t; rfl) | (apply c_f; rfl) | apply c_skip | apply c_block | apply n_blk | apply c_exit | apply e_hit | apply e_cd | apply e_lp | (apply e_miss; rfl) | apply c_ret | (apply wO; apply o_box; rfl; rfl; rfl; intro _) | (apply wO; apply o_alloc; rfl; intro _) | (apply wO; apply o_st; rfl; rfl; rfl; (first | exact AggC.s | exact OneC.s); rfl; exact rplE; exact putE; rfl) | (apply wO; apply o_bs0; rfl; intro _) | (apply wO; apply o_bs; rfl; rfl; rfl; rfl; exact rptE; exact filE; intro _) | (apply wO; apply o_call; rfl; kernel_rfl; exact evsE))
  refine cb (fun w st => l7Good_c _ x _ w (st.get (p := .isv ELink (.agg #[.slice a1 x.queue.length c1, .string x.fates, .int .i64 x.used]) x F) (by simp))) ?_
  cases g1 : goodLink x
  · repeat (first | apply c_seq | apply c_reg | (apply wO; apply oc; rfl; exact ydE) | apply w_nil | apply n_cd | (apply wg_t; rfl; rfl) | (apply wg_f; rfl; rfl; rfl; rfl) | (apply wg_u; rfl; rfl; rfl) | (apply c_t; rfl) | (apply c_f; rfl) | apply c_skip | apply c_block | apply n_blk | apply c_exit | apply e_hit | apply e_cd | apply e_lp | (apply e_miss; rfl) | apply c_ret | (apply wO; apply o_box; rfl; rfl; rfl; intro _) | (apply wO; apply o_alloc; rfl; intro _) | (apply wO; apply o_st; rfl; rfl; rfl; (first | exact AggC.s | exact OneC.s); rfl; exact rplE; exact putE; rfl) | (apply wO; apply o_bs0; rfl; intro _) | (apply wO; apply o_bs; rfl; rfl; rfl; rfl; exact rptE; exact filE; intro _) | (apply wO; apply o_call; rfl; kernel_rfl; exact evsE))
    rw [resSendOn_no (by unfold okSendOn; rw [g1]; rfl)]
    refine t_nilsl EStr (by decide) ?_
    refine closeLink zL zs_size ?_
    refine ret ⟨_, _, _⟩ trivial rfl
  obtain ⟨hl, hq, hf, hu0, hu1⟩ := goodL_of g1
  replace hor := hor g1
  repeat (first | apply c_seq | apply c_reg | (apply wO; apply oc; rfl; exact ydE) | apply w_nil | apply n_cd | (apply wg_t; rfl; rfl) | (apply wg_f; rfl; rfl; rfl; rfl) | (apply wg_u; rfl; rfl; rfl) | (apply c_t; rfl) | (apply c_f; rfl) | apply c_skip | apply c_block | apply n_blk | apply c_exit | apply e_hit | apply e_cd | apply e_lp | (apply e_miss; rfl) | apply c_ret | (apply wO; apply o_box; rfl; rfl; rfl; intro _) | (apply wO; apply o_alloc; rfl; intro _) | (apply wO; apply o_st; rfl; rfl; rfl; (first | exact AggC.s | exact OneC.s); rfl; exact rplE; exact putE; rfl) | (apply wO; apply o_bs0; rfl; intro _) | (apply wO; apply o_bs; rfl; rfl; rfl; rfl; exact rptE; exact filE; intro _) | (apply wO; apply o_call; rfl; kernel_rfl; exact evsE))
  refine c_if rfl (fun h1 => ?_) (fun h1 => ?_)
  · repeat (first | apply c_seq | apply c_reg | (apply wO; apply oc; rfl; exact ydE) | apply w_nil | apply n_cd | (apply wg_t; rfl; rfl) | (apply wg_f; rfl; rfl; rfl; rfl) | (apply wg_u; rfl; rfl; rfl) | (apply c_t; rfl) | (apply c_f; rfl) | apply c_skip | apply c_block | apply n_blk | apply c_exit | apply e_hit | apply e_cd | apply e_lp | (apply e_miss; rfl) | apply c_ret | (apply wO; apply o_box; rfl; rfl; rfl; intro _) | (apply wO; apply o_alloc; rfl; intro _) | (apply wO; apply o_st; rfl; rfl; rfl; (first | exact AggC.s | exact OneC.s); rfl; exact rplE; exact putE; rfl) | (apply wO; apply o_bs0; rfl; intro _) | (apply wO; apply o_bs; rfl; rfl; rfl; rfl; exact rptE; exact filE; intro _) | (apply wO; apply o_call; rfl; kernel_rfl; exact evsE))
    rw [resSendOn_no (by unfold okSendOn sendOk; rw [decide_eq_true h1]; simp)]
    refine t_nilsl EStr (by decide) ?_
    refine closeLink zL zs_size ?_
    refine ret ⟨_, _, _⟩ trivial rfl
  have fin : ∀ q, sentQ x.queue f item = q → (f = 108 ∨ ¬ x.queue.length = 8) → resSendOn x item = (⟨q, x.fates, min (x.used + 1) x.fates.size⟩, true) := fun q e h => by
    subst hfe
    rw [resSendOn_yes, show sentL x item = _ by unfold sentL; rw [e]]
    unfold okSendOn sendOk
    rw [g1, decide_eq_false h1]
    rcases h with h | h
    · rw [decide_eq_true h]; rfl
    · rw [decide_eq_false h]; simp
  repeat (first | apply c_seq | apply c_reg | (apply wO; apply oc; rfl; exact ydE) | apply w_nil | apply n_cd | (apply wg_t; rfl; rfl) | (apply wg_f; rfl; rfl; rfl; rfl) | (apply wg_u; rfl; rfl; rfl) | (apply c_t; rfl) | (apply c_f; rfl) | apply c_skip | apply c_block | apply n_blk | apply c_exit | apply e_hit | apply e_cd | apply e_lp | (apply e_miss; rfl) | apply c_ret | (apply wO; apply o_box; rfl; rfl; rfl; intro _) | (apply wO; apply o_alloc; rfl; intro _) | (apply wO; apply o_st; rfl; rfl; rfl; (first | exact AggC.s | exact OneC.s); rfl; exact rplE; exact putE; rfl) | (apply wO; apply o_bs0; rfl; intro _) | (apply wO; apply o_bs; rfl; rfl; rfl; rfl; exact rptE; exact filE; intro _) | (apply wO; apply o_call; rfl; kernel_rfl; exact evsE))
  refine d_start [1] [] ?_
  refine dt 0 ?_
  refine dt 2 ?_
  refine dt 3 ?_
  refine dt 4 ?_
  refine dt 5 ?_
  refine dt 6 ?_
  refine dt 7 ?_
  refine dt 9 ?_
  refine dt 10 ?_
  refine dt 11 ?_
  refine dO 1 (by kernel_rfl) (by rw [List.getElem?_toArray]; rfl) ?_
  apply o_call; rfl; kernel_rfl; exact evsE
  refine cb (fun w st => (l7Next_f x _ F hu0 hu1 (by omega)).val w (hol1 (st.get (p := .isv ELink (.agg #[.slice a1 x.queue.length c1, .string x.fates, .int .i64 x.used]) x F) (by simp)))) ?_
  rw [hfe]
  refine dk ?_
  refine dO 8 (by kernel_rfl) (by rw [List.getElem?_toArray]; rfl) ?_
  apply o_call; rfl; kernel_rfl; exact evsE
  refine cb (fun w s => l1Least_c _ _ _) ?_
  refine dk ?_
  refine dt 12 ?_
  refine dt 13 ?_
  refine dt 14 ?_
  refine dd ?_
  repeat (first | apply c_seq | apply c_reg | (apply wO; apply oc; rfl; exact ydE) | apply w_nil | apply n_cd | (apply wg_t; rfl; rfl) | (apply wg_f; rfl; rfl; rfl; rfl) | (apply wg_u; rfl; rfl; rfl) | (apply c_t; rfl) | (apply c_f; rfl) | apply c_skip | apply c_block | apply n_blk | apply c_exit | apply e_hit | apply e_cd | apply e_lp | (apply e_miss; rfl) | apply c_ret | (apply wO; apply o_box; rfl; rfl; rfl; intro _) | (apply wO; apply o_alloc; rfl; intro _) | (apply wO; apply o_st; rfl; rfl; rfl; (first | exact AggC.s | exact OneC.s); rfl; exact rplE; exact putE; rfl) | (apply wO; apply o_bs0; rfl; intro _) | (apply wO; apply o_bs; rfl; rfl; rfl; rfl; exact rptE; exact filE; intro _) | (apply wO; apply o_call; rfl; kernel_rfl; exact evsE))
  refine t_emp EStr ?_
  apply wO
  refine aps one_EStr scal_EStr fun a2 c2 F2 => ?_
  rw [List.nil_append]
  repeat (first | apply c_seq | apply c_reg | (apply wO; apply oc; rfl; exact ydE) | apply w_nil | apply n_cd | (apply wg_t; rfl; rfl) | (apply wg_f; rfl; rfl; rfl; rfl) | (apply wg_u; rfl; rfl; rfl) | (apply c_t; rfl) | (apply c_f; rfl) | apply c_skip | apply c_block | apply n_blk | apply c_exit | apply e_hit | apply e_cd | apply e_lp | (apply e_miss; rfl) | apply c_ret | (apply wO; apply o_box; rfl; rfl; rfl; intro _) | (apply wO; apply o_alloc; rfl; intro _) | (apply wO; apply o_st; rfl; rfl; rfl; (first | exact AggC.s | exact OneC.s); rfl; exact rplE; exact putE; rfl) | (apply wO; apply o_bs0; rfl; intro _) | (apply wO; apply o_bs; rfl; rfl; rfl; rfl; exact rptE; exact filE; intro _) | (apply wO; apply o_call; rfl; kernel_rfl; exact evsE))
  refine c_if rfl (fun e1 => ?_) (fun e1 => ?_)
  · rw [fin x.queue (by unfold sentQ; rw [if_pos e1]) (.inl e1)]
    repeat (first | apply c_seq | apply c_reg | (apply wO; apply oc; rfl; exact ydE) | apply w_nil | apply n_cd | (apply wg_t; rfl; rfl) | (apply wg_f; rfl; rfl; rfl; rfl) | (apply wg_u; rfl; rfl; rfl) | (apply c_t; rfl) | (apply c_f; rfl) | apply c_skip | apply c_block | apply n_blk | apply c_exit | apply e_hit | apply e_cd | apply e_lp | (apply e_miss; rfl) | apply c_ret | (apply wO; apply o_box; rfl; rfl; rfl; intro _) | (apply wO; apply o_alloc; rfl; intro _) | (apply wO; apply o_st; rfl; rfl; rfl; (first | exact AggC.s | exact OneC.s); rfl; exact rplE; exact putE; rfl) | (apply wO; apply o_bs0; rfl; intro _) | (apply wO; apply o_bs; rfl; rfl; rfl; rfl; exact rptE; exact filE; intro _) | (apply wO; apply o_call; rfl; kernel_rfl; exact evsE))
    refine cb (fun w st => l7With_c _ x _ _ _ _ _ w (st.get (p := .isv ELink (.agg #[.slice a1 x.queue.length c1, .string x.fates, .int .i64 x.used]) x F) (by simp))) ?_
    repeat (first | apply c_seq | apply c_reg | (apply wO; apply oc; rfl; exact ydE) | apply w_nil | apply n_cd | (apply wg_t; rfl; rfl) | (apply wg_f; rfl; rfl; rfl; rfl) | (apply wg_u; rfl; rfl; rfl) | (apply c_t; rfl) | (apply c_f; rfl) | apply c_skip | apply c_block | apply n_blk | apply c_exit | apply e_hit | apply e_cd | apply e_lp | (apply e_miss; rfl) | apply c_ret | (apply wO; apply o_box; rfl; rfl; rfl; intro _) | (apply wO; apply o_alloc; rfl; intro _) | (apply wO; apply o_st; rfl; rfl; rfl; (first | exact AggC.s | exact OneC.s); rfl; exact rplE; exact putE; rfl) | (apply wO; apply o_bs0; rfl; intro _) | (apply wO; apply o_bs; rfl; rfl; rfl; rfl; exact rptE; exact filE; intro _) | (apply wO; apply o_call; rfl; kernel_rfl; exact evsE))
    refine t_read (xs := x.queue) fun F9 => ?_
    refine closeLink ⟨x.queue, x.fates, min (x.used + 1) x.fates.size⟩ l1 ?_
    refine ret ⟨_, _, _⟩ trivial rfl
  repeat (first | apply c_seq | apply c_reg | (apply wO; apply oc; rfl; exact ydE) | apply w_nil | apply n_cd | (apply wg_t; rfl; rfl) | (apply wg_f; rfl; rfl; rfl; rfl) | (apply wg_u; rfl; rfl; rfl) | (apply c_t; rfl) | (apply c_f; rfl) | apply c_skip | apply c_block | apply n_blk | apply c_exit | apply e_hit | apply e_cd | apply e_lp | (apply e_miss; rfl) | apply c_ret | (apply wO; apply o_box; rfl; rfl; rfl; intro _) | (apply wO; apply o_alloc; rfl; intro _) | (apply wO; apply o_st; rfl; rfl; rfl; (first | exact AggC.s | exact OneC.s); rfl; exact rplE; exact putE; rfl) | (apply wO; apply o_bs0; rfl; intro _) | (apply wO; apply o_bs; rfl; rfl; rfl; rfl; exact rptE; exact filE; intro _) | (apply wO; apply o_call; rfl; kernel_rfl; exact evsE))
  refine c_if rfl (fun e2 => ?_) (fun e2 => ?_)
  · repeat (first | apply c_seq | apply c_reg | (apply wO; apply oc; rfl; exact ydE) | apply w_nil | apply n_cd | (apply wg_t; rfl; rfl) | (apply wg_f; rfl; rfl; rfl; rfl) | (apply wg_u; rfl; rfl; rfl) | (apply c_t; rfl) | (apply c_f; rfl) | apply c_skip | apply c_block | apply n_blk | apply c_exit | apply e_hit | apply e_cd | apply e_lp | (apply e_miss; rfl) | apply c_ret | (apply wO; apply o_box; rfl; rfl; rfl; intro _) | (apply wO; apply o_alloc; rfl; intro _) | (apply wO; apply o_st; rfl; rfl; rfl; (first | exact AggC.s | exact OneC.s); rfl; exact rplE; exact putE; rfl) | (apply wO; apply o_bs0; rfl; intro _) | (apply wO; apply o_bs; rfl; rfl; rfl; rfl; exact rptE; exact filE; intro _) | (apply wO; apply o_call; rfl; kernel_rfl; exact evsE))
    rw [resSendOn_no (by unfold okSendOn sendOk; rw [hfe, decide_eq_false e1, decide_eq_true (show x.queue.length = 8 by omega)]; simp)]
    refine t_nilsl EStr (by decide) ?_
    refine closeLink zL zs_size ?_
    refine ret ⟨_, _, _⟩ trivial rfl
  have n8 : ¬ x.queue.length = 8 := by omega
  repeat (first | apply c_seq | apply c_reg | (apply wO; apply oc; rfl; exact ydE) | apply w_nil | apply n_cd | (apply wg_t; rfl; rfl) | (apply wg_f; rfl; rfl; rfl; rfl) | (apply wg_u; rfl; rfl; rfl) | (apply c_t; rfl) | (apply c_f; rfl) | apply c_skip | apply c_block | apply n_blk | apply c_exit | apply e_hit | apply e_cd | apply e_lp | (apply e_miss; rfl) | apply c_ret | (apply wO; apply o_box; rfl; rfl; rfl; intro _) | (apply wO; apply o_alloc; rfl; intro _) | (apply wO; apply o_st; rfl; rfl; rfl; (first | exact AggC.s | exact OneC.s); rfl; exact rplE; exact putE; rfl) | (apply wO; apply o_bs0; rfl; intro _) | (apply wO; apply o_bs; rfl; rfl; rfl; rfl; exact rptE; exact filE; intro _) | (apply wO; apply o_call; rfl; kernel_rfl; exact evsE))
  refine wg_if rfl rfl (fun e3 => ?_) (fun e3 => ?_)
  · repeat (first | apply c_seq | apply c_reg | (apply wO; apply oc; rfl; exact ydE) | apply w_nil | apply n_cd | (apply wg_t; rfl; rfl) | (apply wg_f; rfl; rfl; rfl; rfl) | (apply wg_u; rfl; rfl; rfl) | (apply c_t; rfl) | (apply c_f; rfl) | apply c_skip | apply c_block | apply n_blk | apply c_exit | apply e_hit | apply e_cd | apply e_lp | (apply e_miss; rfl) | apply c_ret | (apply wO; apply o_box; rfl; rfl; rfl; intro _) | (apply wO; apply o_alloc; rfl; intro _) | (apply wO; apply o_st; rfl; rfl; rfl; (first | exact AggC.s | exact OneC.s); rfl; exact rplE; exact putE; rfl) | (apply wO; apply o_bs0; rfl; intro _) | (apply wO; apply o_bs; rfl; rfl; rfl; rfl; exact rptE; exact filE; intro _) | (apply wO; apply o_call; rfl; kernel_rfl; exact evsE))
    refine c_if rfl (fun h0 => ?_) (fun h0 => ?_)
    · have he1 : (x.queue.length : Int) - 1 = ((x.queue.length - 1 : Nat) : Int) := by omega
      have hQ : sentQ x.queue f item = x.queue.take (x.queue.length - 1) ++ [item] ++ [x.queue[x.queue.length - 1]] := by
        unfold sentQ
        rw [if_neg e1, if_pos ⟨e3, by omega⟩, List.append_assoc]
        congr 1
        rw [List.drop_eq_getElem_cons (by omega), show x.queue.length - 1 + 1 = x.queue.length by omega, List.drop_length]
        rfl
      rw [fin _ hQ (.inr n8)]
      repeat (first | apply c_seq | apply c_reg | (apply wO; apply oc; rfl; exact ydE) | apply w_nil | apply n_cd | (apply wg_t; rfl; rfl) | (apply wg_f; rfl; rfl; rfl; rfl) | (apply wg_u; rfl; rfl; rfl) | (apply c_t; rfl) | (apply c_f; rfl) | apply c_skip | apply c_block | apply n_blk | apply c_exit | apply e_hit | apply e_cd | apply e_lp | (apply e_miss; rfl) | apply c_ret | (apply wO; apply o_box; rfl; rfl; rfl; intro _) | (apply wO; apply o_alloc; rfl; intro _) | (apply wO; apply o_st; rfl; rfl; rfl; (first | exact AggC.s | exact OneC.s); rfl; exact rplE; exact putE; rfl) | (apply wO; apply o_bs0; rfl; intro _) | (apply wO; apply o_bs; rfl; rfl; rfl; rfl; exact rptE; exact filE; intro _))
      refine c_joinS [2, 4, 5, 7] [1, 2, 3, 4] (fun s : LinkS => [(9, .slice s.a (x.queue.take (x.queue.length - 1) ++ [item] ++ [x.queue[x.queue.length - 1]]).length s.c)]) (fun s => [.ow EStr 9 (.slice s.a (x.queue.take (x.queue.length - 1) ++ [item] ++ [x.queue[x.queue.length - 1]]).length s.c) (x.queue.take (x.queue.length - 1) ++ [item] ++ [x.queue[x.queue.length - 1]]) s.F]) (fun _ => True) ?_ fun s _ => ?_
      · refine at_str (x.queue.length - 1) ?_
        rintro hi2 b o e s1
        rw [e]
        have ht1 : (x.queue.take (x.queue.length - 1)).length ≤ 8 := by simp; omega
        have ht2 : (x.queue.take (x.queue.length - 1) ++ [item]).length ≤ 9 := by simp; omega
        refine t_cap (xs := x.queue) fun hc1 hc2 => ?_
        refine d_start [0, 3] [] ?_
        refine dt 0 ?_
        refine dt 1 ?_
        refine dt 2 ?_
        rw [he1]
        refine dt 3 ?_ (hy := yd_slt (i := x.queue.length - 1) rfl rfl (by omega) (by omega) (by omega))
        refine t_take (xs := x.queue) (x.queue.length - 1) fun F5 => ?_
        refine dt 4 ?_
        refine dt 7 ?_
        refine dt 8 ?_
        refine dt 9 ?_
        refine dt 10 ?_
        rw [he1]
        refine dt 11 ?_
        refine dt 12 ?_
        refine dO2 5 13 (by kernel_rfl) (by rw [List.getElem?_toArray]; rfl) (by rw [List.getElem?_toArray]; rfl) ?_ ?_
        · apply o_bs; rfl; rfl; rfl; rfl; exact rptE; exact filE; intro _
          refine dk ?_
          refine dO2 6 13 (by kernel_rfl) (by rw [List.getElem?_toArray]; rfl) (by rw [List.getElem?_toArray]; rfl) ?_ ?_
          · refine ap1 (rep_s hi) one_EStr fun a5 c5 F5 => ?_
            refine dk ?_
            refine dO 13 (by kernel_rfl) (by rw [List.getElem?_toArray]; rfl) ?_
            apply o_bs; rfl; rfl; rfl; rfl; exact rptE; exact filE; intro _
            refine dk ?_
            refine dO 14 (by kernel_rfl) (by rw [List.getElem?_toArray]; rfl) ?_
            refine ap1 (rep_s s1) one_EStr fun a6 c6 F6 => ?_
            refine dk ?_
            refine dt 15 ?_
            refine dd ?_
            refine n_join (⟨a6, c6, F6⟩ : LinkS) trivial
          · apply o_bs; rfl; rfl; rfl; rfl; exact rptE; exact filE; intro _
            refine dk ?_
            refine dO 6 (by kernel_rfl) (by rw [List.getElem?_toArray]; rfl) ?_
            refine ap1 (rep_s hi) one_EStr fun a5 c5 F5 => ?_
            refine dk ?_
            refine dO 14 (by kernel_rfl) (by rw [List.getElem?_toArray]; rfl) ?_
            refine ap1 (rep_s s1) one_EStr fun a6 c6 F6 => ?_
            refine dk ?_
            refine dt 15 ?_
            refine dd ?_
            refine n_join (⟨a6, c6, F6⟩ : LinkS) trivial
        · apply o_bs; rfl; rfl; rfl; rfl; exact rptE; exact filE; intro _
          refine dk ?_
          refine dO 5 (by kernel_rfl) (by rw [List.getElem?_toArray]; rfl) ?_
          apply o_bs; rfl; rfl; rfl; rfl; exact rptE; exact filE; intro _
          refine dk ?_
          refine dO 6 (by kernel_rfl) (by rw [List.getElem?_toArray]; rfl) ?_
          refine ap1 (rep_s hi) one_EStr fun a5 c5 F5 => ?_
          refine dk ?_
          refine dO 14 (by kernel_rfl) (by rw [List.getElem?_toArray]; rfl) ?_
          refine ap1 (rep_s s1) one_EStr fun a6 c6 F6 => ?_
          refine dk ?_
          refine dt 15 ?_
          refine dd ?_
          refine n_join (⟨a6, c6, F6⟩ : LinkS) trivial
      repeat (first | apply c_seq | apply c_reg | (apply wO; apply oc; rfl; exact ydE) | apply w_nil | apply n_cd | (apply wg_t; rfl; rfl) | (apply wg_f; rfl; rfl; rfl; rfl) | (apply wg_u; rfl; rfl; rfl) | (apply c_t; rfl) | (apply c_f; rfl) | apply c_skip | apply c_block | apply n_blk | apply c_exit | apply e_hit | apply e_cd | apply e_lp | (apply e_miss; rfl) | apply c_ret | (apply wO; apply o_box; rfl; rfl; rfl; intro _) | (apply wO; apply o_alloc; rfl; intro _) | (apply wO; apply o_st; rfl; rfl; rfl; (first | exact AggC.s | exact OneC.s); rfl; exact rplE; exact putE; rfl) | (apply wO; apply o_bs0; rfl; intro _) | (apply wO; apply o_bs; rfl; rfl; rfl; rfl; exact rptE; exact filE; intro _) | (apply wO; apply o_call; rfl; kernel_rfl; exact evsE))
      refine cb (fun w st => l7With_c _ x _ _ _ _ _ w (st.get (p := .isv ELink (.agg #[.slice a1 x.queue.length c1, .string x.fates, .int .i64 x.used]) x F) (by simp))) ?_
      repeat (first | apply c_seq | apply c_reg | (apply wO; apply oc; rfl; exact ydE) | apply w_nil | apply n_cd | (apply wg_t; rfl; rfl) | (apply wg_f; rfl; rfl; rfl; rfl) | (apply wg_u; rfl; rfl; rfl) | (apply c_t; rfl) | (apply c_f; rfl) | apply c_skip | apply c_block | apply n_blk | apply c_exit | apply e_hit | apply e_cd | apply e_lp | (apply e_miss; rfl) | apply c_ret | (apply wO; apply o_box; rfl; rfl; rfl; intro _) | (apply wO; apply o_alloc; rfl; intro _) | (apply wO; apply o_st; rfl; rfl; rfl; (first | exact AggC.s | exact OneC.s); rfl; exact rplE; exact putE; rfl) | (apply wO; apply o_bs0; rfl; intro _) | (apply wO; apply o_bs; rfl; rfl; rfl; rfl; exact rptE; exact filE; intro _) | (apply wO; apply o_call; rfl; kernel_rfl; exact evsE))
      refine t_read (xs := x.queue.take (x.queue.length - 1) ++ [item] ++ [x.queue[x.queue.length - 1]]) fun F9 => ?_
      refine closeLink ⟨x.queue.take (x.queue.length - 1) ++ [item] ++ [x.queue[x.queue.length - 1]], x.fates, min (x.used + 1) x.fates.size⟩ l1 ?_
      refine ret ⟨s.a, s.c, F9⟩ trivial rfl
    · subst e3
      rw [fin (x.queue ++ [item]) (by unfold sentQ; rw [if_neg (by decide), if_neg (by omega), if_neg (by omega)]) (.inr n8)]
      repeat (first | apply c_seq | apply c_reg | (apply wO; apply oc; rfl; exact ydE) | apply w_nil | apply n_cd | (apply wg_t; rfl; rfl) | (apply wg_f; rfl; rfl; rfl; rfl) | (apply wg_u; rfl; rfl; rfl) | (apply c_t; rfl) | (apply c_f; rfl) | apply c_skip | apply c_block | apply n_blk | apply c_exit | apply e_hit | apply e_cd | apply e_lp | (apply e_miss; rfl) | apply c_ret | (apply wO; apply o_box; rfl; rfl; rfl; intro _) | (apply wO; apply o_alloc; rfl; intro _) | (apply wO; apply o_st; rfl; rfl; rfl; (first | exact AggC.s | exact OneC.s); rfl; exact rplE; exact putE; rfl) | (apply wO; apply o_bs0; rfl; intro _) | (apply wO; apply o_bs; rfl; rfl; rfl; rfl; exact rptE; exact filE; intro _) | (apply wO; apply o_call; rfl; kernel_rfl; exact evsE))
      apply wO
      refine ap1 (rep_s hi) one_EStr fun a5 c5 F5 => ?_
      repeat (first | apply c_seq | apply c_reg | (apply wO; apply oc; rfl; exact ydE) | apply w_nil | apply n_cd | (apply wg_t; rfl; rfl) | (apply wg_f; rfl; rfl; rfl; rfl) | (apply wg_u; rfl; rfl; rfl) | (apply c_t; rfl) | (apply c_f; rfl) | apply c_skip | apply c_block | apply n_blk | apply c_exit | apply e_hit | apply e_cd | apply e_lp | (apply e_miss; rfl) | apply c_ret | (apply wO; apply o_box; rfl; rfl; rfl; intro _) | (apply wO; apply o_alloc; rfl; intro _) | (apply wO; apply o_st; rfl; rfl; rfl; (first | exact AggC.s | exact OneC.s); rfl; exact rplE; exact putE; rfl) | (apply wO; apply o_bs0; rfl; intro _) | (apply wO; apply o_bs; rfl; rfl; rfl; rfl; exact rptE; exact filE; intro _) | (apply wO; apply o_call; rfl; kernel_rfl; exact evsE))
      refine cb (fun w st => l7With_c _ x _ _ _ _ _ w (st.get (p := .isv ELink (.agg #[.slice a1 x.queue.length c1, .string x.fates, .int .i64 x.used]) x F) (by simp))) ?_
      repeat (first | apply c_seq | apply c_reg | (apply wO; apply oc; rfl; exact ydE) | apply w_nil | apply n_cd | (apply wg_t; rfl; rfl) | (apply wg_f; rfl; rfl; rfl; rfl) | (apply wg_u; rfl; rfl; rfl) | (apply c_t; rfl) | (apply c_f; rfl) | apply c_skip | apply c_block | apply n_blk | apply c_exit | apply e_hit | apply e_cd | apply e_lp | (apply e_miss; rfl) | apply c_ret | (apply wO; apply o_box; rfl; rfl; rfl; intro _) | (apply wO; apply o_alloc; rfl; intro _) | (apply wO; apply o_st; rfl; rfl; rfl; (first | exact AggC.s | exact OneC.s); rfl; exact rplE; exact putE; rfl) | (apply wO; apply o_bs0; rfl; intro _) | (apply wO; apply o_bs; rfl; rfl; rfl; rfl; exact rptE; exact filE; intro _) | (apply wO; apply o_call; rfl; kernel_rfl; exact evsE))
      refine t_read (xs := x.queue ++ [item]) fun F9 => ?_
      refine closeLink ⟨x.queue ++ [item], x.fates, min (x.used + 1) x.fates.size⟩ l1 ?_
      refine ret ⟨_, _, _⟩ trivial rfl
  · repeat (first | apply c_seq | apply c_reg | (apply wO; apply oc; rfl; exact ydE) | apply w_nil | apply n_cd | (apply wg_t; rfl; rfl) | (apply wg_f; rfl; rfl; rfl; rfl) | (apply wg_u; rfl; rfl; rfl) | (apply c_t; rfl) | (apply c_f; rfl) | apply c_skip | apply c_block | apply n_blk | apply c_exit | apply e_hit | apply e_cd | apply e_lp | (apply e_miss; rfl) | apply c_ret | (apply wO; apply o_box; rfl; rfl; rfl; intro _) | (apply wO; apply o_alloc; rfl; intro _) | (apply wO; apply o_st; rfl; rfl; rfl; (first | exact AggC.s | exact OneC.s); rfl; exact rplE; exact putE; rfl) | (apply wO; apply o_bs0; rfl; intro _) | (apply wO; apply o_bs; rfl; rfl; rfl; rfl; exact rptE; exact filE; intro _) | (apply wO; apply o_call; rfl; kernel_rfl; exact evsE))
    refine wg_if rfl rfl (fun e4 => ?_) (fun e4 => ?_)
    · repeat (first | apply c_seq | apply c_reg | (apply wO; apply oc; rfl; exact ydE) | apply w_nil | apply n_cd | (apply wg_t; rfl; rfl) | (apply wg_f; rfl; rfl; rfl; rfl) | (apply wg_u; rfl; rfl; rfl) | (apply c_t; rfl) | (apply c_f; rfl) | apply c_skip | apply c_block | apply n_blk | apply c_exit | apply e_hit | apply e_cd | apply e_lp | (apply e_miss; rfl) | apply c_ret | (apply wO; apply o_box; rfl; rfl; rfl; intro _) | (apply wO; apply o_alloc; rfl; intro _) | (apply wO; apply o_st; rfl; rfl; rfl; (first | exact AggC.s | exact OneC.s); rfl; exact rplE; exact putE; rfl) | (apply wO; apply o_bs0; rfl; intro _) | (apply wO; apply o_bs; rfl; rfl; rfl; rfl; exact rptE; exact filE; intro _) | (apply wO; apply o_call; rfl; kernel_rfl; exact evsE))
      refine c_if rfl (fun h0 => ?_) (fun h0 => ?_)
      · rw [fin (x.queue ++ [item, item]) (by unfold sentQ; rw [if_neg e1, if_neg (by omega), if_pos ⟨e4, by omega⟩]) (.inr n8)]
        repeat (first | apply c_seq | apply c_reg | (apply wO; apply oc; rfl; exact ydE) | apply w_nil | apply n_cd | (apply wg_t; rfl; rfl) | (apply wg_f; rfl; rfl; rfl; rfl) | (apply wg_u; rfl; rfl; rfl) | (apply c_t; rfl) | (apply c_f; rfl) | apply c_skip | apply c_block | apply n_blk | apply c_exit | apply e_hit | apply e_cd | apply e_lp | (apply e_miss; rfl) | apply c_ret | (apply wO; apply o_box; rfl; rfl; rfl; intro _) | (apply wO; apply o_alloc; rfl; intro _) | (apply wO; apply o_st; rfl; rfl; rfl; (first | exact AggC.s | exact OneC.s); rfl; exact rplE; exact putE; rfl) | (apply wO; apply o_bs0; rfl; intro _) | (apply wO; apply o_bs; rfl; rfl; rfl; rfl; exact rptE; exact filE; intro _) | (apply wO; apply o_call; rfl; kernel_rfl; exact evsE))
        apply wO
        refine ap1 (rep_s2 hi hi) one_EStr fun a5 c5 F5 => ?_
        repeat (first | apply c_seq | apply c_reg | (apply wO; apply oc; rfl; exact ydE) | apply w_nil | apply n_cd | (apply wg_t; rfl; rfl) | (apply wg_f; rfl; rfl; rfl; rfl) | (apply wg_u; rfl; rfl; rfl) | (apply c_t; rfl) | (apply c_f; rfl) | apply c_skip | apply c_block | apply n_blk | apply c_exit | apply e_hit | apply e_cd | apply e_lp | (apply e_miss; rfl) | apply c_ret | (apply wO; apply o_box; rfl; rfl; rfl; intro _) | (apply wO; apply o_alloc; rfl; intro _) | (apply wO; apply o_st; rfl; rfl; rfl; (first | exact AggC.s | exact OneC.s); rfl; exact rplE; exact putE; rfl) | (apply wO; apply o_bs0; rfl; intro _) | (apply wO; apply o_bs; rfl; rfl; rfl; rfl; exact rptE; exact filE; intro _) | (apply wO; apply o_call; rfl; kernel_rfl; exact evsE))
        refine cb (fun w st => l7With_c _ x _ _ _ _ _ w (st.get (p := .isv ELink (.agg #[.slice a1 x.queue.length c1, .string x.fates, .int .i64 x.used]) x F) (by simp))) ?_
        repeat (first | apply c_seq | apply c_reg | (apply wO; apply oc; rfl; exact ydE) | apply w_nil | apply n_cd | (apply wg_t; rfl; rfl) | (apply wg_f; rfl; rfl; rfl; rfl) | (apply wg_u; rfl; rfl; rfl) | (apply c_t; rfl) | (apply c_f; rfl) | apply c_skip | apply c_block | apply n_blk | apply c_exit | apply e_hit | apply e_cd | apply e_lp | (apply e_miss; rfl) | apply c_ret | (apply wO; apply o_box; rfl; rfl; rfl; intro _) | (apply wO; apply o_alloc; rfl; intro _) | (apply wO; apply o_st; rfl; rfl; rfl; (first | exact AggC.s | exact OneC.s); rfl; exact rplE; exact putE; rfl) | (apply wO; apply o_bs0; rfl; intro _) | (apply wO; apply o_bs; rfl; rfl; rfl; rfl; exact rptE; exact filE; intro _) | (apply wO; apply o_call; rfl; kernel_rfl; exact evsE))
        refine t_read (xs := x.queue ++ [item, item]) fun F9 => ?_
        refine closeLink ⟨x.queue ++ [item, item], x.fates, min (x.used + 1) x.fates.size⟩ l1 ?_
        refine ret ⟨_, _, _⟩ trivial rfl
      · rw [fin (x.queue ++ [item]) (by unfold sentQ; rw [if_neg e1, if_neg (by omega), if_neg (by omega)]) (.inr n8)]
        repeat (first | apply c_seq | apply c_reg | (apply wO; apply oc; rfl; exact ydE) | apply w_nil | apply n_cd | (apply wg_t; rfl; rfl) | (apply wg_f; rfl; rfl; rfl; rfl) | (apply wg_u; rfl; rfl; rfl) | (apply c_t; rfl) | (apply c_f; rfl) | apply c_skip | apply c_block | apply n_blk | apply c_exit | apply e_hit | apply e_cd | apply e_lp | (apply e_miss; rfl) | apply c_ret | (apply wO; apply o_box; rfl; rfl; rfl; intro _) | (apply wO; apply o_alloc; rfl; intro _) | (apply wO; apply o_st; rfl; rfl; rfl; (first | exact AggC.s | exact OneC.s); rfl; exact rplE; exact putE; rfl) | (apply wO; apply o_bs0; rfl; intro _) | (apply wO; apply o_bs; rfl; rfl; rfl; rfl; exact rptE; exact filE; intro _) | (apply wO; apply o_call; rfl; kernel_rfl; exact evsE))
        apply wO
        refine ap1 (rep_s hi) one_EStr fun a5 c5 F5 => ?_
        repeat (first | apply c_seq | apply c_reg | (apply wO; apply oc; rfl; exact ydE) | apply w_nil | apply n_cd | (apply wg_t; rfl; rfl) | (apply wg_f; rfl; rfl; rfl; rfl) | (apply wg_u; rfl; rfl; rfl) | (apply c_t; rfl) | (apply c_f; rfl) | apply c_skip | apply c_block | apply n_blk | apply c_exit | apply e_hit | apply e_cd | apply e_lp | (apply e_miss; rfl) | apply c_ret | (apply wO; apply o_box; rfl; rfl; rfl; intro _) | (apply wO; apply o_alloc; rfl; intro _) | (apply wO; apply o_st; rfl; rfl; rfl; (first | exact AggC.s | exact OneC.s); rfl; exact rplE; exact putE; rfl) | (apply wO; apply o_bs0; rfl; intro _) | (apply wO; apply o_bs; rfl; rfl; rfl; rfl; exact rptE; exact filE; intro _) | (apply wO; apply o_call; rfl; kernel_rfl; exact evsE))
        refine cb (fun w st => l7With_c _ x _ _ _ _ _ w (st.get (p := .isv ELink (.agg #[.slice a1 x.queue.length c1, .string x.fates, .int .i64 x.used]) x F) (by simp))) ?_
        repeat (first | apply c_seq | apply c_reg | (apply wO; apply oc; rfl; exact ydE) | apply w_nil | apply n_cd | (apply wg_t; rfl; rfl) | (apply wg_f; rfl; rfl; rfl; rfl) | (apply wg_u; rfl; rfl; rfl) | (apply c_t; rfl) | (apply c_f; rfl) | apply c_skip | apply c_block | apply n_blk | apply c_exit | apply e_hit | apply e_cd | apply e_lp | (apply e_miss; rfl) | apply c_ret | (apply wO; apply o_box; rfl; rfl; rfl; intro _) | (apply wO; apply o_alloc; rfl; intro _) | (apply wO; apply o_st; rfl; rfl; rfl; (first | exact AggC.s | exact OneC.s); rfl; exact rplE; exact putE; rfl) | (apply wO; apply o_bs0; rfl; intro _) | (apply wO; apply o_bs; rfl; rfl; rfl; rfl; exact rptE; exact filE; intro _) | (apply wO; apply o_call; rfl; kernel_rfl; exact evsE))
        refine t_read (xs := x.queue ++ [item]) fun F9 => ?_
        refine closeLink ⟨x.queue ++ [item], x.fates, min (x.used + 1) x.fates.size⟩ l1 ?_
        refine ret ⟨_, _, _⟩ trivial rfl
    · rw [fin (x.queue ++ [item]) (by unfold sentQ; rw [if_neg e1, if_neg (by omega), if_neg (by omega)]) (.inr n8)]
      repeat (first | apply c_seq | apply c_reg | (apply wO; apply oc; rfl; exact ydE) | apply w_nil | apply n_cd | (apply wg_t; rfl; rfl) | (apply wg_f; rfl; rfl; rfl; rfl) | (apply wg_u; rfl; rfl; rfl) | (apply c_t; rfl) | (apply c_f; rfl) | apply c_skip | apply c_block | apply n_blk | apply c_exit | apply e_hit | apply e_cd | apply e_lp | (apply e_miss; rfl) | apply c_ret | (apply wO; apply o_box; rfl; rfl; rfl; intro _) | (apply wO; apply o_alloc; rfl; intro _) | (apply wO; apply o_st; rfl; rfl; rfl; (first | exact AggC.s | exact OneC.s); rfl; exact rplE; exact putE; rfl) | (apply wO; apply o_bs0; rfl; intro _) | (apply wO; apply o_bs; rfl; rfl; rfl; rfl; exact rptE; exact filE; intro _) | (apply wO; apply o_call; rfl; kernel_rfl; exact evsE))
      apply wO
      refine ap1 (rep_s hi) one_EStr fun a5 c5 F5 => ?_
      repeat (first | apply c_seq | apply c_reg | (apply wO; apply oc; rfl; exact ydE) | apply w_nil | apply n_cd | (apply wg_t; rfl; rfl) | (apply wg_f; rfl; rfl; rfl; rfl) | (apply wg_u; rfl; rfl; rfl) | (apply c_t; rfl) | (apply c_f; rfl) | apply c_skip | apply c_block | apply n_blk | apply c_exit | apply e_hit | apply e_cd | apply e_lp | (apply e_miss; rfl) | apply c_ret | (apply wO; apply o_box; rfl; rfl; rfl; intro _) | (apply wO; apply o_alloc; rfl; intro _) | (apply wO; apply o_st; rfl; rfl; rfl; (first | exact AggC.s | exact OneC.s); rfl; exact rplE; exact putE; rfl) | (apply wO; apply o_bs0; rfl; intro _) | (apply wO; apply o_bs; rfl; rfl; rfl; rfl; exact rptE; exact filE; intro _) | (apply wO; apply o_call; rfl; kernel_rfl; exact evsE))
      refine cb (fun w st => l7With_c _ x _ _ _ _ _ w (st.get (p := .isv ELink (.agg #[.slice a1 x.queue.length c1, .string x.fates, .int .i64 x.used]) x F) (by simp))) ?_
      repeat (first | apply c_seq | apply c_reg | (apply wO; apply oc; rfl; exact ydE) | apply w_nil | apply n_cd | (apply wg_t; rfl; rfl) | (apply wg_f; rfl; rfl; rfl; rfl) | (apply wg_u; rfl; rfl; rfl) | (apply c_t; rfl) | (apply c_f; rfl) | apply c_skip | apply c_block | apply n_blk | apply c_exit | apply e_hit | apply e_cd | apply e_lp | (apply e_miss; rfl) | apply c_ret | (apply wO; apply o_box; rfl; rfl; rfl; intro _) | (apply wO; apply o_alloc; rfl; intro _) | (apply wO; apply o_st; rfl; rfl; rfl; (first | exact AggC.s | exact OneC.s); rfl; exact rplE; exact putE; rfl) | (apply wO; apply o_bs0; rfl; intro _) | (apply wO; apply o_bs; rfl; rfl; rfl; rfl; exact rptE; exact filE; intro _) | (apply wO; apply o_call; rfl; kernel_rfl; exact evsE))
      refine t_read (xs := x.queue ++ [item]) fun F9 => ?_
      refine closeLink ⟨x.queue ++ [item], x.fates, min (x.used + 1) x.fates.size⟩ l1 ?_
      refine ret ⟨_, _, _⟩ trivial rfl
end Go.Proofs.YtidephmobajikaaDoor
/- Walks: DropFrom and TakeFrom, the program's and the reference's. -/
namespace Go.Proofs.YtidephmobajikaaDoor
open Go.RowKit
end Go.Proofs.YtidephmobajikaaDoor
/- A reading of a struct goes over a change that leaves its blocks. Plain: no program in sight. -/
namespace Go.Proofs.YtidephmobajikaaDoor
open Go.RowKit
theorem IsV.frame {α : Type} {E : Elem α} {w w' : World} {v x F} (h : IsV E w v x F) (hF : ∀ b ∈ F, w'.heap[b]? = w.heap[b]?) : IsV E w' v x F := by
  obtain ⟨cs, hv, h⟩ := h; exact ⟨cs, hv, E.frame h hF⟩
end Go.Proofs.YtidephmobajikaaDoor
/- Walks: TakeFrom, the program's and the reference's. -/
namespace Go.Proofs.YtidephmobajikaaDoor
open Go.RowKit
def okTakeFrom (x : Link) : Bool := goodLink x && decide (0 < x.queue.length)
def resTakeFrom (x : Link) : Link × ByteArray × Bool := if okTakeFrom x then (⟨x.queue.drop 1, x.fates, x.used⟩, x.queue.headD ⟨#[]⟩, true) else (⟨[], ⟨#[]⟩, 0⟩, ⟨#[]⟩, false)
def PI_TakeFrom : Link × ByteArray × Bool → World → Ending → World → Prop := fun (r0, r1, r2) w e w' => ∃ u0 G0, e = .returned (.tuple #[u0, .string r1, .bool r2]) ∧ IsV OLink w' u0 r0 G0 ∧ (G0).Nodup ∧ (∀ b ∈ G0, w.heap.size ≤ b) ∧ Below w.heap.size w w'
theorem first_text {w : World} {a : Option Addr} {n c : Nat} {f : ByteArray} {u : Int} {x : Link} {F : List Nat} (h : IsV ELink w (.agg #[.slice a n c, .string f, .int .i64 u]) x F) {q : ByteArray} (hq : x.queue[0]? = some q) :
    q.size ≤ maxLen ∧ ∃ b off, a = some ⟨b, off, none⟩ ∧ w.cell? ⟨b, off, none⟩ = some (.string q) := by
  obtain ⟨_, e1, v1, rfl, -, h1⟩ := h
  simp at e1
  obtain ⟨rfl, -⟩ := e1
  obtain ⟨h0, rfl⟩ := List.getElem?_eq_some_iff.1 hq
  obtain ⟨hs, b, off, e, hc⟩ := h1.str.2.2 0 h0
  exact ⟨hs, b, off, e, by simpa using hc⟩
theorem first_cell {w : World} {b off n c : Nat} {f : ByteArray} {u : Int} {x : Link} {F : List Nat} (h : IsV ELink w (.agg #[.slice (some ⟨b, off, none⟩) n c, .string f, .int .i64 u]) x F) {q : ByteArray} (hq : x.queue[0]? = some q) :
    w.cell? ⟨b, off, none⟩ = some (.string q) := by
  obtain ⟨-, b', off', e, hc⟩ := first_text h hq
  cases e; exact hc
set_option maxHeartbeats 3200000 in
set_option maxRecDepth 100000 in
theorem TakeFrom_c (v0 : Value) (x0 : Link) (F0 : List Nat) (w : World) (h0 : IsV ELink w v0 x0 F0) :
    Calls Tryd.prog 63 #[v0] w (PI_TakeFrom (resTakeFrom x0) w) := by
  have A0 := h0
  have lA0 := h0.lt
  obtain ⟨_, rfl, v0_1, rfl, s0_1, h0_1⟩ := h0
  obtain ⟨a0_1, c0_1, rfl⟩ := h0_1.slice
  clear h0_1
  go_enter Tryd.func63, Tryd.ntmps63
  go_wp2_with fail
  have al : Below w.heap.size w ((w.alloc (.cells #[.slice a0_1 x0.queue.length c0_1, .string x0.fates, .int .i64 x0.used] 76)).alloc (.cells #[.slice none 0 0, .string ⟨#[]⟩, .int .i64 0] 76)) := by
    repeat refine Below.alloc ?_ (by simp <;> omega) _
    exact Below.refl _ _
  have n_R0 : Row ((w.alloc (.cells #[.slice a0_1 x0.queue.length c0_1, .string x0.fates, .int .i64 x0.used] 76)).alloc (.cells #[.slice none 0 0, .string ⟨#[]⟩, .int .i64 0] 76)) (w.heap.size) 76 [.slice a0_1 x0.queue.length c0_1, .string x0.fates, .int .i64 x0.used] := by simp [row_alloc] <;> omega
  have n_RZ : Row ((w.alloc (.cells #[.slice a0_1 x0.queue.length c0_1, .string x0.fates, .int .i64 x0.used] 76)).alloc (.cells #[.slice none 0 0, .string ⟨#[]⟩, .int .i64 0] 76)) (w.heap.size + 1) 76 [.slice none 0 0, .string ⟨#[]⟩, .int .i64 0] := by simp [row_alloc] <;> omega
  have hs_w1 : w.heap.size + 1 < ((w.alloc (.cells #[.slice a0_1 x0.queue.length c0_1, .string x0.fates, .int .i64 x0.used] 76)).alloc (.cells #[.slice none 0 0, .string ⟨#[]⟩, .int .i64 0] 76)).heap.size := by simp <;> omega
  replace A0 := A0.below al
  have hB := al
  generalize ((w.alloc (.cells #[.slice a0_1 x0.queue.length c0_1, .string x0.fates, .int .i64 x0.used] 76)).alloc (.cells #[.slice none 0 0, .string ⟨#[]⟩, .int .i64 0] 76)) = w1 at *
  have R0 := n_R0; clear n_R0
  have RZ := n_RZ; clear n_RZ
  clear al
  refine (IsValidLink_c _ x0 F0 _ A0).mono ?_
  rintro e w2 ⟨rfl, hb⟩
  have hs_w2 := hb.size
  replace R0 := R0.below hb
  replace RZ := RZ.below hb
  replace A0 := A0.below hb
  replace hB := tr hB hb (Nat.le_refl _)
  clear hb
  cases g1 : goodLink x0
  · have hr : resTakeFrom x0 = (⟨[], ⟨#[]⟩, 0⟩, ⟨#[]⟩, false) := by unfold resTakeFrom okTakeFrom; rw [g1]; simp
    replace hr := Lib.hid hr
    have c_R0 := R0.cells; have f_R0 := R0.frozens
    have c_RZ := RZ.cells; have f_RZ := RZ.frozens
    go_wp2_with fail
    refine bodyPost_ret (v := .tuple #[.agg #[.slice none 0 0, .string ⟨#[]⟩, .int .i64 0], .string ⟨#[]⟩, .bool false]) ?_ rfl ?_
    · simp [results, Tryd.results63, go_sem, c_RZ, f_RZ]
    · rw [hr.out]
      refine ⟨_, [], rfl, ⟨_, rfl, _, rfl, by decide, .inl ⟨rfl, rfl, rfl⟩⟩, by simp, by simp, ?_⟩
      repeat refine Below.setCell ?_ (by simp <;> omega) _
      exact hB
  have gg := goodLink_iff.1 g1
  obtain ⟨⟨⟨⟨hq8, -⟩, -⟩, -⟩, -, -⟩ := gg
  by_cases g2 : x0.queue = []
  · have hr : resTakeFrom x0 = (⟨[], ⟨#[]⟩, 0⟩, ⟨#[]⟩, false) := by unfold resTakeFrom okTakeFrom; rw [g2]; simp
    replace hr := Lib.hid hr
    have c_R0 := R0.cells; have f_R0 := R0.frozens
    have c_RZ := RZ.cells; have f_RZ := RZ.frozens
    go_wp2_with fail
    refine bodyPost_ret (v := .tuple #[.agg #[.slice none 0 0, .string ⟨#[]⟩, .int .i64 0], .string ⟨#[]⟩, .bool false]) ?_ rfl ?_
    · simp [results, Tryd.results63, go_sem, c_RZ, f_RZ]
    · rw [hr.out]
      refine ⟨_, [], rfl, ⟨_, rfl, _, rfl, by decide, .inl ⟨rfl, rfl, rfl⟩⟩, by simp, by simp, ?_⟩
      repeat refine Below.setCell ?_ (by simp <;> omega) _
      exact hB
  have hk : 0 < x0.queue.length := List.length_pos_iff.2 g2
  have g3 : ¬ (x0.queue.length : Int) = 0 := by omega
  obtain ⟨q0, hq0⟩ : ∃ q0, x0.queue[0]? = some q0 := ⟨_, List.getElem?_eq_getElem hk⟩
  obtain ⟨hq0s, b, off, rfl, -⟩ := first_text A0 hq0
  obtain ⟨s, hs⟩ : ∃ s, s = x0.queue.drop 1 := ⟨_, rfl⟩
  have hr : resTakeFrom x0 = (⟨s, x0.fates, x0.used⟩, q0, true) := by
    have h1 : x0.queue.headD ⟨#[]⟩ = q0 := by
      cases hq : x0.queue with
      | nil => rw [hq] at hk; simp at hk
      | cons y r => rw [hq] at hq0; simp at hq0; simp [hq0]
    unfold resTakeFrom okTakeFrom
    rw [g1, decide_eq_true hk, h1, hs]; rfl
  have hsl : s.length = x0.queue.length - 1 := by rw [hs]; simp
  replace hr := Lib.hid hr
  replace hq0 := Lib.hid hq0
  have c_R0 := R0.cells; have f_R0 := R0.frozens
  have c_RZ := RZ.cells; have f_RZ := RZ.frozens
  go_wp2_with fail
  clear c_R0 f_R0 c_RZ f_RZ
  refine (Link_clone_c _ x0 F0 _ A0 (by omega)).mono ?_
  rintro e w3 ⟨_, F3, rfl, ⟨_, rfl, v3, rfl, s3, o3⟩, n3, g3, hb⟩
  have hs_w3 := hb.size
  replace R0 := R0.below hb
  replace RZ := RZ.below hb
  replace A0 := A0.below hb
  replace hB := tr hB hb (Nat.le_refl _)
  clear hb
  obtain ⟨a3, c3, rfl⟩ := o3.slice
  have l3 := o3.lt
  have c_R0 := R0.cells; have f_R0 := R0.frozens; have d_R0 := fun o => (R0.alloc o).cells; have e_R0 := fun o => (R0.alloc o).frozens
  have c_RZ := RZ.cells; have f_RZ := RZ.frozens; have d_RZ := fun o => (RZ.alloc o).cells; have e_RZ := fun o => (RZ.alloc o).frozens
  go_wp2_with fail
  clear c_R0 f_R0 d_R0 e_R0 c_RZ f_RZ d_RZ e_RZ
  have al : Below w3.heap.size w3 (w3.alloc (.cells #[.slice a3 x0.queue.length c3, .string x0.fates, .int .i64 x0.used] 76)) := by
    repeat refine Below.alloc ?_ (by simp <;> omega) _
    exact Below.refl _ _
  have n_RO := Row.made w3 76 [.slice a3 x0.queue.length c3, .string x0.fates, .int .i64 x0.used]
  have hs_w4 : w3.heap.size < (w3.alloc (.cells #[.slice a3 x0.queue.length c3, .string x0.fates, .int .i64 x0.used] 76)).heap.size := by simp
  replace R0 := R0.below al
  replace RZ := RZ.below al
  replace A0 := A0.below al
  replace o3 := o3.below al
  replace hB := tr hB al (Nat.le_refl _)
  generalize (w3.alloc (.cells #[.slice a3 x0.queue.length c3, .string x0.fates, .int .i64 x0.used] 76)) = w4 at *
  have RO := n_RO; clear n_RO
  clear al
  have c_R0 := R0.cells; have f_R0 := R0.frozens
  have c_RZ := RZ.cells; have f_RZ := RZ.frozens
  have c_RO := RO.cells; have f_RO := RO.frozens
  go_wp2_with fail
  clear c_R0 f_R0 c_RZ f_RZ c_RO f_RO
  refine (Delete_String _ _ _ x0.queue F3 0 1 _ o3 (by omega) (by omega) (by omega)).mono ?_
  rintro e w5 ⟨rfl, o5, K⟩
  have hs5 := K.size
  clear o3
  replace R0 := R0.keepK K (fun hm => by have h1 := g3 _ hm; have h2 := l3 _ hm; omega)
  replace RZ := RZ.keepK K (fun hm => by have h1 := g3 _ hm; have h2 := l3 _ hm; omega)
  replace RO := RO.keepK K (fun hm => by have h1 := g3 _ hm; have h2 := l3 _ hm; omega)
  replace A0 := A0.keep K (fun b hb hm => by have h1 := g3 _ hm; have h2 := lA0 b hb; omega)
  replace hB := hB.trans (K.below (B := w.heap.size) (by omega) (fun b hm => by have h1 := g3 _ hm; have h2 := l3 _ hm; omega))
  clear K
  have o6 : Ow EStr 9 w5 (.slice a3 (x0.queue.length - 1) c3) s F3 := by rw [hs]; simpa using o5
  clear o5
  have c_R0 := R0.cells; have f_R0 := R0.frozens
  have c_RZ := RZ.cells; have f_RZ := RZ.frozens
  have c_RO := RO.cells; have f_RO := RO.frozens
  go_wp2_with fail
  clear c_R0 f_R0 c_RZ f_RZ c_RO f_RO
  have n_R0 := R0.keep (show (w5.setCell ⟨w3.heap.size, 0, none⟩ (.slice a3 (x0.queue.length - 1) c3)).heap[_]? = _ from by repeat rw [Below.heap_setCell _ _ _ _ (by simp <;> omega)])
  have n_RZ := RZ.keep (show (w5.setCell ⟨w3.heap.size, 0, none⟩ (.slice a3 (x0.queue.length - 1) c3)).heap[_]? = _ from by repeat rw [Below.heap_setCell _ _ _ _ (by simp <;> omega)])
  have n_RO : Row (w5.setCell ⟨w3.heap.size, 0, none⟩ (.slice a3 (x0.queue.length - 1) c3)) (w3.heap.size) 76 [.slice a3 (x0.queue.length - 1) c3, .string x0.fates, .int .i64 x0.used] := by simpa using (RO.set 0 (.slice a3 (x0.queue.length - 1) c3))
  have n_A0 := A0.frame (w' := (w5.setCell ⟨w3.heap.size, 0, none⟩ (.slice a3 (x0.queue.length - 1) c3))) fun b hb => by
    have h6 := lA0 b hb
    repeat rw [Below.heap_setCell _ _ _ _ (by simp <;> omega)]
  have n_o6 := o6.frame (w' := (w5.setCell ⟨w3.heap.size, 0, none⟩ (.slice a3 (x0.queue.length - 1) c3))) fun b hb => by
    have h6 := g3 b hb
    have h7 := l3 b hb
    repeat rw [Below.heap_setCell _ _ _ _ (by simp <;> omega)]
  have n_hB : Below w.heap.size w (w5.setCell ⟨w3.heap.size, 0, none⟩ (.slice a3 (x0.queue.length - 1) c3)) := by
    repeat refine Below.setCell ?_ (by simp <;> omega) _
    exact hB
  clear hB R0 RZ RO A0 o6
  have hs_w5 : w5.heap.size ≤ (w5.setCell ⟨w3.heap.size, 0, none⟩ (.slice a3 (x0.queue.length - 1) c3)).heap.size := by simp
  generalize (w5.setCell ⟨w3.heap.size, 0, none⟩ (.slice a3 (x0.queue.length - 1) c3)) = w5 at *
  have hB := n_hB; clear n_hB
  have R0 := n_R0; clear n_R0
  have RZ := n_RZ; clear n_RZ
  have RO := n_RO; clear n_RO
  have A0 := n_A0; clear n_A0
  have o6 := n_o6; clear n_o6
  rename_i K0 hK0
  refine AnyX.start (S := (fun w' => w'.cell? ⟨w.heap.size, 0, none⟩ = some (.slice (some ⟨b, off, none⟩) x0.queue.length c0_1) ∧ w'.cell? ⟨w.heap.size, 1, none⟩ = some (.string x0.fates) ∧ w'.cell? ⟨w.heap.size, 2, none⟩ = some (.int .i64 x0.used) ∧ w'.cell? ⟨w3.heap.size, 0, none⟩ = some (.slice a3 (x0.queue.length - 1) c3) ∧ w'.cell? ⟨w3.heap.size, 1, none⟩ = some (.string x0.fates) ∧ w'.cell? ⟨w3.heap.size, 2, none⟩ = some (.int .i64 x0.used) ∧ w'.cell? ⟨b, off, none⟩ = some (.string q0))) (X := (fun _ => false)) (by kernel_rfl) ?_
  have al : Below w5.heap.size w5 w5.drew := belowDrewN (Below.refl _ _) 1
  have hs_w6 := al.size
  replace R0 := R0.below al
  replace RZ := RZ.below al
  replace RO := RO.below al
  replace A0 := A0.below al
  replace o6 := o6.below al
  replace hB := tr hB al (Nat.le_refl _)
  generalize w5.drew = w6 at *
  clear al
  have hS : (fun w' => w'.cell? ⟨w.heap.size, 0, none⟩ = some (.slice (some ⟨b, off, none⟩) x0.queue.length c0_1) ∧ w'.cell? ⟨w.heap.size, 1, none⟩ = some (.string x0.fates) ∧ w'.cell? ⟨w.heap.size, 2, none⟩ = some (.int .i64 x0.used) ∧ w'.cell? ⟨w3.heap.size, 0, none⟩ = some (.slice a3 (x0.queue.length - 1) c3) ∧ w'.cell? ⟨w3.heap.size, 1, none⟩ = some (.string x0.fates) ∧ w'.cell? ⟨w3.heap.size, 2, none⟩ = some (.int .i64 x0.used) ∧ w'.cell? ⟨b, off, none⟩ = some (.string q0)) w6 := ⟨R0.cells 0, R0.cells 1, R0.cells 2, RO.cells 0, RO.cells 1, RO.cells 2, first_cell A0 hq0.out⟩
  refine AnyX.take (i := 0) (oi := _) (v := ?_) (by rw [List.getElem?_toArray]; rfl) (by kernel_rfl) (by kernel_rfl) (by kernel_rfl) (by kernel_rfl) (by kernel_rfl) (by exact fun _ _ _ h => h) (Or.inl ⟨by rfl, ?_⟩) hS ?_
  rotate_left
  · (intro wS hSw; (try dsimp only at hSw); go_simp; try with_reducible rfl)
  try simp only [Act.put, List.setIfInBounds_toArray, List.set_cons_zero, List.set_cons_succ]
  refine AnyX.take (i := 1) (oi := _) (v := ?_) (by rw [List.getElem?_toArray]; rfl) (by kernel_rfl) (by kernel_rfl) (by kernel_rfl) (by kernel_rfl) (by kernel_rfl) (by exact fun _ _ _ h => h) (Or.inl ⟨by rfl, ?_⟩) hS ?_
  rotate_left
  · (intro wS hSw; (try dsimp only at hSw); go_simp; try with_reducible rfl)
  try simp only [Act.put, List.setIfInBounds_toArray, List.set_cons_zero, List.set_cons_succ]
  refine AnyX.take (i := 2) (oi := _) (v := ?_) (by rw [List.getElem?_toArray]; rfl) (by kernel_rfl) (by kernel_rfl) (by kernel_rfl) (by kernel_rfl) (by kernel_rfl) (by exact fun _ _ _ h => h) (Or.inl ⟨by rfl, ?_⟩) hS ?_
  rotate_left
  · (intro wS hSw; (try dsimp only at hSw); go_simp; try with_reducible rfl)
  try simp only [Act.put, List.setIfInBounds_toArray, List.set_cons_zero, List.set_cons_succ]
  refine AnyX.take (i := 3) (oi := _) (v := ?_) (by rw [List.getElem?_toArray]; rfl) (by kernel_rfl) (by kernel_rfl) (by kernel_rfl) (by kernel_rfl) (by kernel_rfl) (by exact fun _ _ _ h => h) (Or.inl ⟨by rfl, ?_⟩) hS ?_
  rotate_left
  · (intro wS hSw; (try dsimp only at hSw); go_simp; try with_reducible rfl)
  try simp only [Act.put, List.setIfInBounds_toArray, List.set_cons_zero, List.set_cons_succ]
  refine AnyX.take (i := 4) (oi := _) (v := ?_) (by rw [List.getElem?_toArray]; rfl) (by kernel_rfl) (by kernel_rfl) (by kernel_rfl) (by kernel_rfl) (by kernel_rfl) (by exact fun _ _ _ h => h) (Or.inl ⟨by rfl, ?_⟩) hS ?_
  rotate_left
  · (intro wS hSw; (try dsimp only at hSw); go_simp; try with_reducible rfl)
  try simp only [Act.put, List.setIfInBounds_toArray, List.set_cons_zero, List.set_cons_succ]
  refine AnyX.only (i := 5) (o := _) (by kernel_rfl) (by rw [List.getElem?_toArray]; rfl) (fun K hK => ?_)
  have c_R0 := R0.cells; have f_R0 := R0.frozens
  have c_RZ := RZ.cells; have f_RZ := RZ.frozens
  have c_RO := RO.cells; have f_RO := RO.frozens
  go_simp
  clear c_R0 f_R0 c_RZ f_RZ c_RO f_RO
  have n_R0 := R0.keep (show (((w6.setCell ⟨w.heap.size + 1, 0, none⟩ (.slice a3 (x0.queue.length - 1) c3)).setCell ⟨w.heap.size + 1, 1, none⟩ (.string x0.fates)).setCell ⟨w.heap.size + 1, 2, none⟩ (.int .i64 x0.used)).heap[_]? = _ from by repeat rw [Below.heap_setCell _ _ _ _ (by simp <;> omega)])
  have n_RO := RO.keep (show (((w6.setCell ⟨w.heap.size + 1, 0, none⟩ (.slice a3 (x0.queue.length - 1) c3)).setCell ⟨w.heap.size + 1, 1, none⟩ (.string x0.fates)).setCell ⟨w.heap.size + 1, 2, none⟩ (.int .i64 x0.used)).heap[_]? = _ from by repeat rw [Below.heap_setCell _ _ _ _ (by simp <;> omega)])
  have n_RZ : Row (((w6.setCell ⟨w.heap.size + 1, 0, none⟩ (.slice a3 (x0.queue.length - 1) c3)).setCell ⟨w.heap.size + 1, 1, none⟩ (.string x0.fates)).setCell ⟨w.heap.size + 1, 2, none⟩ (.int .i64 x0.used)) (w.heap.size + 1) 76 [.slice a3 (x0.queue.length - 1) c3, .string x0.fates, .int .i64 x0.used] := by simpa using (((RZ.set 0 (.slice a3 (x0.queue.length - 1) c3)).set 1 (.string x0.fates)).set 2 (.int .i64 x0.used))
  have n_A0 := A0.frame (w' := (((w6.setCell ⟨w.heap.size + 1, 0, none⟩ (.slice a3 (x0.queue.length - 1) c3)).setCell ⟨w.heap.size + 1, 1, none⟩ (.string x0.fates)).setCell ⟨w.heap.size + 1, 2, none⟩ (.int .i64 x0.used))) fun b hb => by
    have h6 := lA0 b hb
    repeat rw [Below.heap_setCell _ _ _ _ (by simp <;> omega)]
  have n_o6 := o6.frame (w' := (((w6.setCell ⟨w.heap.size + 1, 0, none⟩ (.slice a3 (x0.queue.length - 1) c3)).setCell ⟨w.heap.size + 1, 1, none⟩ (.string x0.fates)).setCell ⟨w.heap.size + 1, 2, none⟩ (.int .i64 x0.used))) fun b hb => by
    have h6 := g3 b hb
    have h7 := l3 b hb
    repeat rw [Below.heap_setCell _ _ _ _ (by simp <;> omega)]
  have n_hB : Below w.heap.size w (((w6.setCell ⟨w.heap.size + 1, 0, none⟩ (.slice a3 (x0.queue.length - 1) c3)).setCell ⟨w.heap.size + 1, 1, none⟩ (.string x0.fates)).setCell ⟨w.heap.size + 1, 2, none⟩ (.int .i64 x0.used)) := by
    repeat refine Below.setCell ?_ (by simp <;> omega) _
    exact hB
  clear hB R0 RZ RO A0 o6
  have hs_w7 : w6.heap.size ≤ (((w6.setCell ⟨w.heap.size + 1, 0, none⟩ (.slice a3 (x0.queue.length - 1) c3)).setCell ⟨w.heap.size + 1, 1, none⟩ (.string x0.fates)).setCell ⟨w.heap.size + 1, 2, none⟩ (.int .i64 x0.used)).heap.size := by simp
  generalize (((w6.setCell ⟨w.heap.size + 1, 0, none⟩ (.slice a3 (x0.queue.length - 1) c3)).setCell ⟨w.heap.size + 1, 1, none⟩ (.string x0.fates)).setCell ⟨w.heap.size + 1, 2, none⟩ (.int .i64 x0.used)) = w7 at *
  have hB := n_hB; clear n_hB
  have R0 := n_R0; clear n_R0
  have RZ := n_RZ; clear n_RZ
  have RO := n_RO; clear n_RO
  have A0 := n_A0; clear n_A0
  have o6 := n_o6; clear n_o6
  clear hS
  have hS : (fun w' => w'.cell? ⟨w.heap.size, 0, none⟩ = some (.slice (some ⟨b, off, none⟩) x0.queue.length c0_1) ∧ w'.cell? ⟨w.heap.size, 1, none⟩ = some (.string x0.fates) ∧ w'.cell? ⟨w.heap.size, 2, none⟩ = some (.int .i64 x0.used) ∧ w'.cell? ⟨w3.heap.size, 0, none⟩ = some (.slice a3 (x0.queue.length - 1) c3) ∧ w'.cell? ⟨w3.heap.size, 1, none⟩ = some (.string x0.fates) ∧ w'.cell? ⟨w3.heap.size, 2, none⟩ = some (.int .i64 x0.used) ∧ w'.cell? ⟨b, off, none⟩ = some (.string q0)) w7 := ⟨R0.cells 0, R0.cells 1, R0.cells 2, RO.cells 0, RO.cells 1, RO.cells 2, first_cell A0 hq0.out⟩
  refine hK.out _ _ (fun _ => hS) ?_
  clear hK K
  try simp only [Act.put, List.setIfInBounds_toArray, List.set_cons_zero, List.set_cons_succ]
  refine AnyX.only (i := 6) (o := _) (by kernel_rfl) (by rw [List.getElem?_toArray]; rfl) (fun K hK => ?_)
  try go_simp
  clear hS
  have hS : (fun w' => w'.cell? ⟨w.heap.size, 0, none⟩ = some (.slice (some ⟨b, off, none⟩) x0.queue.length c0_1) ∧ w'.cell? ⟨w.heap.size, 1, none⟩ = some (.string x0.fates) ∧ w'.cell? ⟨w.heap.size, 2, none⟩ = some (.int .i64 x0.used) ∧ w'.cell? ⟨w3.heap.size, 0, none⟩ = some (.slice a3 (x0.queue.length - 1) c3) ∧ w'.cell? ⟨w3.heap.size, 1, none⟩ = some (.string x0.fates) ∧ w'.cell? ⟨w3.heap.size, 2, none⟩ = some (.int .i64 x0.used) ∧ w'.cell? ⟨b, off, none⟩ = some (.string q0)) w7 := ⟨R0.cells 0, R0.cells 1, R0.cells 2, RO.cells 0, RO.cells 1, RO.cells 2, first_cell A0 hq0.out⟩
  refine hK.out _ _ (fun _ => hS) ?_
  clear hK K
  try simp only [Act.put, List.setIfInBounds_toArray, List.set_cons_zero, List.set_cons_succ]
  refine AnyX.only (i := 7) (o := _) (by kernel_rfl) (by rw [List.getElem?_toArray]; rfl) (fun K hK => ?_)
  try go_simp
  clear hS
  have hS : (fun w' => w'.cell? ⟨w.heap.size, 0, none⟩ = some (.slice (some ⟨b, off, none⟩) x0.queue.length c0_1) ∧ w'.cell? ⟨w.heap.size, 1, none⟩ = some (.string x0.fates) ∧ w'.cell? ⟨w.heap.size, 2, none⟩ = some (.int .i64 x0.used) ∧ w'.cell? ⟨w3.heap.size, 0, none⟩ = some (.slice a3 (x0.queue.length - 1) c3) ∧ w'.cell? ⟨w3.heap.size, 1, none⟩ = some (.string x0.fates) ∧ w'.cell? ⟨w3.heap.size, 2, none⟩ = some (.int .i64 x0.used) ∧ w'.cell? ⟨b, off, none⟩ = some (.string q0)) w7 := ⟨R0.cells 0, R0.cells 1, R0.cells 2, RO.cells 0, RO.cells 1, RO.cells 2, first_cell A0 hq0.out⟩
  refine hK.out _ _ (fun _ => hS) ?_
  clear hK K
  try simp only [Act.put, List.setIfInBounds_toArray, List.set_cons_zero, List.set_cons_succ]
  refine AnyX.done (by kernel_rfl) ?_ _
  (try clear hS)
  refine hK0 _ _ ?_
  clear hK0 K0
  clear A0
  replace o6 := Lib.hid o6
  clear hsl
  have c_R0 := R0.cells; have f_R0 := R0.frozens
  have c_RZ := RZ.cells; have f_RZ := RZ.frozens
  have c_RO := RO.cells; have f_RO := RO.frozens
  go_wp2_with fail
  refine bodyPost_ret (v := .tuple #[.agg #[.slice a3 (x0.queue.length - 1) c3, .string x0.fates, .int .i64 x0.used], .string q0, .bool true]) ?_ rfl ?_
  · simp [results, Tryd.results63, go_sem, c_RZ, f_RZ]
  · rw [hr.out]
    refine ⟨_, F3, rfl, ⟨_, rfl, _, rfl, s0_1, ?_⟩, n3, fun b hb => by have := g3 b hb; omega, ?_⟩
    · exact o6.out
    · exact hB
end Go.Proofs.YtidephmobajikaaDoor
/- '[]byte' of a string, a byte stored, and back. -/
namespace Go.Proofs.YtidephmobajikaaDoor
open Go.RowKit
/-- a byte aS data -/
def EByte : Elem Int where
  sz := 1
  rep _ cs z F := cs = [.int .u8 z] ∧ 0 ≤ z ∧ z ≤ 255 ∧ F = []
  len h := by simp [h.1]
  lt h := by simp [h.2.2.2]
  frame h _ := h
/-- the bytes of l lie in block g -/
def ByteRow (w : World) (g : Nat) (l : List UInt8) : Prop :=
  g < w.heap.size ∧ ∀ j (hj : j < l.length), w.cell? ⟨g, j, none⟩ = some (.int .u8 (l[j].toNat : Int)) ∧ w.frozen? ⟨g, j, none⟩ = false
theorem ByteRow.below {w w' g l} (h : ByteRow w g l) (hb : Below w.heap.size w w') : ByteRow w' g l :=
  ⟨Nat.lt_of_lt_of_le h.1 hb.size, fun j hj => ⟨(hb.cell (p := ⟨g, j, none⟩) h.1).trans (h.2 j hj).1, (hb.frozen (p := ⟨g, j, none⟩) h.1).trans (h.2 j hj).2⟩⟩
theorem ByteRow.set {w g l} (h : ByteRow w g l) (k : Nat) (b : UInt8) (hk : k < l.length) : ByteRow (w.setCell ⟨g, k, none⟩ (.int .u8 (b.toNat : Int))) g (l.set k b) := by
  refine ⟨by simp [h.1], fun j hj => ?_⟩
  rw [List.length_set] at hj
  refine ⟨?_, ?_⟩
  · by_cases e : k = j
    · subst e
      rw [World.cell?_setCell_same _ _ _ (h.2 k hk).1]
      simp
    · rw [World.cell?_setCell_other _ _ _ _ (by intro q; cases q; exact e rfl), (h.2 j hj).1]
      simp [List.getElem_set, e]
  · rw [World.frozen?_setCell]; exact (h.2 j hj).2
end Go.Proofs.YtidephmobajikaaDoor
/- Texts that are alike; a code that is too long. -/
namespace Go.Proofs.YtidephmobajikaaDoor
open Go.RowKit
end Go.Proofs.YtidephmobajikaaDoor
/- More operations: parts of texts, slices made, functions called by their value; a part of a slice that reads. -/
namespace Go.Proofs.YtidephmobajikaaDoor
open Go.RowKit
section
variable {P : Program} {n : Nat} {fr : Fr} {H : List Pc} {ty : TypeId} {x y z : Operand}
theorem yd_sll {t : TypeId} {s : ByteArray} {kd : IntKind} {i : Int} [hS : StrC P t] (hx : ev fr x = some (.string s)) (hy : ev fr y = some (.int kd i)) (h0 : 0 ≤ i) (h1 : i ≤ s.size) : Yd P n fr H (.slice t x (some y) none none) ty (.string (s.extract i.toNat s.size)) := .mk fun a w d pos aft g hA _ => by
  have h3 : (Instr.sliceAt t (.string s) (some (.int kd i)) none none).run P w = .ok (.string (s.extract i.toNat s.size)) w := by
    rw [run_sliceAt_string (h := hS.u), run_slice_string_l (ht := hS.u) (h0 := h0) (h1 := h1)]
  simp only [execOp, Option.map_none, Option.map_some, hA.ev hx, hA.ev hy, Sem.run_bind, h3, Result.andThen_ok, Sem.run_pure]
end
section
variable {c : Cx} {fr : Fr} {H : List Pc} {k : List It} {Φ : Gl} {ops : Array Oper} {rest : List Oper} {d : Nat} {o : Op} {ty : TypeId} {v u : Value} {x y : Operand}
theorem o_ms {t e m b : Nat} {z : Value} [hS : SlC c.P t e m] [hE : ElT c.P e z m b] (k : Nat) {kl kc : IntKind} {cs : List Value} (hd : Nat.blt d c.n = true) (hx : ev fr x = some (.int kl (k : Nat))) (hy : ev fr y = some (.int kc (k : Nat))) (hcs : madeCells z.cells (k * m) = cs.toArray) (hb : b * k ≤ 281474976710656) (h63 : k ≤ 9223372036854775807)
    (h : ∀ g, T c ((d, .slice (some ⟨g, 0, none⟩) k k) :: fr) (.row g e 0 [] cs [] :: H) Φ) : On c fr H (some d) (.makeSlice t x y) ty Φ := ⟨fun _ _ _ => ef_of fun Q a w s g => by
  obtain ⟨i, hi, hiz⟩ := Option.map_eq_some_iff.1 hE.i
  simp only [Prod.mk.injEq] at hiz
  obtain ⟨i1, i2, i3⟩ := hiz
  have hb' : (i.bytes : Int) * ((k : Nat) : Int) ≤ 281474976710656 := by rw [i3]; have : ((b * k : Nat) : Int) ≤ 281474976710656 := by omega
                                                                         rwa [Int.natCast_mul] at this
  have hr := run_make (P := c.P) w t e i z hS.u hi i1 kl kc (k : Nat) (k : Nat) (by omega) (by omega) hb' (by omega)
  simp only [Int.toNat_natCast, i2, hcs] at hr
  have e1 : ∀ pos aft gd, (execOp a.eval ⟨some d, .makeSlice t x y, ty, pos, aft, gd⟩).run c.P w = .ok (.value (.slice (some ⟨w.heap.size, 0, none⟩) k k)) (w.alloc (.cells cs.toArray e)) := by
    intro pos aft gd
    simp [execOp, g.ev hx, g.ev hy, hr]
  rw [e1]
  exact (h _).h _ _ (s.new e cs) (g.put hd)⟩
end
end Go.Proofs.YtidephmobajikaaDoor
/- Links: taken from, dropped from, made, the next letter, alike. -/
namespace Go.Proofs.YtidephmobajikaaDoor
open Go.RowKit
theorem TakeFrom_f (x : Link) (v : Value) (F : List Nat) : Fn Tryd.prog 63 [v] [.isv ELink v x F] [] (fun (_ : Value × List Nat) => True)
    (fun s => .tuple #[s.1, .string (resTakeFrom x).2.1, .bool (resTakeFrom x).2.2]) (fun s => [.own OLink s.1 (resTakeFrom x).1 s.2]) :=
  fn_made fun w hA => (TakeFrom_c v x F w (hA (.isv ELink v x F) (by simp))).mono fun e w' ⟨u, G, he, h1, h2, h3, h4⟩ => ⟨(u, G), trivial, he, ⟨h2, h1⟩, h3, h4⟩
set_option maxRecDepth 100000 in
theorem rTexts_f (v v2 : Value) (xs : List ByteArray) (F F2 : List Nat) : Fn Tryd.prog 87 [v, v2] [.sl EStr v xs F, .sl EStr v2 xs F2] [] (fun (_ : Unit) => True) (fun _ => .bool true) (fun _ => []) := by
  refine enter Tryd.func87 rfl Tryd.ntmps87 fun w0 => ?_
  refine t_sl (v := v) (xs := xs) (F := F) ?_
  rintro a c rfl l1 l2
  refine t_sl (v := v2) (xs := xs) (F := F2) ?_
  rintro a2 c2 rfl l3 l4
  repeat (first | apply c_seq | apply c_reg | (apply wO; apply oc; rfl; exact ydE) | apply w_nil | apply n_cd | (apply wg_t; rfl; rfl) | (apply wg_f; rfl; rfl; rfl; rfl) | (apply wg_u; rfl; rfl; rfl) | (apply c_t; rfl) | (apply c_f; rfl) | apply c_skip | apply c_block | apply n_blk | apply c_exit | apply e_hit | apply e_cd | apply e_lp | (apply e_miss; rfl) | apply c_ret | (apply wO; apply o_box; rfl; rfl; rfl; intro _) | (apply wO; apply o_alloc; rfl; intro _) | (apply wO; apply o_st; rfl; rfl; rfl; (first | exact AggC.s | exact OneC.s); rfl; exact rplE; exact putE; rfl) | (apply wO; apply o_bs0; rfl; intro _) | (apply wO; apply o_bs; rfl; rfl; rfl; rfl; exact rptE; exact filE; intro _) | (apply wO; apply o_call; rfl; kernel_rfl; exact evsE))
  refine c_if rfl (fun h => ?_) (fun h => ?_)
  · exact absurd rfl h
  repeat (first | apply c_seq | apply c_reg | (apply wO; apply oc; rfl; exact ydE) | apply w_nil | apply n_cd | (apply wg_t; rfl; rfl) | (apply wg_f; rfl; rfl; rfl; rfl) | (apply wg_u; rfl; rfl; rfl) | (apply c_t; rfl) | (apply c_f; rfl) | apply c_skip | apply c_block | apply n_blk | apply c_exit | apply e_hit | apply e_cd | apply e_lp | (apply e_miss; rfl) | apply c_ret | (apply wO; apply o_box; rfl; rfl; rfl; intro _) | (apply wO; apply o_alloc; rfl; intro _) | (apply wO; apply o_st; rfl; rfl; rfl; (first | exact AggC.s | exact OneC.s); rfl; exact rplE; exact putE; rfl) | (apply wO; apply o_bs0; rfl; intro _) | (apply wO; apply o_bs; rfl; rfl; rfl; rfl; exact rptE; exact filE; intro _) | (apply wO; apply o_call; rfl; kernel_rfl; exact evsE))
  refine c_loopR [0, 1, 4] (fun k : Nat => [(5, .int .i64 k)]) (fun k => k ≤ xs.length) (fun k => xs.length - k) 0 (Nat.zero_le _) fun k hk => ?_
  repeat (first | apply c_seq | apply c_reg | (apply wO; apply oc; rfl; exact ydE) | apply w_nil | apply n_cd | (apply wg_t; rfl; rfl) | (apply wg_f; rfl; rfl; rfl; rfl) | (apply wg_u; rfl; rfl; rfl) | (apply c_t; rfl) | (apply c_f; rfl) | apply c_skip | apply c_block | apply n_blk | apply c_exit | apply e_hit | apply e_cd | apply e_lp | (apply e_miss; rfl) | apply c_ret | (apply wO; apply o_box; rfl; rfl; rfl; intro _) | (apply wO; apply o_alloc; rfl; intro _) | (apply wO; apply o_st; rfl; rfl; rfl; (first | exact AggC.s | exact OneC.s); rfl; exact rplE; exact putE; rfl) | (apply wO; apply o_bs0; rfl; intro _) | (apply wO; apply o_bs; rfl; rfl; rfl; rfl; exact rptE; exact filE; intro _) | (apply wO; apply o_call; rfl; kernel_rfl; exact evsE))
  refine c_if rfl (fun h3 => ?_) (fun h3 => ?_)
  · have hk3 : k < xs.length := by omega
    refine at_str (a := a) (xs := xs) k ?_
    rintro hi b o e s1
    rw [e]
    refine at_str (a := a2) (xs := xs) k ?_
    rintro hi2 b2 o2 e2 s2
    rw [e2]
    repeat (first | apply c_seq | apply c_reg | (apply wO; apply oc; rfl; exact ydE) | apply w_nil | apply n_cd | (apply wg_t; rfl; rfl) | (apply wg_f; rfl; rfl; rfl; rfl) | (apply wg_u; rfl; rfl; rfl) | (apply c_t; rfl) | (apply c_f; rfl) | apply c_skip | apply c_block | apply n_blk | apply c_exit | apply e_hit | apply e_cd | apply e_lp | (apply e_miss; rfl) | apply c_ret | (apply wO; apply o_box; rfl; rfl; rfl; intro _) | (apply wO; apply o_alloc; rfl; intro _) | (apply wO; apply o_st; rfl; rfl; rfl; (first | exact AggC.s | exact OneC.s); rfl; exact rplE; exact putE; rfl) | (apply wO; apply o_bs0; rfl; intro _) | (apply wO; apply o_bs; rfl; rfl; rfl; rfl; exact rptE; exact filE; intro _))
    refine d_start [0, 1] [] ?_
    refine dt 0 ?_
    refine dt 1 ?_
    refine dt 2 ?_
    refine dt 3 ?_
    refine dt 4 ?_
    refine dt 5 ?_
    refine dt 6 ?_
    refine dt 7 ?_
    refine dt 8 ?_
    refine dd ?_
    repeat (first | apply c_seq | apply c_reg | (apply wO; apply oc; rfl; exact ydE) | apply w_nil | apply n_cd | (apply wg_t; rfl; rfl) | (apply wg_f; rfl; rfl; rfl; rfl) | (apply wg_u; rfl; rfl; rfl) | (apply c_t; rfl) | (apply c_f; rfl) | apply c_skip | apply c_block | apply n_blk | apply c_exit | apply e_hit | apply e_cd | apply e_lp | (apply e_miss; rfl) | apply c_ret | (apply wO; apply o_box; rfl; rfl; rfl; intro _) | (apply wO; apply o_alloc; rfl; intro _) | (apply wO; apply o_st; rfl; rfl; rfl; (first | exact AggC.s | exact OneC.s); rfl; exact rplE; exact putE; rfl) | (apply wO; apply o_bs0; rfl; intro _) | (apply wO; apply o_bs; rfl; rfl; rfl; rfl; exact rptE; exact filE; intro _) | (apply wO; apply o_call; rfl; kernel_rfl; exact evsE))
    refine c_if rfl (fun h4 => ?_) (fun h4 => ?_)
    · exact absurd rfl h4
    repeat (first | apply c_seq | apply c_reg | (apply wO; apply oc; rfl; exact ydE) | apply w_nil | apply n_cd | (apply wg_t; rfl; rfl) | (apply wg_f; rfl; rfl; rfl; rfl) | (apply wg_u; rfl; rfl; rfl) | (apply c_t; rfl) | (apply c_f; rfl) | apply c_skip | apply c_block | apply n_blk | apply c_exit | apply e_hit | apply e_cd | apply e_lp | (apply e_miss; rfl) | apply c_ret | (apply wO; apply o_box; rfl; rfl; rfl; intro _) | (apply wO; apply o_alloc; rfl; intro _) | (apply wO; apply o_st; rfl; rfl; rfl; (first | exact AggC.s | exact OneC.s); rfl; exact rplE; exact putE; rfl) | (apply wO; apply o_bs0; rfl; intro _) | (apply wO; apply o_bs; rfl; rfl; rfl; rfl; exact rptE; exact filE; intro _) | (apply wO; apply o_call; rfl; kernel_rfl; exact evsE))
    refine n_lp (k + 1) hk3 (by omega)
  · repeat (first | apply c_seq | apply c_reg | (apply wO; apply oc; rfl; exact ydE) | apply w_nil | apply n_cd | (apply wg_t; rfl; rfl) | (apply wg_f; rfl; rfl; rfl; rfl) | (apply wg_u; rfl; rfl; rfl) | (apply c_t; rfl) | (apply c_f; rfl) | apply c_skip | apply c_block | apply n_blk | apply c_exit | apply e_hit | apply e_cd | apply e_lp | (apply e_miss; rfl) | apply c_ret | (apply wO; apply o_box; rfl; rfl; rfl; intro _) | (apply wO; apply o_alloc; rfl; intro _) | (apply wO; apply o_st; rfl; rfl; rfl; (first | exact AggC.s | exact OneC.s); rfl; exact rplE; exact putE; rfl) | (apply wO; apply o_bs0; rfl; intro _) | (apply wO; apply o_bs; rfl; rfl; rfl; rfl; exact rptE; exact filE; intro _) | (apply wO; apply o_call; rfl; kernel_rfl; exact evsE))
    refine ret () trivial rfl
set_option maxRecDepth 100000 in
theorem rBig_f (v : Value) (code : List Int) (F : List Nat) : Fn Tryd.prog 54 [v] [.sl EByte v code F] [] (fun (_ : Unit) => True) (fun _ => .bool (decide (65536 < (code.length : Int)))) (fun _ => []) := by
  refine enter Tryd.func54 rfl Tryd.ntmps54 fun w0 => ?_
  refine t_sl (E := EByte) ?_
  rintro a c rfl l1 l2
  repeat (first | apply c_seq | apply c_reg | (apply wO; apply oc; rfl; exact ydE) | apply w_nil | apply n_cd | (apply wg_t; rfl; rfl) | (apply wg_f; rfl; rfl; rfl; rfl) | (apply wg_u; rfl; rfl; rfl) | (apply c_t; rfl) | (apply c_f; rfl) | apply c_skip | apply c_block | apply n_blk | apply c_exit | apply e_hit | apply e_cd | apply e_lp | (apply e_miss; rfl) | apply c_ret | (apply wO; apply o_box; rfl; rfl; rfl; intro _) | (apply wO; apply o_alloc; rfl; intro _) | (apply wO; apply o_st; rfl; rfl; rfl; (first | exact AggC.s | exact OneC.s); rfl; exact rplE; exact putE; rfl) | (apply wO; apply o_bs0; rfl; intro _) | (apply wO; apply o_bs; rfl; rfl; rfl; rfl; exact rptE; exact filE; intro _) | (apply wO; apply o_call; rfl; kernel_rfl; exact evsE))
  refine ret () trivial rfl
set_option maxRecDepth 100000 in
theorem rLinks_f (v v2 : Value) (x : Link) (F F2 : List Nat) : Fn Tryd.prog 58 [v, v2] [.isv ELink v x F, .isv ELink v2 x F2] [] (fun (_ : Unit) => True) (fun _ => .bool true) (fun _ => []) := by
  refine enter Tryd.func58 rfl Tryd.ntmps58 fun w0 => ?_
  refine openLink (v := v) (F := F) ?_
  rintro a1 c1 F1 rfl l1 l2
  refine openLink (v := v2) (F := F2) ?_
  rintro a2 c2 F3 rfl l3 l4
  repeat (first | apply c_seq | apply c_reg | (apply wO; apply oc; rfl; exact ydE) | apply w_nil | apply n_cd | (apply wg_t; rfl; rfl) | (apply wg_f; rfl; rfl; rfl; rfl) | (apply wg_u; rfl; rfl; rfl) | (apply c_t; rfl) | (apply c_f; rfl) | apply c_skip | apply c_block | apply n_blk | apply c_exit | apply e_hit | apply e_cd | apply e_lp | (apply e_miss; rfl) | apply c_ret | (apply wO; apply o_box; rfl; rfl; rfl; intro _) | (apply wO; apply o_alloc; rfl; intro _) | (apply wO; apply o_st; rfl; rfl; rfl; (first | exact AggC.s | exact OneC.s); rfl; exact rplE; exact putE; rfl) | (apply wO; apply o_bs0; rfl; intro _) | (apply wO; apply o_bs; rfl; rfl; rfl; rfl; exact rptE; exact filE; intro _) | (apply wO; apply o_call; rfl; kernel_rfl; exact evsE))
  refine wg_if rfl rfl (fun h1 => ?_) (fun h1 => ?_)
  · repeat (first | apply c_seq | apply c_reg | (apply wO; apply oc; rfl; exact ydE) | apply w_nil | apply n_cd | (apply wg_t; rfl; rfl) | (apply wg_f; rfl; rfl; rfl; rfl) | (apply wg_u; rfl; rfl; rfl) | (apply c_t; rfl) | (apply c_f; rfl) | apply c_skip | apply c_block | apply n_blk | apply c_exit | apply e_hit | apply e_cd | apply e_lp | (apply e_miss; rfl) | apply c_ret | (apply wO; apply o_box; rfl; rfl; rfl; intro _) | (apply wO; apply o_alloc; rfl; intro _) | (apply wO; apply o_st; rfl; rfl; rfl; (first | exact AggC.s | exact OneC.s); rfl; exact rplE; exact putE; rfl) | (apply wO; apply o_bs0; rfl; intro _) | (apply wO; apply o_bs; rfl; rfl; rfl; rfl; exact rptE; exact filE; intro _) | (apply wO; apply o_call; rfl; kernel_rfl; exact evsE))
    refine wg_if rfl rfl (fun h2 => ?_) (fun h2 => ?_)
    · repeat (first | apply c_seq | apply c_reg | (apply wO; apply oc; rfl; exact ydE) | apply w_nil | apply n_cd | (apply wg_t; rfl; rfl) | (apply wg_f; rfl; rfl; rfl; rfl) | (apply wg_u; rfl; rfl; rfl) | (apply c_t; rfl) | (apply c_f; rfl) | apply c_skip | apply c_block | apply n_blk | apply c_exit | apply e_hit | apply e_cd | apply e_lp | (apply e_miss; rfl) | apply c_ret | (apply wO; apply o_box; rfl; rfl; rfl; intro _) | (apply wO; apply o_alloc; rfl; intro _) | (apply wO; apply o_st; rfl; rfl; rfl; (first | exact AggC.s | exact OneC.s); rfl; exact rplE; exact putE; rfl) | (apply wO; apply o_bs0; rfl; intro _) | (apply wO; apply o_bs; rfl; rfl; rfl; rfl; exact rptE; exact filE; intro _) | (apply wO; apply o_call; rfl; kernel_rfl; exact evsE))
      refine cf (rTexts_f _ _ x.queue F1 F3) fun _ _ => ?_
      refine t_app ?_
      repeat (first | apply c_seq | apply c_reg | (apply wO; apply oc; rfl; exact ydE) | apply w_nil | apply n_cd | (apply wg_t; rfl; rfl) | (apply wg_f; rfl; rfl; rfl; rfl) | (apply wg_u; rfl; rfl; rfl) | (apply c_t; rfl) | (apply c_f; rfl) | apply c_skip | apply c_block | apply n_blk | apply c_exit | apply e_hit | apply e_cd | apply e_lp | (apply e_miss; rfl) | apply c_ret | (apply wO; apply o_box; rfl; rfl; rfl; intro _) | (apply wO; apply o_alloc; rfl; intro _) | (apply wO; apply o_st; rfl; rfl; rfl; (first | exact AggC.s | exact OneC.s); rfl; exact rplE; exact putE; rfl) | (apply wO; apply o_bs0; rfl; intro _) | (apply wO; apply o_bs; rfl; rfl; rfl; rfl; exact rptE; exact filE; intro _) | (apply wO; apply o_call; rfl; kernel_rfl; exact evsE))
      refine ret () trivial rfl
    · exact absurd rfl h2
  · exact absurd rfl h1
end Go.Proofs.YtidephmobajikaaDoor
/- Links: SendAll of the program. -/
namespace Go.Proofs.YtidephmobajikaaDoor
open Go.RowKit
def sentAll : Link → Int → List ByteArray → Link × Int
  | y, n, [] => (y, n)
  | y, n, s :: r => sentAll (sendL y s) (if sendOk y s then n else n + 1) r
theorem sendL_good {x : Link} (s : ByteArray) (h : goodLink x = true) : goodLink (sendL x s) = true := by
  unfold sendL
  split
  · rename_i hs; exact sent_good h hs
  · exact h
theorem sentAll_step {y : Link} {n : Int} {xs : List ByteArray} {k : Nat} (h : k < xs.length) : sentAll y n (xs.drop k) = sentAll (sendL y xs[k]) (if sendOk y xs[k] then n else n + 1) (xs.drop (k + 1)) := by
  rw [List.drop_eq_getElem_cons h]; rfl
def okSendAll (x : Link) (xs : List ByteArray) : Bool := goodLink x && !decide (20 < (xs.length : Int))
def resSendAll (x : Link) (xs : List ByteArray) : Link × Int × Bool := if okSendAll x xs then ((sentAll x 0 xs).1, (sentAll x 0 xs).2, true) else (zL, 0, false)
theorem resSendAll_no {x : Link} {s : List ByteArray} (h : okSendAll x s = false) : resSendAll x s = (zL, 0, false) := by unfold resSendAll; rw [h]; rfl
theorem resSendAll_yes {x : Link} {s : List ByteArray} (h : okSendAll x s = true) : resSendAll x s = ((sentAll x 0 s).1, (sentAll x 0 s).2, true) := by unfold resSendAll; rw [h]; rfl
structure SaS where
  y : Link
  n : Int
  k : Nat
  a : Option Addr
  c : Nat
  F : List Nat
structure SaOk (x : Link) (xs : List ByteArray) (s : SaS) : Prop where
  g : goodLink s.y = true
  n0 : 0 ≤ s.n
  n1 : s.n ≤ s.k
  k : s.k ≤ xs.length
  e : sentAll x 0 xs = sentAll s.y s.n (xs.drop s.k)
set_option maxRecDepth 100000 in
theorem SendAll_f (x : Link) (xs : List ByteArray) (v v1 : Value) (F G : List Nat) :
    Fn Tryd.prog 82 [v, v1] [.isv ELink v x F, .sl EStr v1 xs G] [] (fun (_ : LinkS) => True)
      (fun s => .tuple #[.agg #[.slice s.a (resSendAll x xs).1.queue.length s.c, .string (resSendAll x xs).1.fates, .int .i64 (resSendAll x xs).1.used], .int .i64 (resSendAll x xs).2.1, .bool (resSendAll x xs).2.2]) (fun s => [.own OLink (.agg #[.slice s.a (resSendAll x xs).1.queue.length s.c, .string (resSendAll x xs).1.fates, .int .i64 (resSendAll x xs).1.used]) (resSendAll x xs).1 s.F]) := by
  refine enter Tryd.func82 rfl Tryd.ntmps82 fun w0 => ?_
  refine t_nilow EStr 9 ?_
  refine closeOLink zL zs_size ?_
  refine openLink ?_
  rintro a1 c1 F1 rfl l1 l2
  refine t_sl (xs := xs) ?_
  rintro a7 c7 rfl l7 l8
  repeat (first | apply c_seq | apply c_reg | (apply wO; apply oc; rfl; exact ydE) | apply w_nil | apply n_cd | (apply wg_t; rfl; rfl) | (apply wg_f; rfl; rfl; rfl; rfl) | (apply wg_u; rfl; rfl; rfl) | (apply c_t; rfl) | (apply c_f; rfl) | apply c_skip | apply c_block | apply n_blk | apply c_exit | apply e_hit | apply e_cd | apply e_lp | (apply e_miss; rfl) | apply c_ret | (apply wO; apply o_box; rfl; rfl; rfl; intro _) | (apply wO; apply o_alloc; rfl; intro _) | (apply wO; apply o_st; rfl; rfl; rfl; (first | exact AggC.s | exact OneC.s); rfl; exact rplE; exact putE; rfl) | (apply wO; apply o_bs0; rfl; intro _) | (apply wO; apply o_bs; rfl; rfl; rfl; rfl; exact rptE; exact filE; intro _) | (apply wO; apply o_call; rfl; kernel_rfl; exact evsE))
  refine cb (fun w st => IsValidLink_c _ x _ w (st.get (p := .isv ELink (.agg #[.slice a1 x.queue.length c1, .string x.fates, .int .i64 x.used]) x F) (by simp))) ?_
  cases g1 : goodLink x
  · repeat (first | apply c_seq | apply c_reg | (apply wO; apply oc; rfl; exact ydE) | apply w_nil | apply n_cd | (apply wg_t; rfl; rfl) | (apply wg_f; rfl; rfl; rfl; rfl) | (apply wg_u; rfl; rfl; rfl) | (apply c_t; rfl) | (apply c_f; rfl) | apply c_skip | apply c_block | apply n_blk | apply c_exit | apply e_hit | apply e_cd | apply e_lp | (apply e_miss; rfl) | apply c_ret | (apply wO; apply o_box; rfl; rfl; rfl; intro _) | (apply wO; apply o_alloc; rfl; intro _) | (apply wO; apply o_st; rfl; rfl; rfl; (first | exact AggC.s | exact OneC.s); rfl; exact rplE; exact putE; rfl) | (apply wO; apply o_bs0; rfl; intro _) | (apply wO; apply o_bs; rfl; rfl; rfl; rfl; exact rptE; exact filE; intro _) | (apply wO; apply o_call; rfl; kernel_rfl; exact evsE))
    rw [resSendAll_no (by unfold okSendAll; rw [g1]; rfl)]
    refine ret ⟨none, 0, []⟩ trivial rfl
  obtain ⟨hl, hq, hf, hu0, hu1⟩ := goodL_of g1
  repeat (first | apply c_seq | apply c_reg | (apply wO; apply oc; rfl; exact ydE) | apply w_nil | apply n_cd | (apply wg_t; rfl; rfl) | (apply wg_f; rfl; rfl; rfl; rfl) | (apply wg_u; rfl; rfl; rfl) | (apply c_t; rfl) | (apply c_f; rfl) | apply c_skip | apply c_block | apply n_blk | apply c_exit | apply e_hit | apply e_cd | apply e_lp | (apply e_miss; rfl) | apply c_ret | (apply wO; apply o_box; rfl; rfl; rfl; intro _) | (apply wO; apply o_alloc; rfl; intro _) | (apply wO; apply o_st; rfl; rfl; rfl; (first | exact AggC.s | exact OneC.s); rfl; exact rplE; exact putE; rfl) | (apply wO; apply o_bs0; rfl; intro _) | (apply wO; apply o_bs; rfl; rfl; rfl; rfl; exact rptE; exact filE; intro _) | (apply wO; apply o_call; rfl; kernel_rfl; exact evsE))
  refine c_if rfl (fun h1 => ?_) (fun h1 => ?_)
  · repeat (first | apply c_seq | apply c_reg | (apply wO; apply oc; rfl; exact ydE) | apply w_nil | apply n_cd | (apply wg_t; rfl; rfl) | (apply wg_f; rfl; rfl; rfl; rfl) | (apply wg_u; rfl; rfl; rfl) | (apply c_t; rfl) | (apply c_f; rfl) | apply c_skip | apply c_block | apply n_blk | apply c_exit | apply e_hit | apply e_cd | apply e_lp | (apply e_miss; rfl) | apply c_ret | (apply wO; apply o_box; rfl; rfl; rfl; intro _) | (apply wO; apply o_alloc; rfl; intro _) | (apply wO; apply o_st; rfl; rfl; rfl; (first | exact AggC.s | exact OneC.s); rfl; exact rplE; exact putE; rfl) | (apply wO; apply o_bs0; rfl; intro _) | (apply wO; apply o_bs; rfl; rfl; rfl; rfl; exact rptE; exact filE; intro _) | (apply wO; apply o_call; rfl; kernel_rfl; exact evsE))
    rw [resSendAll_no (by unfold okSendAll; rw [decide_eq_true h1]; simp)]
    refine ret ⟨none, 0, []⟩ trivial rfl
  repeat (first | apply c_seq | apply c_reg | (apply wO; apply oc; rfl; exact ydE) | apply w_nil | apply n_cd | (apply wg_t; rfl; rfl) | (apply wg_f; rfl; rfl; rfl; rfl) | (apply wg_u; rfl; rfl; rfl) | (apply c_t; rfl) | (apply c_f; rfl) | apply c_skip | apply c_block | apply n_blk | apply c_exit | apply e_hit | apply e_cd | apply e_lp | (apply e_miss; rfl) | apply c_ret | (apply wO; apply o_box; rfl; rfl; rfl; intro _) | (apply wO; apply o_alloc; rfl; intro _) | (apply wO; apply o_st; rfl; rfl; rfl; (first | exact AggC.s | exact OneC.s); rfl; exact rplE; exact putE; rfl) | (apply wO; apply o_bs0; rfl; intro _) | (apply wO; apply o_bs; rfl; rfl; rfl; rfl; exact rptE; exact filE; intro _) | (apply wO; apply o_call; rfl; kernel_rfl; exact evsE))
  refine cv (fun w st => Link_clone_c _ x _ w (st.get (p := .isv ELink (.agg #[.slice a1 x.queue.length c1, .string x.fates, .int .i64 x.used]) x F) (by simp)) (by omega)) fun v F2 => ?_
  refine openOLink ?_
  rintro a2 c2 F3 rfl l3 l4
  repeat (first | apply c_seq | apply c_reg | (apply wO; apply oc; rfl; exact ydE) | apply w_nil | apply n_cd | (apply wg_t; rfl; rfl) | (apply wg_f; rfl; rfl; rfl; rfl) | (apply wg_u; rfl; rfl; rfl) | (apply c_t; rfl) | (apply c_f; rfl) | apply c_skip | apply c_block | apply n_blk | apply c_exit | apply e_hit | apply e_cd | apply e_lp | (apply e_miss; rfl) | apply c_ret | (apply wO; apply o_box; rfl; rfl; rfl; intro _) | (apply wO; apply o_alloc; rfl; intro _) | (apply wO; apply o_st; rfl; rfl; rfl; (first | exact AggC.s | exact OneC.s); rfl; exact rplE; exact putE; rfl) | (apply wO; apply o_bs0; rfl; intro _) | (apply wO; apply o_bs; rfl; rfl; rfl; rfl; exact rptE; exact filE; intro _) | (apply wO; apply o_call; rfl; kernel_rfl; exact evsE))
  rename_i gg
  refine c_loopS [4, 5, 6, 7, 22, 23] (fun s : SaS => [(8, .int .i64 s.n), (24, .int .i64 s.k)]) (fun s => [.row gg 76 0 [] [.slice s.a s.y.queue.length s.c, .string s.y.fates, .int .i64 s.y.used] [], .ow EStr 9 (.slice s.a s.y.queue.length s.c) s.y.queue s.F]) (SaOk x xs) (fun s => xs.length - s.k) ⟨x, 0, 0, a2, c2, F3⟩ ⟨g1, Int.le_refl _, Int.le_refl _, Nat.zero_le _, rfl⟩ fun s hC => ?_
  obtain ⟨hg, n0, n1, hk, he⟩ := hC
  repeat (first | apply c_seq | apply c_reg | (apply wO; apply oc; rfl; exact ydE) | apply w_nil | apply n_cd | (apply wg_t; rfl; rfl) | (apply wg_f; rfl; rfl; rfl; rfl) | (apply wg_u; rfl; rfl; rfl) | (apply c_t; rfl) | (apply c_f; rfl) | apply c_skip | apply c_block | apply n_blk | apply c_exit | apply e_hit | apply e_cd | apply e_lp | (apply e_miss; rfl) | apply c_ret | (apply wO; apply o_box; rfl; rfl; rfl; intro _) | (apply wO; apply o_alloc; rfl; intro _) | (apply wO; apply o_st; rfl; rfl; rfl; (first | exact AggC.s | exact OneC.s); rfl; exact rplE; exact putE; rfl) | (apply wO; apply o_bs0; rfl; intro _) | (apply wO; apply o_bs; rfl; rfl; rfl; rfl; exact rptE; exact filE; intro _) | (apply wO; apply o_call; rfl; kernel_rfl; exact evsE))
  refine c_if rfl (fun h2 => ?_) (fun h2 => ?_)
  · have hk2 : s.k < xs.length := by omega
    repeat (first | apply c_seq | apply c_reg | (apply wO; apply oc; rfl; exact ydE) | apply w_nil | apply n_cd | (apply wg_t; rfl; rfl) | (apply wg_f; rfl; rfl; rfl; rfl) | (apply wg_u; rfl; rfl; rfl) | (apply c_t; rfl) | (apply c_f; rfl) | apply c_skip | apply c_block | apply n_blk | apply c_exit | apply e_hit | apply e_cd | apply e_lp | (apply e_miss; rfl) | apply c_ret | (apply wO; apply o_box; rfl; rfl; rfl; intro _) | (apply wO; apply o_alloc; rfl; intro _) | (apply wO; apply o_st; rfl; rfl; rfl; (first | exact AggC.s | exact OneC.s); rfl; exact rplE; exact putE; rfl) | (apply wO; apply o_bs0; rfl; intro _) | (apply wO; apply o_bs; rfl; rfl; rfl; rfl; exact rptE; exact filE; intro _) | (apply wO; apply o_call; rfl; kernel_rfl; exact evsE))
    refine at_str (xs := xs) s.k ?_
    rintro hi b o e s1
    rw [e]
    repeat (first | apply c_seq | apply c_reg | (apply wO; apply oc; rfl; exact ydE) | apply w_nil | apply n_cd | (apply wg_t; rfl; rfl) | (apply wg_f; rfl; rfl; rfl; rfl) | (apply wg_u; rfl; rfl; rfl) | (apply c_t; rfl) | (apply c_f; rfl) | apply c_skip | apply c_block | apply n_blk | apply c_exit | apply e_hit | apply e_cd | apply e_lp | (apply e_miss; rfl) | apply c_ret | (apply wO; apply o_box; rfl; rfl; rfl; intro _) | (apply wO; apply o_alloc; rfl; intro _) | (apply wO; apply o_st; rfl; rfl; rfl; (first | exact AggC.s | exact OneC.s); rfl; exact rplE; exact putE; rfl) | (apply wO; apply o_bs0; rfl; intro _) | (apply wO; apply o_bs; rfl; rfl; rfl; rfl; exact rptE; exact filE; intro _) | (apply wO; apply o_call; rfl; kernel_rfl; exact evsE))
    refine cf (send_f s.y xs[s.k] _ _ _ _ _ s.a s.c s.F hg s1) fun z _ => ?_
    refine t_app ?_
    rw [sentAll_step hk2] at he
    cases g2 : sendOk s.y xs[s.k]
    · rw [g2, if_neg (by decide)] at he
      repeat (first | apply c_seq | apply c_reg | (apply wO; apply oc; rfl; exact ydE) | apply w_nil | apply n_cd | (apply wg_t; rfl; rfl) | (apply wg_f; rfl; rfl; rfl; rfl) | (apply wg_u; rfl; rfl; rfl) | (apply c_t; rfl) | (apply c_f; rfl) | apply c_skip | apply c_block | apply n_blk | apply c_exit | apply e_hit | apply e_cd | apply e_lp | (apply e_miss; rfl) | apply c_ret | (apply wO; apply o_box; rfl; rfl; rfl; intro _) | (apply wO; apply o_alloc; rfl; intro _) | (apply wO; apply o_st; rfl; rfl; rfl; (first | exact AggC.s | exact OneC.s); rfl; exact rplE; exact putE; rfl) | (apply wO; apply o_bs0; rfl; intro _) | (apply wO; apply o_bs; rfl; rfl; rfl; rfl; exact rptE; exact filE; intro _) | (apply wO; apply o_call; rfl; kernel_rfl; exact evsE))
      refine n_lp ⟨sendL s.y xs[s.k], s.n + 1, s.k + 1, z.a, z.c, z.F⟩ ⟨sendL_good _ hg, by show 0 ≤ s.n + 1; omega, by show s.n + 1 ≤ ((s.k + 1 : Nat) : Int); omega, hk2, he⟩ (by show xs.length - (s.k + 1) < _; omega)
    · rw [g2, if_pos rfl] at he
      repeat (first | apply c_seq | apply c_reg | (apply wO; apply oc; rfl; exact ydE) | apply w_nil | apply n_cd | (apply wg_t; rfl; rfl) | (apply wg_f; rfl; rfl; rfl; rfl) | (apply wg_u; rfl; rfl; rfl) | (apply c_t; rfl) | (apply c_f; rfl) | apply c_skip | apply c_block | apply n_blk | apply c_exit | apply e_hit | apply e_cd | apply e_lp | (apply e_miss; rfl) | apply c_ret | (apply wO; apply o_box; rfl; rfl; rfl; intro _) | (apply wO; apply o_alloc; rfl; intro _) | (apply wO; apply o_st; rfl; rfl; rfl; (first | exact AggC.s | exact OneC.s); rfl; exact rplE; exact putE; rfl) | (apply wO; apply o_bs0; rfl; intro _) | (apply wO; apply o_bs; rfl; rfl; rfl; rfl; exact rptE; exact filE; intro _) | (apply wO; apply o_call; rfl; kernel_rfl; exact evsE))
      refine n_lp ⟨sendL s.y xs[s.k], s.n, s.k + 1, z.a, z.c, z.F⟩ ⟨sendL_good _ hg, n0, by show s.n ≤ ((s.k + 1 : Nat) : Int); omega, hk2, he⟩ (by show xs.length - (s.k + 1) < _; omega)
  · have hk2 : s.k = xs.length := by omega
    rw [hk2, List.drop_length] at he
    rw [resSendAll_yes (by unfold okSendAll; rw [g1, decide_eq_false h1]; rfl), show sentAll x 0 xs = (s.y, s.n) from he]
    repeat (first | apply c_seq | apply c_reg | (apply wO; apply oc; rfl; exact ydE) | apply w_nil | apply n_cd | (apply wg_t; rfl; rfl) | (apply wg_f; rfl; rfl; rfl; rfl) | (apply wg_u; rfl; rfl; rfl) | (apply c_t; rfl) | (apply c_f; rfl) | apply c_skip | apply c_block | apply n_blk | apply c_exit | apply e_hit | apply e_cd | apply e_lp | (apply e_miss; rfl) | apply c_ret | (apply wO; apply o_box; rfl; rfl; rfl; intro _) | (apply wO; apply o_alloc; rfl; intro _) | (apply wO; apply o_st; rfl; rfl; rfl; (first | exact AggC.s | exact OneC.s); rfl; exact rplE; exact putE; rfl) | (apply wO; apply o_bs0; rfl; intro _) | (apply wO; apply o_bs; rfl; rfl; rfl; rfl; exact rptE; exact filE; intro _) | (apply wO; apply o_call; rfl; kernel_rfl; exact evsE))
    have hf2 := (goodL_of hg).f
    refine closeOLink s.y (by unfold maxLen; omega) ?_
    refine ret ⟨s.a, s.c, s.F⟩ trivial rfl
end Go.Proofs.YtidephmobajikaaDoor
/- Links: SendAll of the reference. -/
namespace Go.Proofs.YtidephmobajikaaDoor
open Go.RowKit
structure CpL where
  g : Nat
  a : Option Addr
  c : Nat
  F : List Nat
set_option maxRecDepth 100000 in
theorem specSendAll_f (x : Link) (xs : List ByteArray) (v v1 : Value) (F G : List Nat) :
    Fn Tryd.prog 83 [v, v1] [.isv ELink v x F, .sl EStr v1 xs G] [] (fun (_ : LinkS) => True)
      (fun s => .tuple #[.agg #[.slice s.a (resSendAll x xs).1.queue.length s.c, .string (resSendAll x xs).1.fates, .int .i64 (resSendAll x xs).1.used], .int .i64 (resSendAll x xs).2.1, .bool (resSendAll x xs).2.2]) (fun s => [.isv ELink (.agg #[.slice s.a (resSendAll x xs).1.queue.length s.c, .string (resSendAll x xs).1.fates, .int .i64 (resSendAll x xs).1.used]) (resSendAll x xs).1 s.F]) := by
  refine enter Tryd.func83 rfl Tryd.ntmps83 fun w0 => ?_
  refine openLink ?_
  rintro a1 c1 F1 rfl l1 l2
  refine t_sl (xs := xs) ?_
  rintro a7 c7 rfl l7 l8
  repeat (first | apply c_seq | apply c_reg | (apply wO; apply oc; rfl; exact ydE) | apply w_nil | apply n_cd | (apply wg_t; rfl; rfl) | (apply wg_f; rfl; rfl; rfl; rfl) | (apply wg_u; rfl; rfl; rfl) | (apply c_t; rfl) | (apply c_f; rfl) | apply c_skip | apply c_block | apply n_blk | apply c_exit | apply e_hit | apply e_cd | apply e_lp | (apply e_miss; rfl) | apply c_ret | (apply wO; apply o_box; rfl; rfl; rfl; intro _) | (apply wO; apply o_alloc; rfl; intro _) | (apply wO; apply o_st; rfl; rfl; rfl; (first | exact AggC.s | exact OneC.s); rfl; exact rplE; exact putE; rfl) | (apply wO; apply o_bs0; rfl; intro _) | (apply wO; apply o_bs; rfl; rfl; rfl; rfl; exact rptE; exact filE; intro _) | (apply wO; apply o_call; rfl; kernel_rfl; exact evsE))
  refine cb (fun w st => l7Good_c _ x _ w (st.get (p := .isv ELink (.agg #[.slice a1 x.queue.length c1, .string x.fates, .int .i64 x.used]) x F) (by simp))) ?_
  cases g1 : goodLink x
  · repeat (first | apply c_seq | apply c_reg | (apply wO; apply oc; rfl; exact ydE) | apply w_nil | apply n_cd | (apply wg_t; rfl; rfl) | (apply wg_f; rfl; rfl; rfl; rfl) | (apply wg_u; rfl; rfl; rfl) | (apply c_t; rfl) | (apply c_f; rfl) | apply c_skip | apply c_block | apply n_blk | apply c_exit | apply e_hit | apply e_cd | apply e_lp | (apply e_miss; rfl) | apply c_ret | (apply wO; apply o_box; rfl; rfl; rfl; intro _) | (apply wO; apply o_alloc; rfl; intro _) | (apply wO; apply o_st; rfl; rfl; rfl; (first | exact AggC.s | exact OneC.s); rfl; exact rplE; exact putE; rfl) | (apply wO; apply o_bs0; rfl; intro _) | (apply wO; apply o_bs; rfl; rfl; rfl; rfl; exact rptE; exact filE; intro _) | (apply wO; apply o_call; rfl; kernel_rfl; exact evsE))
    rw [resSendAll_no (by unfold okSendAll; rw [g1]; rfl)]
    refine t_nilsl EStr (by decide) ?_
    refine closeLink zL zs_size ?_
    refine ret ⟨_, _, _⟩ trivial rfl
  obtain ⟨hl, hq, hf, hu0, hu1⟩ := goodL_of g1
  repeat (first | apply c_seq | apply c_reg | (apply wO; apply oc; rfl; exact ydE) | apply w_nil | apply n_cd | (apply wg_t; rfl; rfl) | (apply wg_f; rfl; rfl; rfl; rfl) | (apply wg_u; rfl; rfl; rfl) | (apply c_t; rfl) | (apply c_f; rfl) | apply c_skip | apply c_block | apply n_blk | apply c_exit | apply e_hit | apply e_cd | apply e_lp | (apply e_miss; rfl) | apply c_ret | (apply wO; apply o_box; rfl; rfl; rfl; intro _) | (apply wO; apply o_alloc; rfl; intro _) | (apply wO; apply o_st; rfl; rfl; rfl; (first | exact AggC.s | exact OneC.s); rfl; exact rplE; exact putE; rfl) | (apply wO; apply o_bs0; rfl; intro _) | (apply wO; apply o_bs; rfl; rfl; rfl; rfl; exact rptE; exact filE; intro _) | (apply wO; apply o_call; rfl; kernel_rfl; exact evsE))
  refine c_if rfl (fun h1 => ?_) (fun h1 => ?_)
  · repeat (first | apply c_seq | apply c_reg | (apply wO; apply oc; rfl; exact ydE) | apply w_nil | apply n_cd | (apply wg_t; rfl; rfl) | (apply wg_f; rfl; rfl; rfl; rfl) | (apply wg_u; rfl; rfl; rfl) | (apply c_t; rfl) | (apply c_f; rfl) | apply c_skip | apply c_block | apply n_blk | apply c_exit | apply e_hit | apply e_cd | apply e_lp | (apply e_miss; rfl) | apply c_ret | (apply wO; apply o_box; rfl; rfl; rfl; intro _) | (apply wO; apply o_alloc; rfl; intro _) | (apply wO; apply o_st; rfl; rfl; rfl; (first | exact AggC.s | exact OneC.s); rfl; exact rplE; exact putE; rfl) | (apply wO; apply o_bs0; rfl; intro _) | (apply wO; apply o_bs; rfl; rfl; rfl; rfl; exact rptE; exact filE; intro _) | (apply wO; apply o_call; rfl; kernel_rfl; exact evsE))
    rw [resSendAll_no (by unfold okSendAll; rw [decide_eq_true h1]; simp)]
    refine t_nilsl EStr (by decide) ?_
    refine closeLink zL zs_size ?_
    refine ret ⟨_, _, _⟩ trivial rfl
  repeat (first | apply c_seq | apply c_reg | (apply wO; apply oc; rfl; exact ydE) | apply w_nil | apply n_cd | (apply wg_t; rfl; rfl) | (apply wg_f; rfl; rfl; rfl; rfl) | (apply wg_u; rfl; rfl; rfl) | (apply c_t; rfl) | (apply c_f; rfl) | apply c_skip | apply c_block | apply n_blk | apply c_exit | apply e_hit | apply e_cd | apply e_lp | (apply e_miss; rfl) | apply c_ret | (apply wO; apply o_box; rfl; rfl; rfl; intro _) | (apply wO; apply o_alloc; rfl; intro _) | (apply wO; apply o_st; rfl; rfl; rfl; (first | exact AggC.s | exact OneC.s); rfl; exact rplE; exact putE; rfl) | (apply wO; apply o_bs0; rfl; intro _) | (apply wO; apply o_bs; rfl; rfl; rfl; rfl; exact rptE; exact filE; intro _))
  refine c_joinS [1, 4, 5, 6] [0, 1, 2, 3, 4] (fun s : CpL => [(7, ptr s.g 0 0)]) (fun s => [.row s.g 76 0 [] [.slice s.a x.queue.length s.c, .string x.fates, .int .i64 x.used] [], .ow EStr 9 (.slice s.a x.queue.length s.c) x.queue s.F]) (fun _ => True) ?_ fun s _ => ?_
  · refine d_start [1] [] ?_
    refine dt 0 ?_
    refine dt 2 ?_
    refine dt 3 ?_
    refine dt 5 ?_
    refine dt 6 ?_
    refine dO2 1 8 (by kernel_rfl) (by rw [List.getElem?_toArray]; rfl) (by rw [List.getElem?_toArray]; rfl) ?_ ?_
    · apply o_bs0; rfl; intro _
      refine t_emp EStr ?_
      refine dk ?_
      refine dO2 4 8 (by kernel_rfl) (by rw [List.getElem?_toArray]; rfl) (by rw [List.getElem?_toArray]; rfl) ?_ ?_
      · refine aps (ys := x.queue) one_EStr scal_EStr fun a2 c2 F2 => ?_
        refine dk ?_
        refine dO2 7 8 (by kernel_rfl) (by rw [List.getElem?_toArray]; rfl) (by rw [List.getElem?_toArray]; rfl) ?_ ?_
        · apply o_call; rfl; kernel_rfl; exact evsE
          refine cb (fun w st => l7With_c _ x _ _ _ _ _ w (st.get (p := .isv ELink (.agg #[.slice a1 x.queue.length c1, .string x.fates, .int .i64 x.used]) x F) (by simp))) ?_
          refine dk ?_
          refine dO 8 (by kernel_rfl) (by rw [List.getElem?_toArray]; rfl) ?_
          apply o_alloc; rfl; intro _
          refine dk ?_
          refine dO 9 (by kernel_rfl) (by rw [List.getElem?_toArray]; rfl) ?_
          apply o_st; rfl; rfl; rfl; (first | exact AggC.s | exact OneC.s); rfl; exact rplE; exact putE; rfl
          refine dk ?_
          refine dd ?_
          refine n_join (⟨_, a2, c2, F2⟩ : CpL) trivial
        · apply o_alloc; rfl; intro _
          refine dk ?_
          refine dO 7 (by kernel_rfl) (by rw [List.getElem?_toArray]; rfl) ?_
          apply o_call; rfl; kernel_rfl; exact evsE
          refine cb (fun w st => l7With_c _ x _ _ _ _ _ w (st.get (p := .isv ELink (.agg #[.slice a1 x.queue.length c1, .string x.fates, .int .i64 x.used]) x F) (by simp))) ?_
          refine dk ?_
          refine dO 9 (by kernel_rfl) (by rw [List.getElem?_toArray]; rfl) ?_
          apply o_st; rfl; rfl; rfl; (first | exact AggC.s | exact OneC.s); rfl; exact rplE; exact putE; rfl
          refine dk ?_
          refine dd ?_
          refine n_join (⟨_, a2, c2, F2⟩ : CpL) trivial
      · apply o_alloc; rfl; intro _
        refine dk ?_
        refine dO 4 (by kernel_rfl) (by rw [List.getElem?_toArray]; rfl) ?_
        refine aps (ys := x.queue) one_EStr scal_EStr fun a2 c2 F2 => ?_
        refine dk ?_
        refine dO 7 (by kernel_rfl) (by rw [List.getElem?_toArray]; rfl) ?_
        apply o_call; rfl; kernel_rfl; exact evsE
        refine cb (fun w st => l7With_c _ x _ _ _ _ _ w (st.get (p := .isv ELink (.agg #[.slice a1 x.queue.length c1, .string x.fates, .int .i64 x.used]) x F) (by simp))) ?_
        refine dk ?_
        refine dO 9 (by kernel_rfl) (by rw [List.getElem?_toArray]; rfl) ?_
        apply o_st; rfl; rfl; rfl; (first | exact AggC.s | exact OneC.s); rfl; exact rplE; exact putE; rfl
        refine dk ?_
        refine dd ?_
        refine n_join (⟨_, a2, c2, F2⟩ : CpL) trivial
    · apply o_alloc; rfl; intro _
      refine dk ?_
      refine dO 1 (by kernel_rfl) (by rw [List.getElem?_toArray]; rfl) ?_
      apply o_bs0; rfl; intro _
      refine t_emp EStr ?_
      refine dk ?_
      refine dO 4 (by kernel_rfl) (by rw [List.getElem?_toArray]; rfl) ?_
      refine aps (ys := x.queue) one_EStr scal_EStr fun a2 c2 F2 => ?_
      refine dk ?_
      refine dO 7 (by kernel_rfl) (by rw [List.getElem?_toArray]; rfl) ?_
      apply o_call; rfl; kernel_rfl; exact evsE
      refine cb (fun w st => l7With_c _ x _ _ _ _ _ w (st.get (p := .isv ELink (.agg #[.slice a1 x.queue.length c1, .string x.fates, .int .i64 x.used]) x F) (by simp))) ?_
      refine dk ?_
      refine dO 9 (by kernel_rfl) (by rw [List.getElem?_toArray]; rfl) ?_
      apply o_st; rfl; rfl; rfl; (first | exact AggC.s | exact OneC.s); rfl; exact rplE; exact putE; rfl
      refine dk ?_
      refine dd ?_
      refine n_join (⟨_, a2, c2, F2⟩ : CpL) trivial
  obtain ⟨gg, a2, c2, F2⟩ := s
  refine t_read (xs := x.queue) fun F3 => ?_
  refine closeLink x l1 ?_
  repeat (first | apply c_seq | apply c_reg | (apply wO; apply oc; rfl; exact ydE) | apply w_nil | apply n_cd | (apply wg_t; rfl; rfl) | (apply wg_f; rfl; rfl; rfl; rfl) | (apply wg_u; rfl; rfl; rfl) | (apply c_t; rfl) | (apply c_f; rfl) | apply c_skip | apply c_block | apply n_blk | apply c_exit | apply e_hit | apply e_cd | apply e_lp | (apply e_miss; rfl) | apply c_ret | (apply wO; apply o_box; rfl; rfl; rfl; intro _) | (apply wO; apply o_alloc; rfl; intro _) | (apply wO; apply o_st; rfl; rfl; rfl; (first | exact AggC.s | exact OneC.s); rfl; exact rplE; exact putE; rfl) | (apply wO; apply o_bs0; rfl; intro _) | (apply wO; apply o_bs; rfl; rfl; rfl; rfl; exact rptE; exact filE; intro _) | (apply wO; apply o_call; rfl; kernel_rfl; exact evsE))
  refine c_loopS [1, 4, 5, 6, 7] (fun s : SaS => [(8, .int .i64 s.n), (9, .int .i64 s.k)]) (fun s => [.row gg 76 0 [] [.slice s.a s.y.queue.length s.c, .string s.y.fates, .int .i64 s.y.used] [], .isv ELink (.agg #[.slice s.a s.y.queue.length s.c, .string s.y.fates, .int .i64 s.y.used]) s.y s.F]) (SaOk x xs) (fun s => xs.length - s.k) ⟨x, 0, 0, a2, c2, F3⟩ ⟨g1, Int.le_refl _, Int.le_refl _, Nat.zero_le _, rfl⟩ fun s hC => ?_
  obtain ⟨hg, n0, n1, hk, he⟩ := hC
  repeat (first | apply c_seq | apply c_reg | (apply wO; apply oc; rfl; exact ydE) | apply w_nil | apply n_cd | (apply wg_t; rfl; rfl) | (apply wg_f; rfl; rfl; rfl; rfl) | (apply wg_u; rfl; rfl; rfl) | (apply c_t; rfl) | (apply c_f; rfl) | apply c_skip | apply c_block | apply n_blk | apply c_exit | apply e_hit | apply e_cd | apply e_lp | (apply e_miss; rfl) | apply c_ret | (apply wO; apply o_box; rfl; rfl; rfl; intro _) | (apply wO; apply o_alloc; rfl; intro _) | (apply wO; apply o_st; rfl; rfl; rfl; (first | exact AggC.s | exact OneC.s); rfl; exact rplE; exact putE; rfl) | (apply wO; apply o_bs0; rfl; intro _) | (apply wO; apply o_bs; rfl; rfl; rfl; rfl; exact rptE; exact filE; intro _) | (apply wO; apply o_call; rfl; kernel_rfl; exact evsE))
  refine c_if rfl (fun h2 => ?_) (fun h2 => ?_)
  · have hk2 : s.k < xs.length := by omega
    repeat (first | apply c_seq | apply c_reg | (apply wO; apply oc; rfl; exact ydE) | apply w_nil | apply n_cd | (apply wg_t; rfl; rfl) | (apply wg_f; rfl; rfl; rfl; rfl) | (apply wg_u; rfl; rfl; rfl) | (apply c_t; rfl) | (apply c_f; rfl) | apply c_skip | apply c_block | apply n_blk | apply c_exit | apply e_hit | apply e_cd | apply e_lp | (apply e_miss; rfl) | apply c_ret | (apply wO; apply o_box; rfl; rfl; rfl; intro _) | (apply wO; apply o_alloc; rfl; intro _) | (apply wO; apply o_st; rfl; rfl; rfl; (first | exact AggC.s | exact OneC.s); rfl; exact rplE; exact putE; rfl) | (apply wO; apply o_bs0; rfl; intro _) | (apply wO; apply o_bs; rfl; rfl; rfl; rfl; exact rptE; exact filE; intro _) | (apply wO; apply o_call; rfl; kernel_rfl; exact evsE))
    refine c_joinS [1, 4, 5, 6, 7, 8, 9, 29, 30, 31, 32] [0, 1, 2, 3, 4, 5, 6, 7] (fun z : CpL => [(10, ptr z.g 0 0), (11, .bool (resSendOn s.y xs[s.k]).2)]) (fun z => [.row z.g 76 0 [] [.slice z.a (resSendOn s.y xs[s.k]).1.queue.length z.c, .string (resSendOn s.y xs[s.k]).1.fates, .int .i64 (resSendOn s.y xs[s.k]).1.used] [], .isv ELink (.agg #[.slice z.a (resSendOn s.y xs[s.k]).1.queue.length z.c, .string (resSendOn s.y xs[s.k]).1.fates, .int .i64 (resSendOn s.y xs[s.k]).1.used]) (resSendOn s.y xs[s.k]).1 z.F]) (fun _ => True) ?_ fun z _ => ?_
    · refine at_str (xs := xs) s.k ?_
      rintro hi b o e s1
      rw [e]
      refine d_start [0, 1] [] ?_
      refine dt 0 ?_
      refine dt 1 ?_
      refine dt 2 ?_
      refine dt 3 ?_
      refine dt 4 ?_
      refine dO2 5 9 (by kernel_rfl) (by rw [List.getElem?_toArray]; rfl) (by rw [List.getElem?_toArray]; rfl) ?_ ?_
      · apply o_call; rfl; kernel_rfl; exact evsE
        refine cf (specSendOn_f s.y xs[s.k] _ s.F s1) fun z _ => ?_
        refine t_app ?_
        refine dk ?_
        refine dt 6 ?_
        refine dt 7 ?_
        refine dt 8 ?_
        refine dO 9 (by kernel_rfl) (by rw [List.getElem?_toArray]; rfl) ?_
        apply o_alloc; rfl; intro _
        refine dk ?_
        refine dO 10 (by kernel_rfl) (by rw [List.getElem?_toArray]; rfl) ?_
        apply o_st; rfl; rfl; rfl; (first | exact AggC.s | exact OneC.s); rfl; exact rplE; exact putE; rfl
        refine dk ?_
        refine dt 11 ?_
        refine dd ?_
        refine n_join (⟨_, z.a, z.c, z.F⟩ : CpL) trivial
      · apply o_alloc; rfl; intro _
        refine dk ?_
        refine dO 5 (by kernel_rfl) (by rw [List.getElem?_toArray]; rfl) ?_
        apply o_call; rfl; kernel_rfl; exact evsE
        refine cf (specSendOn_f s.y xs[s.k] _ s.F s1) fun z _ => ?_
        refine t_app ?_
        refine dk ?_
        refine dt 6 ?_
        refine dt 7 ?_
        refine dt 8 ?_
        refine dO 10 (by kernel_rfl) (by rw [List.getElem?_toArray]; rfl) ?_
        apply o_st; rfl; rfl; rfl; (first | exact AggC.s | exact OneC.s); rfl; exact rplE; exact putE; rfl
        refine dk ?_
        refine dt 11 ?_
        refine dd ?_
        refine n_join (⟨_, z.a, z.c, z.F⟩ : CpL) trivial
    rw [sentAll_step hk2] at he
    cases g2 : sendOk s.y xs[s.k]
    · rw [g2, if_neg (by decide), show sendL s.y xs[s.k] = s.y by unfold sendL; rw [g2]; rfl] at he
      rw [resSendOn_no (by unfold okSendOn; rw [g2]; simp)]
      repeat (first | apply c_seq | apply c_reg | (apply wO; apply oc; rfl; exact ydE) | apply w_nil | apply n_cd | (apply wg_t; rfl; rfl) | (apply wg_f; rfl; rfl; rfl; rfl) | (apply wg_u; rfl; rfl; rfl) | (apply c_t; rfl) | (apply c_f; rfl) | apply c_skip | apply c_block | apply n_blk | apply c_exit | apply e_hit | apply e_cd | apply e_lp | (apply e_miss; rfl) | apply c_ret | (apply wO; apply o_box; rfl; rfl; rfl; intro _) | (apply wO; apply o_alloc; rfl; intro _) | (apply wO; apply o_st; rfl; rfl; rfl; (first | exact AggC.s | exact OneC.s); rfl; exact rplE; exact putE; rfl) | (apply wO; apply o_bs0; rfl; intro _) | (apply wO; apply o_bs; rfl; rfl; rfl; rfl; exact rptE; exact filE; intro _) | (apply wO; apply o_call; rfl; kernel_rfl; exact evsE))
      refine n_lp ⟨s.y, s.n + 1, s.k + 1, s.a, s.c, s.F⟩ ⟨hg, by show 0 ≤ s.n + 1; omega, by show s.n + 1 ≤ ((s.k + 1 : Nat) : Int); omega, hk2, he⟩ (by show xs.length - (s.k + 1) < _; omega)
    · rw [g2, if_pos rfl, show sendL s.y xs[s.k] = sentL s.y xs[s.k] by unfold sendL; rw [g2]; rfl] at he
      rw [resSendOn_yes (by unfold okSendOn; rw [hg, g2]; rfl)]
      repeat (first | apply c_seq | apply c_reg | (apply wO; apply oc; rfl; exact ydE) | apply w_nil | apply n_cd | (apply wg_t; rfl; rfl) | (apply wg_f; rfl; rfl; rfl; rfl) | (apply wg_u; rfl; rfl; rfl) | (apply c_t; rfl) | (apply c_f; rfl) | apply c_skip | apply c_block | apply n_blk | apply c_exit | apply e_hit | apply e_cd | apply e_lp | (apply e_miss; rfl) | apply c_ret | (apply wO; apply o_box; rfl; rfl; rfl; intro _) | (apply wO; apply o_alloc; rfl; intro _) | (apply wO; apply o_st; rfl; rfl; rfl; (first | exact AggC.s | exact OneC.s); rfl; exact rplE; exact putE; rfl) | (apply wO; apply o_bs0; rfl; intro _) | (apply wO; apply o_bs; rfl; rfl; rfl; rfl; exact rptE; exact filE; intro _) | (apply wO; apply o_call; rfl; kernel_rfl; exact evsE))
      refine n_lp ⟨sentL s.y xs[s.k], s.n, s.k + 1, z.a, z.c, z.F⟩ ⟨sent_good hg g2, n0, by show s.n ≤ ((s.k + 1 : Nat) : Int); omega, hk2, he⟩ (by show xs.length - (s.k + 1) < _; omega)
  · have hk2 : s.k = xs.length := by omega
    rw [hk2, List.drop_length] at he
    rw [resSendAll_yes (by unfold okSendAll; rw [g1, decide_eq_false h1]; rfl), show sentAll x 0 xs = (s.y, s.n) from he]
    repeat (first | apply c_seq | apply c_reg | (apply wO; apply oc; rfl; exact ydE) | apply w_nil | apply n_cd | (apply wg_t; rfl; rfl) | (apply wg_f; rfl; rfl; rfl; rfl) | (apply wg_u; rfl; rfl; rfl) | (apply c_t; rfl) | (apply c_f; rfl) | apply c_skip | apply c_block | apply n_blk | apply c_exit | apply e_hit | apply e_cd | apply e_lp | (apply e_miss; rfl) | apply c_ret | (apply wO; apply o_box; rfl; rfl; rfl; intro _) | (apply wO; apply o_alloc; rfl; intro _) | (apply wO; apply o_st; rfl; rfl; rfl; (first | exact AggC.s | exact OneC.s); rfl; exact rplE; exact putE; rfl) | (apply wO; apply o_bs0; rfl; intro _) | (apply wO; apply o_bs; rfl; rfl; rfl; rfl; exact rptE; exact filE; intro _) | (apply wO; apply o_call; rfl; kernel_rfl; exact evsE))
    refine ret ⟨s.a, s.c, s.F⟩ trivial rfl
end Go.Proofs.YtidephmobajikaaDoor
