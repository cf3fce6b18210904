/- Operations that act; calls; regions that draw their order; a function's beginning and end. Plain: no program in sight. -/
import Derived.Test.YtidephmobajikaaDoorX3
import Derived.Test.YtidephmobajikaaDoorOwn3
namespace Go.Proofs.YtidephmobajikaaDoor
open Go.RowKit
/-- a type's zero value, as cells -/
class ZC (P : Program) (t : TypeId) (zs : outParam (List Value)) : Prop where
  z : ∃ v, (P.info? t).map (·.zero) = some (some v) ∧ v.cells = zs.toArray
/-- a slice's elements: zero, cells, bytes -/
class ElT (P : Program) (e : TypeId) (z : outParam Value) (n : outParam Nat) (by_ : outParam Nat) : Prop where
  i : (P.info? e).map (fun i => (i.zero, i.size, i.bytes)) = some (some z, n, by_)
  s : z.cells.size = n
/-- places of a struct's fields: where, how many cells -/
class BldC (P : Program) (t : TypeId) (pl : outParam (List (Nat × Nat))) (zs : outParam (List Value)) : Prop where
  b : ∀ parts, P.built t parts = Instr.fill (pl.toArray[·]?) zs.toArray parts
def bodyB (P : Program) (f : FuncId) : Bool := match P.funcs[f]? with
  | some fn => !(fn.name == "runtime.NumGoroutine") && !fn.body.isNone
  | none => false
theorem body_of {P : Program} {f : FuncId} (h : bodyB P f = true) : Body P f := by
  unfold bodyB at h
  split at h
  · rename_i fn hf
    simp only [Bool.and_eq_true, Bool.not_eq_true'] at h
    exact .mk' hf h.1 h.2
  · cases h
/-- one operation, whatever stands behind it -/
structure Ef (c : Cx) (fr : Fr) (H : List Pc) (o : Oper) (Φ : Gl) : Prop where
  h : ∀ Q a w, St c.G c.D c.w0 H w → Ag c.n fr a → o.wp c.P a w (Φ.sem c) Q
/-- a call of function f at these values, whatever stands behind it -/
structure Cl (c : Cx) (fr : Fr) (H : List Pc) (d : Nat) (f : FuncId) (vs : List Value) (Φ : Gl) : Prop where
  h : ∀ w, St c.G c.D c.w0 H w → ∃ R : Ending → World → Prop, Calls c.P f vs.toArray w R ∧ ∀ e w', R e w' → ∃ v, e = .returned v ∧ ∀ a, Ag c.n ((d, v) :: fr) a → Φ.sem c a w'
theorem ef_of {c : Cx} {fr : Fr} {H : List Pc} {o : Oper} {Φ : Gl} (h : ∀ Q a w, St c.G c.D c.w0 H w → Ag c.n fr a → Oper.upon c.P o a (Φ.sem c) Q ((execOp a.eval o).run c.P w)) : Ef c fr H o Φ := ⟨h⟩
inductive Rpl : List Pc → Pc → Pc → List Pc → Prop
  | here {p q R} : Rpl (p :: R) p q (q :: R)
  | there {x p q R S} : Rpl R p q S → Rpl (x :: R) p q (x :: S)
theorem Rpl.picks {H p q S} (h : Rpl H p q S) : ∃ R, Pick H p R ∧ Pick S q R := by
  induction h with
  | here => exact ⟨_, .here, .here⟩
  | there _ ih => obtain ⟨R, h1, h2⟩ := ih; exact ⟨_, .there h1, .there h2⟩
theorem Pick.unsep {H p R} (h : Pick H p R) (hs : Sep (p :: R)) : Sep H := by
  induction h with
  | here => exact hs
  | @there x p R R' h ih =>
    have h2 := Sep.perm2 hs
    have h3 := ih h2.2
    refine ⟨fun q hq => ?_, h3⟩
    have : ∀ {A : List Pc} {p B}, Pick A p B → ∀ q ∈ A, q = p ∨ q ∈ B := by
      intro A p B h
      induction h with
      | here => intro q hq; simpa using hq
      | there _ ih =>
        intro q hq
        rcases List.mem_cons.1 hq with rfl | hq
        · simp
        · rcases ih q hq with h | h <;> simp [h]
    rcases this h q hq with rfl | hq
    · exact h2.1 _ (by simp)
    · exact h2.1 _ (by simp [hq])
theorem Pick.or {A : List Pc} {p B} (h : Pick A p B) : ∀ q ∈ A, q = p ∨ q ∈ B := by
  induction h with
  | here => intro q hq; simpa using hq
  | there _ ih =>
    intro q hq
    rcases List.mem_cons.1 hq with rfl | hq
    · simp
    · rcases ih q hq with h | h <;> simp [h]
theorem St.unpick {G D w0 H p R w} (s : St G D w0 (p :: R) w) (h : Pick H p R) : St G D w0 H w :=
  ⟨s.keep, fun q hq => by rcases h.or q hq with rfl | hq; exact s.on _ (by simp); exact s.on _ (by simp [hq]), h.unsep s.sep, fun q hq => by rcases h.or q hq with rfl | hq; exact s.mine _ (by simp); exact s.mine _ (by simp [hq])⟩
/-- a piece that may be written turns in its place -/
theorem St.rpl {G D w0 H p q S} {w w' : World} (s : St G D w0 H w) (h : Rpl H p q S) (hm : p.mu = true) (hF : ∀ b ∈ q.F, b ∈ p.F ∨ w.heap.size ≤ b) (hk : Keep p.F w w') (hq : q.P w') : St G D w0 S w' := by
  obtain ⟨R, h1, h2⟩ := h.picks
  refine St.unpick (R := R) ?_ h2
  refine St.turn (M := [p]) (R := R) (N := [q]) (s.pick h1) (by simpa [List.filter, hm, fp] using hk) (by intro x hx; simp at hx; subst hx; exact hq) ⟨by simp, trivial⟩ fun x hx b hb => ?_
  simp at hx; subst hx
  rcases hF b hb with h | h
  · exact .inr (.inl ⟨p, by simp, hm, h⟩)
  · exact .inl h
theorem St.add {G D w0 H} {w w' : World} {N : List Pc} (s : St G D w0 H w) (hb : Below w.heap.size w w') (hN : Hol N w') (hs : Sep N) (hF : ∀ p ∈ N, ∀ b ∈ p.F, w.heap.size ≤ b ∨ (p.mu = false ∧ ∃ q ∈ H, q.mu = false ∧ b ∈ q.F)) : St G D w0 (N ++ H) w' :=
  St.turn (M := []) (R := H) (N := N) s (by simpa [fp] using Keep.ofBelow hb) hN hs fun p hp b hb => by
    rcases hF p hp b hb with h | h
    · exact .inl h
    · exact .inr (.inr (by simpa using h))
theorem St.below {G D w0 H} {w w' : World} (s : St G D w0 H w) (hb : Below w.heap.size w w') : St G D w0 H w' := s.add (N := []) hb (by intro p hp; simp at hp) trivial (by simp)
theorem below_alloc (w : World) (o : Obj) : Below w.heap.size w (w.alloc o) := (Below.refl _ _).alloc (Nat.le_refl _) o
theorem St.new {G D w0 H} {w : World} (s : St G D w0 H w) (t : TypeId) (cs : List Value) : St G D w0 (.row w.heap.size t 0 [] cs [] :: H) (w.alloc (.cells cs.toArray t)) :=
  s.add (N := [.row w.heap.size t 0 [] cs []]) (below_alloc _ _) (by intro p hp; simp at hp; subst hp; exact ⟨rfl, by simpa using Row.made w t cs⟩) ⟨by simp, trivial⟩ (by intro p hp b hb; simp at hp; subst hp; simp [Pc.F] at hb; subst hb; exact .inl (Nat.le_refl _))
/-- l goes in the place of the cells from j on -/
inductive Put : List Value → Nat → List Value → List Value → Prop
  | zero {cs} : Put cs 0 [] cs
  | one {x cs u l r} : Put cs 0 l r → Put (x :: cs) 0 (u :: l) (u :: r)
  | skip {x cs j l r} : Put cs j l r → Put (x :: cs) (j + 1) l (x :: r)
theorem Put.parts {cs j l r} (h : Put cs j l r) : ∃ A o B, cs = A ++ o ++ B ∧ r = A ++ l ++ B ∧ A.length = j ∧ o.length = l.length := by
  induction h with
  | @zero cs => exact ⟨[], [], cs, by simp, by simp, rfl, rfl⟩
  | @one x cs u l r _ ih =>
    obtain ⟨A, o, B, rfl, rfl, hA, ho⟩ := ih
    have : A = [] := List.eq_nil_of_length_eq_zero hA
    subst this
    exact ⟨[], x :: o, B, by simp, by simp, rfl, by simp [ho]⟩
  | @skip x cs j l r _ ih =>
    obtain ⟨A, o, B, rfl, rfl, hA, ho⟩ := ih
    exact ⟨x :: A, o, B, by simp, by simp, by simp [hA], ho⟩
theorem storeAt_cells {P : Program} {t : TypeId} {n : Nat} (hs : (P.info? t).map (·.size) = some n) {w : World} {b o : Nat} {v : Value} {l : List Value} (hv : v.cells = l.toArray) (hl : l.length = n) (ht : w.there b o n) (h1 : l.all (·.oneCell') = true) :
    (Instr.storeAt t (.pointer (some ⟨b, o, none⟩)) v).run P w = .ok () (w.setCells b o l) := by
  subst hl
  have := run_storeCells_cells (P := P) b o l 0 w (fun j hj => by simpa using (ht j hj).1) (fun j hj => by simpa using (ht j hj).2) (fun v hv => List.all_eq_true.1 h1 v hv)
  simp only [Nat.add_zero] at this
  simp [Instr.storeAt, Instr.sureAddr, storeVar, size_of hs, hv, this]
theorem row_set {w : World} {g t o j : Nat} {A cs B l r : List Value} (h : (Pc.row g t o A cs B).P w) (hp : Put cs j l r) : (Pc.row g t o A r B).P (w.setCells g (o + j) l) ∧ Keep [g] w (w.setCells g (o + j) l) := by
  obtain ⟨rfl, h⟩ := h
  obtain ⟨X, y, Y, rfl, rfl, rfl, hy⟩ := hp.parts
  have h2 : Row w g t ((A ++ X) ++ y ++ (Y ++ B)) := by simpa using h
  have h3 := Row.put l y h2 (p := A.length + X.length) (by simp) hy.symm
  have hk := putCells_keep (g := g) l w (A.length + X.length)
  rw [putCells_eq w g l w] at h3 hk
  exact ⟨⟨rfl, by simpa using h3⟩, hk⟩
/-- what a function does, said of pieces: with those of A to read and those of M to write it returns v s, and the pieces N s hold -/
def Fn (P : Program) (f : FuncId) (args : List Value) (A M : List Pc) {σ : Type} (C : σ → Prop) (v : σ → Value) (N : σ → List Pc) : Prop :=
  ∀ w, Hol (M ++ A) w → Sep (M ++ A) → Calls P f args.toArray w fun e w' => ∃ s, C s ∧ e = .returned (v s) ∧ Hol (N s) w' ∧ Sep (N s) ∧ Keep (fp M) w w' ∧
    ∀ p ∈ N s, ∀ b ∈ p.F, w.heap.size ≤ b ∨ (∃ q ∈ M, b ∈ q.F) ∨ (p.mu = false ∧ ∃ q ∈ A, b ∈ q.F)
inductive Picks : List Pc → List Pc → List Pc → Prop
  | nil {H} : Picks H [] H
  | cons {H p R M S} : Pick H p R → Picks R M S → Picks H (p :: M) S
theorem Picks.st {G D w0 H M R w} (h : Picks H M R) : ∀ {X : List Pc}, St G D w0 (X ++ H) w → St G D w0 (X ++ (M ++ R)) w := by
  induction h with
  | nil => intro X s; simpa using s
  | @cons H p R M S hp _ ih =>
    intro X s
    have h1 : ∀ (X : List Pc), Pick (X ++ H) p (X ++ R) := by
      intro X; induction X with
      | nil => exact hp
      | cons x X ih => exact .there ih
    have h2 : ∀ (X : List Pc), Pick (X ++ (p :: (M ++ S))) p (X ++ (M ++ S)) := by
      intro X; induction X with
      | nil => exact .here
      | cons x X ih => exact .there ih
    have s1 := s.pick (h1 X)
    have s2 := ih (X := p :: X) (by simpa using s1)
    exact St.unpick (by simpa using s2) (h2 X)
inductive Mems : List Pc → List Pc → Prop
  | nil {H} : Mems [] H
  | cons {p A H} : p ∈ H → Mems A H → Mems (p :: A) H
theorem Mems.all {A H} (h : Mems A H) : ∀ p ∈ A, p ∈ H := by
  induction h with
  | nil => simp
  | cons h _ ih => intro q hq; rcases List.mem_cons.1 hq with rfl | hq; exact h; exact ih q hq
section
variable {c : Cx} {fr : Fr} {H : List Pc} {k : List It} {Φ : Gl} {ops : Array Oper} {rest : List Oper} {d : Nat} {o : Op} {ty : TypeId} {pos : String} {aft : Array Edge} {v u : Value} {x y : Operand}
theorem w_ef {o : Oper} (h : Ef c fr H o (.list k ops rest)) (hg : o.guard = none := by rfl) : T c fr H (.list k ops (o :: rest)) := .mk fun a w s g =>
  wpList_plain hg fun K hK => Oper.wp_mono hK (h.h _ a w s g)
theorem ef_yd {gd : Option (Nat × Bool)} (hy : Yd c.P c.n fr H o ty v) (hd : Nat.blt d c.n = true) (h : T c ((d, v) :: fr) H Φ) : Ef c fr H ⟨some d, o, ty, pos, aft, gd⟩ Φ := ef_of fun Q a w s g => by
  rw [hy.h a w (some d) pos aft gd g s.on]
  exact h.h _ _ s (g.put hd)
theorem ef_yd0 {gd : Option (Nat × Bool)} (hy : Yd c.P c.n fr H o ty v) (h : T c fr H Φ) : Ef c fr H ⟨none, o, ty, pos, aft, gd⟩ Φ := ef_of fun Q a w s g => by
  rw [hy.h a w none pos aft gd g s.on]
  exact h.h _ _ s g
/-- one operation, wherever it stands -/
structure On (c : Cx) (fr : Fr) (H : List Pc) (od : Option Tmp) (o : Op) (ty : TypeId) (Φ : Gl) : Prop where
  h : ∀ pos aft gd, Ef c fr H ⟨od, o, ty, pos, aft, gd⟩ Φ
theorem wO {od : Option Tmp} (h : On c fr H od o ty (.list k ops rest)) : T c fr H (.list k ops (⟨od, o, ty, pos, aft, none⟩ :: rest)) := w_ef (h.h pos aft none)
theorem oc (hd : Nat.blt d c.n = true) (hy : Yd c.P c.n fr H o ty v) (h : T c ((d, v) :: fr) H Φ) : On c fr H (some d) o ty Φ := ⟨fun _ _ _ => ef_yd hy hd h⟩
theorem oc0 (hy : Yd c.P c.n fr H o ty v) (h : T c fr H Φ) : On c fr H none o ty Φ := ⟨fun _ _ _ => ef_yd0 hy h⟩
/-! guards of a plain region -/
theorem wanted_eq {a : Act} {j t : Nat} {b b' : Bool} {od : Option Tmp} (ht : (ops[j]?).bind (·.dst) = some t) (hl : look fr t = some (.bool b')) (g : Ag c.n fr a) : Region.wanted ⟨od, o, ty, pos, aft, some (j, b)⟩ (yielded ops a.tmps) = (b' == b) := by
  simp only [Region.wanted, yielded, ht, Option.bind_some, g.at_ t _ hl]
  cases b <;> cases b' <;> rfl
theorem wg_t {j t : Nat} {b : Bool} {od : Option Tmp} (ht : (ops[j]?).bind (·.dst) = some t) (hl : look fr t = some (.bool b)) (h : T c fr H (.list k ops (⟨od, o, ty, pos, aft, none⟩ :: rest))) :
    T c fr H (.list k ops (⟨od, o, ty, pos, aft, some (j, b)⟩ :: rest)) := .mk fun a w s g => by
  have h1 := h.h a w s g
  simp only [Gl.sem] at h1 ⊢
  unfold wpList at h1 ⊢
  rw [wanted_eq (c := c) ht hl g]
  simp only [Region.wanted, if_true, beq_self_eq_true] at h1 ⊢
  exact h1
theorem wg_f {j t : Nat} {b b' : Bool} (ht : (ops[j]?).bind (·.dst) = some t) (hl : look fr t = some (.bool b')) (hb : (b' == b) = false) (hd : Nat.blt d c.n = true) (h : T c ((d, undef) :: fr) H (.list k ops rest)) :
    T c fr H (.list k ops (⟨some d, o, ty, pos, aft, some (j, b)⟩ :: rest)) := .mk fun a w s g => by
  simp only [Gl.sem]
  unfold wpList
  rw [wanted_eq (c := c) ht hl g, hb]
  simp only [Bool.false_eq_true, if_false]
  exact h.h _ _ s (g.put hd)
/-- a guard on an operation that was not carried out -/
theorem wg_u {j t : Nat} {b : Bool} (ht : (ops[j]?).bind (·.dst) = some t) (hl : look fr t = some undef) (hd : Nat.blt d c.n = true) (h : T c ((d, undef) :: fr) H (.list k ops rest)) :
    T c fr H (.list k ops (⟨some d, o, ty, pos, aft, some (j, b)⟩ :: rest)) := .mk fun a w s g => by
  have hw : Region.wanted ⟨some d, o, ty, pos, aft, some (j, b)⟩ (yielded ops a.tmps) = false := by
    simp only [Region.wanted, yielded, ht, Option.bind_some, g.at_ t _ hl]; rfl
  simp only [Gl.sem]
  unfold wpList
  rw [hw]
  simp only [Bool.false_eq_true, if_false]
  exact h.h _ _ s (g.put hd)
/-- a guard that parts the ways -/
theorem wg_if {j t : Nat} {b : Bool} {od : Option Tmp} {p : Prop} {_ : Decidable p} (ht : (ops[j]?).bind (·.dst) = some t) (hl : look fr t = some (.bool (decide p))) (h1 : p → T c ((t, .bool true) :: fr) H (.list k ops (⟨od, o, ty, pos, aft, some (j, b)⟩ :: rest))) (h2 : ¬ p → T c ((t, .bool false) :: fr) H (.list k ops (⟨od, o, ty, pos, aft, some (j, b)⟩ :: rest))) :
    T c fr H (.list k ops (⟨od, o, ty, pos, aft, some (j, b)⟩ :: rest)) := .mk fun a w s g => by
  by_cases hp : p
  · rw [decide_eq_true hp] at hl
    exact (h1 hp).h a w s ⟨g.df, g.sz, fun i z hz => by rw [look_cons] at hz; split at hz; (rename_i e; subst e; rw [← hz, g.at_ _ _ hl]); exact g.at_ i z hz⟩
  · rw [decide_eq_false hp] at hl
    exact (h2 hp).h a w s ⟨g.df, g.sz, fun i z hz => by rw [look_cons] at hz; split at hz; (rename_i e; subst e; rw [← hz, g.at_ _ _ hl]); exact g.at_ i z hz⟩
/-! memory -/
theorem ef_alloc {t : TypeId} {zs : List Value} {gd : Option (Nat × Bool)} [hZ : ZC c.P t zs] (h : ∀ g, T c ((d, ptr g 0 0) :: fr) (.row g t 0 [] zs [] :: H) Φ) (hd : Nat.blt d c.n = true := by rfl) : Ef c fr H ⟨some d, .alloc t, ty, pos, aft, gd⟩ Φ := ef_of fun Q a w s g => by
  obtain ⟨z, hz, hzc⟩ := hZ.z
  obtain ⟨i, hi, hiz⟩ := Option.map_eq_some_iff.1 hz
  have e : (execOp a.eval ⟨some d, .alloc t, ty, pos, aft, gd⟩).run c.P w = .ok (.value (ptr w.heap.size 0 0)) (w.alloc (.cells zs.toArray t)) := by
    simp [execOp, Instr.alloc, zeroValue, typeInfo, hi, hiz, newVar, newRow, hzc, ptr]
  rw [e]
  exact (h _).h _ _ (s.new t zs) (g.put hd)
theorem ef_box {t : TypeId} {l : List Value} {gd : Option (Nat × Bool)} (hx : ev fr x = some v) (hv : v.cells = l.toArray) (h : ∀ g, T c ((d, ptr g 0 0) :: fr) (.row g t 0 [] l [] :: H) Φ) (hd : Nat.blt d c.n = true := by rfl) : Ef c fr H ⟨some d, .box t x, ty, pos, aft, gd⟩ Φ := ef_of fun Q a w s g => by
  have e : (execOp a.eval ⟨some d, .box t x, ty, pos, aft, gd⟩).run c.P w = .ok (.value (ptr w.heap.size 0 0)) (w.alloc (.cells l.toArray t)) := by
    simp [execOp, Instr.box, g.ev hx, newVar, newRow, hv, ptr]
  rw [e]
  exact (h _).h _ _ (s.new t l) (g.put hd)
theorem ef_store {t g tt o' j m : Nat} {A cs B l r : List Value} {S : List Pc} {gd : Option (Nat × Bool)} (hs : (c.P.info? t).map (·.size) = some m) (hx : ev fr x = some (ptr g o' j)) (hy : ev fr y = some v) (hv : v.cells = l.toArray) (hl : l.length = m) (h1 : l.all (·.oneCell') = true)
    (hp : Put cs j l r) (hr : Rpl H (.row g tt o' A cs B) (.row g tt o' A r B) S) (h : T c fr S Φ) : Ef c fr H ⟨none, .store t x y, ty, pos, aft, gd⟩ Φ := ef_of fun Q a w s ag => by
  have hP : (Pc.row g tt o' A cs B).P w := by obtain ⟨R, h1, _⟩ := hr.picks; exact s.on _ h1.mem
  have ht : w.there g (o' + j) m := fun i hi => by
    obtain ⟨X, z, Y, rfl, -, rfl, hz⟩ := hp.parts
    have := row_there hP (X.length + i) (by simp; omega)
    rwa [← Nat.add_assoc] at this
  have e : (execOp a.eval ⟨none, .store t x y, ty, pos, aft, gd⟩).run c.P w = .ok .skip (w.setCells g (o' + j) l) := by
    simp [execOp, ag.ev hx, ag.ev hy, ptr, storeAt_cells hs hv hl ht h1]
  rw [e]
  have ⟨h2, h3⟩ := row_set hP hp
  exact h.h _ _ (s.rpl hr rfl (fun b hb => .inl hb) h3 h2) ag
theorem o_alloc {t : TypeId} {zs : List Value} [hZ : ZC c.P t zs] (hd : Nat.blt d c.n = true) (h : ∀ g, T c ((d, ptr g 0 0) :: fr) (.row g t 0 [] zs [] :: H) Φ) : On c fr H (some d) (.alloc t) ty Φ := ⟨fun _ _ _ => ef_alloc h hd⟩
theorem o_box {t : TypeId} {l : List Value} (hd : Nat.blt d c.n = true) (hx : ev fr x = some v) (hv : v.cells = l.toArray) (h : ∀ g, T c ((d, ptr g 0 0) :: fr) (.row g t 0 [] l [] :: H) Φ) : On c fr H (some d) (.box t x) ty Φ := ⟨fun _ _ _ => ef_box hx hv h hd⟩
theorem o_st {t g tt o' j m : Nat} {A cs B l r : List Value} {S : List Pc} (hx : ev fr x = some (ptr g o' j)) (hy : ev fr y = some v) (hv : v.cells = l.toArray) (hs : (c.P.info? t).map (·.size) = some m) (hl : l.length = m) (hr : Rpl H (.row g tt o' A cs B) (.row g tt o' A r B) S) (hp : Put cs j l r) (h1 : l.all (·.oneCell') = true) (h : T c fr S Φ) : On c fr H none (.store t x y) ty Φ :=
  ⟨fun _ _ _ => ef_store hs hx hy hv hl h1 hp hr h⟩
/-! calls -/
theorem cl_ef {f : Nat} {as : List Operand} {ts : Array TypeId} {vs : List Value} {gd : Option (Nat × Bool)} (h : Cl c fr H d f vs Φ) (ha : Evs fr as vs) (hb : bodyB c.P f = true) (hd : Nat.blt d c.n = true) : Ef c fr H ⟨some d, .call { callee := .value (.func f), args := as.toArray, argTypes := ts }, ty, pos, aft, gd⟩ Φ := ef_of fun Q a w s g => by
  have e : (execOp a.eval ⟨some d, .call { callee := .value (.func f), args := as.toArray, argTypes := ts }, ty, pos, aft, gd⟩).run c.P w = (callFunc f vs.toArray).run c.P w := by
    simp [execOp, resolve, Deferred.ofValue, Act.eval, invoke, g.evs ha]
  rw [e]
  obtain ⟨R, hc, hk⟩ := h.h w s
  refine (body_of hb).upon hc fun e w' hR => ?_
  obtain ⟨v, he, hv⟩ := hk e w' hR
  exact ⟨v, he, hv _ (g.put hd)⟩
theorem cl_of {f : Nat} {vs : List Value} {R : World → Ending → World → Prop} (hc : ∀ w, St c.G c.D c.w0 H w → Calls c.P f vs.toArray w (R w))
    (hk : ∀ w e w', St c.G c.D c.w0 H w → R w e w' → ∃ v, e = .returned v ∧ ∀ a, Ag c.n ((d, v) :: fr) a → Φ.sem c a w') : Cl c fr H d f vs Φ := ⟨fun w s => ⟨R w, hc w s, fun e w' hR => hk w e w' s hR⟩⟩
/-- a call that returns v; nothing that was there has turned -/
theorem cb {f : Nat} {vs : List Value} (hc : ∀ w, St c.G c.D c.w0 H w → Calls c.P f vs.toArray w fun e w' => e = .returned v ∧ Below w.heap.size w w') (h : T c ((d, v) :: fr) H Φ) : Cl c fr H d f vs Φ :=
  cl_of hc fun w e w' s ⟨he, hB⟩ => ⟨v, he, fun a g => h.h a w' (s.below hB) g⟩
/-- a call that returns v and leaves the world -/
theorem ce {f : Nat} {vs : List Value} (hc : ∀ w, St c.G c.D c.w0 H w → Calls c.P f vs.toArray w fun e w' => e = .returned v ∧ w = w') (h : T c ((d, v) :: fr) H Φ) : Cl c fr H d f vs Φ :=
  cl_of hc fun w e w' s ⟨he, hB⟩ => ⟨v, he, fun a g => h.h a w' (hB ▸ s) g⟩
theorem cf_ {f : Nat} {vs : List Value} {A M R : List Pc} {σ : Type} {C : σ → Prop} {vv : σ → Value} {N : σ → List Pc} (hf : Fn c.P f vs A M C vv N) (h : ∀ s, C s → T c ((d, vv s) :: fr) (N s ++ R) Φ)
    (hM : Picks H M R) (hA : Mems A R) (hmM : M.all (·.mu) = true) (hmA : A.all (fun p => !p.mu) = true) : Cl c fr H d f vs Φ :=
  have hMR : ∀ w, St c.G c.D c.w0 H w → St c.G c.D c.w0 (M ++ R) w := fun w s => by simpa using hM.st (X := []) (by simpa using s)
  have hmu : ∀ p ∈ M, p.mu = true := fun p hp => List.all_eq_true.1 hmM p hp
  have hro : ∀ p ∈ A, p.mu = false := fun p hp => by simpa using List.all_eq_true.1 hmA p hp
  have hpre : ∀ w, St c.G c.D c.w0 H w → Hol (M ++ A) w ∧ Sep (M ++ A) := fun w s => by
    have s2 := hMR w s
    have hAR := hA.all
    refine ⟨fun p hp => ?_, ?_⟩
    · rcases List.mem_append.1 hp with hp | hp
      · exact s2.on p (by simp [hp])
      · exact s2.on p (by simp [hAR p hp])
    · have : ∀ (M : List Pc), Sep (M ++ R) → Sep (M ++ A) := by
        intro M
        induction M with
        | nil =>
          intro _
          have : ∀ (A : List Pc), (∀ p ∈ A, p.mu = false) → Sep A := by
            intro A
            induction A with
            | nil => intro _; trivial
            | cons p A ih => intro h; exact ⟨fun q hq hm => by rw [h p (by simp), h q (by simp [hq])] at hm; simp at hm, ih fun q hq => h q (by simp [hq])⟩
          exact this A hro
        | cons p M ih =>
          intro hs
          exact ⟨fun q hq => hs.1 q (by rcases List.mem_append.1 hq with h | h; simp [h]; simp [hAR q h]), ih hs.2⟩
      exact this M s2.sep
  cl_of (R := fun w e w' => ∃ s, C s ∧ e = .returned (vv s) ∧ Hol (N s) w' ∧ Sep (N s) ∧ Keep (fp M) w w' ∧ ∀ p ∈ N s, ∀ b ∈ p.F, w.heap.size ≤ b ∨ (∃ q ∈ M, b ∈ q.F) ∨ (p.mu = false ∧ ∃ q ∈ A, b ∈ q.F))
    (fun w s => hf w (hpre w s).1 (hpre w s).2)
    (fun w e w' s ⟨z, hz, he, hN, hS, hK, hF⟩ => ⟨_, he, fun a g => (h z hz).h a w' (St.turn (hMR w s) (by rwa [List.filter_eq_self.2 hmu]) hN hS fun p hp b hb => by
      rcases hF p hp b hb with h | ⟨q, hq, hqb⟩ | ⟨hp, q, hq, hqb⟩
      · exact .inl h
      · exact .inr (.inl ⟨q, hq, hmu q hq, hqb⟩)
      · exact .inr (.inr ⟨hp, q, by simp [hA.all q hq], hro q hq, hqb⟩)) g⟩)
theorem o_call {f : Nat} {as : List Operand} {ts : Array TypeId} {vs : List Value} (hd : Nat.blt d c.n = true) (hb : bodyB c.P f = true) (ha : Evs fr as vs) (h : Cl c fr H d f vs Φ) : On c fr H (some d) (.call { callee := .value (.func f), args := as.toArray, argTypes := ts }) ty Φ := ⟨fun _ _ _ => cl_ef h ha hb hd⟩
/-! a function's beginning and end -/
end
def FnPost (P : Program) (w : World) (A M : List Pc) {σ : Type} (C : σ → Prop) (v : σ → Value) (N : σ → List Pc) (e : Ending) (w' : World) : Prop := ∃ s, C s ∧ e = .returned (v s) ∧ Hol (N s) w' ∧ Sep (N s) ∧ Keep (fp M) w w' ∧
    ∀ p ∈ N s, ∀ b ∈ p.F, w.heap.size ≤ b ∨ (∃ q ∈ M, b ∈ q.F) ∨ (p.mu = false ∧ ∃ q ∈ A, b ∈ q.F)
def args0 : Nat → List Value → Fr
  | _, [] => []
  | i, v :: r => (i, v) :: args0 (i + 1) r
theorem look_args (vs : List Value) : ∀ i t v, look (args0 i vs) t = some v → i ≤ t ∧ vs[t - i]? = some v := by
  induction vs with
  | nil => intro i t v h; cases h
  | cons x r ih =>
    intro i t v h
    unfold args0 at h
    rw [look_cons] at h
    split at h
    · rename_i e; subst e; exact ⟨Nat.le_refl _, by simpa using h⟩
    · have ⟨h1, h2⟩ := ih (i + 1) t v h
      refine ⟨by omega, ?_⟩
      rw [show t - i = (t - (i + 1)) + 1 by omega, List.getElem?_cons_succ]; exact h2
theorem fn_enter {P : Program} {f : FuncId} {fn : Func} {cd : Code} {args : List Value} {A M : List Pc} {σ : Type} {C : σ → Prop} {v : σ → Value} {N : σ → List Pc} (hf : P.funcs[f]? = some fn) (hb : fn.body = some cd)
    (h : ∀ w, T ⟨P, fp M, fp A, w, fn.ntmps, bodyPost P fn (FnPost P w A M C v N)⟩ (args0 0 args) (M ++ A) (.code [] cd))
    (hn : args.length ≤ fn.ntmps) (hmA : A.all (fun p => !p.mu) = true) : Fn P f args A M C v N := fun w hH hS => by
  refine calls_of_wp hf hb ?_
  have hro : ∀ p ∈ A, p.mu = false := fun p hp => by simpa using List.all_eq_true.1 hmA p hp
  refine (h w).h _ _ ⟨Keep.refl _ _, hH, hS, fun p hp b hb => ?_⟩ ⟨rfl, by simp; omega, fun t u hu => ?_⟩
  · rcases List.mem_append.1 hp with hp | hp
    · exact .inl (mem_fp.2 ⟨p, hp, hb⟩)
    · exact .inr (.inr ⟨hro p hp, mem_fp.2 ⟨p, hp, hb⟩⟩)
  · obtain ⟨-, h2⟩ := look_args args 0 t u hu
    simp only [Nat.sub_zero] at h2
    show (args.toArray ++ Array.replicate (fn.ntmps - args.toArray.size) undef)[t]? = _
    have ht : t < args.length := (List.getElem?_eq_some_iff.1 h2).1
    rw [Array.getElem?_append_left (by simpa using ht)]
    simpa using h2
/-- what the results are -/
inductive Res (P : Program) (fr : Fr) (H : List Pc) : List ResultVar → List Value → Prop
  | nil : Res P fr H [] []
  | tmp {t v r vs} : look fr t = some v → Res P fr H r vs → Res P fr H (.tmp t :: r) (v :: vs)
  | agg {t ty m g o tt A cs B r vs} : AggC P ty m → look fr t = some (ptr g o 0) → Pc.row g tt o A cs B ∈ H → cs.length = m → Res P fr H r vs → Res P fr H (.cell t ty :: r) (.agg cs.toArray :: vs)
  | one {t ty g o tt A v B r vs} : OneC P ty → look fr t = some (ptr g o 0) → Pc.row g tt o A [v] B ∈ H → Res P fr H r vs → Res P fr H (.cell t ty :: r) (v :: vs)
theorem Cut.whole : ∀ (l : List Value), Cut l 0 l.length l
  | [] => .zero
  | _ :: r => .one (Cut.whole r)
theorem asAddr_ptr (x : Addr) : asAddr (.pointer (some x)) = pure x := rfl
theorem res_run {P : Program} {fr : Fr} {H : List Pc} {n : Nat} {rs vs} (f : ResultVar → Sem Value) {a : Act} (f1 : ∀ t, f (.tmp t) = pure (a.tmps.getD t undef)) (f2 : ∀ p t, f (.cell p t) = do loadVar t (← asAddr (a.tmps.getD p undef)))
    (h : Res P fr H rs vs) {w : World} (g : Ag n fr a) (hH : Hol H w) : (rs.mapM f).run P w = .ok vs w := by
  simp only [Array.getD_eq_getD_getElem?] at f1 f2
  induction h with
  | nil => simp
  | tmp hl _ ih => simp [List.mapM_cons, f1, g.at_ _ _ hl, ih]
  | @agg t ty m gg o tt A cs B r vs hT hl hm hc _ ih =>
    have h1 := load_agg (hT := hT) (j := 0) (row_range (hH _ hm)) (by rw [← hc]; exact Cut.whole cs)
    simp only [Instr.loadAt, Instr.sureAddr, Sem.run_bind, Sem.run_pure, Result.andThen_ok, Nat.add_zero] at h1
    simp [List.mapM_cons, f2, g.at_ _ _ hl, ptr, asAddr_ptr, h1, ih]
  | @one t ty gg o tt A v B r vs hT hl hm _ ih =>
    have h1 := load_one (hT := hT) (row_cell (j := 0) (hH _ hm) rfl)
    simp only [Instr.loadAt, Instr.sureAddr, Sem.run_bind, Sem.run_pure, Result.andThen_ok, Nat.add_zero] at h1
    simp [List.mapM_cons, f2, g.at_ _ _ hl, ptr, asAddr_ptr, h1, ih]
/-- one result bare, several as a tuple -/
def tup : List Value → Value
  | [v] => v
  | vs => .tuple vs.toArray
theorem results_run {P : Program} {fr : Fr} {H : List Pc} {n : Nat} {fn : Func} {rs vs} (hr : fn.results = rs.toArray) (h : Res P fr H rs vs) {a : Act} {w : World} (g : Ag n fr a) (hH : Hol H w) : (results fn a.tmps).run P w = .ok (tup vs) w := by
  unfold results
  rw [hr]
  simp only [Sem.run_bind, Array.mapM_eq_mapM_toList]
  have : ∀ (f : ResultVar → Sem Value), (rs.mapM f).run P w = .ok vs w → ((List.toArray <$> rs.mapM f : Sem (Array Value))).run P w = .ok vs.toArray w := fun f hf => by
    simp [hf]
  refine (congrArg (fun x => Result.andThen x _) (this _ (res_run _ ?_ ?_ h g hH))).trans ?_
  · intro t; rfl
  · intro p t; rfl
  simp only [Result.andThen_ok, Sem.run_pure]
  congr 1
  match vs with
  | [] => rfl
  | [v] => rfl
  | v :: u :: r => simp [tup]
theorem fn_ret {P : Program} {fn : Func} {G D : List Nat} {w0 : World} {n : Nat} {A M : List Pc} {σ : Type} {C : σ → Prop} {v : σ → Value} {N : σ → List Pc} {fr : Fr} {H : List Pc} {rs : List ResultVar} {vs : List Value} (s : σ) (hC : C s)
    (hr : fn.results = rs.toArray) (h : Res P fr H rs vs) (hv : tup vs = v s) (hN : HSub H (N s)) (hG : G = fp M) (hD : D = fp A) : T ⟨P, G, D, w0, n, bodyPost P fn (FnPost P w0 A M C v N)⟩ fr H (.fin .ret) := .mk fun a w st g => by
  subst hG hD
  refine ⟨g.df, _, results_run hr h g st.on, s, hC, by rw [hv], ?_⟩
  have s2 := st.sub hN
  refine ⟨s2.on, s2.sep, s2.keep, fun p hp b hb => ?_⟩
  rcases s2.mine p hp b hb with h | h | ⟨h1, h⟩
  · exact .inr (.inl (mem_fp.1 h))
  · exact .inl h
  · exact .inr (.inr ⟨h1, mem_fp.1 h⟩)
end Go.Proofs.YtidephmobajikaaDoor
