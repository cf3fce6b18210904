/- A walk's frame as a list of what is known of the slots; the rules of control. Plain: no program in sight. -/
import Derived.Test.YtidephmobajikaaDoorX1
namespace Go.Proofs.YtidephmobajikaaDoor
open Go.RowKit
abbrev Fr := List (Nat × Value)
def look : Fr → Nat → Option Value
  | [], _ => none
  | (k, v) :: r, t => bif Nat.beq k t then some v else look r t
def ev (fr : Fr) : Operand → Option Value
  | .tmp t => look fr t
  | .const v => some v
  | .global g => some (.pointer (some ⟨g, 0, none⟩))
  | .func f => some (.func (.func f) #[] #[])
/-- the operands' values -/
inductive Evs (fr : Fr) : List Operand → List Value → Prop
  | nil : Evs fr [] []
  | cons {x v xs vs} : ev fr x = some v → Evs fr xs vs → Evs fr (x :: xs) (v :: vs)
structure Ag (n : Nat) (fr : Fr) (a : Act) : Prop where
  df : a.defers = []
  sz : a.tmps.size = n
  at_ : ∀ t v, look fr t = some v → a.tmps[t]? = some v
theorem Ag.ev {n fr a x v} (h : Ag n fr a) (hx : ev fr x = some v) : a.eval x = v := by
  cases x with
  | tmp t => have := h.at_ t v hx; simp [Act.eval, Array.getD_eq_getD_getElem?, this]
  | const u => simp [Go.Proofs.YtidephmobajikaaDoor.ev] at hx; subst hx; rfl
  | global g => simp [Go.Proofs.YtidephmobajikaaDoor.ev] at hx; subst hx; rfl
  | func f => simp [Go.Proofs.YtidephmobajikaaDoor.ev] at hx; subst hx; rfl
theorem Ag.evs {n fr a xs vs} (h : Ag n fr a) (hx : Evs fr xs vs) : xs.map a.eval = vs := by
  induction hx with
  | nil => rfl
  | cons hx _ ih => simp [h.ev hx, ih]
theorem look_cons (k : Nat) (v : Value) (r : Fr) (t : Nat) : look ((k, v) :: r) t = if k = t then some v else look r t := by
  show (bif Nat.beq k t then some v else look r t) = _
  by_cases h : k = t
  · subst h; simp
  · have : Nat.beq k t = false := by
      cases hb : Nat.beq k t
      · rfl
      · exact absurd (Nat.eq_of_beq_eq_true hb) h
    rw [this, if_neg h]; rfl
theorem Ag.put {n fr a d v} (h : Ag n fr a) (hd : Nat.blt d n = true) : Ag n ((d, v) :: fr) (a.put (some d) v) := by
  have hd' : d < n := by simpa using hd
  refine ⟨h.df, by simp [Act.put, h.sz], fun t u hu => ?_⟩
  rw [look_cons] at hu
  show (a.tmps.setIfInBounds d v)[t]? = _
  rw [Array.getElem?_setIfInBounds]
  split at hu
  · rename_i e; subst e; simp at hu; subst hu; rw [if_pos rfl, if_pos (by rw [h.sz]; exact hd')]
  · rename_i e; rw [if_neg e]; exact h.at_ t u hu
/-- what is known less of the slots -/
inductive FrSub (fr : Fr) : Fr → Prop
  | nil : FrSub fr []
  | cons {t v r} : look fr t = some v → FrSub fr r → FrSub fr ((t, v) :: r)
theorem FrSub.look {fr fr' : Fr} (h : FrSub fr fr') : ∀ t v, look fr' t = some v → look fr t = some v := by
  induction h with
  | nil => intro t v hv; cases hv
  | cons h1 _ ih =>
    intro t v hv
    rw [look_cons] at hv
    split at hv
    · rename_i e; subst e; rw [← hv]; exact h1
    · exact ih t v hv
theorem Ag.sub {n fr fr' a} (h : Ag n fr a) (hs : FrSub fr fr') : Ag n fr' a := ⟨h.df, h.sz, fun t v hv => h.at_ t v (hs.look t v hv)⟩
/-- what stays the same for a whole walk -/
structure Cx where
  P : Program
  G : List Nat
  D : List Nat
  w0 : World
  n : Nat
  R : Exit → Act → World → Prop
/-- what comes behind -/
inductive It
  | cd (c : Code)
  | blk (id : Nat)
  | lp (I : Act → World → Prop)
def run (c : Cx) : List It → Exit → Act → World → Prop
  | [] => c.R
  | .cd y :: k => Exit.then (fun a w => y.wp c.P (run c k) a w) (run c k)
  | .blk id :: k => Exit.inBlock id (run c k)
  | .lp I :: k => Exit.then I (run c k)
/-- where a walk stands: at a piece of code, at a region's operations, behind a normal end, at an exit, at the end; at a region whose order is drawn, with these operations done -/
inductive Gl
  | code (k : List It) (x : Code)
  | list (k : List It) (ops : Array Oper) (l : List Oper)
  | norm (k : List It)
  | exit (k : List It) (id : Nat)
  | fin (e : Exit)
  | dx (k : List It) (H0 : List Pc) (X : List Nat) (ops : Array Oper) (f : Nat) (listed : Array Bool)
  | dk (i : Nat) (k : List It) (H0 : List Pc) (X : List Nat) (ops : Array Oper) (f : Nat) (listed : Array Bool)
def Gl.sem (c : Cx) : Gl → Act → World → Prop
  | .code k x, a, w => x.wp c.P (run c k) a w
  | .list k ops l, a, w => wpList c.P ops (run c k) l a w
  | .norm k, a, w => run c k .normal a w
  | .exit k id, a, w => run c k (.exit id) a w
  | .fin e, a, w => c.R e a w
  | .dx k H0 X ops f listed, a, w => AnyX c.P .any ops (run c k) (Hol H0) (fun i => X.contains i) f listed a w
  | .dk i k H0 X ops f listed, a, w => (X.contains i = false → Hol H0 w) ∧ AnyX c.P .any ops (run c k) (Hol H0) (fun i => X.contains i) f listed a w
/-- in every world of that state, with every frame that is so known -/
structure T (c : Cx) (fr : Fr) (H : List Pc) (Φ : Gl) : Prop where
  h : ∀ a w, St c.G c.D c.w0 H w → Ag c.n fr a → Φ.sem c a w
theorem run_ret (c : Cx) : ∀ (k : List It), run c k .ret = c.R .ret
  | [] => rfl
  | .cd _ :: k => run_ret c k
  | .blk _ :: k => run_ret c k
  | .lp _ :: k => run_ret c k
theorem run_panic (c : Cx) (ch : List PanicEntry) : ∀ (k : List It), run c k (.panic ch) = c.R (.panic ch)
  | [] => rfl
  | .cd _ :: k => run_panic c ch k
  | .blk _ :: k => run_panic c ch k
  | .lp _ :: k => run_panic c ch k
/-- pieces in another order, or fewer -/
inductive HSub : List Pc → List Pc → Prop
  | nil {A} : HSub A []
  | cons {A p R B} : Pick A p R → HSub R B → HSub A (p :: B)
section
variable {c : Cx} {fr : Fr} {H : List Pc} {k : List It} {Φ : Gl}
theorem HSub.st {G D w0 w} {H H' : List Pc} (h : HSub H H') : ∀ {X : List Pc}, St G D w0 H w → Sep X → (∀ p ∈ X, ∀ q ∈ H, Apart p q) → (∀ p ∈ X, p.P w ∧ ∀ b ∈ p.F, b ∈ G ∨ w0.heap.size ≤ b ∨ (p.mu = false ∧ b ∈ D)) →
    (∀ q ∈ H', q ∈ H) ∧ Sep H' := by
  induction h with
  | nil => intro X _ _ _ _; exact ⟨by simp, trivial⟩
  | @cons A p R B hp hs ih =>
    intro X s hX hXa hXp
    have s1 := s.pick hp
    have ⟨h1, h2⟩ := ih (X := []) s1.tail trivial (by simp) (by simp)
    exact ⟨fun q hq => by
      rcases List.mem_cons.1 hq with rfl | hq
      · exact hp.mem
      · exact hp.sub q (h1 q hq), fun q hq => s1.sep.1 q (h1 q hq), h2⟩
theorem St.sub {G D w0 w} {H H' : List Pc} (s : St G D w0 H w) (h : HSub H H') : St G D w0 H' w :=
  have ⟨h1, h2⟩ := h.st (X := []) s trivial (by simp) (by simp)
  ⟨s.keep, fun p hp => s.on p (h1 p hp), h2, fun p hp => s.mine p (h1 p hp)⟩
theorem t_sub (H' : List Pc) (h : T c fr H' Φ) (hs : HSub H H' := by repeat (first | exact HSub.nil | refine HSub.cons (by first | exact .here | exact .there .here | exact .there (.there .here) | exact .there (.there (.there .here)) | exact .there (.there (.there (.there .here))) | exact .there (.there (.there (.there (.there .here)))) | exact .there (.there (.there (.there (.there (.there .here))))) | exact .there (.there (.there (.there (.there (.there (.there .here)))))) | exact .there (.there (.there (.there (.there (.there (.there (.there .here)))))))) ?_)) : T c fr H Φ := .mk fun a w s g => h.h a w (s.sub hs) g
theorem t_fr {fr' : Fr} (hs : FrSub fr fr') (h : T c fr' H Φ) : T c fr H Φ := .mk fun a w s g => h.h a w s (g.sub hs)
theorem t_pick {p : Pc} {R : List Pc} (h : T c fr (p :: R) Φ) (hp : Pick H p R := by first | exact .here | exact .there .here | exact .there (.there .here) | exact .there (.there (.there .here)) | exact .there (.there (.there (.there .here))) | exact .there (.there (.there (.there (.there .here)))) | exact .there (.there (.there (.there (.there (.there .here))))) | exact .there (.there (.there (.there (.there (.there (.there .here)))))) | exact .there (.there (.there (.there (.there (.there (.there (.there .here)))))))) : T c fr H Φ := .mk fun a w s g => h.h a w (s.pick hp) g
theorem t_drop {p : Pc} (h : T c fr H Φ) : T c fr (p :: H) Φ := .mk fun a w s g => h.h a w s.tail g
/-- a fact out of what holds -/
theorem t_fact {q : Prop} (hq : ∀ w, St c.G c.D c.w0 H w → q) (h : q → T c fr H Φ) : T c fr H Φ := .mk fun a w s g => (h (hq w s)).h a w s g
/-! the rules of control -/
theorem c_seq {x y : Code} (h : T c fr H (.code (.cd y :: k) x)) : T c fr H (.code k (Code.seq x y)) := .mk fun a w s g => wp_seq (h.h a w s g)
theorem c_skip (h : T c fr H (.norm k)) : T c fr H (.code k Code.skip) := .mk fun a w s g => wp_skip (h.h a w s g)
theorem c_ret (h : T c fr H (.fin .ret)) : T c fr H (.code k Code.ret) := .mk fun a w s g => wp_ret (by rw [run_ret]; exact h.h a w s g)
theorem c_exit {id : Nat} (h : T c fr H (.exit k id)) : T c fr H (.code k (Code.exit id)) := .mk fun a w s g => wp_exit (h.h a w s g)
theorem c_block {id : Nat} {x : Code} (h : T c fr H (.code (.blk id :: k) x)) : T c fr H (.code k (Code.block id x)) := .mk fun a w s g => wp_block (h.h a w s g)
theorem c_reg {id : Nat} {l : List Oper} (h : T c fr H (.list k l.toArray l)) : T c fr H (.code k (Code.region id l.toArray false)) := .mk fun a w s g => wp_region_lit (h.h a w s g)
theorem c_t {x : Operand} {y z : Code} (hc : ev fr x = some (.bool true)) (h : T c fr H (.code k y)) : T c fr H (.code k (Code.cond x y z)) := .mk fun a w s g => wp_cond_true (g.ev hc) (h.h a w s g)
theorem c_f {x : Operand} {y z : Code} (hc : ev fr x = some (.bool false)) (h : T c fr H (.code k z)) : T c fr H (.code k (Code.cond x y z)) := .mk fun a w s g => wp_cond_false (g.ev hc) (h.h a w s g)
/-- a test that parts the ways -/
theorem c_if {x : Operand} {y z : Code} {p : Prop} {_ : Decidable p} (hc : ev fr x = some (.bool (decide p))) (h1 : p → T c fr H (.code k y)) (h2 : ¬ p → T c fr H (.code k z)) :
    T c fr H (.code k (Code.cond x y z)) := .mk fun a w s g => by
  by_cases hp : p
  · exact wp_cond_true (by rw [g.ev hc, decide_eq_true hp]) ((h1 hp).h a w s g)
  · exact wp_cond_false (by rw [g.ev hc, decide_eq_false hp]) ((h2 hp).h a w s g)
theorem c_ifb {x : Operand} {y z : Code} {b : Bool} (hc : ev fr x = some (.bool b)) (h1 : b = true → T c fr H (.code k y)) (h2 : b = false → T c fr H (.code k z)) :
    T c fr H (.code k (Code.cond x y z)) := .mk fun a w s g => by
  cases b with
  | true => exact wp_cond_true (g.ev hc) ((h1 rfl).h a w s g)
  | false => exact wp_cond_false (g.ev hc) ((h2 rfl).h a w s g)
theorem n_cd {y : Code} (h : T c fr H (.code k y)) : T c fr H (.norm (.cd y :: k)) := ⟨h.h⟩
theorem n_blk {id : Nat} (h : T c fr H (.norm k)) : T c fr H (.norm (.blk id :: k)) := ⟨h.h⟩
theorem n_end (h : T c fr H (.fin .normal)) : T c fr H (.norm []) := ⟨h.h⟩
theorem e_cd {y : Code} {id : Nat} (h : T c fr H (.exit k id)) : T c fr H (.exit (.cd y :: k) id) := ⟨h.h⟩
theorem e_lp {I : Act → World → Prop} {id : Nat} (h : T c fr H (.exit k id)) : T c fr H (.exit (.lp I :: k) id) := ⟨h.h⟩
theorem e_hit {id : Nat} (h : T c fr H (.norm k)) : T c fr H (.exit (.blk id :: k) id) := .mk fun a w s g => by
  show (if id = id then run c k .normal a w else run c k (.exit id) a w)
  rw [if_pos rfl]; exact h.h a w s g
theorem e_miss {id id' : Nat} (hne : Nat.beq id' id = false) (h : T c fr H (.exit k id')) : T c fr H (.exit (.blk id :: k) id') := .mk fun a w s g => by
  show (if id' = id then run c k .normal a w else run c k (.exit id') a w)
  rw [if_neg (fun e => by rw [e] at hne; simp at hne)]; exact h.h a w s g
theorem w_nil {ops : Array Oper} (h : T c fr H (.norm k)) : T c fr H (.list k ops []) := ⟨h.h⟩
/-! loops -/
theorem least_ex {p : Nat → Prop} : ∀ n, p n → ∃ m, p m ∧ ∀ j, p j → m ≤ j := fun n => by
  induction n using Nat.strongRecOn with
  | _ n ih =>
    intro hn
    by_cases h : ∃ j, j < n ∧ p j
    · obtain ⟨j, hj, hp⟩ := h; exact ih j hj hp
    · exact ⟨n, hn, fun j hj => Nat.le_of_not_lt fun hl => h ⟨j, hl, hj⟩⟩
theorem wp_loop_m {P : Program} {Q : Exit → Act → World → Prop} {x : Code} {a : Act} {w : World} (I : Nat → Act → World → Prop) (m : Nat) (h0 : I m a w)
    (round : ∀ m a w, I m a w → x.wp P (Exit.then (fun a' w' => ∃ m', m' < m ∧ I m' a' w') Q) a w) : (Code.loop x).wp P Q a w := by
  classical
  refine wp_loop (fun a w => ∃ m, I m a w) (fun a w => if h : ∃ m, I m a w then Classical.choose (least_ex (p := fun m => I m a w) h.choose h.choose_spec) else 0) ⟨m, h0⟩ fun a w hI => ?_
  have hl := Classical.choose_spec (least_ex (p := fun m => I m a w) hI.choose hI.choose_spec)
  refine wp_mono (round _ a w hl.1) fun e a' w' he => ?_
  cases e with
  | normal =>
    obtain ⟨m', hm, hi⟩ := he
    have hex : ∃ m, I m a' w' := ⟨m', hi⟩
    refine ⟨hex, ?_⟩
    simp only [dif_pos hI, dif_pos hex]
    exact Nat.lt_of_le_of_lt ((Classical.choose_spec (least_ex (p := fun m => I m a' w') hex.choose hex.choose_spec)).2 m' hi) hm
  | _ => exact he
/-- the state at a loop's head: what is known of the slots and of memory, as a function of s -/
def LpI {σ : Type} (c : Cx) (fr' : σ → Fr) (H' : σ → List Pc) (C : σ → Prop) (μ : σ → Nat) (m : Nat) (a : Act) (w : World) : Prop := ∃ s, C s ∧ μ s = m ∧ St c.G c.D c.w0 (H' s) w ∧ Ag c.n (fr' s) a
def LpN {σ : Type} (c : Cx) (fr' : σ → Fr) (H' : σ → List Pc) (C : σ → Prop) (μ : σ → Nat) (m : Nat) (a : Act) (w : World) : Prop := ∃ m', m' < m ∧ LpI c fr' H' C μ m' a w
theorem c_loop {x : Code} {σ : Type} (fr' : σ → Fr) (H' : σ → List Pc) (C : σ → Prop) (μ : σ → Nat) (s0 : σ) (h0 : C s0)
    (round : ∀ s, C s → T c (fr' s) (H' s) (.code (.lp (LpN c fr' H' C μ (μ s)) :: k) x)) (hf : FrSub fr (fr' s0) := by repeat (first | exact FrSub.nil | refine FrSub.cons (by rfl) ?_)) (hH : HSub H (H' s0) := by repeat (first | exact HSub.nil | refine HSub.cons (by first | exact .here | exact .there .here | exact .there (.there .here) | exact .there (.there (.there .here)) | exact .there (.there (.there (.there .here))) | exact .there (.there (.there (.there (.there .here)))) | exact .there (.there (.there (.there (.there (.there .here))))) | exact .there (.there (.there (.there (.there (.there (.there .here)))))) | exact .there (.there (.there (.there (.there (.there (.there (.there .here)))))))) ?_)) : T c fr H (.code k (Code.loop x)) := .mk fun a w st g => by
  refine wp_loop_m (LpI c fr' H' C μ) (μ s0) ⟨s0, h0, rfl, st.sub hH, g.sub hf⟩ fun m a w hI => ?_
  obtain ⟨s, hC, rfl, hst, hg⟩ := hI
  exact (round s hC).h a w hst hg
/-- a round's end -/
theorem n_lp {σ : Type} {fr' : σ → Fr} {H' : σ → List Pc} {C : σ → Prop} {μ : σ → Nat} {m : Nat} (s : σ) (hC : C s) (hm : μ s < m) (hf : FrSub fr (fr' s) := by repeat (first | exact FrSub.nil | refine FrSub.cons (by rfl) ?_)) (hH : HSub H (H' s) := by repeat (first | exact HSub.nil | refine HSub.cons (by first | exact .here | exact .there .here | exact .there (.there .here) | exact .there (.there (.there .here)) | exact .there (.there (.there (.there .here))) | exact .there (.there (.there (.there (.there .here)))) | exact .there (.there (.there (.there (.there (.there .here))))) | exact .there (.there (.there (.there (.there (.there (.there .here)))))) | exact .there (.there (.there (.there (.there (.there (.there (.there .here)))))))) ?_)) :
    T c fr H (.norm (.lp (LpN c fr' H' C μ m) :: k)) := .mk fun _ _ st g => ⟨μ s, hm, s, hC, rfl, st.sub hH, g.sub hf⟩
end
end Go.Proofs.YtidephmobajikaaDoor
