/- Part 2 of the proof: 62 texts, one behind the other. -/
import Derived.WalkKit
import Derived.Deep.RegionHeld
import Derived.Deep.MidRow
import Derived.IntWalk
import Derived.Laws.Strings
import Derived.Test.YtccmhdheoeglmaaGreatDoorProg
import Derived.Test.YtccmhdheoeglmaaGreatDoorShelf
import Derived.Lib.Overlaps
import Derived.Lib.AppendZerosOnto
import Derived.Laws.IdiomCopy
import Derived.Deep.RegionLaw
import Derived.BigQuiet
import Derived.Test.YtccmhdheoeglmaaGreatDoorM1
/- A region that draws its order: a load may be taken first where S holds behind every operation that does not wait for it. Plain: no program in sight. -/
namespace Go.Proofs.YtccmhdheoeglmaaGreatDoor
open Go.RowKit
section
variable {P : Program} {ops : Array Oper} {Q : Exit → Act → World → Prop} {md : Region.Mode} {S : World → Prop} {X : Nat → Bool}
/-- whatever order; S is shown behind each operation, but for those of X -/
def AnyX (P : Program) (md : Region.Mode) (ops : Array Oper) (Q : Exit → Act → World → Prop) (S : World → Prop) (X : Nat → Bool) : Nat → Array Bool → Act → World → Prop
  | 0, listed, a, w => Region.ready md ops listed = [] ∧ Q .normal a w
  | f + 1, listed, a, w => (Region.ready md ops listed = [] → Q .normal a w) ∧
    ∀ i ∈ Region.ready md ops listed, wpOp P ops Q i (fun a' w' => (X i = false → S w') ∧ AnyX P md ops Q S X f (listed.setIfInBounds i true) a' w') a w
theorem AnyX.any : ∀ (f : Nat) (listed : Array Bool) (a : Act) (w : World), AnyX P md ops Q S X f listed a w → wpAny P md ops Q f listed a w
  | 0, _, _, _, h => h
  | f + 1, _, _, _, h => ⟨h.1, fun i hi => wpOp_mono (fun a' w' h' => AnyX.any f _ a' w' h'.2) (h.2 i hi)⟩
/-- what a listed operation waits for is listed -/
def Closed (md : Region.Mode) (ops : Array Oper) (listed : Array Bool) : Prop := ∀ j oj, ops[j]? = some oj → listed.getD j false = true → ∀ e ∈ oj.after, Region.binds md e = true → listed.getD e.on false = true
def closedB (md : Region.Mode) (ops : Array Oper) (listed : Array Bool) : Bool :=
  (List.range ops.size).all fun j => !listed.getD j false || ((ops[j]?).map fun o => o.after.all fun e => !Region.binds md e || listed.getD e.on false).getD true
theorem closed_of {listed : Array Bool} (h : closedB md ops listed = true) : Closed md ops listed := fun j oj hj hl e he hb => by
  have h1 := List.all_eq_true.1 h j (List.mem_range.2 (Array.getElem?_eq_some_iff.1 hj).1)
  rw [hl, hj] at h1
  simp only [Bool.not_true, Bool.false_or, Option.map_some, Option.getD_some] at h1
  have h2 := Array.all_eq_true'.1 h1 e he
  rw [hb] at h2; simpa using h2
theorem Closed.set {listed : Array Bool} {i : Nat} (h : Closed md ops listed) (hi : i ∈ Region.ready md ops listed) : Closed md ops (listed.setIfInBounds i true) := fun j oj hj hl e he hb => by
  obtain ⟨_, oi, hoi, hall⟩ := mem_ready.1 hi
  by_cases hij : i = j
  · subst hij
    obtain rfl := Option.some.inj (hj.symm.trans hoi)
    exact getD_set_true (hall e he hb)
  · rw [getD_set_ne false hij] at hl
    exact getD_set_true (h j oj hj hl e he hb)
/-- j waits for i, straight or by others -/
def waitsFor' (md : Region.Mode) (ops : Array Oper) (i : Nat) : Nat → Nat → Bool
  | 0, _ => false
  | f + 1, j => ((ops[j]?).map fun o => o.after.any fun e => Region.binds md e && (e.on == i || waitsFor' md ops i f e.on)).getD false
theorem waits_listed {listed : Array Bool} {i : Nat} (hc : Closed md ops listed) : ∀ (f j : Nat), (∀ oj, ops[j]? = some oj → ∀ e ∈ oj.after, Region.binds md e = true → listed.getD e.on false = true) → waitsFor' md ops i f j = true → listed.getD i false = true
  | 0, _, _, h => by cases h
  | f + 1, j, hd, h => by
    unfold waitsFor' at h
    cases hj : ops[j]? with
    | none => rw [hj] at h; cases h
    | some o =>
      rw [hj] at h
      simp only [Option.map_some, Option.getD_some] at h
      obtain ⟨e, he, hb⟩ := Array.any_eq_true'.1 h
      simp only [Bool.and_eq_true, Bool.or_eq_true, beq_iff_eq] at hb
      have h1 := hd o hj e he hb.1
      rcases hb.2 with h2 | h2
      · rw [← h2]; exact h1
      · exact waits_listed hc f e.on (fun oe ho => hc e.on oe ho h1) h2
/-- every operation of X waits for i -/
def waitsAll (md : Region.Mode) (ops : Array Oper) (X : Nat → Bool) (i : Nat) : Bool := (List.range ops.size).all fun j => !X j || waitsFor' md ops i ops.size j
theorem unlisted {listed : Array Bool} {i : Nat} (h : listed.getD i true = false) : listed.getD i false = false := by
  rcases Nat.lt_or_ge i listed.size with h' | h'
  · simp [h'] at h ⊢; exact h
  · simp [Array.getElem?_eq_none h'] at h
theorem AnyX.first {i : Nat} {oi : Oper} {v : Value} (hi : ops[i]? = some oi) (hsel : ∀ (j : Nat) (o : Oper) cs b, ops[j]? = some o → o.op ≠ .select cs b)
    (hQ : ∀ c a w, Q (.panic c) (a.put oi.dst v) w → Q (.panic c) a w) (hX : waitsAll md ops X i = true) :
    ∀ (f : Nat) (listed : Array Bool) (a : Act) (w : World),
      (∀ j oj, ops[j]? = some oj → j ≠ i → listed.getD j true = false → (∀ e ∈ oj.after, Region.binds md e = true → e.on ≠ i) → oi.apart ops oj = true) →
      Closed md ops listed → i ∈ Region.ready md ops listed → YieldsIf P ops S oi v a → S w → AnyX P md ops Q S X f (listed.setIfInBounds i true) (a.put oi.dst v) w → AnyX P md ops Q S X (f + 1) listed a w := by
  intro f
  induction f with
  | zero =>
    intro listed a w _ _ hr hy hS H
    refine ⟨fun h => (by rw [h] at hr; cases hr), fun j hj => ?_⟩
    by_cases hji : j = i
    · subst hji; exact hy.wpOp hi hS ⟨fun _ => hS, H⟩
    · have := ready_mono hj hji
      rw [H.1] at this; cases this
  | succ f ih =>
    intro listed a w hfree hcl hr hy hS H
    refine ⟨fun h => (by rw [h] at hr; cases hr), fun j hj => ?_⟩
    by_cases hji : j = i
    · subst hji; exact hy.wpOp hi hS ⟨fun _ => hS, H⟩
    · obtain ⟨hju, oj, hoj, hall⟩ := mem_ready.1 hj
      have hiu := unlisted (mem_ready.1 hr).1
      have hnot : ∀ e ∈ oj.after, Region.binds md e = true → e.on ≠ i := fun e he hb heq => by
        have h1 := hall e he hb
        rw [heq, hiu] at h1; cases h1
      have hXj : X j = false := by
        cases hx : X j
        · rfl
        · have h1 := List.all_eq_true.1 hX j (List.mem_range.2 (Array.getElem?_eq_some_iff.1 hoj).1)
          rw [hx] at h1
          have h2 := waits_listed hcl ops.size j (fun o ho => by obtain rfl := Option.some.inj (ho.symm.trans hoj); exact hall) (by simpa using h1)
          rw [hiu] at h2; cases h2
      have h2 := wpOp_putIf hoj (hfree j oj hoj hji hju hnot) (fun cs b => hsel i oi cs b hi) (fun cs b => hsel j oj cs b hoj) hQ hy (H.2 j (ready_mono hj hji))
      refine wpOp_mono (fun a' w' h3 => ⟨fun _ => h3.2.1 hXj, ih (listed.setIfInBounds j true) a' w' (fun k ok hk hki hun hno => hfree k ok hk hki ?_ hno) (hcl.set hj) (ready_mono hr (Ne.symm hji)) h3.1 (h3.2.1 hXj) ?_⟩) h2
      · by_cases hjk : j = k
        · subst hjk; exact hju
        · rw [getD_set_ne true hjk] at hun; exact hun
      · rw [Array.setIfInBounds_comm _ _ hji]; exact h3.2.2
/-- take number i first -/
theorem AnyX.take {i : Nat} {oi : Oper} {v : Value} {f : Nat} {listed : Array Bool} {a : Act} {w : World} (hi : ops[i]? = some oi)
    (hs : Region.noSelect ops = true) (hf : Region.free md ops listed i = true) (hr : (Region.ready md ops listed).contains i = true) (hX : waitsAll md ops X i = true) (hc : closedB md ops listed = true)
    (hQ : ∀ c a w, Q (.panic c) (a.put oi.dst v) w → Q (.panic c) a w) (hy : YieldsIf P ops S oi v a) (hS : S w)
    (h : AnyX P md ops Q S X f (listed.setIfInBounds i true) (a.put oi.dst v) w) : AnyX P md ops Q S X (f + 1) listed a w :=
  AnyX.first hi (Region.noSelect_spec hs) hQ hX f listed a w (Region.free_spec hi hf) (closed_of hc) (by simpa using hr) hy hS h
/-- the only one that may come up -/
theorem AnyX.only {i : Nat} {o : Oper} {f : Nat} {listed : Array Bool} {a : Act} {w : World} (hr : Region.ready md ops listed = [i]) (ho : ops[i]? = some o)
    (h : ∀ K' : Act → World → Prop, Shut (∀ a w, (X i = false → S w) → AnyX P md ops Q S X f (listed.setIfInBounds i true) a w → K' a w) → if Region.wanted o (yielded ops a.tmps) = true then Oper.wp P o a w K' Q else K' (a.put o.dst undef) w) :
    AnyX P md ops Q S X (f + 1) listed a w :=
  by
  refine ⟨fun h0 => (by rw [hr] at h0; cases h0), fun j hj => ?_⟩
  rw [hr] at hj
  obtain rfl : j = i := by simpa using hj
  exact wpOp_step ho (fun K' hK => h K' (fun a w hS hW => hK a w ⟨hS, hW⟩))
/-- two that may come up -/
theorem AnyX.two {i j : Nat} {oi oj : Oper} {f : Nat} {listed : Array Bool} {a : Act} {w : World} (hr : Region.ready md ops listed = [i, j]) (hoi : ops[i]? = some oi) (hoj : ops[j]? = some oj)
    (h : ∀ K' : Act → World → Prop, Shut (∀ a w, (X i = false → S w) → AnyX P md ops Q S X f (listed.setIfInBounds i true) a w → K' a w) → if Region.wanted oi (yielded ops a.tmps) = true then Oper.wp P oi a w K' Q else K' (a.put oi.dst undef) w)
    (h2 : ∀ K' : Act → World → Prop, Shut (∀ a w, (X j = false → S w) → AnyX P md ops Q S X f (listed.setIfInBounds j true) a w → K' a w) → if Region.wanted oj (yielded ops a.tmps) = true then Oper.wp P oj a w K' Q else K' (a.put oj.dst undef) w) :
    AnyX P md ops Q S X (f + 1) listed a w := by
  refine ⟨fun h0 => (by rw [hr] at h0; cases h0), fun k hk => ?_⟩
  rw [hr] at hk
  simp only [List.mem_cons, List.not_mem_nil, or_false] at hk
  rcases hk with rfl | rfl
  · exact wpOp_step hoi (fun K' hK => h K' (fun a w hS hW => hK a w ⟨hS, hW⟩))
  · exact wpOp_step hoj (fun K' hK => h2 K' (fun a w hS hW => hK a w ⟨hS, hW⟩))
theorem AnyX.done {listed : Array Bool} {a : Act} {w : World} (hr : Region.ready md ops listed = []) (h : Q .normal a w) : ∀ f, AnyX P md ops Q S X f listed a w
  | 0 => ⟨hr, h⟩
  | _ + 1 => ⟨fun _ => h, by rw [hr]; simp⟩
theorem AnyX.start {id : Nat} {a : Act} {w : World} (hm : P.follows .mixedOrders = true) (h : AnyX P .any ops Q S X ops.size (Array.replicate ops.size false) a w.drew) : (Code.region id ops true).wp P Q a w :=
  wp_region_any hm (AnyX.any _ _ _ _ h)
end
end Go.Proofs.YtccmhdheoeglmaaGreatDoor
/- Pieces of memory that a walk knows, and the state that holds them apart. Plain: no program in sight. -/
namespace Go.Proofs.YtccmhdheoeglmaaGreatDoor
open Go.RowKit
/-- a piece of memory: a row of cells that may be written; a slice that reads, that is owned; a struct's value that reads, that is owned; cells that are known; an element that reads -/
inductive Pc : Type 1
  | row (g : Nat) (t : TypeId) (o : Nat) (A cs B : List Value)
  | sl {α : Type} (E : Elem α) (v : Value) (xs : List α) (F : List Nat)
  | ow {α : Type} (E : Elem α) (t : TypeId) (v : Value) (xs : List α) (F : List Nat)
  | isv {α : Type} (E : Elem α) (v : Value) (x : α) (F : List Nat)
  | own {α : Type} (E : Elem α) (v : Value) (x : α) (F : List Nat)
  | cel (b o : Nat) (cs : List Value)
  | flat {α : Type} (E : Elem α) (cs : List Value) (xs : List α) (F : List Nat)
def Pc.P : Pc → World → Prop
  | .row g t o A cs B, w => A.length = o ∧ Row w g t (A ++ cs ++ B)
  | .sl E v xs F, w => 0 < E.sz ∧ Sl E w v xs F
  | .ow E t v xs F, w => F.Nodup ∧ Ow E t w v xs F
  | .isv E v x F, w => IsV E w v x F
  | .own E v x F, w => F.Nodup ∧ IsV E w v x F
  | .cel b o cs, w => cs ≠ [] ∧ w.rangeAt b o cs
  | .flat E cs xs F, w => F.Nodup ∧ Flat E w cs xs F
def Pc.F : Pc → List Nat
  | .row g .. => [g]
  | .sl _ _ _ F | .ow _ _ _ _ F | .isv _ _ _ F | .own _ _ _ F | .flat _ _ _ F => F
  | .cel b .. => [b]
/-- may it be written? then nothing else stands on its blocks -/
def Pc.mu : Pc → Bool
  | .row .. | .ow .. | .own .. | .flat .. => true
  | _ => false
theorem Pc.st (p : Pc) {w w' : World} (h : p.P w) (hF : ∀ b ∈ p.F, w'.heap[b]? = w.heap[b]?) : p.P w' := by
  cases p with
  | row g t o A cs B => exact ⟨h.1, h.2.keep (hF g (by simp [Pc.F]))⟩
  | sl E v xs F => exact ⟨h.1, h.2.frame hF⟩
  | ow E t v xs F => exact ⟨h.1, h.2.frame hF⟩
  | isv E v x F => obtain ⟨cs, hv, h⟩ := h; exact ⟨cs, hv, E.frame h hF⟩
  | own E v x F => obtain ⟨hn, cs, hv, h⟩ := h; exact ⟨hn, cs, hv, E.frame h hF⟩
  | cel b o cs => exact ⟨h.1, fun j v hv => (World.cell?_of_block (w := w) (hF b (by simp [Pc.F]))).trans (h.2 j v hv)⟩
  | flat E cs xs F => exact ⟨h.1, h.2.frame hF⟩
theorem Pc.lt (p : Pc) {w : World} (h : p.P w) : ∀ b ∈ p.F, b < w.heap.size := by
  cases p with
  | row g t o A cs B => intro b hb; simp [Pc.F] at hb; subst hb; exact h.2.lt
  | sl E v xs F => exact h.2.lt h.1
  | ow E t v xs F => exact h.2.lt
  | isv E v x F => obtain ⟨cs, hv, h⟩ := h; exact E.lt h
  | own E v x F => obtain ⟨_, cs, hv, h⟩ := h; exact E.lt h
  | cel b o cs =>
    intro c hc
    simp [Pc.F] at hc; subst hc
    cases cs with
    | nil => exact absurd rfl h.1
    | cons v r => exact World.block_lt_of_cell? w _ (h.2 0 v rfl)
  | flat E cs xs F => exact h.2.lt
/-- two pieces of which one may be written stand apart -/
def Apart (p q : Pc) : Prop := (p.mu || q.mu) = true → ∀ b ∈ p.F, b ∉ q.F
theorem Apart.symm {p q : Pc} (h : Apart p q) : Apart q p := fun hm b hb hp => h (by rw [Bool.or_comm]; exact hm) b hp hb
def Sep : List Pc → Prop
  | [] => True
  | p :: R => (∀ q ∈ R, Apart p q) ∧ Sep R
/-- all pieces hold -/
def Hol (H : List Pc) (w : World) : Prop := ∀ p ∈ H, p.P w
theorem hol1 {p : Pc} {w : World} (h : p.P w) : Hol [p] w := fun q hq => by simp at hq; subst hq; exact h
/-- the blocks of pieces -/
def fp : List Pc → List Nat
  | [] => []
  | p :: R => p.F ++ fp R
theorem mem_fp {b : Nat} : ∀ {H : List Pc}, b ∈ fp H ↔ ∃ p ∈ H, b ∈ p.F
  | [] => by simp [fp]
  | p :: R => by simp [fp, mem_fp (H := R)]
theorem Hol.st {H : List Pc} {w w' : World} (h : Hol H w) (hF : ∀ p ∈ H, ∀ b ∈ p.F, w'.heap[b]? = w.heap[b]?) : Hol H w' := fun p hp => p.st (h p hp) (hF p hp)
theorem Hol.below {H : List Pc} {w w' : World} (h : Hol H w) (hb : Below w.heap.size w w') : Hol H w' := h.st fun p hp b hm => hb.block b (p.lt (h p hp) b hm)
/-- the state of a walk that began in w0: the pieces of G may be written, those of D may be read -/
structure St (G D : List Nat) (w0 : World) (H : List Pc) (w : World) : Prop where
  keep : Keep G w0 w
  on : Hol H w
  sep : Sep H
  mine : ∀ p ∈ H, ∀ b ∈ p.F, b ∈ G ∨ w0.heap.size ≤ b ∨ (p.mu = false ∧ b ∈ D)
section
variable {G D : List Nat} {w0 : World}
theorem Sep.perm2 {p q : Pc} {R : List Pc} (h : Sep (p :: q :: R)) : Sep (q :: p :: R) :=
  ⟨fun x hx => by
    rcases List.mem_cons.1 hx with rfl | hx
    · exact (h.1 q (by simp)).symm
    · exact h.2.1 x hx, fun x hx => h.1 x (by simp [hx]), h.2.2⟩
/-- taking a piece out -/
inductive Pick : List Pc → Pc → List Pc → Prop
  | here {p R} : Pick (p :: R) p R
  | there {x p R R'} : Pick R p R' → Pick (x :: R) p (x :: R')
theorem Pick.mem {H p R} (h : Pick H p R) : p ∈ H := by
  induction h with
  | here => simp
  | there _ ih => simp [ih]
theorem Pick.sub {H p R} (h : Pick H p R) : ∀ q ∈ R, q ∈ H := by
  induction h with
  | here => intro q hq; simp [hq]
  | there _ ih =>
    intro q hq
    rcases List.mem_cons.1 hq with rfl | hq
    · simp
    · simp [ih q hq]
theorem Pick.sep {H p R} (h : Pick H p R) (hs : Sep H) : Sep (p :: R) := by
  induction h with
  | here => exact hs
  | @there x p R R' h ih =>
    have h2 := ih hs.2
    exact Sep.perm2 ⟨fun q hq => by
      rcases List.mem_cons.1 hq with rfl | hq
      · exact hs.1 _ h.mem
      · exact hs.1 _ (h.sub q hq), h2⟩
theorem St.pick {H p R w} (s : St G D w0 H w) (h : Pick H p R) : St G D w0 (p :: R) w :=
  ⟨s.keep, fun q hq => by
    rcases List.mem_cons.1 hq with rfl | hq
    · exact s.on _ h.mem
    · exact s.on _ (h.sub q hq), h.sep s.sep, fun q hq => by
    rcases List.mem_cons.1 hq with rfl | hq
    · exact s.mine _ h.mem
    · exact s.mine _ (h.sub q hq)⟩
theorem St.tail {p R w} (s : St G D w0 (p :: R) w) : St G D w0 R w := ⟨s.keep, fun q hq => s.on q (by simp [hq]), s.sep.2, fun q hq => s.mine q (by simp [hq])⟩
theorem St.get {H p w} (s : St G D w0 H w) (h : p ∈ H) : p.P w := s.on p h
/-- the pieces N come in the place of M; all else stands -/
theorem St.turn {M R N : List Pc} {w w' : World} (s : St G D w0 (M ++ R) w) (hk : Keep (fp (M.filter (·.mu))) w w') (hN : Hol N w') (hs : Sep N)
    (hF : ∀ p ∈ N, ∀ b ∈ p.F, w.heap.size ≤ b ∨ (∃ q ∈ M, q.mu = true ∧ b ∈ q.F) ∨ (p.mu = false ∧ ∃ q ∈ M ++ R, q.mu = false ∧ b ∈ q.F)) : St G D w0 (N ++ R) w' := by
  have hsep : ∀ (A B : List Pc), Sep (A ++ B) → Sep A ∧ Sep B ∧ ∀ p ∈ A, ∀ q ∈ B, Apart p q := by
    intro A
    induction A with
    | nil => intro B h; exact ⟨trivial, h, by simp⟩
    | cons p A ih =>
      intro B h
      obtain ⟨h1, h2, h3⟩ := ih B h.2
      exact ⟨⟨fun q hq => h.1 q (by simp [hq]), h1⟩, h2, fun x hx q hq => by
        rcases List.mem_cons.1 hx with rfl | hx
        · exact h.1 q (by simp [hq])
        · exact h3 x hx q hq⟩
  have hjoin : ∀ (A B : List Pc), Sep A → Sep B → (∀ p ∈ A, ∀ q ∈ B, Apart p q) → Sep (A ++ B) := by
    intro A
    induction A with
    | nil => intro B _ h _; exact h
    | cons p A ih =>
      intro B hA hB h
      exact ⟨fun q hq => by
        rcases List.mem_append.1 hq with hq | hq
        · exact hA.1 q hq
        · exact h p (by simp) q hq, ih B hA.2 hB fun x hx q hq => h x (by simp [hx]) q hq⟩
  obtain ⟨sM, sR, sMR⟩ := hsep M R s.sep
  have hRlt : ∀ q ∈ R, ∀ b ∈ q.F, b < w.heap.size := fun q hq => q.lt (s.on q (by simp [hq]))
  have hMR : ∀ q ∈ R, ∀ b ∈ q.F, b ∉ fp (M.filter (·.mu)) := fun q hq b hb hm => by
    obtain ⟨p, hp, hpb⟩ := mem_fp.1 hm
    obtain ⟨hp, hmu⟩ := List.mem_filter.1 hp
    exact sMR p hp q hq (by simp [hmu]) b hpb hb
  have hG : ∀ b ∈ fp (M.filter (·.mu)), b ∈ G ∨ w0.heap.size ≤ b := fun b hb => by
    obtain ⟨p, hp, hpb⟩ := mem_fp.1 hb
    obtain ⟨hp, hmu⟩ := List.mem_filter.1 hp
    rcases s.mine p (by simp [hp]) b hpb with h | h | ⟨h, _⟩
    · exact .inl h
    · exact .inr h
    · rw [hmu] at h; cases h
  refine ⟨⟨hk.os.trans s.keep.os, hk.tape.trans s.keep.tape, hk.output.trans s.keep.output, Nat.le_trans s.keep.size hk.size, fun k hlt hn => (hk.block k (Nat.lt_of_lt_of_le hlt s.keep.size) fun hm => ?_).trans (s.keep.block k hlt hn)⟩, fun p hp => ?_, hjoin N R hs sR fun p hp q hq hmu b hb hqb => ?_, fun p hp b hb => ?_⟩
  · rcases hG k hm with h | h
    · exact hn h
    · omega
  · rcases List.mem_append.1 hp with hp | hp
    · exact hN p hp
    · exact p.st (s.on p (by simp [hp])) fun b hb => hk.block b (hRlt p hp b hb) (hMR p hp b hb)
  · rcases hF p hp b hb with h | ⟨m, hm, hmm, hmb⟩ | ⟨hpm, m, hm, hmm, hmb⟩
    · have := hRlt q hq b hqb; omega
    · exact sMR m hm q hq (by simp [hmm]) b hmb hqb
    · have hqm : q.mu = true := by simpa [hpm] using hmu
      rcases List.mem_append.1 hm with hm | hm
      · exact sMR m hm q hq (by simp [hqm]) b hmb hqb
      · -- two pieces of R
        have : ∀ (R : List Pc), Sep R → ∀ m ∈ R, ∀ q ∈ R, m.mu = false → q.mu = true → ∀ b ∈ m.F, b ∉ q.F := by
          intro R
          induction R with
          | nil => intro _ m hm; simp at hm
          | cons x R ih =>
            intro hs m hm q hq h1 h2 b hb hqb
            rcases List.mem_cons.1 hm with e | hm2
            · subst e
              rcases List.mem_cons.1 hq with e | hq2
              · subst e; rw [h1] at h2; cases h2
              · exact hs.1 q hq2 (by simp [h2]) b hb hqb
            · rcases List.mem_cons.1 hq with e | hq2
              · subst e; exact hs.1 m hm2 (by simp [h2]) b hqb hb
              · exact ih hs.2 m hm2 q hq2 h1 h2 b hb hqb
        exact this R sR m hm q hq hmm hqm b hmb hqb
  · rcases List.mem_append.1 hp with hp | hp
    · rcases hF p hp b hb with h | ⟨m, hm, hmm, hmb⟩ | ⟨hpm, m, hm, hmm, hmb⟩
      · right; left; exact Nat.le_trans s.keep.size h
      · rcases s.mine m (by simp [hm]) b hmb with h | h | ⟨h, _⟩
        · exact .inl h
        · exact .inr (.inl h)
        · rw [hmm] at h; cases h
      · rcases s.mine m hm b hmb with h | h | ⟨_, h⟩
        · exact .inl h
        · exact .inr (.inl h)
        · exact .inr (.inr ⟨hpm, h⟩)
    · exact s.mine p (by simp [hp]) b hb
end
end Go.Proofs.YtccmhdheoeglmaaGreatDoor
/- A walk's frame as a list of what is known of the slots; the rules of control. Plain: no program in sight. -/
namespace Go.Proofs.YtccmhdheoeglmaaGreatDoor
open Go.RowKit
abbrev Fr := List (Nat × Value)
def look : Fr → Nat → Option Value
  | [], _ => none
  | (k, v) :: r, t => bif Nat.beq k t then some v else look r t
def ev (fr : Fr) : Operand → Option Value
  | .tmp t => look fr t
  | .const v => some v
  | .global g => some (.pointer (some ⟨g, 0, none⟩))
  | .func f => some (.func (.func f) #[] #[])
/-- the operands' values -/
inductive Evs (fr : Fr) : List Operand → List Value → Prop
  | nil : Evs fr [] []
  | cons {x v xs vs} : ev fr x = some v → Evs fr xs vs → Evs fr (x :: xs) (v :: vs)
structure Ag (n : Nat) (fr : Fr) (a : Act) : Prop where
  df : a.defers = []
  sz : a.tmps.size = n
  at_ : ∀ t v, look fr t = some v → a.tmps[t]? = some v
theorem Ag.ev {n fr a x v} (h : Ag n fr a) (hx : ev fr x = some v) : a.eval x = v := by
  cases x with
  | tmp t => have := h.at_ t v hx; simp [Act.eval, Array.getD_eq_getD_getElem?, this]
  | const u => simp [Go.Proofs.YtccmhdheoeglmaaGreatDoor.ev] at hx; subst hx; rfl
  | global g => simp [Go.Proofs.YtccmhdheoeglmaaGreatDoor.ev] at hx; subst hx; rfl
  | func f => simp [Go.Proofs.YtccmhdheoeglmaaGreatDoor.ev] at hx; subst hx; rfl
theorem Ag.evs {n fr a xs vs} (h : Ag n fr a) (hx : Evs fr xs vs) : xs.map a.eval = vs := by
  induction hx with
  | nil => rfl
  | cons hx _ ih => simp [h.ev hx, ih]
theorem look_cons (k : Nat) (v : Value) (r : Fr) (t : Nat) : look ((k, v) :: r) t = if k = t then some v else look r t := by
  show (bif Nat.beq k t then some v else look r t) = _
  by_cases h : k = t
  · subst h; simp
  · have : Nat.beq k t = false := by
      cases hb : Nat.beq k t
      · rfl
      · exact absurd (Nat.eq_of_beq_eq_true hb) h
    rw [this, if_neg h]; rfl
theorem Ag.put {n fr a d v} (h : Ag n fr a) (hd : Nat.blt d n = true) : Ag n ((d, v) :: fr) (a.put (some d) v) := by
  have hd' : d < n := by simpa using hd
  refine ⟨h.df, by simp [Act.put, h.sz], fun t u hu => ?_⟩
  rw [look_cons] at hu
  show (a.tmps.setIfInBounds d v)[t]? = _
  rw [Array.getElem?_setIfInBounds]
  split at hu
  · rename_i e; subst e; simp at hu; subst hu; rw [if_pos rfl, if_pos (by rw [h.sz]; exact hd')]
  · rename_i e; rw [if_neg e]; exact h.at_ t u hu
/-- what is known less of the slots -/
inductive FrSub (fr : Fr) : Fr → Prop
  | nil : FrSub fr []
  | cons {t v r} : look fr t = some v → FrSub fr r → FrSub fr ((t, v) :: r)
theorem FrSub.look {fr fr' : Fr} (h : FrSub fr fr') : ∀ t v, look fr' t = some v → look fr t = some v := by
  induction h with
  | nil => intro t v hv; cases hv
  | cons h1 _ ih =>
    intro t v hv
    rw [look_cons] at hv
    split at hv
    · rename_i e; subst e; rw [← hv]; exact h1
    · exact ih t v hv
theorem Ag.sub {n fr fr' a} (h : Ag n fr a) (hs : FrSub fr fr') : Ag n fr' a := ⟨h.df, h.sz, fun t v hv => h.at_ t v (hs.look t v hv)⟩
/-- what stays the same for a whole walk -/
structure Cx where
  P : Program
  G : List Nat
  D : List Nat
  w0 : World
  n : Nat
  R : Exit → Act → World → Prop
/-- what comes behind -/
inductive It
  | cd (c : Code)
  | blk (id : Nat)
  | lp (I : Act → World → Prop)
def run (c : Cx) : List It → Exit → Act → World → Prop
  | [] => c.R
  | .cd y :: k => Exit.then (fun a w => y.wp c.P (run c k) a w) (run c k)
  | .blk id :: k => Exit.inBlock id (run c k)
  | .lp I :: k => Exit.then I (run c k)
/-- where a walk stands: at a piece of code, at a region's operations, behind a normal end, at an exit, at the end; at a region whose order is drawn, with these operations done -/
inductive Gl
  | code (k : List It) (x : Code)
  | list (k : List It) (ops : Array Oper) (l : List Oper)
  | norm (k : List It)
  | exit (k : List It) (id : Nat)
  | fin (e : Exit)
  | dx (k : List It) (H0 : List Pc) (X : List Nat) (ops : Array Oper) (f : Nat) (listed : Array Bool)
  | dk (i : Nat) (k : List It) (H0 : List Pc) (X : List Nat) (ops : Array Oper) (f : Nat) (listed : Array Bool)
def Gl.sem (c : Cx) : Gl → Act → World → Prop
  | .code k x, a, w => x.wp c.P (run c k) a w
  | .list k ops l, a, w => wpList c.P ops (run c k) l a w
  | .norm k, a, w => run c k .normal a w
  | .exit k id, a, w => run c k (.exit id) a w
  | .fin e, a, w => c.R e a w
  | .dx k H0 X ops f listed, a, w => AnyX c.P .any ops (run c k) (Hol H0) (fun i => X.contains i) f listed a w
  | .dk i k H0 X ops f listed, a, w => (X.contains i = false → Hol H0 w) ∧ AnyX c.P .any ops (run c k) (Hol H0) (fun i => X.contains i) f listed a w
/-- in every world of that state, with every frame that is so known -/
structure T (c : Cx) (fr : Fr) (H : List Pc) (Φ : Gl) : Prop where
  h : ∀ a w, St c.G c.D c.w0 H w → Ag c.n fr a → Φ.sem c a w
theorem run_ret (c : Cx) : ∀ (k : List It), run c k .ret = c.R .ret
  | [] => rfl
  | .cd _ :: k => run_ret c k
  | .blk _ :: k => run_ret c k
  | .lp _ :: k => run_ret c k
theorem run_panic (c : Cx) (ch : List PanicEntry) : ∀ (k : List It), run c k (.panic ch) = c.R (.panic ch)
  | [] => rfl
  | .cd _ :: k => run_panic c ch k
  | .blk _ :: k => run_panic c ch k
  | .lp _ :: k => run_panic c ch k
/-- pieces in another order, or fewer -/
inductive HSub : List Pc → List Pc → Prop
  | nil {A} : HSub A []
  | cons {A p R B} : Pick A p R → HSub R B → HSub A (p :: B)
section
variable {c : Cx} {fr : Fr} {H : List Pc} {k : List It} {Φ : Gl}
theorem HSub.st {G D w0 w} {H H' : List Pc} (h : HSub H H') : ∀ {X : List Pc}, St G D w0 H w → Sep X → (∀ p ∈ X, ∀ q ∈ H, Apart p q) → (∀ p ∈ X, p.P w ∧ ∀ b ∈ p.F, b ∈ G ∨ w0.heap.size ≤ b ∨ (p.mu = false ∧ b ∈ D)) →
    (∀ q ∈ H', q ∈ H) ∧ Sep H' := by
  induction h with
  | nil => intro X _ _ _ _; exact ⟨by simp, trivial⟩
  | @cons A p R B hp hs ih =>
    intro X s hX hXa hXp
    have s1 := s.pick hp
    have ⟨h1, h2⟩ := ih (X := []) s1.tail trivial (by simp) (by simp)
    exact ⟨fun q hq => by
      rcases List.mem_cons.1 hq with rfl | hq
      · exact hp.mem
      · exact hp.sub q (h1 q hq), fun q hq => s1.sep.1 q (h1 q hq), h2⟩
theorem St.sub {G D w0 w} {H H' : List Pc} (s : St G D w0 H w) (h : HSub H H') : St G D w0 H' w :=
  have ⟨h1, h2⟩ := h.st (X := []) s trivial (by simp) (by simp)
  ⟨s.keep, fun p hp => s.on p (h1 p hp), h2, fun p hp => s.mine p (h1 p hp)⟩
/-! the rules of control -/
theorem c_seq {x y : Code} (h : T c fr H (.code (.cd y :: k) x)) : T c fr H (.code k (Code.seq x y)) := .mk fun a w s g => wp_seq (h.h a w s g)
theorem c_skip (h : T c fr H (.norm k)) : T c fr H (.code k Code.skip) := .mk fun a w s g => wp_skip (h.h a w s g)
theorem c_ret (h : T c fr H (.fin .ret)) : T c fr H (.code k Code.ret) := .mk fun a w s g => wp_ret (by rw [run_ret]; exact h.h a w s g)
theorem c_exit {id : Nat} (h : T c fr H (.exit k id)) : T c fr H (.code k (Code.exit id)) := .mk fun a w s g => wp_exit (h.h a w s g)
theorem c_block {id : Nat} {x : Code} (h : T c fr H (.code (.blk id :: k) x)) : T c fr H (.code k (Code.block id x)) := .mk fun a w s g => wp_block (h.h a w s g)
theorem c_reg {id : Nat} {l : List Oper} (h : T c fr H (.list k l.toArray l)) : T c fr H (.code k (Code.region id l.toArray false)) := .mk fun a w s g => wp_region_lit (h.h a w s g)
theorem c_t {x : Operand} {y z : Code} (hc : ev fr x = some (.bool true)) (h : T c fr H (.code k y)) : T c fr H (.code k (Code.cond x y z)) := .mk fun a w s g => wp_cond_true (g.ev hc) (h.h a w s g)
theorem c_f {x : Operand} {y z : Code} (hc : ev fr x = some (.bool false)) (h : T c fr H (.code k z)) : T c fr H (.code k (Code.cond x y z)) := .mk fun a w s g => wp_cond_false (g.ev hc) (h.h a w s g)
/-- a test that parts the ways -/
theorem c_if {x : Operand} {y z : Code} {p : Prop} {_ : Decidable p} (hc : ev fr x = some (.bool (decide p))) (h1 : p → T c fr H (.code k y)) (h2 : ¬ p → T c fr H (.code k z)) :
    T c fr H (.code k (Code.cond x y z)) := .mk fun a w s g => by
  by_cases hp : p
  · exact wp_cond_true (by rw [g.ev hc, decide_eq_true hp]) ((h1 hp).h a w s g)
  · exact wp_cond_false (by rw [g.ev hc, decide_eq_false hp]) ((h2 hp).h a w s g)
theorem n_cd {y : Code} (h : T c fr H (.code k y)) : T c fr H (.norm (.cd y :: k)) := ⟨h.h⟩
theorem n_blk {id : Nat} (h : T c fr H (.norm k)) : T c fr H (.norm (.blk id :: k)) := ⟨h.h⟩
theorem e_cd {y : Code} {id : Nat} (h : T c fr H (.exit k id)) : T c fr H (.exit (.cd y :: k) id) := ⟨h.h⟩
theorem e_lp {I : Act → World → Prop} {id : Nat} (h : T c fr H (.exit k id)) : T c fr H (.exit (.lp I :: k) id) := ⟨h.h⟩
theorem e_hit {id : Nat} (h : T c fr H (.norm k)) : T c fr H (.exit (.blk id :: k) id) := .mk fun a w s g => by
  show (if id = id then run c k .normal a w else run c k (.exit id) a w)
  rw [if_pos rfl]; exact h.h a w s g
theorem e_miss {id id' : Nat} (hne : Nat.beq id' id = false) (h : T c fr H (.exit k id')) : T c fr H (.exit (.blk id :: k) id') := .mk fun a w s g => by
  show (if id' = id then run c k .normal a w else run c k (.exit id') a w)
  rw [if_neg (fun e => by rw [e] at hne; simp at hne)]; exact h.h a w s g
theorem w_nil {ops : Array Oper} (h : T c fr H (.norm k)) : T c fr H (.list k ops []) := ⟨h.h⟩
/-! loops -/
theorem least_ex {p : Nat → Prop} : ∀ n, p n → ∃ m, p m ∧ ∀ j, p j → m ≤ j := fun n => by
  induction n using Nat.strongRecOn with
  | _ n ih =>
    intro hn
    by_cases h : ∃ j, j < n ∧ p j
    · obtain ⟨j, hj, hp⟩ := h; exact ih j hj hp
    · exact ⟨n, hn, fun j hj => Nat.le_of_not_lt fun hl => h ⟨j, hl, hj⟩⟩
theorem wp_loop_m {P : Program} {Q : Exit → Act → World → Prop} {x : Code} {a : Act} {w : World} (I : Nat → Act → World → Prop) (m : Nat) (h0 : I m a w)
    (round : ∀ m a w, I m a w → x.wp P (Exit.then (fun a' w' => ∃ m', m' < m ∧ I m' a' w') Q) a w) : (Code.loop x).wp P Q a w := by
  classical
  refine wp_loop (fun a w => ∃ m, I m a w) (fun a w => if h : ∃ m, I m a w then Classical.choose (least_ex (p := fun m => I m a w) h.choose h.choose_spec) else 0) ⟨m, h0⟩ fun a w hI => ?_
  have hl := Classical.choose_spec (least_ex (p := fun m => I m a w) hI.choose hI.choose_spec)
  refine wp_mono (round _ a w hl.1) fun e a' w' he => ?_
  cases e with
  | normal =>
    obtain ⟨m', hm, hi⟩ := he
    have hex : ∃ m, I m a' w' := ⟨m', hi⟩
    refine ⟨hex, ?_⟩
    simp only [dif_pos hI, dif_pos hex]
    exact Nat.lt_of_le_of_lt ((Classical.choose_spec (least_ex (p := fun m => I m a' w') hex.choose hex.choose_spec)).2 m' hi) hm
  | _ => exact he
/-- the state at a loop's head: what is known of the slots and of memory, aS a function of s -/
def LpI {σ : Type} (c : Cx) (fr' : σ → Fr) (H' : σ → List Pc) (C : σ → Prop) (μ : σ → Nat) (m : Nat) (a : Act) (w : World) : Prop := ∃ s, C s ∧ μ s = m ∧ St c.G c.D c.w0 (H' s) w ∧ Ag c.n (fr' s) a
def LpN {σ : Type} (c : Cx) (fr' : σ → Fr) (H' : σ → List Pc) (C : σ → Prop) (μ : σ → Nat) (m : Nat) (a : Act) (w : World) : Prop := ∃ m', m' < m ∧ LpI c fr' H' C μ m' a w
theorem c_loop {x : Code} {σ : Type} (fr' : σ → Fr) (H' : σ → List Pc) (C : σ → Prop) (μ : σ → Nat) (s0 : σ) (h0 : C s0)
    (round : ∀ s, C s → T c (fr' s) (H' s) (.code (.lp (LpN c fr' H' C μ (μ s)) :: k) x)) (hf : FrSub fr (fr' s0) := by repeat (first | exact FrSub.nil | refine FrSub.cons (by rfl) ?_)) (hH : HSub H (H' s0) := by repeat (first | exact HSub.nil | refine HSub.cons (by (repeat (first | exact .here | apply Pick.there)); first | done | fail) ?_)) : T c fr H (.code k (Code.loop x)) := .mk fun a w st g => by
  refine wp_loop_m (LpI c fr' H' C μ) (μ s0) ⟨s0, h0, rfl, st.sub hH, g.sub hf⟩ fun m a w hI => ?_
  obtain ⟨s, hC, rfl, hst, hg⟩ := hI
  exact (round s hC).h a w hst hg
/-- a round's end -/
theorem n_lp {σ : Type} {fr' : σ → Fr} {H' : σ → List Pc} {C : σ → Prop} {μ : σ → Nat} {m : Nat} (s : σ) (hC : C s) (hm : μ s < m) (hf : FrSub fr (fr' s) := by repeat (first | exact FrSub.nil | refine FrSub.cons (by rfl) ?_)) (hH : HSub H (H' s) := by repeat (first | exact HSub.nil | refine HSub.cons (by (repeat (first | exact .here | apply Pick.there)); first | done | fail) ?_)) :
    T c fr H (.norm (.lp (LpN c fr' H' C μ m) :: k)) := .mk fun _ _ st g => ⟨μ s, hm, s, hC, rfl, st.sub hH, g.sub hf⟩
end
end Go.Proofs.YtccmhdheoeglmaaGreatDoor
/- Operations that only compute or read: what they yield. Plain: no program in sight. -/
namespace Go.Proofs.YtccmhdheoeglmaaGreatDoor
open Go.RowKit
/-- a type whose variables take one cell -/
class OneC (P : Program) (t : TypeId) : Prop where
  d : ∃ d, P.underlying t = some d ∧ d.isRow = false
  s : (P.info? t).map (·.size) = some 1
/-- a struct's type, its number of cells -/
class AggC (P : Program) (t : TypeId) (n : outParam Nat) : Prop where
  d : ∃ d, P.underlying t = some d ∧ d.isRow = true
  s : (P.info? t).map (·.size) = some n
/-- field i of a struct's type: where its cells begin, its type, their number -/
class FldC (P : Program) (t : TypeId) (i : Nat) (off : outParam Nat) (ft : outParam TypeId) (n : outParam Nat) : Prop where
  f : ∃ fs f, P.underlying t = some (.struct fs) ∧ fs[i]? = some f ∧ f.offset = off ∧ f.type = ft
  s : (P.info? ft).map (·.size) = some n
  p : n ≠ 0
/-- a slice's type: its elements' type, their number of cells -/
class SlC (P : Program) (t : TypeId) (e : outParam TypeId) (n : outParam Nat) : Prop where
  u : P.underlying t = some (.slice e)
  s : (P.info? e).map (·.size) = some n
class IntC (P : Program) (t : TypeId) (k : outParam IntKind) : Prop where
  u : P.underlying t = some (.int k)
class StrC (P : Program) (t : TypeId) : Prop where
  u : P.underlying t = some .string
class BoolC (P : Program) (t : TypeId) : Prop where
  u : P.underlying t = some .bool
/-- a pointer into a block -/
def ptr (g o j : Nat) : Value := .pointer (some ⟨g, o + j, none⟩)
/-- what an operation yields where only this is known -/
structure Yd (P : Program) (n : Nat) (fr : Fr) (H : List Pc) (o : Op) (ty : TypeId) (v : Value) : Prop where
  h : ∀ (a : Act) (w : World) (d : Option Tmp) (pos : String) (aft : Array Edge) (g : Option (Nat × Bool)), Ag n fr a → Hol H w → (execOp a.eval ⟨d, o, ty, pos, aft, g⟩).run P w = .ok (.value v) w
theorem list_eq_iff (a b : ByteArray) : (a.toList == b.toList) = decide (a = b) := by
  rw [Bool.eq_iff_iff]
  simp only [beq_iff_eq, decide_eq_true_eq, ByteArray.toList_eq]
  exact ⟨fun h => ByteArray.ext (Array.ext' h), fun h => by rw [h]⟩
section
variable {P : Program} {n : Nat} {fr : Fr} {H : List Pc} {ty : TypeId} {v u : Value} {x y z : Operand}
theorem size_of {t : TypeId} {n : Nat} (h : (P.info? t).map (·.size) = some n) (w : World) : (sizeOf t).run P w = .ok n w := by
  obtain ⟨i, hi, hn⟩ := Option.map_eq_some_iff.1 h
  simp [sizeOf, typeInfo, hi, hn]
theorem isAgg_no {t : TypeId} (h : ∃ d, P.underlying t = some d ∧ d.isRow = false) (w : World) : (isAgg t).run P w = .ok false w := by
  obtain ⟨d, hu, hd⟩ := h
  unfold isAgg
  rw [Sem.run_bind, run_underlying hu w]
  cases d <;> simp_all
theorem isAgg_yes {t : TypeId} (h : ∃ d, P.underlying t = some d ∧ d.isRow = true) (w : World) : (isAgg t).run P w = .ok true w := by
  obtain ⟨d, hu, hd⟩ := h
  unfold isAgg
  rw [Sem.run_bind, run_underlying hu w]
  cases d <;> simp_all
theorem yd_move (hx : ev fr x = some v) : Yd P n fr H (.move x) ty v := .mk fun a w d pos aft g hA _ => by
  simp [execOp, hA.ev hx]
theorem yd_assign (hx : ev fr x = some v) : Yd P n fr H (.assign x) ty v := .mk fun a w d pos aft g hA _ => by
  simp [execOp, hA.ev hx]
theorem yd_pick_t (hc : ev fr x = some (.bool true)) (hy : ev fr y = some v) : Yd P n fr H (.pick x y z) ty v := .mk fun a w d pos aft g hA _ => by
  simp [execOp, hA.ev hc, hA.ev hy, asBool]
theorem yd_pick_f (hc : ev fr x = some (.bool false)) (hz : ev fr z = some v) : Yd P n fr H (.pick x y z) ty v := .mk fun a w d pos aft g hA _ => by
  simp [execOp, hA.ev hc, hA.ev hz, asBool]
theorem row_cell {w : World} {g t o j : Nat} {A cs B : List Value} (h : (Pc.row g t o A cs B).P w) (hv : cs[j]? = some v) : w.cell? ⟨g, o + j, none⟩ = some v := by
  obtain ⟨rfl, h⟩ := h
  rw [h.cellMid rfl (List.getElem?_eq_some_iff.1 hv).1]; exact hv
theorem row_range {w : World} {g t o : Nat} {A cs B : List Value} (h : (Pc.row g t o A cs B).P w) : w.rangeAt g o cs := fun _ _ hv => row_cell h hv
theorem row_there {w : World} {g t o : Nat} {A cs B : List Value} (h : (Pc.row g t o A cs B).P w) : w.there g o cs.length := fun j hj =>
  ⟨by rw [row_cell h (List.getElem?_eq_getElem hj)]; rfl, h.2.frozen _⟩
theorem load_one {t : TypeId} [hT : OneC P t] {w : World} {a : Addr} (h : w.cell? a = some v) : (Instr.loadAt t (.pointer (some a))).run P w = .ok v w := by
  simp [Instr.loadAt, Instr.sureAddr, loadVar, isAgg_no hT.d, h]
theorem yd_ld {t g o j tt : Nat} {A cs B : List Value} [OneC P t] (hx : ev fr x = some (ptr g o j)) (hm : Pc.row g tt o A cs B ∈ H) (hv : cs[j]? = some v) : Yd P n fr H (.load t x) ty v := .mk fun a w d pos aft gd hA hH => by
  simp [execOp, hA.ev hx, ptr, load_one (row_cell (hH _ hm) hv)]
theorem yd_ldc {t b o j : Nat} {cs : List Value} [OneC P t] (hx : ev fr x = some (ptr b o j)) (hm : Pc.cel b o cs ∈ H) (hv : cs[j]? = some v) : Yd P n fr H (.load t x) ty v := .mk fun a w d pos aft gd hA hH => by
  simp [execOp, hA.ev hx, ptr, load_one ((hH _ hm).2 j v hv)]
/-- a stretch of a list -/
inductive Cut : List Value → Nat → Nat → List Value → Prop
  | zero {l} : Cut l 0 0 []
  | one {x l m r} : Cut l 0 m r → Cut (x :: l) 0 (m + 1) (x :: r)
  | skip {x l j m r} : Cut l j m r → Cut (x :: l) (j + 1) m r
theorem Cut.get {l j m r} (h : Cut l j m r) : r.length = m ∧ ∀ (i : Nat) u, r[i]? = some u → l[j + i]? = some u := by
  induction h with
  | zero => exact ⟨rfl, fun i u h => by simp at h⟩
  | one _ ih =>
    refine ⟨by simp [ih.1], fun i u h => ?_⟩
    cases i with
    | zero => simpa using h
    | succ i => have := ih.2 i u (by simpa using h); simpa [Nat.add_assoc] using this
  | skip _ ih =>
    refine ⟨ih.1, fun i u h => ?_⟩
    have := ih.2 i u h
    rwa [show ∀ a b : Nat, a + 1 + b = a + b + 1 by omega, List.getElem?_cons_succ]
theorem load_agg {t m : Nat} [hT : AggC P t m] {w : World} {b o j : Nat} {cs r : List Value} (h : w.rangeAt b o cs) (hc : Cut cs j m r) : (Instr.loadAt t (.pointer (some ⟨b, o + j, none⟩))).run P w = .ok (.agg r.toArray) w := by
  obtain ⟨d, hu, hd⟩ := hT.d
  exact run_loadAt_mid w b (o + j) t r d (fun i u hu => by rw [Nat.add_assoc]; exact h _ _ (hc.get.2 i u hu)) hu hd (by rw [hT.s, hc.get.1])
theorem yd_lda {t g o j tt m : Nat} {A cs B r : List Value} [AggC P t m] (hx : ev fr x = some (ptr g o j)) (hm : Pc.row g tt o A cs B ∈ H) (hc : Cut cs j m r) : Yd P n fr H (.load t x) ty (.agg r.toArray) := .mk fun a w d pos aft gd hA hH => by
  simp [execOp, hA.ev hx, ptr, load_agg (row_range (hH _ hm)) hc]
theorem yd_ldac {t b o j m : Nat} {cs r : List Value} [AggC P t m] (hx : ev fr x = some (ptr b o j)) (hm : Pc.cel b o cs ∈ H) (hc : Cut cs j m r) : Yd P n fr H (.load t x) ty (.agg r.toArray) := .mk fun a w d pos aft gd hA hH => by
  simp [execOp, hA.ev hx, ptr, load_agg (hH _ hm).2 hc]
theorem yd_fa {t i g o j off ft m : Nat} [hF : FldC P t i off ft m] (hx : ev fr x = some (ptr g o j)) : Yd P n fr H (.fieldAddr t x i) ty (ptr g o (j + off)) := .mk fun a w d pos aft gd hA _ => by
  obtain ⟨fs, f, hu, hf, rfl, rfl⟩ := hF.f
  simp [execOp, hA.ev hx, ptr, Instr.fieldAt, run_underlying hu, hf, Instr.sureAddr, fieldPlace, size_of hF.s, hF.p, Addr.add_lit, Nat.add_assoc]
theorem yd_fld {t i off ft m : Nat} {l : List Value} [hF : FldC P t i off ft m] [hT : OneC P ft] (hx : ev fr x = some (.agg l.toArray)) (hv : l[off]? = some v) : Yd P n fr H (.field t x i) ty v := .mk fun a w d pos aft gd hA _ => by
  obtain ⟨fs, f, hu, hf, rfl, rfl⟩ := hF.f
  simp [execOp, hA.ev hx, Instr.field, run_underlying hu, hf, asAgg, part, isAgg_no hT.d, hv]
theorem yd_flda {t i off ft m m' : Nat} {l r : List Value} [hF : FldC P t i off ft m] [hT : AggC P ft m'] (hx : ev fr x = some (.agg l.toArray)) (hc : Cut l off m' r) : Yd P n fr H (.field t x i) ty (.agg r.toArray) := .mk fun a w d pos aft gd hA _ => by
  obtain ⟨fs, f, hu, hf, rfl, rfl⟩ := hF.f
  have e : l.toArray.extract f.offset (f.offset + m') = r.toArray := by
    obtain ⟨h1, h2⟩ := hc.get
    apply Array.ext'
    simp only [List.extract_toArray, List.extract_eq_take_drop, Nat.add_sub_cancel_left]
    apply List.ext_getElem?
    intro i
    rw [List.getElem?_take]
    split
    · rename_i hi
      have hr : r[i]? = some (r[i]'(by omega)) := List.getElem?_eq_getElem (by omega)
      rw [List.getElem?_drop, hr]; exact h2 i _ hr
    · rw [List.getElem?_eq_none (by omega)]
  simp [execOp, hA.ev hx, Instr.field, run_underlying hu, hf, asAgg, part, isAgg_yes hT.d, size_of hT.s, ← e]
theorem yd_nil {g o j : Nat} (hx : ev fr x = some (ptr g o j)) : Yd P n fr H (.nilCheck x) ty (ptr g o j) := .mk fun a w d pos aft gd hA _ => by
  simp [execOp, hA.ev hx, ptr]
theorem yd_nilf {f : Nat} {l : Array Value} (hx : ev fr x = some (.func (.func f) #[] l)) : Yd P n fr H (.nilCheck x) ty (.func (.func f) #[] l) := .mk fun a w d pos aft gd hA _ => by
  simp [execOp, hA.ev hx]
theorem yd_ix {t e m b o len cp : Nat} {kd : IntKind} {i : Int} [hS : SlC P t e m] (hx : ev fr x = some (.slice (some ⟨b, o, none⟩) len cp)) (hy : ev fr y = some (.int kd i)) (h0 : 0 ≤ i) (h1 : i < len) :
    Yd P n fr H (.indexAddr t x y) ty (ptr b (o + i.toNat * m) 0) := .mk fun a w d pos aft gd hA _ => by
  simp [execOp, hA.ev hx, hA.ev hy, Instr.indexAt, run_underlying hS.u, asIntOf, h0, h1, size_of hS.s, Addr.add_lit, ptr]
theorem yd_ixs {t : Nat} {kd : IntKind} {i : Int} {s : ByteArray} [hS : StrC P t] (hx : ev fr x = some (.string s)) (hy : ev fr y = some (.int kd i)) (h0 : 0 ≤ i) (h1 : i.toNat < s.size) :
    Yd P n fr H (.index t x y) ty (.int .u8 (s[i.toNat]'h1).toNat) := .mk fun a w d pos aft gd hA _ => by
  simp [execOp, hA.ev hx, hA.ev hy, Instr.index, run_underlying hS.u, asIntOf, h0, h1]
theorem yd_ex {i : Nat} {l : List Value} (hx : ev fr x = some (.tuple l.toArray)) (hv : l[i]? = some v) : Yd P n fr H (.extract x i) ty v := .mk fun a w d pos aft gd hA _ => by
  simp [execOp, hA.ev hx, Instr.extract, hv]
theorem yd_not {b : Bool} {t : Nat} (hx : ev fr x = some (.bool b)) : Yd P n fr H (.unOp .not t x) ty (.bool (!b)) := .mk fun a w d pos aft gd hA _ => by
  simp [execOp, hA.ev hx, Op.unary]
theorem yd_notd {p : Prop} {_ : Decidable p} {t : Nat} (hx : ev fr x = some (.bool (decide p))) : Yd P n fr H (.unOp .not t x) ty (.bool (decide (¬ p))) := .mk fun a w d pos aft gd hA _ => by
  simp [execOp, hA.ev hx, Op.unary]
theorem yd_neg {a : Int} {t : Nat} (hx : ev fr x = some (.int .i64 a)) (h0 : -9223372036854775808 ≤ -a) (h1 : -a ≤ 9223372036854775807) : Yd P n fr H (.unOp .neg t x) ty (.int .i64 (-a)) := .mk fun a w d pos aft gd hA _ => by
  simp [execOp, hA.ev hx, Op.unary, Op.intArith, IntWalk.i64_in _ ⟨h0, h1⟩]
section
variable {a b : Int} {t t' : TypeId} (hx : ev fr x = some (.int .i64 a)) (hy : ev fr y = some (.int .i64 b))
include hx hy
theorem yd_add (h0 : -9223372036854775808 ≤ a + b) (h1 : a + b ≤ 9223372036854775807) : Yd P n fr H (.binOp .add t x y t') ty (.int .i64 (a + b)) := .mk fun a w d pos aft gd hA _ => by
  simp [execOp, hA.ev hx, hA.ev hy, eqGuard_add, binOp_add, Op.intArith, IntWalk.i64_in _ ⟨h0, h1⟩]
theorem yd_sub (h0 : -9223372036854775808 ≤ a - b) (h1 : a - b ≤ 9223372036854775807) : Yd P n fr H (.binOp .sub t x y t') ty (.int .i64 (a - b)) := .mk fun a w d pos aft gd hA _ => by
  simp [execOp, hA.ev hx, hA.ev hy, eqGuard_sub, binOp_sub, Op.intArith, IntWalk.i64_in _ ⟨h0, h1⟩]
theorem yd_mul (h0 : -9223372036854775808 ≤ a * b) (h1 : a * b ≤ 9223372036854775807) : Yd P n fr H (.binOp .mul t x y t') ty (.int .i64 (a * b)) := .mk fun a w d pos aft gd hA _ => by
  simp [execOp, hA.ev hx, hA.ev hy, eqGuard_mul, binOp_mul, Op.intArith, IntWalk.i64_in _ ⟨h0, h1⟩]
theorem yd_quo (h0 : 0 ≤ a) (h2 : a ≤ 9223372036854775807) (h1 : 0 < b) : Yd P n fr H (.binOp .quo t x y t') ty (.int .i64 (a / b)) := .mk fun c w d pos aft gd hA _ => by
  have hle : a / b ≤ a := Int.ediv_le_self _ h0
  have hge : 0 ≤ a / b := Int.ediv_nonneg h0 (by omega)
  have hb : b ≠ 0 := by omega
  simp [execOp, hA.ev hx, hA.ev hy, eqGuard_quo, binOp_quo, Op.intDiv, hb, Int.tdiv_eq_ediv_of_nonneg h0, IntWalk.i64_in _ ⟨(by omega : -9223372036854775808 ≤ a / b), (by omega : a / b ≤ 9223372036854775807)⟩]
theorem yd_rem (h0 : 0 ≤ a) (h1 : 0 < b) : Yd P n fr H (.binOp .rem t x y t') ty (.int .i64 (a % b)) := .mk fun c w d pos aft gd hA _ => by
  have hb : b ≠ 0 := by omega
  simp [execOp, hA.ev hx, hA.ev hy, eqGuard_rem, binOp_rem, Op.intDiv, hb, Int.tmod_eq_emod_of_nonneg h0]
end
section
variable {a b : Int} {k : IntKind} {t t' : TypeId} (hx : ev fr x = some (.int k a)) (hy : ev fr y = some (.int k b))
include hx hy
theorem yd_min {ts : Array TypeId} : Yd P n fr H (.call { callee := .builtin .min, args := #[x, y], argTypes := ts }) ty (.int k (min a b)) := .mk fun c w d pos aft gd hA _ => by
  have e : (if b < a then b else a) = min a b := by split <;> omega
  simp [execOp, hA.ev hx, hA.ev hy, resolve, invoke, builtin, run_min_int2, e]
theorem yd_max {ts : Array TypeId} : Yd P n fr H (.call { callee := .builtin .max, args := #[x, y], argTypes := ts }) ty (.int k (max a b)) := .mk fun c w d pos aft gd hA _ => by
  have e : (if a < b then b else a) = max a b := by split <;> omega
  simp [execOp, hA.ev hx, hA.ev hy, resolve, invoke, builtin, run_max_int2, e]
theorem yd_lt : Yd P n fr H (.binOp .lss t x y t') ty (.bool (decide (a < b))) := .mk fun a w d pos aft gd hA _ => by
  simp [execOp, hA.ev hx, hA.ev hy, eqGuard_lss, binOp_lss]
theorem yd_le : Yd P n fr H (.binOp .leq t x y t') ty (.bool (decide (a ≤ b))) := .mk fun a w d pos aft gd hA _ => by
  simp [execOp, hA.ev hx, hA.ev hy, eqGuard_leq, binOp_leq]
theorem yd_gt : Yd P n fr H (.binOp .gtr t x y t') ty (.bool (decide (b < a))) := .mk fun a w d pos aft gd hA _ => by
  simp [execOp, hA.ev hx, hA.ev hy, eqGuard_gtr, binOp_gtr]
theorem yd_ge : Yd P n fr H (.binOp .geq t x y t') ty (.bool (decide (b ≤ a))) := .mk fun a w d pos aft gd hA _ => by
  simp [execOp, hA.ev hx, hA.ev hy, eqGuard_geq, binOp_geq]
theorem yd_eq : Yd P n fr H (.binOp .eql t x y t') ty (.bool (decide (a = b))) := .mk fun a w d pos aft gd hA _ => by
  simp [execOp, hA.ev hx, hA.ev hy, eqGuard_at_int, binOp_eql]; rfl
theorem yd_ne : Yd P n fr H (.binOp .neq t x y t') ty (.bool (decide (¬ a = b))) := .mk fun a w d pos aft gd hA _ => by
  simp [execOp, hA.ev hx, hA.ev hy, eqGuard_at_int, binOp_neq, bne]; rfl
end
section
variable {a b : ByteArray} {t t' : TypeId} (hx : ev fr x = some (.string a)) (hy : ev fr y = some (.string b))
include hx hy
theorem yd_cat (h : a.size + b.size ≤ 9223372036854775807) : Yd P n fr H (.binOp .add t x y t') ty (.string (a ++ b)) := .mk fun c w d pos aft gd hA _ => by
  have : ¬ ((a.size : Int) + b.size > 9223372036854775807) := by omega
  simp [execOp, hA.ev hx, hA.ev hy, eqGuard_add, binOp, Op.stringOp, this]
theorem yd_eqs : Yd P n fr H (.binOp .eql t x y t') ty (.bool (decide (a = b))) := .mk fun c w d pos aft gd hA _ => by
  simp [execOp, hA.ev hx, hA.ev hy, eqGuard_at_string, binOp, Op.stringOp, list_eq_iff a b]
theorem yd_nes : Yd P n fr H (.binOp .neq t x y t') ty (.bool (decide (¬ a = b))) := .mk fun c w d pos aft gd hA _ => by
  simp [execOp, hA.ev hx, hA.ev hy, eqGuard_at_string, binOp, Op.stringOp, list_eq_iff a b]
end
theorem equal_bool {t : TypeId} [hB : BoolC P t] (a b : Bool) (w : World) : (Op.equal t (.bool a) (.bool b)).run P w = .ok (a == b) w := by
  unfold Op.equal
  rw [show Op.maxDepth = 9999 + 1 from rfl]
  unfold Op.equalIn
  rw [Sem.run_bind, run_underlying hB.u w]
  rfl
theorem yd_eqb {a b : Bool} {t t' : TypeId} [hB : BoolC P t] (hx : ev fr x = some (.bool a)) (hy : ev fr y = some (.bool b)) : Yd P n fr H (.binOp .eql t x y t') ty (.bool (decide (a = b))) := .mk fun c w d pos aft gd hA _ => by
  have e : binOp .eql t (.bool a) (.bool b) = (do pure (.bool (← Op.equal t (.bool a) (.bool b)))) := rfl
  simp only [execOp, hA.ev hx, hA.ev hy, eqGuard_at_bool, e, Sem.run_bind, Sem.run_pure, Result.andThen_ok, equal_bool]; cases a <;> cases b <;> rfl
theorem yd_neb {a b : Bool} {t t' : TypeId} [hB : BoolC P t] (hx : ev fr x = some (.bool a)) (hy : ev fr y = some (.bool b)) : Yd P n fr H (.binOp .neq t x y t') ty (.bool (decide (¬ a = b))) := .mk fun c w d pos aft gd hA _ => by
  have e : binOp .neq t (.bool a) (.bool b) = (do pure (.bool (!(← Op.equal t (.bool a) (.bool b))))) := rfl
  simp only [execOp, hA.ev hx, hA.ev hy, eqGuard_at_bool, e, Sem.run_bind, Sem.run_pure, Result.andThen_ok, equal_bool]; cases a <;> cases b <;> rfl
theorem yd_cv {k k' : IntKind} {a : Int} {s t : TypeId} [hS : IntC P s k'] [hD : IntC P t .i64] (hx : ev fr x = some (.int k a)) (h0 : -9223372036854775808 ≤ a) (h1 : a ≤ 9223372036854775807) : Yd P n fr H (.convert s t x) ty (.int .i64 a) := .mk fun c w d pos aft gd hA _ => by
  simp [execOp, hA.ev hx, convert, run_underlying hS.u, run_underlying hD.u, Conv.intToInt, IntWalk.i64_in _ ⟨h0, h1⟩]
theorem yd_len {a : Option Addr} {len cp t e m : Nat} [hS : SlC P t e m] (hx : ev fr x = some (.slice a len cp)) : Yd P n fr H (.call { callee := .builtin .len, args := #[x], argTypes := #[t] }) ty (.int .i64 len) := .mk fun c w d pos aft gd hA _ => by
  simp [execOp, hA.ev hx, resolve, invoke, builtin, Builtin.len_, run_underlying hS.u, goInt]
theorem yd_lens {s : ByteArray} {t : Nat} [hS : StrC P t] (hx : ev fr x = some (.string s)) : Yd P n fr H (.call { callee := .builtin .len, args := #[x], argTypes := #[t] }) ty (.int .i64 s.size) := .mk fun c w d pos aft gd hA _ => by
  simp [execOp, hA.ev hx, resolve, invoke, builtin, run_len_string (h := hS.u), goInt]
theorem yd_fn {f : Nat} {caps : List Operand} {vs : List Value} (hc : Evs fr caps vs) : Yd P n fr H (.makeFunc (.func f) #[] caps.toArray) ty (.func (.func f) #[] vs.toArray) := .mk fun c w d pos aft gd hA _ => by
  simp [execOp, Instr.makeFunc, hA.evs hc]
end
end Go.Proofs.YtccmhdheoeglmaaGreatDoor
/- Operations that act; calls; regions that draw their order; a function's beginning and end. Plain: no program in sight. -/
namespace Go.Proofs.YtccmhdheoeglmaaGreatDoor
open Go.RowKit
/-- a type's zero value, aS cells -/
class ZC (P : Program) (t : TypeId) (zs : outParam (List Value)) : Prop where
  z : ∃ v, (P.info? t).map (·.zero) = some (some v) ∧ v.cells = zs.toArray
/-- a slice's elements: zero, cells, bytes -/
class ElT (P : Program) (e : TypeId) (z : outParam Value) (n : outParam Nat) (by_ : outParam Nat) : Prop where
  i : (P.info? e).map (fun i => (i.zero, i.size, i.bytes)) = some (some z, n, by_)
  s : z.cells.size = n
/-- places of a struct's fields: where, how many cells -/
class BldC (P : Program) (t : TypeId) (pl : outParam (List (Nat × Nat))) (zs : outParam (List Value)) : Prop where
  b : ∀ parts, P.built t parts = Instr.fill (pl.toArray[·]?) zs.toArray parts
def bodyB (P : Program) (f : FuncId) : Bool := match P.funcs[f]? with
  | some fn => !(fn.name == "runtime.NumGoroutine") && !fn.body.isNone
  | none => false
theorem body_of {P : Program} {f : FuncId} (h : bodyB P f = true) : Body P f := by
  unfold bodyB at h
  split at h
  · rename_i fn hf
    simp only [Bool.and_eq_true, Bool.not_eq_true'] at h
    exact .mk' hf h.1 h.2
  · cases h
/-- one operation, whatever stands behind it -/
structure Ef (c : Cx) (fr : Fr) (H : List Pc) (o : Oper) (Φ : Gl) : Prop where
  h : ∀ Q a w, St c.G c.D c.w0 H w → Ag c.n fr a → o.wp c.P a w (Φ.sem c) Q
/-- a call of function f at these values, whatever stands behind it -/
structure Cl (c : Cx) (fr : Fr) (H : List Pc) (d : Nat) (f : FuncId) (vs : List Value) (Φ : Gl) : Prop where
  h : ∀ w, St c.G c.D c.w0 H w → ∃ R : Ending → World → Prop, Calls c.P f vs.toArray w R ∧ ∀ e w', R e w' → ∃ v, e = .returned v ∧ ∀ a, Ag c.n ((d, v) :: fr) a → Φ.sem c a w'
theorem ef_of {c : Cx} {fr : Fr} {H : List Pc} {o : Oper} {Φ : Gl} (h : ∀ Q a w, St c.G c.D c.w0 H w → Ag c.n fr a → Oper.upon c.P o a (Φ.sem c) Q ((execOp a.eval o).run c.P w)) : Ef c fr H o Φ := ⟨h⟩
inductive Rpl : List Pc → Pc → Pc → List Pc → Prop
  | here {p q R} : Rpl (p :: R) p q (q :: R)
  | there {x p q R S} : Rpl R p q S → Rpl (x :: R) p q (x :: S)
theorem Rpl.picks {H p q S} (h : Rpl H p q S) : ∃ R, Pick H p R ∧ Pick S q R := by
  induction h with
  | here => exact ⟨_, .here, .here⟩
  | there _ ih => obtain ⟨R, h1, h2⟩ := ih; exact ⟨_, .there h1, .there h2⟩
theorem Pick.unsep {H p R} (h : Pick H p R) (hs : Sep (p :: R)) : Sep H := by
  induction h with
  | here => exact hs
  | @there x p R R' h ih =>
    have h2 := Sep.perm2 hs
    have h3 := ih h2.2
    refine ⟨fun q hq => ?_, h3⟩
    have : ∀ {A : List Pc} {p B}, Pick A p B → ∀ q ∈ A, q = p ∨ q ∈ B := by
      intro A p B h
      induction h with
      | here => intro q hq; simpa using hq
      | there _ ih =>
        intro q hq
        rcases List.mem_cons.1 hq with rfl | hq
        · simp
        · rcases ih q hq with h | h <;> simp [h]
    rcases this h q hq with rfl | hq
    · exact h2.1 _ (by simp)
    · exact h2.1 _ (by simp [hq])
theorem Pick.or {A : List Pc} {p B} (h : Pick A p B) : ∀ q ∈ A, q = p ∨ q ∈ B := by
  induction h with
  | here => intro q hq; simpa using hq
  | there _ ih =>
    intro q hq
    rcases List.mem_cons.1 hq with rfl | hq
    · simp
    · rcases ih q hq with h | h <;> simp [h]
theorem St.unpick {G D w0 H p R w} (s : St G D w0 (p :: R) w) (h : Pick H p R) : St G D w0 H w :=
  ⟨s.keep, fun q hq => by rcases h.or q hq with rfl | hq; exact s.on _ (by simp); exact s.on _ (by simp [hq]), h.unsep s.sep, fun q hq => by rcases h.or q hq with rfl | hq; exact s.mine _ (by simp); exact s.mine _ (by simp [hq])⟩
/-- a piece that may be written turns in its place -/
theorem St.rpl {G D w0 H p q S} {w w' : World} (s : St G D w0 H w) (h : Rpl H p q S) (hm : p.mu = true) (hF : ∀ b ∈ q.F, b ∈ p.F ∨ w.heap.size ≤ b) (hk : Keep p.F w w') (hq : q.P w') : St G D w0 S w' := by
  obtain ⟨R, h1, h2⟩ := h.picks
  refine St.unpick (R := R) ?_ h2
  refine St.turn (M := [p]) (R := R) (N := [q]) (s.pick h1) (by simpa [List.filter, hm, fp] using hk) (by intro x hx; simp at hx; subst hx; exact hq) ⟨by simp, trivial⟩ fun x hx b hb => ?_
  simp at hx; subst hx
  rcases hF b hb with h | h
  · exact .inr (.inl ⟨p, by simp, hm, h⟩)
  · exact .inl h
theorem St.add {G D w0 H} {w w' : World} {N : List Pc} (s : St G D w0 H w) (hb : Below w.heap.size w w') (hN : Hol N w') (hs : Sep N) (hF : ∀ p ∈ N, ∀ b ∈ p.F, w.heap.size ≤ b ∨ (p.mu = false ∧ ∃ q ∈ H, q.mu = false ∧ b ∈ q.F)) : St G D w0 (N ++ H) w' :=
  St.turn (M := []) (R := H) (N := N) s (by simpa [fp] using Keep.ofBelow hb) hN hs fun p hp b hb => by
    rcases hF p hp b hb with h | h
    · exact .inl h
    · exact .inr (.inr (by simpa using h))
theorem St.below {G D w0 H} {w w' : World} (s : St G D w0 H w) (hb : Below w.heap.size w w') : St G D w0 H w' := s.add (N := []) hb (by intro p hp; simp at hp) trivial (by simp)
theorem below_alloc (w : World) (o : Obj) : Below w.heap.size w (w.alloc o) := (Below.refl _ _).alloc (Nat.le_refl _) o
theorem St.new {G D w0 H} {w : World} (s : St G D w0 H w) (t : TypeId) (cs : List Value) : St G D w0 (.row w.heap.size t 0 [] cs [] :: H) (w.alloc (.cells cs.toArray t)) :=
  s.add (N := [.row w.heap.size t 0 [] cs []]) (below_alloc _ _) (by intro p hp; simp at hp; subst hp; exact ⟨rfl, by simpa using Row.made w t cs⟩) ⟨by simp, trivial⟩ (by intro p hp b hb; simp at hp; subst hp; simp [Pc.F] at hb; subst hb; exact .inl (Nat.le_refl _))
/-- l goes in the place of the cells from j on -/
inductive Put : List Value → Nat → List Value → List Value → Prop
  | zero {cs} : Put cs 0 [] cs
  | one {x cs u l r} : Put cs 0 l r → Put (x :: cs) 0 (u :: l) (u :: r)
  | skip {x cs j l r} : Put cs j l r → Put (x :: cs) (j + 1) l (x :: r)
theorem Put.parts {cs j l r} (h : Put cs j l r) : ∃ A o B, cs = A ++ o ++ B ∧ r = A ++ l ++ B ∧ A.length = j ∧ o.length = l.length := by
  induction h with
  | @zero cs => exact ⟨[], [], cs, by simp, by simp, rfl, rfl⟩
  | @one x cs u l r _ ih =>
    obtain ⟨A, o, B, rfl, rfl, hA, ho⟩ := ih
    have : A = [] := List.eq_nil_of_length_eq_zero hA
    subst this
    exact ⟨[], x :: o, B, by simp, by simp, rfl, by simp [ho]⟩
  | @skip x cs j l r _ ih =>
    obtain ⟨A, o, B, rfl, rfl, hA, ho⟩ := ih
    exact ⟨x :: A, o, B, by simp, by simp, by simp [hA], ho⟩
theorem storeAt_cells {P : Program} {t : TypeId} {n : Nat} (hs : (P.info? t).map (·.size) = some n) {w : World} {b o : Nat} {v : Value} {l : List Value} (hv : v.cells = l.toArray) (hl : l.length = n) (ht : w.there b o n) (h1 : l.all (·.oneCell') = true) :
    (Instr.storeAt t (.pointer (some ⟨b, o, none⟩)) v).run P w = .ok () (w.setCells b o l) := by
  subst hl
  have := run_storeCells_cells (P := P) b o l 0 w (fun j hj => by simpa using (ht j hj).1) (fun j hj => by simpa using (ht j hj).2) (fun v hv => List.all_eq_true.1 h1 v hv)
  simp only [Nat.add_zero] at this
  simp [Instr.storeAt, Instr.sureAddr, storeVar, size_of hs, hv, this]
theorem row_set {w : World} {g t o j : Nat} {A cs B l r : List Value} (h : (Pc.row g t o A cs B).P w) (hp : Put cs j l r) : (Pc.row g t o A r B).P (w.setCells g (o + j) l) ∧ Keep [g] w (w.setCells g (o + j) l) := by
  obtain ⟨rfl, h⟩ := h
  obtain ⟨X, y, Y, rfl, rfl, rfl, hy⟩ := hp.parts
  have h2 : Row w g t ((A ++ X) ++ y ++ (Y ++ B)) := by simpa using h
  have h3 := Row.put l y h2 (p := A.length + X.length) (by simp) hy.symm
  have hk := putCells_keep (g := g) l w (A.length + X.length)
  rw [putCells_eq w g l w] at h3 hk
  exact ⟨⟨rfl, by simpa using h3⟩, hk⟩
/-- what a function does, said of pieces: with those of A to read and those of M to write it returns v s, and the pieces N s hold -/
def Fn (P : Program) (f : FuncId) (args : List Value) (A M : List Pc) {σ : Type} (C : σ → Prop) (v : σ → Value) (N : σ → List Pc) : Prop :=
  ∀ w, Hol (M ++ A) w → Sep (M ++ A) → Calls P f args.toArray w fun e w' => ∃ s, C s ∧ e = .returned (v s) ∧ Hol (N s) w' ∧ Sep (N s) ∧ Keep (fp M) w w' ∧
    ∀ p ∈ N s, ∀ b ∈ p.F, w.heap.size ≤ b ∨ (∃ q ∈ M, b ∈ q.F) ∨ (p.mu = false ∧ ∃ q ∈ A, b ∈ q.F)
inductive Picks : List Pc → List Pc → List Pc → Prop
  | nil {H} : Picks H [] H
  | cons {H p R M S} : Pick H p R → Picks R M S → Picks H (p :: M) S
theorem Picks.st {G D w0 H M R w} (h : Picks H M R) : ∀ {X : List Pc}, St G D w0 (X ++ H) w → St G D w0 (X ++ (M ++ R)) w := by
  induction h with
  | nil => intro X s; simpa using s
  | @cons H p R M S hp _ ih =>
    intro X s
    have h1 : ∀ (X : List Pc), Pick (X ++ H) p (X ++ R) := by
      intro X; induction X with
      | nil => exact hp
      | cons x X ih => exact .there ih
    have h2 : ∀ (X : List Pc), Pick (X ++ (p :: (M ++ S))) p (X ++ (M ++ S)) := by
      intro X; induction X with
      | nil => exact .here
      | cons x X ih => exact .there ih
    have s1 := s.pick (h1 X)
    have s2 := ih (X := p :: X) (by simpa using s1)
    exact St.unpick (by simpa using s2) (h2 X)
inductive Mems : List Pc → List Pc → Prop
  | nil {H} : Mems [] H
  | cons {p A H} : p ∈ H → Mems A H → Mems (p :: A) H
theorem Mems.all {A H} (h : Mems A H) : ∀ p ∈ A, p ∈ H := by
  induction h with
  | nil => simp
  | cons h _ ih => intro q hq; rcases List.mem_cons.1 hq with rfl | hq; exact h; exact ih q hq
section
variable {c : Cx} {fr : Fr} {H : List Pc} {k : List It} {Φ : Gl} {ops : Array Oper} {rest : List Oper} {d : Nat} {o : Op} {ty : TypeId} {pos : String} {aft : Array Edge} {v u : Value} {x y : Operand}
theorem w_ef {o : Oper} (h : Ef c fr H o (.list k ops rest)) (hg : o.guard = none := by rfl) : T c fr H (.list k ops (o :: rest)) := .mk fun a w s g =>
  wpList_plain hg fun K hK => Oper.wp_mono hK (h.h _ a w s g)
theorem ef_yd {gd : Option (Nat × Bool)} (hy : Yd c.P c.n fr H o ty v) (hd : Nat.blt d c.n = true) (h : T c ((d, v) :: fr) H Φ) : Ef c fr H ⟨some d, o, ty, pos, aft, gd⟩ Φ := ef_of fun Q a w s g => by
  rw [hy.h a w (some d) pos aft gd g s.on]
  exact h.h _ _ s (g.put hd)
/-- one operation, wherever it stands -/
structure On (c : Cx) (fr : Fr) (H : List Pc) (od : Option Tmp) (o : Op) (ty : TypeId) (Φ : Gl) : Prop where
  h : ∀ pos aft gd, Ef c fr H ⟨od, o, ty, pos, aft, gd⟩ Φ
theorem wO {od : Option Tmp} (h : On c fr H od o ty (.list k ops rest)) : T c fr H (.list k ops (⟨od, o, ty, pos, aft, none⟩ :: rest)) := w_ef (h.h pos aft none)
theorem oc (hd : Nat.blt d c.n = true) (hy : Yd c.P c.n fr H o ty v) (h : T c ((d, v) :: fr) H Φ) : On c fr H (some d) o ty Φ := ⟨fun _ _ _ => ef_yd hy hd h⟩
/-! guards of a plain region -/
theorem wanted_eq {a : Act} {j t : Nat} {b b' : Bool} {od : Option Tmp} (ht : (ops[j]?).bind (·.dst) = some t) (hl : look fr t = some (.bool b')) (g : Ag c.n fr a) : Region.wanted ⟨od, o, ty, pos, aft, some (j, b)⟩ (yielded ops a.tmps) = (b' == b) := by
  simp only [Region.wanted, yielded, ht, Option.bind_some, g.at_ t _ hl]
  cases b <;> cases b' <;> rfl
theorem wg_t {j t : Nat} {b : Bool} {od : Option Tmp} (ht : (ops[j]?).bind (·.dst) = some t) (hl : look fr t = some (.bool b)) (h : T c fr H (.list k ops (⟨od, o, ty, pos, aft, none⟩ :: rest))) :
    T c fr H (.list k ops (⟨od, o, ty, pos, aft, some (j, b)⟩ :: rest)) := .mk fun a w s g => by
  have h1 := h.h a w s g
  simp only [Gl.sem] at h1 ⊢
  unfold wpList at h1 ⊢
  rw [wanted_eq (c := c) ht hl g]
  simp only [Region.wanted, if_true, beq_self_eq_true] at h1 ⊢
  exact h1
theorem wg_f {j t : Nat} {b b' : Bool} (ht : (ops[j]?).bind (·.dst) = some t) (hl : look fr t = some (.bool b')) (hb : (b' == b) = false) (hd : Nat.blt d c.n = true) (h : T c ((d, undef) :: fr) H (.list k ops rest)) :
    T c fr H (.list k ops (⟨some d, o, ty, pos, aft, some (j, b)⟩ :: rest)) := .mk fun a w s g => by
  simp only [Gl.sem]
  unfold wpList
  rw [wanted_eq (c := c) ht hl g, hb]
  simp only [Bool.false_eq_true, if_false]
  exact h.h _ _ s (g.put hd)
/-- a guard on an operation that was not carried out -/
theorem wg_u {j t : Nat} {b : Bool} (ht : (ops[j]?).bind (·.dst) = some t) (hl : look fr t = some undef) (hd : Nat.blt d c.n = true) (h : T c ((d, undef) :: fr) H (.list k ops rest)) :
    T c fr H (.list k ops (⟨some d, o, ty, pos, aft, some (j, b)⟩ :: rest)) := .mk fun a w s g => by
  have hw : Region.wanted ⟨some d, o, ty, pos, aft, some (j, b)⟩ (yielded ops a.tmps) = false := by
    simp only [Region.wanted, yielded, ht, Option.bind_some, g.at_ t _ hl]; rfl
  simp only [Gl.sem]
  unfold wpList
  rw [hw]
  simp only [Bool.false_eq_true, if_false]
  exact h.h _ _ s (g.put hd)
/-- a guard that parts the ways -/
theorem wg_if {j t : Nat} {b : Bool} {od : Option Tmp} {p : Prop} {_ : Decidable p} (ht : (ops[j]?).bind (·.dst) = some t) (hl : look fr t = some (.bool (decide p))) (h1 : p → T c ((t, .bool true) :: fr) H (.list k ops (⟨od, o, ty, pos, aft, some (j, b)⟩ :: rest))) (h2 : ¬ p → T c ((t, .bool false) :: fr) H (.list k ops (⟨od, o, ty, pos, aft, some (j, b)⟩ :: rest))) :
    T c fr H (.list k ops (⟨od, o, ty, pos, aft, some (j, b)⟩ :: rest)) := .mk fun a w s g => by
  by_cases hp : p
  · rw [decide_eq_true hp] at hl
    exact (h1 hp).h a w s ⟨g.df, g.sz, fun i z hz => by rw [look_cons] at hz; split at hz; (rename_i e; subst e; rw [← hz, g.at_ _ _ hl]); exact g.at_ i z hz⟩
  · rw [decide_eq_false hp] at hl
    exact (h2 hp).h a w s ⟨g.df, g.sz, fun i z hz => by rw [look_cons] at hz; split at hz; (rename_i e; subst e; rw [← hz, g.at_ _ _ hl]); exact g.at_ i z hz⟩
/-! memory -/
theorem ef_alloc {t : TypeId} {zs : List Value} {gd : Option (Nat × Bool)} [hZ : ZC c.P t zs] (h : ∀ g, T c ((d, ptr g 0 0) :: fr) (.row g t 0 [] zs [] :: H) Φ) (hd : Nat.blt d c.n = true := by rfl) : Ef c fr H ⟨some d, .alloc t, ty, pos, aft, gd⟩ Φ := ef_of fun Q a w s g => by
  obtain ⟨z, hz, hzc⟩ := hZ.z
  obtain ⟨i, hi, hiz⟩ := Option.map_eq_some_iff.1 hz
  have e : (execOp a.eval ⟨some d, .alloc t, ty, pos, aft, gd⟩).run c.P w = .ok (.value (ptr w.heap.size 0 0)) (w.alloc (.cells zs.toArray t)) := by
    simp [execOp, Instr.alloc, zeroValue, typeInfo, hi, hiz, newVar, newRow, hzc, ptr]
  rw [e]
  exact (h _).h _ _ (s.new t zs) (g.put hd)
theorem ef_box {t : TypeId} {l : List Value} {gd : Option (Nat × Bool)} (hx : ev fr x = some v) (hv : v.cells = l.toArray) (h : ∀ g, T c ((d, ptr g 0 0) :: fr) (.row g t 0 [] l [] :: H) Φ) (hd : Nat.blt d c.n = true := by rfl) : Ef c fr H ⟨some d, .box t x, ty, pos, aft, gd⟩ Φ := ef_of fun Q a w s g => by
  have e : (execOp a.eval ⟨some d, .box t x, ty, pos, aft, gd⟩).run c.P w = .ok (.value (ptr w.heap.size 0 0)) (w.alloc (.cells l.toArray t)) := by
    simp [execOp, Instr.box, g.ev hx, newVar, newRow, hv, ptr]
  rw [e]
  exact (h _).h _ _ (s.new t l) (g.put hd)
theorem ef_store {t g tt o' j m : Nat} {A cs B l r : List Value} {S : List Pc} {gd : Option (Nat × Bool)} (hs : (c.P.info? t).map (·.size) = some m) (hx : ev fr x = some (ptr g o' j)) (hy : ev fr y = some v) (hv : v.cells = l.toArray) (hl : l.length = m) (h1 : l.all (·.oneCell') = true)
    (hp : Put cs j l r) (hr : Rpl H (.row g tt o' A cs B) (.row g tt o' A r B) S) (h : T c fr S Φ) : Ef c fr H ⟨none, .store t x y, ty, pos, aft, gd⟩ Φ := ef_of fun Q a w s ag => by
  have hP : (Pc.row g tt o' A cs B).P w := by obtain ⟨R, h1, _⟩ := hr.picks; exact s.on _ h1.mem
  have ht : w.there g (o' + j) m := fun i hi => by
    obtain ⟨X, z, Y, rfl, -, rfl, hz⟩ := hp.parts
    have := row_there hP (X.length + i) (by simp; omega)
    rwa [← Nat.add_assoc] at this
  have e : (execOp a.eval ⟨none, .store t x y, ty, pos, aft, gd⟩).run c.P w = .ok .skip (w.setCells g (o' + j) l) := by
    simp [execOp, ag.ev hx, ag.ev hy, ptr, storeAt_cells hs hv hl ht h1]
  rw [e]
  have ⟨h2, h3⟩ := row_set hP hp
  exact h.h _ _ (s.rpl hr rfl (fun b hb => .inl hb) h3 h2) ag
theorem o_alloc {t : TypeId} {zs : List Value} [hZ : ZC c.P t zs] (hd : Nat.blt d c.n = true) (h : ∀ g, T c ((d, ptr g 0 0) :: fr) (.row g t 0 [] zs [] :: H) Φ) : On c fr H (some d) (.alloc t) ty Φ := ⟨fun _ _ _ => ef_alloc h hd⟩
theorem o_box {t : TypeId} {l : List Value} (hd : Nat.blt d c.n = true) (hx : ev fr x = some v) (hv : v.cells = l.toArray) (h : ∀ g, T c ((d, ptr g 0 0) :: fr) (.row g t 0 [] l [] :: H) Φ) : On c fr H (some d) (.box t x) ty Φ := ⟨fun _ _ _ => ef_box hx hv h hd⟩
theorem o_st {t g tt o' j m : Nat} {A cs B l r : List Value} {S : List Pc} (hx : ev fr x = some (ptr g o' j)) (hy : ev fr y = some v) (hv : v.cells = l.toArray) (hs : (c.P.info? t).map (·.size) = some m) (hl : l.length = m) (hr : Rpl H (.row g tt o' A cs B) (.row g tt o' A r B) S) (hp : Put cs j l r) (h1 : l.all (·.oneCell') = true) (h : T c fr S Φ) : On c fr H none (.store t x y) ty Φ :=
  ⟨fun _ _ _ => ef_store hs hx hy hv hl h1 hp hr h⟩
/-! calls -/
theorem cl_ef {f : Nat} {aS : List Operand} {ts : Array TypeId} {vs : List Value} {gd : Option (Nat × Bool)} (h : Cl c fr H d f vs Φ) (ha : Evs fr aS vs) (hb : bodyB c.P f = true) (hd : Nat.blt d c.n = true) : Ef c fr H ⟨some d, .call { callee := .value (.func f), args := aS.toArray, argTypes := ts }, ty, pos, aft, gd⟩ Φ := ef_of fun Q a w s g => by
  have e : (execOp a.eval ⟨some d, .call { callee := .value (.func f), args := aS.toArray, argTypes := ts }, ty, pos, aft, gd⟩).run c.P w = (callFunc f vs.toArray).run c.P w := by
    simp [execOp, resolve, Deferred.ofValue, Act.eval, invoke, g.evs ha]
  rw [e]
  obtain ⟨R, hc, hk⟩ := h.h w s
  refine (body_of hb).upon hc fun e w' hR => ?_
  obtain ⟨v, he, hv⟩ := hk e w' hR
  exact ⟨v, he, hv _ (g.put hd)⟩
theorem cl_of {f : Nat} {vs : List Value} {R : World → Ending → World → Prop} (hc : ∀ w, St c.G c.D c.w0 H w → Calls c.P f vs.toArray w (R w))
    (hk : ∀ w e w', St c.G c.D c.w0 H w → R w e w' → ∃ v, e = .returned v ∧ ∀ a, Ag c.n ((d, v) :: fr) a → Φ.sem c a w') : Cl c fr H d f vs Φ := ⟨fun w s => ⟨R w, hc w s, fun e w' hR => hk w e w' s hR⟩⟩
/-- a call that returns v; nothing that was there has turned -/
theorem cb {f : Nat} {vs : List Value} (hc : ∀ w, St c.G c.D c.w0 H w → Calls c.P f vs.toArray w fun e w' => e = .returned v ∧ Below w.heap.size w w') (h : T c ((d, v) :: fr) H Φ) : Cl c fr H d f vs Φ :=
  cl_of hc fun w e w' s ⟨he, hB⟩ => ⟨v, he, fun a g => h.h a w' (s.below hB) g⟩
/-- a call that returns v and leaves the world -/
theorem ce {f : Nat} {vs : List Value} (hc : ∀ w, St c.G c.D c.w0 H w → Calls c.P f vs.toArray w fun e w' => e = .returned v ∧ w = w') (h : T c ((d, v) :: fr) H Φ) : Cl c fr H d f vs Φ :=
  cl_of hc fun w e w' s ⟨he, hB⟩ => ⟨v, he, fun a g => h.h a w' (hB ▸ s) g⟩
theorem cf_ {f : Nat} {vs : List Value} {A M R : List Pc} {σ : Type} {C : σ → Prop} {vv : σ → Value} {N : σ → List Pc} (hf : Fn c.P f vs A M C vv N) (h : ∀ s, C s → T c ((d, vv s) :: fr) (N s ++ R) Φ)
    (hM : Picks H M R) (hA : Mems A R) (hmM : M.all (·.mu) = true) (hmA : A.all (fun p => !p.mu) = true) : Cl c fr H d f vs Φ :=
  have hMR : ∀ w, St c.G c.D c.w0 H w → St c.G c.D c.w0 (M ++ R) w := fun w s => by simpa using hM.st (X := []) (by simpa using s)
  have hmu : ∀ p ∈ M, p.mu = true := fun p hp => List.all_eq_true.1 hmM p hp
  have hro : ∀ p ∈ A, p.mu = false := fun p hp => by simpa using List.all_eq_true.1 hmA p hp
  have hpre : ∀ w, St c.G c.D c.w0 H w → Hol (M ++ A) w ∧ Sep (M ++ A) := fun w s => by
    have s2 := hMR w s
    have hAR := hA.all
    refine ⟨fun p hp => ?_, ?_⟩
    · rcases List.mem_append.1 hp with hp | hp
      · exact s2.on p (by simp [hp])
      · exact s2.on p (by simp [hAR p hp])
    · have : ∀ (M : List Pc), Sep (M ++ R) → Sep (M ++ A) := by
        intro M
        induction M with
        | nil =>
          intro _
          have : ∀ (A : List Pc), (∀ p ∈ A, p.mu = false) → Sep A := by
            intro A
            induction A with
            | nil => intro _; trivial
            | cons p A ih => intro h; exact ⟨fun q hq hm => by rw [h p (by simp), h q (by simp [hq])] at hm; simp at hm, ih fun q hq => h q (by simp [hq])⟩
          exact this A hro
        | cons p M ih =>
          intro hs
          exact ⟨fun q hq => hs.1 q (by rcases List.mem_append.1 hq with h | h; simp [h]; simp [hAR q h]), ih hs.2⟩
      exact this M s2.sep
  cl_of (R := fun w e w' => ∃ s, C s ∧ e = .returned (vv s) ∧ Hol (N s) w' ∧ Sep (N s) ∧ Keep (fp M) w w' ∧ ∀ p ∈ N s, ∀ b ∈ p.F, w.heap.size ≤ b ∨ (∃ q ∈ M, b ∈ q.F) ∨ (p.mu = false ∧ ∃ q ∈ A, b ∈ q.F))
    (fun w s => hf w (hpre w s).1 (hpre w s).2)
    (fun w e w' s ⟨z, hz, he, hN, hS, hK, hF⟩ => ⟨_, he, fun a g => (h z hz).h a w' (St.turn (hMR w s) (by rwa [List.filter_eq_self.2 hmu]) hN hS fun p hp b hb => by
      rcases hF p hp b hb with h | ⟨q, hq, hqb⟩ | ⟨hp, q, hq, hqb⟩
      · exact .inl h
      · exact .inr (.inl ⟨q, hq, hmu q hq, hqb⟩)
      · exact .inr (.inr ⟨hp, q, by simp [hA.all q hq], hro q hq, hqb⟩)) g⟩)
theorem o_call {f : Nat} {aS : List Operand} {ts : Array TypeId} {vs : List Value} (hd : Nat.blt d c.n = true) (hb : bodyB c.P f = true) (ha : Evs fr aS vs) (h : Cl c fr H d f vs Φ) : On c fr H (some d) (.call { callee := .value (.func f), args := aS.toArray, argTypes := ts }) ty Φ := ⟨fun _ _ _ => cl_ef h ha hb hd⟩
/-! a function's beginning and end -/
end
def FnPost (P : Program) (w : World) (A M : List Pc) {σ : Type} (C : σ → Prop) (v : σ → Value) (N : σ → List Pc) (e : Ending) (w' : World) : Prop := ∃ s, C s ∧ e = .returned (v s) ∧ Hol (N s) w' ∧ Sep (N s) ∧ Keep (fp M) w w' ∧
    ∀ p ∈ N s, ∀ b ∈ p.F, w.heap.size ≤ b ∨ (∃ q ∈ M, b ∈ q.F) ∨ (p.mu = false ∧ ∃ q ∈ A, b ∈ q.F)
def args0 : Nat → List Value → Fr
  | _, [] => []
  | i, v :: r => (i, v) :: args0 (i + 1) r
theorem look_args (vs : List Value) : ∀ i t v, look (args0 i vs) t = some v → i ≤ t ∧ vs[t - i]? = some v := by
  induction vs with
  | nil => intro i t v h; cases h
  | cons x r ih =>
    intro i t v h
    unfold args0 at h
    rw [look_cons] at h
    split at h
    · rename_i e; subst e; exact ⟨Nat.le_refl _, by simpa using h⟩
    · have ⟨h1, h2⟩ := ih (i + 1) t v h
      refine ⟨by omega, ?_⟩
      rw [show t - i = (t - (i + 1)) + 1 by omega, List.getElem?_cons_succ]; exact h2
theorem fn_enter {P : Program} {f : FuncId} {fn : Func} {cd : Code} {args : List Value} {A M : List Pc} {σ : Type} {C : σ → Prop} {v : σ → Value} {N : σ → List Pc} (hf : P.funcs[f]? = some fn) (hb : fn.body = some cd)
    (h : ∀ w, T ⟨P, fp M, fp A, w, fn.ntmps, bodyPost P fn (FnPost P w A M C v N)⟩ (args0 0 args) (M ++ A) (.code [] cd))
    (hn : args.length ≤ fn.ntmps) (hmA : A.all (fun p => !p.mu) = true) : Fn P f args A M C v N := fun w hH hS => by
  refine calls_of_wp hf hb ?_
  have hro : ∀ p ∈ A, p.mu = false := fun p hp => by simpa using List.all_eq_true.1 hmA p hp
  refine (h w).h _ _ ⟨Keep.refl _ _, hH, hS, fun p hp b hb => ?_⟩ ⟨rfl, by simp; omega, fun t u hu => ?_⟩
  · rcases List.mem_append.1 hp with hp | hp
    · exact .inl (mem_fp.2 ⟨p, hp, hb⟩)
    · exact .inr (.inr ⟨hro p hp, mem_fp.2 ⟨p, hp, hb⟩⟩)
  · obtain ⟨-, h2⟩ := look_args args 0 t u hu
    simp only [Nat.sub_zero] at h2
    show (args.toArray ++ Array.replicate (fn.ntmps - args.toArray.size) undef)[t]? = _
    have ht : t < args.length := (List.getElem?_eq_some_iff.1 h2).1
    rw [Array.getElem?_append_left (by simpa using ht)]
    simpa using h2
/-- what the results are -/
inductive Res (P : Program) (fr : Fr) (H : List Pc) : List ResultVar → List Value → Prop
  | nil : Res P fr H [] []
  | tmp {t v r vs} : look fr t = some v → Res P fr H r vs → Res P fr H (.tmp t :: r) (v :: vs)
  | agg {t ty m g o tt A cs B r vs} : AggC P ty m → look fr t = some (ptr g o 0) → Pc.row g tt o A cs B ∈ H → cs.length = m → Res P fr H r vs → Res P fr H (.cell t ty :: r) (.agg cs.toArray :: vs)
  | one {t ty g o tt A v B r vs} : OneC P ty → look fr t = some (ptr g o 0) → Pc.row g tt o A [v] B ∈ H → Res P fr H r vs → Res P fr H (.cell t ty :: r) (v :: vs)
theorem Cut.whole : ∀ (l : List Value), Cut l 0 l.length l
  | [] => .zero
  | _ :: r => .one (Cut.whole r)
theorem asAddr_ptr (x : Addr) : asAddr (.pointer (some x)) = pure x := rfl
theorem res_run {P : Program} {fr : Fr} {H : List Pc} {n : Nat} {rs vs} (f : ResultVar → Sem Value) {a : Act} (f1 : ∀ t, f (.tmp t) = pure (a.tmps.getD t undef)) (f2 : ∀ p t, f (.cell p t) = do loadVar t (← asAddr (a.tmps.getD p undef)))
    (h : Res P fr H rs vs) {w : World} (g : Ag n fr a) (hH : Hol H w) : (rs.mapM f).run P w = .ok vs w := by
  simp only [Array.getD_eq_getD_getElem?] at f1 f2
  induction h with
  | nil => simp
  | tmp hl _ ih => simp [List.mapM_cons, f1, g.at_ _ _ hl, ih]
  | @agg t ty m gg o tt A cs B r vs hT hl hm hc _ ih =>
    have h1 := load_agg (hT := hT) (j := 0) (row_range (hH _ hm)) (by rw [← hc]; exact Cut.whole cs)
    simp only [Instr.loadAt, Instr.sureAddr, Sem.run_bind, Sem.run_pure, Result.andThen_ok, Nat.add_zero] at h1
    simp [List.mapM_cons, f2, g.at_ _ _ hl, ptr, asAddr_ptr, h1, ih]
  | @one t ty gg o tt A v B r vs hT hl hm _ ih =>
    have h1 := load_one (hT := hT) (row_cell (j := 0) (hH _ hm) rfl)
    simp only [Instr.loadAt, Instr.sureAddr, Sem.run_bind, Sem.run_pure, Result.andThen_ok, Nat.add_zero] at h1
    simp [List.mapM_cons, f2, g.at_ _ _ hl, ptr, asAddr_ptr, h1, ih]
/-- one result bare, several aS a tuple -/
def tup : List Value → Value
  | [v] => v
  | vs => .tuple vs.toArray
theorem results_run {P : Program} {fr : Fr} {H : List Pc} {n : Nat} {fn : Func} {rs vs} (hr : fn.results = rs.toArray) (h : Res P fr H rs vs) {a : Act} {w : World} (g : Ag n fr a) (hH : Hol H w) : (results fn a.tmps).run P w = .ok (tup vs) w := by
  unfold results
  rw [hr]
  simp only [Sem.run_bind, Array.mapM_eq_mapM_toList]
  have : ∀ (f : ResultVar → Sem Value), (rs.mapM f).run P w = .ok vs w → ((List.toArray <$> rs.mapM f : Sem (Array Value))).run P w = .ok vs.toArray w := fun f hf => by
    simp [hf]
  refine (congrArg (fun x => Result.andThen x _) (this _ (res_run _ ?_ ?_ h g hH))).trans ?_
  · intro t; rfl
  · intro p t; rfl
  simp only [Result.andThen_ok, Sem.run_pure]
  congr 1
  match vs with
  | [] => rfl
  | [v] => rfl
  | v :: u :: r => simp [tup]
theorem fn_ret {P : Program} {fn : Func} {G D : List Nat} {w0 : World} {n : Nat} {A M : List Pc} {σ : Type} {C : σ → Prop} {v : σ → Value} {N : σ → List Pc} {fr : Fr} {H : List Pc} {rs : List ResultVar} {vs : List Value} (s : σ) (hC : C s)
    (hr : fn.results = rs.toArray) (h : Res P fr H rs vs) (hv : tup vs = v s) (hN : HSub H (N s)) (hG : G = fp M) (hD : D = fp A) : T ⟨P, G, D, w0, n, bodyPost P fn (FnPost P w0 A M C v N)⟩ fr H (.fin .ret) := .mk fun a w st g => by
  subst hG hD
  refine ⟨g.df, _, results_run hr h g st.on, s, hC, by rw [hv], ?_⟩
  have s2 := st.sub hN
  refine ⟨s2.on, s2.sep, s2.keep, fun p hp b hb => ?_⟩
  rcases s2.mine p hp b hb with h | h | ⟨h1, h⟩
  · exact .inr (.inl (mem_fp.1 h))
  · exact .inl h
  · exact .inr (.inr ⟨h1, mem_fp.1 h⟩)
end Go.Proofs.YtccmhdheoeglmaaGreatDoor
/- What the types of this program are. -/
namespace Go.Proofs.YtccmhdheoeglmaaGreatDoor
open Go.RowKit
instance : OneC Tryz.prog 3 := ⟨⟨_, Tryz.underlying3, rfl⟩, by kernel_rfl⟩
instance : IntC Tryz.prog 3 .i64 := ⟨Tryz.underlying3⟩
instance : ZC Tryz.prog 3 [.int .i64 0] := ⟨⟨.int .i64 0, by kernel_rfl, rfl⟩⟩
instance : ElT Tryz.prog 3 (.int .i64 0) 1 8 := ⟨by kernel_rfl, rfl⟩
instance : OneC Tryz.prog 5 := ⟨⟨_, Tryz.underlying5, rfl⟩, by kernel_rfl⟩
instance : IntC Tryz.prog 5 .u8 := ⟨Tryz.underlying5⟩
instance : ZC Tryz.prog 5 [.int .u8 0] := ⟨⟨.int .u8 0, by kernel_rfl, rfl⟩⟩
instance : ElT Tryz.prog 5 (.int .u8 0) 1 1 := ⟨by kernel_rfl, rfl⟩
instance : OneC Tryz.prog 236 := ⟨⟨_, Tryz.underlying236, rfl⟩, by kernel_rfl⟩
instance : IntC Tryz.prog 236 .u64 := ⟨Tryz.underlying236⟩
instance : ZC Tryz.prog 236 [.int .u64 0] := ⟨⟨.int .u64 0, by kernel_rfl, rfl⟩⟩
instance : ElT Tryz.prog 236 (.int .u64 0) 1 8 := ⟨by kernel_rfl, rfl⟩
instance : OneC Tryz.prog 270 := ⟨⟨_, Tryz.underlying270, rfl⟩, by kernel_rfl⟩
instance : IntC Tryz.prog 270 .u64 := ⟨Tryz.underlying270⟩
instance : ZC Tryz.prog 270 [.int .u64 0] := ⟨⟨.int .u64 0, by kernel_rfl, rfl⟩⟩
instance : ElT Tryz.prog 270 (.int .u64 0) 1 8 := ⟨by kernel_rfl, rfl⟩
instance : OneC Tryz.prog 4 := ⟨⟨_, Tryz.underlying4, rfl⟩, by kernel_rfl⟩
instance : BoolC Tryz.prog 4 := ⟨Tryz.underlying4⟩
instance : ZC Tryz.prog 4 [.bool false] := ⟨⟨.bool false, by kernel_rfl, rfl⟩⟩
instance : ElT Tryz.prog 4 (.bool false) 1 1 := ⟨by kernel_rfl, rfl⟩
instance : OneC Tryz.prog 9 := ⟨⟨_, Tryz.underlying9, rfl⟩, by kernel_rfl⟩
instance : StrC Tryz.prog 9 := ⟨Tryz.underlying9⟩
instance : ZC Tryz.prog 9 [.string ⟨#[]⟩] := ⟨⟨.string ⟨#[]⟩, by kernel_rfl, rfl⟩⟩
instance : ElT Tryz.prog 9 (.string ⟨#[]⟩) 1 16 := ⟨by kernel_rfl, rfl⟩
instance : OneC Tryz.prog 21 := ⟨⟨_, Tryz.underlying21, rfl⟩, by kernel_rfl⟩
instance : IntC Tryz.prog 21 .i32 := ⟨Tryz.underlying21⟩
instance : ZC Tryz.prog 21 [.int .i32 0] := ⟨⟨.int .i32 0, by kernel_rfl, rfl⟩⟩
instance : ElT Tryz.prog 21 (.int .i32 0) 1 4 := ⟨by kernel_rfl, rfl⟩
instance : AggC Tryz.prog 24 1 := ⟨⟨_, Tryz.underlying24, rfl⟩, by kernel_rfl⟩
instance : FldC Tryz.prog 24 0 0 22 1 := ⟨⟨_, _, Tryz.underlying24, rfl, rfl, rfl⟩, by kernel_rfl, by decide⟩
instance : ZC Tryz.prog 24 [.slice none 0 0] := ⟨⟨.agg #[.slice none 0 0], by kernel_rfl, rfl⟩⟩
instance : ElT Tryz.prog 24 (.agg #[.slice none 0 0]) 1 24 := ⟨by kernel_rfl, rfl⟩
instance : BldC Tryz.prog 24 [(0, 1)] [.slice none 0 0] := ⟨fun parts => by kernel_rfl⟩
instance : AggC Tryz.prog 26 1 := ⟨⟨_, Tryz.underlying26, rfl⟩, by kernel_rfl⟩
instance : FldC Tryz.prog 26 0 0 22 1 := ⟨⟨_, _, Tryz.underlying26, rfl, rfl, rfl⟩, by kernel_rfl, by decide⟩
instance : ZC Tryz.prog 26 [.slice none 0 0] := ⟨⟨.agg #[.slice none 0 0], by kernel_rfl, rfl⟩⟩
instance : ElT Tryz.prog 26 (.agg #[.slice none 0 0]) 1 24 := ⟨by kernel_rfl, rfl⟩
instance : BldC Tryz.prog 26 [(0, 1)] [.slice none 0 0] := ⟨fun parts => by kernel_rfl⟩
instance : AggC Tryz.prog 29 3 := ⟨⟨_, Tryz.underlying29, rfl⟩, by kernel_rfl⟩
instance : FldC Tryz.prog 29 0 0 3 1 := ⟨⟨_, _, Tryz.underlying29, rfl, rfl, rfl⟩, by kernel_rfl, by decide⟩
instance : FldC Tryz.prog 29 1 1 3 1 := ⟨⟨_, _, Tryz.underlying29, rfl, rfl, rfl⟩, by kernel_rfl, by decide⟩
instance : FldC Tryz.prog 29 2 2 27 1 := ⟨⟨_, _, Tryz.underlying29, rfl, rfl, rfl⟩, by kernel_rfl, by decide⟩
instance : ZC Tryz.prog 29 [.int .i64 0, .int .i64 0, .slice none 0 0] := ⟨⟨.agg #[.int .i64 0, .int .i64 0, .slice none 0 0], by kernel_rfl, rfl⟩⟩
instance : ElT Tryz.prog 29 (.agg #[.int .i64 0, .int .i64 0, .slice none 0 0]) 3 40 := ⟨by kernel_rfl, rfl⟩
instance : BldC Tryz.prog 29 [(0, 1), (1, 1), (2, 1)] [.int .i64 0, .int .i64 0, .slice none 0 0] := ⟨fun parts => by kernel_rfl⟩
instance : AggC Tryz.prog 32 6 := ⟨⟨_, Tryz.underlying32, rfl⟩, by kernel_rfl⟩
instance : FldC Tryz.prog 32 0 0 29 3 := ⟨⟨_, _, Tryz.underlying32, rfl, rfl, rfl⟩, by kernel_rfl, by decide⟩
instance : FldC Tryz.prog 32 1 3 3 1 := ⟨⟨_, _, Tryz.underlying32, rfl, rfl, rfl⟩, by kernel_rfl, by decide⟩
instance : FldC Tryz.prog 32 2 4 3 1 := ⟨⟨_, _, Tryz.underlying32, rfl, rfl, rfl⟩, by kernel_rfl, by decide⟩
instance : FldC Tryz.prog 32 3 5 30 1 := ⟨⟨_, _, Tryz.underlying32, rfl, rfl, rfl⟩, by kernel_rfl, by decide⟩
instance : ZC Tryz.prog 32 [.int .i64 0, .int .i64 0, .slice none 0 0, .int .i64 0, .int .i64 0, .slice none 0 0] := ⟨⟨.agg #[.int .i64 0, .int .i64 0, .slice none 0 0, .int .i64 0, .int .i64 0, .slice none 0 0], by kernel_rfl, rfl⟩⟩
instance : ElT Tryz.prog 32 (.agg #[.int .i64 0, .int .i64 0, .slice none 0 0, .int .i64 0, .int .i64 0, .slice none 0 0]) 6 80 := ⟨by kernel_rfl, rfl⟩
instance : BldC Tryz.prog 32 [(0, 3), (3, 1), (4, 1), (5, 1)] [.int .i64 0, .int .i64 0, .slice none 0 0, .int .i64 0, .int .i64 0, .slice none 0 0] := ⟨fun parts => by kernel_rfl⟩
instance : AggC Tryz.prog 37 11 := ⟨⟨_, Tryz.underlying37, rfl⟩, by kernel_rfl⟩
instance : FldC Tryz.prog 37 0 0 26 1 := ⟨⟨_, _, Tryz.underlying37, rfl, rfl, rfl⟩, by kernel_rfl, by decide⟩
instance : FldC Tryz.prog 37 1 1 32 6 := ⟨⟨_, _, Tryz.underlying37, rfl, rfl, rfl⟩, by kernel_rfl, by decide⟩
instance : FldC Tryz.prog 37 2 7 33 1 := ⟨⟨_, _, Tryz.underlying37, rfl, rfl, rfl⟩, by kernel_rfl, by decide⟩
instance : FldC Tryz.prog 37 3 8 34 1 := ⟨⟨_, _, Tryz.underlying37, rfl, rfl, rfl⟩, by kernel_rfl, by decide⟩
instance : FldC Tryz.prog 37 4 9 35 1 := ⟨⟨_, _, Tryz.underlying37, rfl, rfl, rfl⟩, by kernel_rfl, by decide⟩
instance : FldC Tryz.prog 37 5 10 35 1 := ⟨⟨_, _, Tryz.underlying37, rfl, rfl, rfl⟩, by kernel_rfl, by decide⟩
instance : ZC Tryz.prog 37 [.slice none 0 0, .int .i64 0, .int .i64 0, .slice none 0 0, .int .i64 0, .int .i64 0, .slice none 0 0, .slice none 0 0, .slice none 0 0, .slice none 0 0, .slice none 0 0] := ⟨⟨.agg #[.slice none 0 0, .int .i64 0, .int .i64 0, .slice none 0 0, .int .i64 0, .int .i64 0, .slice none 0 0, .slice none 0 0, .slice none 0 0, .slice none 0 0, .slice none 0 0], by kernel_rfl, rfl⟩⟩
instance : ElT Tryz.prog 37 (.agg #[.slice none 0 0, .int .i64 0, .int .i64 0, .slice none 0 0, .int .i64 0, .int .i64 0, .slice none 0 0, .slice none 0 0, .slice none 0 0, .slice none 0 0, .slice none 0 0]) 11 200 := ⟨by kernel_rfl, rfl⟩
instance : BldC Tryz.prog 37 [(0, 1), (1, 6), (7, 1), (8, 1), (9, 1), (10, 1)] [.slice none 0 0, .int .i64 0, .int .i64 0, .slice none 0 0, .int .i64 0, .int .i64 0, .slice none 0 0, .slice none 0 0, .slice none 0 0, .slice none 0 0, .slice none 0 0] := ⟨fun parts => by kernel_rfl⟩
instance : AggC Tryz.prog 39 3 := ⟨⟨_, Tryz.underlying39, rfl⟩, by kernel_rfl⟩
instance : FldC Tryz.prog 39 0 0 9 1 := ⟨⟨_, _, Tryz.underlying39, rfl, rfl, rfl⟩, by kernel_rfl, by decide⟩
instance : FldC Tryz.prog 39 1 1 9 1 := ⟨⟨_, _, Tryz.underlying39, rfl, rfl, rfl⟩, by kernel_rfl, by decide⟩
instance : FldC Tryz.prog 39 2 2 3 1 := ⟨⟨_, _, Tryz.underlying39, rfl, rfl, rfl⟩, by kernel_rfl, by decide⟩
instance : ZC Tryz.prog 39 [.string ⟨#[]⟩, .string ⟨#[]⟩, .int .i64 0] := ⟨⟨.agg #[.string ⟨#[]⟩, .string ⟨#[]⟩, .int .i64 0], by kernel_rfl, rfl⟩⟩
instance : ElT Tryz.prog 39 (.agg #[.string ⟨#[]⟩, .string ⟨#[]⟩, .int .i64 0]) 3 40 := ⟨by kernel_rfl, rfl⟩
instance : BldC Tryz.prog 39 [(0, 1), (1, 1), (2, 1)] [.string ⟨#[]⟩, .string ⟨#[]⟩, .int .i64 0] := ⟨fun parts => by kernel_rfl⟩
instance : AggC Tryz.prog 41 14 := ⟨⟨_, Tryz.underlying41, rfl⟩, by kernel_rfl⟩
instance : FldC Tryz.prog 41 0 0 37 11 := ⟨⟨_, _, Tryz.underlying41, rfl, rfl, rfl⟩, by kernel_rfl, by decide⟩
instance : FldC Tryz.prog 41 1 11 39 3 := ⟨⟨_, _, Tryz.underlying41, rfl, rfl, rfl⟩, by kernel_rfl, by decide⟩
instance : ZC Tryz.prog 41 [.slice none 0 0, .int .i64 0, .int .i64 0, .slice none 0 0, .int .i64 0, .int .i64 0, .slice none 0 0, .slice none 0 0, .slice none 0 0, .slice none 0 0, .slice none 0 0, .string ⟨#[]⟩, .string ⟨#[]⟩, .int .i64 0] := ⟨⟨.agg #[.slice none 0 0, .int .i64 0, .int .i64 0, .slice none 0 0, .int .i64 0, .int .i64 0, .slice none 0 0, .slice none 0 0, .slice none 0 0, .slice none 0 0, .slice none 0 0, .string ⟨#[]⟩, .string ⟨#[]⟩, .int .i64 0], by kernel_rfl, rfl⟩⟩
instance : ElT Tryz.prog 41 (.agg #[.slice none 0 0, .int .i64 0, .int .i64 0, .slice none 0 0, .int .i64 0, .int .i64 0, .slice none 0 0, .slice none 0 0, .slice none 0 0, .slice none 0 0, .slice none 0 0, .string ⟨#[]⟩, .string ⟨#[]⟩, .int .i64 0]) 14 240 := ⟨by kernel_rfl, rfl⟩
instance : BldC Tryz.prog 41 [(0, 11), (11, 3)] [.slice none 0 0, .int .i64 0, .int .i64 0, .slice none 0 0, .int .i64 0, .int .i64 0, .slice none 0 0, .slice none 0 0, .slice none 0 0, .slice none 0 0, .slice none 0 0, .string ⟨#[]⟩, .string ⟨#[]⟩, .int .i64 0] := ⟨fun parts => by kernel_rfl⟩
instance : AggC Tryz.prog 50 3 := ⟨⟨_, Tryz.underlying50, rfl⟩, by kernel_rfl⟩
instance : FldC Tryz.prog 50 0 0 3 1 := ⟨⟨_, _, Tryz.underlying50, rfl, rfl, rfl⟩, by kernel_rfl, by decide⟩
instance : FldC Tryz.prog 50 1 1 3 1 := ⟨⟨_, _, Tryz.underlying50, rfl, rfl, rfl⟩, by kernel_rfl, by decide⟩
instance : FldC Tryz.prog 50 2 2 27 1 := ⟨⟨_, _, Tryz.underlying50, rfl, rfl, rfl⟩, by kernel_rfl, by decide⟩
instance : ZC Tryz.prog 50 [.int .i64 0, .int .i64 0, .slice none 0 0] := ⟨⟨.agg #[.int .i64 0, .int .i64 0, .slice none 0 0], by kernel_rfl, rfl⟩⟩
instance : ElT Tryz.prog 50 (.agg #[.int .i64 0, .int .i64 0, .slice none 0 0]) 3 40 := ⟨by kernel_rfl, rfl⟩
instance : BldC Tryz.prog 50 [(0, 1), (1, 1), (2, 1)] [.int .i64 0, .int .i64 0, .slice none 0 0] := ⟨fun parts => by kernel_rfl⟩
instance : AggC Tryz.prog 53 6 := ⟨⟨_, Tryz.underlying53, rfl⟩, by kernel_rfl⟩
instance : FldC Tryz.prog 53 0 0 50 3 := ⟨⟨_, _, Tryz.underlying53, rfl, rfl, rfl⟩, by kernel_rfl, by decide⟩
instance : FldC Tryz.prog 53 1 3 3 1 := ⟨⟨_, _, Tryz.underlying53, rfl, rfl, rfl⟩, by kernel_rfl, by decide⟩
instance : FldC Tryz.prog 53 2 4 3 1 := ⟨⟨_, _, Tryz.underlying53, rfl, rfl, rfl⟩, by kernel_rfl, by decide⟩
instance : FldC Tryz.prog 53 3 5 51 1 := ⟨⟨_, _, Tryz.underlying53, rfl, rfl, rfl⟩, by kernel_rfl, by decide⟩
instance : ZC Tryz.prog 53 [.int .i64 0, .int .i64 0, .slice none 0 0, .int .i64 0, .int .i64 0, .slice none 0 0] := ⟨⟨.agg #[.int .i64 0, .int .i64 0, .slice none 0 0, .int .i64 0, .int .i64 0, .slice none 0 0], by kernel_rfl, rfl⟩⟩
instance : ElT Tryz.prog 53 (.agg #[.int .i64 0, .int .i64 0, .slice none 0 0, .int .i64 0, .int .i64 0, .slice none 0 0]) 6 80 := ⟨by kernel_rfl, rfl⟩
instance : BldC Tryz.prog 53 [(0, 3), (3, 1), (4, 1), (5, 1)] [.int .i64 0, .int .i64 0, .slice none 0 0, .int .i64 0, .int .i64 0, .slice none 0 0] := ⟨fun parts => by kernel_rfl⟩
instance : AggC Tryz.prog 58 11 := ⟨⟨_, Tryz.underlying58, rfl⟩, by kernel_rfl⟩
instance : FldC Tryz.prog 58 0 0 24 1 := ⟨⟨_, _, Tryz.underlying58, rfl, rfl, rfl⟩, by kernel_rfl, by decide⟩
instance : FldC Tryz.prog 58 1 1 53 6 := ⟨⟨_, _, Tryz.underlying58, rfl, rfl, rfl⟩, by kernel_rfl, by decide⟩
instance : FldC Tryz.prog 58 2 7 54 1 := ⟨⟨_, _, Tryz.underlying58, rfl, rfl, rfl⟩, by kernel_rfl, by decide⟩
instance : FldC Tryz.prog 58 3 8 55 1 := ⟨⟨_, _, Tryz.underlying58, rfl, rfl, rfl⟩, by kernel_rfl, by decide⟩
instance : FldC Tryz.prog 58 4 9 56 1 := ⟨⟨_, _, Tryz.underlying58, rfl, rfl, rfl⟩, by kernel_rfl, by decide⟩
instance : FldC Tryz.prog 58 5 10 56 1 := ⟨⟨_, _, Tryz.underlying58, rfl, rfl, rfl⟩, by kernel_rfl, by decide⟩
instance : ZC Tryz.prog 58 [.slice none 0 0, .int .i64 0, .int .i64 0, .slice none 0 0, .int .i64 0, .int .i64 0, .slice none 0 0, .slice none 0 0, .slice none 0 0, .slice none 0 0, .slice none 0 0] := ⟨⟨.agg #[.slice none 0 0, .int .i64 0, .int .i64 0, .slice none 0 0, .int .i64 0, .int .i64 0, .slice none 0 0, .slice none 0 0, .slice none 0 0, .slice none 0 0, .slice none 0 0], by kernel_rfl, rfl⟩⟩
instance : ElT Tryz.prog 58 (.agg #[.slice none 0 0, .int .i64 0, .int .i64 0, .slice none 0 0, .int .i64 0, .int .i64 0, .slice none 0 0, .slice none 0 0, .slice none 0 0, .slice none 0 0, .slice none 0 0]) 11 200 := ⟨by kernel_rfl, rfl⟩
instance : BldC Tryz.prog 58 [(0, 1), (1, 6), (7, 1), (8, 1), (9, 1), (10, 1)] [.slice none 0 0, .int .i64 0, .int .i64 0, .slice none 0 0, .int .i64 0, .int .i64 0, .slice none 0 0, .slice none 0 0, .slice none 0 0, .slice none 0 0, .slice none 0 0] := ⟨fun parts => by kernel_rfl⟩
instance : AggC Tryz.prog 59 3 := ⟨⟨_, Tryz.underlying59, rfl⟩, by kernel_rfl⟩
instance : FldC Tryz.prog 59 0 0 9 1 := ⟨⟨_, _, Tryz.underlying59, rfl, rfl, rfl⟩, by kernel_rfl, by decide⟩
instance : FldC Tryz.prog 59 1 1 9 1 := ⟨⟨_, _, Tryz.underlying59, rfl, rfl, rfl⟩, by kernel_rfl, by decide⟩
instance : FldC Tryz.prog 59 2 2 3 1 := ⟨⟨_, _, Tryz.underlying59, rfl, rfl, rfl⟩, by kernel_rfl, by decide⟩
instance : ZC Tryz.prog 59 [.string ⟨#[]⟩, .string ⟨#[]⟩, .int .i64 0] := ⟨⟨.agg #[.string ⟨#[]⟩, .string ⟨#[]⟩, .int .i64 0], by kernel_rfl, rfl⟩⟩
instance : ElT Tryz.prog 59 (.agg #[.string ⟨#[]⟩, .string ⟨#[]⟩, .int .i64 0]) 3 40 := ⟨by kernel_rfl, rfl⟩
instance : BldC Tryz.prog 59 [(0, 1), (1, 1), (2, 1)] [.string ⟨#[]⟩, .string ⟨#[]⟩, .int .i64 0] := ⟨fun parts => by kernel_rfl⟩
instance : AggC Tryz.prog 61 14 := ⟨⟨_, Tryz.underlying61, rfl⟩, by kernel_rfl⟩
instance : FldC Tryz.prog 61 0 0 58 11 := ⟨⟨_, _, Tryz.underlying61, rfl, rfl, rfl⟩, by kernel_rfl, by decide⟩
instance : FldC Tryz.prog 61 1 11 59 3 := ⟨⟨_, _, Tryz.underlying61, rfl, rfl, rfl⟩, by kernel_rfl, by decide⟩
instance : ZC Tryz.prog 61 [.slice none 0 0, .int .i64 0, .int .i64 0, .slice none 0 0, .int .i64 0, .int .i64 0, .slice none 0 0, .slice none 0 0, .slice none 0 0, .slice none 0 0, .slice none 0 0, .string ⟨#[]⟩, .string ⟨#[]⟩, .int .i64 0] := ⟨⟨.agg #[.slice none 0 0, .int .i64 0, .int .i64 0, .slice none 0 0, .int .i64 0, .int .i64 0, .slice none 0 0, .slice none 0 0, .slice none 0 0, .slice none 0 0, .slice none 0 0, .string ⟨#[]⟩, .string ⟨#[]⟩, .int .i64 0], by kernel_rfl, rfl⟩⟩
instance : ElT Tryz.prog 61 (.agg #[.slice none 0 0, .int .i64 0, .int .i64 0, .slice none 0 0, .int .i64 0, .int .i64 0, .slice none 0 0, .slice none 0 0, .slice none 0 0, .slice none 0 0, .slice none 0 0, .string ⟨#[]⟩, .string ⟨#[]⟩, .int .i64 0]) 14 240 := ⟨by kernel_rfl, rfl⟩
instance : BldC Tryz.prog 61 [(0, 11), (11, 3)] [.slice none 0 0, .int .i64 0, .int .i64 0, .slice none 0 0, .int .i64 0, .int .i64 0, .slice none 0 0, .slice none 0 0, .slice none 0 0, .slice none 0 0, .slice none 0 0, .string ⟨#[]⟩, .string ⟨#[]⟩, .int .i64 0] := ⟨fun parts => by kernel_rfl⟩
instance : AggC Tryz.prog 87 2 := ⟨⟨_, Tryz.underlying87, rfl⟩, by kernel_rfl⟩
instance : FldC Tryz.prog 87 0 0 3 1 := ⟨⟨_, _, Tryz.underlying87, rfl, rfl, rfl⟩, by kernel_rfl, by decide⟩
instance : FldC Tryz.prog 87 1 1 85 1 := ⟨⟨_, _, Tryz.underlying87, rfl, rfl, rfl⟩, by kernel_rfl, by decide⟩
instance : ZC Tryz.prog 87 [.int .i64 0, .slice none 0 0] := ⟨⟨.agg #[.int .i64 0, .slice none 0 0], by kernel_rfl, rfl⟩⟩
instance : ElT Tryz.prog 87 (.agg #[.int .i64 0, .slice none 0 0]) 2 32 := ⟨by kernel_rfl, rfl⟩
instance : BldC Tryz.prog 87 [(0, 1), (1, 1)] [.int .i64 0, .slice none 0 0] := ⟨fun parts => by kernel_rfl⟩
instance : AggC Tryz.prog 90 5 := ⟨⟨_, Tryz.underlying90, rfl⟩, by kernel_rfl⟩
instance : FldC Tryz.prog 90 0 0 4 1 := ⟨⟨_, _, Tryz.underlying90, rfl, rfl, rfl⟩, by kernel_rfl, by decide⟩
instance : FldC Tryz.prog 90 1 1 3 1 := ⟨⟨_, _, Tryz.underlying90, rfl, rfl, rfl⟩, by kernel_rfl, by decide⟩
instance : FldC Tryz.prog 90 2 2 87 2 := ⟨⟨_, _, Tryz.underlying90, rfl, rfl, rfl⟩, by kernel_rfl, by decide⟩
instance : FldC Tryz.prog 90 3 4 88 1 := ⟨⟨_, _, Tryz.underlying90, rfl, rfl, rfl⟩, by kernel_rfl, by decide⟩
instance : ZC Tryz.prog 90 [.bool false, .int .i64 0, .int .i64 0, .slice none 0 0, .slice none 0 0] := ⟨⟨.agg #[.bool false, .int .i64 0, .int .i64 0, .slice none 0 0, .slice none 0 0], by kernel_rfl, rfl⟩⟩
instance : ElT Tryz.prog 90 (.agg #[.bool false, .int .i64 0, .int .i64 0, .slice none 0 0, .slice none 0 0]) 5 72 := ⟨by kernel_rfl, rfl⟩
instance : BldC Tryz.prog 90 [(0, 1), (1, 1), (2, 2), (4, 1)] [.bool false, .int .i64 0, .int .i64 0, .slice none 0 0, .slice none 0 0] := ⟨fun parts => by kernel_rfl⟩
instance : AggC Tryz.prog 121 2 := ⟨⟨_, Tryz.underlying121, rfl⟩, by kernel_rfl⟩
instance : FldC Tryz.prog 121 0 0 4 1 := ⟨⟨_, _, Tryz.underlying121, rfl, rfl, rfl⟩, by kernel_rfl, by decide⟩
instance : FldC Tryz.prog 121 1 1 9 1 := ⟨⟨_, _, Tryz.underlying121, rfl, rfl, rfl⟩, by kernel_rfl, by decide⟩
instance : ZC Tryz.prog 121 [.bool false, .string ⟨#[]⟩] := ⟨⟨.agg #[.bool false, .string ⟨#[]⟩], by kernel_rfl, rfl⟩⟩
instance : ElT Tryz.prog 121 (.agg #[.bool false, .string ⟨#[]⟩]) 2 24 := ⟨by kernel_rfl, rfl⟩
instance : BldC Tryz.prog 121 [(0, 1), (1, 1)] [.bool false, .string ⟨#[]⟩] := ⟨fun parts => by kernel_rfl⟩
instance : AggC Tryz.prog 129 2 := ⟨⟨_, Tryz.underlying129, rfl⟩, by kernel_rfl⟩
instance : FldC Tryz.prog 129 0 0 3 1 := ⟨⟨_, _, Tryz.underlying129, rfl, rfl, rfl⟩, by kernel_rfl, by decide⟩
instance : FldC Tryz.prog 129 1 1 127 1 := ⟨⟨_, _, Tryz.underlying129, rfl, rfl, rfl⟩, by kernel_rfl, by decide⟩
instance : ZC Tryz.prog 129 [.int .i64 0, .slice none 0 0] := ⟨⟨.agg #[.int .i64 0, .slice none 0 0], by kernel_rfl, rfl⟩⟩
instance : ElT Tryz.prog 129 (.agg #[.int .i64 0, .slice none 0 0]) 2 32 := ⟨by kernel_rfl, rfl⟩
instance : BldC Tryz.prog 129 [(0, 1), (1, 1)] [.int .i64 0, .slice none 0 0] := ⟨fun parts => by kernel_rfl⟩
instance : AggC Tryz.prog 144 2 := ⟨⟨_, Tryz.underlying144, rfl⟩, by kernel_rfl⟩
instance : FldC Tryz.prog 144 0 0 3 1 := ⟨⟨_, _, Tryz.underlying144, rfl, rfl, rfl⟩, by kernel_rfl, by decide⟩
instance : FldC Tryz.prog 144 1 1 142 1 := ⟨⟨_, _, Tryz.underlying144, rfl, rfl, rfl⟩, by kernel_rfl, by decide⟩
instance : ZC Tryz.prog 144 [.int .i64 0, .slice none 0 0] := ⟨⟨.agg #[.int .i64 0, .slice none 0 0], by kernel_rfl, rfl⟩⟩
instance : ElT Tryz.prog 144 (.agg #[.int .i64 0, .slice none 0 0]) 2 32 := ⟨by kernel_rfl, rfl⟩
instance : BldC Tryz.prog 144 [(0, 1), (1, 1)] [.int .i64 0, .slice none 0 0] := ⟨fun parts => by kernel_rfl⟩
instance : AggC Tryz.prog 148 2 := ⟨⟨_, Tryz.underlying148, rfl⟩, by kernel_rfl⟩
instance : FldC Tryz.prog 148 0 0 3 1 := ⟨⟨_, _, Tryz.underlying148, rfl, rfl, rfl⟩, by kernel_rfl, by decide⟩
instance : FldC Tryz.prog 148 1 1 146 1 := ⟨⟨_, _, Tryz.underlying148, rfl, rfl, rfl⟩, by kernel_rfl, by decide⟩
instance : ZC Tryz.prog 148 [.int .i64 0, .slice none 0 0] := ⟨⟨.agg #[.int .i64 0, .slice none 0 0], by kernel_rfl, rfl⟩⟩
instance : ElT Tryz.prog 148 (.agg #[.int .i64 0, .slice none 0 0]) 2 32 := ⟨by kernel_rfl, rfl⟩
instance : BldC Tryz.prog 148 [(0, 1), (1, 1)] [.int .i64 0, .slice none 0 0] := ⟨fun parts => by kernel_rfl⟩
instance : AggC Tryz.prog 151 5 := ⟨⟨_, Tryz.underlying151, rfl⟩, by kernel_rfl⟩
instance : FldC Tryz.prog 151 0 0 4 1 := ⟨⟨_, _, Tryz.underlying151, rfl, rfl, rfl⟩, by kernel_rfl, by decide⟩
instance : FldC Tryz.prog 151 1 1 3 1 := ⟨⟨_, _, Tryz.underlying151, rfl, rfl, rfl⟩, by kernel_rfl, by decide⟩
instance : FldC Tryz.prog 151 2 2 148 2 := ⟨⟨_, _, Tryz.underlying151, rfl, rfl, rfl⟩, by kernel_rfl, by decide⟩
instance : FldC Tryz.prog 151 3 4 149 1 := ⟨⟨_, _, Tryz.underlying151, rfl, rfl, rfl⟩, by kernel_rfl, by decide⟩
instance : ZC Tryz.prog 151 [.bool false, .int .i64 0, .int .i64 0, .slice none 0 0, .slice none 0 0] := ⟨⟨.agg #[.bool false, .int .i64 0, .int .i64 0, .slice none 0 0, .slice none 0 0], by kernel_rfl, rfl⟩⟩
instance : ElT Tryz.prog 151 (.agg #[.bool false, .int .i64 0, .int .i64 0, .slice none 0 0, .slice none 0 0]) 5 72 := ⟨by kernel_rfl, rfl⟩
instance : BldC Tryz.prog 151 [(0, 1), (1, 1), (2, 2), (4, 1)] [.bool false, .int .i64 0, .int .i64 0, .slice none 0 0, .slice none 0 0] := ⟨fun parts => by kernel_rfl⟩
instance : AggC Tryz.prog 164 2 := ⟨⟨_, Tryz.underlying164, rfl⟩, by kernel_rfl⟩
instance : FldC Tryz.prog 164 0 0 3 1 := ⟨⟨_, _, Tryz.underlying164, rfl, rfl, rfl⟩, by kernel_rfl, by decide⟩
instance : FldC Tryz.prog 164 1 1 3 1 := ⟨⟨_, _, Tryz.underlying164, rfl, rfl, rfl⟩, by kernel_rfl, by decide⟩
instance : ZC Tryz.prog 164 [.int .i64 0, .int .i64 0] := ⟨⟨.agg #[.int .i64 0, .int .i64 0], by kernel_rfl, rfl⟩⟩
instance : ElT Tryz.prog 164 (.agg #[.int .i64 0, .int .i64 0]) 2 16 := ⟨by kernel_rfl, rfl⟩
instance : BldC Tryz.prog 164 [(0, 1), (1, 1)] [.int .i64 0, .int .i64 0] := ⟨fun parts => by kernel_rfl⟩
instance : AggC Tryz.prog 169 5 := ⟨⟨_, Tryz.underlying169, rfl⟩, by kernel_rfl⟩
instance : FldC Tryz.prog 169 0 0 3 1 := ⟨⟨_, _, Tryz.underlying169, rfl, rfl, rfl⟩, by kernel_rfl, by decide⟩
instance : FldC Tryz.prog 169 1 1 3 1 := ⟨⟨_, _, Tryz.underlying169, rfl, rfl, rfl⟩, by kernel_rfl, by decide⟩
instance : FldC Tryz.prog 169 2 2 3 1 := ⟨⟨_, _, Tryz.underlying169, rfl, rfl, rfl⟩, by kernel_rfl, by decide⟩
instance : FldC Tryz.prog 169 3 3 3 1 := ⟨⟨_, _, Tryz.underlying169, rfl, rfl, rfl⟩, by kernel_rfl, by decide⟩
instance : FldC Tryz.prog 169 4 4 9 1 := ⟨⟨_, _, Tryz.underlying169, rfl, rfl, rfl⟩, by kernel_rfl, by decide⟩
instance : ZC Tryz.prog 169 [.int .i64 0, .int .i64 0, .int .i64 0, .int .i64 0, .string ⟨#[]⟩] := ⟨⟨.agg #[.int .i64 0, .int .i64 0, .int .i64 0, .int .i64 0, .string ⟨#[]⟩], by kernel_rfl, rfl⟩⟩
instance : ElT Tryz.prog 169 (.agg #[.int .i64 0, .int .i64 0, .int .i64 0, .int .i64 0, .string ⟨#[]⟩]) 5 48 := ⟨by kernel_rfl, rfl⟩
instance : BldC Tryz.prog 169 [(0, 1), (1, 1), (2, 1), (3, 1), (4, 1)] [.int .i64 0, .int .i64 0, .int .i64 0, .int .i64 0, .string ⟨#[]⟩] := ⟨fun parts => by kernel_rfl⟩
instance : AggC Tryz.prog 179 2 := ⟨⟨_, Tryz.underlying179, rfl⟩, by kernel_rfl⟩
instance : FldC Tryz.prog 179 0 0 9 1 := ⟨⟨_, _, Tryz.underlying179, rfl, rfl, rfl⟩, by kernel_rfl, by decide⟩
instance : FldC Tryz.prog 179 1 1 9 1 := ⟨⟨_, _, Tryz.underlying179, rfl, rfl, rfl⟩, by kernel_rfl, by decide⟩
instance : ZC Tryz.prog 179 [.string ⟨#[]⟩, .string ⟨#[]⟩] := ⟨⟨.agg #[.string ⟨#[]⟩, .string ⟨#[]⟩], by kernel_rfl, rfl⟩⟩
instance : ElT Tryz.prog 179 (.agg #[.string ⟨#[]⟩, .string ⟨#[]⟩]) 2 32 := ⟨by kernel_rfl, rfl⟩
instance : BldC Tryz.prog 179 [(0, 1), (1, 1)] [.string ⟨#[]⟩, .string ⟨#[]⟩] := ⟨fun parts => by kernel_rfl⟩
instance : AggC Tryz.prog 201 3 := ⟨⟨_, Tryz.underlying201, rfl⟩, by kernel_rfl⟩
instance : FldC Tryz.prog 201 0 0 3 1 := ⟨⟨_, _, Tryz.underlying201, rfl, rfl, rfl⟩, by kernel_rfl, by decide⟩
instance : FldC Tryz.prog 201 1 1 22 1 := ⟨⟨_, _, Tryz.underlying201, rfl, rfl, rfl⟩, by kernel_rfl, by decide⟩
instance : FldC Tryz.prog 201 2 2 3 1 := ⟨⟨_, _, Tryz.underlying201, rfl, rfl, rfl⟩, by kernel_rfl, by decide⟩
instance : ZC Tryz.prog 201 [.int .i64 0, .slice none 0 0, .int .i64 0] := ⟨⟨.agg #[.int .i64 0, .slice none 0 0, .int .i64 0], by kernel_rfl, rfl⟩⟩
instance : ElT Tryz.prog 201 (.agg #[.int .i64 0, .slice none 0 0, .int .i64 0]) 3 40 := ⟨by kernel_rfl, rfl⟩
instance : BldC Tryz.prog 201 [(0, 1), (1, 1), (2, 1)] [.int .i64 0, .slice none 0 0, .int .i64 0] := ⟨fun parts => by kernel_rfl⟩
instance : AggC Tryz.prog 203 4 := ⟨⟨_, Tryz.underlying203, rfl⟩, by kernel_rfl⟩
instance : FldC Tryz.prog 203 0 0 3 1 := ⟨⟨_, _, Tryz.underlying203, rfl, rfl, rfl⟩, by kernel_rfl, by decide⟩
instance : FldC Tryz.prog 203 1 1 3 1 := ⟨⟨_, _, Tryz.underlying203, rfl, rfl, rfl⟩, by kernel_rfl, by decide⟩
instance : FldC Tryz.prog 203 2 2 3 1 := ⟨⟨_, _, Tryz.underlying203, rfl, rfl, rfl⟩, by kernel_rfl, by decide⟩
instance : FldC Tryz.prog 203 3 3 3 1 := ⟨⟨_, _, Tryz.underlying203, rfl, rfl, rfl⟩, by kernel_rfl, by decide⟩
instance : ZC Tryz.prog 203 [.int .i64 0, .int .i64 0, .int .i64 0, .int .i64 0] := ⟨⟨.agg #[.int .i64 0, .int .i64 0, .int .i64 0, .int .i64 0], by kernel_rfl, rfl⟩⟩
instance : ElT Tryz.prog 203 (.agg #[.int .i64 0, .int .i64 0, .int .i64 0, .int .i64 0]) 4 32 := ⟨by kernel_rfl, rfl⟩
instance : BldC Tryz.prog 203 [(0, 1), (1, 1), (2, 1), (3, 1)] [.int .i64 0, .int .i64 0, .int .i64 0, .int .i64 0] := ⟨fun parts => by kernel_rfl⟩
instance : AggC Tryz.prog 208 5 := ⟨⟨_, Tryz.underlying208, rfl⟩, by kernel_rfl⟩
instance : FldC Tryz.prog 208 0 0 3 1 := ⟨⟨_, _, Tryz.underlying208, rfl, rfl, rfl⟩, by kernel_rfl, by decide⟩
instance : FldC Tryz.prog 208 1 1 3 1 := ⟨⟨_, _, Tryz.underlying208, rfl, rfl, rfl⟩, by kernel_rfl, by decide⟩
instance : FldC Tryz.prog 208 2 2 3 1 := ⟨⟨_, _, Tryz.underlying208, rfl, rfl, rfl⟩, by kernel_rfl, by decide⟩
instance : FldC Tryz.prog 208 3 3 3 1 := ⟨⟨_, _, Tryz.underlying208, rfl, rfl, rfl⟩, by kernel_rfl, by decide⟩
instance : FldC Tryz.prog 208 4 4 9 1 := ⟨⟨_, _, Tryz.underlying208, rfl, rfl, rfl⟩, by kernel_rfl, by decide⟩
instance : ZC Tryz.prog 208 [.int .i64 0, .int .i64 0, .int .i64 0, .int .i64 0, .string ⟨#[]⟩] := ⟨⟨.agg #[.int .i64 0, .int .i64 0, .int .i64 0, .int .i64 0, .string ⟨#[]⟩], by kernel_rfl, rfl⟩⟩
instance : ElT Tryz.prog 208 (.agg #[.int .i64 0, .int .i64 0, .int .i64 0, .int .i64 0, .string ⟨#[]⟩]) 5 48 := ⟨by kernel_rfl, rfl⟩
instance : BldC Tryz.prog 208 [(0, 1), (1, 1), (2, 1), (3, 1), (4, 1)] [.int .i64 0, .int .i64 0, .int .i64 0, .int .i64 0, .string ⟨#[]⟩] := ⟨fun parts => by kernel_rfl⟩
instance : AggC Tryz.prog 216 2 := ⟨⟨_, Tryz.underlying216, rfl⟩, by kernel_rfl⟩
instance : FldC Tryz.prog 216 0 0 3 1 := ⟨⟨_, _, Tryz.underlying216, rfl, rfl, rfl⟩, by kernel_rfl, by decide⟩
instance : FldC Tryz.prog 216 1 1 3 1 := ⟨⟨_, _, Tryz.underlying216, rfl, rfl, rfl⟩, by kernel_rfl, by decide⟩
instance : ZC Tryz.prog 216 [.int .i64 0, .int .i64 0] := ⟨⟨.agg #[.int .i64 0, .int .i64 0], by kernel_rfl, rfl⟩⟩
instance : ElT Tryz.prog 216 (.agg #[.int .i64 0, .int .i64 0]) 2 16 := ⟨by kernel_rfl, rfl⟩
instance : BldC Tryz.prog 216 [(0, 1), (1, 1)] [.int .i64 0, .int .i64 0] := ⟨fun parts => by kernel_rfl⟩
instance : AggC Tryz.prog 246 3 := ⟨⟨_, Tryz.underlying246, rfl⟩, by kernel_rfl⟩
instance : FldC Tryz.prog 246 0 0 3 1 := ⟨⟨_, _, Tryz.underlying246, rfl, rfl, rfl⟩, by kernel_rfl, by decide⟩
instance : FldC Tryz.prog 246 1 1 22 1 := ⟨⟨_, _, Tryz.underlying246, rfl, rfl, rfl⟩, by kernel_rfl, by decide⟩
instance : FldC Tryz.prog 246 2 2 3 1 := ⟨⟨_, _, Tryz.underlying246, rfl, rfl, rfl⟩, by kernel_rfl, by decide⟩
instance : ZC Tryz.prog 246 [.int .i64 0, .slice none 0 0, .int .i64 0] := ⟨⟨.agg #[.int .i64 0, .slice none 0 0, .int .i64 0], by kernel_rfl, rfl⟩⟩
instance : ElT Tryz.prog 246 (.agg #[.int .i64 0, .slice none 0 0, .int .i64 0]) 3 40 := ⟨by kernel_rfl, rfl⟩
instance : BldC Tryz.prog 246 [(0, 1), (1, 1), (2, 1)] [.int .i64 0, .slice none 0 0, .int .i64 0] := ⟨fun parts => by kernel_rfl⟩
instance : AggC Tryz.prog 252 4 := ⟨⟨_, Tryz.underlying252, rfl⟩, by kernel_rfl⟩
instance : FldC Tryz.prog 252 0 0 3 1 := ⟨⟨_, _, Tryz.underlying252, rfl, rfl, rfl⟩, by kernel_rfl, by decide⟩
instance : FldC Tryz.prog 252 1 1 3 1 := ⟨⟨_, _, Tryz.underlying252, rfl, rfl, rfl⟩, by kernel_rfl, by decide⟩
instance : FldC Tryz.prog 252 2 2 3 1 := ⟨⟨_, _, Tryz.underlying252, rfl, rfl, rfl⟩, by kernel_rfl, by decide⟩
instance : FldC Tryz.prog 252 3 3 3 1 := ⟨⟨_, _, Tryz.underlying252, rfl, rfl, rfl⟩, by kernel_rfl, by decide⟩
instance : ZC Tryz.prog 252 [.int .i64 0, .int .i64 0, .int .i64 0, .int .i64 0] := ⟨⟨.agg #[.int .i64 0, .int .i64 0, .int .i64 0, .int .i64 0], by kernel_rfl, rfl⟩⟩
instance : ElT Tryz.prog 252 (.agg #[.int .i64 0, .int .i64 0, .int .i64 0, .int .i64 0]) 4 32 := ⟨by kernel_rfl, rfl⟩
instance : BldC Tryz.prog 252 [(0, 1), (1, 1), (2, 1), (3, 1)] [.int .i64 0, .int .i64 0, .int .i64 0, .int .i64 0] := ⟨fun parts => by kernel_rfl⟩
instance : AggC Tryz.prog 274 2 := ⟨⟨_, Tryz.underlying274, rfl⟩, by kernel_rfl⟩
instance : FldC Tryz.prog 274 0 0 4 1 := ⟨⟨_, _, Tryz.underlying274, rfl, rfl, rfl⟩, by kernel_rfl, by decide⟩
instance : FldC Tryz.prog 274 1 1 9 1 := ⟨⟨_, _, Tryz.underlying274, rfl, rfl, rfl⟩, by kernel_rfl, by decide⟩
instance : ZC Tryz.prog 274 [.bool false, .string ⟨#[]⟩] := ⟨⟨.agg #[.bool false, .string ⟨#[]⟩], by kernel_rfl, rfl⟩⟩
instance : ElT Tryz.prog 274 (.agg #[.bool false, .string ⟨#[]⟩]) 2 24 := ⟨by kernel_rfl, rfl⟩
instance : BldC Tryz.prog 274 [(0, 1), (1, 1)] [.bool false, .string ⟨#[]⟩] := ⟨fun parts => by kernel_rfl⟩
instance : OneC Tryz.prog 22 := ⟨⟨_, Tryz.underlying22, rfl⟩, by kernel_rfl⟩
instance : SlC Tryz.prog 22 3 1 := ⟨Tryz.underlying22, by kernel_rfl⟩
instance : ZC Tryz.prog 22 [.slice none 0 0] := ⟨⟨.slice none 0 0, by kernel_rfl, rfl⟩⟩
instance : ElT Tryz.prog 22 (.slice none 0 0) 1 24 := ⟨by kernel_rfl, rfl⟩
instance : OneC Tryz.prog 27 := ⟨⟨_, Tryz.underlying27, rfl⟩, by kernel_rfl⟩
instance : SlC Tryz.prog 27 9 1 := ⟨Tryz.underlying27, by kernel_rfl⟩
instance : ZC Tryz.prog 27 [.slice none 0 0] := ⟨⟨.slice none 0 0, by kernel_rfl, rfl⟩⟩
instance : ElT Tryz.prog 27 (.slice none 0 0) 1 24 := ⟨by kernel_rfl, rfl⟩
instance : OneC Tryz.prog 30 := ⟨⟨_, Tryz.underlying30, rfl⟩, by kernel_rfl⟩
instance : SlC Tryz.prog 30 164 2 := ⟨Tryz.underlying30, by kernel_rfl⟩
instance : ZC Tryz.prog 30 [.slice none 0 0] := ⟨⟨.slice none 0 0, by kernel_rfl, rfl⟩⟩
instance : ElT Tryz.prog 30 (.slice none 0 0) 1 24 := ⟨by kernel_rfl, rfl⟩
instance : OneC Tryz.prog 33 := ⟨⟨_, Tryz.underlying33, rfl⟩, by kernel_rfl⟩
instance : SlC Tryz.prog 33 129 2 := ⟨Tryz.underlying33, by kernel_rfl⟩
instance : ZC Tryz.prog 33 [.slice none 0 0] := ⟨⟨.slice none 0 0, by kernel_rfl, rfl⟩⟩
instance : ElT Tryz.prog 33 (.slice none 0 0) 1 24 := ⟨by kernel_rfl, rfl⟩
instance : OneC Tryz.prog 34 := ⟨⟨_, Tryz.underlying34, rfl⟩, by kernel_rfl⟩
instance : SlC Tryz.prog 34 90 5 := ⟨Tryz.underlying34, by kernel_rfl⟩
instance : ZC Tryz.prog 34 [.slice none 0 0] := ⟨⟨.slice none 0 0, by kernel_rfl, rfl⟩⟩
instance : ElT Tryz.prog 34 (.slice none 0 0) 1 24 := ⟨by kernel_rfl, rfl⟩
instance : OneC Tryz.prog 35 := ⟨⟨_, Tryz.underlying35, rfl⟩, by kernel_rfl⟩
instance : SlC Tryz.prog 35 132 1 := ⟨Tryz.underlying35, by kernel_rfl⟩
instance : ZC Tryz.prog 35 [.slice none 0 0] := ⟨⟨.slice none 0 0, by kernel_rfl, rfl⟩⟩
instance : ElT Tryz.prog 35 (.slice none 0 0) 1 24 := ⟨by kernel_rfl, rfl⟩
instance : OneC Tryz.prog 51 := ⟨⟨_, Tryz.underlying51, rfl⟩, by kernel_rfl⟩
instance : SlC Tryz.prog 51 216 2 := ⟨Tryz.underlying51, by kernel_rfl⟩
instance : ZC Tryz.prog 51 [.slice none 0 0] := ⟨⟨.slice none 0 0, by kernel_rfl, rfl⟩⟩
instance : ElT Tryz.prog 51 (.slice none 0 0) 1 24 := ⟨by kernel_rfl, rfl⟩
instance : OneC Tryz.prog 54 := ⟨⟨_, Tryz.underlying54, rfl⟩, by kernel_rfl⟩
instance : SlC Tryz.prog 54 144 2 := ⟨Tryz.underlying54, by kernel_rfl⟩
instance : ZC Tryz.prog 54 [.slice none 0 0] := ⟨⟨.slice none 0 0, by kernel_rfl, rfl⟩⟩
instance : ElT Tryz.prog 54 (.slice none 0 0) 1 24 := ⟨by kernel_rfl, rfl⟩
instance : OneC Tryz.prog 55 := ⟨⟨_, Tryz.underlying55, rfl⟩, by kernel_rfl⟩
instance : SlC Tryz.prog 55 151 5 := ⟨Tryz.underlying55, by kernel_rfl⟩
instance : ZC Tryz.prog 55 [.slice none 0 0] := ⟨⟨.slice none 0 0, by kernel_rfl, rfl⟩⟩
instance : ElT Tryz.prog 55 (.slice none 0 0) 1 24 := ⟨by kernel_rfl, rfl⟩
instance : OneC Tryz.prog 56 := ⟨⟨_, Tryz.underlying56, rfl⟩, by kernel_rfl⟩
instance : SlC Tryz.prog 56 153 1 := ⟨Tryz.underlying56, by kernel_rfl⟩
instance : ZC Tryz.prog 56 [.slice none 0 0] := ⟨⟨.slice none 0 0, by kernel_rfl, rfl⟩⟩
instance : ElT Tryz.prog 56 (.slice none 0 0) 1 24 := ⟨by kernel_rfl, rfl⟩
instance : OneC Tryz.prog 85 := ⟨⟨_, Tryz.underlying85, rfl⟩, by kernel_rfl⟩
instance : SlC Tryz.prog 85 121 2 := ⟨Tryz.underlying85, by kernel_rfl⟩
instance : ZC Tryz.prog 85 [.slice none 0 0] := ⟨⟨.slice none 0 0, by kernel_rfl, rfl⟩⟩
instance : ElT Tryz.prog 85 (.slice none 0 0) 1 24 := ⟨by kernel_rfl, rfl⟩
instance : OneC Tryz.prog 88 := ⟨⟨_, Tryz.underlying88, rfl⟩, by kernel_rfl⟩
instance : SlC Tryz.prog 88 203 4 := ⟨Tryz.underlying88, by kernel_rfl⟩
instance : ZC Tryz.prog 88 [.slice none 0 0] := ⟨⟨.slice none 0 0, by kernel_rfl, rfl⟩⟩
instance : ElT Tryz.prog 88 (.slice none 0 0) 1 24 := ⟨by kernel_rfl, rfl⟩
instance : OneC Tryz.prog 115 := ⟨⟨_, Tryz.underlying115, rfl⟩, by kernel_rfl⟩
instance : SlC Tryz.prog 115 179 2 := ⟨Tryz.underlying115, by kernel_rfl⟩
instance : ZC Tryz.prog 115 [.slice none 0 0] := ⟨⟨.slice none 0 0, by kernel_rfl, rfl⟩⟩
instance : ElT Tryz.prog 115 (.slice none 0 0) 1 24 := ⟨by kernel_rfl, rfl⟩
instance : OneC Tryz.prog 127 := ⟨⟨_, Tryz.underlying127, rfl⟩, by kernel_rfl⟩
instance : SlC Tryz.prog 127 201 3 := ⟨Tryz.underlying127, by kernel_rfl⟩
instance : ZC Tryz.prog 127 [.slice none 0 0] := ⟨⟨.slice none 0 0, by kernel_rfl, rfl⟩⟩
instance : ElT Tryz.prog 127 (.slice none 0 0) 1 24 := ⟨by kernel_rfl, rfl⟩
instance : OneC Tryz.prog 132 := ⟨⟨_, Tryz.underlying132, rfl⟩, by kernel_rfl⟩
instance : SlC Tryz.prog 132 169 5 := ⟨Tryz.underlying132, by kernel_rfl⟩
instance : ZC Tryz.prog 132 [.slice none 0 0] := ⟨⟨.slice none 0 0, by kernel_rfl, rfl⟩⟩
instance : ElT Tryz.prog 132 (.slice none 0 0) 1 24 := ⟨by kernel_rfl, rfl⟩
instance : OneC Tryz.prog 142 := ⟨⟨_, Tryz.underlying142, rfl⟩, by kernel_rfl⟩
instance : SlC Tryz.prog 142 246 3 := ⟨Tryz.underlying142, by kernel_rfl⟩
instance : ZC Tryz.prog 142 [.slice none 0 0] := ⟨⟨.slice none 0 0, by kernel_rfl, rfl⟩⟩
instance : ElT Tryz.prog 142 (.slice none 0 0) 1 24 := ⟨by kernel_rfl, rfl⟩
instance : OneC Tryz.prog 146 := ⟨⟨_, Tryz.underlying146, rfl⟩, by kernel_rfl⟩
instance : SlC Tryz.prog 146 274 2 := ⟨Tryz.underlying146, by kernel_rfl⟩
instance : ZC Tryz.prog 146 [.slice none 0 0] := ⟨⟨.slice none 0 0, by kernel_rfl, rfl⟩⟩
instance : ElT Tryz.prog 146 (.slice none 0 0) 1 24 := ⟨by kernel_rfl, rfl⟩
instance : OneC Tryz.prog 149 := ⟨⟨_, Tryz.underlying149, rfl⟩, by kernel_rfl⟩
instance : SlC Tryz.prog 149 252 4 := ⟨Tryz.underlying149, by kernel_rfl⟩
instance : ZC Tryz.prog 149 [.slice none 0 0] := ⟨⟨.slice none 0 0, by kernel_rfl, rfl⟩⟩
instance : ElT Tryz.prog 149 (.slice none 0 0) 1 24 := ⟨by kernel_rfl, rfl⟩
instance : OneC Tryz.prog 153 := ⟨⟨_, Tryz.underlying153, rfl⟩, by kernel_rfl⟩
instance : SlC Tryz.prog 153 208 5 := ⟨Tryz.underlying153, by kernel_rfl⟩
instance : ZC Tryz.prog 153 [.slice none 0 0] := ⟨⟨.slice none 0 0, by kernel_rfl, rfl⟩⟩
instance : ElT Tryz.prog 153 (.slice none 0 0) 1 24 := ⟨by kernel_rfl, rfl⟩
instance : OneC Tryz.prog 182 := ⟨⟨_, Tryz.underlying182, rfl⟩, by kernel_rfl⟩
instance : SlC Tryz.prog 182 5 1 := ⟨Tryz.underlying182, by kernel_rfl⟩
instance : ZC Tryz.prog 182 [.slice none 0 0] := ⟨⟨.slice none 0 0, by kernel_rfl, rfl⟩⟩
instance : ElT Tryz.prog 182 (.slice none 0 0) 1 24 := ⟨by kernel_rfl, rfl⟩
end Go.Proofs.YtccmhdheoeglmaaGreatDoor
/- Parts of slices that read. Plain: no program in sight. -/
namespace Go.Proofs.YtccmhdheoeglmaaGreatDoor
open Go.RowKit
end Go.Proofs.YtccmhdheoeglmaaGreatDoor
/- The rules as walks use them, with the tactics that close their side conditions; parts of slices; appending; regions that draw their order. Plain: no program in sight. -/
namespace Go.Proofs.YtccmhdheoeglmaaGreatDoor
open Go.RowKit
theorem memE {p : Pc} {H : List Pc} (h : p ∈ H := by (repeat (first | exact .head _ | apply List.Mem.tail)); first | done | fail) : p ∈ H := h
theorem cutE {l : List Value} {j m : Nat} {r : List Value} (h : Cut l j m r := by repeat constructor) : Cut l j m r := h
theorem putE {l r s : List Value} {j : Nat} (h : Put l j r s := by first | exact .one .zero | repeat constructor) : Put l j r s := h
theorem evsE {fr : Fr} {aS : List Operand} {vs : List Value} (h : Evs fr aS vs := by repeat (first | exact Evs.nil | apply Evs.cons (by rfl))) : Evs fr aS vs := h
theorem rplE {H S : List Pc} {p q : Pc} (h : Rpl H p q S := by (repeat (first | exact .here | apply Rpl.there)); first | done | fail) : Rpl H p q S := h
theorem frE {a b : Fr} (h : FrSub a b := by repeat (first | exact FrSub.nil | refine FrSub.cons (by rfl) ?_)) : FrSub a b := h
theorem foldl_put (l : List Value) : ∀ (k off : Nat) (A o B : List Value), A.length = off + k → o.length = l.length → (l.zipIdx k).foldl (fun (cs : Array Value) (x : Value × Nat) => cs.setIfInBounds (off + x.2) x.1) (A ++ o ++ B).toArray = (A ++ l ++ B).toArray := by
  induction l with
  | nil => intro k off A o B _ ho; simp at ho; subst ho; simp
  | cons u r ih =>
    intro k off A o B hA ho
    cases o with
    | nil => simp at ho
    | cons z o =>
      rw [List.zipIdx_cons, List.foldl_cons]
      have h4 : (A ++ (z :: o) ++ B).toArray.setIfInBounds (off + k) u = ((A ++ [u]) ++ o ++ B).toArray := by
        rw [← hA]; simp [List.set_append]
      show List.foldl _ ((A ++ (z :: o) ++ B).toArray.setIfInBounds (off + k) u) _ = _
      rw [h4, ih (k + 1) off (A ++ [u]) o B (by simp; omega) (by simpa using ho)]; simp
/-- parts go to their places -/
inductive Fil (pl : Nat → Option (Nat × Nat)) (fr : Fr) : List Value → List (Nat × Operand) → List Value → Prop
  | nil {cs} : Fil pl fr cs [] cs
  | cons {cs i x ps v l off r q} : ev fr x = some v → v.cells = l.toArray → pl i = some (off, l.length) → Put cs off l r → Fil pl fr r ps q → Fil pl fr cs ((i, x) :: ps) q
theorem Fil.run {pl : Nat → Option (Nat × Nat)} {fr : Fr} {n : Nat} {cs q : List Value} {ps : List (Nat × Operand)} (h : Fil pl fr cs ps q) {a : Act} (g : Ag n fr a) : Instr.fill pl cs.toArray (ps.map fun (i, x) => (i, a.eval x)) = some q.toArray := by
  induction h with
  | nil => rfl
  | @cons cs i x ps v l off r q hx hv hp hput _ ih =>
    obtain ⟨A, o, B, rfl, rfl, rfl, ho⟩ := hput.parts
    rw [List.map_cons]
    unfold Instr.fill
    simp only [hp, g.ev hx, hv]
    have h1 : ¬ ((l.toArray.size ≠ l.length) ∨ (A.length + l.toArray.size > (A ++ o ++ B).toArray.size)) := by simp; omega
    rw [if_neg (by simpa using h1)]
    have h2 : l.toArray.zipIdx.foldl (fun (cs : Array Value) (x : Value × Nat) => cs.setIfInBounds (A.length + x.2) x.1) (A ++ o ++ B).toArray = (A ++ l ++ B).toArray := by
      rw [← Array.foldl_toList]
      have := foldl_put l 0 A.length A o B rfl ho
      simpa using this
    rw [h2]; exact ih
theorem filE {pl : Nat → Option (Nat × Nat)} {fr : Fr} {cs q : List Value} {ps : List (Nat × Operand)} (h : Fil pl fr cs ps q := by repeat (first | exact Fil.nil | apply Fil.cons (by rfl) (by rfl) (by rfl) (by repeat constructor))) : Fil pl fr cs ps q := h
theorem yd_bd {P : Program} {n : Nat} {fr : Fr} {H : List Pc} {ty : TypeId} {t : Nat} {pl : List (Nat × Nat)} {zs q : List Value} {ps : List (Nat × Operand)} [hB : BldC P t pl zs] (hf : Fil (pl.toArray[·]?) fr zs ps q) : Yd P n fr H (.build t ps.toArray) ty (.agg q.toArray) := .mk fun a w d pos aft gd g _ => by
  have h3 := hf.run g
  have h4 := run_build (P := P) w t (ps.map fun (i, x) => (i, a.eval x)).toArray q.toArray (by rw [hB.b]; exact h3)
  simp only [List.map_toArray] at h4
  simp [execOp, h4]
theorem ydE {P : Program} {n : Nat} {fr : Fr} {H : List Pc} {o : Op} {ty : TypeId} {v : Value} (h : Yd P n fr H o ty v := by first | (apply yd_move; rfl) | (apply yd_assign; rfl) | (apply yd_nil; rfl) | (apply yd_fa; rfl) | (apply yd_ld; rfl; exact memE; rfl) | (apply yd_ldc; rfl; exact memE; rfl) | (apply yd_lda; rfl; exact memE; exact cutE) | (apply yd_ldac; rfl; exact memE; exact cutE) | (apply yd_pick_t; rfl; rfl) | (apply yd_pick_f; rfl; rfl) | (apply yd_len; rfl) | (apply yd_lens; rfl) | (apply yd_ex; rfl; rfl) | (apply yd_fld; rfl; rfl) | (apply yd_flda; rfl; exact cutE) | (apply yd_lt; rfl; rfl) | (apply yd_le; rfl; rfl) | (apply yd_gt; rfl; rfl) | (apply yd_ge; rfl; rfl) | (apply yd_eq; rfl; rfl) | (apply yd_ne; rfl; rfl) | (apply yd_add; rfl; rfl; omega; omega) | (apply yd_sub; rfl; rfl; omega; omega) | (apply yd_eqs; rfl; rfl) | (apply yd_nes; rfl; rfl) | (apply yd_cat; rfl; rfl; omega) | (apply yd_notd; rfl) | (apply yd_not; rfl) | (apply yd_neg; rfl; omega; omega) | (apply yd_ix; rfl; rfl; omega; omega) | (apply yd_ixs; rfl; rfl; omega; omega) | (apply yd_quo; rfl; rfl; omega; omega; omega) | (apply yd_rem; rfl; rfl; omega; omega) | (apply yd_mul; rfl; rfl; omega; omega) | (apply yd_cv; rfl; omega; omega) | (apply yd_eqb; rfl; rfl) | (apply yd_neb; rfl; rfl) | (apply yd_fn; exact evsE) | (apply yd_nilf; rfl) | (apply yd_min; rfl; rfl) | (apply yd_max; rfl; rfl) | (apply yd_bd; exact filE)) : Yd P n fr H o ty v := h
section
variable {c : Cx} {fr : Fr} {H : List Pc} {k : List It} {Φ : Gl} {ops : Array Oper} {rest : List Oper} {d : Nat} {o : Op} {ty : TypeId} {pos : String} {aft : Array Edge} {v u : Value} {x y : Operand}
theorem st {t g tt o' j m : Nat} {A cs B l r : List Value} {S : List Pc} {gd : Option (Nat × Bool)} (h : T c fr S Φ) (hx : ev fr x = some (ptr g o' j) := by rfl) (hy : ev fr y = some v := by rfl) (hv : v.cells = l.toArray := by rfl) (hs : (c.P.info? t).map (·.size) = some m := by first | exact AggC.s | exact OneC.s) (hl : l.length = m := by rfl)
    (hr : Rpl H (.row g tt o' A cs B) (.row g tt o' A r B) S := by (repeat (first | exact .here | apply Rpl.there)); first | done | fail) (hp : Put cs j l r := by first | exact .one .zero | repeat constructor) (h1 : l.all (·.oneCell') = true := by rfl) : Ef c fr H ⟨none, .store t x y, ty, pos, aft, gd⟩ Φ := ef_store hs hx hy hv hl h1 hp hr h
theorem cf {f : Nat} {vs : List Value} {A M R : List Pc} {σ : Type} {C : σ → Prop} {vv : σ → Value} {N : σ → List Pc} (hf : Fn c.P f vs A M C vv N) (h : ∀ s, C s → T c ((d, vv s) :: fr) (N s ++ R) Φ)
    (hM : Picks H M R := by repeat (first | exact Picks.nil | apply Picks.cons (by (repeat (first | exact .here | apply Pick.there)); first | done | fail))) (hA : Mems A R := by repeat (first | exact Mems.nil | refine Mems.cons (by (repeat (first | exact .head _ | apply List.Mem.tail)); first | done | fail) ?_)) (hmM : M.all (·.mu) = true := by rfl) (hmA : A.all (fun p => !p.mu) = true := by rfl) : Cl c fr H d f vs Φ := cf_ hf h hM hA hmM hmA
/-- lists put together -/
inductive AppL : List Pc → List Pc → List Pc → Prop
  | nil {R} : AppL [] R R
  | cons {p N R X} : AppL N R X → AppL (p :: N) R (p :: X)
theorem AppL.eq {N R X} (h : AppL N R X) : N ++ R = X := by
  induction h with
  | nil => rfl
  | cons _ ih => simp [ih]
theorem t_app {N R X : List Pc} (h : T c fr X Φ) (hX : AppL N R X := by repeat constructor) : T c fr (N ++ R) Φ := by rw [hX.eq]; exact h
theorem St.ro {G D w0 w} {p q : Pc} (s : St G D w0 H w) (hq : q ∈ H) (hm : q.mu = false) (hpm : p.mu = false) (hp : p.P w) (hF : ∀ b ∈ p.F, b ∈ q.F) : St G D w0 (p :: H) w :=
  s.add (N := [p]) (Below.refl _ _) (by intro x hx; simp at hx; subst hx; exact hp) ⟨by simp, trivial⟩ (by intro x hx b hb; simp at hx; subst hx; exact .inr ⟨hpm, q, hq, hm, hF b hb⟩)
theorem St.conv {G D w0 w} {p q : Pc} {S : List Pc} (s : St G D w0 (p :: S) w) (hm : p.mu = true) (hq : q.P w) (hF : ∀ b ∈ q.F, b ∈ p.F) : St G D w0 (q :: S) w :=
  St.turn (M := [p]) (N := [q]) s (Keep.refl _ w) (by intro x hx; simp at hx; subst hx; exact hq) ⟨by simp, trivial⟩ (by intro x hx b hb; simp at hx; subst hx; exact .inr (.inl ⟨p, by simp, hm, hF b hb⟩))
/-! elements, parts of slices that read -/
/-- what holds of element i: its cells lie there -/
theorem sl_at {α : Type} {E : Elem α} {w : World} {a : Option Addr} {n cp : Nat} {xs : List α} {F : List Nat} (h : (Pc.sl E (.slice a n cp) xs F).P w) (i : Nat) (hi : i < xs.length) :
    ∃ b o cs G, a = some ⟨b, o, none⟩ ∧ E.rep w cs xs[i] G ∧ (∀ x ∈ G, x ∈ F) ∧ b ∈ F ∧ cs ≠ [] ∧ w.rangeAt b (o + i * E.sz) cs := by
  obtain ⟨hz, a', cap, hv, hl, h | ⟨b, o, F', rfl, hne, rfl, hc⟩⟩ := h
  · rw [h.1] at hi; simp at hi
  · simp only [Value.slice.injEq] at hv
    obtain ⟨rfl, -, -⟩ := hv
    obtain ⟨cs, F1, h1, h2, h3⟩ := hc.get i hi
    have hl := E.len h1
    refine ⟨b, o, cs, F1, rfl, h1, fun x hx => by simp [h3 x hx], by simp, fun e => by subst e; simp at hl; omega, fun j u hu => ?_⟩
    have hj : j < E.sz := by have := (List.getElem?_eq_some_iff.1 hu).1; omega
    rw [h2 j hj]; exact hu
theorem at_int {a : Option Addr} {n cp : Nat} {xs : List Int} {F : List Nat} (i : Nat) (h : ∀ (hi : i < xs.length) b o, a = some ⟨b, o, none⟩ → T c fr (.cel b (o + i * 1) [.int .i64 xs[i]] :: H) Φ) (hm : .sl EInt (.slice a n cp) xs F ∈ H := by (repeat (first | exact .head _ | apply List.Mem.tail)); first | done | fail) (hi : i < xs.length := by omega) : T c fr H Φ := .mk fun ac w s g => by
  obtain ⟨b, o, cs, G, ha, ⟨rfl, rfl⟩, -, hb, hne, hr⟩ := sl_at (s.get hm) i hi
  exact (h hi b o ha).h ac w (s.ro hm rfl rfl ⟨hne, hr⟩ (by intro x hx; simp [Pc.F] at hx; subst hx; exact hb)) g
/-- the empty slice is owned -/
theorem t_nilow {α : Type} (E : Elem α) (t : TypeId) (h : T c fr (.ow E t (.slice none 0 0) [] [] :: H) Φ) : T c fr H Φ := .mk fun a w s g =>
  h.h a w (s.add (N := [.ow E t (.slice none 0 0) [] []]) (Below.refl _ _) (by intro p hp; simp at hp; subst hp; exact ⟨by simp, .inl ⟨rfl, rfl, rfl⟩⟩) ⟨by simp, trivial⟩ (by intro p hp b hb; simp at hp; subst hp; simp [Pc.F] at hb)) g
theorem t_nilsl {α : Type} (E : Elem α) (hz : 0 < E.sz) (h : T c fr (.sl E (.slice none 0 0) [] [] :: H) Φ) : T c fr H Φ := .mk fun a w s g =>
  h.h a w (s.add (N := [.sl E (.slice none 0 0) [] []]) (Below.refl _ _) (by intro p hp; simp at hp; subst hp; exact ⟨hz, none, 0, rfl, ⟨Nat.le_refl _, by unfold maxLen; omega⟩, .inl ⟨rfl, rfl, fun _ => rfl⟩⟩) ⟨by simp, trivial⟩ (by intro p hp b hb; simp at hp; subst hp; simp [Pc.F] at hb)) g
/-- an empty slice is built -/
theorem bs0 {t e m : Nat} {gd : Option (Nat × Bool)} [hS : SlC c.P t e m] (h : ∀ g, T c ((d, .slice (some ⟨g, 0, none⟩) 0 0) :: fr) (.row g e 0 [] [] [] :: H) Φ) (hd : Nat.blt d c.n = true := by rfl) : Ef c fr H ⟨some d, .buildSlice t 0 #[], ty, pos, aft, gd⟩ Φ := ef_of fun Q a w s g => by
  have e1 : (execOp a.eval ⟨some d, .buildSlice t 0 #[], ty, pos, aft, gd⟩).run c.P w = .ok (.value (.slice (some ⟨w.heap.size, 0, none⟩) 0 0)) (w.alloc (.cells #[] e)) := by
    simp [execOp, Instr.buildSlice, run_underlying hS.u, size_of hS.s, Instr.fill, newRow, Array.range_zero']
  rw [e1]
  exact (h _).h _ _ (s.new e []) (g.put hd)
inductive AppV : List Value → List Value → List Value → Prop
  | nil {r} : AppV [] r r
  | cons {u l r q} : AppV l r q → AppV (u :: l) r (u :: q)
theorem AppV.eq {l r q} (h : AppV l r q) : l ++ r = q := by
  induction h with
  | nil => rfl
  | cons _ ih => simp [ih]
inductive Rpt (zs : List Value) : Nat → List Value → Prop
  | zero : Rpt zs 0 []
  | succ {n r q} : Rpt zs n r → AppV zs r q → Rpt zs (n + 1) q
theorem Rpt.eq {zs : List Value} {n q} (h : Rpt zs n q) : q = (List.replicate n zs).flatten := by
  induction h with
  | zero => rfl
  | succ _ h2 ih => rw [← h2.eq, ih, List.replicate_succ, List.flatten_cons]
/-- a slice's literal -/
theorem bs {t e m b len : Nat} {z : Value} {zs cs q : List Value} {ps : List (Nat × Operand)} {gd : Option (Nat × Bool)} [hS : SlC c.P t e m] [hE : ElT c.P e z m b] [hZ : ZC c.P e zs] (h : ∀ g, T c ((d, .slice (some ⟨g, 0, none⟩) len len) :: fr) (.row g e 0 [] q [] :: H) Φ)
    (hc : Rpt zs len cs := by repeat constructor) (hf : Fil (fun i => some (i * m, m)) fr cs ps q := by repeat (first | exact Fil.nil | apply Fil.cons (by rfl) (by rfl) (by rfl) (by repeat constructor))) (hl : Nat.ble (len * m) 1000 = true := by rfl) (hm : Nat.blt 0 m = true := by rfl) (hlen : Nat.blt 0 len = true := by rfl) (hd : Nat.blt d c.n = true := by rfl) :
    Ef c fr H ⟨some d, .buildSlice t len ps.toArray, ty, pos, aft, gd⟩ Φ := ef_of fun Q a w s g => by
  have hm0 : m ≠ 0 := by have : 0 < m := by simpa using hm
                         omega
  have hlen0 : len ≠ 0 := by have : 0 < len := by simpa using hlen
                             omega
  have hl2 : len * m ≤ 1000 := by simpa using hl
  obtain ⟨i, hi, hz⟩ := Option.map_eq_some_iff.1 hE.i
  simp only [Prod.mk.injEq] at hz
  obtain ⟨hz, hs, -⟩ := hz
  obtain ⟨z', hz', hzc⟩ := hZ.z
  obtain rfl : z' = z := by rw [hi] at hz'; simp [hz] at hz'; exact hz'.symm
  have hzl : zs.length = m := by have := hE.s; rw [hzc] at this; simpa using this
  have e2 : ((Array.range (len * m)).map (zs.toArray[· % zs.toArray.size]!)) = cs.toArray := by
    have := madeCells_flat zs.toArray len
    rw [hc.eq]
    apply Array.ext'
    rw [show zs.toArray.size = m from by simp [hzl]] at this
    simpa [madeCells] using this
  have e1 : (execOp a.eval ⟨some d, .buildSlice t len ps.toArray, ty, pos, aft, gd⟩).run c.P w = .ok (.value (.slice (some ⟨w.heap.size, 0, none⟩) len len)) (w.alloc (.cells q.toArray e)) := by
    have h3 := hf.run g
    have hne : ¬ (len * m = 0) := Nat.mul_ne_zero hlen0 hm0
    have hns : ¬ (len * m > 2 ^ 24) := by omega
    have hzv : (zeroValue e).run c.P w = .ok z' w := by simp [zeroValue, typeInfo, hi, hz]
    simp only [execOp, Instr.buildSlice, Sem.run_bind, run_underlying hS.u, size_of hS.s, Result.andThen_ok, if_neg hns, if_neg hne, hzv, hzc, Sem.run_pure, Sem.run_ite, e2]
    simp only [List.map_toArray, h3, newRow, Sem.run_bind, run_newObj_alloc, Result.andThen_ok, Sem.run_pure]
  rw [e1]
  exact (h _).h _ _ (s.new e q) (g.put hd)
theorem o_bs0 {t e m : Nat} [SlC c.P t e m] (hd : Nat.blt d c.n = true) (h : ∀ g, T c ((d, .slice (some ⟨g, 0, none⟩) 0 0) :: fr) (.row g e 0 [] [] [] :: H) Φ) : On c fr H (some d) (.buildSlice t 0 #[]) ty Φ := ⟨fun _ _ _ => bs0 h hd⟩
theorem rptE {zs : List Value} {n : Nat} {q : List Value} (h : Rpt zs n q := by repeat constructor) : Rpt zs n q := h
theorem o_bs {t e m b len : Nat} {z : Value} {zs cs q : List Value} {ps : List (Nat × Operand)} [SlC c.P t e m] [ElT c.P e z m b] [ZC c.P e zs] (hd : Nat.blt d c.n = true) (hlen : Nat.blt 0 len = true) (hm : Nat.blt 0 m = true) (hl : Nat.ble (len * m) 1000 = true) (hc : Rpt zs len cs) (hf : Fil (fun i => some (i * m, m)) fr cs ps q) (h : ∀ g, T c ((d, .slice (some ⟨g, 0, none⟩) len len) :: fr) (.row g e 0 [] q [] :: H) Φ) :
    On c fr H (some d) (.buildSlice t len ps.toArray) ty Φ := ⟨fun _ _ _ => bs h hc hf hl hm hlen hd⟩
end
end Go.Proofs.YtccmhdheoeglmaaGreatDoor
/- Appending, parts of slices, regions that draw their order, a function's beginning and end: as walks use them. Plain: no program in sight. -/
namespace Go.Proofs.YtccmhdheoeglmaaGreatDoor
open Go.RowKit
/-- two parts of a list without repeats stand apart -/
theorem nodup_apt {A B : List Nat} (h : (A ++ B).Nodup) {b : Nat} (ha : b ∈ A) (hb : b ∈ B) : False := (List.nodup_append.1 h).2.2 b ha b hb rfl
section
variable {c : Cx} {fr : Fr} {H : List Pc} {k : List It} {Φ : Gl} {ops : Array Oper} {rest : List Oper} {d : Nat} {o : Op} {ty : TypeId} {pos : String} {aft : Array Edge} {v u : Value} {x y : Operand}
/-! parts of slices that read -/
/-! one element of an owned slice, of elements without blocks of their own -/
/-! calls by the elder contracts -/
theorem cn {α : Type} {E : Elem α} {t : TypeId} {xs : List α} {f : Nat} {vs : List Value} (hc : ∀ w, St c.G c.D c.w0 H w → Calls c.P f vs.toArray w (RetNew E t xs w)) (h : ∀ a cp F, T c ((d, .slice a xs.length cp) :: fr) (.ow E t (.slice a xs.length cp) xs F :: H) Φ) : Cl c fr H d f vs Φ :=
  cl_of hc (fun w e w' s hR => by
    obtain ⟨v, F, he, ho, hn, hF, hB⟩ := hR
    obtain ⟨a, cp, rfl⟩ := ho.slice
    exact ⟨_, he, fun ac g => (h a cp F).h ac w' (s.add (N := [.ow E t (.slice a xs.length cp) xs F]) hB (by intro q hq; simp at hq; subst hq; exact ⟨hn, ho⟩) ⟨by simp, trivial⟩ (by intro q hq b hb; simp at hq; subst hq; exact .inl (hF b hb))) g⟩)
theorem cv {α : Type} {E : Elem α} {z : α} {f : Nat} {vs : List Value} (hc : ∀ w, St c.G c.D c.w0 H w → Calls c.P f vs.toArray w (RetV E z w)) (h : ∀ v F, T c ((d, v) :: fr) (.own E v z F :: H) Φ) : Cl c fr H d f vs Φ :=
  cl_of hc (fun w e w' s hR => by
    obtain ⟨v, F, he, ho, hn, hF, hB⟩ := hR
    exact ⟨_, he, fun ac g => (h v F).h ac w' (s.add (N := [.own E v z F]) hB (by intro q hq; simp at hq; subst hq; exact ⟨hn, ho⟩) ⟨by simp, trivial⟩ (by intro q hq b hb; simp at hq; subst hq; exact .inl (hF b hb))) g⟩)
/-! regions that draw their order -/
inductive Nth : List Pc → Nat → Pc → Prop
  | zero {p R} : Nth (p :: R) 0 p
  | succ {x p R i} : Nth R i p → Nth (x :: R) (i + 1) p
inductive Sel (H : List Pc) : List Nat → List Pc → Prop
  | nil : Sel H [] []
  | cons {i is p R} : Nth H i p → Sel H is R → Sel H (i :: is) (p :: R)
variable {H0 : List Pc} {X : List Nat} {f : Nat} {listed : Array Bool}
theorem d_start {id : Nat} {l : List Oper} (is X : List Nat) (h : T c fr H (.dx k H0 X l.toArray l.length (Array.replicate l.length false))) (_hsel : Sel H is H0 := by repeat constructor) (hm : c.P.follows .mixedOrders = true := by kernel_rfl) : T c fr H (.code k (Code.region id l.toArray true)) := .mk fun a w s g => by
  refine AnyX.start (S := Hol H0) (X := fun i => X.contains i) hm ?_
  have := h.h a w.drew (s.below (belowDrewN (Below.refl _ _) 1)) g
  simpa [Gl.sem] using this
/-- a panic leaves the slots alone -/
def PanOk (c : Cx) : Prop := ∀ ch d v a w, c.R (.panic ch) (Act.put a d v) w → c.R (.panic ch) a w
theorem panOk {P : Program} {D G : List Nat} {w0 : World} {n : Nat} {fn : Func} {R : Ending → World → Prop} : PanOk ⟨P, G, D, w0, n, bodyPost P fn R⟩ := fun ch d v a w h => by
  cases d <;> exact h
theorem dt (i : Nat) (h : T c ((d, v) :: fr) H (.dx k H0 X ops f (listed.setIfInBounds i true))) (ho : ops[i]? = some ⟨some d, o, ty, pos, aft, none⟩ := by rw [List.getElem?_toArray]; rfl) (hy : Yd c.P c.n fr H0 o ty v := by exact ydE) (hs : Mems H0 H := by repeat (first | exact Mems.nil | refine Mems.cons (by (repeat (first | exact .head _ | apply List.Mem.tail)); first | done | fail) ?_))
    (h1 : Region.noSelect ops = true := by kernel_rfl) (h2 : Region.free .any ops listed i = true := by kernel_rfl) (h3 : (Region.ready .any ops listed).contains i = true := by kernel_rfl) (h4 : waitsAll .any ops (fun i => X.contains i) i = true := by kernel_rfl) (h5 : closedB .any ops listed = true := by kernel_rfl) (hR : PanOk c := by exact panOk) (hd : Nat.blt d c.n = true := by rfl) :
    T c fr H (.dx k H0 X ops (f + 1) listed) := .mk fun a w s g =>
  AnyX.take (v := v) ho h1 h2 h3 h4 h5 (fun ch a w hp => by rw [run_panic] at hp ⊢; exact hR _ _ _ _ _ hp) (.inl ⟨rfl, fun w' hw' => hy.h a w' _ _ _ _ g hw'⟩) (fun p hp => s.on p (hs.all p hp)) (h.h _ _ s (g.put hd))
/-- an operation with a guard that holds, taken first -/
theorem dtg (i : Nat) {j t : Nat} {b : Bool} (h : T c ((d, v) :: fr) H (.dx k H0 X ops f (listed.setIfInBounds i true))) (ho : ops[i]? = some ⟨some d, o, ty, pos, aft, some (j, b)⟩ := by rw [List.getElem?_toArray]; rfl) (ht : (ops[j]?).bind (·.dst) = some t := by rfl) (hl : look fr t = some (.bool b) := by rfl) (hy : Yd c.P c.n fr H0 o ty v := by exact ydE) (hs : Mems H0 H := by repeat (first | exact Mems.nil | refine Mems.cons (by (repeat (first | exact .head _ | apply List.Mem.tail)); first | done | fail) ?_))
    (h1 : Region.noSelect ops = true := by kernel_rfl) (h2 : Region.free .any ops listed i = true := by kernel_rfl) (h3 : (Region.ready .any ops listed).contains i = true := by kernel_rfl) (h4 : waitsAll .any ops (fun i => X.contains i) i = true := by kernel_rfl) (h5 : closedB .any ops listed = true := by kernel_rfl) (hR : PanOk c := by exact panOk) (hd : Nat.blt d c.n = true := by rfl) :
    T c fr H (.dx k H0 X ops (f + 1) listed) := .mk fun a w s g =>
  AnyX.take (v := v) ho h1 h2 h3 h4 h5 (fun ch a w hp => by rw [run_panic] at hp ⊢; exact hR _ _ _ _ _ hp) (.inl ⟨by rw [wanted_eq (c := c) ht hl g]; simp, fun w' hw' => hy.h a w' _ _ _ _ g hw'⟩) (fun p hp => s.on p (hs.all p hp)) (h.h _ _ s (g.put hd))
/-- an operation whose guard says no -/
theorem ds (i : Nat) {j t : Nat} {b b' : Bool} (h : T c ((d, undef) :: fr) H (.dx k H0 X ops f (listed.setIfInBounds i true))) (ho : ops[i]? = some ⟨some d, o, ty, pos, aft, some (j, b)⟩ := by rw [List.getElem?_toArray]; rfl) (ht : (ops[j]?).bind (·.dst) = some t := by rfl) (hl : look fr t = some (.bool b') := by rfl) (hb : (b' == b) = false := by rfl) (hs : Mems H0 H := by repeat (first | exact Mems.nil | refine Mems.cons (by (repeat (first | exact .head _ | apply List.Mem.tail)); first | done | fail) ?_))
    (h1 : Region.noSelect ops = true := by kernel_rfl) (h2 : Region.free .any ops listed i = true := by kernel_rfl) (h3 : (Region.ready .any ops listed).contains i = true := by kernel_rfl) (h4 : waitsAll .any ops (fun i => X.contains i) i = true := by kernel_rfl) (h5 : closedB .any ops listed = true := by kernel_rfl) (hR : PanOk c := by exact panOk) (hd : Nat.blt d c.n = true := by rfl) :
    T c fr H (.dx k H0 X ops (f + 1) listed) := .mk fun a w s g =>
  AnyX.take (v := undef) ho h1 h2 h3 h4 h5 (fun ch a w hp => by rw [run_panic] at hp ⊢; exact hR _ _ _ _ _ hp) (.inr ⟨by rw [wanted_eq (c := c) ht hl g]; exact hb, rfl⟩) (fun p hp => s.on p (hs.all p hp)) (h.h _ _ s (g.put hd))
/-- the state holds once more behind an operation -/
theorem dk {i : Nat} (h : T c fr H (.dx k H0 X ops f listed)) (hs : Mems H0 H := by repeat (first | exact Mems.nil | refine Mems.cons (by (repeat (first | exact .head _ | apply List.Mem.tail)); first | done | fail) ?_)) : T c fr H (.dk i k H0 X ops f listed) := .mk fun a w s g => ⟨fun _ p hp => s.on p (hs.all p hp), h.h a w s g⟩
/-- the only one that may come up -/
theorem d1 (i : Nat) {o : Oper} (h : Ef c fr H o (.dk i k H0 X ops f (listed.setIfInBounds i true))) (hr : Region.ready .any ops listed = [i] := by kernel_rfl) (ho : ops[i]? = some o := by rw [List.getElem?_toArray]; rfl) (hg : o.guard = none := by rfl) : T c fr H (.dx k H0 X ops (f + 1) listed) := .mk fun a w s g =>
  AnyX.only hr ho fun K hK => by
    rw [if_pos (by simp [Region.wanted, hg])]
    exact Oper.wp_mono (fun a' w' h' => hK a' w' h'.1 h'.2) (h.h _ a w s g)
theorem d1g (i : Nat) {od : Option Tmp} {j t : Nat} {b : Bool} (h : Ef c fr H ⟨od, o, ty, pos, aft, some (j, b)⟩ (.dk i k H0 X ops f (listed.setIfInBounds i true))) (hr : Region.ready .any ops listed = [i] := by kernel_rfl) (ho : ops[i]? = some ⟨od, o, ty, pos, aft, some (j, b)⟩ := by rw [List.getElem?_toArray]; rfl) (ht : (ops[j]?).bind (·.dst) = some t := by rfl) (hl : look fr t = some (.bool b) := by rfl) : T c fr H (.dx k H0 X ops (f + 1) listed) := .mk fun a w s g =>
  AnyX.only hr ho fun K hK => by
    rw [if_pos (by rw [wanted_eq (c := c) ht hl g]; simp)]
    exact Oper.wp_mono (fun a' w' h' => hK a' w' h'.1 h'.2) (h.h _ a w s g)
/-- two that may come up -/
theorem d2 (i j : Nat) {o o2 : Oper} (h : Ef c fr H o (.dk i k H0 X ops f (listed.setIfInBounds i true))) (h' : Ef c fr H o2 (.dk j k H0 X ops f (listed.setIfInBounds j true)))
    (hr : Region.ready .any ops listed = [i, j] := by kernel_rfl) (ho : ops[i]? = some o := by rw [List.getElem?_toArray]; rfl) (ho2 : ops[j]? = some o2 := by rw [List.getElem?_toArray]; rfl) (hg : o.guard = none := by rfl) (hg2 : o2.guard = none := by rfl) : T c fr H (.dx k H0 X ops (f + 1) listed) := .mk fun a w s g =>
  AnyX.two hr ho ho2 (fun K hK => by
    rw [if_pos (by simp [Region.wanted, hg])]
    exact Oper.wp_mono (fun a' w' h' => hK a' w' h'.1 h'.2) (h.h _ a w s g)) (fun K hK => by
    rw [if_pos (by simp [Region.wanted, hg2])]
    exact Oper.wp_mono (fun a' w' h'' => hK a' w' h''.1 h''.2) (h'.h _ a w s g))
theorem dO (i : Nat) {od : Option Tmp} (hr : Region.ready .any ops listed = [i]) (ho : ops[i]? = some ⟨od, o, ty, pos, aft, none⟩) (h : On c fr H od o ty (.dk i k H0 X ops f (listed.setIfInBounds i true))) : T c fr H (.dx k H0 X ops (f + 1) listed) := d1 i (h.h pos aft none) hr ho rfl
theorem dd (h : T c fr H (.norm k)) (hr : Region.ready .any ops listed = [] := by kernel_rfl) : T c fr H (.dx k H0 X ops f listed) := .mk fun a w s g => AnyX.done hr (h.h a w s g) f
end
/-- slots that keep their values -/
inductive Kf (fr : Fr) : List Nat → Fr → Prop
  | nil : Kf fr [] []
  | cons {t v ts r} : look fr t = some v → Kf fr ts r → Kf fr (t :: ts) ((t, v) :: r)
theorem Kf.sub {fr ts r} (h : Kf fr ts r) : FrSub fr r := by
  induction h with
  | nil => exact .nil
  | cons h _ ih => exact .cons h ih
theorem FrSub.app {fr a b : Fr} (h : FrSub fr a) (h2 : FrSub fr b) : FrSub fr (a ++ b) := by
  induction h with
  | nil => exact h2
  | cons h _ ih => exact .cons h ih
/-- a loop that leaves the pieces alone -/
theorem c_loopR {c : Cx} {fr : Fr} {H : List Pc} {k : List It} {x : Code} {σ : Type} {cst : Fr} (ks : List Nat) (upd : σ → Fr) (C : σ → Prop) (μ : σ → Nat) (s0 : σ) (h0 : C s0)
    (round : ∀ s, C s → T c (upd s ++ cst) H (.code (.lp (LpN c (fun s => upd s ++ cst) (fun _ => H) C μ (μ s)) :: k) x)) (hk : Kf fr ks cst := by repeat (first | exact Kf.nil | apply Kf.cons (by rfl))) (hf : FrSub fr (upd s0) := by exact frE) : T c fr H (.code k (Code.loop x)) :=
  c_loop (fun s => upd s ++ cst) (fun _ => H) C μ s0 h0 round (hf.app hk.sub) (by
    have all : ∀ (H : List Pc), HSub H H := by
      intro H
      induction H with
      | nil => exact .nil
      | cons p H ih => exact .cons .here ih
    exact all _)
/-- ways that meet: what is known where they do, aS a function of s -/
def Jn {σ : Type} (c : Cx) (fr' : σ → Fr) (H' : σ → List Pc) (C : σ → Prop) (a : Act) (w : World) : Prop := ∃ s, C s ∧ St c.G c.D c.w0 (H' s) w ∧ Ag c.n (fr' s) a
theorem c_join {c : Cx} {fr : Fr} {H : List Pc} {k : List It} {x : Code} {σ : Type} (fr' : σ → Fr) (H' : σ → List Pc) (C : σ → Prop) (h : T c fr H (.code (.lp (Jn c fr' H' C) :: k) x)) (h2 : ∀ s, C s → T c (fr' s) (H' s) (.norm k)) : T c fr H (.code k x) := .mk fun a w s g =>
  wp_mono (h.h a w s g) fun e a' w' he => by
    cases e with
    | normal => obtain ⟨z, hz, hs, hg⟩ := he; exact (h2 z hz).h a' w' hs hg
    | _ => exact he
theorem n_join {c : Cx} {fr : Fr} {H : List Pc} {k : List It} {σ : Type} {fr' : σ → Fr} {H' : σ → List Pc} {C : σ → Prop} (s : σ) (hC : C s) (hf : FrSub fr (fr' s) := by repeat (first | exact FrSub.nil | refine FrSub.cons (by rfl) ?_)) (hH : HSub H (H' s) := by repeat (first | exact HSub.nil | refine HSub.cons (by (repeat (first | exact .here | apply Pick.there)); first | done | fail) ?_)) : T c fr H (.norm (.lp (Jn c fr' H' C) :: k)) :=
  .mk fun _ _ st g => ⟨s, hC, st.sub hH, g.sub hf⟩
theorem c_joinS {c : Cx} {fr : Fr} {H : List Pc} {k : List It} {x : Code} {σ : Type} {cst : Fr} {rest : List Pc} (ks rs : List Nat) (upd : σ → Fr) (chg : σ → List Pc) (C : σ → Prop) (h : T c fr H (.code (.lp (Jn c (fun s => upd s ++ cst) (fun s => chg s ++ rest) C) :: k) x)) (h2 : ∀ s, C s → T c (upd s ++ cst) (chg s ++ rest) (.norm k)) (_hk : Kf fr ks cst := by repeat (first | exact Kf.nil | apply Kf.cons (by rfl))) (_hr : Sel H rs rest := by repeat constructor) : T c fr H (.code k x) :=
  c_join _ _ C h h2
theorem enter {P : Program} {f : FuncId} {fn : Func} {cd : Code} {args : List Value} {A M H : List Pc} {σ : Type} {C : σ → Prop} {v : σ → Value} {N : σ → List Pc} {n : Nat} (hf : P.funcs[f]? = some fn) (hb : fn.body = some cd) (hn : fn.ntmps = n)
    (h : ∀ w, T ⟨P, fp M, fp A, w, n, bodyPost P fn (FnPost P w A M C v N)⟩ (args0 0 args) H (.code [] cd))
    (hl : Nat.ble args.length n = true := by rfl) (hmA : A.all (fun p => !p.mu) = true := by rfl) (hH : AppL M A H := by repeat constructor) : Fn P f args A M C v N := by
  subst hn
  exact fn_enter hf hb (fun w => by rw [hH.eq]; exact h w) (by simpa using hl) hmA
theorem ret {P : Program} {fn : Func} {G D : List Nat} {w0 : World} {n : Nat} {A M : List Pc} {σ : Type} {C : σ → Prop} {v : σ → Value} {N : σ → List Pc} {fr : Fr} {H : List Pc} {rs : List ResultVar} {vs : List Value} (s : σ) (hC : C s) (hv : tup vs = v s)
    (hr : fn.results = rs.toArray := by rfl) (h : Res P fr H rs vs := by repeat (first | exact Res.nil | apply Res.tmp (by rfl) | apply Res.agg inferInstance (by rfl) (by (repeat (first | exact .head _ | apply List.Mem.tail)); first | done | fail) (by rfl) | apply Res.one inferInstance (by rfl) (by (repeat (first | exact .head _ | apply List.Mem.tail)); first | done | fail))) (hN : HSub H (N s) := by repeat (first | exact HSub.nil | refine HSub.cons (by (repeat (first | exact .here | apply Pick.there)); first | done | fail) ?_)) (hG : G = fp M := by rfl) (hD : D = fp A := by rfl) : T ⟨P, G, D, w0, n, bodyPost P fn (FnPost P w0 A M C v N)⟩ fr H (.fin .ret) := fn_ret s hC hr h hv hN hG hD
/-- out of a triple: a value, nothing that was there has turned -/
theorem Fn.val {P : Program} {f : FuncId} {args : List Value} {A : List Pc} {C : Unit → Prop} {v : Value} (h : Fn P f args A [] C (fun _ => v) (fun _ => [])) (w : World) (hA : Hol A w) (hm : A.all (fun p => !p.mu) = true := by rfl) : Calls P f args.toArray w fun e w' => e = .returned v ∧ Below w.heap.size w w' :=
  have hs : ∀ (A : List Pc), A.all (fun p => !p.mu) = true → Sep A := by
    intro A
    induction A with
    | nil => intro _; trivial
    | cons p A ih =>
      intro h
      simp only [List.all_cons, Bool.and_eq_true, Bool.not_eq_true'] at h
      exact ⟨fun q hq hm => by have := List.all_eq_true.1 h.2 q hq; simp [h.1] at hm; simp [hm] at this, ih h.2⟩
  (h w (by simpa using hA) (by simpa using hs A hm)).mono fun e w' ⟨_, _, he, _, _, hk, _⟩ => ⟨he, hk.below (Nat.le_refl _) (by simp [fp])⟩
theorem sep_ro : ∀ (A : List Pc), A.all (fun p => !p.mu) = true → Sep A
  | [], _ => trivial
  | p :: A, h => by
    simp only [List.all_cons, Bool.and_eq_true, Bool.not_eq_true'] at h
    exact ⟨fun q hq hm => by have := List.all_eq_true.1 h.2 q hq; simp [h.1] at hm; simp [hm] at this, sep_ro A h.2⟩
theorem Pc.nd {p : Pc} (hm : p.mu = true) {w : World} (h : p.P w) : p.F.Nodup := by
  cases p with
  | row g t o A cs B => simp [Pc.F]
  | ow E t v xs F => exact h.1
  | own E v x F => exact h.1
  | flat E cs xs F => exact h.1
  | _ => cases hm
theorem fp_nd {w : World} : ∀ {N : List Pc}, N.all (·.mu) = true → Hol N w → Sep N → (fp N).Nodup
  | [], _, _, _ => by simp [fp]
  | p :: N, hm, hH, hs => by
    simp only [List.all_cons, Bool.and_eq_true] at hm
    refine List.nodup_append.2 ⟨Pc.nd hm.1 (hH p (by simp)), fp_nd hm.2 (fun q hq => hH q (by simp [hq])) hs.2, fun b hb b' hb' e => ?_⟩
    subst e
    obtain ⟨q, hq, hqb⟩ := mem_fp.1 hb'
    exact hs.1 q hq (by simp [hm.1]) b hb hqb
/-- out of a triple that only reads: what it returns is owned, and new -/
theorem Fn.made {P : Program} {f : FuncId} {args : List Value} {A : List Pc} {σ : Type} {C : σ → Prop} {v : σ → Value} {N : σ → List Pc} (h : Fn P f args A [] C v N) (w : World) (hA : Hol A w) (hN : ∀ s, (N s).all (·.mu) = true) (hm : A.all (fun p => !p.mu) = true := by rfl) :
    Calls P f args.toArray w fun e w' => ∃ s, C s ∧ e = .returned (v s) ∧ Hol (N s) w' ∧ (fp (N s)).Nodup ∧ (∀ b ∈ fp (N s), w.heap.size ≤ b) ∧ Below w.heap.size w w' :=
  (h w (by simpa using hA) (by simpa using sep_ro A hm)).mono fun e w' ⟨s, hC, he, hH, hS, hk, hF⟩ => ⟨s, hC, he, hH, fp_nd (hN s) hH hS, (fun b hb => by
    obtain ⟨p, hp, hpb⟩ := mem_fp.1 hb
    rcases hF p hp b hpb with h | ⟨q, hq, _⟩ | ⟨h, _⟩
    · exact h
    · simp at hq
    · have := List.all_eq_true.1 (hN s) p hp; rw [h] at this; cases this), hk.below (Nat.le_refl _) (by simp [fp])⟩
/-- out of a triple that only reads: what it returns may be read -/
theorem Fn.read {P : Program} {f : FuncId} {args : List Value} {A : List Pc} {σ : Type} {C : σ → Prop} {v : σ → Value} {N : σ → List Pc} (h : Fn P f args A [] C v N) (w : World) (hA : Hol A w) (hm : A.all (fun p => !p.mu) = true := by rfl) :
    Calls P f args.toArray w fun e w' => ∃ s, C s ∧ e = .returned (v s) ∧ Hol (N s) w' ∧ Below w.heap.size w w' :=
  (h w (by simpa using hA) (by simpa using sep_ro A hm)).mono fun e w' ⟨s, hC, he, hH, hS, hk, hF⟩ => ⟨s, hC, he, hH, hk.below (Nat.le_refl _) (by simp [fp])⟩
/-- what is to be shown behind the steps -/
structure Kp (X : Prop) : Prop where
  h : X
section
variable {c : Cx} {fr : Fr} {H : List Pc} {d : Nat} {ty : TypeId} {v : Value} {x : Operand} {Φ : Gl}
theorem o_boxX {Y : Nat → Prop} {t : TypeId} {l : List Value} (hd : Nat.blt d c.n = true) (hx : ev fr x = some v) (hv : v.cells = l.toArray) (hX : Kp (∀ g, Y g)) (h : ∀ g, Kp (Y g) → T c ((d, ptr g 0 0) :: fr) (.row g t 0 [] l [] :: H) Φ) : On c fr H (some d) (.box t x) ty Φ := o_box hd hx hv fun g => h g ⟨hX.h g⟩
theorem o_allocX {Y : Nat → Prop} {t : TypeId} {zs : List Value} [ZC c.P t zs] (hd : Nat.blt d c.n = true) (hX : Kp (∀ g, Y g)) (h : ∀ g, Kp (Y g) → T c ((d, ptr g 0 0) :: fr) (.row g t 0 [] zs [] :: H) Φ) : On c fr H (some d) (.alloc t) ty Φ := o_alloc hd fun g => h g ⟨hX.h g⟩
theorem o_bs0X {Y : Nat → Prop} {t e m : Nat} [SlC c.P t e m] (hd : Nat.blt d c.n = true) (hX : Kp (∀ g, Y g)) (h : ∀ g, Kp (Y g) → T c ((d, .slice (some ⟨g, 0, none⟩) 0 0) :: fr) (.row g e 0 [] [] [] :: H) Φ) : On c fr H (some d) (.buildSlice t 0 #[]) ty Φ := o_bs0 hd fun g => h g ⟨hX.h g⟩
theorem o_bsX {Y : Nat → Prop} {t e m b len : Nat} {z : Value} {zs cs q : List Value} {ps : List (Nat × Operand)} [SlC c.P t e m] [ElT c.P e z m b] [ZC c.P e zs] (hd : Nat.blt d c.n = true) (hlen : Nat.blt 0 len = true) (hm : Nat.blt 0 m = true) (hl : Nat.ble (len * m) 1000 = true) (hc : Rpt zs len cs) (hf : Fil (fun i => some (i * m, m)) fr cs ps q) (hX : Kp (∀ g, Y g)) (h : ∀ g, Kp (Y g) → T c ((d, .slice (some ⟨g, 0, none⟩) len len) :: fr) (.row g e 0 [] q [] :: H) Φ) :
    On c fr H (some d) (.buildSlice t len ps.toArray) ty Φ := o_bs hd hlen hm hl hc hf fun g => h g ⟨hX.h g⟩
end
/-- the steps of a walk that need no choice -/
theorem go {X : Prop} {c : Cx} {fr : Fr} {H : List Pc} {Φ : Gl} (h : X) (hs : Kp X → T c fr H Φ := by intro hX; (repeat (first | apply c_seq | apply c_reg | (apply wO; apply oc; rfl; exact ydE) | apply w_nil | apply n_cd | (apply wg_t; rfl; rfl) | (apply wg_f; rfl; rfl; rfl; rfl) | (apply wg_u; rfl; rfl; rfl) | (apply c_t; rfl) | (apply c_f; rfl) | apply c_skip | apply c_block | apply n_blk | apply c_exit | apply e_hit | apply e_cd | apply e_lp | (apply e_miss; rfl) | apply c_ret | (apply wO; apply o_boxX; rfl; rfl; rfl; exact hX; clear hX; intro _ hX) | (apply wO; apply o_allocX; rfl; exact hX; clear hX; intro _ hX) | (apply wO; apply o_st; rfl; rfl; rfl; (first | exact AggC.s | exact OneC.s); rfl; exact rplE; exact putE; rfl) | (apply wO; apply o_bs0X; rfl; exact hX; clear hX; intro _ hX) | (apply wO; apply o_bsX; rfl; rfl; rfl; rfl; exact rptE; exact filE; exact hX; clear hX; intro _ hX) | (apply wO; apply o_call; rfl; kernel_rfl; exact evsE))); exact hX.h) : T c fr H Φ := hs ⟨h⟩
end Go.Proofs.YtccmhdheoeglmaaGreatDoor
/- Structs of type ReceiveWindow in a walk's state: opened, closed. -/
namespace Go.Proofs.YtccmhdheoeglmaaGreatDoor
open Go.RowKit
section
variable {c : Cx} {fr : Fr} {H : List Pc} {Φ : Gl}
end
end Go.Proofs.YtccmhdheoeglmaaGreatDoor
/- Structs of type Slot in a walk's state: opened, closed. -/
namespace Go.Proofs.YtccmhdheoeglmaaGreatDoor
open Go.RowKit
section
variable {c : Cx} {fr : Fr} {H : List Pc} {Φ : Gl}
end
end Go.Proofs.YtccmhdheoeglmaaGreatDoor
/- Walks: serials: what lies behind, gaps, what is before what. -/
namespace Go.Proofs.YtccmhdheoeglmaaGreatDoor
open Go.RowKit

theorem isSer_iff {x : Int} : isSer x = true ↔ 0 ≤ x ∧ x ≤ 65535 := by unfold isSer btw; simp
/-- the serial n steps behind x -/
def aft (x n : Int) : Int := (x + n) % 65536
/-- the gap from a to b -/
def gp (a b : Int) : Int := (b - a) % 65536
theorem tmod_twice (z : Int) : ((z.tmod 65536) + 65536).tmod 65536 = z % 65536 := by
  rw [Int.tmod_eq_emod (a := z.tmod 65536 + 65536), Int.tmod_eq_emod]
  split <;> split <;> omega
theorem tmod_bd (z : Int) : -65535 ≤ z.tmod 65536 ∧ z.tmod 65536 ≤ 65535 := by
  rw [Int.tmod_eq_emod]
  split <;> omega
theorem after_c (x n : Int) (w : World) (h0 : -4611686018427387904 ≤ x + n) (h1 : x + n ≤ 4611686018427387904) :
    Calls Tryz.prog 168 #[.int .i64 x, .int .i64 n] w fun e w' => e = .returned (.int .i64 (aft x n)) ∧ w = w' := by
  have hb := tmod_bd (x + n)
  have hb1 := hb.1
  have hb2 := hb.2
  clear hb
  by_cases hz : 0 ≤ x + n
  · go_enter Tryz.func168, Tryz.ntmps168
    go_wp2
    go_ret
    exact ⟨ret_int (by unfold aft; omega), rfl⟩
  · have ht := tmod_twice (x + n)
    have ht := Lib.hid ht
    go_enter Tryz.func168, Tryz.ntmps168
    go_wp2
    go_ret
    refine ⟨ret_int ?_, rfl⟩
    have := ht.out
    rw [Int.tmod_eq_emod (a := (x + n).tmod 65536 + 65536)] at this
    unfold aft
    split at this <;> omega
theorem gap_c (a b : Int) (w : World) (h0 : -4611686018427387904 ≤ b - a) (h1 : b - a ≤ 4611686018427387904) (ha : -4611686018427387904 ≤ a) (ha' : a ≤ 4611686018427387904) :
    Calls Tryz.prog 120 #[.int .i64 a, .int .i64 b] w fun e w' => e = .returned (.int .i64 (gp a b)) ∧ w = w' := by
  go_enter Tryz.func120, Tryz.ntmps120
  go_wp2_with fail
  refine (after_c b (-a) _ (by omega) (by omega)).mono ?_
  rintro e w' ⟨rfl, rfl⟩
  go_wp2_with fail
  go_ret
  exact ⟨ret_int (by unfold aft gp; omega), rfl⟩
theorem l2Gap_c (a b : Int) (w : World) (h0 : -65536 ≤ b - a) (h1 : b - a ≤ 4611686018427387904) :
    Calls Tryz.prog 140 #[.int .i64 a, .int .i64 b] w fun e w' => e = .returned (.int .i64 (gp a b)) ∧ w = w' := by
  have h2 : 0 ≤ b - a + 65536 := by omega
  go_enter Tryz.func140, Tryz.ntmps140
  go_wp2
  go_ret
  exact ⟨ret_int (by unfold gp; omega), rfl⟩
end Go.Proofs.YtccmhdheoeglmaaGreatDoor
/- Walks: items: texts of at most eight small letters. -/
namespace Go.Proofs.YtccmhdheoeglmaaGreatDoor
open Go.RowKit Go.Shelf

def low (b : UInt8) : Bool := btw 97 b.toNat 122
def lows (l : List UInt8) : Bool := l.all low
def itm (s : ByteArray) : Bool := decide ((s.size : Int) ≤ 8) && lows s.data.toList
def abc : List UInt8 := [97, 98, 99, 100, 101, 102, 103, 104, 105, 106, 107, 108, 109, 110, 111, 112, 113, 114, 115, 116, 117, 118, 119, 120, 121, 122]
theorem abc_low (b : UInt8) : abc.contains b = low b := by
  have h : ∀ n : Fin 256, abc.contains (UInt8.ofNat n.val) = low (UInt8.ofNat n.val) := by decide +kernel
  have := h ⟨b.toNat, b.toNat_lt⟩
  simpa using this
theorem dropWhile_nil {α : Type} (p : α → Bool) (l : List α) : l.dropWhile p = [] ↔ l.all p = true := by
  induction l with
  | nil => simp
  | cons x r ih => rw [List.dropWhile_cons]; cases h : p x <;> simp [h, ih]
theorem all_dropWhile {α : Type} (p : α → Bool) (l : List α) : (l.dropWhile p).all p = l.all p := by
  induction l with
  | nil => simp
  | cons x r ih => rw [List.dropWhile_cons]; cases h : p x <;> simp [h, ih]
theorem trimS_nil (l cs : List UInt8) : (Lib.trimS l cs = []) ↔ l.all (cs.contains ·) = true := by
  unfold Lib.trimS Lib.trimLeftS Lib.trimRightS
  rw [dropWhile_nil, List.all_reverse, all_dropWhile, List.all_reverse]
theorem trim_abc (l : List UInt8) : (Lib.trimS l abc == []) = lows l := by
  rw [Bool.eq_iff_iff, beq_iff_eq, trimS_nil]
  unfold lows
  rw [show (fun b => abc.contains b) = low from funext abc_low]
set_option maxHeartbeats 400000 in
theorem isItem_c (s : ByteArray) (w : World) (hs : s.size ≤ maxLen) :
    Calls Tryz.prog 209 #[.string s] w fun e w' => e = .returned (.bool (itm s)) ∧ Below w.heap.size w w' := by
  unfold maxLen at hs
  have hc := fun w => Any.strings_Trim_laid Tryz.lays160 (by kernel_rfl) s ⟨abc.toArray⟩ w hs (by decide) (ascii_of_all (by decide))
  change ∀ w, Calls Tryz.prog 237 #[.string s, .string ⟨abc.toArray⟩] w (fun e w' => e = .returned (.string ⟨(Lib.trimS s.data.toList abc).toArray⟩) ∧ Below w.heap.size w w') at hc
  have ht := trim_abc s.data.toList
  replace hc := Lib.hid hc
  by_cases h8 : s.size ≤ 8
  · generalize Lib.trimS s.data.toList abc = t at *
    have hi : itm s = (t == []) := by unfold itm; rw [ht, decide_eq_true (by omega)]; rfl
    replace hi := Lib.hid hi
    clear ht
    cases t with
    | nil =>
      go_enter Tryz.func209, Tryz.ntmps209
      go_wp2_with fail
      refine (hc.out _).mono ?_
      rintro e w1 ⟨rfl, hb⟩
      go_wp2_with fail
      go_ret
      exact ⟨ret_bool hi.out.symm, hb⟩
    | cons a r =>
      go_enter Tryz.func209, Tryz.ntmps209
      go_wp2_with fail
      refine (hc.out _).mono ?_
      rintro e w1 ⟨rfl, hb⟩
      go_wp2_with fail
      go_ret
      exact ⟨ret_bool hi.out.symm, hb⟩
  · have hi : itm s = false := by unfold itm; rw [decide_eq_false (by omega)]; rfl
    replace hi := Lib.hid hi
    go_enter Tryz.func209, Tryz.ntmps209
    go_wp2_with fail
    go_ret
    exact ⟨ret_bool hi.out.symm, Below.refl _ _⟩
theorem lows_drop (s : ByteArray) (k : Nat) (h : k < s.size) : lows (s.data.toList.drop k) = (low s[k] && lows (s.data.toList.drop (k + 1))) := by rw [drop_at s k h]; rfl
set_option maxHeartbeats 400000 in
theorem l4Letters_c (s : ByteArray) (n : Int) (w : World) (hs : s.size ≤ maxLen) :
    Calls Tryz.prog 191 #[.string s, .int .i64 n] w fun e w' => e = .returned (.bool (decide ((s.size : Int) ≤ n) && lows s.data.toList)) ∧ w = w' := by
  unfold maxLen at hs
  go_enter Tryz.func191, Tryz.ntmps191
  go_wp2
  go_loop [5] (fun i => ∃ k : Nat, k ≤ s.size ∧ i = .int .i64 k ∧ Hid (lows s.data.toList = lows (s.data.toList.drop k))) (fun i => s.size - (intOf i).toNat)
  case atStart => exact ⟨0, Nat.zero_le _, rfl, rfl⟩
  case round =>
    obtain ⟨k, hk, rfl, hz⟩ := hrel
    by_cases hlt : k < s.size
    · have hz := Lib.hid (hz.out.trans (lows_drop s k hlt))
      have hb : (s[k].toNat : Int) ≤ 255 := by have := s[k].toNat_lt; omega
      cases hl : low s[k]
      · have hl1 : low s[k] = false := hl
        unfold low btw at hl
        by_cases h1 : (s[k].toNat : Int) < 97
        · clear hl
          go_wp2
          go_ret
          exact ⟨ret_bool (by rw [hz.out, hl1]; simp), rfl⟩
        · have h2 : (122 : Int) < s[k].toNat := by simp at hl; omega
          clear hl
          go_wp2
          go_ret
          exact ⟨ret_bool (by rw [hz.out, hl1]; simp), rfl⟩
      · have hl1 : low s[k] = true := hl
        unfold low btw at hl
        simp only [Bool.and_eq_true, decide_eq_true_eq] at hl
        have h1 : ¬ (s[k].toNat : Int) < 97 := by omega
        have h2 : ¬ (122 : Int) < s[k].toNat := by omega
        clear hl
        replace hl1 := Lib.hid hl1
        go_wp2
        go_round
        case rel => exact ⟨k + 1, by omega, by go_num, by refine Lib.hid ?_; rw [hz.out, hl1.out]; rfl⟩
        case measure => simp [intOf]; omega
    · go_wp2
      go_ret
      exact ⟨ret_bool (by rw [hz.out, drop_end s k hlt]; simp [lows]), rfl⟩
end Go.Proofs.YtccmhdheoeglmaaGreatDoor
/- Walks of Go's generic library functions on slices of impl.Slot. Written by wip/genlib.py. -/
namespace Go.Proofs.YtccmhdheoeglmaaGreatDoor
open Go.RowKit
end Go.Proofs.YtccmhdheoeglmaaGreatDoor
/- Receive windows: the check, what is there. -/
namespace Go.Proofs.YtccmhdheoeglmaaGreatDoor
open Go.RowKit
def okSlot (s : Slot) : Bool := itm s.item && (s.hav || decide (s.item = ⟨#[]⟩))
def havAt (l : List Slot) (k : Nat) : Bool := match l[k]? with | some s => s.hav | none => false
def ends (l : List Slot) : Bool := decide (l.length = 0) || (!havAt l 0 && havAt l (l.length - 1))
def goodRW (x : ReceiveWindow) : Bool := isSer x.next && decide ((x.slots.length : Int) ≤ 8) && x.slots.all okSlot && ends x.slots
def hasB (x : ReceiveWindow) (k : Int) : Bool := havAt x.slots (gp x.next k).toNat
end Go.Proofs.YtccmhdheoeglmaaGreatDoor
/- Receive windows: the reference's check. -/
namespace Go.Proofs.YtccmhdheoeglmaaGreatDoor
open Go.RowKit
end Go.Proofs.YtccmhdheoeglmaaGreatDoor
/- Receive windows: what is released, what is taken. Plain lists. -/
namespace Go.Proofs.YtccmhdheoeglmaaGreatDoor
open Go.RowKit
def plus (s : ByteArray) : ByteArray := ⟨#[43]⟩ ++ s
def rel : Int → List Slot → Int × List Slot × List ByteArray
  | n, [] => (n, [], [])
  | n, s :: r => if s.hav then ((rel (aft n 1) r).1, (rel (aft n 1) r).2.1, plus s.item :: (rel (aft n 1) r).2.2) else (n, s :: r, [])
end Go.Proofs.YtccmhdheoeglmaaGreatDoor
/- Receive windows: the copy, a step, what is released. -/
namespace Go.Proofs.YtccmhdheoeglmaaGreatDoor
open Go.RowKit
end Go.Proofs.YtccmhdheoeglmaaGreatDoor
/- Receive windows: what is released. -/
namespace Go.Proofs.YtccmhdheoeglmaaGreatDoor
open Go.RowKit
def relW (x : ReceiveWindow) : ReceiveWindow := ⟨(rel x.next x.slots).1, (rel x.next x.slots).2.1⟩
def relE (x : ReceiveWindow) : List ByteArray := (rel x.next x.slots).2.2
/-- events so far, the window, where both lie -/
structure RelS where
  es : List ByteArray
  y : ReceiveWindow
  a : Option Addr
  c : Nat
  F : List Nat
  ae : Option Addr
  ce : Nat
  Fe : List Nat
structure RelOk (x : ReceiveWindow) (s : RelS) : Prop where
  n0 : 0 ≤ s.y.next
  n1 : s.y.next ≤ 65535
  it : ∀ z ∈ s.y.slots, z.item.size ≤ 8
  ln : s.es.length + s.y.slots.length ≤ x.slots.length
  w : relW x = relW s.y
  e : relE x = s.es ++ relE s.y
end Go.Proofs.YtccmhdheoeglmaaGreatDoor
/- Receive windows: what is taken, what is given up: in place. -/
namespace Go.Proofs.YtccmhdheoeglmaaGreatDoor
open Go.RowKit
structure PadS where
  j : Nat
  a : Option Addr
  c : Nat
  F : List Nat
end Go.Proofs.YtccmhdheoeglmaaGreatDoor
/- Receive windows: TakeItem and GiveUpTo of the program. -/
namespace Go.Proofs.YtccmhdheoeglmaaGreatDoor
open Go.RowKit
structure GoodRW (x : ReceiveWindow) : Prop where
  n0 : 0 ≤ x.next
  n1 : x.next ≤ 65535
  l : x.slots.length ≤ 8
  it : ∀ s ∈ x.slots, s.item.size ≤ 8
end Go.Proofs.YtccmhdheoeglmaaGreatDoor
/- Receive windows: the reference's. -/
namespace Go.Proofs.YtccmhdheoeglmaaGreatDoor
open Go.RowKit
structure CpS where
  g : Nat
  a : Option Addr
  c : Nat
  F : List Nat
end Go.Proofs.YtccmhdheoeglmaaGreatDoor
/- Receive windows: the reference's taking and giving up. -/
namespace Go.Proofs.YtccmhdheoeglmaaGreatDoor
open Go.RowKit
end Go.Proofs.YtccmhdheoeglmaaGreatDoor
/- Receive windows: the reference's GiveUpTo and TakeItem; the contracts that the laws ask. -/
namespace Go.Proofs.YtccmhdheoeglmaaGreatDoor
open Go.RowKit
end Go.Proofs.YtccmhdheoeglmaaGreatDoor
/- Receive windows: GiveUpTo and TakeItem of the reference; the contracts that the laws ask. -/
namespace Go.Proofs.YtccmhdheoeglmaaGreatDoor
open Go.RowKit
end Go.Proofs.YtccmhdheoeglmaaGreatDoor
/- Receive windows: what is counted, what is there, what is seen; serials. -/
namespace Go.Proofs.YtccmhdheoeglmaaGreatDoor
open Go.RowKit
end Go.Proofs.YtccmhdheoeglmaaGreatDoor
/- Receive windows: what is given up, counted. Plain. -/
namespace Go.Proofs.YtccmhdheoeglmaaGreatDoor
open Go.RowKit
end Go.Proofs.YtccmhdheoeglmaaGreatDoor
/- Receive windows: what is left after giving up is valid; nothing before is awaited. Plain. -/
namespace Go.Proofs.YtccmhdheoeglmaaGreatDoor
open Go.RowKit
end Go.Proofs.YtccmhdheoeglmaaGreatDoor
/- Receive windows: an item that is taken is there or released, once. Plain. -/
namespace Go.Proofs.YtccmhdheoeglmaaGreatDoor
open Go.RowKit
end Go.Proofs.YtccmhdheoeglmaaGreatDoor
/- A string as a row of one. -/
namespace Go.Proofs.YtccmhdheoeglmaaGreatDoor
open Go.RowKit
/-- a row of our own is an owned slice -/
theorem t_row {c : Cx} {fr : Fr} {H : List Pc} {Φ : Gl} {α : Type} {E : Elem α} {t g : Nat} {cs : List Value} {xs : List α} {S : List Pc} (hfl : ∀ w, Flat E w cs xs []) (h : T c fr (.ow E t (.slice (some ⟨g, 0, none⟩) xs.length xs.length) xs [g] :: S) Φ) (hl : xs.length ≤ 1000000) (hp : Pick H (.row g t 0 [] cs []) S := by (repeat (first | exact .here | apply Pick.there)); first | done | fail) : T c fr H Φ := .mk fun a w s g' => by
  have s1 := s.pick hp
  have hr := (s1.on (.row g t 0 [] cs []) (by simp)).2
  have hlen := (hfl w).len
  refine h.h a w (s1.conv rfl ⟨by simp, .inr ⟨g, xs.length, cs, [], [], rfl, by simpa using hr, Nat.le_refl _, by unfold maxLen; omega, by simpa using hlen, hfl w, rfl⟩⟩ (by simp [Pc.F])) g'
end Go.Proofs.YtccmhdheoeglmaaGreatDoor
/- Serials in a row. -/
namespace Go.Proofs.YtccmhdheoeglmaaGreatDoor
open Go.RowKit
structure SpS where
  k : Nat
  a : Option Addr
  c : Nat
  F : List Nat
end Go.Proofs.YtccmhdheoeglmaaGreatDoor
/- More operations: parts of texts, slices made, functions called by their value; a part of a slice that reads. -/
namespace Go.Proofs.YtccmhdheoeglmaaGreatDoor
open Go.RowKit
section
variable {P : Program} {n : Nat} {fr : Fr} {H : List Pc} {ty : TypeId} {x y z : Operand}
end
section
variable {c : Cx} {fr : Fr} {H : List Pc} {k : List It} {Φ : Gl} {ops : Array Oper} {rest : List Oper} {d : Nat} {o : Op} {ty : TypeId} {v u : Value} {x y : Operand}
theorem o_ms {t e m b : Nat} {z : Value} [hS : SlC c.P t e m] [hE : ElT c.P e z m b] (k : Nat) {kl kc : IntKind} {cs : List Value} (hd : Nat.blt d c.n = true) (hx : ev fr x = some (.int kl (k : Nat))) (hy : ev fr y = some (.int kc (k : Nat))) (hcs : madeCells z.cells (k * m) = cs.toArray) (hb : b * k ≤ 281474976710656) (h63 : k ≤ 9223372036854775807)
    (h : ∀ g, T c ((d, .slice (some ⟨g, 0, none⟩) k k) :: fr) (.row g e 0 [] cs [] :: H) Φ) : On c fr H (some d) (.makeSlice t x y) ty Φ := ⟨fun _ _ _ => ef_of fun Q a w s g => by
  obtain ⟨i, hi, hiz⟩ := Option.map_eq_some_iff.1 hE.i
  simp only [Prod.mk.injEq] at hiz
  obtain ⟨i1, i2, i3⟩ := hiz
  have hb' : (i.bytes : Int) * ((k : Nat) : Int) ≤ 281474976710656 := by rw [i3]; have : ((b * k : Nat) : Int) ≤ 281474976710656 := by omega
                                                                         rwa [Int.natCast_mul] at this
  have hr := run_make (P := c.P) w t e i z hS.u hi i1 kl kc (k : Nat) (k : Nat) (by omega) (by omega) hb' (by omega)
  simp only [Int.toNat_natCast, i2, hcs] at hr
  have e1 : ∀ pos aft gd, (execOp a.eval ⟨some d, .makeSlice t x y, ty, pos, aft, gd⟩).run c.P w = .ok (.value (.slice (some ⟨w.heap.size, 0, none⟩) k k)) (w.alloc (.cells cs.toArray e)) := by
    intro pos aft gd
    simp [execOp, g.ev hx, g.ev hy, hr]
  rw [e1]
  exact (h _).h _ _ (s.new e cs) (g.put hd)⟩
end
end Go.Proofs.YtccmhdheoeglmaaGreatDoor
/- Rows written as wholes: an owned slice as its row and back, copying, appending that grows, functions that are entries of the model, parts of a slice as values. -/
namespace Go.Proofs.YtccmhdheoeglmaaGreatDoor
open Go.RowKit
theorem Flat.all {α : Type} {E : Elem α} {w : World} {cs : List Value} {xs : List α} (h : Flat E w cs xs []) (w' : World) : Flat E w' cs xs [] := h.frame (by simp)
section
variable {P : Program} {n : Nat} {fr : Fr} {H : List Pc} {ty : TypeId} {x y z : Operand}
end
section
variable {c : Cx} {fr : Fr} {H k' : List Pc} {k : List It} {Φ : Gl} {d : Nat} {o : Op} {ty : TypeId} {v u : Value} {x y : Operand}
end
end Go.Proofs.YtccmhdheoeglmaaGreatDoor
/- Functions bound to a receiver, clearing, loops beside pieces that are not told. -/
namespace Go.Proofs.YtccmhdheoeglmaaGreatDoor
open Go.RowKit
section
variable {P : Program} {n : Nat} {fr : Fr} {H : List Pc} {ty : TypeId}
end
section
variable {c : Cx} {fr : Fr} {H : List Pc} {k : List It} {Φ : Gl} {d : Nat} {ty : TypeId} {x : Operand}
theorem Flat.rep0 {α : Type} {E : Elem α} {w : World} {zs : List Value} {z : α} (h : E.rep w zs z []) : ∀ n, Flat E w (List.replicate n zs).flatten (List.replicate n z) []
  | 0 => ⟨rfl, rfl⟩
  | n + 1 => ⟨zs, (List.replicate n zs).flatten, [], [], by simp [List.replicate_succ], by simp, h, Flat.rep0 h n⟩
end
end Go.Proofs.YtccmhdheoeglmaaGreatDoor
/- Deleting out of lists of integers, by the engine. -/
namespace Go.Proofs.YtccmhdheoeglmaaGreatDoor
open Go.RowKit
end Go.Proofs.YtccmhdheoeglmaaGreatDoor
/- Receive windows: what is missing. -/
namespace Go.Proofs.YtccmhdheoeglmaaGreatDoor
open Go.RowKit
end Go.Proofs.YtccmhdheoeglmaaGreatDoor
/- Receivers: what is valid, what a tick brings; plain laws. -/
namespace Go.Proofs.YtccmhdheoeglmaaGreatDoor
open Go.RowKit
def okReq (base : Int) (r : Request) : Bool := isSer r.number && decide (gp base r.number < 8) && btw 1 r.state 3 && btw 0 r.untl 10007 && btw 0 r.tries 3
def chkQ (l : List Request) (base : Int) (i : Nat) : Bool := match l[i]? with
  | none => true
  | some r => okReq base r && (decide (i = 0) || match l[i - 1]? with | none => true | some p => !decide (gp base r.number ≤ gp base p.number))
def areQ (l : List Request) (base : Int) : Bool := isSer base && decide ((l.length : Int) ≤ 8) && (List.range l.length).all (chkQ l base)
structure OkReq (base : Int) (r : Request) : Prop where
  n : isSer r.number = true
  g : gp base r.number < 8
  s0 : 1 ≤ r.state
  s1 : r.state ≤ 3
  u0 : 0 ≤ r.untl
  u1 : r.untl ≤ 10007
  t0 : 0 ≤ r.tries
  t1 : r.tries ≤ 3
def zRec : Receiver := ⟨false, 0, ⟨0, []⟩, []⟩
structure GoodR (r : Receiver) : Prop where
  k0 : 0 ≤ r.clock
  k1 : r.clock ≤ 9999
  w : goodRW r.window = true
  q : areQ r.requests r.window.next = true
  f : ∀ z ∈ r.requests, hasB r.window z.number = false
  z : r.started = false → r.window = ⟨0, []⟩ ∧ r.requests = []
end Go.Proofs.YtccmhdheoeglmaaGreatDoor
/- What a valid packet is; plain. -/
namespace Go.Proofs.YtccmhdheoeglmaaGreatDoor
open Go.RowKit
end Go.Proofs.YtccmhdheoeglmaaGreatDoor
/- Walks of Go's generic library functions on slices of string. Written by wip/genlib.py. -/
namespace Go.Proofs.YtccmhdheoeglmaaGreatDoor
open Go.RowKit
set_option maxHeartbeats 800000 in
set_option maxRecDepth 100000 in
theorem IndexFunc_String (fid : FuncId) (hbd : Body Tryz.prog fid) (caps : Array Value) (v : Value) (xs : List ByteArray) (F : List Nat) (p : ByteArray → Bool) (w : World) (h : Sl EStr w v xs F)
    (hp : ∀ (k : Nat) (hk : k < xs.length) (wr : World) (u : Value) (G : List Nat), Below w.heap.size w wr → IsC EStr wr u xs[k] G → Calls Tryz.prog fid (#[u] ++ caps) wr fun e w' => e = .returned (.bool (p xs[k])) ∧ Below wr.heap.size wr w') :
    Calls Tryz.prog 236 #[v, .func (.func fid) #[] caps] w fun e w' => e = .returned (.int .i64 (fidx p xs)) ∧ Below w.heap.size w w' := by
  obtain ⟨a, cap, rfl⟩ := h.slice
  have hl := h.len
  unfold maxLen at hl
  go_enter Tryz.func236, Tryz.ntmps236
  go_wp2
  go_loopw [5, 8] (fun _ i wr => ∃ k : Nat, k ≤ xs.length ∧ i = .int .i64 k ∧ Hid (∀ j, j < k → ∀ hj : j < xs.length, p xs[j] = false) ∧ Below w.heap.size w wr) (fun _ i _ => xs.length - (intOf i).toNat)
  case atStart => exact ⟨0, Nat.zero_le _, rfl, fun j hj => by omega, Below.refl _ _⟩
  case round =>
    obtain ⟨k, hk, rfl, hz, hB⟩ := hrel
    by_cases hlt : k < xs.length
    · have hz0 := hz; clear hz
      obtain ⟨b, off, _, F1, rfl, hx, -, ja⟩ := (h.below (by decide) hB).at k hlt
      obtain ⟨rfl, -, -⟩ := id hx
      have a0 := ja 0 (by decide)
      simp only [show EStr.sz = 1 from rfl, Nat.mul_one, Nat.add_zero, List.getElem?_cons_zero, List.getElem?_cons_succ] at a0
      clear ja
      have hr := hp k hlt wr _ F1 hB ⟨_, rfl, hx⟩
      have hp := Lib.hid hp
      cases hpk : p xs[k]
      all_goals
        rw [hpk] at hr
        have hpk := Lib.hid hpk
        have hr := Lib.hid hr
        go_wp2_with fail
        refine hbd.upon hr.out ?_
        rintro e w1 ⟨rfl, hb1⟩
        refine ⟨_, rfl, ?_⟩
        have hB := tr hB hb1 (Nat.le_refl _)
        clear hb1
        go_wp2_with fail
      · exact ⟨⟨k + 1, by omega, by go_num, fun j hj hl => by rcases Nat.lt_or_eq_of_le (Nat.le_of_lt_succ hj) with h | h; exact hz0.out j h hl; subst h; exact hpk.out, hB⟩, by simp [intOf]; omega⟩
      · go_ret
        exact ⟨ret_int (fidx_hit hlt hz0.out hpk.out).symm, hB⟩
    · go_wp2
      go_ret
      exact ⟨ret_int (fidx_none (fun j hj => hz.out j (by omega) hj)).symm, hB⟩
theorem ContainsFunc_String (fid : FuncId) (hbd : Body Tryz.prog fid) (caps : Array Value) (v : Value) (xs : List ByteArray) (F : List Nat) (p : ByteArray → Bool) (w : World) (h : Sl EStr w v xs F)
    (hp : ∀ (k : Nat) (hk : k < xs.length) (wr : World) (u : Value) (G : List Nat), Below w.heap.size w wr → IsC EStr wr u xs[k] G → Calls Tryz.prog fid (#[u] ++ caps) wr fun e w' => e = .returned (.bool (p xs[k])) ∧ Below wr.heap.size wr w') :
    Calls Tryz.prog 207 #[v, .func (.func fid) #[] caps] w fun e w' => e = .returned (.bool (xs.any p)) ∧ Below w.heap.size w w' := by
  have hp := Lib.hid hp
  go_enter Tryz.func207, Tryz.ntmps207
  go_wp2_with fail
  refine (IndexFunc_String fid hbd caps v xs F p _ h hp.out).mono ?_
  rintro e w1 ⟨rfl, hb1⟩
  go_wp2_with fail
  go_ret
  exact ⟨ret_bool (fidx_any p xs), hb1⟩

end Go.Proofs.YtccmhdheoeglmaaGreatDoor
/- Walks: the window of a source. -/
namespace Go.Proofs.YtccmhdheoeglmaaGreatDoor
open Go.RowKit

def goodWin (x : SendWindow) : Bool := isSer x.trail && btw 1 x.size 6 && decide ((x.items.length : Int) ≤ x.size) && x.items.all itm
theorem goodWin_iff {x : SendWindow} : goodWin x = true ↔ (0 ≤ x.trail ∧ x.trail ≤ 65535) ∧ (1 ≤ x.size ∧ x.size ≤ 6) ∧ (x.items.length : Int) ≤ x.size ∧ x.items.all itm = true := by
  unfold goodWin
  simp only [Bool.and_eq_true, isSer_iff, btw, decide_eq_true_eq, and_assoc]
theorem areItems_1_c (s : ByteArray) (w : World) (hs : s.size ≤ maxLen) :
    Calls Tryz.prog 208 #[.string s] w fun e w' => e = .returned (.bool (!itm s)) ∧ Below w.heap.size w w' := by
  go_enter Tryz.func208, Tryz.ntmps208
  go_wp2_with fail
  refine (isItem_c s _ hs).mono ?_
  rintro e w1 ⟨rfl, hb⟩
  go_wp2_with fail
  go_ret
  exact ⟨rfl, hb⟩
theorem areItems_c (v : Value) (xs : List ByteArray) (F : List Nat) (w : World) (h : Sl EStr w v xs F) :
    Calls Tryz.prog 167 #[v] w fun e w' => e = .returned (.bool (xs.all itm)) ∧ Below w.heap.size w w' := by
  have hq : (!xs.any fun s => !itm s) = xs.all itm := by rw [List.not_any_eq_all_not]; simp
  replace hq := Lib.hid hq
  go_enter Tryz.func167, Tryz.ntmps167
  go_wp2_with fail
  refine (ContainsFunc_String _ (.mk' Tryz.func208 rfl rfl) _ _ xs F (fun s => !itm s) _ h ?_).mono ?_
  · rintro k hk wr u G hb ⟨_, rfl, hu⟩
    obtain ⟨hu, hsz, -⟩ := hu
    cases hu
    exact areItems_1_c _ _ hsz
  rintro e w1 ⟨rfl, hb⟩
  go_wp2_with fail
  go_ret
  exact ⟨ret_bool hq.out, hb⟩
set_option maxHeartbeats 800000 in
theorem IsValidSendWindow_c (v : Value) (x : SendWindow) (F : List Nat) (w : World) (h : IsV ESendWindow w v x F) :
    Calls Tryz.prog 116 #[v] w fun e w' => e = .returned (.bool (goodWin x)) ∧ Below w.heap.size w w' := by
  obtain ⟨_, rfl, v1, rfl, h1⟩ := h
  obtain ⟨a, c, rfl⟩ := h1.slice
  have hl := h1.len
  unfold maxLen at hl
  have hB0 : ∀ A : Obj, Below w.heap.size w (w.alloc A) := fun A => (Below.refl _ _).alloc (Nat.le_refl _) _
  go_enter Tryz.func116, Tryz.ntmps116
  go_wp2_with fail
  refine (IsSerial_c _ _).mono ?_
  rintro e w' ⟨rfl, rfl⟩
  cases g1 : isSer x.trail
  · go_wp2_with fail
    go_ret
    exact ⟨ret_bool (by simp [goodWin, g1]), hB0 _⟩
  go_wp2_with fail
  refine (within_c _ _ _ _).mono ?_
  rintro e w' ⟨rfl, rfl⟩
  cases g2 : btw 1 x.size 6
  · go_wp2_with fail
    go_ret
    exact ⟨ret_bool (by simp [goodWin, g2]), hB0 _⟩
  by_cases g3 : (x.items.length : Int) ≤ x.size
  · go_wp2_with fail
    refine (areItems_c _ x.items F _ (h1.below (by decide) (hB0 _))).mono ?_
    rintro e w1 ⟨rfl, hb⟩
    go_wp2_with fail
    go_ret
    exact ⟨ret_bool (by simp [goodWin, g1, g2, g3]), tr (hB0 _) hb (Nat.le_refl _)⟩
  · go_wp2_with fail
    go_ret
    exact ⟨ret_bool (by simp only [goodWin, decide_eq_false (show ¬ (x.items.length : Int) ≤ x.size by omega), Bool.and_false, Bool.false_and]), hB0 _⟩
end Go.Proofs.YtccmhdheoeglmaaGreatDoor
/- Walks: DropItems, the program's and the reference's. -/
namespace Go.Proofs.YtccmhdheoeglmaaGreatDoor
open Go.RowKit

set_option maxHeartbeats 800000 in
theorem l9Good_c (v : Value) (x : SendWindow) (F : List Nat) (w : World) (h : IsV ESendWindow w v x F) :
    Calls Tryz.prog 136 #[v] w fun e w' => e = .returned (.bool (goodWin x)) ∧ Below w.heap.size w w' := by
  obtain ⟨_, rfl, v1, rfl, h1⟩ := h
  obtain ⟨a, c, rfl⟩ := h1.slice
  have hl := h1.len
  unfold maxLen at hl
  have hB0 : ∀ A : Obj, Below w.heap.size w (w.alloc A) := fun A => (Below.refl _ _).alloc (Nat.le_refl _) _
  go_enter Tryz.func136, Tryz.ntmps136
  go_wp2_with fail
  refine (l2Good_c _ _).mono ?_
  rintro e w' ⟨rfl, rfl⟩
  cases g1 : isSer x.trail
  · go_wp2_with fail
    go_ret
    exact ⟨ret_bool (by simp [goodWin, g1]), hB0 _⟩
  go_wp2_with fail
  refine (l1In_c _ _ _ _).mono ?_
  rintro e w' ⟨rfl, rfl⟩
  cases g2 : btw 1 x.size 6
  · go_wp2_with fail
    go_ret
    exact ⟨ret_bool (by simp [goodWin, g2]), hB0 _⟩
  by_cases g3 : x.size < (x.items.length : Int)
  · go_wp2_with fail
    go_ret
    exact ⟨ret_bool (by simp only [goodWin, decide_eq_false (show ¬ (x.items.length : Int) ≤ x.size by omega), Bool.and_false, Bool.false_and]), hB0 _⟩
  have hg : goodWin x = x.items.all itm := by unfold goodWin; rw [g1, g2, decide_eq_true (by omega)]; simp
  replace hg := Lib.hid hg
  go_wp2_with fail
  have r0 := Row.made w 29 [.int .i64 x.trail, .int .i64 x.size, .slice a x.items.length c]
  have h2 := h1.below (by decide) (hB0 (.cells #[.int .i64 x.trail, .int .i64 x.size, .slice a x.items.length c] 29))
  have hB := hB0 (.cells #[.int .i64 x.trail, .int .i64 x.size, .slice a x.items.length c] 29)
  generalize w.alloc (.cells #[.int .i64 x.trail, .int .i64 x.size, .slice a x.items.length c] 29) = w1 at *
  have c0 := r0.cells
  go_loop [3] (fun i => ∃ k : Nat, k ≤ x.items.length ∧ i = .int .i64 k ∧ Hid (∀ j, j < k → ∀ hj : j < x.items.length, itm x.items[j] = true)) (fun i => x.items.length - (intOf i).toNat)
  case atStart => exact ⟨0, Nat.zero_le _, rfl, fun j hj => by omega⟩
  case round =>
    obtain ⟨k, hk, rfl, hz⟩ := hrel
    by_cases hlt : k < x.items.length
    · obtain ⟨hsz, b, off, rfl, hc⟩ := h2.str.2.2 k hlt
      cases hi : itm x.items[k]
      · have hi2 : (decide ((x.items[k].size : Int) ≤ 8) && lows x.items[k].data.toList) = false := hi
        go_wp2_with fail
        refine (l4Letters_c _ _ _ hsz).mono ?_
        rintro e w' ⟨rfl, rfl⟩
        go_wp2_with fail
        go_ret
        refine ⟨ret_bool ?_, hB⟩
        rw [hg.out]
        exact (List.all_eq_false.2 ⟨x.items[k], List.getElem_mem _, by simp [hi]⟩).symm
      · have hi2 : (decide ((x.items[k].size : Int) ≤ 8) && lows x.items[k].data.toList) = true := hi
        go_wp2_with fail
        refine (l4Letters_c _ _ _ hsz).mono ?_
        rintro e w' ⟨rfl, rfl⟩
        go_wp2_with fail
        exact ⟨⟨k + 1, by omega, by go_num, fun j hj hl => by rcases Nat.lt_or_eq_of_le (Nat.le_of_lt_succ hj) with h | h; exact hz.out j h hl; subst h; exact hi⟩, by simp [intOf]; omega⟩
    · have hk : k = x.items.length := by omega
      go_wp2_with fail
      go_ret
      refine ⟨ret_bool ?_, hB⟩
      rw [hg.out]
      refine (List.all_eq_true.2 fun s hs => ?_).symm
      obtain ⟨j, hj, rfl⟩ := List.getElem_of_mem hs
      exact hz.out j (by omega) hj
end Go.Proofs.YtccmhdheoeglmaaGreatDoor
/- Structs of type Source in a walk's state: opened, closed. -/
namespace Go.Proofs.YtccmhdheoeglmaaGreatDoor
open Go.RowKit
section
variable {c : Cx} {fr : Fr} {H : List Pc} {Φ : Gl}
theorem openSource {v : Value} {x : Source} {F : List Nat} (h : ∀ (a1 : Option Addr) (c1 : Nat) (F1 : List Nat) (a2 : Option Addr) (c2 : Nat) (F2 : List Nat), v = .agg #[.int .i64 x.window.trail, .int .i64 x.window.size, .slice a1 x.window.items.length c1, .int .i64 x.clock, .int .i64 x.quiet, .slice a2 x.holds.length c2] → x.window.items.length ≤ maxLen → x.holds.length ≤ maxLen → T c fr (.sl EStr (.slice a1 x.window.items.length c1) x.window.items F1 :: .sl EHold (.slice a2 x.holds.length c2) x.holds F2 :: H) Φ) (hm : .isv ESource v x F ∈ H := by (repeat (first | exact .head _ | apply List.Mem.tail)); first | done | fail) : T c fr H Φ := .mk fun a w s g => by
  obtain ⟨cs, rfl, v1, v2, G1, G2, rfl, h1, h2, rfl⟩ := s.get hm
  obtain ⟨a1, c1, rfl⟩ := h1.slice; have l1 := h1.len
  obtain ⟨a2, c2, rfl⟩ := h2.slice; have l2 := h2.len
  have t2 := s.ro (p := .sl EHold (.slice a2 x.holds.length c2) x.holds G2) hm rfl rfl ⟨by decide, h2⟩ (by intro b hb; simp only [Pc.F] at hb ⊢; simp [hb])
  have t1 := t2.ro (p := .sl EStr (.slice a1 x.window.items.length c1) x.window.items G1) (List.mem_cons_of_mem _ hm) rfl rfl ⟨by decide, h1⟩ (by intro b hb; simp only [Pc.F] at hb ⊢; simp [hb])
  exact (h a1 c1 G1 a2 c2 G2 rfl  l1 l2).h a w t1 g
theorem closeSource (x : Source) {a1 : Option Addr} {c1 : Nat} {F1 : List Nat} {a2 : Option Addr} {c2 : Nat} {F2 : List Nat}  (h : T c fr (.isv ESource (.agg #[.int .i64 x.window.trail, .int .i64 x.window.size, .slice a1 x.window.items.length c1, .int .i64 x.clock, .int .i64 x.quiet, .slice a2 x.holds.length c2]) x (F1 ++ F2) :: H) Φ) (m1 : .sl EStr (.slice a1 x.window.items.length c1) x.window.items F1 ∈ H := by (repeat (first | exact .head _ | apply List.Mem.tail)); first | done | fail) (m2 : .sl EHold (.slice a2 x.holds.length c2) x.holds F2 ∈ H := by (repeat (first | exact .head _ | apply List.Mem.tail)); first | done | fail) : T c fr H Φ := .mk fun a w s g => by
  have hP : IsV ESource w (.agg #[.int .i64 x.window.trail, .int .i64 x.window.size, .slice a1 x.window.items.length c1, .int .i64 x.clock, .int .i64 x.quiet, .slice a2 x.holds.length c2]) x (F1 ++ F2) := ⟨_, rfl, _, _, _, _, rfl, (s.get m1).2, (s.get m2).2, rfl⟩
  refine h.h a w (s.add (N := [.isv ESource (.agg #[.int .i64 x.window.trail, .int .i64 x.window.size, .slice a1 x.window.items.length c1, .int .i64 x.clock, .int .i64 x.quiet, .slice a2 x.holds.length c2]) x (F1 ++ F2)]) (Below.refl _ _) (by intro q hq; simp at hq; subst hq; exact hP) ⟨by simp, trivial⟩ fun q hq b hb => ?_) g
  simp at hq; subst hq
  simp only [Pc.F, List.mem_append] at hb
  rcases hb with hb | hb
  · exact .inr ⟨rfl, _, m1, rfl, hb⟩
  · exact .inr ⟨rfl, _, m2, rfl, hb⟩
theorem openOSource {v : Value} {x : Source} {F : List Nat} {S : List Pc} (h : ∀ (a1 : Option Addr) (c1 : Nat) (F1 : List Nat) (a2 : Option Addr) (c2 : Nat) (F2 : List Nat), v = .agg #[.int .i64 x.window.trail, .int .i64 x.window.size, .slice a1 x.window.items.length c1, .int .i64 x.clock, .int .i64 x.quiet, .slice a2 x.holds.length c2] → x.window.items.length ≤ maxLen → x.holds.length ≤ maxLen → T c fr (.ow EStr 9 (.slice a1 x.window.items.length c1) x.window.items F1 :: .ow EHold 164 (.slice a2 x.holds.length c2) x.holds F2 :: S) Φ) (hp : Pick H (.own OSource v x F) S := by (repeat (first | exact .here | apply Pick.there)); first | done | fail) : T c fr H Φ := .mk fun a w s g => by
  have z1 := s.pick hp
  obtain ⟨hn, cs, rfl, v1, v2, G1, G2, rfl, h1, h2, rfl⟩ := z1.on (.own OSource v x F) (by simp)
  obtain ⟨a1, c1, rfl⟩ := h1.slice; have l1 := h1.len
  obtain ⟨a2, c2, rfl⟩ := h2.slice; have l2 := h2.len
  have hn2 := hn; simp only [List.nodup_append, List.mem_append] at hn2
  refine (h a1 c1 G1 a2 c2 G2 rfl  l1 l2).h a w (St.turn (M := [.own OSource (.agg #[.int .i64 x.window.trail, .int .i64 x.window.size, .slice a1 x.window.items.length c1, .int .i64 x.clock, .int .i64 x.quiet, .slice a2 x.holds.length c2]) x _]) (N := [.ow EStr 9 (.slice a1 x.window.items.length c1) x.window.items G1, .ow EHold 164 (.slice a2 x.holds.length c2) x.holds G2]) z1 (Keep.refl _ w) ?_ ?_ ?_) g
  · intro q hq; simp only [List.mem_cons, List.not_mem_nil, or_false] at hq
    rcases hq with rfl | rfl
    · exact ⟨(List.nodup_append.1 hn).1, h1⟩
    · exact ⟨(List.nodup_append.1 hn).2.1, h2⟩
  · refine ⟨?_, ⟨?_, trivial⟩⟩
    · intro q hq _ b hb hb2; simp only [List.mem_cons, List.not_mem_nil, or_false] at hq; rcases hq with rfl <;> simp only [Pc.F] at hb hb2 <;> exact nodup_apt hn hb hb2
    · intro q hq _ b hb hb2; simp at hq
  · intro q hq b hb; refine .inr (.inl ⟨_, List.mem_singleton.2 rfl, rfl, ?_⟩); simp only [List.mem_cons, List.not_mem_nil, or_false] at hq; rcases hq with rfl | rfl <;> simp only [Pc.F] at hb ⊢ <;> simp [hb]
theorem closeOSource (x : Source) {a1 : Option Addr} {c1 : Nat} {F1 : List Nat} {a2 : Option Addr} {c2 : Nat} {F2 : List Nat} {S1 S2 : List Pc}  (h : T c fr (.own OSource (.agg #[.int .i64 x.window.trail, .int .i64 x.window.size, .slice a1 x.window.items.length c1, .int .i64 x.clock, .int .i64 x.quiet, .slice a2 x.holds.length c2]) x (F1 ++ F2) :: S2) Φ) (m1 : Pick H (.ow EStr 9 (.slice a1 x.window.items.length c1) x.window.items F1) S1 := by (repeat (first | exact .here | apply Pick.there)); first | done | fail) (m2 : Pick S1 (.ow EHold 164 (.slice a2 x.holds.length c2) x.holds F2) S2 := by (repeat (first | exact .here | apply Pick.there)); first | done | fail)  : T c fr H Φ := .mk fun a w s g => by
  have z1 : St c.G c.D c.w0 ([.ow EStr 9 (.slice a1 x.window.items.length c1) x.window.items F1, .ow EHold 164 (.slice a2 x.holds.length c2) x.holds F2] ++ S2) w := by simpa using (show Picks H [.ow EStr 9 (.slice a1 x.window.items.length c1) x.window.items F1, .ow EHold 164 (.slice a2 x.holds.length c2) x.holds F2] S2 from Picks.cons m1 (Picks.cons m2 (Picks.nil))).st (X := []) (by simpa using s)
  obtain ⟨n1, k1⟩ := z1.on (.ow EStr 9 (.slice a1 x.window.items.length c1) x.window.items F1) (by simp)
  obtain ⟨n2, k2⟩ := z1.on (.ow EHold 164 (.slice a2 x.holds.length c2) x.holds F2) (by simp)
  have hsp := z1.sep
  have p1_2 : ∀ b ∈ F1, b ∉ F2 := hsp.1 (.ow EHold 164 (.slice a2 x.holds.length c2) x.holds F2) (by simp) rfl
  have hN : (F1 ++ F2).Nodup := by
    simp only [List.nodup_append, List.mem_append]
    grind
  refine h.h a w (St.turn (M := [.ow EStr 9 (.slice a1 x.window.items.length c1) x.window.items F1, .ow EHold 164 (.slice a2 x.holds.length c2) x.holds F2]) (N := [.own OSource (.agg #[.int .i64 x.window.trail, .int .i64 x.window.size, .slice a1 x.window.items.length c1, .int .i64 x.clock, .int .i64 x.quiet, .slice a2 x.holds.length c2]) x (F1 ++ F2)]) z1 (Keep.refl _ w) (by intro q hq; simp at hq; subst hq; exact ⟨hN, _, rfl, _, _, _, _, rfl, k1, k2, rfl⟩) ⟨by simp, trivial⟩ fun q hq b hb => ?_) g
  simp at hq; subst hq
  simp only [Pc.F, List.mem_append] at hb
  rcases hb with hb | hb
  · exact .inr (.inl ⟨.ow EStr 9 (.slice a1 x.window.items.length c1) x.window.items F1, by simp, rfl, hb⟩)
  · exact .inr (.inl ⟨.ow EHold 164 (.slice a2 x.holds.length c2) x.holds F2, by simp, rfl, hb⟩)
end
end Go.Proofs.YtccmhdheoeglmaaGreatDoor
/- Structs of type Hold in a walk's state: opened, closed. -/
namespace Go.Proofs.YtccmhdheoeglmaaGreatDoor
open Go.RowKit
section
variable {c : Cx} {fr : Fr} {H : List Pc} {Φ : Gl}
theorem atHold {a : Option Addr} {n cp : Nat} {xs : List Hold} {F : List Nat} (i : Nat) (h : ∀ (hi : i < xs.length) (b o : Nat), a = some ⟨b, o, none⟩ → T c fr (.cel b (o + i * 2) [.int .i64 xs[i].number, .int .i64 xs[i].untl] :: H) Φ) (hm : .sl EHold (.slice a n cp) xs F ∈ H := by (repeat (first | exact .head _ | apply List.Mem.tail)); first | done | fail) (hi : i < xs.length := by omega) : T c fr H Φ := .mk fun ac w s g => by
  obtain ⟨b, o, cs, G, ha, hrep, hG, hb, hne, hr⟩ := sl_at (s.get hm) i hi
  obtain ⟨rfl, rfl⟩ := hrep
  exact (h hi b o  ha  ).h ac w (s.ro hm rfl rfl ⟨hne, hr⟩ (by intro x hx; simp [Pc.F] at hx; subst hx; exact hb)) g
end
end Go.Proofs.YtccmhdheoeglmaaGreatDoor
/- Structs of type SendWindow in a walk's state: opened, closed. -/
namespace Go.Proofs.YtccmhdheoeglmaaGreatDoor
open Go.RowKit
section
variable {c : Cx} {fr : Fr} {H : List Pc} {Φ : Gl}
theorem openSendWindow {v : Value} {x : SendWindow} {F : List Nat} (h : ∀ (a1 : Option Addr) (c1 : Nat) (F1 : List Nat), v = .agg #[.int .i64 x.trail, .int .i64 x.size, .slice a1 x.items.length c1] → x.items.length ≤ maxLen → T c fr (.sl EStr (.slice a1 x.items.length c1) x.items F1 :: H) Φ) (hm : .isv ESendWindow v x F ∈ H := by (repeat (first | exact .head _ | apply List.Mem.tail)); first | done | fail) : T c fr H Φ := .mk fun a w s g => by
  obtain ⟨cs, rfl, v1, rfl, h1⟩ := s.get hm
  obtain ⟨a1, c1, rfl⟩ := h1.slice; have l1 := h1.len
  have t1 := s.ro (p := .sl EStr (.slice a1 x.items.length c1) x.items F) hm rfl rfl ⟨by decide, h1⟩ fun b hb => hb
  exact (h a1 c1 F rfl  l1).h a w t1 g
theorem closeSendWindow (x : SendWindow) {a1 : Option Addr} {c1 : Nat} {F1 : List Nat}  (h : T c fr (.isv ESendWindow (.agg #[.int .i64 x.trail, .int .i64 x.size, .slice a1 x.items.length c1]) x (F1) :: H) Φ) (m1 : .sl EStr (.slice a1 x.items.length c1) x.items F1 ∈ H := by (repeat (first | exact .head _ | apply List.Mem.tail)); first | done | fail) : T c fr H Φ := .mk fun a w s g => by
  have hP : IsV ESendWindow w (.agg #[.int .i64 x.trail, .int .i64 x.size, .slice a1 x.items.length c1]) x (F1) := ⟨_, rfl, _, rfl, (s.get m1).2⟩
  refine h.h a w (s.add (N := [.isv ESendWindow (.agg #[.int .i64 x.trail, .int .i64 x.size, .slice a1 x.items.length c1]) x (F1)]) (Below.refl _ _) (by intro q hq; simp at hq; subst hq; exact hP) ⟨by simp, trivial⟩ fun q hq b hb => ?_) g
  simp at hq; subst hq
  simp only [Pc.F, List.mem_append] at hb
  exact .inr ⟨rfl, _, m1, rfl, hb⟩
end
end Go.Proofs.YtccmhdheoeglmaaGreatDoor
/- Sources: the check. -/
namespace Go.Proofs.YtccmhdheoeglmaaGreatDoor
open Go.RowKit
def heldB (w : SendWindow) (n : Int) : Bool := decide (gp w.trail n < (w.items.length : Int))
theorem clk_bd {n : Int} (h : isClk n = true) : 0 ≤ n ∧ n ≤ 9999 := by unfold isClk btw at h; simpa using h
def chkH (x : Source) (i : Nat) : Bool := match x.holds[i]? with
  | none => true
  | some h => isSer h.number && heldB x.window h.number && btw (x.clock + 1) h.untl (x.clock + 3) && (decide (i = 0) || match x.holds[i - 1]? with | none => true | some p => !decide (gp x.window.trail h.number ≤ gp x.window.trail p.number))
theorem chkH_at {x : Source} {i : Nat} (h : i < x.holds.length) : chkH x i = (isSer x.holds[i].number && heldB x.window x.holds[i].number && btw (x.clock + 1) x.holds[i].untl (x.clock + 3) && (decide (i = 0) || !decide (gp x.window.trail x.holds[i].number ≤ gp x.window.trail (x.holds[i - 1]'(by omega)).number))) := by
  unfold chkH
  rw [List.getElem?_eq_getElem h, List.getElem?_eq_getElem (show i - 1 < x.holds.length by omega)]
def goodSrc (x : Source) : Bool := goodWin x.window && isClk x.clock && btw 0 x.quiet 3 && (List.range x.holds.length).all (chkH x)
theorem goodSrc_no {x : Source} {i : Nat} (h : i < x.holds.length) (hc : chkH x i = false) : goodSrc x = false := by
  have : (List.range x.holds.length).all (chkH x) = false := List.all_eq_false.2 ⟨i, by simpa using h, by simp [hc]⟩
  simp [goodSrc, this]
theorem goodSrc_yes {x : Source} (h1 : goodWin x.window = true) (h2 : isClk x.clock = true) (h3 : btw 0 x.quiet 3 = true) (h : ∀ j, j < x.holds.length → chkH x j = true) : goodSrc x = true := by
  unfold goodSrc
  rw [h1, h2, h3, List.all_eq_true.2 fun j hj => h j (by simpa using hj)]; rfl
set_option maxRecDepth 100000 in
theorem isHeld_f (x : SendWindow) (n : Int) (v : Value) (F : List Nat) (h0 : 0 ≤ x.trail) (h1 : x.trail ≤ 65535) (h2 : 0 ≤ n) (h3 : n ≤ 65535) :
    Fn Tryz.prog 119 [v, .int .i64 n] [.isv ESendWindow v x F] [] (fun (_ : Unit) => True) (fun _ => .bool (heldB x n)) (fun _ => []) := by
  refine enter Tryz.func119 rfl Tryz.ntmps119 fun w0 => ?_
  refine openSendWindow ?_
  rintro a1 c1 F1 rfl l1
  refine go ?_; intros
  refine d_start [0] [] ?_
  refine dt 0 ?_
  refine dt 1 ?_
  refine dt 2 ?_
  refine dt 4 ?_
  refine dt 5 ?_
  refine dt 6 ?_
  refine dO 3 (by kernel_rfl) (by rw [List.getElem?_toArray]; rfl) ?_
  apply o_call; rfl; kernel_rfl; exact evsE
  refine ce (fun w s => gap_c _ _ _ (by omega) (by omega) (by omega) (by omega)) ?_
  refine dk ?_
  refine dt 7 ?_
  refine dt 8 ?_
  refine dd ?_
  refine go ?_; intros
  refine ret () trivial rfl
set_option maxRecDepth 100000 in
theorem l9HeldW_f (x : SendWindow) (n : Int) (v : Value) (F : List Nat) (h0 : 0 ≤ x.trail) (h1 : x.trail ≤ 65535) (h2 : -1 ≤ n) (h3 : n ≤ 65536) :
    Fn Tryz.prog 139 [v, .int .i64 n] [.isv ESendWindow v x F] [] (fun (_ : Unit) => True) (fun _ => .bool (heldB x n)) (fun _ => []) := by
  refine enter Tryz.func139 rfl Tryz.ntmps139 fun w0 => ?_
  refine openSendWindow ?_
  rintro a1 c1 F1 rfl l1
  refine go ?_; intros
  refine d_start [0] [] ?_
  refine dt 0 ?_
  refine dt 1 ?_
  refine dt 2 ?_
  refine dt 4 ?_
  refine dt 5 ?_
  refine dt 6 ?_
  refine dO 3 (by kernel_rfl) (by rw [List.getElem?_toArray]; rfl) ?_
  apply o_call; rfl; kernel_rfl; exact evsE
  refine ce (fun w s => l2Gap_c _ _ _ (by omega) (by omega)) ?_
  refine dk ?_
  refine dt 7 ?_
  refine dt 8 ?_
  refine dd ?_
  refine go ?_; intros
  refine ret () trivial rfl
theorem l9Held_f (x : SendWindow) (n : Int) (v : Value) (F : List Nat) (h0 : 0 ≤ x.trail) (h1 : x.trail ≤ 65535) (h2 : 0 ≤ n) (h3 : n ≤ 65535) :
    Fn Tryz.prog 139 [v, .int .i64 n] [.isv ESendWindow v x F] [] (fun (_ : Unit) => True) (fun _ => .bool (heldB x n)) (fun _ => []) := l9HeldW_f x n v F h0 h1 (by omega) (by omega)

set_option maxRecDepth 100000 in
theorem IsValidSource_f (x : Source) (v : Value) (F : List Nat) : Fn Tryz.prog 75 [v] [.isv ESource v x F] [] (fun (_ : Unit) => True) (fun _ => .bool (goodSrc x)) (fun _ => []) := by
  refine enter Tryz.func75 rfl Tryz.ntmps75 fun w0 => ?_
  refine openSource ?_
  rintro a1 c1 F1 a2 c2 F2 rfl l1 l2
  unfold maxLen at l1 l2
  refine closeSendWindow x.window ?_
  generalize F1 = F3
  refine go ?_; intros
  refine cb (fun w st => IsValidSendWindow_c _ x.window _ w (st.get (p := .isv ESendWindow (.agg #[.int .i64 x.window.trail, .int .i64 x.window.size, .slice a1 x.window.items.length c1]) x.window F3) (by simp))) ?_
  cases g1 : goodWin x.window
  · refine go ?_; intros
    refine ret () trivial ?_
    simp [goodSrc, g1, tup]
  obtain ⟨⟨t0, t1⟩, -⟩ := goodWin_iff.1 g1
  refine go ?_; intros
  refine ce (fun w s => isClock_c _ _) ?_
  cases g2 : isClk x.clock
  · refine go ?_; intros
    refine ret () trivial ?_
    simp [goodSrc, g2, tup]
  obtain ⟨k0, k1⟩ := clk_bd g2
  refine go ?_; intros
  refine ce (fun w s => within_c _ _ _ _) ?_
  cases g3 : btw 0 x.quiet 3
  · refine go ?_; intros
    refine ret () trivial ?_
    simp [goodSrc, g3, tup]
  refine go ?_; intros
  refine c_loopR [1, 2, 22, 23] (fun k : Nat => [(24, .int .i64 k)]) (fun k => k ≤ x.holds.length ∧ ∀ j, j < k → chkH x j = true) (fun k => x.holds.length - k) 0 ⟨Nat.zero_le _, fun j h => by omega⟩ fun k hk => ?_
  obtain ⟨hk1, hk2⟩ := hk
  refine go ?_; intros
  refine c_if rfl (fun h3 => ?_) (fun h3 => ?_)
  · have hk3 : k < x.holds.length := by omega
    have bad : chkH x k = false → goodSrc x = false := fun h => goodSrc_no hk3 h
    have hck := chkH_at hk3
    refine atHold (xs := x.holds) k ?_
    rintro hi b o e
    rw [e]
    refine go ?_; intros
    refine ce (fun w s => IsSerial_c _ _) ?_
    cases g4 : isSer x.holds[k].number
    · refine go ?_; intros
      refine ret () trivial ?_
      rw [bad (by rw [hck, g4]; rfl)]; rfl
    obtain ⟨m0, m1⟩ := isSer_iff.1 g4
    refine go ?_; intros
    refine cb (fun w st => (isHeld_f x.window x.holds[k].number _ _ t0 t1 m0 m1).val w (hol1 (st.get (p := .isv ESendWindow (.agg #[.int .i64 x.window.trail, .int .i64 x.window.size, .slice a1 x.window.items.length c1]) x.window F3) (by simp)))) ?_
    cases g5 : heldB x.window x.holds[k].number
    · refine go ?_; intros
      refine ret () trivial ?_
      rw [bad (by rw [hck, g4, g5]; rfl)]; rfl
    refine go ?_; intros
    refine ce (fun w s => within_c _ _ _ _) ?_
    cases g6 : btw (x.clock + 1) x.holds[k].untl (x.clock + 3)
    · refine go ?_; intros
      refine ret () trivial ?_
      rw [bad (by rw [hck, g4, g5, g6]; rfl)]; rfl
    refine go ?_; intros
    by_cases hk0 : 0 < k
    · have hk4 : k - 1 < x.holds.length := by omega
      have hp := hk2 (k - 1) (by omega)
      rw [chkH_at hk4] at hp
      simp only [Bool.and_eq_true] at hp
      obtain ⟨p0, p1⟩ := isSer_iff.1 hp.1.1.1
      rw [← e]
      refine atHold (xs := x.holds) (k - 1) ?_
      rintro hi5 b5 o5 e5
      rw [e5]
      refine d_start [0, 1, 3] [] ?_
      refine dt 0 ?_
      refine dt 1 ?_
      rw [decide_eq_true (show (0 : Int) < k by omega)]
      refine dt 2 ?_
      refine dtg 3 ?_
      refine dtg 4 ?_
      refine dtg 5 ?_
      refine dtg 6 ?_
      refine dtg 7 ?_
      refine dtg 8 ?_
      refine dtg 9 ?_
      rw [show (k : Int) - 1 = ((k - 1 : Nat) : Int) by omega]
      refine dtg 10 ?_
      refine dtg 11 ?_
      refine dtg 12 ?_
      refine dtg 14 ?_
      refine dtg 15 ?_
      refine dtg 16 ?_
      refine dtg 17 ?_
      refine dtg 18 ?_
      refine d1g 13 ?_
      apply On.h
      apply o_call; rfl; kernel_rfl; exact evsE
      refine ce (fun w s => gap_c _ _ _ (by omega) (by omega) (by omega) (by omega)) ?_
      refine dk ?_
      refine d1g 19 ?_
      apply On.h
      apply o_call; rfl; kernel_rfl; exact evsE
      refine ce (fun w s => gap_c _ _ _ (by omega) (by omega) (by omega) (by omega)) ?_
      refine dk ?_
      refine dtg 20 ?_
      refine dt 21 ?_
      refine dd ?_
      refine go ?_; intros
      refine c_if rfl (fun h6 => ?_) (fun h6 => ?_)
      · refine go ?_; intros
        refine ret () trivial ?_
        rw [bad (by rw [hck, decide_eq_true h6, decide_eq_false (show ¬ k = 0 by omega)]; simp)]; rfl
      · refine go ?_; intros
        refine n_lp (k + 1) ⟨by omega, fun j hj => ?_⟩ (by omega)
        rcases Nat.lt_or_eq_of_le (Nat.lt_succ_iff.1 hj) with h | rfl
        · exact hk2 j h
        · rw [hck, g4, g5, g6, decide_eq_false h6]; simp
    · have hz : k = 0 := by omega
      refine d_start [0, 2] [] ?_
      refine dt 0 ?_
      refine dt 1 ?_
      rw [decide_eq_false (show ¬ (0 : Int) < k by omega)]
      refine dt 2 ?_
      refine ds 3 ?_
      refine ds 4 ?_
      refine ds 5 ?_
      refine ds 6 ?_
      refine ds 7 ?_
      refine ds 8 ?_
      refine ds 9 ?_
      refine ds 10 ?_
      refine ds 11 ?_
      refine ds 12 ?_
      refine ds 13 ?_
      refine ds 14 ?_
      refine ds 15 ?_
      refine ds 16 ?_
      refine ds 17 ?_
      refine ds 18 ?_
      refine ds 19 ?_
      refine ds 20 ?_
      refine dt 21 ?_
      refine dd ?_
      refine go ?_; intros
      refine n_lp (k + 1) ⟨by omega, fun j hj => ?_⟩ (by omega)
      rcases Nat.lt_or_eq_of_le (Nat.lt_succ_iff.1 hj) with h | rfl
      · exact hk2 j h
      · rw [hck, g4, g5, g6, decide_eq_true hz]; simp
  have hkl : k = x.holds.length := by omega
  refine go ?_; intros
  refine ret () trivial ?_
  rw [goodSrc_yes g1 g2 g3 (hkl ▸ hk2)]; rfl
end Go.Proofs.YtccmhdheoeglmaaGreatDoor
/- Sources: the check of the reference. -/
namespace Go.Proofs.YtccmhdheoeglmaaGreatDoor
open Go.RowKit
set_option maxRecDepth 100000 in
theorem l11Good_f (x : Source) (v : Value) (F : List Nat) : Fn Tryz.prog 83 [v] [.isv ESource v x F] [] (fun (_ : Unit) => True) (fun _ => .bool (goodSrc x)) (fun _ => []) := by
  refine enter Tryz.func83 rfl Tryz.ntmps83 fun w0 => ?_
  refine openSource ?_
  rintro a1 c1 F1 a2 c2 F2 rfl l1 l2
  unfold maxLen at l1 l2
  refine closeSendWindow x.window ?_
  generalize F1 = F3
  refine go ?_; intros
  refine cb (fun w st => l9Good_c _ x.window _ w (st.get (p := .isv ESendWindow (.agg #[.int .i64 x.window.trail, .int .i64 x.window.size, .slice a1 x.window.items.length c1]) x.window F3) (by simp))) ?_
  cases g1 : goodWin x.window
  · refine go ?_; intros
    refine ret () trivial ?_
    simp [goodSrc, g1, tup]
  obtain ⟨⟨t0, t1⟩, -⟩ := goodWin_iff.1 g1
  refine go ?_; intros
  refine ce (fun w s => l11Clock_c _ _) ?_
  cases g2 : isClk x.clock
  · refine go ?_; intros
    refine ret () trivial ?_
    simp [goodSrc, g2, tup]
  obtain ⟨k0, k1⟩ := clk_bd g2
  refine go ?_; intros
  refine ce (fun w s => l1In_c _ _ _ _) ?_
  cases g3 : btw 0 x.quiet 3
  · refine go ?_; intros
    refine ret () trivial ?_
    simp [goodSrc, g3, tup]
  refine go ?_; intros
  refine c_loopR [1, 2] (fun k : Nat => [(3, .int .i64 k)]) (fun k => k ≤ x.holds.length ∧ ∀ j, j < k → chkH x j = true) (fun k => x.holds.length - k) 0 ⟨Nat.zero_le _, fun j h => by omega⟩ fun k hk => ?_
  obtain ⟨hk1, hk2⟩ := hk
  refine go ?_; intros
  refine c_if rfl (fun h3 => ?_) (fun h3 => ?_)
  · have hk3 : k < x.holds.length := by omega
    have bad : chkH x k = false → goodSrc x = false := fun h => goodSrc_no hk3 h
    have hck := chkH_at hk3
    refine atHold (xs := x.holds) k ?_
    rintro hi b o e
    rw [e]
    refine go ?_; intros
    refine ce (fun w s => l2Good_c _ _) ?_
    cases g4 : isSer x.holds[k].number
    · refine go ?_; intros
      refine ret () trivial ?_
      rw [bad (by rw [hck, g4]; rfl)]; rfl
    obtain ⟨m0, m1⟩ := isSer_iff.1 g4
    refine go ?_; intros
    refine cb (fun w st => (l9Held_f x.window x.holds[k].number _ _ t0 t1 m0 m1).val w (hol1 (st.get (p := .isv ESendWindow (.agg #[.int .i64 x.window.trail, .int .i64 x.window.size, .slice a1 x.window.items.length c1]) x.window F3) (by simp)))) ?_
    cases g5 : heldB x.window x.holds[k].number
    · refine go ?_; intros
      refine ret () trivial ?_
      rw [bad (by rw [hck, g4, g5]; rfl)]; rfl
    refine go ?_; intros
    refine ce (fun w s => l1In_c _ _ _ _) ?_
    cases g6 : btw (x.clock + 1) x.holds[k].untl (x.clock + 3)
    · refine go ?_; intros
      refine ret () trivial ?_
      rw [bad (by rw [hck, g4, g5, g6]; rfl)]; rfl
    refine go ?_; intros
    by_cases hk0 : 0 < k
    · have hk4 : k - 1 < x.holds.length := by omega
      have hp := hk2 (k - 1) (by omega)
      rw [chkH_at hk4] at hp
      simp only [Bool.and_eq_true] at hp
      obtain ⟨p0, p1⟩ := isSer_iff.1 hp.1.1.1
      rw [← e]
      refine atHold (xs := x.holds) (k - 1) ?_
      rintro hi5 b5 o5 e5
      rw [e5]
      refine d_start [0, 1, 3] [] ?_
      refine dt 0 ?_
      refine dt 1 ?_
      rw [decide_eq_true (show (0 : Int) < k by omega)]
      refine dt 2 ?_
      refine dtg 3 ?_
      refine dtg 4 ?_
      refine dtg 5 ?_
      refine dtg 6 ?_
      refine dtg 7 ?_
      refine dtg 8 ?_
      refine dtg 9 ?_
      rw [show (k : Int) - 1 = ((k - 1 : Nat) : Int) by omega]
      refine dtg 10 ?_
      refine dtg 11 ?_
      refine dtg 12 ?_
      refine dtg 14 ?_
      refine dtg 15 ?_
      refine dtg 16 ?_
      refine dtg 17 ?_
      refine dtg 18 ?_
      refine d1g 13 ?_
      apply On.h
      apply o_call; rfl; kernel_rfl; exact evsE
      refine ce (fun w s => l2Gap_c _ _ _ (by omega) (by omega)) ?_
      refine dk ?_
      refine d1g 19 ?_
      apply On.h
      apply o_call; rfl; kernel_rfl; exact evsE
      refine ce (fun w s => l2Gap_c _ _ _ (by omega) (by omega)) ?_
      refine dk ?_
      refine dtg 20 ?_
      refine dt 21 ?_
      refine dd ?_
      refine go ?_; intros
      refine c_if rfl (fun h6 => ?_) (fun h6 => ?_)
      · refine go ?_; intros
        refine ret () trivial ?_
        rw [bad (by rw [hck, decide_eq_true h6, decide_eq_false (show ¬ k = 0 by omega)]; simp)]; rfl
      · refine go ?_; intros
        refine n_lp (k + 1) ⟨by omega, fun j hj => ?_⟩ (by omega)
        rcases Nat.lt_or_eq_of_le (Nat.lt_succ_iff.1 hj) with h | rfl
        · exact hk2 j h
        · rw [hck, g4, g5, g6, decide_eq_false h6]; simp
    · have hz : k = 0 := by omega
      refine d_start [0, 2] [] ?_
      refine dt 0 ?_
      refine dt 1 ?_
      rw [decide_eq_false (show ¬ (0 : Int) < k by omega)]
      refine dt 2 ?_
      refine ds 3 ?_
      refine ds 4 ?_
      refine ds 5 ?_
      refine ds 6 ?_
      refine ds 7 ?_
      refine ds 8 ?_
      refine ds 9 ?_
      refine ds 10 ?_
      refine ds 11 ?_
      refine ds 12 ?_
      refine ds 13 ?_
      refine ds 14 ?_
      refine ds 15 ?_
      refine ds 16 ?_
      refine ds 17 ?_
      refine ds 18 ?_
      refine ds 19 ?_
      refine ds 20 ?_
      refine dt 21 ?_
      refine dd ?_
      refine go ?_; intros
      refine n_lp (k + 1) ⟨by omega, fun j hj => ?_⟩ (by omega)
      rcases Nat.lt_or_eq_of_le (Nat.lt_succ_iff.1 hj) with h | rfl
      · exact hk2 j h
      · rw [hck, g4, g5, g6, decide_eq_true hz]; simp
  have hkl : k = x.holds.length := by omega
  refine go ?_; intros
  refine ret () trivial ?_
  rw [goodSrc_yes g1 g2 g3 (hkl ▸ hk2)]; rfl
end Go.Proofs.YtccmhdheoeglmaaGreatDoor
/- Nets: which are valid. Plain. -/
namespace Go.Proofs.YtccmhdheoeglmaaGreatDoor
open Go.RowKit
end Go.Proofs.YtccmhdheoeglmaaGreatDoor
/- The source of no contents. Plain. -/
namespace Go.Proofs.YtccmhdheoeglmaaGreatDoor
def zSrc : Source := ⟨⟨0, 0, []⟩, 0, 0, []⟩
end Go.Proofs.YtccmhdheoeglmaaGreatDoor
/- Sources that have not sent anything; both sides. -/
namespace Go.Proofs.YtccmhdheoeglmaaGreatDoor
open Go.RowKit
def resNew (f z : Int) : Source × Bool := if goodSrc ⟨⟨f, z, []⟩, 0, 0, []⟩ then (⟨⟨f, z, []⟩, 0, 0, []⟩, true) else (zSrc, false)
set_option maxRecDepth 100000 in
theorem NewSource_f (f z : Int) : Fn Tryz.prog 49 [.int .i64 f, .int .i64 z] [] [] (fun (_ : List Nat) => True) (fun _ => .tuple #[.agg #[.int .i64 (resNew f z).1.window.trail, .int .i64 (resNew f z).1.window.size, .slice none 0 0, .int .i64 (resNew f z).1.clock, .int .i64 (resNew f z).1.quiet, .slice none 0 0], .bool (resNew f z).2]) (fun s => [.isv ESource (.agg #[.int .i64 (resNew f z).1.window.trail, .int .i64 (resNew f z).1.window.size, .slice none 0 0, .int .i64 (resNew f z).1.clock, .int .i64 (resNew f z).1.quiet, .slice none 0 0]) (resNew f z).1 s]) := by
  refine enter Tryz.func49 rfl Tryz.ntmps49 fun w0 => ?_
  refine t_nilsl EStr (by decide) ?_
  refine t_nilsl EHold (by decide) ?_
  refine closeSource zSrc ?_
  refine t_nilsl EStr (by decide) ?_
  refine t_nilsl EHold (by decide) ?_
  refine closeSource ⟨⟨f, z, []⟩, 0, 0, []⟩ ?_
  refine go ?_; intros
  refine cb (fun w st => (IsValidSource_f ⟨⟨f, z, []⟩, 0, 0, []⟩ _ ([] ++ [])).val w (hol1 (st.get (p := .isv ESource (.agg #[.int .i64 f, .int .i64 z, .slice none 0 0, .int .i64 0, .int .i64 0, .slice none 0 0]) ⟨⟨f, z, []⟩, 0, 0, []⟩ ([] ++ [])) (by exact memE)))) ?_
  cases g1 : goodSrc ⟨⟨f, z, []⟩, 0, 0, []⟩
  · rw [show resNew f z = (zSrc, false) by unfold resNew; rw [g1]; rfl]
    refine go ?_; intros
    refine ret ([] ++ []) trivial rfl
  rw [show resNew f z = (⟨⟨f, z, []⟩, 0, 0, []⟩, true) by unfold resNew; rw [g1]; rfl]
  refine go ?_; intros
  refine ret ([] ++ []) trivial rfl
set_option maxRecDepth 100000 in
theorem specNewSource_f (f z : Int) : Fn Tryz.prog 46 [.int .i64 f, .int .i64 z] [] [] (fun (_ : List Nat) => True) (fun _ => .tuple #[.agg #[.int .i64 (resNew f z).1.window.trail, .int .i64 (resNew f z).1.window.size, .slice none 0 0, .int .i64 (resNew f z).1.clock, .int .i64 (resNew f z).1.quiet, .slice none 0 0], .bool (resNew f z).2]) (fun s => [.isv ESource (.agg #[.int .i64 (resNew f z).1.window.trail, .int .i64 (resNew f z).1.window.size, .slice none 0 0, .int .i64 (resNew f z).1.clock, .int .i64 (resNew f z).1.quiet, .slice none 0 0]) (resNew f z).1 s]) := by
  refine enter Tryz.func46 rfl Tryz.ntmps46 fun w0 => ?_
  refine t_nilsl EStr (by decide) ?_
  refine t_nilsl EHold (by decide) ?_
  refine closeSource zSrc ?_
  refine t_nilsl EStr (by decide) ?_
  refine t_nilsl EHold (by decide) ?_
  refine closeSource ⟨⟨f, z, []⟩, 0, 0, []⟩ ?_
  refine go ?_; intros
  refine cb (fun w st => (l11Good_f ⟨⟨f, z, []⟩, 0, 0, []⟩ _ ([] ++ [])).val w (hol1 (st.get (p := .isv ESource (.agg #[.int .i64 f, .int .i64 z, .slice none 0 0, .int .i64 0, .int .i64 0, .slice none 0 0]) ⟨⟨f, z, []⟩, 0, 0, []⟩ ([] ++ [])) (by exact memE)))) ?_
  cases g1 : goodSrc ⟨⟨f, z, []⟩, 0, 0, []⟩
  · rw [show resNew f z = (zSrc, false) by unfold resNew; rw [g1]; rfl]
    refine go ?_; intros
    refine ret ([] ++ []) trivial rfl
  rw [show resNew f z = (⟨⟨f, z, []⟩, 0, 0, []⟩, true) by unfold resNew; rw [g1]; rfl]
  refine go ?_; intros
  refine ret ([] ++ []) trivial rfl
end Go.Proofs.YtccmhdheoeglmaaGreatDoor
/- A drawn region in which several effects may come up in any order. Plain. -/
namespace Go.Proofs.YtccmhdheoeglmaaGreatDoor
open Go.RowKit
section
variable {c : Cx} {fr : Fr} {H : List Pc} {k : List It} {Φ : Gl} {ops : Array Oper} {o : Op} {ty : TypeId} {pos : String} {aft : Array Edge} {H0 : List Pc} {X : List Nat} {f : Nat} {listed : Array Bool}
theorem AnyX.many {P : Program} {md : Region.Mode} {Q : Exit → Act → World → Prop} {S : World → Prop} {Y : Nat → Bool} {a : Act} {w : World} (hne : (Region.ready md ops listed).isEmpty = false)
    (h : ∀ i ∈ Region.ready md ops listed, ∃ oi, ops[i]? = some oi ∧ ∀ K' : Act → World → Prop, Shut (∀ a w, (Y i = false → S w) → AnyX P md ops Q S Y f (listed.setIfInBounds i true) a w → K' a w) → if Region.wanted oi (yielded ops a.tmps) = true then Oper.wp P oi a w K' Q else K' (a.put oi.dst undef) w) :
    AnyX P md ops Q S Y (f + 1) listed a w := by
  refine ⟨fun h0 => (by rw [h0] at hne; cases hne), fun j hj => ?_⟩
  obtain ⟨oi, ho, hh⟩ := h j hj
  exact wpOp_step ho (fun K' hK => hh K' (fun a w hS hW => hK a w ⟨hS, hW⟩))
theorem dP (L : List Nat) (hr : (Region.ready .any ops listed).all (fun i => L.contains i) = true) (hne : (Region.ready .any ops listed).isEmpty = false)
    (h : ∀ i ∈ L, listed.getD i true = false → ∃ o, ops[i]? = some o ∧ o.guard = none ∧ Ef c fr H o (.dk i k H0 X ops f (listed.setIfInBounds i true))) : T c fr H (.dx k H0 X ops (f + 1) listed) := .mk fun a w s g =>
  AnyX.many hne fun i hi => by
    obtain ⟨o, ho, hg, he⟩ := h i (by simpa using List.all_eq_true.1 hr i hi) (by have := (List.mem_filter.1 hi).2; simp only [Bool.and_eq_true, Bool.not_eq_true'] at this; exact this.1)
    refine ⟨o, ho, fun K hK => ?_⟩
    rw [if_pos (by simp [Region.wanted, hg])]
    exact Oper.wp_mono (fun a' w' h' => hK a' w' h'.1 h'.2) (he.h _ a w s g)
theorem dE (i : Nat) {od : Option Tmp} (ho : ops[i]? = some ⟨od, o, ty, pos, aft, none⟩) (h : On c fr H od o ty Φ) : ∃ o, ops[i]? = some o ∧ o.guard = none ∧ Ef c fr H o Φ := ⟨_, ho, rfl, h.h _ _ _⟩
theorem no_of {b : Bool} (h : b = false) (h2 : b = true) : False := by rw [h2] at h; cases h
end
end Go.Proofs.YtccmhdheoeglmaaGreatDoor
/- Structs of type Tree in a walk's state: opened, closed. -/
namespace Go.Proofs.YtccmhdheoeglmaaGreatDoor
open Go.RowKit
section
variable {c : Cx} {fr : Fr} {H : List Pc} {Φ : Gl}
theorem openTree {v : Value} {x : Tree} {F : List Nat} (h : ∀ (a1 : Option Addr) (c1 : Nat) (F1 : List Nat), v = .agg #[.slice a1 x.parent.length c1] → x.parent.length ≤ maxLen → T c fr (.sl EInt (.slice a1 x.parent.length c1) x.parent F1 :: H) Φ) (hm : .isv ETree v x F ∈ H := by (repeat (first | exact .head _ | apply List.Mem.tail)); first | done | fail) : T c fr H Φ := .mk fun a w s g => by
  obtain ⟨cs, rfl, v1, rfl, h1⟩ := s.get hm
  obtain ⟨a1, c1, rfl⟩ := h1.slice; have l1 := h1.len
  have t1 := s.ro (p := .sl EInt (.slice a1 x.parent.length c1) x.parent F) hm rfl rfl ⟨by decide, h1⟩ fun b hb => hb
  exact (h a1 c1 F rfl  l1).h a w t1 g
theorem openOTree {v : Value} {x : Tree} {F : List Nat} {S : List Pc} (h : ∀ (a1 : Option Addr) (c1 : Nat) (F1 : List Nat), v = .agg #[.slice a1 x.parent.length c1] → x.parent.length ≤ maxLen → T c fr (.ow EInt 3 (.slice a1 x.parent.length c1) x.parent F1 :: S) Φ) (hp : Pick H (.own OTree v x F) S := by (repeat (first | exact .here | apply Pick.there)); first | done | fail) : T c fr H Φ := .mk fun a w s g => by
  have z1 := s.pick hp
  obtain ⟨hn, cs, rfl, v1, rfl, h1⟩ := z1.on (.own OTree v x F) (by simp)
  obtain ⟨a1, c1, rfl⟩ := h1.slice; have l1 := h1.len
  refine (h a1 c1 F rfl  l1).h a w (St.turn (M := [.own OTree (.agg #[.slice a1 x.parent.length c1]) x _]) (N := [.ow EInt 3 (.slice a1 x.parent.length c1) x.parent F]) z1 (Keep.refl _ w) ?_ ?_ ?_) g
  · intro q hq; simp at hq; subst hq; exact ⟨hn, h1⟩
  · exact ⟨by simp, trivial⟩
  · intro q hq b hb; simp at hq; subst hq; exact .inr (.inl ⟨_, List.mem_singleton.2 rfl, rfl, hb⟩)
theorem closeOTree (x : Tree) {a1 : Option Addr} {c1 : Nat} {F1 : List Nat} {S1 : List Pc}  (h : T c fr (.own OTree (.agg #[.slice a1 x.parent.length c1]) x (F1) :: S1) Φ) (m1 : Pick H (.ow EInt 3 (.slice a1 x.parent.length c1) x.parent F1) S1 := by (repeat (first | exact .here | apply Pick.there)); first | done | fail)  : T c fr H Φ := .mk fun a w s g => by
  have z1 : St c.G c.D c.w0 ([.ow EInt 3 (.slice a1 x.parent.length c1) x.parent F1] ++ S1) w := by simpa using (show Picks H [.ow EInt 3 (.slice a1 x.parent.length c1) x.parent F1] S1 from Picks.cons m1 (Picks.nil)).st (X := []) (by simpa using s)
  obtain ⟨n1, k1⟩ := z1.on (.ow EInt 3 (.slice a1 x.parent.length c1) x.parent F1) (by simp)
  have hN := n1
  refine h.h a w (St.turn (M := [.ow EInt 3 (.slice a1 x.parent.length c1) x.parent F1]) (N := [.own OTree (.agg #[.slice a1 x.parent.length c1]) x (F1)]) z1 (Keep.refl _ w) (by intro q hq; simp at hq; subst hq; exact ⟨hN, _, rfl, _, rfl, k1⟩) ⟨by simp, trivial⟩ fun q hq b hb => ?_) g
  simp at hq; subst hq
  simp only [Pc.F, List.mem_append] at hb
  exact .inr (.inl ⟨_, List.mem_singleton.2 rfl, rfl, hb⟩)
end
end Go.Proofs.YtccmhdheoeglmaaGreatDoor
/- A call that reads what is owned, and gives new pieces. -/
namespace Go.Proofs.YtccmhdheoeglmaaGreatDoor
open Go.RowKit
section
variable {c : Cx} {fr : Fr} {H : List Pc} {d : Nat} {Φ : Gl}
end
end Go.Proofs.YtccmhdheoeglmaaGreatDoor
/- The first elements that satisfy a test: how many; plain. -/
namespace Go.Proofs.YtccmhdheoeglmaaGreatDoor
end Go.Proofs.YtccmhdheoeglmaaGreatDoor
/- Walks of Go's generic library functions on slices of int. Written by wip/genlib.py. -/
namespace Go.Proofs.YtccmhdheoeglmaaGreatDoor
open Go.RowKit
set_option maxRecDepth 100000 in
theorem Clone_Int (v : Value) (xs : List Int) (F : List Nat) (w : World) (h : Sl EInt w v xs F) (hm : xs.length ≤ 4294967296) :
    Calls Tryz.prog 51 #[v] w (RetNew EInt 3 xs w) := by
  obtain ⟨ao, c, news, Fy, rfl, hl, hfy, hFy, hsrc⟩ := h.src
  have hFl := hfy.lt
  have he := fun w (a : Option Addr) (n c : Nat) => Lib.run_eql_slice_nil (P := Tryz.prog) w 22 _ a n c 0 0 Tryz.underlying22
  go_enter Tryz.func51, Tryz.ntmps51
  rcases hsrc with ⟨rfl, rfl, rfl⟩ | ⟨ad, rfl, hn⟩
  · go_wp2
    go_ret
    exact ⟨.slice none 0 0, [], rfl, .inl ⟨rfl, rfl, rfl⟩, by simp, by simp, Below.refl _ _⟩
  · go_wp2_with (at_builtin; refine wpList_apd one_EInt (by decide) (by rfl) _ _ _ (by rfl) 3 (.int .i64 0) 8 Tryz.underlying22 info_int rfl (.slice (some ⟨w.heap.size, 0, none⟩) 0 0) [] [w.heap.size] (by rfl) (Ow.empty (Row.made _ _ _)) (Hd.one _) (some ad) xs c (by rfl) news Fy (hfy.frame fun b hb => Below.heap_alloc _ _ _ (hFl b hb)) (.inr ⟨ad, rfl, fun j u hu => kc ((Below.refl _ _).alloc (Nat.le_refl _) _) (hn j u hu)⟩) (fun b hb e => by have := hFl b hb; simp [Value.ownBlock] at e; omega) (by simpa using hl) (by unfold maxLen at hl; simp; omega) ?_)
    intro v2 w2 F2 hA
    go_wp2_with fail
    go_ret
    have hB : Below w.heap.size w w2 := ((Below.refl _ _).alloc (Nat.le_refl _) _).trans (hA.keep.below (by simp) (by simp))
    have hs : ∀ b, v2.ownBlock = some b → w.heap.size ≤ b := fun b hb => by rcases hA.same with e | e <;> rw [e] at hb <;> simp [Value.ownBlock] at hb <;> omega
    refine ⟨v2, F2, rfl, by simpa using hA.ow, hA.ow.scal scal_EInt ▸ ?_, fun b hb => ?_, hB⟩
    · cases v2.ownBlock <;> simp
    · rw [hA.ow.scal scal_EInt] at hb; exact hs b (by simpa using hb)

end Go.Proofs.YtccmhdheoeglmaaGreatDoor
/- Walks of the reference's small functions on slices of numbers. -/
namespace Go.Proofs.YtccmhdheoeglmaaGreatDoor
open Go.RowKit
theorem l1Own_c (v : Value) (xs : List Int) (F : List Nat) (w : World) (h : Sl EInt w v xs F) (hm : xs.length ≤ 4294967296) :
    Calls Tryz.prog 48 #[v] w (RetNew EInt 3 xs w) := by
  obtain ⟨ao, c, news, Fy, rfl, hl, hfy, hFy, hsrc⟩ := h.src
  have hFl := hfy.lt
  have hsrc2 : (ao = none ∧ c = 0 ∧ xs = []) ∨ ∃ ad, ao = some ad ∧ ∀ j u, news[j]? = some u → (w.alloc (.cells #[] 3)).cell? (ad.add j) = some u := by
    rcases hsrc with h | ⟨ad, h1, h2⟩
    · exact .inl h
    · exact .inr ⟨ad, h1, fun j u hu => kc ((Below.refl _ _).alloc (Nat.le_refl _) _) (h2 j u hu)⟩
  go_enter Tryz.func48, Tryz.ntmps48
  go_wp2_with (at_builtin; refine wpList_apd one_EInt (by decide) (by rfl) _ _ _ (by rfl) 3 (.int .i64 0) 8 Tryz.underlying22 info_int rfl (.slice (some ⟨w.heap.size, 0, none⟩) 0 0) [] [w.heap.size] (by rfl) (Ow.empty (Row.made _ _ _)) (Hd.one _) ao xs c (by rfl) news Fy (hfy.frame fun b hb => Below.heap_alloc _ _ _ (hFl b hb)) hsrc2 (fun b hb e => by have := hFl b hb; simp [Value.ownBlock] at e; omega) (by simpa using hl) (by unfold maxLen at hl; simp; omega) ?_)
  intro v2 w2 F2 hA
  go_wp2_with fail
  go_ret
  have hB : Below w.heap.size w w2 := ((Below.refl _ _).alloc (Nat.le_refl _) _).trans (hA.keep.below (by simp) (by simp))
  have hs : ∀ b, v2.ownBlock = some b → w.heap.size ≤ b := fun b hb => by rcases hA.same with e | e <;> rw [e] at hb <;> simp [Value.ownBlock] at hb <;> omega
  refine ⟨v2, F2, rfl, by simpa using hA.ow, hA.ow.scal scal_EInt ▸ ?_, fun b hb => ?_, hB⟩
  · cases v2.ownBlock <;> simp
  · rw [hA.ow.scal scal_EInt] at hb; exact hs b (by simpa using hb)
end Go.Proofs.YtccmhdheoeglmaaGreatDoor
/- Walks: copies of an element. -/
namespace Go.Proofs.YtccmhdheoeglmaaGreatDoor
open Go.RowKit
end Go.Proofs.YtccmhdheoeglmaaGreatDoor
/- Walks: the reference's copy of an element. -/
namespace Go.Proofs.YtccmhdheoeglmaaGreatDoor
open Go.RowKit
end Go.Proofs.YtccmhdheoeglmaaGreatDoor
/- Walks: a tick of an element. -/
namespace Go.Proofs.YtccmhdheoeglmaaGreatDoor
open Go.RowKit
end Go.Proofs.YtccmhdheoeglmaaGreatDoor
/- Walks: TickElement, the program's and the reference's. -/
namespace Go.Proofs.YtccmhdheoeglmaaGreatDoor
open Go.RowKit
end Go.Proofs.YtccmhdheoeglmaaGreatDoor
/- Elements: what requests and repairs bring; plain laws. -/
namespace Go.Proofs.YtccmhdheoeglmaaGreatDoor
open Go.RowKit
end Go.Proofs.YtccmhdheoeglmaaGreatDoor
/- Lists of numbers: searching, inserting, what is there. -/
namespace Go.Proofs.YtccmhdheoeglmaaGreatDoor
open Go.RowKit

end Go.Proofs.YtccmhdheoeglmaaGreatDoor
/- Trees: valid ones, children, leaves; both sides. -/
namespace Go.Proofs.YtccmhdheoeglmaaGreatDoor
open Go.RowKit
set_option maxRecDepth 100000 in
theorem IsValidTree_f (t : Tree) (v : Value) (F : List Nat) : Fn Tryz.prog 50 [v] [.isv ETree v t F] [] (fun (_ : Unit) => True) (fun _ => .bool (goodTree t)) (fun _ => []) := by
  refine enter Tryz.func50 rfl Tryz.ntmps50 fun w0 => ?_
  refine openTree ?_
  rintro a1 c1 F1 rfl l1
  unfold maxLen at l1
  refine go ?_; intros
  refine c_loopR [1, 2, 6, 7] (fun k : Nat => [(8, .int .i64 (k : Nat))]) (fun k => k ≤ t.parent.length ∧ ∀ j, j < k → parAt t.parent j = true) (fun k => t.parent.length - k) 0 ⟨Nat.zero_le _, fun j h => by omega⟩ fun k hk => ?_
  obtain ⟨hk1, hk2⟩ := hk
  refine go ?_; intros
  refine c_if rfl (fun h1 => ?_) (fun h1 => ?_)
  · have hh : k < t.parent.length := by omega
    refine at_int (xs := t.parent) k ?_
    rintro hi b o e1
    rw [e1]
    refine go ?_; intros
    refine wg_if rfl rfl (fun h2 => ?_) (fun h2 => ?_)
    · obtain rfl : k = 0 := by omega
      refine go ?_; intros
      refine wg_if rfl rfl (fun h3 => ?_) (fun h3 => ?_)
      · refine go ?_; intros
        rw [goodT_at hh (by rw [parAt_zero hh]; exact decide_eq_false h3)]
        refine ret () trivial rfl
      · refine go ?_; intros
        refine n_lp 1 ⟨hh, fun j hj => by obtain rfl : j = 0 := (by omega); rw [parAt_zero hh]; exact decide_eq_true (by omega)⟩ (by show t.parent.length - 1 < t.parent.length - 0; omega)
    · refine go ?_; intros
      refine wg_if rfl rfl (fun h3 => ?_) (fun h3 => ?_)
      · refine go ?_; intros
        refine ce (fun w s => within_c _ _ _ w) ?_
        cases g : btw 0 t.parent[k] ((k : Int) - 1)
        · refine go ?_; intros
          rw [goodT_at hh (by rw [parAt_pos hh (by omega)]; exact g)]
          refine ret () trivial rfl
        · refine go ?_; intros
          refine n_lp (k + 1) ⟨hh, fun j hj => ?_⟩ (by show t.parent.length - (k + 1) < t.parent.length - k; omega)
          rcases Nat.lt_or_eq_of_le (Nat.lt_succ_iff.1 hj) with h | rfl
          · exact hk2 j h
          · rw [parAt_pos hh (by omega)]; exact g
      · exact absurd h3 (by omega)
  · obtain rfl : k = t.parent.length := by omega
    refine go ?_; intros
    refine ce (fun w s => within_c _ _ _ w) ?_
    refine go ?_; intros
    refine ret () trivial ?_
    unfold goodTree
    rw [allUpTo_yes hk2, Bool.and_true]; rfl
set_option maxRecDepth 100000 in
theorem l6Good_f (t : Tree) (v : Value) (F : List Nat) : Fn Tryz.prog 47 [v] [.isv ETree v t F] [] (fun (_ : Unit) => True) (fun _ => .bool (goodTree t)) (fun _ => []) := by
  refine enter Tryz.func47 rfl Tryz.ntmps47 fun w0 => ?_
  refine openTree ?_
  rintro a1 c1 F1 rfl l1
  unfold maxLen at l1
  refine go ?_; intros
  refine ce (fun w s => l1In_c _ _ _ w) ?_
  cases g0 : btw 2 (t.parent.length : Int) 8
  · rw [goodT_len g0]
    refine go ?_; intros
    refine ret () trivial rfl
  have hb : 2 ≤ t.parent.length ∧ t.parent.length ≤ 8 := by
    unfold btw at g0
    simp only [Bool.and_eq_true, decide_eq_true_eq] at g0
    omega
  have h0 : 0 < t.parent.length := by omega
  refine at_int (xs := t.parent) 0 ?_
  rintro hi b o e1
  rw [e1]
  refine go ?_; intros
  refine c_if rfl (fun h2 => ?_) (fun h2 => ?_)
  · refine go ?_; intros
    rw [goodT_at h0 (by rw [parAt_zero h0]; exact decide_eq_false h2)]
    refine ret () trivial rfl
  refine go ?_; intros
  refine c_loopR [1, 2, 3] (fun k : Nat => [(4, .int .i64 ((k + 1 : Nat) : Int))]) (fun k => k + 1 ≤ t.parent.length ∧ ∀ j, j < k + 1 → parAt t.parent j = true) (fun k => t.parent.length - k) 0 ⟨by omega, fun j h => by obtain rfl : j = 0 := (by omega); rw [parAt_zero h0]; exact decide_eq_true (by omega)⟩ fun k hk => ?_
  obtain ⟨hk1, hk2⟩ := hk
  refine go ?_; intros
  refine c_if rfl (fun h1 => ?_) (fun h1 => ?_)
  · have hh : k + 1 < t.parent.length := by omega
    refine at_int (a := some ⟨b, o, none⟩) (xs := t.parent) (k + 1) ?_
    rintro hi2 _ _ e2
    cases e2
    refine go ?_; intros
    refine ce (fun w s => l1In_c _ _ _ w) ?_
    cases g : btw 0 t.parent[k + 1] (((k + 1 : Nat) : Int) - 1)
    · refine go ?_; intros
      rw [goodT_at hh (by rw [parAt_pos hh (by omega)]; exact g)]
      refine ret () trivial rfl
    · refine go ?_; intros
      refine n_lp (k + 1) ⟨hh, fun j hj => ?_⟩ (by show t.parent.length - (k + 1) < t.parent.length - k; omega)
      rcases Nat.lt_or_eq_of_le (Nat.lt_succ_iff.1 hj) with h | rfl
      · exact hk2 j h
      · rw [parAt_pos hh (by omega)]; exact g
  · have hk : k + 1 = t.parent.length := by omega
    refine go ?_; intros
    refine ret () trivial ?_
    unfold goodTree
    rw [g0, allUpTo_yes (fun j hj => hk2 j (by omega))]; rfl
end Go.Proofs.YtccmhdheoeglmaaGreatDoor
