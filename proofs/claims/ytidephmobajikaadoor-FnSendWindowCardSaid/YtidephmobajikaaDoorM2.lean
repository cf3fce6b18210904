/- Part 2 of the proof: 46 texts, one behind the other. -/
import Derived.Test.YtidephmobajikaaDoorShelf
import Derived.Laws.IdiomStrings
import Derived.Laws.Bits64b
import Derived.Test.YtidephmobajikaaDoorM1
/- Appending, parts of slices, regions that draw their order, a function's beginning and end: as walks use them. Plain: no program in sight. -/
namespace Go.Proofs.YtidephmobajikaaDoor
open Go.RowKit
section
variable {c : Cx} {fr : Fr} {H : List Pc} {k : List It} {Φ : Gl} {ops : Array Oper} {rest : List Oper} {d : Nat} {o : Op} {ty : TypeId} {pos : String} {aft : Array Edge} {v u : Value} {x y : Operand}
theorem ap {α : Type} {E : Elem α} {t e m b : Nat} {z : Value} [hS : SlC c.P t e m] [hE : ElT c.P e z m b] {xs ys : List α} {F Fy : List Nat} {ao : Option Addr} {n cp : Nat} {gd : Option (Nat × Bool)} {R S : List Pc} (one : One E) (hz : 0 < E.sz) (hm : E.sz = m)
    (hp : Pick H (.ow E e v xs F) R) (hx : ev fr x = some v) (hy : ev fr y = some (.slice ao n cp)) (hn : n = ys.length)
    (hsrc : ∀ w, St c.G c.D c.w0 (.ow E e v xs F :: R) w → ∃ news, Flat E w news ys Fy ∧ ((ao = none ∧ cp = 0 ∧ ys = []) ∨ ∃ ad, ao = some ad ∧ ∀ j u, news[j]? = some u → w.cell? (ad.add j) = some u) ∧ (∀ b ∈ Fy, b ∉ F) ∧ Fy.Nodup)
    (hFy : ∀ w v' F', St c.G c.D c.w0 (.ow E e v xs F :: R) w → (∀ b ∈ F', b ∈ F ∨ b ∈ Fy ∨ b = w.heap.size) → ∀ w', Keep F w w' → (Pc.ow E e v' (xs ++ ys) F').P w' → St c.G c.D c.w0 (.ow E e v' (xs ++ ys) F' :: S) w')
    (h63 : xs.length + ys.length ≤ maxLen) (hby : (xs.length + ys.length) * b ≤ 140737488355328)
    (h : ∀ a' c' F', T c ((d, .slice a' (xs ++ ys).length c') :: fr) (.ow E e (.slice a' (xs ++ ys).length c') (xs ++ ys) F' :: S) Φ) (hd : Nat.blt d c.n = true) :
    Ef c fr H ⟨some d, .call { callee := .builtin .append, args := #[x, y], argTypes := #[t, t] }, ty, pos, aft, gd⟩ Φ := .mk fun Q a w s g => by
  have s1 := s.pick hp
  obtain ⟨hnd, how⟩ := s1.on (.ow E e v xs F) (by simp)
  obtain ⟨news, hfl, hsr, hdis, hny⟩ := hsrc w s1
  subst hn
  refine wp_apd (P := c.P) one hz x y t rfl e z b hS.u (by rw [hE.i, hm]) (by rw [hE.s, hm]) v xs F (g.ev hx) how (Hd.of hnd) ao ys cp (g.ev hy) news Fy hfl hsr (fun b hb e => hdis b hb (how.own_mem b e)) h63 hby fun v' w' F' hA => ?_
  obtain ⟨a', c', rfl⟩ := hA.val
  rw [← List.length_append] at hA ⊢
  have hw := hA.ow
  exact (h a' c' F').h _ _ (hFy w _ F' s1 hA.mem w' hA.keep ⟨hA.nodup hnd hny hdis, hw⟩) (g.put hd)
/-- what is appended lies in a row of our own -/
theorem ap1 {α : Type} {E : Elem α} {t e m b : Nat} {z : Value} [hS : SlC c.P t e m] [hE : ElT c.P e z m b] {xs ys : List α} {F : List Nat} {g n cp tt : Nat} {cs : List Value} {R S : List Pc}
    (hfl : ∀ w, Flat E w cs ys []) (one : One E) (h : ∀ a' c' F', T c ((d, .slice a' (xs ++ ys).length c') :: fr) (.ow E e (.slice a' (xs ++ ys).length c') (xs ++ ys) F' :: S) Φ)
    (hx : ev fr x = some v := by rfl) (hy : ev fr y = some (.slice (some ⟨g, 0, none⟩) n cp) := by rfl) (hp : Pick H (.ow E e v xs F) R := by first | exact .here | exact .there .here | exact .there (.there .here) | exact .there (.there (.there .here)) | exact .there (.there (.there (.there .here))) | exact .there (.there (.there (.there (.there .here)))) | exact .there (.there (.there (.there (.there (.there .here))))) | exact .there (.there (.there (.there (.there (.there (.there .here)))))) | exact .there (.there (.there (.there (.there (.there (.there (.there .here))))))) | exact .there (.there (.there (.there (.there (.there (.there (.there (.there .here)))))))) | exact .there (.there (.there (.there (.there (.there (.there (.there (.there (.there .here))))))))) | exact .there (.there (.there (.there (.there (.there (.there (.there (.there (.there (.there .here)))))))))) | exact .there (.there (.there (.there (.there (.there (.there (.there (.there (.there (.there (.there .here))))))))))) | exact .there (.there (.there (.there (.there (.there (.there (.there (.there (.there (.there (.there (.there .here))))))))))))) (hp2 : Pick R (.row g tt 0 [] cs []) S := by first | exact .here | exact .there .here | exact .there (.there .here) | exact .there (.there (.there .here)) | exact .there (.there (.there (.there .here))) | exact .there (.there (.there (.there (.there .here)))) | exact .there (.there (.there (.there (.there (.there .here))))) | exact .there (.there (.there (.there (.there (.there (.there .here)))))) | exact .there (.there (.there (.there (.there (.there (.there (.there .here))))))) | exact .there (.there (.there (.there (.there (.there (.there (.there (.there .here)))))))) | exact .there (.there (.there (.there (.there (.there (.there (.there (.there (.there .here))))))))) | exact .there (.there (.there (.there (.there (.there (.there (.there (.there (.there (.there .here)))))))))) | exact .there (.there (.there (.there (.there (.there (.there (.there (.there (.there (.there (.there .here))))))))))) | exact .there (.there (.there (.there (.there (.there (.there (.there (.there (.there (.there (.there (.there .here))))))))))))) (hn : n = ys.length := by rfl) (hz : 0 < E.sz := by decide) (hm : E.sz = m := by rfl)
    (h63 : xs.length + ys.length ≤ 9223372036854775807 := by simp only [List.length_cons, List.length_nil]; omega) (hby : (xs.length + ys.length) * b ≤ 140737488355328 := by simp only [List.length_cons, List.length_nil]; omega) (hd : Nat.blt d c.n = true := by rfl) :
    On c fr H (some d) (.call { callee := .builtin .append, args := #[x, y], argTypes := #[t, t] }) ty Φ :=
  ⟨fun _ _ _ => ap one hz hm hp hx hy hn (Fy := []) (fun w s => ⟨cs, hfl w, .inr ⟨_, rfl, fun j u hu => by
      have hr := (s.on (.row g tt 0 [] cs []) (by simp [hp2.mem])).2
      have := hr.cell j
      simp only [List.nil_append, List.append_nil] at this
      rw [hu] at this
      unfold Addr.add
      split
      · rename_i e; subst e; exact this
      · simpa using this⟩, by simp, by simp⟩)
    (fun w v' F' s hF w' hk hv => by
      have s2 : St c.G c.D c.w0 (.ow E e v xs F :: S) w := ⟨s.keep, fun q hq => s.on q (by rcases List.mem_cons.1 hq with rfl | hq; simp; simp [hp2.sub q hq]), ⟨fun q hq => s.sep.1 q (hp2.sub q hq), (hp2.sep s.sep.2).2⟩, fun q hq => s.mine q (by rcases List.mem_cons.1 hq with rfl | hq; simp; simp [hp2.sub q hq])⟩
      exact St.turn (M := [.ow E e v xs F]) (N := [.ow E e v' (xs ++ ys) F']) s2 (by simpa [List.filter, Pc.mu, fp, Pc.F] using hk) (by intro q hq; simp at hq; subst hq; exact hv) ⟨by simp, trivial⟩ (by
        intro q hq b hb
        simp at hq; subst hq
        rcases hF b hb with h | h | h
        · exact .inr (.inl ⟨.ow E e v xs F, by simp, rfl, h⟩)
        · simp at h
        · exact .inl (by omega)))
    (by unfold maxLen; exact h63) hby h hd⟩
/-! parts of slices that read -/
/-! one element of an owned slice, of elements without blocks of their own -/
/-! calls by the elder contracts -/
/-! regions that draw their order -/
inductive Nth : List Pc → Nat → Pc → Prop
  | zero {p R} : Nth (p :: R) 0 p
  | succ {x p R i} : Nth R i p → Nth (x :: R) (i + 1) p
inductive Sel (H : List Pc) : List Nat → List Pc → Prop
  | nil : Sel H [] []
  | cons {i is p R} : Nth H i p → Sel H is R → Sel H (i :: is) (p :: R)
theorem Nth.mem {H i p} (h : Nth H i p) : p ∈ H := by
  induction h with
  | zero => simp
  | succ _ ih => simp [ih]
variable {H0 : List Pc} {X : List Nat} {f : Nat} {listed : Array Bool}
theorem d_start {id : Nat} {l : List Oper} (is X : List Nat) (h : T c fr H (.dx k H0 X l.toArray l.length (Array.replicate l.length false))) (_hsel : Sel H is H0 := by repeat constructor) (hm : c.P.follows .mixedOrders = true := by kernel_rfl) : T c fr H (.code k (Code.region id l.toArray true)) := .mk fun a w s g => by
  refine AnyX.start (S := Hol H0) (X := fun i => X.contains i) hm ?_
  have := h.h a w.drew (s.below (belowDrewN (Below.refl _ _) 1)) g
  simpa [Gl.sem] using this
/-- a panic leaves the slots alone -/
def PanOk (c : Cx) : Prop := ∀ ch d v a w, c.R (.panic ch) (Act.put a d v) w → c.R (.panic ch) a w
theorem panOk {P : Program} {D G : List Nat} {w0 : World} {n : Nat} {fn : Func} {R : Ending → World → Prop} : PanOk ⟨P, G, D, w0, n, bodyPost P fn R⟩ := fun ch d v a w h => by
  cases d <;> exact h
theorem dt (i : Nat) (h : T c ((d, v) :: fr) H (.dx k H0 X ops f (listed.setIfInBounds i true))) (ho : ops[i]? = some ⟨some d, o, ty, pos, aft, none⟩ := by rw [List.getElem?_toArray]; rfl) (hy : Yd c.P c.n fr H0 o ty v := by exact ydE) (hs : Mems H0 H := by repeat (first | exact Mems.nil | refine Mems.cons (by first | exact .head _ | exact .tail _ (.head _) | exact .tail _ (.tail _ (.head _)) | exact .tail _ (.tail _ (.tail _ (.head _))) | exact .tail _ (.tail _ (.tail _ (.tail _ (.head _)))) | exact .tail _ (.tail _ (.tail _ (.tail _ (.tail _ (.head _))))) | exact .tail _ (.tail _ (.tail _ (.tail _ (.tail _ (.tail _ (.head _)))))) | exact .tail _ (.tail _ (.tail _ (.tail _ (.tail _ (.tail _ (.tail _ (.head _))))))) | exact .tail _ (.tail _ (.tail _ (.tail _ (.tail _ (.tail _ (.tail _ (.tail _ (.head _)))))))) | exact .tail _ (.tail _ (.tail _ (.tail _ (.tail _ (.tail _ (.tail _ (.tail _ (.tail _ (.head _))))))))) | exact .tail _ (.tail _ (.tail _ (.tail _ (.tail _ (.tail _ (.tail _ (.tail _ (.tail _ (.tail _ (.head _)))))))))) | exact .tail _ (.tail _ (.tail _ (.tail _ (.tail _ (.tail _ (.tail _ (.tail _ (.tail _ (.tail _ (.tail _ (.head _))))))))))) | exact .tail _ (.tail _ (.tail _ (.tail _ (.tail _ (.tail _ (.tail _ (.tail _ (.tail _ (.tail _ (.tail _ (.tail _ (.head _)))))))))))) | exact .tail _ (.tail _ (.tail _ (.tail _ (.tail _ (.tail _ (.tail _ (.tail _ (.tail _ (.tail _ (.tail _ (.tail _ (.tail _ (.head _)))))))))))))) ?_))
    (h1 : Region.noSelect ops = true := by kernel_rfl) (h2 : Region.free .any ops listed i = true := by kernel_rfl) (h3 : (Region.ready .any ops listed).contains i = true := by kernel_rfl) (h4 : waitsAll .any ops (fun i => X.contains i) i = true := by kernel_rfl) (h5 : closedB .any ops listed = true := by kernel_rfl) (hR : PanOk c := by exact panOk) (hd : Nat.blt d c.n = true := by rfl) :
    T c fr H (.dx k H0 X ops (f + 1) listed) := .mk fun a w s g =>
  AnyX.take (v := v) ho h1 h2 h3 h4 h5 (fun ch a w hp => by rw [run_panic] at hp ⊢; exact hR _ _ _ _ _ hp) (.inl ⟨rfl, fun w' hw' => hy.h a w' _ _ _ _ g hw'⟩) (fun p hp => s.on p (hs.all p hp)) (h.h _ _ s (g.put hd))
/-- an operation with a guard that holds, taken first -/
theorem dtg (i : Nat) {j t : Nat} {b : Bool} (h : T c ((d, v) :: fr) H (.dx k H0 X ops f (listed.setIfInBounds i true))) (ho : ops[i]? = some ⟨some d, o, ty, pos, aft, some (j, b)⟩ := by rw [List.getElem?_toArray]; rfl) (ht : (ops[j]?).bind (·.dst) = some t := by rfl) (hl : look fr t = some (.bool b) := by rfl) (hy : Yd c.P c.n fr H0 o ty v := by exact ydE) (hs : Mems H0 H := by repeat (first | exact Mems.nil | refine Mems.cons (by first | exact .head _ | exact .tail _ (.head _) | exact .tail _ (.tail _ (.head _)) | exact .tail _ (.tail _ (.tail _ (.head _))) | exact .tail _ (.tail _ (.tail _ (.tail _ (.head _)))) | exact .tail _ (.tail _ (.tail _ (.tail _ (.tail _ (.head _))))) | exact .tail _ (.tail _ (.tail _ (.tail _ (.tail _ (.tail _ (.head _)))))) | exact .tail _ (.tail _ (.tail _ (.tail _ (.tail _ (.tail _ (.tail _ (.head _))))))) | exact .tail _ (.tail _ (.tail _ (.tail _ (.tail _ (.tail _ (.tail _ (.tail _ (.head _)))))))) | exact .tail _ (.tail _ (.tail _ (.tail _ (.tail _ (.tail _ (.tail _ (.tail _ (.tail _ (.head _))))))))) | exact .tail _ (.tail _ (.tail _ (.tail _ (.tail _ (.tail _ (.tail _ (.tail _ (.tail _ (.tail _ (.head _)))))))))) | exact .tail _ (.tail _ (.tail _ (.tail _ (.tail _ (.tail _ (.tail _ (.tail _ (.tail _ (.tail _ (.tail _ (.head _))))))))))) | exact .tail _ (.tail _ (.tail _ (.tail _ (.tail _ (.tail _ (.tail _ (.tail _ (.tail _ (.tail _ (.tail _ (.tail _ (.head _)))))))))))) | exact .tail _ (.tail _ (.tail _ (.tail _ (.tail _ (.tail _ (.tail _ (.tail _ (.tail _ (.tail _ (.tail _ (.tail _ (.tail _ (.head _)))))))))))))) ?_))
    (h1 : Region.noSelect ops = true := by kernel_rfl) (h2 : Region.free .any ops listed i = true := by kernel_rfl) (h3 : (Region.ready .any ops listed).contains i = true := by kernel_rfl) (h4 : waitsAll .any ops (fun i => X.contains i) i = true := by kernel_rfl) (h5 : closedB .any ops listed = true := by kernel_rfl) (hR : PanOk c := by exact panOk) (hd : Nat.blt d c.n = true := by rfl) :
    T c fr H (.dx k H0 X ops (f + 1) listed) := .mk fun a w s g =>
  AnyX.take (v := v) ho h1 h2 h3 h4 h5 (fun ch a w hp => by rw [run_panic] at hp ⊢; exact hR _ _ _ _ _ hp) (.inl ⟨by rw [wanted_eq (c := c) ht hl g]; simp, fun w' hw' => hy.h a w' _ _ _ _ g hw'⟩) (fun p hp => s.on p (hs.all p hp)) (h.h _ _ s (g.put hd))
/-- an operation whose guard says no -/
theorem ds (i : Nat) {j t : Nat} {b b' : Bool} (h : T c ((d, undef) :: fr) H (.dx k H0 X ops f (listed.setIfInBounds i true))) (ho : ops[i]? = some ⟨some d, o, ty, pos, aft, some (j, b)⟩ := by rw [List.getElem?_toArray]; rfl) (ht : (ops[j]?).bind (·.dst) = some t := by rfl) (hl : look fr t = some (.bool b') := by rfl) (hb : (b' == b) = false := by rfl) (hs : Mems H0 H := by repeat (first | exact Mems.nil | refine Mems.cons (by first | exact .head _ | exact .tail _ (.head _) | exact .tail _ (.tail _ (.head _)) | exact .tail _ (.tail _ (.tail _ (.head _))) | exact .tail _ (.tail _ (.tail _ (.tail _ (.head _)))) | exact .tail _ (.tail _ (.tail _ (.tail _ (.tail _ (.head _))))) | exact .tail _ (.tail _ (.tail _ (.tail _ (.tail _ (.tail _ (.head _)))))) | exact .tail _ (.tail _ (.tail _ (.tail _ (.tail _ (.tail _ (.tail _ (.head _))))))) | exact .tail _ (.tail _ (.tail _ (.tail _ (.tail _ (.tail _ (.tail _ (.tail _ (.head _)))))))) | exact .tail _ (.tail _ (.tail _ (.tail _ (.tail _ (.tail _ (.tail _ (.tail _ (.tail _ (.head _))))))))) | exact .tail _ (.tail _ (.tail _ (.tail _ (.tail _ (.tail _ (.tail _ (.tail _ (.tail _ (.tail _ (.head _)))))))))) | exact .tail _ (.tail _ (.tail _ (.tail _ (.tail _ (.tail _ (.tail _ (.tail _ (.tail _ (.tail _ (.tail _ (.head _))))))))))) | exact .tail _ (.tail _ (.tail _ (.tail _ (.tail _ (.tail _ (.tail _ (.tail _ (.tail _ (.tail _ (.tail _ (.tail _ (.head _)))))))))))) | exact .tail _ (.tail _ (.tail _ (.tail _ (.tail _ (.tail _ (.tail _ (.tail _ (.tail _ (.tail _ (.tail _ (.tail _ (.tail _ (.head _)))))))))))))) ?_))
    (h1 : Region.noSelect ops = true := by kernel_rfl) (h2 : Region.free .any ops listed i = true := by kernel_rfl) (h3 : (Region.ready .any ops listed).contains i = true := by kernel_rfl) (h4 : waitsAll .any ops (fun i => X.contains i) i = true := by kernel_rfl) (h5 : closedB .any ops listed = true := by kernel_rfl) (hR : PanOk c := by exact panOk) (hd : Nat.blt d c.n = true := by rfl) :
    T c fr H (.dx k H0 X ops (f + 1) listed) := .mk fun a w s g =>
  AnyX.take (v := undef) ho h1 h2 h3 h4 h5 (fun ch a w hp => by rw [run_panic] at hp ⊢; exact hR _ _ _ _ _ hp) (.inr ⟨by rw [wanted_eq (c := c) ht hl g]; exact hb, rfl⟩) (fun p hp => s.on p (hs.all p hp)) (h.h _ _ s (g.put hd))
/-- the state holds once more behind an operation -/
theorem dk {i : Nat} (h : T c fr H (.dx k H0 X ops f listed)) (hs : Mems H0 H := by repeat (first | exact Mems.nil | refine Mems.cons (by first | exact .head _ | exact .tail _ (.head _) | exact .tail _ (.tail _ (.head _)) | exact .tail _ (.tail _ (.tail _ (.head _))) | exact .tail _ (.tail _ (.tail _ (.tail _ (.head _)))) | exact .tail _ (.tail _ (.tail _ (.tail _ (.tail _ (.head _))))) | exact .tail _ (.tail _ (.tail _ (.tail _ (.tail _ (.tail _ (.head _)))))) | exact .tail _ (.tail _ (.tail _ (.tail _ (.tail _ (.tail _ (.tail _ (.head _))))))) | exact .tail _ (.tail _ (.tail _ (.tail _ (.tail _ (.tail _ (.tail _ (.tail _ (.head _)))))))) | exact .tail _ (.tail _ (.tail _ (.tail _ (.tail _ (.tail _ (.tail _ (.tail _ (.tail _ (.head _))))))))) | exact .tail _ (.tail _ (.tail _ (.tail _ (.tail _ (.tail _ (.tail _ (.tail _ (.tail _ (.tail _ (.head _)))))))))) | exact .tail _ (.tail _ (.tail _ (.tail _ (.tail _ (.tail _ (.tail _ (.tail _ (.tail _ (.tail _ (.tail _ (.head _))))))))))) | exact .tail _ (.tail _ (.tail _ (.tail _ (.tail _ (.tail _ (.tail _ (.tail _ (.tail _ (.tail _ (.tail _ (.tail _ (.head _)))))))))))) | exact .tail _ (.tail _ (.tail _ (.tail _ (.tail _ (.tail _ (.tail _ (.tail _ (.tail _ (.tail _ (.tail _ (.tail _ (.tail _ (.head _)))))))))))))) ?_)) : T c fr H (.dk i k H0 X ops f listed) := .mk fun a w s g => ⟨fun _ p hp => s.on p (hs.all p hp), h.h a w s g⟩
theorem dkx {i : Nat} (h : T c fr H (.dx k H0 X ops f listed)) (hi : X.contains i = true := by rfl) : T c fr H (.dk i k H0 X ops f listed) := .mk fun a w s g => ⟨fun h0 => (by rw [hi] at h0; cases h0), h.h a w s g⟩
/-- the only one that may come up -/
theorem d1 (i : Nat) {o : Oper} (h : Ef c fr H o (.dk i k H0 X ops f (listed.setIfInBounds i true))) (hr : Region.ready .any ops listed = [i] := by kernel_rfl) (ho : ops[i]? = some o := by rw [List.getElem?_toArray]; rfl) (hg : o.guard = none := by rfl) : T c fr H (.dx k H0 X ops (f + 1) listed) := .mk fun a w s g =>
  AnyX.only hr ho fun K hK => by
    rw [if_pos (by simp [Region.wanted, hg])]
    exact Oper.wp_mono (fun a' w' h' => hK a' w' h'.1 h'.2) (h.h _ a w s g)
theorem d1g (i : Nat) {od : Option Tmp} {j t : Nat} {b : Bool} (h : Ef c fr H ⟨od, o, ty, pos, aft, some (j, b)⟩ (.dk i k H0 X ops f (listed.setIfInBounds i true))) (hr : Region.ready .any ops listed = [i] := by kernel_rfl) (ho : ops[i]? = some ⟨od, o, ty, pos, aft, some (j, b)⟩ := by rw [List.getElem?_toArray]; rfl) (ht : (ops[j]?).bind (·.dst) = some t := by rfl) (hl : look fr t = some (.bool b) := by rfl) : T c fr H (.dx k H0 X ops (f + 1) listed) := .mk fun a w s g =>
  AnyX.only hr ho fun K hK => by
    rw [if_pos (by rw [wanted_eq (c := c) ht hl g]; simp)]
    exact Oper.wp_mono (fun a' w' h' => hK a' w' h'.1 h'.2) (h.h _ a w s g)
theorem dO (i : Nat) {od : Option Tmp} (hr : Region.ready .any ops listed = [i]) (ho : ops[i]? = some ⟨od, o, ty, pos, aft, none⟩) (h : On c fr H od o ty (.dk i k H0 X ops f (listed.setIfInBounds i true))) : T c fr H (.dx k H0 X ops (f + 1) listed) := d1 i (h.h pos aft none) hr ho rfl
theorem dd (h : T c fr H (.norm k)) (hr : Region.ready .any ops listed = [] := by kernel_rfl) : T c fr H (.dx k H0 X ops f listed) := .mk fun a w s g => AnyX.done hr (h.h a w s g) f
end
/-- slots that keep their values -/
inductive Kf (fr : Fr) : List Nat → Fr → Prop
  | nil : Kf fr [] []
  | cons {t v ts r} : look fr t = some v → Kf fr ts r → Kf fr (t :: ts) ((t, v) :: r)
theorem Kf.sub {fr ts r} (h : Kf fr ts r) : FrSub fr r := by
  induction h with
  | nil => exact .nil
  | cons h _ ih => exact .cons h ih
theorem FrSub.app {fr a b : Fr} (h : FrSub fr a) (h2 : FrSub fr b) : FrSub fr (a ++ b) := by
  induction h with
  | nil => exact h2
  | cons h _ ih => exact .cons h ih
theorem Picks.hsub {H M R : List Pc} (h : Picks H M R) : HSub H (M ++ R) := by
  have all : ∀ (H : List Pc), HSub H H := by
    intro H
    induction H with
    | nil => exact .nil
    | cons p H ih => exact .cons .here ih
  induction h with
  | nil => exact all _
  | cons hp _ ih => exact .cons hp ih
theorem c_loopS {c : Cx} {fr : Fr} {H : List Pc} {k : List It} {x : Code} {σ : Type} {cst : Fr} {rest : List Pc} (ks : List Nat) (upd : σ → Fr) (chg : σ → List Pc) (C : σ → Prop) (μ : σ → Nat) (s0 : σ) (h0 : C s0)
    (round : ∀ s, C s → T c (upd s ++ cst) (chg s ++ rest) (.code (.lp (LpN c (fun s => upd s ++ cst) (fun s => chg s ++ rest) C μ (μ s)) :: k) x)) (hk : Kf fr ks cst := by repeat (first | exact Kf.nil | apply Kf.cons (by rfl))) (hf : FrSub fr (upd s0) := by exact frE) (hH : Picks H (chg s0) rest := by exact picksE) : T c fr H (.code k (Code.loop x)) :=
  c_loop (fun s => upd s ++ cst) (fun s => chg s ++ rest) C μ s0 h0 round (hf.app hk.sub) hH.hsub
/-- a loop that leaves the pieces alone -/
theorem c_loopR {c : Cx} {fr : Fr} {H : List Pc} {k : List It} {x : Code} {σ : Type} {cst : Fr} (ks : List Nat) (upd : σ → Fr) (C : σ → Prop) (μ : σ → Nat) (s0 : σ) (h0 : C s0)
    (round : ∀ s, C s → T c (upd s ++ cst) H (.code (.lp (LpN c (fun s => upd s ++ cst) (fun _ => H) C μ (μ s)) :: k) x)) (hk : Kf fr ks cst := by repeat (first | exact Kf.nil | apply Kf.cons (by rfl))) (hf : FrSub fr (upd s0) := by exact frE) : T c fr H (.code k (Code.loop x)) :=
  c_loop (fun s => upd s ++ cst) (fun _ => H) C μ s0 h0 round (hf.app hk.sub) (by
    have all : ∀ (H : List Pc), HSub H H := by
      intro H
      induction H with
      | nil => exact .nil
      | cons p H ih => exact .cons .here ih
    exact all _)
/-- ways that meet: what is known where they do, aS a function of s -/
def Jn {σ : Type} (c : Cx) (fr' : σ → Fr) (H' : σ → List Pc) (C : σ → Prop) (a : Act) (w : World) : Prop := ∃ s, C s ∧ St c.G c.D c.w0 (H' s) w ∧ Ag c.n (fr' s) a
theorem c_join {c : Cx} {fr : Fr} {H : List Pc} {k : List It} {x : Code} {σ : Type} (fr' : σ → Fr) (H' : σ → List Pc) (C : σ → Prop) (h : T c fr H (.code (.lp (Jn c fr' H' C) :: k) x)) (h2 : ∀ s, C s → T c (fr' s) (H' s) (.norm k)) : T c fr H (.code k x) := .mk fun a w s g =>
  wp_mono (h.h a w s g) fun e a' w' he => by
    cases e with
    | normal => obtain ⟨z, hz, hs, hg⟩ := he; exact (h2 z hz).h a' w' hs hg
    | _ => exact he
theorem n_join {c : Cx} {fr : Fr} {H : List Pc} {k : List It} {σ : Type} {fr' : σ → Fr} {H' : σ → List Pc} {C : σ → Prop} (s : σ) (hC : C s) (hf : FrSub fr (fr' s) := by repeat (first | exact FrSub.nil | refine FrSub.cons (by rfl) ?_)) (hH : HSub H (H' s) := by repeat (first | exact HSub.nil | refine HSub.cons (by first | exact .here | exact .there .here | exact .there (.there .here) | exact .there (.there (.there .here)) | exact .there (.there (.there (.there .here))) | exact .there (.there (.there (.there (.there .here)))) | exact .there (.there (.there (.there (.there (.there .here))))) | exact .there (.there (.there (.there (.there (.there (.there .here)))))) | exact .there (.there (.there (.there (.there (.there (.there (.there .here))))))) | exact .there (.there (.there (.there (.there (.there (.there (.there (.there .here)))))))) | exact .there (.there (.there (.there (.there (.there (.there (.there (.there (.there .here))))))))) | exact .there (.there (.there (.there (.there (.there (.there (.there (.there (.there (.there .here)))))))))) | exact .there (.there (.there (.there (.there (.there (.there (.there (.there (.there (.there (.there .here))))))))))) | exact .there (.there (.there (.there (.there (.there (.there (.there (.there (.there (.there (.there (.there .here))))))))))))) ?_)) : T c fr H (.norm (.lp (Jn c fr' H' C) :: k)) :=
  .mk fun _ _ st g => ⟨s, hC, st.sub hH, g.sub hf⟩
theorem c_joinS {c : Cx} {fr : Fr} {H : List Pc} {k : List It} {x : Code} {σ : Type} {cst : Fr} {rest : List Pc} (ks rs : List Nat) (upd : σ → Fr) (chg : σ → List Pc) (C : σ → Prop) (h : T c fr H (.code (.lp (Jn c (fun s => upd s ++ cst) (fun s => chg s ++ rest) C) :: k) x)) (h2 : ∀ s, C s → T c (upd s ++ cst) (chg s ++ rest) (.norm k)) (_hk : Kf fr ks cst := by repeat (first | exact Kf.nil | apply Kf.cons (by rfl))) (_hr : Sel H rs rest := by repeat constructor) : T c fr H (.code k x) :=
  c_join _ _ C h h2
theorem enter {P : Program} {f : FuncId} {fn : Func} {cd : Code} {args : List Value} {A M H : List Pc} {σ : Type} {C : σ → Prop} {v : σ → Value} {N : σ → List Pc} {n : Nat} (hf : P.funcs[f]? = some fn) (hb : fn.body = some cd) (hn : fn.ntmps = n)
    (h : ∀ w, T ⟨P, fp M, fp A, w, n, bodyPost P fn (FnPost P w A M C v N)⟩ (args0 0 args) H (.code [] cd))
    (hl : Nat.ble args.length n = true := by rfl) (hmA : A.all (fun p => !p.mu) = true := by rfl) (hH : AppL M A H := by repeat constructor) : Fn P f args A M C v N := by
  subst hn
  exact fn_enter hf hb (fun w => by rw [hH.eq]; exact h w) (by simpa using hl) hmA
theorem ret {P : Program} {fn : Func} {G D : List Nat} {w0 : World} {n : Nat} {A M : List Pc} {σ : Type} {C : σ → Prop} {v : σ → Value} {N : σ → List Pc} {fr : Fr} {H : List Pc} {rs : List ResultVar} {vs : List Value} (s : σ) (hC : C s) (hv : tup vs = v s)
    (hr : fn.results = rs.toArray := by rfl) (h : Res P fr H rs vs := by repeat (first | exact Res.nil | apply Res.tmp (by rfl) | apply Res.agg inferInstance (by rfl) (by first | exact .head _ | exact .tail _ (.head _) | exact .tail _ (.tail _ (.head _)) | exact .tail _ (.tail _ (.tail _ (.head _))) | exact .tail _ (.tail _ (.tail _ (.tail _ (.head _)))) | exact .tail _ (.tail _ (.tail _ (.tail _ (.tail _ (.head _))))) | exact .tail _ (.tail _ (.tail _ (.tail _ (.tail _ (.tail _ (.head _)))))) | exact .tail _ (.tail _ (.tail _ (.tail _ (.tail _ (.tail _ (.tail _ (.head _))))))) | exact .tail _ (.tail _ (.tail _ (.tail _ (.tail _ (.tail _ (.tail _ (.tail _ (.head _)))))))) | exact .tail _ (.tail _ (.tail _ (.tail _ (.tail _ (.tail _ (.tail _ (.tail _ (.tail _ (.head _))))))))) | exact .tail _ (.tail _ (.tail _ (.tail _ (.tail _ (.tail _ (.tail _ (.tail _ (.tail _ (.tail _ (.head _)))))))))) | exact .tail _ (.tail _ (.tail _ (.tail _ (.tail _ (.tail _ (.tail _ (.tail _ (.tail _ (.tail _ (.tail _ (.head _))))))))))) | exact .tail _ (.tail _ (.tail _ (.tail _ (.tail _ (.tail _ (.tail _ (.tail _ (.tail _ (.tail _ (.tail _ (.tail _ (.head _)))))))))))) | exact .tail _ (.tail _ (.tail _ (.tail _ (.tail _ (.tail _ (.tail _ (.tail _ (.tail _ (.tail _ (.tail _ (.tail _ (.tail _ (.head _)))))))))))))) (by rfl) | apply Res.one inferInstance (by rfl) (by first | exact .head _ | exact .tail _ (.head _) | exact .tail _ (.tail _ (.head _)) | exact .tail _ (.tail _ (.tail _ (.head _))) | exact .tail _ (.tail _ (.tail _ (.tail _ (.head _)))) | exact .tail _ (.tail _ (.tail _ (.tail _ (.tail _ (.head _))))) | exact .tail _ (.tail _ (.tail _ (.tail _ (.tail _ (.tail _ (.head _)))))) | exact .tail _ (.tail _ (.tail _ (.tail _ (.tail _ (.tail _ (.tail _ (.head _))))))) | exact .tail _ (.tail _ (.tail _ (.tail _ (.tail _ (.tail _ (.tail _ (.tail _ (.head _)))))))) | exact .tail _ (.tail _ (.tail _ (.tail _ (.tail _ (.tail _ (.tail _ (.tail _ (.tail _ (.head _))))))))) | exact .tail _ (.tail _ (.tail _ (.tail _ (.tail _ (.tail _ (.tail _ (.tail _ (.tail _ (.tail _ (.head _)))))))))) | exact .tail _ (.tail _ (.tail _ (.tail _ (.tail _ (.tail _ (.tail _ (.tail _ (.tail _ (.tail _ (.tail _ (.head _))))))))))) | exact .tail _ (.tail _ (.tail _ (.tail _ (.tail _ (.tail _ (.tail _ (.tail _ (.tail _ (.tail _ (.tail _ (.tail _ (.head _)))))))))))) | exact .tail _ (.tail _ (.tail _ (.tail _ (.tail _ (.tail _ (.tail _ (.tail _ (.tail _ (.tail _ (.tail _ (.tail _ (.tail _ (.head _)))))))))))))))) (hN : HSub H (N s) := by repeat (first | exact HSub.nil | refine HSub.cons (by first | exact .here | exact .there .here | exact .there (.there .here) | exact .there (.there (.there .here)) | exact .there (.there (.there (.there .here))) | exact .there (.there (.there (.there (.there .here)))) | exact .there (.there (.there (.there (.there (.there .here))))) | exact .there (.there (.there (.there (.there (.there (.there .here)))))) | exact .there (.there (.there (.there (.there (.there (.there (.there .here))))))) | exact .there (.there (.there (.there (.there (.there (.there (.there (.there .here)))))))) | exact .there (.there (.there (.there (.there (.there (.there (.there (.there (.there .here))))))))) | exact .there (.there (.there (.there (.there (.there (.there (.there (.there (.there (.there .here)))))))))) | exact .there (.there (.there (.there (.there (.there (.there (.there (.there (.there (.there (.there .here))))))))))) | exact .there (.there (.there (.there (.there (.there (.there (.there (.there (.there (.there (.there (.there .here))))))))))))) ?_)) (hG : G = fp M := by rfl) (hD : D = fp A := by rfl) : T ⟨P, G, D, w0, n, bodyPost P fn (FnPost P w0 A M C v N)⟩ fr H (.fin .ret) := fn_ret s hC hr h hv hN hG hD
/-- out of a triple: a value, nothing that was there has turned -/
theorem Fn.val {P : Program} {f : FuncId} {args : List Value} {A : List Pc} {C : Unit → Prop} {v : Value} (h : Fn P f args A [] C (fun _ => v) (fun _ => [])) (w : World) (hA : Hol A w) (hm : A.all (fun p => !p.mu) = true := by rfl) : Calls P f args.toArray w fun e w' => e = .returned v ∧ Below w.heap.size w w' :=
  have hs : ∀ (A : List Pc), A.all (fun p => !p.mu) = true → Sep A := by
    intro A
    induction A with
    | nil => intro _; trivial
    | cons p A ih =>
      intro h
      simp only [List.all_cons, Bool.and_eq_true, Bool.not_eq_true'] at h
      exact ⟨fun q hq hm => by have := List.all_eq_true.1 h.2 q hq; simp [h.1] at hm; simp [hm] at this, ih h.2⟩
  (h w (by simpa using hA) (by simpa using hs A hm)).mono fun e w' ⟨_, _, he, _, _, hk, _⟩ => ⟨he, hk.below (Nat.le_refl _) (by simp [fp])⟩
theorem sep_ro : ∀ (A : List Pc), A.all (fun p => !p.mu) = true → Sep A
  | [], _ => trivial
  | p :: A, h => by
    simp only [List.all_cons, Bool.and_eq_true, Bool.not_eq_true'] at h
    exact ⟨fun q hq hm => by have := List.all_eq_true.1 h.2 q hq; simp [h.1] at hm; simp [hm] at this, sep_ro A h.2⟩
theorem Pc.nd {p : Pc} (hm : p.mu = true) {w : World} (h : p.P w) : p.F.Nodup := by
  cases p with
  | row g t o A cs B => simp [Pc.F]
  | ow E t v xs F => exact h.1
  | own E v x F => exact h.1
  | flat E cs xs F => exact h.1
  | _ => cases hm
theorem fp_nd {w : World} : ∀ {N : List Pc}, N.all (·.mu) = true → Hol N w → Sep N → (fp N).Nodup
  | [], _, _, _ => by simp [fp]
  | p :: N, hm, hH, hs => by
    simp only [List.all_cons, Bool.and_eq_true] at hm
    refine List.nodup_append.2 ⟨Pc.nd hm.1 (hH p (by simp)), fp_nd hm.2 (fun q hq => hH q (by simp [hq])) hs.2, fun b hb b' hb' e => ?_⟩
    subst e
    obtain ⟨q, hq, hqb⟩ := mem_fp.1 hb'
    exact hs.1 q hq (by simp [hm.1]) b hb hqb
/-- out of a triple that only reads: what it returns is owned, and new -/
theorem Fn.made {P : Program} {f : FuncId} {args : List Value} {A : List Pc} {σ : Type} {C : σ → Prop} {v : σ → Value} {N : σ → List Pc} (h : Fn P f args A [] C v N) (w : World) (hA : Hol A w) (hN : ∀ s, (N s).all (·.mu) = true) (hm : A.all (fun p => !p.mu) = true := by rfl) :
    Calls P f args.toArray w fun e w' => ∃ s, C s ∧ e = .returned (v s) ∧ Hol (N s) w' ∧ (fp (N s)).Nodup ∧ (∀ b ∈ fp (N s), w.heap.size ≤ b) ∧ Below w.heap.size w w' :=
  (h w (by simpa using hA) (by simpa using sep_ro A hm)).mono fun e w' ⟨s, hC, he, hH, hS, hk, hF⟩ => ⟨s, hC, he, hH, fp_nd (hN s) hH hS, (fun b hb => by
    obtain ⟨p, hp, hpb⟩ := mem_fp.1 hb
    rcases hF p hp b hpb with h | ⟨q, hq, _⟩ | ⟨h, _⟩
    · exact h
    · simp at hq
    · have := List.all_eq_true.1 (hN s) p hp; rw [h] at this; cases this), hk.below (Nat.le_refl _) (by simp [fp])⟩
/-- out of a triple that only reads: what it returns may be read -/
theorem Fn.read {P : Program} {f : FuncId} {args : List Value} {A : List Pc} {σ : Type} {C : σ → Prop} {v : σ → Value} {N : σ → List Pc} (h : Fn P f args A [] C v N) (w : World) (hA : Hol A w) (hm : A.all (fun p => !p.mu) = true := by rfl) :
    Calls P f args.toArray w fun e w' => ∃ s, C s ∧ e = .returned (v s) ∧ Hol (N s) w' ∧ Below w.heap.size w w' :=
  (h w (by simpa using hA) (by simpa using sep_ro A hm)).mono fun e w' ⟨s, hC, he, hH, hS, hk, hF⟩ => ⟨s, hC, he, hH, hk.below (Nat.le_refl _) (by simp [fp])⟩
end Go.Proofs.YtidephmobajikaaDoor
/- The type Hold of the exact laws: how it reads, how it is owned; the walks of its size, copy, equality, mark and held. Written by wip/gentypes.py. -/
namespace Go.Proofs.YtidephmobajikaaDoor
open Go.RowKit
structure Hold where
  number : Int
  untl : Int
end Go.Proofs.YtidephmobajikaaDoor
/- The type Source of the exact laws: how it reads, how it is owned; the walks of its size, copy, equality, mark and held. Written by wip/gentypes.py. -/
namespace Go.Proofs.YtidephmobajikaaDoor
open Go.RowKit
structure Source where
  window : SendWindow
  clock : Int
  quiet : Int
  holds : List Hold
end Go.Proofs.YtidephmobajikaaDoor
/- Structs of type Source in a walk's state: opened, closed. -/
namespace Go.Proofs.YtidephmobajikaaDoor
open Go.RowKit
section
variable {c : Cx} {fr : Fr} {H : List Pc} {Φ : Gl}
end
end Go.Proofs.YtidephmobajikaaDoor
/- Structs of type Hold in a walk's state: opened, closed. -/
namespace Go.Proofs.YtidephmobajikaaDoor
open Go.RowKit
section
variable {c : Cx} {fr : Fr} {H : List Pc} {Φ : Gl}
end
end Go.Proofs.YtidephmobajikaaDoor
/- Structs of type SendWindow in a walk's state: opened, closed. -/
namespace Go.Proofs.YtidephmobajikaaDoor
open Go.RowKit
section
variable {c : Cx} {fr : Fr} {H : List Pc} {Φ : Gl}
theorem openSendWindow {v : Value} {x : SendWindow} {F : List Nat} (h : ∀ (a1 : Option Addr) (c1 : Nat) (F1 : List Nat), v = .agg #[.int .i64 x.trail, .int .i64 x.size, .slice a1 x.items.length c1] → x.items.length ≤ maxLen → T c fr (.sl EStr (.slice a1 x.items.length c1) x.items F1 :: H) Φ) (hm : .isv ESendWindow v x F ∈ H := by first | exact .head _ | exact .tail _ (.head _) | exact .tail _ (.tail _ (.head _)) | exact .tail _ (.tail _ (.tail _ (.head _))) | exact .tail _ (.tail _ (.tail _ (.tail _ (.head _)))) | exact .tail _ (.tail _ (.tail _ (.tail _ (.tail _ (.head _))))) | exact .tail _ (.tail _ (.tail _ (.tail _ (.tail _ (.tail _ (.head _)))))) | exact .tail _ (.tail _ (.tail _ (.tail _ (.tail _ (.tail _ (.tail _ (.head _))))))) | exact .tail _ (.tail _ (.tail _ (.tail _ (.tail _ (.tail _ (.tail _ (.tail _ (.head _)))))))) | exact .tail _ (.tail _ (.tail _ (.tail _ (.tail _ (.tail _ (.tail _ (.tail _ (.tail _ (.head _))))))))) | exact .tail _ (.tail _ (.tail _ (.tail _ (.tail _ (.tail _ (.tail _ (.tail _ (.tail _ (.tail _ (.head _)))))))))) | exact .tail _ (.tail _ (.tail _ (.tail _ (.tail _ (.tail _ (.tail _ (.tail _ (.tail _ (.tail _ (.tail _ (.head _))))))))))) | exact .tail _ (.tail _ (.tail _ (.tail _ (.tail _ (.tail _ (.tail _ (.tail _ (.tail _ (.tail _ (.tail _ (.tail _ (.head _)))))))))))) | exact .tail _ (.tail _ (.tail _ (.tail _ (.tail _ (.tail _ (.tail _ (.tail _ (.tail _ (.tail _ (.tail _ (.tail _ (.tail _ (.head _)))))))))))))) : T c fr H Φ := .mk fun a w s g => by
  obtain ⟨cs, rfl, v1, rfl, h1⟩ := s.get hm
  obtain ⟨a1, c1, rfl⟩ := h1.slice; have l1 := h1.len
  have t1 := s.ro (p := .sl EStr (.slice a1 x.items.length c1) x.items F) hm rfl rfl ⟨by decide, h1⟩ fun b hb => hb
  exact (h a1 c1 F rfl  l1).h a w t1 g
theorem closeSendWindow (x : SendWindow) {a1 : Option Addr} {c1 : Nat} {F1 : List Nat}  (h : T c fr (.isv ESendWindow (.agg #[.int .i64 x.trail, .int .i64 x.size, .slice a1 x.items.length c1]) x (F1) :: H) Φ) (m1 : .sl EStr (.slice a1 x.items.length c1) x.items F1 ∈ H := by first | exact .head _ | exact .tail _ (.head _) | exact .tail _ (.tail _ (.head _)) | exact .tail _ (.tail _ (.tail _ (.head _))) | exact .tail _ (.tail _ (.tail _ (.tail _ (.head _)))) | exact .tail _ (.tail _ (.tail _ (.tail _ (.tail _ (.head _))))) | exact .tail _ (.tail _ (.tail _ (.tail _ (.tail _ (.tail _ (.head _)))))) | exact .tail _ (.tail _ (.tail _ (.tail _ (.tail _ (.tail _ (.tail _ (.head _))))))) | exact .tail _ (.tail _ (.tail _ (.tail _ (.tail _ (.tail _ (.tail _ (.tail _ (.head _)))))))) | exact .tail _ (.tail _ (.tail _ (.tail _ (.tail _ (.tail _ (.tail _ (.tail _ (.tail _ (.head _))))))))) | exact .tail _ (.tail _ (.tail _ (.tail _ (.tail _ (.tail _ (.tail _ (.tail _ (.tail _ (.tail _ (.head _)))))))))) | exact .tail _ (.tail _ (.tail _ (.tail _ (.tail _ (.tail _ (.tail _ (.tail _ (.tail _ (.tail _ (.tail _ (.head _))))))))))) | exact .tail _ (.tail _ (.tail _ (.tail _ (.tail _ (.tail _ (.tail _ (.tail _ (.tail _ (.tail _ (.tail _ (.tail _ (.head _)))))))))))) | exact .tail _ (.tail _ (.tail _ (.tail _ (.tail _ (.tail _ (.tail _ (.tail _ (.tail _ (.tail _ (.tail _ (.tail _ (.tail _ (.head _)))))))))))))) : T c fr H Φ := .mk fun a w s g => by
  have hP : IsV ESendWindow w (.agg #[.int .i64 x.trail, .int .i64 x.size, .slice a1 x.items.length c1]) x (F1) := ⟨_, rfl, _, rfl, (s.get m1).2⟩
  refine h.h a w (s.add (N := [.isv ESendWindow (.agg #[.int .i64 x.trail, .int .i64 x.size, .slice a1 x.items.length c1]) x (F1)]) (Below.refl _ _) (by intro q hq; simp at hq; subst hq; exact hP) ⟨by simp, trivial⟩ fun q hq b hb => ?_) g
  simp at hq; subst hq
  simp only [Pc.F, List.mem_append] at hb
  exact .inr ⟨rfl, _, m1, rfl, hb⟩
theorem openOSendWindow {v : Value} {x : SendWindow} {F : List Nat} {S : List Pc} (h : ∀ (a1 : Option Addr) (c1 : Nat) (F1 : List Nat), v = .agg #[.int .i64 x.trail, .int .i64 x.size, .slice a1 x.items.length c1] → x.items.length ≤ maxLen → T c fr (.ow EStr 9 (.slice a1 x.items.length c1) x.items F1 :: S) Φ) (hp : Pick H (.own OSendWindow v x F) S := by first | exact .here | exact .there .here | exact .there (.there .here) | exact .there (.there (.there .here)) | exact .there (.there (.there (.there .here))) | exact .there (.there (.there (.there (.there .here)))) | exact .there (.there (.there (.there (.there (.there .here))))) | exact .there (.there (.there (.there (.there (.there (.there .here)))))) | exact .there (.there (.there (.there (.there (.there (.there (.there .here))))))) | exact .there (.there (.there (.there (.there (.there (.there (.there (.there .here)))))))) | exact .there (.there (.there (.there (.there (.there (.there (.there (.there (.there .here))))))))) | exact .there (.there (.there (.there (.there (.there (.there (.there (.there (.there (.there .here)))))))))) | exact .there (.there (.there (.there (.there (.there (.there (.there (.there (.there (.there (.there .here))))))))))) | exact .there (.there (.there (.there (.there (.there (.there (.there (.there (.there (.there (.there (.there .here))))))))))))) : T c fr H Φ := .mk fun a w s g => by
  have z1 := s.pick hp
  obtain ⟨hn, cs, rfl, v1, rfl, h1⟩ := z1.on (.own OSendWindow v x F) (by simp)
  obtain ⟨a1, c1, rfl⟩ := h1.slice; have l1 := h1.len
  refine (h a1 c1 F rfl  l1).h a w (St.turn (M := [.own OSendWindow (.agg #[.int .i64 x.trail, .int .i64 x.size, .slice a1 x.items.length c1]) x _]) (N := [.ow EStr 9 (.slice a1 x.items.length c1) x.items F]) z1 (Keep.refl _ w) ?_ ?_ ?_) g
  · intro q hq; simp at hq; subst hq; exact ⟨hn, h1⟩
  · exact ⟨by simp, trivial⟩
  · intro q hq b hb; simp at hq; subst hq; exact .inr (.inl ⟨_, List.mem_singleton.2 rfl, rfl, hb⟩)
end
end Go.Proofs.YtidephmobajikaaDoor
/- A string as a row of one. -/
namespace Go.Proofs.YtidephmobajikaaDoor
open Go.RowKit
theorem rep_s {s : ByteArray} (h : s.size ≤ maxLen) (w : World) : Flat EStr w [.string s] [s] [] := ⟨_, [], [], [], by simp, by simp, ⟨rfl, h, rfl⟩, rfl, rfl⟩
theorem t_sl {c : Cx} {fr : Fr} {H : List Pc} {Φ : Gl} {α : Type} {E : Elem α} {v : Value} {xs : List α} {F : List Nat} (h : ∀ a cp, v = .slice a xs.length cp → xs.length ≤ cp → cp ≤ 9223372036854775807 → T c fr H Φ) (hm : .sl E v xs F ∈ H := by first | exact .head _ | exact .tail _ (.head _) | exact .tail _ (.tail _ (.head _)) | exact .tail _ (.tail _ (.tail _ (.head _))) | exact .tail _ (.tail _ (.tail _ (.tail _ (.head _)))) | exact .tail _ (.tail _ (.tail _ (.tail _ (.tail _ (.head _))))) | exact .tail _ (.tail _ (.tail _ (.tail _ (.tail _ (.tail _ (.head _)))))) | exact .tail _ (.tail _ (.tail _ (.tail _ (.tail _ (.tail _ (.tail _ (.head _))))))) | exact .tail _ (.tail _ (.tail _ (.tail _ (.tail _ (.tail _ (.tail _ (.tail _ (.head _)))))))) | exact .tail _ (.tail _ (.tail _ (.tail _ (.tail _ (.tail _ (.tail _ (.tail _ (.tail _ (.head _))))))))) | exact .tail _ (.tail _ (.tail _ (.tail _ (.tail _ (.tail _ (.tail _ (.tail _ (.tail _ (.tail _ (.head _)))))))))) | exact .tail _ (.tail _ (.tail _ (.tail _ (.tail _ (.tail _ (.tail _ (.tail _ (.tail _ (.tail _ (.tail _ (.head _))))))))))) | exact .tail _ (.tail _ (.tail _ (.tail _ (.tail _ (.tail _ (.tail _ (.tail _ (.tail _ (.tail _ (.tail _ (.tail _ (.head _)))))))))))) | exact .tail _ (.tail _ (.tail _ (.tail _ (.tail _ (.tail _ (.tail _ (.tail _ (.tail _ (.tail _ (.tail _ (.tail _ (.tail _ (.head _)))))))))))))) : T c fr H Φ := .mk fun ac w s g => by
  obtain ⟨-, hs⟩ := s.get hm
  obtain ⟨a, cp, rfl⟩ := hs.slice
  obtain ⟨-, h2, h3⟩ := hs.caps
  exact (h a cp rfl h2 (by unfold maxLen at h3; omega)).h ac w s g
/-- a row of our own is an owned slice -/
theorem t_row {c : Cx} {fr : Fr} {H : List Pc} {Φ : Gl} {α : Type} {E : Elem α} {t g : Nat} {cs : List Value} {xs : List α} {S : List Pc} (hfl : ∀ w, Flat E w cs xs []) (h : T c fr (.ow E t (.slice (some ⟨g, 0, none⟩) xs.length xs.length) xs [g] :: S) Φ) (hl : xs.length ≤ 1000000) (hp : Pick H (.row g t 0 [] cs []) S := by first | exact .here | exact .there .here | exact .there (.there .here) | exact .there (.there (.there .here)) | exact .there (.there (.there (.there .here))) | exact .there (.there (.there (.there (.there .here)))) | exact .there (.there (.there (.there (.there (.there .here))))) | exact .there (.there (.there (.there (.there (.there (.there .here)))))) | exact .there (.there (.there (.there (.there (.there (.there (.there .here))))))) | exact .there (.there (.there (.there (.there (.there (.there (.there (.there .here)))))))) | exact .there (.there (.there (.there (.there (.there (.there (.there (.there (.there .here))))))))) | exact .there (.there (.there (.there (.there (.there (.there (.there (.there (.there (.there .here)))))))))) | exact .there (.there (.there (.there (.there (.there (.there (.there (.there (.there (.there (.there .here))))))))))) | exact .there (.there (.there (.there (.there (.there (.there (.there (.there (.there (.there (.there (.there .here))))))))))))) : T c fr H Φ := .mk fun a w s g' => by
  have s1 := s.pick hp
  have hr := (s1.on (.row g t 0 [] cs []) (by simp)).2
  have hlen := (hfl w).len
  refine h.h a w (s1.conv rfl ⟨by simp, .inr ⟨g, xs.length, cs, [], [], rfl, by simpa using hr, Nat.le_refl _, by unfold maxLen; omega, by simpa using hlen, hfl w, rfl⟩⟩ (by simp [Pc.F])) g'
end Go.Proofs.YtidephmobajikaaDoor
/- Sources: the check. -/
namespace Go.Proofs.YtidephmobajikaaDoor
open Go.RowKit
def heldB (w : SendWindow) (n : Int) : Bool := decide (gp w.trail n < (w.items.length : Int))
set_option maxRecDepth 100000 in
theorem isHeld_f (x : SendWindow) (n : Int) (v : Value) (F : List Nat) (h0 : 0 ≤ x.trail) (h1 : x.trail ≤ 65535) (h2 : 0 ≤ n) (h3 : n ≤ 65535) :
    Fn Tryd.prog 104 [v, .int .i64 n] [.isv ESendWindow v x F] [] (fun (_ : Unit) => True) (fun _ => .bool (heldB x n)) (fun _ => []) := by
  refine enter Tryd.func104 rfl Tryd.ntmps104 fun w0 => ?_
  refine openSendWindow ?_
  rintro a1 c1 F1 rfl l1
  repeat (first | apply c_seq | apply c_reg | (apply wO; apply oc; rfl; exact ydE) | apply w_nil | apply n_cd | (apply wg_t; rfl; rfl) | (apply wg_f; rfl; rfl; rfl; rfl) | (apply wg_u; rfl; rfl; rfl) | (apply c_t; rfl) | (apply c_f; rfl) | apply c_skip | apply c_block | apply n_blk | apply c_exit | apply e_hit | apply e_cd | apply e_lp | (apply e_miss; rfl) | apply c_ret | (apply wO; apply o_box; rfl; rfl; rfl; intro _) | (apply wO; apply o_alloc; rfl; intro _) | (apply wO; apply o_st; rfl; rfl; rfl; (first | exact AggC.s | exact OneC.s); rfl; exact rplE; exact putE; rfl) | (apply wO; apply o_bs0; rfl; intro _) | (apply wO; apply o_bs; rfl; rfl; rfl; rfl; exact rptE; exact filE; intro _) | (apply wO; apply o_call; rfl; kernel_rfl; exact evsE))
  refine d_start [0] [] ?_
  refine dt 0 ?_
  refine dt 1 ?_
  refine dt 2 ?_
  refine dt 4 ?_
  refine dt 5 ?_
  refine dt 6 ?_
  refine dO 3 (by kernel_rfl) (by rw [List.getElem?_toArray]; rfl) ?_
  apply o_call; rfl; kernel_rfl; exact evsE
  refine ce (fun w s => gap_c _ _ _ (by omega) (by omega) (by omega) (by omega)) ?_
  refine dk ?_
  refine dt 7 ?_
  refine dt 8 ?_
  refine dd ?_
  repeat (first | apply c_seq | apply c_reg | (apply wO; apply oc; rfl; exact ydE) | apply w_nil | apply n_cd | (apply wg_t; rfl; rfl) | (apply wg_f; rfl; rfl; rfl; rfl) | (apply wg_u; rfl; rfl; rfl) | (apply c_t; rfl) | (apply c_f; rfl) | apply c_skip | apply c_block | apply n_blk | apply c_exit | apply e_hit | apply e_cd | apply e_lp | (apply e_miss; rfl) | apply c_ret | (apply wO; apply o_box; rfl; rfl; rfl; intro _) | (apply wO; apply o_alloc; rfl; intro _) | (apply wO; apply o_st; rfl; rfl; rfl; (first | exact AggC.s | exact OneC.s); rfl; exact rplE; exact putE; rfl) | (apply wO; apply o_bs0; rfl; intro _) | (apply wO; apply o_bs; rfl; rfl; rfl; rfl; exact rptE; exact filE; intro _) | (apply wO; apply o_call; rfl; kernel_rfl; exact evsE))
  refine ret () trivial rfl
set_option maxRecDepth 100000 in
theorem l9Held_f (x : SendWindow) (n : Int) (v : Value) (F : List Nat) (h0 : 0 ≤ x.trail) (h1 : x.trail ≤ 65535) (h2 : 0 ≤ n) (h3 : n ≤ 65535) :
    Fn Tryd.prog 109 [v, .int .i64 n] [.isv ESendWindow v x F] [] (fun (_ : Unit) => True) (fun _ => .bool (heldB x n)) (fun _ => []) := by
  refine enter Tryd.func109 rfl Tryd.ntmps109 fun w0 => ?_
  refine openSendWindow ?_
  rintro a1 c1 F1 rfl l1
  repeat (first | apply c_seq | apply c_reg | (apply wO; apply oc; rfl; exact ydE) | apply w_nil | apply n_cd | (apply wg_t; rfl; rfl) | (apply wg_f; rfl; rfl; rfl; rfl) | (apply wg_u; rfl; rfl; rfl) | (apply c_t; rfl) | (apply c_f; rfl) | apply c_skip | apply c_block | apply n_blk | apply c_exit | apply e_hit | apply e_cd | apply e_lp | (apply e_miss; rfl) | apply c_ret | (apply wO; apply o_box; rfl; rfl; rfl; intro _) | (apply wO; apply o_alloc; rfl; intro _) | (apply wO; apply o_st; rfl; rfl; rfl; (first | exact AggC.s | exact OneC.s); rfl; exact rplE; exact putE; rfl) | (apply wO; apply o_bs0; rfl; intro _) | (apply wO; apply o_bs; rfl; rfl; rfl; rfl; exact rptE; exact filE; intro _) | (apply wO; apply o_call; rfl; kernel_rfl; exact evsE))
  refine d_start [0] [] ?_
  refine dt 0 ?_
  refine dt 1 ?_
  refine dt 2 ?_
  refine dt 4 ?_
  refine dt 5 ?_
  refine dt 6 ?_
  refine dO 3 (by kernel_rfl) (by rw [List.getElem?_toArray]; rfl) ?_
  apply o_call; rfl; kernel_rfl; exact evsE
  refine ce (fun w s => l2Gap_c _ _ _ (by omega) (by omega)) ?_
  refine dk ?_
  refine dt 7 ?_
  refine dt 8 ?_
  refine dd ?_
  repeat (first | apply c_seq | apply c_reg | (apply wO; apply oc; rfl; exact ydE) | apply w_nil | apply n_cd | (apply wg_t; rfl; rfl) | (apply wg_f; rfl; rfl; rfl; rfl) | (apply wg_u; rfl; rfl; rfl) | (apply c_t; rfl) | (apply c_f; rfl) | apply c_skip | apply c_block | apply n_blk | apply c_exit | apply e_hit | apply e_cd | apply e_lp | (apply e_miss; rfl) | apply c_ret | (apply wO; apply o_box; rfl; rfl; rfl; intro _) | (apply wO; apply o_alloc; rfl; intro _) | (apply wO; apply o_st; rfl; rfl; rfl; (first | exact AggC.s | exact OneC.s); rfl; exact rplE; exact putE; rfl) | (apply wO; apply o_bs0; rfl; intro _) | (apply wO; apply o_bs; rfl; rfl; rfl; rfl; exact rptE; exact filE; intro _) | (apply wO; apply o_call; rfl; kernel_rfl; exact evsE))
  refine ret () trivial rfl

end Go.Proofs.YtidephmobajikaaDoor
/- Sources: the check of the reference. -/
namespace Go.Proofs.YtidephmobajikaaDoor
open Go.RowKit
end Go.Proofs.YtidephmobajikaaDoor
/- Walks of Go's generic library functions on slices of impl.Hold. Written by wip/genlib.py. -/
namespace Go.Proofs.YtidephmobajikaaDoor
open Go.RowKit
end Go.Proofs.YtidephmobajikaaDoor
/- Sources: the copy, the holds that are kept. -/
namespace Go.Proofs.YtidephmobajikaaDoor
open Go.RowKit
end Go.Proofs.YtidephmobajikaaDoor
/- Sources: TrimSource of the program. -/
namespace Go.Proofs.YtidephmobajikaaDoor
open Go.RowKit
/-- out of a contract that makes a value -/
theorem fn_made {P : Program} {f : FuncId} {args : List Value} {A : List Pc} {σ : Type} {C : σ → Prop} {v : σ → Value} {N : σ → Pc}
    (h : ∀ w, Hol A w → Calls P f args.toArray w fun e w' => ∃ s, C s ∧ e = .returned (v s) ∧ (N s).P w' ∧ (∀ b ∈ (N s).F, w.heap.size ≤ b) ∧ Below w.heap.size w w') : Fn P f args A [] C v (fun s => [N s]) := fun w hA _ => by
  refine (h w (by simpa using hA)).mono ?_
  rintro e w' ⟨s, hC, he, hN, hF, hB⟩
  refine ⟨s, hC, he, hol1 hN, ⟨by simp, trivial⟩, Keep.ofBelow hB, fun p hp b hb => ?_⟩
  simp at hp
  subst hp
  exact .inl (hF b hb)
structure SrcS where
  a : Option Addr
  c : Nat
  a2 : Option Addr
  c2 : Nat
  F : List Nat
structure GoodS (x : Source) : Prop where
  w : goodWin x.window = true
  l : x.window.items.length ≤ 6
  t0 : 0 ≤ x.window.trail
  t1 : x.window.trail ≤ 65535
  k0 : 0 ≤ x.clock
  k1 : x.clock ≤ 9999
  m : x.holds.length ≤ 6
  n : ∀ h ∈ x.holds, isSer h.number = true
  u : ∀ h ∈ x.holds, x.clock + 1 ≤ h.untl
  b : ∀ h ∈ x.holds, h.untl ≤ x.clock + 3
end Go.Proofs.YtidephmobajikaaDoor
/- Sources: what the reference drops, the holds that it keeps. -/
namespace Go.Proofs.YtidephmobajikaaDoor
open Go.RowKit
structure HoS where
  k : Nat
  a : Option Addr
  c : Nat
  F : List Nat
end Go.Proofs.YtidephmobajikaaDoor
/- Sources: TrimSource of the reference. -/
namespace Go.Proofs.YtidephmobajikaaDoor
open Go.RowKit
end Go.Proofs.YtidephmobajikaaDoor
/- The type Packet of the exact laws: how it reads, how it is owned; the walks of its size, copy, equality, mark and held. Written by wip/gentypes.py. -/
namespace Go.Proofs.YtidephmobajikaaDoor
open Go.RowKit
structure Packet where
  kind : Int
  number : Int
  trail : Int
  lead : Int
  data : ByteArray
/-- read -/
def EPacket : Elem Packet where
  sz := 5
  rep _ cs x F := cs = [.int .i64 x.kind, .int .i64 x.number, .int .i64 x.trail, .int .i64 x.lead, .string x.data] ∧ x.data.size ≤ maxLen ∧ F = []
  len h := by obtain ⟨rfl, s1, rfl⟩ := h; rfl
  lt h := by obtain ⟨rfl, s1, rfl⟩ := h; simp
  frame h _ := h
end Go.Proofs.YtidephmobajikaaDoor
/- slices.Delete on a slice of strings that one owns. -/
namespace Go.Proofs.YtidephmobajikaaDoor
open Go.RowKit Go.Shelf
theorem str_flat (w : World) : ∀ {xs : List ByteArray}, (∀ x ∈ xs, x.size ≤ maxLen) → Flat EStr w (xs.map Value.string) xs []
  | [], _ => ⟨rfl, rfl⟩
  | x :: r, h => ⟨[.string x], r.map Value.string, [], [], rfl, rfl, ⟨rfl, h x (by simp), rfl⟩, str_flat w (fun y hy => h y (by simp [hy]))⟩
end Go.Proofs.YtidephmobajikaaDoor
/- A reading of a struct goes over a change that leaves its blocks. Plain: no program in sight. -/
namespace Go.Proofs.YtidephmobajikaaDoor
open Go.RowKit
theorem IsV.frame {α : Type} {E : Elem α} {w w' : World} {v x F} (h : IsV E w v x F) (hF : ∀ b ∈ F, w'.heap[b]? = w.heap[b]?) : IsV E w' v x F := by
  obtain ⟨cs, hv, h⟩ := h; exact ⟨cs, hv, E.frame h hF⟩
end Go.Proofs.YtidephmobajikaaDoor
/- Walks: the lead of a window; an item pushed. -/
namespace Go.Proofs.YtidephmobajikaaDoor
open Go.RowKit
theorem aft_aft (t n : Int) : aft (aft t 1) (n - 1) = aft t n := by unfold aft; omega
/-- the window that has room -/
def roomed (x : SendWindow) : SendWindow := if (x.items.length : Int) = x.size then ⟨aft x.trail 1, x.size, x.items.drop 1⟩ else x
def pushedW (x : SendWindow) (s : ByteArray) : SendWindow := ⟨(roomed x).trail, x.size, (roomed x).items ++ [s]⟩
def pushedP (x : SendWindow) (s : ByteArray) : Packet := ⟨1, aft x.trail x.items.length, (roomed x).trail, aft (roomed x).trail ((roomed x).items.length + 1), s⟩
theorem Keep.transNew {F G : List Nat} {a b c : World} (h : Keep F a b) (k : Keep G b c) (hG : ∀ x ∈ G, x ∈ F ∨ a.heap.size ≤ x) : Keep F a c :=
  ⟨k.os.trans h.os, k.tape.trans h.tape, k.output.trans h.output, Nat.le_trans h.size k.size, fun i hi hn => (k.block i (Nat.lt_of_lt_of_le hi h.size) fun hm => by
    rcases hG i hm with h1 | h1
    · exact hn h1
    · omega).trans (h.block i hi hn)⟩
theorem one_src (w : World) (t : TypeId) (s : ByteArray) : ∀ j u, [Value.string s][j]? = some u → (w.alloc (.cells #[.string s] t)).cell? ((⟨w.heap.size, 0, none⟩ : Addr).add j) = some u := by
  intro j u hu
  cases j with
  | zero =>
    simp at hu
    subst hu
    simp [Addr.add]
  | succ j => simp at hu
theorem SendWindow_lead_c (t z : Int) (a : Option Addr) (n c : Nat) (w : World) (h0 : 0 ≤ t) (h1 : t ≤ 65535) (hn : n ≤ 4294967296) :
    Calls Tryd.prog 106 #[.agg #[.int .i64 t, .int .i64 z, .slice a n c]] w fun e w' => e = .returned (.int .i64 (aft t n)) ∧ Below w.heap.size w w' := by
  go_enter Tryd.func106, Tryd.ntmps106
  go_wp2_with fail
  refine (after_c _ _ _ (by omega) (by omega)).mono ?_
  rintro e w' ⟨rfl, rfl⟩
  go_wp2_with fail
  go_ret
  exact ⟨rfl, (Below.refl _ _).alloc (Nat.le_refl _) _⟩
theorem l9Lead_c (t z : Int) (a : Option Addr) (n c : Nat) (w : World) (h0 : 0 ≤ t) (h1 : t ≤ 65535) (hn : n ≤ 4294967296) :
    Calls Tryd.prog 113 #[.agg #[.int .i64 t, .int .i64 z, .slice a n c]] w fun e w' => e = .returned (.int .i64 (aft t n)) ∧ Below w.heap.size w w' := by
  go_enter Tryd.func113, Tryd.ntmps113
  go_wp2_with fail
  refine (l2After_c _ _ _ (by omega) (by omega)).mono ?_
  rintro e w' ⟨rfl, rfl⟩
  go_wp2_with fail
  go_ret
  exact ⟨rfl, (Below.refl _ _).alloc (Nat.le_refl _) _⟩
set_option maxHeartbeats 3200000 in
set_option maxRecDepth 100000 in
theorem SendWindow_push_c (x : SendWindow) (s : ByteArray) (t : TypeId) (g p : Nat) (A B : List Value) (F : List Nat) (w : World) (h : At OSendWindow t w g p A B x F) (hl : x.items.length ≤ 6) (ht : isSer x.trail = true) (hs : s.size ≤ maxLen) (hz : 1 ≤ x.size) :
    Calls Tryd.prog 97 #[.pointer (some ⟨g, p, none⟩), .string s] w fun e w' => e = .returned (.agg #[.int .i64 1, .int .i64 (pushedP x s).number, .int .i64 (pushedP x s).trail, .int .i64 (pushedP x s).lead, .string s]) ∧
      ∃ F', At OSendWindow t w' g p A B (pushedW x s) F' ∧ (∀ b ∈ F', b ∈ F ∨ w.heap.size ≤ b) ∧ Keep (g :: F) w w' := by
  have hA0 := h
  obtain ⟨_, G, hp, ⟨v1, rfl, ho⟩, hn, hg⟩ := h
  obtain ⟨a, c, rfl⟩ := ho.slice
  have htt := isSer_iff.1 ht
  obtain ⟨ht0, ht1⟩ := htt
  have hgl := G.lt
  have hKp := Keep.refl (g :: F) w
  have zG0 := G.cellMid (p := p) (j := 0) (by omega) (by simp)
  have zG1 := G.cellMid (p := p + 1) (j := 1) (by omega) (by simp)
  have zG2 := G.cellMid (p := p + 2) (j := 2) (by omega) (by simp)
  simp only [List.getElem?_cons_zero, List.getElem?_cons_succ] at zG0 zG1 zG2
  have f_G := G.frozens
  have yG0 := fun o => (G.alloc o).cellMid (p := p) (j := 0) (by omega) (by simp)
  have yG1 := fun o => (G.alloc o).cellMid (p := p + 1) (j := 1) (by omega) (by simp)
  have yG2 := fun o => (G.alloc o).cellMid (p := p + 2) (j := 2) (by omega) (by simp)
  simp only [List.getElem?_cons_zero, List.getElem?_cons_succ] at yG0 yG1 yG2
  have e_G := fun o => (G.alloc o).frozens
  go_enter Tryd.func97, Tryd.ntmps97
  go_wp2_with fail
  clear zG0 zG1 zG2 f_G yG0 yG1 yG2 e_G
  have al : Below w.heap.size w (w.alloc (.cells #[.int .i64 0, .int .i64 0, .int .i64 0, .int .i64 0, .string ⟨#[]⟩] 30)) := by
    repeat refine Below.alloc ?_ (by simp <;> omega) _
    exact Below.refl _ _
  have n_R5 := Row.made w 30 [.int .i64 0, .int .i64 0, .int .i64 0, .int .i64 0, .string ⟨#[]⟩]
  have hs_w1 : w.heap.size < (w.alloc (.cells #[.int .i64 0, .int .i64 0, .int .i64 0, .int .i64 0, .string ⟨#[]⟩] 30)).heap.size := by simp
  replace G := G.below al
  replace ho := ho.below al
  replace hKp := hKp.trans (Keep.ofBelow (F := g :: F) al)
  generalize (w.alloc (.cells #[.int .i64 0, .int .i64 0, .int .i64 0, .int .i64 0, .string ⟨#[]⟩] 30)) = w1 at *
  have R5 := n_R5; clear n_R5
  clear al
  refine (SendWindow_lead_c x.trail x.size a x.items.length c _ ht0 ht1 (by omega)).mono ?_
  rintro e w2_ ⟨rfl, hb⟩
  have hs_w2_ := hb.size
  replace G := G.below hb
  replace R5 := R5.below hb
  replace ho := ho.below hb
  replace hKp := hKp.trans (Keep.ofBelow (F := g :: F) hb)
  clear hb
  have lF : ∀ b ∈ F, b < w.heap.size := by
    obtain ⟨_, _, _, ⟨_, _, h1⟩, _, _⟩ := hA0
    exact h1.lt
  clear hA0
  have zG0 := G.cellMid (p := p) (j := 0) (by omega) (by simp)
  have zG1 := G.cellMid (p := p + 1) (j := 1) (by omega) (by simp)
  have zG2 := G.cellMid (p := p + 2) (j := 2) (by omega) (by simp)
  simp only [List.getElem?_cons_zero, List.getElem?_cons_succ] at zG0 zG1 zG2
  have f_G := G.frozens
  have c_R5 := R5.cells; have f_R5 := R5.frozens
  go_wp2_with fail
  clear zG0 zG1 zG2 f_G c_R5 f_R5
  by_cases hf : (x.items.length : Int) = x.size
  · have hry : roomed x = ⟨aft x.trail 1, x.size, x.items.drop 1⟩ := by unfold roomed; rw [if_pos hf]
    replace hry := Lib.hid hry
    rename_i K0 hK0
    refine AnyX.start (S := (fun w' => w'.cell? ⟨g, p, none⟩ = some (.int .i64 x.trail) ∧ w'.cell? ⟨g, p + 1, none⟩ = some (.int .i64 x.size) ∧ w'.cell? ⟨g, p + 2, none⟩ = some (.slice a x.items.length c))) (X := (fun _ => false)) (by kernel_rfl) ?_
    have al : Below w2_.heap.size w2_ w2_.drew := belowDrewN (Below.refl _ _) 1
    have hs_w3 := al.size
    replace G := G.below al
    replace R5 := R5.below al
    replace ho := ho.below al
    replace hKp := hKp.trans (Keep.ofBelow (F := g :: F) al)
    generalize w2_.drew = w3 at *
    clear al
    have hS : (fun w' => w'.cell? ⟨g, p, none⟩ = some (.int .i64 x.trail) ∧ w'.cell? ⟨g, p + 1, none⟩ = some (.int .i64 x.size) ∧ w'.cell? ⟨g, p + 2, none⟩ = some (.slice a x.items.length c)) w3 := ⟨G.cellMid (p := p) (j := 0) (by omega) (by simp), G.cellMid (p := p + 1) (j := 1) (by omega) (by simp), G.cellMid (p := p + 2) (j := 2) (by omega) (by simp)⟩
    refine AnyX.take (i := 0) (oi := _) (v := ?_) (by rw [List.getElem?_toArray]; rfl) (by kernel_rfl) (by kernel_rfl) (by kernel_rfl) (by kernel_rfl) (by kernel_rfl) (by exact fun _ _ _ h => h) (Or.inl ⟨by rfl, ?_⟩) hS ?_
    rotate_left
    · (intro wS hSw; (try dsimp only at hSw); go_simp; try with_reducible rfl)
    try simp only [Act.put, List.setIfInBounds_toArray, List.set_cons_zero, List.set_cons_succ]
    refine AnyX.take (i := 1) (oi := _) (v := ?_) (by rw [List.getElem?_toArray]; rfl) (by kernel_rfl) (by kernel_rfl) (by kernel_rfl) (by kernel_rfl) (by kernel_rfl) (by exact fun _ _ _ h => h) (Or.inl ⟨by rfl, ?_⟩) hS ?_
    rotate_left
    · (intro wS hSw; (try dsimp only at hSw); go_simp; try with_reducible rfl)
    try simp only [Act.put, List.setIfInBounds_toArray, List.set_cons_zero, List.set_cons_succ]
    refine AnyX.take (i := 2) (oi := _) (v := ?_) (by rw [List.getElem?_toArray]; rfl) (by kernel_rfl) (by kernel_rfl) (by kernel_rfl) (by kernel_rfl) (by kernel_rfl) (by exact fun _ _ _ h => h) (Or.inl ⟨by rfl, ?_⟩) hS ?_
    rotate_left
    · (intro wS hSw; (try dsimp only at hSw); go_simp; try with_reducible rfl)
    try simp only [Act.put, List.setIfInBounds_toArray, List.set_cons_zero, List.set_cons_succ]
    refine AnyX.take (i := 3) (oi := _) (v := ?_) (by rw [List.getElem?_toArray]; rfl) (by kernel_rfl) (by kernel_rfl) (by kernel_rfl) (by kernel_rfl) (by kernel_rfl) (by exact fun _ _ _ h => h) (Or.inl ⟨by rfl, ?_⟩) hS ?_
    rotate_left
    · (intro wS hSw; (try dsimp only at hSw); go_simp; try with_reducible rfl)
    try simp only [Act.put, List.setIfInBounds_toArray, List.set_cons_zero, List.set_cons_succ]
    refine AnyX.take (i := 4) (oi := _) (v := ?_) (by rw [List.getElem?_toArray]; rfl) (by kernel_rfl) (by kernel_rfl) (by kernel_rfl) (by kernel_rfl) (by kernel_rfl) (by exact fun _ _ _ h => h) (Or.inl ⟨by rfl, ?_⟩) hS ?_
    rotate_left
    · (intro wS hSw; (try dsimp only at hSw); go_simp; try with_reducible rfl)
    try simp only [Act.put, List.setIfInBounds_toArray, List.set_cons_zero, List.set_cons_succ]
    refine AnyX.take (i := 5) (oi := _) (v := ?_) (by rw [List.getElem?_toArray]; rfl) (by kernel_rfl) (by kernel_rfl) (by kernel_rfl) (by kernel_rfl) (by kernel_rfl) (by exact fun _ _ _ h => h) (Or.inl ⟨by rfl, ?_⟩) hS ?_
    rotate_left
    · (intro wS hSw; (try dsimp only at hSw); go_simp; try with_reducible rfl)
    try simp only [Act.put, List.setIfInBounds_toArray, List.set_cons_zero, List.set_cons_succ]
    refine AnyX.take (i := 6) (oi := _) (v := ?_) (by rw [List.getElem?_toArray]; rfl) (by kernel_rfl) (by kernel_rfl) (by kernel_rfl) (by kernel_rfl) (by kernel_rfl) (by exact fun _ _ _ h => h) (Or.inl ⟨by rfl, ?_⟩) hS ?_
    rotate_left
    · (intro wS hSw; (try dsimp only at hSw); go_simp; try with_reducible rfl)
    try simp only [Act.put, List.setIfInBounds_toArray, List.set_cons_zero, List.set_cons_succ]
    refine AnyX.take (i := 7) (oi := _) (v := ?_) (by rw [List.getElem?_toArray]; rfl) (by kernel_rfl) (by kernel_rfl) (by kernel_rfl) (by kernel_rfl) (by kernel_rfl) (by exact fun _ _ _ h => h) (Or.inl ⟨by rfl, ?_⟩) hS ?_
    rotate_left
    · (intro wS hSw; (try dsimp only at hSw); go_simp; try with_reducible rfl)
    try simp only [Act.put, List.setIfInBounds_toArray, List.set_cons_zero, List.set_cons_succ]
    refine AnyX.take (i := 8) (oi := _) (v := ?_) (by rw [List.getElem?_toArray]; rfl) (by kernel_rfl) (by kernel_rfl) (by kernel_rfl) (by kernel_rfl) (by kernel_rfl) (by exact fun _ _ _ h => h) (Or.inl ⟨by rfl, ?_⟩) hS ?_
    rotate_left
    · (intro wS hSw; (try dsimp only at hSw); go_simp; try with_reducible rfl)
    try simp only [Act.put, List.setIfInBounds_toArray, List.set_cons_zero, List.set_cons_succ]
    refine AnyX.take (i := 9) (oi := _) (v := ?_) (by rw [List.getElem?_toArray]; rfl) (by kernel_rfl) (by kernel_rfl) (by kernel_rfl) (by kernel_rfl) (by kernel_rfl) (by exact fun _ _ _ h => h) (Or.inl ⟨by rfl, ?_⟩) hS ?_
    rotate_left
    · (intro wS hSw; (try dsimp only at hSw); go_simp; try with_reducible rfl)
    try simp only [Act.put, List.setIfInBounds_toArray, List.set_cons_zero, List.set_cons_succ]
    refine AnyX.done (by kernel_rfl) ?_ _
    (try clear hS)
    refine hK0 _ _ ?_
    clear hK0 K0
    have zG0 := G.cellMid (p := p) (j := 0) (by omega) (by simp)
    have zG1 := G.cellMid (p := p + 1) (j := 1) (by omega) (by simp)
    have zG2 := G.cellMid (p := p + 2) (j := 2) (by omega) (by simp)
    simp only [List.getElem?_cons_zero, List.getElem?_cons_succ] at zG0 zG1 zG2
    have f_G := G.frozens
    have c_R5 := R5.cells; have f_R5 := R5.frozens
    go_wp2_with fail
    clear zG0 zG1 zG2 f_G c_R5 f_R5
    refine (SendWindow_drop_c x 1 t g p A B F _ ⟨_, G, hp, ⟨_, rfl, ho⟩, hn, hg⟩ (by omega) (by omega) ht).mono ?_
    rintro e w4 ⟨⟨u, rfl⟩, F5, ⟨_, G5, -, ⟨v5, rfl, o5⟩, n5, g5⟩, hF5, K5⟩
    obtain ⟨a5, c5, rfl⟩ := o5.slice
    have hs_w4 := K5.size
    replace hF5 : ∀ b ∈ F5, b ∈ F ∨ w.heap.size < b := fun b hb => by
      rcases hF5 b hb with h1 | h1
      · exact .inl h1
      · right; omega
    replace R5 := R5.keepK K5 (fun hm => by rcases List.mem_cons.1 hm with h1 | h1 <;> first | omega | (have := lF _ h1; omega))
    replace hKp := hKp.trans K5
    clear K5 ho G hn hg
    have G := G5; clear G5
    obtain ⟨y, hy⟩ : ∃ y, y = (⟨aft x.trail 1, x.size, x.items.drop 1⟩ : SendWindow) := ⟨_, rfl⟩
    have G : Row w4 g t (A ++ [.int .i64 y.trail, .int .i64 y.size, .slice a5 y.items.length c5] ++ B) := by rw [hy]; exact G
    have o5 : Ow EStr 9 w4 (.slice a5 y.items.length c5) y.items F5 := by rw [hy]; exact o5
    have hry2 : roomed x = y := hry.out.trans hy.symm
    replace hry := Lib.hid hry2
    clear hry2
    have hyt0 : 0 ≤ y.trail := by rw [hy]; exact (aft_bd _ _).1
    have hyt1 : y.trail ≤ 65535 := by rw [hy]; exact (aft_bd _ _).2
    have hyl : y.items.length ≤ 6 := by rw [hy]; simp; omega
    have hyz : y.size = x.size := by rw [hy]
    replace hyz := Lib.hid hyz
    clear hy hf
    have hlt5 := o5.lt
    have hgl5 := G.lt
    have zG0 := G.cellMid (p := p) (j := 0) (by omega) (by simp)
    have zG1 := G.cellMid (p := p + 1) (j := 1) (by omega) (by simp)
    have zG2 := G.cellMid (p := p + 2) (j := 2) (by omega) (by simp)
    simp only [List.getElem?_cons_zero, List.getElem?_cons_succ] at zG0 zG1 zG2
    have f_G := G.frozens
    have yG0 := fun o => (G.alloc o).cellMid (p := p) (j := 0) (by omega) (by simp)
    have yG1 := fun o => (G.alloc o).cellMid (p := p + 1) (j := 1) (by omega) (by simp)
    have yG2 := fun o => (G.alloc o).cellMid (p := p + 2) (j := 2) (by omega) (by simp)
    simp only [List.getElem?_cons_zero, List.getElem?_cons_succ] at yG0 yG1 yG2
    have e_G := fun o => (G.alloc o).frozens
    have c_R5 := R5.cells; have f_R5 := R5.frozens; have d_R5 := fun o => (R5.alloc o).cells; have e_R5 := fun o => (R5.alloc o).frozens
    go_wp2_with (at_builtin; refine wpList_apd one_EStr (by decide) (by rfl) _ _ _ (by rfl) 9 (.string ⟨#[]⟩) 16 Tryd.underlying24 info_string rfl (.slice a5 y.items.length c5) y.items F5 (by rfl) (o5.below ((Below.refl _ _).alloc (Nat.le_refl _) _)) (Hd.of n5) (some ⟨w4.heap.size, 0, none⟩) [s] 1 (by rfl) [.string s] [] (str_flat (xs := [s]) _ (by simpa using hs)) (.inr ⟨_, rfl, one_src _ _ _⟩) (by simp) (by simp; unfold maxLen; omega) (by simp; omega) ?_)
    clear zG0 zG1 zG2 f_G yG0 yG1 yG2 e_G c_R5 f_R5 d_R5 e_R5
    intro v6 w5 F6 hA
    have o6 := hA.ow
    have n6 := hA.nodup n5 (by simp) (by simp)
    have m6 := hA.mem
    have K6 := hA.keep
    have hs_w5 := K6.size
    obtain ⟨a6, c6, rfl⟩ := o6.slice
    clear hA
    replace G := (G.alloc (.cells #[.string s] 9)).keepK K6 g5
    replace R5 := (R5.alloc (.cells #[.string s] 9)).keepK K6 (fun hm => by rcases hF5 _ hm with h1 | h1 <;> first | omega | (have := lF _ h1; omega))
    have hKa := hKp.trans (Keep.ofBelow (F := g :: F) ((Below.refl w4.heap.size w4).alloc (Nat.le_refl _) (.cells #[.string s] 9)))
    have hK6 := hKa.transNew K6 (fun b hb => by rcases hF5 b hb with h1 | h1 <;> first | (exact .inr (by omega)) | (exact .inl (by simp [h1])))
    clear K6 hKa hKp
    have hF6 : ∀ b ∈ F6, b ∈ F ∨ w.heap.size < b := fun b hb => by
      rcases m6 b hb with h1 | h1 | h1
      · exact hF5 b h1
      · simp at h1
      · right; simp at h1; omega
    have g6 : g ∉ F6 := fun hm => by
      rcases m6 g hm with h1 | h1 | h1
      · exact g5 h1
      · simp at h1
      · simp at h1; omega
    replace hKp := hK6
    clear hK6 m6 o5
    have hlen : (y.items ++ [s]).length = y.items.length + 1 := by simp
    rw [hlen] at o6
    replace o6 := Lib.hid o6
    have zG0 := G.cellMid (p := p) (j := 0) (by omega) (by simp)
    have zG1 := G.cellMid (p := p + 1) (j := 1) (by omega) (by simp)
    have zG2 := G.cellMid (p := p + 2) (j := 2) (by omega) (by simp)
    simp only [List.getElem?_cons_zero, List.getElem?_cons_succ] at zG0 zG1 zG2
    have f_G := G.frozens
    have c_R5 := R5.cells; have f_R5 := R5.frozens
    go_wp2_with fail
    clear zG0 zG1 zG2 f_G c_R5 f_R5
    have nG := G.setMid (p := p + 2) (j := 2) (by omega) (by simp) (.slice a6 (y.items.length + 1) c6)
    have nR := R5.setOther (p := ⟨g, p + 2, none⟩) (by simp; omega) (.slice a6 (y.items.length + 1) c6)
    have no := (o6.out).setFar (p := ⟨g, p + 2, none⟩) (by simpa using g6) (.slice a6 (y.items.length + 1) c6)
    have nK := hKp.setCell (p := ⟨g, p + 2, none⟩) (by simp) (.slice a6 (y.items.length + 1) c6)
    have hs_w6 : w5.heap.size ≤ (w5.setCell ⟨g, p + 2, none⟩ (.slice a6 (y.items.length + 1) c6)).heap.size := by simp
    clear G R5 o6 hKp
    simp only [List.set_cons_zero, List.set_cons_succ] at nG
    generalize (w5.setCell ⟨g, p + 2, none⟩ (.slice a6 (y.items.length + 1) c6)) = w6 at *
    have G := nG; clear nG
    have R5 := nR; clear nR
    have o6 := no; clear no
    have hKp := nK; clear nK
    skip
    rename_i K0 hK0
    refine AnyX.start (S := (fun w' => w'.cell? ⟨g, p, none⟩ = some (.int .i64 y.trail) ∧ w'.cell? ⟨g, p + 1, none⟩ = some (.int .i64 y.size) ∧ w'.cell? ⟨g, p + 2, none⟩ = some (.slice a6 (y.items.length + 1) c6))) (X := (fun i => i == 11)) (by kernel_rfl) ?_
    have al : Below w6.heap.size w6 w6.drew := belowDrewN (Below.refl _ _) 1
    have hs_w7 := al.size
    replace G := G.below al
    replace R5 := R5.below al
    replace o6 := o6.below al
    replace hKp := hKp.trans (Keep.ofBelow (F := g :: F) al)
    generalize w6.drew = w7 at *
    clear al
    have hS : (fun w' => w'.cell? ⟨g, p, none⟩ = some (.int .i64 y.trail) ∧ w'.cell? ⟨g, p + 1, none⟩ = some (.int .i64 y.size) ∧ w'.cell? ⟨g, p + 2, none⟩ = some (.slice a6 (y.items.length + 1) c6)) w7 := ⟨G.cellMid (p := p) (j := 0) (by omega) (by simp), G.cellMid (p := p + 1) (j := 1) (by omega) (by simp), G.cellMid (p := p + 2) (j := 2) (by omega) (by simp)⟩
    refine AnyX.take (i := 0) (oi := _) (v := ?_) (by rw [List.getElem?_toArray]; rfl) (by kernel_rfl) (by kernel_rfl) (by kernel_rfl) (by kernel_rfl) (by kernel_rfl) (by exact fun _ _ _ h => h) (Or.inl ⟨by rfl, ?_⟩) hS ?_
    rotate_left
    · (intro wS hSw; (try dsimp only at hSw); go_simp; try with_reducible rfl)
    try simp only [Act.put, List.setIfInBounds_toArray, List.set_cons_zero, List.set_cons_succ]
    refine AnyX.take (i := 1) (oi := _) (v := ?_) (by rw [List.getElem?_toArray]; rfl) (by kernel_rfl) (by kernel_rfl) (by kernel_rfl) (by kernel_rfl) (by kernel_rfl) (by exact fun _ _ _ h => h) (Or.inl ⟨by rfl, ?_⟩) hS ?_
    rotate_left
    · (intro wS hSw; (try dsimp only at hSw); go_simp; try with_reducible rfl)
    try simp only [Act.put, List.setIfInBounds_toArray, List.set_cons_zero, List.set_cons_succ]
    refine AnyX.take (i := 2) (oi := _) (v := ?_) (by rw [List.getElem?_toArray]; rfl) (by kernel_rfl) (by kernel_rfl) (by kernel_rfl) (by kernel_rfl) (by kernel_rfl) (by exact fun _ _ _ h => h) (Or.inl ⟨by rfl, ?_⟩) hS ?_
    rotate_left
    · (intro wS hSw; (try dsimp only at hSw); go_simp; try with_reducible rfl)
    try simp only [Act.put, List.setIfInBounds_toArray, List.set_cons_zero, List.set_cons_succ]
    refine AnyX.take (i := 3) (oi := _) (v := ?_) (by rw [List.getElem?_toArray]; rfl) (by kernel_rfl) (by kernel_rfl) (by kernel_rfl) (by kernel_rfl) (by kernel_rfl) (by exact fun _ _ _ h => h) (Or.inl ⟨by rfl, ?_⟩) hS ?_
    rotate_left
    · (intro wS hSw; (try dsimp only at hSw); go_simp; try with_reducible rfl)
    try simp only [Act.put, List.setIfInBounds_toArray, List.set_cons_zero, List.set_cons_succ]
    refine AnyX.take (i := 4) (oi := _) (v := ?_) (by rw [List.getElem?_toArray]; rfl) (by kernel_rfl) (by kernel_rfl) (by kernel_rfl) (by kernel_rfl) (by kernel_rfl) (by exact fun _ _ _ h => h) (Or.inl ⟨by rfl, ?_⟩) hS ?_
    rotate_left
    · (intro wS hSw; (try dsimp only at hSw); go_simp; try with_reducible rfl)
    try simp only [Act.put, List.setIfInBounds_toArray, List.set_cons_zero, List.set_cons_succ]
    refine AnyX.take (i := 5) (oi := _) (v := ?_) (by rw [List.getElem?_toArray]; rfl) (by kernel_rfl) (by kernel_rfl) (by kernel_rfl) (by kernel_rfl) (by kernel_rfl) (by exact fun _ _ _ h => h) (Or.inl ⟨by rfl, ?_⟩) hS ?_
    rotate_left
    · (intro wS hSw; (try dsimp only at hSw); go_simp; try with_reducible rfl)
    try simp only [Act.put, List.setIfInBounds_toArray, List.set_cons_zero, List.set_cons_succ]
    refine AnyX.take (i := 6) (oi := _) (v := ?_) (by rw [List.getElem?_toArray]; rfl) (by kernel_rfl) (by kernel_rfl) (by kernel_rfl) (by kernel_rfl) (by kernel_rfl) (by exact fun _ _ _ h => h) (Or.inl ⟨by rfl, ?_⟩) hS ?_
    rotate_left
    · (intro wS hSw; (try dsimp only at hSw); go_simp; try with_reducible rfl)
    try simp only [Act.put, List.setIfInBounds_toArray, List.set_cons_zero, List.set_cons_succ]
    refine AnyX.take (i := 7) (oi := _) (v := ?_) (by rw [List.getElem?_toArray]; rfl) (by kernel_rfl) (by kernel_rfl) (by kernel_rfl) (by kernel_rfl) (by kernel_rfl) (by exact fun _ _ _ h => h) (Or.inl ⟨by rfl, ?_⟩) hS ?_
    rotate_left
    · (intro wS hSw; (try dsimp only at hSw); go_simp; try with_reducible rfl)
    try simp only [Act.put, List.setIfInBounds_toArray, List.set_cons_zero, List.set_cons_succ]
    refine AnyX.take (i := 9) (oi := _) (v := ?_) (by rw [List.getElem?_toArray]; rfl) (by kernel_rfl) (by kernel_rfl) (by kernel_rfl) (by kernel_rfl) (by kernel_rfl) (by exact fun _ _ _ h => h) (Or.inl ⟨by rfl, ?_⟩) hS ?_
    rotate_left
    · (intro wS hSw; (try dsimp only at hSw); go_simp; try with_reducible rfl)
    try simp only [Act.put, List.setIfInBounds_toArray, List.set_cons_zero, List.set_cons_succ]
    refine AnyX.only (i := 8) (o := _) (by kernel_rfl) (by rw [List.getElem?_toArray]; rfl) (fun K hK => ?_)
    go_simp
    go_at_call 106
    refine (SendWindow_lead_c y.trail y.size a6 (y.items.length + 1) c6 _ hyt0 hyt1 (by omega)).mono ?_
    rintro e w8_ ⟨rfl, hb⟩
    have hs_w8_ := hb.size
    replace G := G.below hb
    replace R5 := R5.below hb
    replace o6 := o6.below hb
    replace hKp := hKp.trans (Keep.ofBelow (F := g :: F) hb)
    clear hb
    clear hS
    have hS : (fun w' => w'.cell? ⟨g, p, none⟩ = some (.int .i64 y.trail) ∧ w'.cell? ⟨g, p + 1, none⟩ = some (.int .i64 y.size) ∧ w'.cell? ⟨g, p + 2, none⟩ = some (.slice a6 (y.items.length + 1) c6)) w8_ := ⟨G.cellMid (p := p) (j := 0) (by omega) (by simp), G.cellMid (p := p + 1) (j := 1) (by omega) (by simp), G.cellMid (p := p + 2) (j := 2) (by omega) (by simp)⟩
    refine hK.out _ _ (fun _ => hS) ?_
    clear hK K
    try simp only [Act.put, List.setIfInBounds_toArray, List.set_cons_zero, List.set_cons_succ]
    refine AnyX.take (i := 10) (oi := _) (v := ?_) (by rw [List.getElem?_toArray]; rfl) (by kernel_rfl) (by kernel_rfl) (by kernel_rfl) (by kernel_rfl) (by kernel_rfl) (by exact fun _ _ _ h => h) (Or.inl ⟨by rfl, ?_⟩) hS ?_
    rotate_left
    · (intro wS hSw; (try dsimp only at hSw); go_simp; try with_reducible rfl)
    try simp only [Act.put, List.setIfInBounds_toArray, List.set_cons_zero, List.set_cons_succ]
    refine AnyX.only (i := 11) (o := _) (by kernel_rfl) (by rw [List.getElem?_toArray]; rfl) (fun K hK => ?_)
    have zG0 := G.cellMid (p := p) (j := 0) (by omega) (by simp)
    have zG1 := G.cellMid (p := p + 1) (j := 1) (by omega) (by simp)
    have zG2 := G.cellMid (p := p + 2) (j := 2) (by omega) (by simp)
    simp only [List.getElem?_cons_zero, List.getElem?_cons_succ] at zG0 zG1 zG2
    have f_G := G.frozens
    have c_R5 := R5.cells; have f_R5 := R5.frozens
    go_simp
    clear zG0 zG1 zG2 f_G c_R5 f_R5
    refine hK.out _ _ (fun h => by cases h) ?_
    clear hK K
    try simp only [Act.put, List.setIfInBounds_toArray, List.set_cons_zero, List.set_cons_succ]
    refine AnyX.done (by kernel_rfl) ?_ _
    (try clear hS)
    refine hK0 _ _ ?_
    clear hK0 K0
    replace o6 := Lib.hid o6
    have c_R5 := R5.cells; have f_R5 := R5.frozens
    go_wp2_with fail
    refine bodyPost_ret (v := .agg #[.int .i64 1, .int .i64 (aft x.trail x.items.length), .int .i64 y.trail, .int .i64 (aft y.trail ((y.items.length : Int) + 1)), .string s]) ?_ rfl ?_
    · simp [results, Tryd.results97, go_sem, c_R5, f_R5]
    · have hry2 := hry.out
      have hyz2 := hyz.out
      have o7 := o6.out
      refine ⟨by unfold pushedP; rw [hry2], F6, ?_, fun b hb => by rcases hF6 b hb with h1 | h1 <;> first | (exact .inl h1) | (exact .inr (by omega)), ?_⟩
      · rw [show pushedW x s = ⟨y.trail, y.size, y.items ++ [s]⟩ from by unfold pushedW; rw [hry2, hyz2]]
        refine ⟨[.int .i64 y.trail, .int .i64 y.size, .slice a6 (y.items.length + 1) c6], G.keep (by repeat rw [Below.heap_setCell _ _ _ _ (by simp <;> omega)]), hp, ⟨_, rfl, o7.frame fun b hb => ?_⟩, n6, g6⟩
        have hne : b ≠ w.heap.size := by
          rcases hF6 b hb with h1 | h1
          · have := lF _ h1; omega
          · omega
        repeat rw [Below.heap_setCell _ _ _ _ (by simp <;> omega)]
      · repeat refine Keep.setNew ?_ (by simp) _
        exact hKp
  · have hry : roomed x = x := by unfold roomed; rw [if_neg hf]
    replace hry := Lib.hid hry
    rename_i K0 hK0
    refine AnyX.start (S := (fun w' => w'.cell? ⟨g, p, none⟩ = some (.int .i64 x.trail) ∧ w'.cell? ⟨g, p + 1, none⟩ = some (.int .i64 x.size) ∧ w'.cell? ⟨g, p + 2, none⟩ = some (.slice a x.items.length c))) (X := (fun _ => false)) (by kernel_rfl) ?_
    have al : Below w2_.heap.size w2_ w2_.drew := belowDrewN (Below.refl _ _) 1
    have hs_w9 := al.size
    replace G := G.below al
    replace R5 := R5.below al
    replace ho := ho.below al
    replace hKp := hKp.trans (Keep.ofBelow (F := g :: F) al)
    generalize w2_.drew = w9 at *
    clear al
    have hS : (fun w' => w'.cell? ⟨g, p, none⟩ = some (.int .i64 x.trail) ∧ w'.cell? ⟨g, p + 1, none⟩ = some (.int .i64 x.size) ∧ w'.cell? ⟨g, p + 2, none⟩ = some (.slice a x.items.length c)) w9 := ⟨G.cellMid (p := p) (j := 0) (by omega) (by simp), G.cellMid (p := p + 1) (j := 1) (by omega) (by simp), G.cellMid (p := p + 2) (j := 2) (by omega) (by simp)⟩
    refine AnyX.take (i := 0) (oi := _) (v := ?_) (by rw [List.getElem?_toArray]; rfl) (by kernel_rfl) (by kernel_rfl) (by kernel_rfl) (by kernel_rfl) (by kernel_rfl) (by exact fun _ _ _ h => h) (Or.inl ⟨by rfl, ?_⟩) hS ?_
    rotate_left
    · (intro wS hSw; (try dsimp only at hSw); go_simp; try with_reducible rfl)
    try simp only [Act.put, List.setIfInBounds_toArray, List.set_cons_zero, List.set_cons_succ]
    refine AnyX.take (i := 1) (oi := _) (v := ?_) (by rw [List.getElem?_toArray]; rfl) (by kernel_rfl) (by kernel_rfl) (by kernel_rfl) (by kernel_rfl) (by kernel_rfl) (by exact fun _ _ _ h => h) (Or.inl ⟨by rfl, ?_⟩) hS ?_
    rotate_left
    · (intro wS hSw; (try dsimp only at hSw); go_simp; try with_reducible rfl)
    try simp only [Act.put, List.setIfInBounds_toArray, List.set_cons_zero, List.set_cons_succ]
    refine AnyX.take (i := 2) (oi := _) (v := ?_) (by rw [List.getElem?_toArray]; rfl) (by kernel_rfl) (by kernel_rfl) (by kernel_rfl) (by kernel_rfl) (by kernel_rfl) (by exact fun _ _ _ h => h) (Or.inl ⟨by rfl, ?_⟩) hS ?_
    rotate_left
    · (intro wS hSw; (try dsimp only at hSw); go_simp; try with_reducible rfl)
    try simp only [Act.put, List.setIfInBounds_toArray, List.set_cons_zero, List.set_cons_succ]
    refine AnyX.take (i := 3) (oi := _) (v := ?_) (by rw [List.getElem?_toArray]; rfl) (by kernel_rfl) (by kernel_rfl) (by kernel_rfl) (by kernel_rfl) (by kernel_rfl) (by exact fun _ _ _ h => h) (Or.inl ⟨by rfl, ?_⟩) hS ?_
    rotate_left
    · (intro wS hSw; (try dsimp only at hSw); go_simp; try with_reducible rfl)
    try simp only [Act.put, List.setIfInBounds_toArray, List.set_cons_zero, List.set_cons_succ]
    refine AnyX.take (i := 4) (oi := _) (v := ?_) (by rw [List.getElem?_toArray]; rfl) (by kernel_rfl) (by kernel_rfl) (by kernel_rfl) (by kernel_rfl) (by kernel_rfl) (by exact fun _ _ _ h => h) (Or.inl ⟨by rfl, ?_⟩) hS ?_
    rotate_left
    · (intro wS hSw; (try dsimp only at hSw); go_simp; try with_reducible rfl)
    try simp only [Act.put, List.setIfInBounds_toArray, List.set_cons_zero, List.set_cons_succ]
    refine AnyX.take (i := 5) (oi := _) (v := ?_) (by rw [List.getElem?_toArray]; rfl) (by kernel_rfl) (by kernel_rfl) (by kernel_rfl) (by kernel_rfl) (by kernel_rfl) (by exact fun _ _ _ h => h) (Or.inl ⟨by rfl, ?_⟩) hS ?_
    rotate_left
    · (intro wS hSw; (try dsimp only at hSw); go_simp; try with_reducible rfl)
    try simp only [Act.put, List.setIfInBounds_toArray, List.set_cons_zero, List.set_cons_succ]
    refine AnyX.take (i := 6) (oi := _) (v := ?_) (by rw [List.getElem?_toArray]; rfl) (by kernel_rfl) (by kernel_rfl) (by kernel_rfl) (by kernel_rfl) (by kernel_rfl) (by exact fun _ _ _ h => h) (Or.inl ⟨by rfl, ?_⟩) hS ?_
    rotate_left
    · (intro wS hSw; (try dsimp only at hSw); go_simp; try with_reducible rfl)
    try simp only [Act.put, List.setIfInBounds_toArray, List.set_cons_zero, List.set_cons_succ]
    refine AnyX.take (i := 7) (oi := _) (v := ?_) (by rw [List.getElem?_toArray]; rfl) (by kernel_rfl) (by kernel_rfl) (by kernel_rfl) (by kernel_rfl) (by kernel_rfl) (by exact fun _ _ _ h => h) (Or.inl ⟨by rfl, ?_⟩) hS ?_
    rotate_left
    · (intro wS hSw; (try dsimp only at hSw); go_simp; try with_reducible rfl)
    try simp only [Act.put, List.setIfInBounds_toArray, List.set_cons_zero, List.set_cons_succ]
    refine AnyX.take (i := 8) (oi := _) (v := ?_) (by rw [List.getElem?_toArray]; rfl) (by kernel_rfl) (by kernel_rfl) (by kernel_rfl) (by kernel_rfl) (by kernel_rfl) (by exact fun _ _ _ h => h) (Or.inl ⟨by rfl, ?_⟩) hS ?_
    rotate_left
    · (intro wS hSw; (try dsimp only at hSw); go_simp; try with_reducible rfl)
    try simp only [Act.put, List.setIfInBounds_toArray, List.set_cons_zero, List.set_cons_succ]
    refine AnyX.take (i := 9) (oi := _) (v := ?_) (by rw [List.getElem?_toArray]; rfl) (by kernel_rfl) (by kernel_rfl) (by kernel_rfl) (by kernel_rfl) (by kernel_rfl) (by exact fun _ _ _ h => h) (Or.inl ⟨by rfl, ?_⟩) hS ?_
    rotate_left
    · (intro wS hSw; (try dsimp only at hSw); go_simp; try with_reducible rfl)
    try simp only [Act.put, List.setIfInBounds_toArray, List.set_cons_zero, List.set_cons_succ]
    refine AnyX.done (by kernel_rfl) ?_ _
    (try clear hS)
    refine hK0 _ _ ?_
    clear hK0 K0
    obtain ⟨y, hy⟩ : ∃ y, y = x := ⟨_, rfl⟩
    have G : Row w9 g t (A ++ [.int .i64 y.trail, .int .i64 y.size, .slice a y.items.length c] ++ B) := by rw [hy]; exact G
    have o5 : Ow EStr 9 w9 (.slice a y.items.length c) y.items F := by rw [hy]; exact ho
    obtain ⟨F5, hFF⟩ : ∃ F5, F5 = F := ⟨_, rfl⟩
    obtain ⟨a5, hff⟩ : ∃ a5, a5 = a := ⟨_, rfl⟩
    obtain ⟨c5, hcc⟩ : ∃ c5, c5 = c := ⟨_, rfl⟩
    have hF5 : ∀ b ∈ F5, b ∈ F ∨ w.heap.size < b := fun b hb => .inl (hFF ▸ hb)
    have n5 : F5.Nodup := hFF ▸ hn
    have g5 : g ∉ F5 := hFF ▸ hg
    rw [← hff, ← hcc, ← hFF] at o5
    rw [← hff, ← hcc] at G
    have hry2 : roomed x = y := hry.out.trans hy.symm
    replace hry := Lib.hid hry2
    clear hry2
    have hyt0 : 0 ≤ y.trail := by rw [hy]; exact ht0
    have hyt1 : y.trail ≤ 65535 := by rw [hy]; exact ht1
    have hyl : y.items.length ≤ 6 := by rw [hy]; exact hl
    have hyz : y.size = x.size := by rw [hy]
    replace hyz := Lib.hid hyz
    clear hy hff hcc hFF ho hn hg
    have hlt5 := o5.lt
    have hgl5 := G.lt
    have zG0 := G.cellMid (p := p) (j := 0) (by omega) (by simp)
    have zG1 := G.cellMid (p := p + 1) (j := 1) (by omega) (by simp)
    have zG2 := G.cellMid (p := p + 2) (j := 2) (by omega) (by simp)
    simp only [List.getElem?_cons_zero, List.getElem?_cons_succ] at zG0 zG1 zG2
    have f_G := G.frozens
    have yG0 := fun o => (G.alloc o).cellMid (p := p) (j := 0) (by omega) (by simp)
    have yG1 := fun o => (G.alloc o).cellMid (p := p + 1) (j := 1) (by omega) (by simp)
    have yG2 := fun o => (G.alloc o).cellMid (p := p + 2) (j := 2) (by omega) (by simp)
    simp only [List.getElem?_cons_zero, List.getElem?_cons_succ] at yG0 yG1 yG2
    have e_G := fun o => (G.alloc o).frozens
    have c_R5 := R5.cells; have f_R5 := R5.frozens; have d_R5 := fun o => (R5.alloc o).cells; have e_R5 := fun o => (R5.alloc o).frozens
    go_wp2_with (at_builtin; refine wpList_apd one_EStr (by decide) (by rfl) _ _ _ (by rfl) 9 (.string ⟨#[]⟩) 16 Tryd.underlying24 info_string rfl (.slice a5 y.items.length c5) y.items F5 (by rfl) (o5.below ((Below.refl _ _).alloc (Nat.le_refl _) _)) (Hd.of n5) (some ⟨w9.heap.size, 0, none⟩) [s] 1 (by rfl) [.string s] [] (str_flat (xs := [s]) _ (by simpa using hs)) (.inr ⟨_, rfl, one_src _ _ _⟩) (by simp) (by simp; unfold maxLen; omega) (by simp; omega) ?_)
    clear zG0 zG1 zG2 f_G yG0 yG1 yG2 e_G c_R5 f_R5 d_R5 e_R5
    intro v6 w10 F6 hA
    have o6 := hA.ow
    have n6 := hA.nodup n5 (by simp) (by simp)
    have m6 := hA.mem
    have K6 := hA.keep
    have hs_w10 := K6.size
    obtain ⟨a6, c6, rfl⟩ := o6.slice
    clear hA
    replace G := (G.alloc (.cells #[.string s] 9)).keepK K6 g5
    replace R5 := (R5.alloc (.cells #[.string s] 9)).keepK K6 (fun hm => by rcases hF5 _ hm with h1 | h1 <;> first | omega | (have := lF _ h1; omega))
    have hKa := hKp.trans (Keep.ofBelow (F := g :: F) ((Below.refl w9.heap.size w9).alloc (Nat.le_refl _) (.cells #[.string s] 9)))
    have hK6 := hKa.transNew K6 (fun b hb => by rcases hF5 b hb with h1 | h1 <;> first | (exact .inr (by omega)) | (exact .inl (by simp [h1])))
    clear K6 hKa hKp
    have hF6 : ∀ b ∈ F6, b ∈ F ∨ w.heap.size < b := fun b hb => by
      rcases m6 b hb with h1 | h1 | h1
      · exact hF5 b h1
      · simp at h1
      · right; simp at h1; omega
    have g6 : g ∉ F6 := fun hm => by
      rcases m6 g hm with h1 | h1 | h1
      · exact g5 h1
      · simp at h1
      · simp at h1; omega
    replace hKp := hK6
    clear hK6 m6 o5
    have hlen : (y.items ++ [s]).length = y.items.length + 1 := by simp
    rw [hlen] at o6
    replace o6 := Lib.hid o6
    have zG0 := G.cellMid (p := p) (j := 0) (by omega) (by simp)
    have zG1 := G.cellMid (p := p + 1) (j := 1) (by omega) (by simp)
    have zG2 := G.cellMid (p := p + 2) (j := 2) (by omega) (by simp)
    simp only [List.getElem?_cons_zero, List.getElem?_cons_succ] at zG0 zG1 zG2
    have f_G := G.frozens
    have c_R5 := R5.cells; have f_R5 := R5.frozens
    go_wp2_with fail
    clear zG0 zG1 zG2 f_G c_R5 f_R5
    have nG := G.setMid (p := p + 2) (j := 2) (by omega) (by simp) (.slice a6 (y.items.length + 1) c6)
    have nR := R5.setOther (p := ⟨g, p + 2, none⟩) (by simp; omega) (.slice a6 (y.items.length + 1) c6)
    have no := (o6.out).setFar (p := ⟨g, p + 2, none⟩) (by simpa using g6) (.slice a6 (y.items.length + 1) c6)
    have nK := hKp.setCell (p := ⟨g, p + 2, none⟩) (by simp) (.slice a6 (y.items.length + 1) c6)
    have hs_w11 : w10.heap.size ≤ (w10.setCell ⟨g, p + 2, none⟩ (.slice a6 (y.items.length + 1) c6)).heap.size := by simp
    clear G R5 o6 hKp
    simp only [List.set_cons_zero, List.set_cons_succ] at nG
    generalize (w10.setCell ⟨g, p + 2, none⟩ (.slice a6 (y.items.length + 1) c6)) = w11 at *
    have G := nG; clear nG
    have R5 := nR; clear nR
    have o6 := no; clear no
    have hKp := nK; clear nK
    skip
    rename_i K0 hK0
    refine AnyX.start (S := (fun w' => w'.cell? ⟨g, p, none⟩ = some (.int .i64 y.trail) ∧ w'.cell? ⟨g, p + 1, none⟩ = some (.int .i64 y.size) ∧ w'.cell? ⟨g, p + 2, none⟩ = some (.slice a6 (y.items.length + 1) c6))) (X := (fun i => i == 11)) (by kernel_rfl) ?_
    have al : Below w11.heap.size w11 w11.drew := belowDrewN (Below.refl _ _) 1
    have hs_w12 := al.size
    replace G := G.below al
    replace R5 := R5.below al
    replace o6 := o6.below al
    replace hKp := hKp.trans (Keep.ofBelow (F := g :: F) al)
    generalize w11.drew = w12 at *
    clear al
    have hS : (fun w' => w'.cell? ⟨g, p, none⟩ = some (.int .i64 y.trail) ∧ w'.cell? ⟨g, p + 1, none⟩ = some (.int .i64 y.size) ∧ w'.cell? ⟨g, p + 2, none⟩ = some (.slice a6 (y.items.length + 1) c6)) w12 := ⟨G.cellMid (p := p) (j := 0) (by omega) (by simp), G.cellMid (p := p + 1) (j := 1) (by omega) (by simp), G.cellMid (p := p + 2) (j := 2) (by omega) (by simp)⟩
    refine AnyX.take (i := 0) (oi := _) (v := ?_) (by rw [List.getElem?_toArray]; rfl) (by kernel_rfl) (by kernel_rfl) (by kernel_rfl) (by kernel_rfl) (by kernel_rfl) (by exact fun _ _ _ h => h) (Or.inl ⟨by rfl, ?_⟩) hS ?_
    rotate_left
    · (intro wS hSw; (try dsimp only at hSw); go_simp; try with_reducible rfl)
    try simp only [Act.put, List.setIfInBounds_toArray, List.set_cons_zero, List.set_cons_succ]
    refine AnyX.take (i := 1) (oi := _) (v := ?_) (by rw [List.getElem?_toArray]; rfl) (by kernel_rfl) (by kernel_rfl) (by kernel_rfl) (by kernel_rfl) (by kernel_rfl) (by exact fun _ _ _ h => h) (Or.inl ⟨by rfl, ?_⟩) hS ?_
    rotate_left
    · (intro wS hSw; (try dsimp only at hSw); go_simp; try with_reducible rfl)
    try simp only [Act.put, List.setIfInBounds_toArray, List.set_cons_zero, List.set_cons_succ]
    refine AnyX.take (i := 2) (oi := _) (v := ?_) (by rw [List.getElem?_toArray]; rfl) (by kernel_rfl) (by kernel_rfl) (by kernel_rfl) (by kernel_rfl) (by kernel_rfl) (by exact fun _ _ _ h => h) (Or.inl ⟨by rfl, ?_⟩) hS ?_
    rotate_left
    · (intro wS hSw; (try dsimp only at hSw); go_simp; try with_reducible rfl)
    try simp only [Act.put, List.setIfInBounds_toArray, List.set_cons_zero, List.set_cons_succ]
    refine AnyX.take (i := 3) (oi := _) (v := ?_) (by rw [List.getElem?_toArray]; rfl) (by kernel_rfl) (by kernel_rfl) (by kernel_rfl) (by kernel_rfl) (by kernel_rfl) (by exact fun _ _ _ h => h) (Or.inl ⟨by rfl, ?_⟩) hS ?_
    rotate_left
    · (intro wS hSw; (try dsimp only at hSw); go_simp; try with_reducible rfl)
    try simp only [Act.put, List.setIfInBounds_toArray, List.set_cons_zero, List.set_cons_succ]
    refine AnyX.take (i := 4) (oi := _) (v := ?_) (by rw [List.getElem?_toArray]; rfl) (by kernel_rfl) (by kernel_rfl) (by kernel_rfl) (by kernel_rfl) (by kernel_rfl) (by exact fun _ _ _ h => h) (Or.inl ⟨by rfl, ?_⟩) hS ?_
    rotate_left
    · (intro wS hSw; (try dsimp only at hSw); go_simp; try with_reducible rfl)
    try simp only [Act.put, List.setIfInBounds_toArray, List.set_cons_zero, List.set_cons_succ]
    refine AnyX.take (i := 5) (oi := _) (v := ?_) (by rw [List.getElem?_toArray]; rfl) (by kernel_rfl) (by kernel_rfl) (by kernel_rfl) (by kernel_rfl) (by kernel_rfl) (by exact fun _ _ _ h => h) (Or.inl ⟨by rfl, ?_⟩) hS ?_
    rotate_left
    · (intro wS hSw; (try dsimp only at hSw); go_simp; try with_reducible rfl)
    try simp only [Act.put, List.setIfInBounds_toArray, List.set_cons_zero, List.set_cons_succ]
    refine AnyX.take (i := 6) (oi := _) (v := ?_) (by rw [List.getElem?_toArray]; rfl) (by kernel_rfl) (by kernel_rfl) (by kernel_rfl) (by kernel_rfl) (by kernel_rfl) (by exact fun _ _ _ h => h) (Or.inl ⟨by rfl, ?_⟩) hS ?_
    rotate_left
    · (intro wS hSw; (try dsimp only at hSw); go_simp; try with_reducible rfl)
    try simp only [Act.put, List.setIfInBounds_toArray, List.set_cons_zero, List.set_cons_succ]
    refine AnyX.take (i := 7) (oi := _) (v := ?_) (by rw [List.getElem?_toArray]; rfl) (by kernel_rfl) (by kernel_rfl) (by kernel_rfl) (by kernel_rfl) (by kernel_rfl) (by exact fun _ _ _ h => h) (Or.inl ⟨by rfl, ?_⟩) hS ?_
    rotate_left
    · (intro wS hSw; (try dsimp only at hSw); go_simp; try with_reducible rfl)
    try simp only [Act.put, List.setIfInBounds_toArray, List.set_cons_zero, List.set_cons_succ]
    refine AnyX.take (i := 9) (oi := _) (v := ?_) (by rw [List.getElem?_toArray]; rfl) (by kernel_rfl) (by kernel_rfl) (by kernel_rfl) (by kernel_rfl) (by kernel_rfl) (by exact fun _ _ _ h => h) (Or.inl ⟨by rfl, ?_⟩) hS ?_
    rotate_left
    · (intro wS hSw; (try dsimp only at hSw); go_simp; try with_reducible rfl)
    try simp only [Act.put, List.setIfInBounds_toArray, List.set_cons_zero, List.set_cons_succ]
    refine AnyX.only (i := 8) (o := _) (by kernel_rfl) (by rw [List.getElem?_toArray]; rfl) (fun K hK => ?_)
    go_simp
    go_at_call 106
    refine (SendWindow_lead_c y.trail y.size a6 (y.items.length + 1) c6 _ hyt0 hyt1 (by omega)).mono ?_
    rintro e w13_ ⟨rfl, hb⟩
    have hs_w13_ := hb.size
    replace G := G.below hb
    replace R5 := R5.below hb
    replace o6 := o6.below hb
    replace hKp := hKp.trans (Keep.ofBelow (F := g :: F) hb)
    clear hb
    clear hS
    have hS : (fun w' => w'.cell? ⟨g, p, none⟩ = some (.int .i64 y.trail) ∧ w'.cell? ⟨g, p + 1, none⟩ = some (.int .i64 y.size) ∧ w'.cell? ⟨g, p + 2, none⟩ = some (.slice a6 (y.items.length + 1) c6)) w13_ := ⟨G.cellMid (p := p) (j := 0) (by omega) (by simp), G.cellMid (p := p + 1) (j := 1) (by omega) (by simp), G.cellMid (p := p + 2) (j := 2) (by omega) (by simp)⟩
    refine hK.out _ _ (fun _ => hS) ?_
    clear hK K
    try simp only [Act.put, List.setIfInBounds_toArray, List.set_cons_zero, List.set_cons_succ]
    refine AnyX.take (i := 10) (oi := _) (v := ?_) (by rw [List.getElem?_toArray]; rfl) (by kernel_rfl) (by kernel_rfl) (by kernel_rfl) (by kernel_rfl) (by kernel_rfl) (by exact fun _ _ _ h => h) (Or.inl ⟨by rfl, ?_⟩) hS ?_
    rotate_left
    · (intro wS hSw; (try dsimp only at hSw); go_simp; try with_reducible rfl)
    try simp only [Act.put, List.setIfInBounds_toArray, List.set_cons_zero, List.set_cons_succ]
    refine AnyX.only (i := 11) (o := _) (by kernel_rfl) (by rw [List.getElem?_toArray]; rfl) (fun K hK => ?_)
    have zG0 := G.cellMid (p := p) (j := 0) (by omega) (by simp)
    have zG1 := G.cellMid (p := p + 1) (j := 1) (by omega) (by simp)
    have zG2 := G.cellMid (p := p + 2) (j := 2) (by omega) (by simp)
    simp only [List.getElem?_cons_zero, List.getElem?_cons_succ] at zG0 zG1 zG2
    have f_G := G.frozens
    have c_R5 := R5.cells; have f_R5 := R5.frozens
    go_simp
    clear zG0 zG1 zG2 f_G c_R5 f_R5
    refine hK.out _ _ (fun h => by cases h) ?_
    clear hK K
    try simp only [Act.put, List.setIfInBounds_toArray, List.set_cons_zero, List.set_cons_succ]
    refine AnyX.done (by kernel_rfl) ?_ _
    (try clear hS)
    refine hK0 _ _ ?_
    clear hK0 K0
    replace o6 := Lib.hid o6
    have c_R5 := R5.cells; have f_R5 := R5.frozens
    go_wp2_with fail
    refine bodyPost_ret (v := .agg #[.int .i64 1, .int .i64 (aft x.trail x.items.length), .int .i64 y.trail, .int .i64 (aft y.trail ((y.items.length : Int) + 1)), .string s]) ?_ rfl ?_
    · simp [results, Tryd.results97, go_sem, c_R5, f_R5]
    · have hry2 := hry.out
      have hyz2 := hyz.out
      have o7 := o6.out
      refine ⟨by unfold pushedP; rw [hry2], F6, ?_, fun b hb => by rcases hF6 b hb with h1 | h1 <;> first | (exact .inl h1) | (exact .inr (by omega)), ?_⟩
      · rw [show pushedW x s = ⟨y.trail, y.size, y.items ++ [s]⟩ from by unfold pushedW; rw [hry2, hyz2]]
        refine ⟨[.int .i64 y.trail, .int .i64 y.size, .slice a6 (y.items.length + 1) c6], G.keep (by repeat rw [Below.heap_setCell _ _ _ _ (by simp <;> omega)]), hp, ⟨_, rfl, o7.frame fun b hb => ?_⟩, n6, g6⟩
        have hne : b ≠ w.heap.size := by
          rcases hF6 b hb with h1 | h1
          · have := lF _ h1; omega
          · omega
        repeat rw [Below.heap_setCell _ _ _ _ (by simp <;> omega)]
      · repeat refine Keep.setNew ?_ (by simp) _
        exact hKp
end Go.Proofs.YtidephmobajikaaDoor
/- Walks: PushItem, the program's. -/
namespace Go.Proofs.YtidephmobajikaaDoor
open Go.RowKit
def okPushItem (x : SendWindow) (s : ByteArray) : Bool := goodWin x && itm s
def resPushItem (x : SendWindow) (s : ByteArray) : SendWindow × Packet × Bool := if okPushItem x s then (pushedW x s, pushedP x s, true) else (⟨0, 0, []⟩, ⟨0, 0, 0, 0, ⟨#[]⟩⟩, false)
def PI_PushItem : SendWindow × Packet × Bool → World → Ending → World → Prop := fun (r0, r1, r2) w e w' => ∃ u0 G0 u1 G1, e = .returned (.tuple #[u0, u1, .bool r2]) ∧ IsV OSendWindow w' u0 r0 G0 ∧ IsV EPacket w' u1 r1 G1 ∧ (G0 ++ G1).Nodup ∧ (∀ b ∈ G0 ++ G1, w.heap.size ≤ b) ∧ Below w.heap.size w w'
set_option maxHeartbeats 3200000 in
set_option maxRecDepth 100000 in
theorem PushItem_c (v0 : Value) (x0 : SendWindow) (F0 : List Nat) (x1 : ByteArray) (w : World) (h0 : IsV ESendWindow w v0 x0 F0) (h1 : x1.size ≤ maxLen) :
    Calls Tryd.prog 11 #[v0, .string x1] w (PI_PushItem (resPushItem x0 x1) w) := by
  have A0 := h0
  have lA0 := h0.lt
  obtain ⟨_, rfl, v0_1, rfl, h0_1⟩ := h0
  obtain ⟨a0_1, c0_1, rfl⟩ := h0_1.slice
  clear h0_1
  go_enter Tryd.func11, Tryd.ntmps11
  go_wp2_with fail
  have al : Below w.heap.size w (((w.alloc (.cells #[.int .i64 x0.trail, .int .i64 x0.size, .slice a0_1 x0.items.length c0_1] 26)).alloc (.cells #[.int .i64 0, .int .i64 0, .slice none 0 0] 26)).alloc (.cells #[.int .i64 0, .int .i64 0, .int .i64 0, .int .i64 0, .string ⟨#[]⟩] 30)) := by
    repeat refine Below.alloc ?_ (by simp <;> omega) _
    exact Below.refl _ _
  have n_R0 : Row (((w.alloc (.cells #[.int .i64 x0.trail, .int .i64 x0.size, .slice a0_1 x0.items.length c0_1] 26)).alloc (.cells #[.int .i64 0, .int .i64 0, .slice none 0 0] 26)).alloc (.cells #[.int .i64 0, .int .i64 0, .int .i64 0, .int .i64 0, .string ⟨#[]⟩] 30)) (w.heap.size) 26 [.int .i64 x0.trail, .int .i64 x0.size, .slice a0_1 x0.items.length c0_1] := by simp [row_alloc] <;> omega
  have n_RZ : Row (((w.alloc (.cells #[.int .i64 x0.trail, .int .i64 x0.size, .slice a0_1 x0.items.length c0_1] 26)).alloc (.cells #[.int .i64 0, .int .i64 0, .slice none 0 0] 26)).alloc (.cells #[.int .i64 0, .int .i64 0, .int .i64 0, .int .i64 0, .string ⟨#[]⟩] 30)) (w.heap.size + 1) 26 [.int .i64 0, .int .i64 0, .slice none 0 0] := by simp [row_alloc] <;> omega
  have n_RP : Row (((w.alloc (.cells #[.int .i64 x0.trail, .int .i64 x0.size, .slice a0_1 x0.items.length c0_1] 26)).alloc (.cells #[.int .i64 0, .int .i64 0, .slice none 0 0] 26)).alloc (.cells #[.int .i64 0, .int .i64 0, .int .i64 0, .int .i64 0, .string ⟨#[]⟩] 30)) (w.heap.size + 1 + 1) 30 [.int .i64 0, .int .i64 0, .int .i64 0, .int .i64 0, .string ⟨#[]⟩] := by simp [row_alloc] <;> omega
  have hs_w1 : w.heap.size + 1 + 1 < (((w.alloc (.cells #[.int .i64 x0.trail, .int .i64 x0.size, .slice a0_1 x0.items.length c0_1] 26)).alloc (.cells #[.int .i64 0, .int .i64 0, .slice none 0 0] 26)).alloc (.cells #[.int .i64 0, .int .i64 0, .int .i64 0, .int .i64 0, .string ⟨#[]⟩] 30)).heap.size := by simp <;> omega
  replace A0 := A0.below al
  have hB := al
  generalize (((w.alloc (.cells #[.int .i64 x0.trail, .int .i64 x0.size, .slice a0_1 x0.items.length c0_1] 26)).alloc (.cells #[.int .i64 0, .int .i64 0, .slice none 0 0] 26)).alloc (.cells #[.int .i64 0, .int .i64 0, .int .i64 0, .int .i64 0, .string ⟨#[]⟩] 30)) = w1 at *
  have R0 := n_R0; clear n_R0
  have RZ := n_RZ; clear n_RZ
  have RP := n_RP; clear n_RP
  clear al
  refine (IsValidSendWindow_c _ x0 F0 _ A0).mono ?_
  rintro e w2 ⟨rfl, hb⟩
  have hs_w2 := hb.size
  replace R0 := R0.below hb
  replace RZ := RZ.below hb
  replace RP := RP.below hb
  replace A0 := A0.below hb
  replace hB := tr hB hb (Nat.le_refl _)
  clear hb
  cases g1 : goodWin x0
  · have hr : resPushItem x0 x1 = (⟨0, 0, []⟩, ⟨0, 0, 0, 0, ⟨#[]⟩⟩, false) := by unfold resPushItem okPushItem; rw [g1]; simp
    replace hr := Lib.hid hr
    have c_R0 := R0.cells; have f_R0 := R0.frozens
    have c_RZ := RZ.cells; have f_RZ := RZ.frozens
    have c_RP := RP.cells; have f_RP := RP.frozens
    go_wp2_with fail
    refine bodyPost_ret (v := .tuple #[.agg #[.int .i64 0, .int .i64 0, .slice none 0 0], .agg #[.int .i64 0, .int .i64 0, .int .i64 0, .int .i64 0, .string ⟨#[]⟩], .bool false]) ?_ rfl ?_
    · simp [results, Tryd.results11, go_sem, c_RZ, f_RZ, c_RP, f_RP]
    · rw [hr.out]
      refine ⟨_, [], _, [], rfl, ⟨_, rfl, _, rfl, .inl ⟨rfl, rfl, rfl⟩⟩, ⟨_, rfl, rfl, by decide, rfl⟩, by simp, by simp, ?_⟩
      repeat refine Below.setCell ?_ (by simp <;> omega) _
      exact hB
  have gg := goodWin_iff.1 g1
  obtain ⟨⟨t0, t1⟩, ⟨z0, z1⟩, hlen, -⟩ := gg
  have c_R0 := R0.cells; have f_R0 := R0.frozens
  have c_RZ := RZ.cells; have f_RZ := RZ.frozens
  have c_RP := RP.cells; have f_RP := RP.frozens
  go_wp2_with fail
  clear c_R0 f_R0 c_RZ f_RZ c_RP f_RP
  refine (isItem_c _ _ h1).mono ?_
  rintro e w3 ⟨rfl, hb⟩
  have hs_w3 := hb.size
  replace R0 := R0.below hb
  replace RZ := RZ.below hb
  replace RP := RP.below hb
  replace A0 := A0.below hb
  replace hB := tr hB hb (Nat.le_refl _)
  clear hb
  cases g2 : itm x1
  · have hr : resPushItem x0 x1 = (⟨0, 0, []⟩, ⟨0, 0, 0, 0, ⟨#[]⟩⟩, false) := by unfold resPushItem okPushItem; rw [g1, g2]; simp
    replace hr := Lib.hid hr
    have c_R0 := R0.cells; have f_R0 := R0.frozens
    have c_RZ := RZ.cells; have f_RZ := RZ.frozens
    have c_RP := RP.cells; have f_RP := RP.frozens
    go_wp2_with fail
    refine bodyPost_ret (v := .tuple #[.agg #[.int .i64 0, .int .i64 0, .slice none 0 0], .agg #[.int .i64 0, .int .i64 0, .int .i64 0, .int .i64 0, .string ⟨#[]⟩], .bool false]) ?_ rfl ?_
    · simp [results, Tryd.results11, go_sem, c_RZ, f_RZ, c_RP, f_RP]
    · rw [hr.out]
      refine ⟨_, [], _, [], rfl, ⟨_, rfl, _, rfl, .inl ⟨rfl, rfl, rfl⟩⟩, ⟨_, rfl, rfl, by decide, rfl⟩, by simp, by simp, ?_⟩
      repeat refine Below.setCell ?_ (by simp <;> omega) _
      exact hB
  have hr : resPushItem x0 x1 = (pushedW x0 x1, pushedP x0 x1, true) := by
    unfold resPushItem okPushItem
    rw [g1, g2]; rfl
  replace hr := Lib.hid hr
  have c_R0 := R0.cells; have f_R0 := R0.frozens
  have c_RZ := RZ.cells; have f_RZ := RZ.frozens
  have c_RP := RP.cells; have f_RP := RP.frozens
  go_wp2_with fail
  clear c_R0 f_R0 c_RZ f_RZ c_RP f_RP
  refine (SendWindow_clone_c _ x0 F0 _ A0 (by omega)).mono ?_
  rintro e w4 ⟨_, F3, rfl, ⟨_, rfl, v3, rfl, o3⟩, n3, g3, hb⟩
  have hs_w4 := hb.size
  replace R0 := R0.below hb
  replace RZ := RZ.below hb
  replace RP := RP.below hb
  replace A0 := A0.below hb
  replace hB := tr hB hb (Nat.le_refl _)
  clear hb
  obtain ⟨a3, c3, rfl⟩ := o3.slice
  have l3 := o3.lt
  clear A0
  have c_R0 := R0.cells; have f_R0 := R0.frozens; have d_R0 := fun o => (R0.alloc o).cells; have e_R0 := fun o => (R0.alloc o).frozens
  have c_RZ := RZ.cells; have f_RZ := RZ.frozens; have d_RZ := fun o => (RZ.alloc o).cells; have e_RZ := fun o => (RZ.alloc o).frozens
  have c_RP := RP.cells; have f_RP := RP.frozens; have d_RP := fun o => (RP.alloc o).cells; have e_RP := fun o => (RP.alloc o).frozens
  go_wp2_with fail
  clear c_R0 f_R0 d_R0 e_R0 c_RZ f_RZ d_RZ e_RZ c_RP f_RP d_RP e_RP
  have al : Below w4.heap.size w4 (w4.alloc (.cells #[.int .i64 x0.trail, .int .i64 x0.size, .slice a3 x0.items.length c3] 26)) := by
    repeat refine Below.alloc ?_ (by simp <;> omega) _
    exact Below.refl _ _
  have n_RO := Row.made w4 26 [.int .i64 x0.trail, .int .i64 x0.size, .slice a3 x0.items.length c3]
  have hs_w5 : w4.heap.size < (w4.alloc (.cells #[.int .i64 x0.trail, .int .i64 x0.size, .slice a3 x0.items.length c3] 26)).heap.size := by simp
  replace R0 := R0.below al
  replace RZ := RZ.below al
  replace RP := RP.below al
  replace o3 := o3.below al
  replace hB := tr hB al (Nat.le_refl _)
  generalize (w4.alloc (.cells #[.int .i64 x0.trail, .int .i64 x0.size, .slice a3 x0.items.length c3] 26)) = w5 at *
  have RO := n_RO; clear n_RO
  clear al
  refine (SendWindow_push_c x0 x1 26 w4.heap.size 0 [] [] F3 _ ⟨_, by simpa using RO, rfl, ⟨_, rfl, o3⟩, n3, fun hm => by have := l3 _ hm; omega⟩ (by omega) (isSer_iff.2 ⟨t0, t1⟩) h1 z0).mono ?_
  rintro e w5 ⟨rfl, F5, ⟨_, hr5, -, ⟨v5, rfl, o5⟩, n5, -⟩, hF5, K⟩
  obtain ⟨a5, c5, rfl⟩ := o5.slice
  have hF5' : ∀ b ∈ F5, w.heap.size + 2 < b := fun b hb => by
    have := RP.lt
    rcases hF5 b hb with h | h
    · have := g3 b h; omega
    · omega
  have l5 := o5.lt
  have hs5 := K.size
  clear o3
  clear R0
  replace RZ := RZ.keepK K (fun hm => by
    rcases List.mem_cons.1 hm with h | h
    · omega
    · have := g3 _ h; omega)
  replace RP := RP.keepK K (fun hm => by
    rcases List.mem_cons.1 hm with h | h
    · omega
    · have := g3 _ h; omega)
  clear RO
  replace hB := hB.trans (K.below (B := w.heap.size) (by omega) (fun b hm => by
    rcases List.mem_cons.1 hm with h | h
    · omega
    · have := g3 _ h; omega))
  have RO : Row w5 w4.heap.size 26 [.int .i64 (pushedW x0 x1).trail, .int .i64 (pushedW x0 x1).size, .slice a5 (pushedW x0 x1).items.length c5] := by simpa using hr5
  clear K hr5
  obtain ⟨y, hy⟩ : ∃ y, y = pushedW x0 x1 := ⟨_, rfl⟩
  obtain ⟨q, hq⟩ : ∃ q, q = pushedP x0 x1 := ⟨_, rfl⟩
  rw [← hy] at RO o5
  have hr2 := hr.out
  rw [← hy, ← hq] at hr2
  rw [← hq]
  replace hr := Lib.hid hr2
  have hqk : q.kind = 1 := by rw [hq]; rfl
  have hqd : q.data = x1 := by rw [hq]; rfl
  clear hr2 hy hq
  replace hqk := Lib.hid hqk
  replace hqd := Lib.hid hqd
  have c_RZ := RZ.cells; have f_RZ := RZ.frozens; have d_RZ := fun o => (RZ.alloc o).cells; have e_RZ := fun o => (RZ.alloc o).frozens
  have c_RP := RP.cells; have f_RP := RP.frozens; have d_RP := fun o => (RP.alloc o).cells; have e_RP := fun o => (RP.alloc o).frozens
  have c_RO := RO.cells; have f_RO := RO.frozens; have d_RO := fun o => (RO.alloc o).cells; have e_RO := fun o => (RO.alloc o).frozens
  go_wp2_with fail
  clear c_RZ f_RZ d_RZ e_RZ c_RP f_RP d_RP e_RP c_RO f_RO d_RO e_RO
  have al : Below w5.heap.size w5 (w5.alloc (.cells #[.int .i64 1, .int .i64 q.number, .int .i64 q.trail, .int .i64 q.lead, .string x1] 30)) := by
    repeat refine Below.alloc ?_ (by simp <;> omega) _
    exact Below.refl _ _
  have n_R8 := Row.made w5 30 [.int .i64 1, .int .i64 q.number, .int .i64 q.trail, .int .i64 q.lead, .string x1]
  have hs_w6 : w5.heap.size < (w5.alloc (.cells #[.int .i64 1, .int .i64 q.number, .int .i64 q.trail, .int .i64 q.lead, .string x1] 30)).heap.size := by simp
  replace RZ := RZ.below al
  replace RP := RP.below al
  replace RO := RO.below al
  replace o5 := o5.below al
  replace hB := tr hB al (Nat.le_refl _)
  generalize (w5.alloc (.cells #[.int .i64 1, .int .i64 q.number, .int .i64 q.trail, .int .i64 q.lead, .string x1] 30)) = w6 at *
  have R8 := n_R8; clear n_R8
  clear al
  rename_i K0 hK0
  refine AnyX.start (S := (fun w' => w'.cell? ⟨w4.heap.size, 0, none⟩ = some (.int .i64 y.trail) ∧ w'.cell? ⟨w4.heap.size, 1, none⟩ = some (.int .i64 y.size) ∧ w'.cell? ⟨w4.heap.size, 2, none⟩ = some (.slice a5 y.items.length c5) ∧ w'.cell? ⟨w5.heap.size, 0, none⟩ = some (.int .i64 1) ∧ w'.cell? ⟨w5.heap.size, 1, none⟩ = some (.int .i64 q.number) ∧ w'.cell? ⟨w5.heap.size, 2, none⟩ = some (.int .i64 q.trail) ∧ w'.cell? ⟨w5.heap.size, 3, none⟩ = some (.int .i64 q.lead) ∧ w'.cell? ⟨w5.heap.size, 4, none⟩ = some (.string x1))) (X := (fun _ => false)) (by kernel_rfl) ?_
  have al : Below w6.heap.size w6 w6.drew := belowDrewN (Below.refl _ _) 1
  have hs_w7 := al.size
  replace RZ := RZ.below al
  replace RP := RP.below al
  replace RO := RO.below al
  replace R8 := R8.below al
  replace o5 := o5.below al
  replace hB := tr hB al (Nat.le_refl _)
  generalize w6.drew = w7 at *
  clear al
  have hS : (fun w' => w'.cell? ⟨w4.heap.size, 0, none⟩ = some (.int .i64 y.trail) ∧ w'.cell? ⟨w4.heap.size, 1, none⟩ = some (.int .i64 y.size) ∧ w'.cell? ⟨w4.heap.size, 2, none⟩ = some (.slice a5 y.items.length c5) ∧ w'.cell? ⟨w5.heap.size, 0, none⟩ = some (.int .i64 1) ∧ w'.cell? ⟨w5.heap.size, 1, none⟩ = some (.int .i64 q.number) ∧ w'.cell? ⟨w5.heap.size, 2, none⟩ = some (.int .i64 q.trail) ∧ w'.cell? ⟨w5.heap.size, 3, none⟩ = some (.int .i64 q.lead) ∧ w'.cell? ⟨w5.heap.size, 4, none⟩ = some (.string x1)) w7 := ⟨RO.cells 0, RO.cells 1, RO.cells 2, R8.cells 0, R8.cells 1, R8.cells 2, R8.cells 3, R8.cells 4⟩
  refine AnyX.take (i := 0) (oi := _) (v := ?_) (by rw [List.getElem?_toArray]; rfl) (by kernel_rfl) (by kernel_rfl) (by kernel_rfl) (by kernel_rfl) (by kernel_rfl) (by exact fun _ _ _ h => h) (Or.inl ⟨by rfl, ?_⟩) hS ?_
  rotate_left
  · (intro wS hSw; (try dsimp only at hSw); go_simp; try with_reducible rfl)
  try simp only [Act.put, List.setIfInBounds_toArray, List.set_cons_zero, List.set_cons_succ]
  refine AnyX.take (i := 1) (oi := _) (v := ?_) (by rw [List.getElem?_toArray]; rfl) (by kernel_rfl) (by kernel_rfl) (by kernel_rfl) (by kernel_rfl) (by kernel_rfl) (by exact fun _ _ _ h => h) (Or.inl ⟨by rfl, ?_⟩) hS ?_
  rotate_left
  · (intro wS hSw; (try dsimp only at hSw); go_simp; try with_reducible rfl)
  try simp only [Act.put, List.setIfInBounds_toArray, List.set_cons_zero, List.set_cons_succ]
  refine AnyX.only (i := 2) (o := _) (by kernel_rfl) (by rw [List.getElem?_toArray]; rfl) (fun K hK => ?_)
  have c_RZ := RZ.cells; have f_RZ := RZ.frozens
  have c_RP := RP.cells; have f_RP := RP.frozens
  have c_RO := RO.cells; have f_RO := RO.frozens
  have c_R8 := R8.cells; have f_R8 := R8.frozens
  go_simp
  clear c_RZ f_RZ c_RP f_RP c_RO f_RO c_R8 f_R8
  have n_RP := RP.keep (show (((w7.setCell ⟨w.heap.size + 1, 0, none⟩ (.int .i64 y.trail)).setCell ⟨w.heap.size + 1, 1, none⟩ (.int .i64 y.size)).setCell ⟨w.heap.size + 1, 2, none⟩ (.slice a5 y.items.length c5)).heap[_]? = _ from by repeat rw [Below.heap_setCell _ _ _ _ (by simp <;> omega)])
  have n_RO := RO.keep (show (((w7.setCell ⟨w.heap.size + 1, 0, none⟩ (.int .i64 y.trail)).setCell ⟨w.heap.size + 1, 1, none⟩ (.int .i64 y.size)).setCell ⟨w.heap.size + 1, 2, none⟩ (.slice a5 y.items.length c5)).heap[_]? = _ from by repeat rw [Below.heap_setCell _ _ _ _ (by simp <;> omega)])
  have n_R8 := R8.keep (show (((w7.setCell ⟨w.heap.size + 1, 0, none⟩ (.int .i64 y.trail)).setCell ⟨w.heap.size + 1, 1, none⟩ (.int .i64 y.size)).setCell ⟨w.heap.size + 1, 2, none⟩ (.slice a5 y.items.length c5)).heap[_]? = _ from by repeat rw [Below.heap_setCell _ _ _ _ (by simp <;> omega)])
  have n_RZ : Row (((w7.setCell ⟨w.heap.size + 1, 0, none⟩ (.int .i64 y.trail)).setCell ⟨w.heap.size + 1, 1, none⟩ (.int .i64 y.size)).setCell ⟨w.heap.size + 1, 2, none⟩ (.slice a5 y.items.length c5)) (w.heap.size + 1) 26 [.int .i64 y.trail, .int .i64 y.size, .slice a5 y.items.length c5] := by simpa using (((RZ.set 0 (.int .i64 y.trail)).set 1 (.int .i64 y.size)).set 2 (.slice a5 y.items.length c5))
  have n_o5 := o5.frame (w' := (((w7.setCell ⟨w.heap.size + 1, 0, none⟩ (.int .i64 y.trail)).setCell ⟨w.heap.size + 1, 1, none⟩ (.int .i64 y.size)).setCell ⟨w.heap.size + 1, 2, none⟩ (.slice a5 y.items.length c5))) fun b hb => by
    have h6 := hF5' b hb
    repeat rw [Below.heap_setCell _ _ _ _ (by simp <;> omega)]
  have n_hB : Below w.heap.size w (((w7.setCell ⟨w.heap.size + 1, 0, none⟩ (.int .i64 y.trail)).setCell ⟨w.heap.size + 1, 1, none⟩ (.int .i64 y.size)).setCell ⟨w.heap.size + 1, 2, none⟩ (.slice a5 y.items.length c5)) := by
    repeat refine Below.setCell ?_ (by simp <;> omega) _
    exact hB
  clear hB RZ RP RO R8 o5
  have hs_w8 : w7.heap.size ≤ (((w7.setCell ⟨w.heap.size + 1, 0, none⟩ (.int .i64 y.trail)).setCell ⟨w.heap.size + 1, 1, none⟩ (.int .i64 y.size)).setCell ⟨w.heap.size + 1, 2, none⟩ (.slice a5 y.items.length c5)).heap.size := by simp
  generalize (((w7.setCell ⟨w.heap.size + 1, 0, none⟩ (.int .i64 y.trail)).setCell ⟨w.heap.size + 1, 1, none⟩ (.int .i64 y.size)).setCell ⟨w.heap.size + 1, 2, none⟩ (.slice a5 y.items.length c5)) = w8 at *
  have hB := n_hB; clear n_hB
  have RZ := n_RZ; clear n_RZ
  have RP := n_RP; clear n_RP
  have RO := n_RO; clear n_RO
  have R8 := n_R8; clear n_R8
  have o5 := n_o5; clear n_o5
  clear hS
  have hS : (fun w' => w'.cell? ⟨w4.heap.size, 0, none⟩ = some (.int .i64 y.trail) ∧ w'.cell? ⟨w4.heap.size, 1, none⟩ = some (.int .i64 y.size) ∧ w'.cell? ⟨w4.heap.size, 2, none⟩ = some (.slice a5 y.items.length c5) ∧ w'.cell? ⟨w5.heap.size, 0, none⟩ = some (.int .i64 1) ∧ w'.cell? ⟨w5.heap.size, 1, none⟩ = some (.int .i64 q.number) ∧ w'.cell? ⟨w5.heap.size, 2, none⟩ = some (.int .i64 q.trail) ∧ w'.cell? ⟨w5.heap.size, 3, none⟩ = some (.int .i64 q.lead) ∧ w'.cell? ⟨w5.heap.size, 4, none⟩ = some (.string x1)) w8 := ⟨RO.cells 0, RO.cells 1, RO.cells 2, R8.cells 0, R8.cells 1, R8.cells 2, R8.cells 3, R8.cells 4⟩
  refine hK.out _ _ (fun _ => hS) ?_
  clear hK K
  try simp only [Act.put, List.setIfInBounds_toArray, List.set_cons_zero, List.set_cons_succ]
  refine AnyX.only (i := 3) (o := _) (by kernel_rfl) (by rw [List.getElem?_toArray]; rfl) (fun K hK => ?_)
  have c_RZ := RZ.cells; have f_RZ := RZ.frozens
  have c_RP := RP.cells; have f_RP := RP.frozens
  have c_RO := RO.cells; have f_RO := RO.frozens
  have c_R8 := R8.cells; have f_R8 := R8.frozens
  go_simp
  clear c_RZ f_RZ c_RP f_RP c_RO f_RO c_R8 f_R8
  have n_RZ := RZ.keep (show (((((w8.setCell ⟨w.heap.size + 1 + 1, 0, none⟩ (.int .i64 1)).setCell ⟨w.heap.size + 1 + 1, 1, none⟩ (.int .i64 q.number)).setCell ⟨w.heap.size + 1 + 1, 2, none⟩ (.int .i64 q.trail)).setCell ⟨w.heap.size + 1 + 1, 3, none⟩ (.int .i64 q.lead)).setCell ⟨w.heap.size + 1 + 1, 4, none⟩ (.string x1)).heap[_]? = _ from by repeat rw [Below.heap_setCell _ _ _ _ (by simp <;> omega)])
  have n_RO := RO.keep (show (((((w8.setCell ⟨w.heap.size + 1 + 1, 0, none⟩ (.int .i64 1)).setCell ⟨w.heap.size + 1 + 1, 1, none⟩ (.int .i64 q.number)).setCell ⟨w.heap.size + 1 + 1, 2, none⟩ (.int .i64 q.trail)).setCell ⟨w.heap.size + 1 + 1, 3, none⟩ (.int .i64 q.lead)).setCell ⟨w.heap.size + 1 + 1, 4, none⟩ (.string x1)).heap[_]? = _ from by repeat rw [Below.heap_setCell _ _ _ _ (by simp <;> omega)])
  have n_R8 := R8.keep (show (((((w8.setCell ⟨w.heap.size + 1 + 1, 0, none⟩ (.int .i64 1)).setCell ⟨w.heap.size + 1 + 1, 1, none⟩ (.int .i64 q.number)).setCell ⟨w.heap.size + 1 + 1, 2, none⟩ (.int .i64 q.trail)).setCell ⟨w.heap.size + 1 + 1, 3, none⟩ (.int .i64 q.lead)).setCell ⟨w.heap.size + 1 + 1, 4, none⟩ (.string x1)).heap[_]? = _ from by repeat rw [Below.heap_setCell _ _ _ _ (by simp <;> omega)])
  have n_RP : Row (((((w8.setCell ⟨w.heap.size + 1 + 1, 0, none⟩ (.int .i64 1)).setCell ⟨w.heap.size + 1 + 1, 1, none⟩ (.int .i64 q.number)).setCell ⟨w.heap.size + 1 + 1, 2, none⟩ (.int .i64 q.trail)).setCell ⟨w.heap.size + 1 + 1, 3, none⟩ (.int .i64 q.lead)).setCell ⟨w.heap.size + 1 + 1, 4, none⟩ (.string x1)) (w.heap.size + 1 + 1) 30 [.int .i64 1, .int .i64 q.number, .int .i64 q.trail, .int .i64 q.lead, .string x1] := by simpa using (((((RP.set 0 (.int .i64 1)).set 1 (.int .i64 q.number)).set 2 (.int .i64 q.trail)).set 3 (.int .i64 q.lead)).set 4 (.string x1))
  have n_o5 := o5.frame (w' := (((((w8.setCell ⟨w.heap.size + 1 + 1, 0, none⟩ (.int .i64 1)).setCell ⟨w.heap.size + 1 + 1, 1, none⟩ (.int .i64 q.number)).setCell ⟨w.heap.size + 1 + 1, 2, none⟩ (.int .i64 q.trail)).setCell ⟨w.heap.size + 1 + 1, 3, none⟩ (.int .i64 q.lead)).setCell ⟨w.heap.size + 1 + 1, 4, none⟩ (.string x1))) fun b hb => by
    have h6 := hF5' b hb
    repeat rw [Below.heap_setCell _ _ _ _ (by simp <;> omega)]
  have n_hB : Below w.heap.size w (((((w8.setCell ⟨w.heap.size + 1 + 1, 0, none⟩ (.int .i64 1)).setCell ⟨w.heap.size + 1 + 1, 1, none⟩ (.int .i64 q.number)).setCell ⟨w.heap.size + 1 + 1, 2, none⟩ (.int .i64 q.trail)).setCell ⟨w.heap.size + 1 + 1, 3, none⟩ (.int .i64 q.lead)).setCell ⟨w.heap.size + 1 + 1, 4, none⟩ (.string x1)) := by
    repeat refine Below.setCell ?_ (by simp <;> omega) _
    exact hB
  clear hB RZ RP RO R8 o5
  have hs_w9 : w8.heap.size ≤ (((((w8.setCell ⟨w.heap.size + 1 + 1, 0, none⟩ (.int .i64 1)).setCell ⟨w.heap.size + 1 + 1, 1, none⟩ (.int .i64 q.number)).setCell ⟨w.heap.size + 1 + 1, 2, none⟩ (.int .i64 q.trail)).setCell ⟨w.heap.size + 1 + 1, 3, none⟩ (.int .i64 q.lead)).setCell ⟨w.heap.size + 1 + 1, 4, none⟩ (.string x1)).heap.size := by simp
  generalize (((((w8.setCell ⟨w.heap.size + 1 + 1, 0, none⟩ (.int .i64 1)).setCell ⟨w.heap.size + 1 + 1, 1, none⟩ (.int .i64 q.number)).setCell ⟨w.heap.size + 1 + 1, 2, none⟩ (.int .i64 q.trail)).setCell ⟨w.heap.size + 1 + 1, 3, none⟩ (.int .i64 q.lead)).setCell ⟨w.heap.size + 1 + 1, 4, none⟩ (.string x1)) = w9 at *
  have hB := n_hB; clear n_hB
  have RZ := n_RZ; clear n_RZ
  have RP := n_RP; clear n_RP
  have RO := n_RO; clear n_RO
  have R8 := n_R8; clear n_R8
  have o5 := n_o5; clear n_o5
  clear hS
  have hS : (fun w' => w'.cell? ⟨w4.heap.size, 0, none⟩ = some (.int .i64 y.trail) ∧ w'.cell? ⟨w4.heap.size, 1, none⟩ = some (.int .i64 y.size) ∧ w'.cell? ⟨w4.heap.size, 2, none⟩ = some (.slice a5 y.items.length c5) ∧ w'.cell? ⟨w5.heap.size, 0, none⟩ = some (.int .i64 1) ∧ w'.cell? ⟨w5.heap.size, 1, none⟩ = some (.int .i64 q.number) ∧ w'.cell? ⟨w5.heap.size, 2, none⟩ = some (.int .i64 q.trail) ∧ w'.cell? ⟨w5.heap.size, 3, none⟩ = some (.int .i64 q.lead) ∧ w'.cell? ⟨w5.heap.size, 4, none⟩ = some (.string x1)) w9 := ⟨RO.cells 0, RO.cells 1, RO.cells 2, R8.cells 0, R8.cells 1, R8.cells 2, R8.cells 3, R8.cells 4⟩
  refine hK.out _ _ (fun _ => hS) ?_
  clear hK K
  try simp only [Act.put, List.setIfInBounds_toArray, List.set_cons_zero, List.set_cons_succ]
  refine AnyX.only (i := 4) (o := _) (by kernel_rfl) (by rw [List.getElem?_toArray]; rfl) (fun K hK => ?_)
  try go_simp
  clear hS
  have hS : (fun w' => w'.cell? ⟨w4.heap.size, 0, none⟩ = some (.int .i64 y.trail) ∧ w'.cell? ⟨w4.heap.size, 1, none⟩ = some (.int .i64 y.size) ∧ w'.cell? ⟨w4.heap.size, 2, none⟩ = some (.slice a5 y.items.length c5) ∧ w'.cell? ⟨w5.heap.size, 0, none⟩ = some (.int .i64 1) ∧ w'.cell? ⟨w5.heap.size, 1, none⟩ = some (.int .i64 q.number) ∧ w'.cell? ⟨w5.heap.size, 2, none⟩ = some (.int .i64 q.trail) ∧ w'.cell? ⟨w5.heap.size, 3, none⟩ = some (.int .i64 q.lead) ∧ w'.cell? ⟨w5.heap.size, 4, none⟩ = some (.string x1)) w9 := ⟨RO.cells 0, RO.cells 1, RO.cells 2, R8.cells 0, R8.cells 1, R8.cells 2, R8.cells 3, R8.cells 4⟩
  refine hK.out _ _ (fun _ => hS) ?_
  clear hK K
  try simp only [Act.put, List.setIfInBounds_toArray, List.set_cons_zero, List.set_cons_succ]
  refine AnyX.done (by kernel_rfl) ?_ _
  (try clear hS)
  refine hK0 _ _ ?_
  clear hK0 K0
  replace o5 := Lib.hid o5
  have c_RZ := RZ.cells; have f_RZ := RZ.frozens
  have c_RP := RP.cells; have f_RP := RP.frozens
  have c_RO := RO.cells; have f_RO := RO.frozens
  have c_R8 := R8.cells; have f_R8 := R8.frozens
  go_wp2_with fail
  refine bodyPost_ret (v := .tuple #[.agg #[.int .i64 y.trail, .int .i64 y.size, .slice a5 y.items.length c5], .agg #[.int .i64 1, .int .i64 q.number, .int .i64 q.trail, .int .i64 q.lead, .string x1], .bool true]) ?_ rfl ?_
  · simp [results, Tryd.results11, go_sem, c_RZ, f_RZ, c_RP, f_RP]
  · rw [hr.out]
    refine ⟨_, F5, _, [], rfl, ⟨_, rfl, _, rfl, o5.out⟩, ⟨_, rfl, by rw [hqk.out, hqd.out], by rw [hqd.out]; exact h1, rfl⟩, by simpa using n5, fun b hb => by have := hF5' b (by simpa using hb); omega, hB⟩
end Go.Proofs.YtidephmobajikaaDoor
/- Walks: the reference's push of an item. -/
namespace Go.Proofs.YtidephmobajikaaDoor
open Go.RowKit
theorem aft_zero {t : Int} (h0 : 0 ≤ t) (h1 : t ≤ 65535) : aft t 0 = t := by unfold aft; omega
set_option maxHeartbeats 3200000 in
set_option maxRecDepth 100000 in
theorem l9Push_c (v0 : Value) (x0 : SendWindow) (F0 : List Nat) (s : ByteArray) (w : World) (h0 : IsV ESendWindow w v0 x0 F0) (hl : x0.items.length ≤ 6) (t0 : 0 ≤ x0.trail) (t1 : x0.trail ≤ 65535) (hs : s.size ≤ maxLen) (hz : 1 ≤ x0.size) :
    Calls Tryd.prog 100 #[v0, .string s] w fun e w' => ∃ u G, e = .returned (.tuple #[u, .agg #[.int .i64 1, .int .i64 (pushedP x0 s).number, .int .i64 (pushedP x0 s).trail, .int .i64 (pushedP x0 s).lead, .string s]]) ∧ IsV ESendWindow w' u (pushedW x0 s) G ∧ (∀ b ∈ G, w.heap.size ≤ b) ∧ Below w.heap.size w w' := by
  have A0 := h0
  have lA0 := h0.lt
  obtain ⟨_, rfl, v0_1, rfl, h0_1⟩ := h0
  obtain ⟨a0_1, c0_1, rfl⟩ := h0_1.slice
  clear h0_1
  go_enter Tryd.func100, Tryd.ntmps100
  go_wp2_with fail
  have al : Below w.heap.size w (((w.alloc (.cells #[.int .i64 x0.trail, .int .i64 x0.size, .slice a0_1 x0.items.length c0_1] 26)).alloc (.cells #[.int .i64 0, .int .i64 0, .slice none 0 0] 26)).alloc (.cells #[.int .i64 0, .int .i64 0, .int .i64 0, .int .i64 0, .string ⟨#[]⟩] 30)) := by
    repeat refine Below.alloc ?_ (by simp <;> omega) _
    exact Below.refl _ _
  have n_R0 : Row (((w.alloc (.cells #[.int .i64 x0.trail, .int .i64 x0.size, .slice a0_1 x0.items.length c0_1] 26)).alloc (.cells #[.int .i64 0, .int .i64 0, .slice none 0 0] 26)).alloc (.cells #[.int .i64 0, .int .i64 0, .int .i64 0, .int .i64 0, .string ⟨#[]⟩] 30)) (w.heap.size) 26 [.int .i64 x0.trail, .int .i64 x0.size, .slice a0_1 x0.items.length c0_1] := by simp [row_alloc] <;> omega
  have n_RZ : Row (((w.alloc (.cells #[.int .i64 x0.trail, .int .i64 x0.size, .slice a0_1 x0.items.length c0_1] 26)).alloc (.cells #[.int .i64 0, .int .i64 0, .slice none 0 0] 26)).alloc (.cells #[.int .i64 0, .int .i64 0, .int .i64 0, .int .i64 0, .string ⟨#[]⟩] 30)) (w.heap.size + 1) 26 [.int .i64 0, .int .i64 0, .slice none 0 0] := by simp [row_alloc] <;> omega
  have n_RP : Row (((w.alloc (.cells #[.int .i64 x0.trail, .int .i64 x0.size, .slice a0_1 x0.items.length c0_1] 26)).alloc (.cells #[.int .i64 0, .int .i64 0, .slice none 0 0] 26)).alloc (.cells #[.int .i64 0, .int .i64 0, .int .i64 0, .int .i64 0, .string ⟨#[]⟩] 30)) (w.heap.size + 1 + 1) 30 [.int .i64 0, .int .i64 0, .int .i64 0, .int .i64 0, .string ⟨#[]⟩] := by simp [row_alloc] <;> omega
  have hs_w1 : w.heap.size + 1 + 1 < (((w.alloc (.cells #[.int .i64 x0.trail, .int .i64 x0.size, .slice a0_1 x0.items.length c0_1] 26)).alloc (.cells #[.int .i64 0, .int .i64 0, .slice none 0 0] 26)).alloc (.cells #[.int .i64 0, .int .i64 0, .int .i64 0, .int .i64 0, .string ⟨#[]⟩] 30)).heap.size := by simp <;> omega
  replace A0 := A0.below al
  have hB := al
  generalize (((w.alloc (.cells #[.int .i64 x0.trail, .int .i64 x0.size, .slice a0_1 x0.items.length c0_1] 26)).alloc (.cells #[.int .i64 0, .int .i64 0, .slice none 0 0] 26)).alloc (.cells #[.int .i64 0, .int .i64 0, .int .i64 0, .int .i64 0, .string ⟨#[]⟩] 30)) = w1 at *
  have R0 := n_R0; clear n_R0
  have RZ := n_RZ; clear n_RZ
  have RP := n_RP; clear n_RP
  clear al
  obtain ⟨y, hy_y⟩ : ∃ y, y = (⟨aft x0.trail ((0 : Nat) : Int), x0.size, x0.items.drop 0⟩ : SendWindow) := ⟨_, rfl⟩
  have hd := l9Drop_c _ x0 F0 0 _ A0 (by omega) (by omega) (isSer_iff.2 ⟨t0, t1⟩)
  rw [← hy_y] at hd
  replace hy_y := Lib.hid hy_y
  refine (hd).mono ?_
  rintro e w2 ⟨_, F5, rfl, ⟨_, rfl, v3, rfl, o5⟩, n5, g5, hb⟩
  have hs_w2 := hb.size
  replace R0 := R0.below hb
  replace RZ := RZ.below hb
  replace RP := RP.below hb
  replace A0 := A0.below hb
  replace hB := tr hB hb (Nat.le_refl _)
  clear hb
  clear hd
  obtain ⟨a5, c5, rfl⟩ := o5.slice
  have l5 := o5.lt
  by_cases hf : (x0.items.length : Int) = x0.size
  · have c_R0 := R0.cells; have f_R0 := R0.frozens; have d_R0 := fun o => (R0.alloc o).cells; have e_R0 := fun o => (R0.alloc o).frozens
    have c_RZ := RZ.cells; have f_RZ := RZ.frozens; have d_RZ := fun o => (RZ.alloc o).cells; have e_RZ := fun o => (RZ.alloc o).frozens
    have c_RP := RP.cells; have f_RP := RP.frozens; have d_RP := fun o => (RP.alloc o).cells; have e_RP := fun o => (RP.alloc o).frozens
    go_wp2_with fail
    clear c_R0 f_R0 d_R0 e_R0 c_RZ f_RZ d_RZ e_RZ c_RP f_RP d_RP e_RP
    have al : Below w2.heap.size w2 (w2.alloc (.cells #[.int .i64 y.trail, .int .i64 y.size, .slice a5 y.items.length c5] 26)) := by
      repeat refine Below.alloc ?_ (by simp <;> omega) _
      exact Below.refl _ _
    have n_RO := Row.made w2 26 [.int .i64 y.trail, .int .i64 y.size, .slice a5 y.items.length c5]
    have hs_w3 : w2.heap.size < (w2.alloc (.cells #[.int .i64 y.trail, .int .i64 y.size, .slice a5 y.items.length c5] 26)).heap.size := by simp
    replace R0 := R0.below al
    replace RZ := RZ.below al
    replace RP := RP.below al
    replace A0 := A0.below al
    replace o5 := o5.below al
    replace hB := tr hB al (Nat.le_refl _)
    generalize (w2.alloc (.cells #[.int .i64 y.trail, .int .i64 y.size, .slice a5 y.items.length c5] 26)) = w3 at *
    have RO := n_RO; clear n_RO
    clear al
    clear o5
    obtain ⟨y2, hy_y2⟩ : ∃ y, y = (⟨aft x0.trail ((1 : Nat) : Int), x0.size, x0.items.drop 1⟩ : SendWindow) := ⟨_, rfl⟩
    have hd := l9Drop_c _ x0 F0 1 _ A0 (by omega) (by omega) (isSer_iff.2 ⟨t0, t1⟩)
    rw [← hy_y2] at hd
    replace hy_y2 := Lib.hid hy_y2
    refine (hd).mono ?_
    rintro e w4 ⟨_, F7b, rfl, ⟨_, rfl, v3, rfl, o7b⟩, n7, g7, hb⟩
    have hs_w4 := hb.size
    replace R0 := R0.below hb
    replace RZ := RZ.below hb
    replace RP := RP.below hb
    replace RO := RO.below hb
    replace A0 := A0.below hb
    replace hB := tr hB hb (Nat.le_refl _)
    clear hb
    clear hd
    obtain ⟨a7, c7, rfl⟩ := o7b.slice
    have l7 := o7b.lt
    clear A0
    replace o7b := Lib.hid o7b
    have c_R0 := R0.cells; have f_R0 := R0.frozens
    have c_RZ := RZ.cells; have f_RZ := RZ.frozens
    have c_RP := RP.cells; have f_RP := RP.frozens
    have c_RO := RO.cells; have f_RO := RO.frozens
    go_wp2_with fail
    clear c_R0 f_R0 c_RZ f_RZ c_RP f_RP c_RO f_RO
    replace o7b := o7b.out
    have hlo := RO.lt
    have n_R0 := R0.keep (show (((w4.setCell ⟨w2.heap.size, 0, none⟩ (.int .i64 y2.trail)).setCell ⟨w2.heap.size, 1, none⟩ (.int .i64 y2.size)).setCell ⟨w2.heap.size, 2, none⟩ (.slice a7 y2.items.length c7)).heap[_]? = _ from by repeat rw [Below.heap_setCell _ _ _ _ (by simp <;> omega)])
    have n_RZ := RZ.keep (show (((w4.setCell ⟨w2.heap.size, 0, none⟩ (.int .i64 y2.trail)).setCell ⟨w2.heap.size, 1, none⟩ (.int .i64 y2.size)).setCell ⟨w2.heap.size, 2, none⟩ (.slice a7 y2.items.length c7)).heap[_]? = _ from by repeat rw [Below.heap_setCell _ _ _ _ (by simp <;> omega)])
    have n_RP := RP.keep (show (((w4.setCell ⟨w2.heap.size, 0, none⟩ (.int .i64 y2.trail)).setCell ⟨w2.heap.size, 1, none⟩ (.int .i64 y2.size)).setCell ⟨w2.heap.size, 2, none⟩ (.slice a7 y2.items.length c7)).heap[_]? = _ from by repeat rw [Below.heap_setCell _ _ _ _ (by simp <;> omega)])
    have n_RO : Row (((w4.setCell ⟨w2.heap.size, 0, none⟩ (.int .i64 y2.trail)).setCell ⟨w2.heap.size, 1, none⟩ (.int .i64 y2.size)).setCell ⟨w2.heap.size, 2, none⟩ (.slice a7 y2.items.length c7)) (w2.heap.size) 26 [.int .i64 y2.trail, .int .i64 y2.size, .slice a7 y2.items.length c7] := by simpa using (((RO.set 0 (.int .i64 y2.trail)).set 1 (.int .i64 y2.size)).set 2 (.slice a7 y2.items.length c7))
    have n_o7b := o7b.frame (w' := (((w4.setCell ⟨w2.heap.size, 0, none⟩ (.int .i64 y2.trail)).setCell ⟨w2.heap.size, 1, none⟩ (.int .i64 y2.size)).setCell ⟨w2.heap.size, 2, none⟩ (.slice a7 y2.items.length c7))) fun b hb => by
      have h6 := g7 b hb
      repeat rw [Below.heap_setCell _ _ _ _ (by simp <;> omega)]
    have n_hB : Below w.heap.size w (((w4.setCell ⟨w2.heap.size, 0, none⟩ (.int .i64 y2.trail)).setCell ⟨w2.heap.size, 1, none⟩ (.int .i64 y2.size)).setCell ⟨w2.heap.size, 2, none⟩ (.slice a7 y2.items.length c7)) := by
      repeat refine Below.setCell ?_ (by simp <;> omega) _
      exact hB
    clear hB R0 RZ RP RO o7b
    have hs_w5 : w4.heap.size ≤ (((w4.setCell ⟨w2.heap.size, 0, none⟩ (.int .i64 y2.trail)).setCell ⟨w2.heap.size, 1, none⟩ (.int .i64 y2.size)).setCell ⟨w2.heap.size, 2, none⟩ (.slice a7 y2.items.length c7)).heap.size := by simp
    generalize (((w4.setCell ⟨w2.heap.size, 0, none⟩ (.int .i64 y2.trail)).setCell ⟨w2.heap.size, 1, none⟩ (.int .i64 y2.size)).setCell ⟨w2.heap.size, 2, none⟩ (.slice a7 y2.items.length c7)) = w5 at *
    have hB := n_hB; clear n_hB
    have R0 := n_R0; clear n_R0
    have RZ := n_RZ; clear n_RZ
    have RP := n_RP; clear n_RP
    have RO := n_RO; clear n_RO
    have o7b := n_o7b; clear n_o7b
    have hry : roomed x0 = y2 := by unfold roomed; rw [if_pos hf, hy_y2.out]; rfl
    replace hry := Lib.hid hry
    have hyt0 : 0 ≤ y2.trail := by rw [hy_y2.out]; exact (aft_bd _ _).1
    have hyt1 : y2.trail ≤ 65535 := by rw [hy_y2.out]; exact (aft_bd _ _).2
    have hyl : y2.items.length ≤ 6 := by rw [hy_y2.out]; simp; omega
    have hyz : y2.size = x0.size := by rw [hy_y2.out]
    replace hyz := Lib.hid hyz
    have hnum : aft y2.trail y2.items.length = aft x0.trail x0.items.length := by
      rw [hy_y2.out, ← aft_aft x0.trail x0.items.length]
      have h1 : ((x0.items.drop 1).length : Int) = (x0.items.length : Int) - 1 := by simp; omega
      rw [← h1]; rfl
    replace hnum := Lib.hid hnum
    clear hy_y2 hy_y hf
    have hne : ∀ b ∈ F7b, b ≠ w2.heap.size := fun b hb => by have := g7 b hb; omega
    have g5 : ∀ b ∈ F7b, w.heap.size + 2 < b := fun b hb => by have := g7 b hb; omega
    refine (l9Lead_c y2.trail y2.size a7 y2.items.length c7 _ hyt0 hyt1 (by omega)).mono ?_
    rintro e w6_ ⟨rfl, hb⟩
    have hs_w6_ := hb.size
    replace R0 := R0.below hb
    replace RZ := RZ.below hb
    replace RP := RP.below hb
    replace RO := RO.below hb
    replace o7b := o7b.below hb
    replace hB := tr hB hb (Nat.le_refl _)
    clear hb
    rw [hnum.out]
    have lR := RO.lt
    have c_R0 := R0.cells; have f_R0 := R0.frozens; have d_R0 := fun o => (R0.alloc o).cells; have e_R0 := fun o => (R0.alloc o).frozens
    have c_RZ := RZ.cells; have f_RZ := RZ.frozens; have d_RZ := fun o => (RZ.alloc o).cells; have e_RZ := fun o => (RZ.alloc o).frozens
    have c_RP := RP.cells; have f_RP := RP.frozens; have d_RP := fun o => (RP.alloc o).cells; have e_RP := fun o => (RP.alloc o).frozens
    have c_RO := RO.cells; have f_RO := RO.frozens; have d_RO := fun o => (RO.alloc o).cells; have e_RO := fun o => (RO.alloc o).frozens
    go_wp2_with (at_builtin; refine wpList_apd one_EStr (by decide) (by rfl) _ _ _ (by rfl) 9 (.string ⟨#[]⟩) 16 Tryd.underlying24 info_string rfl (.slice a7 y2.items.length c7) y2.items F7b (by rfl) (o7b.below ((Below.refl _ _).alloc (Nat.le_refl _) _)) (Hd.of n7) (some ⟨w6_.heap.size, 0, none⟩) [s] 1 (by rfl) [.string s] [] (str_flat (xs := [s]) _ (by simpa using hs)) (.inr ⟨_, rfl, one_src _ _ _⟩) (by simp) (by simp; unfold maxLen; omega) (by simp; omega) ?_)
    clear c_R0 f_R0 d_R0 e_R0 c_RZ f_RZ d_RZ e_RZ c_RP f_RP d_RP e_RP c_RO f_RO d_RO e_RO
    intro v6 w7 F6 hA
    have o6 := hA.ow
    have m6 := hA.mem
    have K6 := hA.keep
    have hs_w7 := K6.size
    obtain ⟨a6, c6, rfl⟩ := o6.slice
    clear hA
    replace R0 := (R0.alloc (.cells #[.string s] 9)).keepK K6 (fun hm => by have h1 := g5 _ hm; omega)
    replace RZ := (RZ.alloc (.cells #[.string s] 9)).keepK K6 (fun hm => by have h1 := g5 _ hm; omega)
    replace RP := (RP.alloc (.cells #[.string s] 9)).keepK K6 (fun hm => by have h1 := g5 _ hm; omega)
    replace RO := (RO.alloc (.cells #[.string s] 9)).keepK K6 (fun hm => hne _ hm rfl)
    replace hB := (tr hB ((Below.refl _ _).alloc (Nat.le_refl _) (.cells #[.string s] 9)) (Nat.le_refl _)).trans (K6.below (B := w.heap.size) (by simp; omega) (fun b hm => by have h1 := g5 _ hm; omega))
    have g6 : ∀ b ∈ F6, b ≠ w2.heap.size ∧ w.heap.size + 2 < b := fun b hb => by
      rcases m6 b hb with h1 | h1 | h1
      · exact ⟨(hne b h1), g5 b h1⟩
      · simp at h1
      · simp at h1; omega
    clear K6 m6 o7b g5 hne
    have hlen : (y2.items ++ [s]).length = y2.items.length + 1 := by simp
    rw [hlen] at o6
    replace o6 := Lib.hid o6
    have c_R0 := R0.cells; have f_R0 := R0.frozens
    have c_RZ := RZ.cells; have f_RZ := RZ.frozens
    have c_RP := RP.cells; have f_RP := RP.frozens
    have c_RO := RO.cells; have f_RO := RO.frozens
    go_wp2_with fail
    clear c_R0 f_R0 c_RZ f_RZ c_RP f_RP c_RO f_RO
    replace o6 := o6.out
    have n_R0 := R0.keep (show (w7.setCell ⟨w2.heap.size, 2, none⟩ (.slice a6 (y2.items.length + 1) c6)).heap[_]? = _ from by repeat rw [Below.heap_setCell _ _ _ _ (by simp <;> omega)])
    have n_RZ := RZ.keep (show (w7.setCell ⟨w2.heap.size, 2, none⟩ (.slice a6 (y2.items.length + 1) c6)).heap[_]? = _ from by repeat rw [Below.heap_setCell _ _ _ _ (by simp <;> omega)])
    have n_RP := RP.keep (show (w7.setCell ⟨w2.heap.size, 2, none⟩ (.slice a6 (y2.items.length + 1) c6)).heap[_]? = _ from by repeat rw [Below.heap_setCell _ _ _ _ (by simp <;> omega)])
    have n_RO : Row (w7.setCell ⟨w2.heap.size, 2, none⟩ (.slice a6 (y2.items.length + 1) c6)) (w2.heap.size) 26 [.int .i64 y2.trail, .int .i64 y2.size, .slice a6 (y2.items.length + 1) c6] := by simpa using (RO.set 2 (.slice a6 (y2.items.length + 1) c6))
    have n_o6 := o6.frame (w' := (w7.setCell ⟨w2.heap.size, 2, none⟩ (.slice a6 (y2.items.length + 1) c6))) fun b hb => by
      have h6 := g6 b hb
      repeat rw [Below.heap_setCell _ _ _ _ (by simp <;> omega)]
    have n_hB : Below w.heap.size w (w7.setCell ⟨w2.heap.size, 2, none⟩ (.slice a6 (y2.items.length + 1) c6)) := by
      repeat refine Below.setCell ?_ (by simp <;> omega) _
      exact hB
    clear hB R0 RZ RP RO o6
    have hs_w8 : w7.heap.size ≤ (w7.setCell ⟨w2.heap.size, 2, none⟩ (.slice a6 (y2.items.length + 1) c6)).heap.size := by simp
    generalize (w7.setCell ⟨w2.heap.size, 2, none⟩ (.slice a6 (y2.items.length + 1) c6)) = w8 at *
    have hB := n_hB; clear n_hB
    have R0 := n_R0; clear n_R0
    have RZ := n_RZ; clear n_RZ
    have RP := n_RP; clear n_RP
    have RO := n_RO; clear n_RO
    have o6 := n_o6; clear n_o6
    rename_i K0 hK0
    refine AnyX.start (S := (fun w' => w'.cell? ⟨w2.heap.size, 0, none⟩ = some (.int .i64 y2.trail) ∧ w'.cell? ⟨w2.heap.size, 1, none⟩ = some (.int .i64 y2.size) ∧ w'.cell? ⟨w2.heap.size, 2, none⟩ = some (.slice a6 (y2.items.length + 1) c6))) (X := (fun _ => false)) (by kernel_rfl) ?_
    have al : Below w8.heap.size w8 w8.drew := belowDrewN (Below.refl _ _) 1
    have hs_w9 := al.size
    replace R0 := R0.below al
    replace RZ := RZ.below al
    replace RP := RP.below al
    replace RO := RO.below al
    replace o6 := o6.below al
    replace hB := tr hB al (Nat.le_refl _)
    generalize w8.drew = w9 at *
    clear al
    have hS : (fun w' => w'.cell? ⟨w2.heap.size, 0, none⟩ = some (.int .i64 y2.trail) ∧ w'.cell? ⟨w2.heap.size, 1, none⟩ = some (.int .i64 y2.size) ∧ w'.cell? ⟨w2.heap.size, 2, none⟩ = some (.slice a6 (y2.items.length + 1) c6)) w9 := ⟨RO.cells 0, RO.cells 1, RO.cells 2⟩
    refine AnyX.take (i := 0) (oi := _) (v := ?_) (by rw [List.getElem?_toArray]; rfl) (by kernel_rfl) (by kernel_rfl) (by kernel_rfl) (by kernel_rfl) (by kernel_rfl) (by exact fun _ _ _ h => h) (Or.inl ⟨by rfl, ?_⟩) hS ?_
    rotate_left
    · (intro wS hSw; (try dsimp only at hSw); go_simp; try with_reducible rfl)
    try simp only [Act.put, List.setIfInBounds_toArray, List.set_cons_zero, List.set_cons_succ]
    refine AnyX.take (i := 1) (oi := _) (v := ?_) (by rw [List.getElem?_toArray]; rfl) (by kernel_rfl) (by kernel_rfl) (by kernel_rfl) (by kernel_rfl) (by kernel_rfl) (by exact fun _ _ _ h => h) (Or.inl ⟨by rfl, ?_⟩) hS ?_
    rotate_left
    · (intro wS hSw; (try dsimp only at hSw); go_simp; try with_reducible rfl)
    try simp only [Act.put, List.setIfInBounds_toArray, List.set_cons_zero, List.set_cons_succ]
    refine AnyX.take (i := 2) (oi := _) (v := ?_) (by rw [List.getElem?_toArray]; rfl) (by kernel_rfl) (by kernel_rfl) (by kernel_rfl) (by kernel_rfl) (by kernel_rfl) (by exact fun _ _ _ h => h) (Or.inl ⟨by rfl, ?_⟩) hS ?_
    rotate_left
    · (intro wS hSw; (try dsimp only at hSw); go_simp; try with_reducible rfl)
    try simp only [Act.put, List.setIfInBounds_toArray, List.set_cons_zero, List.set_cons_succ]
    refine AnyX.take (i := 3) (oi := _) (v := ?_) (by rw [List.getElem?_toArray]; rfl) (by kernel_rfl) (by kernel_rfl) (by kernel_rfl) (by kernel_rfl) (by kernel_rfl) (by exact fun _ _ _ h => h) (Or.inl ⟨by rfl, ?_⟩) hS ?_
    rotate_left
    · (intro wS hSw; (try dsimp only at hSw); go_simp; try with_reducible rfl)
    try simp only [Act.put, List.setIfInBounds_toArray, List.set_cons_zero, List.set_cons_succ]
    refine AnyX.take (i := 4) (oi := _) (v := ?_) (by rw [List.getElem?_toArray]; rfl) (by kernel_rfl) (by kernel_rfl) (by kernel_rfl) (by kernel_rfl) (by kernel_rfl) (by exact fun _ _ _ h => h) (Or.inl ⟨by rfl, ?_⟩) hS ?_
    rotate_left
    · (intro wS hSw; (try dsimp only at hSw); go_simp; try with_reducible rfl)
    try simp only [Act.put, List.setIfInBounds_toArray, List.set_cons_zero, List.set_cons_succ]
    refine AnyX.take (i := 6) (oi := _) (v := ?_) (by rw [List.getElem?_toArray]; rfl) (by kernel_rfl) (by kernel_rfl) (by kernel_rfl) (by kernel_rfl) (by kernel_rfl) (by exact fun _ _ _ h => h) (Or.inl ⟨by rfl, ?_⟩) hS ?_
    rotate_left
    · (intro wS hSw; (try dsimp only at hSw); go_simp; try with_reducible rfl)
    try simp only [Act.put, List.setIfInBounds_toArray, List.set_cons_zero, List.set_cons_succ]
    refine AnyX.only (i := 5) (o := _) (by kernel_rfl) (by rw [List.getElem?_toArray]; rfl) (fun K hK => ?_)
    go_simp
    go_at_call 113
    refine (l9Lead_c y2.trail y2.size a6 (y2.items.length + 1) c6 _ hyt0 hyt1 (by omega)).mono ?_
    rintro e w10_ ⟨rfl, hb⟩
    have hs_w10_ := hb.size
    replace R0 := R0.below hb
    replace RZ := RZ.below hb
    replace RP := RP.below hb
    replace RO := RO.below hb
    replace o6 := o6.below hb
    replace hB := tr hB hb (Nat.le_refl _)
    clear hb
    clear hS
    have hS : (fun w' => w'.cell? ⟨w2.heap.size, 0, none⟩ = some (.int .i64 y2.trail) ∧ w'.cell? ⟨w2.heap.size, 1, none⟩ = some (.int .i64 y2.size) ∧ w'.cell? ⟨w2.heap.size, 2, none⟩ = some (.slice a6 (y2.items.length + 1) c6)) w10_ := ⟨RO.cells 0, RO.cells 1, RO.cells 2⟩
    refine hK.out _ _ (fun _ => hS) ?_
    clear hK K
    try simp only [Act.put, List.setIfInBounds_toArray, List.set_cons_zero, List.set_cons_succ]
    refine AnyX.take (i := 7) (oi := _) (v := ?_) (by rw [List.getElem?_toArray]; rfl) (by kernel_rfl) (by kernel_rfl) (by kernel_rfl) (by kernel_rfl) (by kernel_rfl) (by exact fun _ _ _ h => h) (Or.inl ⟨by rfl, ?_⟩) hS ?_
    rotate_left
    · (intro wS hSw; (try dsimp only at hSw); go_simp; try with_reducible rfl)
    try simp only [Act.put, List.setIfInBounds_toArray, List.set_cons_zero, List.set_cons_succ]
    refine AnyX.only (i := 8) (o := _) (by kernel_rfl) (by rw [List.getElem?_toArray]; rfl) (fun K hK => ?_)
    have c_R0 := R0.cells; have f_R0 := R0.frozens
    have c_RZ := RZ.cells; have f_RZ := RZ.frozens
    have c_RP := RP.cells; have f_RP := RP.frozens
    have c_RO := RO.cells; have f_RO := RO.frozens
    go_simp
    clear c_R0 f_R0 c_RZ f_RZ c_RP f_RP c_RO f_RO
    have n_R0 := R0.keep (show (((w10_.setCell ⟨w.heap.size + 1, 0, none⟩ (.int .i64 y2.trail)).setCell ⟨w.heap.size + 1, 1, none⟩ (.int .i64 y2.size)).setCell ⟨w.heap.size + 1, 2, none⟩ (.slice a6 (y2.items.length + 1) c6)).heap[_]? = _ from by repeat rw [Below.heap_setCell _ _ _ _ (by simp <;> omega)])
    have n_RP := RP.keep (show (((w10_.setCell ⟨w.heap.size + 1, 0, none⟩ (.int .i64 y2.trail)).setCell ⟨w.heap.size + 1, 1, none⟩ (.int .i64 y2.size)).setCell ⟨w.heap.size + 1, 2, none⟩ (.slice a6 (y2.items.length + 1) c6)).heap[_]? = _ from by repeat rw [Below.heap_setCell _ _ _ _ (by simp <;> omega)])
    have n_RO := RO.keep (show (((w10_.setCell ⟨w.heap.size + 1, 0, none⟩ (.int .i64 y2.trail)).setCell ⟨w.heap.size + 1, 1, none⟩ (.int .i64 y2.size)).setCell ⟨w.heap.size + 1, 2, none⟩ (.slice a6 (y2.items.length + 1) c6)).heap[_]? = _ from by repeat rw [Below.heap_setCell _ _ _ _ (by simp <;> omega)])
    have n_RZ : Row (((w10_.setCell ⟨w.heap.size + 1, 0, none⟩ (.int .i64 y2.trail)).setCell ⟨w.heap.size + 1, 1, none⟩ (.int .i64 y2.size)).setCell ⟨w.heap.size + 1, 2, none⟩ (.slice a6 (y2.items.length + 1) c6)) (w.heap.size + 1) 26 [.int .i64 y2.trail, .int .i64 y2.size, .slice a6 (y2.items.length + 1) c6] := by simpa using (((RZ.set 0 (.int .i64 y2.trail)).set 1 (.int .i64 y2.size)).set 2 (.slice a6 (y2.items.length + 1) c6))
    have n_o6 := o6.frame (w' := (((w10_.setCell ⟨w.heap.size + 1, 0, none⟩ (.int .i64 y2.trail)).setCell ⟨w.heap.size + 1, 1, none⟩ (.int .i64 y2.size)).setCell ⟨w.heap.size + 1, 2, none⟩ (.slice a6 (y2.items.length + 1) c6))) fun b hb => by
      have h6 := g6 b hb
      repeat rw [Below.heap_setCell _ _ _ _ (by simp <;> omega)]
    have n_hB : Below w.heap.size w (((w10_.setCell ⟨w.heap.size + 1, 0, none⟩ (.int .i64 y2.trail)).setCell ⟨w.heap.size + 1, 1, none⟩ (.int .i64 y2.size)).setCell ⟨w.heap.size + 1, 2, none⟩ (.slice a6 (y2.items.length + 1) c6)) := by
      repeat refine Below.setCell ?_ (by simp <;> omega) _
      exact hB
    clear hB R0 RZ RP RO o6
    have hs_w11 : w10_.heap.size ≤ (((w10_.setCell ⟨w.heap.size + 1, 0, none⟩ (.int .i64 y2.trail)).setCell ⟨w.heap.size + 1, 1, none⟩ (.int .i64 y2.size)).setCell ⟨w.heap.size + 1, 2, none⟩ (.slice a6 (y2.items.length + 1) c6)).heap.size := by simp
    generalize (((w10_.setCell ⟨w.heap.size + 1, 0, none⟩ (.int .i64 y2.trail)).setCell ⟨w.heap.size + 1, 1, none⟩ (.int .i64 y2.size)).setCell ⟨w.heap.size + 1, 2, none⟩ (.slice a6 (y2.items.length + 1) c6)) = w11 at *
    have hB := n_hB; clear n_hB
    have R0 := n_R0; clear n_R0
    have RZ := n_RZ; clear n_RZ
    have RP := n_RP; clear n_RP
    have RO := n_RO; clear n_RO
    have o6 := n_o6; clear n_o6
    clear hS
    have hS : (fun w' => w'.cell? ⟨w2.heap.size, 0, none⟩ = some (.int .i64 y2.trail) ∧ w'.cell? ⟨w2.heap.size, 1, none⟩ = some (.int .i64 y2.size) ∧ w'.cell? ⟨w2.heap.size, 2, none⟩ = some (.slice a6 (y2.items.length + 1) c6)) w11 := ⟨RO.cells 0, RO.cells 1, RO.cells 2⟩
    refine hK.out _ _ (fun _ => hS) ?_
    clear hK K
    try simp only [Act.put, List.setIfInBounds_toArray, List.set_cons_zero, List.set_cons_succ]
    refine AnyX.only (i := 9) (o := _) (by kernel_rfl) (by rw [List.getElem?_toArray]; rfl) (fun K hK => ?_)
    have c_R0 := R0.cells; have f_R0 := R0.frozens
    have c_RZ := RZ.cells; have f_RZ := RZ.frozens
    have c_RP := RP.cells; have f_RP := RP.frozens
    have c_RO := RO.cells; have f_RO := RO.frozens
    go_simp
    clear c_R0 f_R0 c_RZ f_RZ c_RP f_RP c_RO f_RO
    have n_R0 := R0.keep (show (((((w11.setCell ⟨w.heap.size + 1 + 1, 0, none⟩ (.int .i64 1)).setCell ⟨w.heap.size + 1 + 1, 1, none⟩ (.int .i64 (aft x0.trail x0.items.length))).setCell ⟨w.heap.size + 1 + 1, 2, none⟩ (.int .i64 y2.trail)).setCell ⟨w.heap.size + 1 + 1, 3, none⟩ (.int .i64 (aft y2.trail ((y2.items.length : Int) + 1)))).setCell ⟨w.heap.size + 1 + 1, 4, none⟩ (.string s)).heap[_]? = _ from by repeat rw [Below.heap_setCell _ _ _ _ (by simp <;> omega)])
    have n_RZ := RZ.keep (show (((((w11.setCell ⟨w.heap.size + 1 + 1, 0, none⟩ (.int .i64 1)).setCell ⟨w.heap.size + 1 + 1, 1, none⟩ (.int .i64 (aft x0.trail x0.items.length))).setCell ⟨w.heap.size + 1 + 1, 2, none⟩ (.int .i64 y2.trail)).setCell ⟨w.heap.size + 1 + 1, 3, none⟩ (.int .i64 (aft y2.trail ((y2.items.length : Int) + 1)))).setCell ⟨w.heap.size + 1 + 1, 4, none⟩ (.string s)).heap[_]? = _ from by repeat rw [Below.heap_setCell _ _ _ _ (by simp <;> omega)])
    have n_RO := RO.keep (show (((((w11.setCell ⟨w.heap.size + 1 + 1, 0, none⟩ (.int .i64 1)).setCell ⟨w.heap.size + 1 + 1, 1, none⟩ (.int .i64 (aft x0.trail x0.items.length))).setCell ⟨w.heap.size + 1 + 1, 2, none⟩ (.int .i64 y2.trail)).setCell ⟨w.heap.size + 1 + 1, 3, none⟩ (.int .i64 (aft y2.trail ((y2.items.length : Int) + 1)))).setCell ⟨w.heap.size + 1 + 1, 4, none⟩ (.string s)).heap[_]? = _ from by repeat rw [Below.heap_setCell _ _ _ _ (by simp <;> omega)])
    have n_RP : Row (((((w11.setCell ⟨w.heap.size + 1 + 1, 0, none⟩ (.int .i64 1)).setCell ⟨w.heap.size + 1 + 1, 1, none⟩ (.int .i64 (aft x0.trail x0.items.length))).setCell ⟨w.heap.size + 1 + 1, 2, none⟩ (.int .i64 y2.trail)).setCell ⟨w.heap.size + 1 + 1, 3, none⟩ (.int .i64 (aft y2.trail ((y2.items.length : Int) + 1)))).setCell ⟨w.heap.size + 1 + 1, 4, none⟩ (.string s)) (w.heap.size + 1 + 1) 30 [.int .i64 1, .int .i64 (aft x0.trail x0.items.length), .int .i64 y2.trail, .int .i64 (aft y2.trail ((y2.items.length : Int) + 1)), .string s] := by simpa using (((((RP.set 0 (.int .i64 1)).set 1 (.int .i64 (aft x0.trail x0.items.length))).set 2 (.int .i64 y2.trail)).set 3 (.int .i64 (aft y2.trail ((y2.items.length : Int) + 1)))).set 4 (.string s))
    have n_o6 := o6.frame (w' := (((((w11.setCell ⟨w.heap.size + 1 + 1, 0, none⟩ (.int .i64 1)).setCell ⟨w.heap.size + 1 + 1, 1, none⟩ (.int .i64 (aft x0.trail x0.items.length))).setCell ⟨w.heap.size + 1 + 1, 2, none⟩ (.int .i64 y2.trail)).setCell ⟨w.heap.size + 1 + 1, 3, none⟩ (.int .i64 (aft y2.trail ((y2.items.length : Int) + 1)))).setCell ⟨w.heap.size + 1 + 1, 4, none⟩ (.string s))) fun b hb => by
      have h6 := g6 b hb
      repeat rw [Below.heap_setCell _ _ _ _ (by simp <;> omega)]
    have n_hB : Below w.heap.size w (((((w11.setCell ⟨w.heap.size + 1 + 1, 0, none⟩ (.int .i64 1)).setCell ⟨w.heap.size + 1 + 1, 1, none⟩ (.int .i64 (aft x0.trail x0.items.length))).setCell ⟨w.heap.size + 1 + 1, 2, none⟩ (.int .i64 y2.trail)).setCell ⟨w.heap.size + 1 + 1, 3, none⟩ (.int .i64 (aft y2.trail ((y2.items.length : Int) + 1)))).setCell ⟨w.heap.size + 1 + 1, 4, none⟩ (.string s)) := by
      repeat refine Below.setCell ?_ (by simp <;> omega) _
      exact hB
    clear hB R0 RZ RP RO o6
    have hs_w12 : w11.heap.size ≤ (((((w11.setCell ⟨w.heap.size + 1 + 1, 0, none⟩ (.int .i64 1)).setCell ⟨w.heap.size + 1 + 1, 1, none⟩ (.int .i64 (aft x0.trail x0.items.length))).setCell ⟨w.heap.size + 1 + 1, 2, none⟩ (.int .i64 y2.trail)).setCell ⟨w.heap.size + 1 + 1, 3, none⟩ (.int .i64 (aft y2.trail ((y2.items.length : Int) + 1)))).setCell ⟨w.heap.size + 1 + 1, 4, none⟩ (.string s)).heap.size := by simp
    generalize (((((w11.setCell ⟨w.heap.size + 1 + 1, 0, none⟩ (.int .i64 1)).setCell ⟨w.heap.size + 1 + 1, 1, none⟩ (.int .i64 (aft x0.trail x0.items.length))).setCell ⟨w.heap.size + 1 + 1, 2, none⟩ (.int .i64 y2.trail)).setCell ⟨w.heap.size + 1 + 1, 3, none⟩ (.int .i64 (aft y2.trail ((y2.items.length : Int) + 1)))).setCell ⟨w.heap.size + 1 + 1, 4, none⟩ (.string s)) = w12 at *
    have hB := n_hB; clear n_hB
    have R0 := n_R0; clear n_R0
    have RZ := n_RZ; clear n_RZ
    have RP := n_RP; clear n_RP
    have RO := n_RO; clear n_RO
    have o6 := n_o6; clear n_o6
    clear hS
    have hS : (fun w' => w'.cell? ⟨w2.heap.size, 0, none⟩ = some (.int .i64 y2.trail) ∧ w'.cell? ⟨w2.heap.size, 1, none⟩ = some (.int .i64 y2.size) ∧ w'.cell? ⟨w2.heap.size, 2, none⟩ = some (.slice a6 (y2.items.length + 1) c6)) w12 := ⟨RO.cells 0, RO.cells 1, RO.cells 2⟩
    refine hK.out _ _ (fun _ => hS) ?_
    clear hK K
    try simp only [Act.put, List.setIfInBounds_toArray, List.set_cons_zero, List.set_cons_succ]
    refine AnyX.done (by kernel_rfl) ?_ _
    (try clear hS)
    refine hK0 _ _ ?_
    clear hK0 K0
    obtain ⟨F7, hF7, s7⟩ := o6.sl (Weak.refl _)
    clear o6
    replace s7 := Lib.hid s7
    have c_R0 := R0.cells; have f_R0 := R0.frozens
    have c_RZ := RZ.cells; have f_RZ := RZ.frozens
    have c_RP := RP.cells; have f_RP := RP.frozens
    have c_RO := RO.cells; have f_RO := RO.frozens
    go_wp2_with fail
    refine bodyPost_ret (v := .tuple #[.agg #[.int .i64 y2.trail, .int .i64 y2.size, .slice a6 (y2.items.length + 1) c6], .agg #[.int .i64 1, .int .i64 (aft x0.trail x0.items.length), .int .i64 y2.trail, .int .i64 (aft y2.trail ((y2.items.length : Int) + 1)), .string s]]) ?_ rfl ?_
    · simp [results, Tryd.results100, go_sem, c_RZ, f_RZ, c_RP, f_RP]
    · have hry2 := hry.out
      have hyz2 := hyz.out
      rw [show pushedW x0 s = ⟨y2.trail, y2.size, y2.items ++ [s]⟩ from by unfold pushedW; rw [hry2, hyz2]]
      refine ⟨_, F7, by unfold pushedP; rw [hry2], ⟨_, rfl, _, rfl, s7.out⟩, fun b hb => by have := g6 b (hF7 b hb); omega, hB⟩
  · have c_R0 := R0.cells; have f_R0 := R0.frozens; have d_R0 := fun o => (R0.alloc o).cells; have e_R0 := fun o => (R0.alloc o).frozens
    have c_RZ := RZ.cells; have f_RZ := RZ.frozens; have d_RZ := fun o => (RZ.alloc o).cells; have e_RZ := fun o => (RZ.alloc o).frozens
    have c_RP := RP.cells; have f_RP := RP.frozens; have d_RP := fun o => (RP.alloc o).cells; have e_RP := fun o => (RP.alloc o).frozens
    go_wp2_with fail
    clear c_R0 f_R0 d_R0 e_R0 c_RZ f_RZ d_RZ e_RZ c_RP f_RP d_RP e_RP
    have al : Below w2.heap.size w2 (w2.alloc (.cells #[.int .i64 y.trail, .int .i64 y.size, .slice a5 y.items.length c5] 26)) := by
      repeat refine Below.alloc ?_ (by simp <;> omega) _
      exact Below.refl _ _
    have n_RO := Row.made w2 26 [.int .i64 y.trail, .int .i64 y.size, .slice a5 y.items.length c5]
    have hs_w13 : w2.heap.size < (w2.alloc (.cells #[.int .i64 y.trail, .int .i64 y.size, .slice a5 y.items.length c5] 26)).heap.size := by simp
    replace R0 := R0.below al
    replace RZ := RZ.below al
    replace RP := RP.below al
    replace A0 := A0.below al
    replace o5 := o5.below al
    replace hB := tr hB al (Nat.le_refl _)
    generalize (w2.alloc (.cells #[.int .i64 y.trail, .int .i64 y.size, .slice a5 y.items.length c5] 26)) = w13 at *
    have RO := n_RO; clear n_RO
    clear al
    clear A0
    have hyx : y = x0 := by rw [hy_y.out]; show (⟨aft x0.trail 0, x0.size, x0.items⟩ : SendWindow) = x0; rw [aft_zero t0 t1]
    have hry : roomed x0 = y := by unfold roomed; rw [if_neg hf, hyx]
    replace hry := Lib.hid hry
    have hyt0 : 0 ≤ y.trail := by rw [hyx]; exact t0
    have hyt1 : y.trail ≤ 65535 := by rw [hyx]; exact t1
    have hyl : y.items.length ≤ 6 := by rw [hyx]; exact hl
    have hyz : y.size = x0.size := by rw [hyx]
    replace hyz := Lib.hid hyz
    have hnum : aft y.trail y.items.length = aft x0.trail x0.items.length := by rw [hyx]
    replace hnum := Lib.hid hnum
    clear hyx hy_y hf
    have hsP := RP.lt
    have hne : ∀ b ∈ F5, b ≠ w2.heap.size := fun b hb => by have := l5 b hb; omega
    have g5 : ∀ b ∈ F5, w.heap.size + 2 < b := fun b hb => by have := g5 b hb; omega
    refine (l9Lead_c y.trail y.size a5 y.items.length c5 _ hyt0 hyt1 (by omega)).mono ?_
    rintro e w14_ ⟨rfl, hb⟩
    have hs_w14_ := hb.size
    replace R0 := R0.below hb
    replace RZ := RZ.below hb
    replace RP := RP.below hb
    replace RO := RO.below hb
    replace o5 := o5.below hb
    replace hB := tr hB hb (Nat.le_refl _)
    clear hb
    rw [hnum.out]
    have lR := RO.lt
    have c_R0 := R0.cells; have f_R0 := R0.frozens; have d_R0 := fun o => (R0.alloc o).cells; have e_R0 := fun o => (R0.alloc o).frozens
    have c_RZ := RZ.cells; have f_RZ := RZ.frozens; have d_RZ := fun o => (RZ.alloc o).cells; have e_RZ := fun o => (RZ.alloc o).frozens
    have c_RP := RP.cells; have f_RP := RP.frozens; have d_RP := fun o => (RP.alloc o).cells; have e_RP := fun o => (RP.alloc o).frozens
    have c_RO := RO.cells; have f_RO := RO.frozens; have d_RO := fun o => (RO.alloc o).cells; have e_RO := fun o => (RO.alloc o).frozens
    go_wp2_with (at_builtin; refine wpList_apd one_EStr (by decide) (by rfl) _ _ _ (by rfl) 9 (.string ⟨#[]⟩) 16 Tryd.underlying24 info_string rfl (.slice a5 y.items.length c5) y.items F5 (by rfl) (o5.below ((Below.refl _ _).alloc (Nat.le_refl _) _)) (Hd.of n5) (some ⟨w14_.heap.size, 0, none⟩) [s] 1 (by rfl) [.string s] [] (str_flat (xs := [s]) _ (by simpa using hs)) (.inr ⟨_, rfl, one_src _ _ _⟩) (by simp) (by simp; unfold maxLen; omega) (by simp; omega) ?_)
    clear c_R0 f_R0 d_R0 e_R0 c_RZ f_RZ d_RZ e_RZ c_RP f_RP d_RP e_RP c_RO f_RO d_RO e_RO
    intro v6 w15 F6 hA
    have o6 := hA.ow
    have m6 := hA.mem
    have K6 := hA.keep
    have hs_w15 := K6.size
    obtain ⟨a6, c6, rfl⟩ := o6.slice
    clear hA
    replace R0 := (R0.alloc (.cells #[.string s] 9)).keepK K6 (fun hm => by have h1 := g5 _ hm; omega)
    replace RZ := (RZ.alloc (.cells #[.string s] 9)).keepK K6 (fun hm => by have h1 := g5 _ hm; omega)
    replace RP := (RP.alloc (.cells #[.string s] 9)).keepK K6 (fun hm => by have h1 := g5 _ hm; omega)
    replace RO := (RO.alloc (.cells #[.string s] 9)).keepK K6 (fun hm => hne _ hm rfl)
    replace hB := (tr hB ((Below.refl _ _).alloc (Nat.le_refl _) (.cells #[.string s] 9)) (Nat.le_refl _)).trans (K6.below (B := w.heap.size) (by simp; omega) (fun b hm => by have h1 := g5 _ hm; omega))
    have g6 : ∀ b ∈ F6, b ≠ w2.heap.size ∧ w.heap.size + 2 < b := fun b hb => by
      rcases m6 b hb with h1 | h1 | h1
      · exact ⟨(hne b h1), g5 b h1⟩
      · simp at h1
      · simp at h1; omega
    clear K6 m6 o5 g5 hne
    have hlen : (y.items ++ [s]).length = y.items.length + 1 := by simp
    rw [hlen] at o6
    replace o6 := Lib.hid o6
    have c_R0 := R0.cells; have f_R0 := R0.frozens
    have c_RZ := RZ.cells; have f_RZ := RZ.frozens
    have c_RP := RP.cells; have f_RP := RP.frozens
    have c_RO := RO.cells; have f_RO := RO.frozens
    go_wp2_with fail
    clear c_R0 f_R0 c_RZ f_RZ c_RP f_RP c_RO f_RO
    replace o6 := o6.out
    have n_R0 := R0.keep (show (w15.setCell ⟨w2.heap.size, 2, none⟩ (.slice a6 (y.items.length + 1) c6)).heap[_]? = _ from by repeat rw [Below.heap_setCell _ _ _ _ (by simp <;> omega)])
    have n_RZ := RZ.keep (show (w15.setCell ⟨w2.heap.size, 2, none⟩ (.slice a6 (y.items.length + 1) c6)).heap[_]? = _ from by repeat rw [Below.heap_setCell _ _ _ _ (by simp <;> omega)])
    have n_RP := RP.keep (show (w15.setCell ⟨w2.heap.size, 2, none⟩ (.slice a6 (y.items.length + 1) c6)).heap[_]? = _ from by repeat rw [Below.heap_setCell _ _ _ _ (by simp <;> omega)])
    have n_RO : Row (w15.setCell ⟨w2.heap.size, 2, none⟩ (.slice a6 (y.items.length + 1) c6)) (w2.heap.size) 26 [.int .i64 y.trail, .int .i64 y.size, .slice a6 (y.items.length + 1) c6] := by simpa using (RO.set 2 (.slice a6 (y.items.length + 1) c6))
    have n_o6 := o6.frame (w' := (w15.setCell ⟨w2.heap.size, 2, none⟩ (.slice a6 (y.items.length + 1) c6))) fun b hb => by
      have h6 := g6 b hb
      repeat rw [Below.heap_setCell _ _ _ _ (by simp <;> omega)]
    have n_hB : Below w.heap.size w (w15.setCell ⟨w2.heap.size, 2, none⟩ (.slice a6 (y.items.length + 1) c6)) := by
      repeat refine Below.setCell ?_ (by simp <;> omega) _
      exact hB
    clear hB R0 RZ RP RO o6
    have hs_w16 : w15.heap.size ≤ (w15.setCell ⟨w2.heap.size, 2, none⟩ (.slice a6 (y.items.length + 1) c6)).heap.size := by simp
    generalize (w15.setCell ⟨w2.heap.size, 2, none⟩ (.slice a6 (y.items.length + 1) c6)) = w16 at *
    have hB := n_hB; clear n_hB
    have R0 := n_R0; clear n_R0
    have RZ := n_RZ; clear n_RZ
    have RP := n_RP; clear n_RP
    have RO := n_RO; clear n_RO
    have o6 := n_o6; clear n_o6
    rename_i K0 hK0
    refine AnyX.start (S := (fun w' => w'.cell? ⟨w2.heap.size, 0, none⟩ = some (.int .i64 y.trail) ∧ w'.cell? ⟨w2.heap.size, 1, none⟩ = some (.int .i64 y.size) ∧ w'.cell? ⟨w2.heap.size, 2, none⟩ = some (.slice a6 (y.items.length + 1) c6))) (X := (fun _ => false)) (by kernel_rfl) ?_
    have al : Below w16.heap.size w16 w16.drew := belowDrewN (Below.refl _ _) 1
    have hs_w17 := al.size
    replace R0 := R0.below al
    replace RZ := RZ.below al
    replace RP := RP.below al
    replace RO := RO.below al
    replace o6 := o6.below al
    replace hB := tr hB al (Nat.le_refl _)
    generalize w16.drew = w17 at *
    clear al
    have hS : (fun w' => w'.cell? ⟨w2.heap.size, 0, none⟩ = some (.int .i64 y.trail) ∧ w'.cell? ⟨w2.heap.size, 1, none⟩ = some (.int .i64 y.size) ∧ w'.cell? ⟨w2.heap.size, 2, none⟩ = some (.slice a6 (y.items.length + 1) c6)) w17 := ⟨RO.cells 0, RO.cells 1, RO.cells 2⟩
    refine AnyX.take (i := 0) (oi := _) (v := ?_) (by rw [List.getElem?_toArray]; rfl) (by kernel_rfl) (by kernel_rfl) (by kernel_rfl) (by kernel_rfl) (by kernel_rfl) (by exact fun _ _ _ h => h) (Or.inl ⟨by rfl, ?_⟩) hS ?_
    rotate_left
    · (intro wS hSw; (try dsimp only at hSw); go_simp; try with_reducible rfl)
    try simp only [Act.put, List.setIfInBounds_toArray, List.set_cons_zero, List.set_cons_succ]
    refine AnyX.take (i := 1) (oi := _) (v := ?_) (by rw [List.getElem?_toArray]; rfl) (by kernel_rfl) (by kernel_rfl) (by kernel_rfl) (by kernel_rfl) (by kernel_rfl) (by exact fun _ _ _ h => h) (Or.inl ⟨by rfl, ?_⟩) hS ?_
    rotate_left
    · (intro wS hSw; (try dsimp only at hSw); go_simp; try with_reducible rfl)
    try simp only [Act.put, List.setIfInBounds_toArray, List.set_cons_zero, List.set_cons_succ]
    refine AnyX.take (i := 2) (oi := _) (v := ?_) (by rw [List.getElem?_toArray]; rfl) (by kernel_rfl) (by kernel_rfl) (by kernel_rfl) (by kernel_rfl) (by kernel_rfl) (by exact fun _ _ _ h => h) (Or.inl ⟨by rfl, ?_⟩) hS ?_
    rotate_left
    · (intro wS hSw; (try dsimp only at hSw); go_simp; try with_reducible rfl)
    try simp only [Act.put, List.setIfInBounds_toArray, List.set_cons_zero, List.set_cons_succ]
    refine AnyX.take (i := 3) (oi := _) (v := ?_) (by rw [List.getElem?_toArray]; rfl) (by kernel_rfl) (by kernel_rfl) (by kernel_rfl) (by kernel_rfl) (by kernel_rfl) (by exact fun _ _ _ h => h) (Or.inl ⟨by rfl, ?_⟩) hS ?_
    rotate_left
    · (intro wS hSw; (try dsimp only at hSw); go_simp; try with_reducible rfl)
    try simp only [Act.put, List.setIfInBounds_toArray, List.set_cons_zero, List.set_cons_succ]
    refine AnyX.take (i := 4) (oi := _) (v := ?_) (by rw [List.getElem?_toArray]; rfl) (by kernel_rfl) (by kernel_rfl) (by kernel_rfl) (by kernel_rfl) (by kernel_rfl) (by exact fun _ _ _ h => h) (Or.inl ⟨by rfl, ?_⟩) hS ?_
    rotate_left
    · (intro wS hSw; (try dsimp only at hSw); go_simp; try with_reducible rfl)
    try simp only [Act.put, List.setIfInBounds_toArray, List.set_cons_zero, List.set_cons_succ]
    refine AnyX.take (i := 6) (oi := _) (v := ?_) (by rw [List.getElem?_toArray]; rfl) (by kernel_rfl) (by kernel_rfl) (by kernel_rfl) (by kernel_rfl) (by kernel_rfl) (by exact fun _ _ _ h => h) (Or.inl ⟨by rfl, ?_⟩) hS ?_
    rotate_left
    · (intro wS hSw; (try dsimp only at hSw); go_simp; try with_reducible rfl)
    try simp only [Act.put, List.setIfInBounds_toArray, List.set_cons_zero, List.set_cons_succ]
    refine AnyX.only (i := 5) (o := _) (by kernel_rfl) (by rw [List.getElem?_toArray]; rfl) (fun K hK => ?_)
    go_simp
    go_at_call 113
    refine (l9Lead_c y.trail y.size a6 (y.items.length + 1) c6 _ hyt0 hyt1 (by omega)).mono ?_
    rintro e w18_ ⟨rfl, hb⟩
    have hs_w18_ := hb.size
    replace R0 := R0.below hb
    replace RZ := RZ.below hb
    replace RP := RP.below hb
    replace RO := RO.below hb
    replace o6 := o6.below hb
    replace hB := tr hB hb (Nat.le_refl _)
    clear hb
    clear hS
    have hS : (fun w' => w'.cell? ⟨w2.heap.size, 0, none⟩ = some (.int .i64 y.trail) ∧ w'.cell? ⟨w2.heap.size, 1, none⟩ = some (.int .i64 y.size) ∧ w'.cell? ⟨w2.heap.size, 2, none⟩ = some (.slice a6 (y.items.length + 1) c6)) w18_ := ⟨RO.cells 0, RO.cells 1, RO.cells 2⟩
    refine hK.out _ _ (fun _ => hS) ?_
    clear hK K
    try simp only [Act.put, List.setIfInBounds_toArray, List.set_cons_zero, List.set_cons_succ]
    refine AnyX.take (i := 7) (oi := _) (v := ?_) (by rw [List.getElem?_toArray]; rfl) (by kernel_rfl) (by kernel_rfl) (by kernel_rfl) (by kernel_rfl) (by kernel_rfl) (by exact fun _ _ _ h => h) (Or.inl ⟨by rfl, ?_⟩) hS ?_
    rotate_left
    · (intro wS hSw; (try dsimp only at hSw); go_simp; try with_reducible rfl)
    try simp only [Act.put, List.setIfInBounds_toArray, List.set_cons_zero, List.set_cons_succ]
    refine AnyX.only (i := 8) (o := _) (by kernel_rfl) (by rw [List.getElem?_toArray]; rfl) (fun K hK => ?_)
    have c_R0 := R0.cells; have f_R0 := R0.frozens
    have c_RZ := RZ.cells; have f_RZ := RZ.frozens
    have c_RP := RP.cells; have f_RP := RP.frozens
    have c_RO := RO.cells; have f_RO := RO.frozens
    go_simp
    clear c_R0 f_R0 c_RZ f_RZ c_RP f_RP c_RO f_RO
    have n_R0 := R0.keep (show (((w18_.setCell ⟨w.heap.size + 1, 0, none⟩ (.int .i64 y.trail)).setCell ⟨w.heap.size + 1, 1, none⟩ (.int .i64 y.size)).setCell ⟨w.heap.size + 1, 2, none⟩ (.slice a6 (y.items.length + 1) c6)).heap[_]? = _ from by repeat rw [Below.heap_setCell _ _ _ _ (by simp <;> omega)])
    have n_RP := RP.keep (show (((w18_.setCell ⟨w.heap.size + 1, 0, none⟩ (.int .i64 y.trail)).setCell ⟨w.heap.size + 1, 1, none⟩ (.int .i64 y.size)).setCell ⟨w.heap.size + 1, 2, none⟩ (.slice a6 (y.items.length + 1) c6)).heap[_]? = _ from by repeat rw [Below.heap_setCell _ _ _ _ (by simp <;> omega)])
    have n_RO := RO.keep (show (((w18_.setCell ⟨w.heap.size + 1, 0, none⟩ (.int .i64 y.trail)).setCell ⟨w.heap.size + 1, 1, none⟩ (.int .i64 y.size)).setCell ⟨w.heap.size + 1, 2, none⟩ (.slice a6 (y.items.length + 1) c6)).heap[_]? = _ from by repeat rw [Below.heap_setCell _ _ _ _ (by simp <;> omega)])
    have n_RZ : Row (((w18_.setCell ⟨w.heap.size + 1, 0, none⟩ (.int .i64 y.trail)).setCell ⟨w.heap.size + 1, 1, none⟩ (.int .i64 y.size)).setCell ⟨w.heap.size + 1, 2, none⟩ (.slice a6 (y.items.length + 1) c6)) (w.heap.size + 1) 26 [.int .i64 y.trail, .int .i64 y.size, .slice a6 (y.items.length + 1) c6] := by simpa using (((RZ.set 0 (.int .i64 y.trail)).set 1 (.int .i64 y.size)).set 2 (.slice a6 (y.items.length + 1) c6))
    have n_o6 := o6.frame (w' := (((w18_.setCell ⟨w.heap.size + 1, 0, none⟩ (.int .i64 y.trail)).setCell ⟨w.heap.size + 1, 1, none⟩ (.int .i64 y.size)).setCell ⟨w.heap.size + 1, 2, none⟩ (.slice a6 (y.items.length + 1) c6))) fun b hb => by
      have h6 := g6 b hb
      repeat rw [Below.heap_setCell _ _ _ _ (by simp <;> omega)]
    have n_hB : Below w.heap.size w (((w18_.setCell ⟨w.heap.size + 1, 0, none⟩ (.int .i64 y.trail)).setCell ⟨w.heap.size + 1, 1, none⟩ (.int .i64 y.size)).setCell ⟨w.heap.size + 1, 2, none⟩ (.slice a6 (y.items.length + 1) c6)) := by
      repeat refine Below.setCell ?_ (by simp <;> omega) _
      exact hB
    clear hB R0 RZ RP RO o6
    have hs_w19 : w18_.heap.size ≤ (((w18_.setCell ⟨w.heap.size + 1, 0, none⟩ (.int .i64 y.trail)).setCell ⟨w.heap.size + 1, 1, none⟩ (.int .i64 y.size)).setCell ⟨w.heap.size + 1, 2, none⟩ (.slice a6 (y.items.length + 1) c6)).heap.size := by simp
    generalize (((w18_.setCell ⟨w.heap.size + 1, 0, none⟩ (.int .i64 y.trail)).setCell ⟨w.heap.size + 1, 1, none⟩ (.int .i64 y.size)).setCell ⟨w.heap.size + 1, 2, none⟩ (.slice a6 (y.items.length + 1) c6)) = w19 at *
    have hB := n_hB; clear n_hB
    have R0 := n_R0; clear n_R0
    have RZ := n_RZ; clear n_RZ
    have RP := n_RP; clear n_RP
    have RO := n_RO; clear n_RO
    have o6 := n_o6; clear n_o6
    clear hS
    have hS : (fun w' => w'.cell? ⟨w2.heap.size, 0, none⟩ = some (.int .i64 y.trail) ∧ w'.cell? ⟨w2.heap.size, 1, none⟩ = some (.int .i64 y.size) ∧ w'.cell? ⟨w2.heap.size, 2, none⟩ = some (.slice a6 (y.items.length + 1) c6)) w19 := ⟨RO.cells 0, RO.cells 1, RO.cells 2⟩
    refine hK.out _ _ (fun _ => hS) ?_
    clear hK K
    try simp only [Act.put, List.setIfInBounds_toArray, List.set_cons_zero, List.set_cons_succ]
    refine AnyX.only (i := 9) (o := _) (by kernel_rfl) (by rw [List.getElem?_toArray]; rfl) (fun K hK => ?_)
    have c_R0 := R0.cells; have f_R0 := R0.frozens
    have c_RZ := RZ.cells; have f_RZ := RZ.frozens
    have c_RP := RP.cells; have f_RP := RP.frozens
    have c_RO := RO.cells; have f_RO := RO.frozens
    go_simp
    clear c_R0 f_R0 c_RZ f_RZ c_RP f_RP c_RO f_RO
    have n_R0 := R0.keep (show (((((w19.setCell ⟨w.heap.size + 1 + 1, 0, none⟩ (.int .i64 1)).setCell ⟨w.heap.size + 1 + 1, 1, none⟩ (.int .i64 (aft x0.trail x0.items.length))).setCell ⟨w.heap.size + 1 + 1, 2, none⟩ (.int .i64 y.trail)).setCell ⟨w.heap.size + 1 + 1, 3, none⟩ (.int .i64 (aft y.trail ((y.items.length : Int) + 1)))).setCell ⟨w.heap.size + 1 + 1, 4, none⟩ (.string s)).heap[_]? = _ from by repeat rw [Below.heap_setCell _ _ _ _ (by simp <;> omega)])
    have n_RZ := RZ.keep (show (((((w19.setCell ⟨w.heap.size + 1 + 1, 0, none⟩ (.int .i64 1)).setCell ⟨w.heap.size + 1 + 1, 1, none⟩ (.int .i64 (aft x0.trail x0.items.length))).setCell ⟨w.heap.size + 1 + 1, 2, none⟩ (.int .i64 y.trail)).setCell ⟨w.heap.size + 1 + 1, 3, none⟩ (.int .i64 (aft y.trail ((y.items.length : Int) + 1)))).setCell ⟨w.heap.size + 1 + 1, 4, none⟩ (.string s)).heap[_]? = _ from by repeat rw [Below.heap_setCell _ _ _ _ (by simp <;> omega)])
    have n_RO := RO.keep (show (((((w19.setCell ⟨w.heap.size + 1 + 1, 0, none⟩ (.int .i64 1)).setCell ⟨w.heap.size + 1 + 1, 1, none⟩ (.int .i64 (aft x0.trail x0.items.length))).setCell ⟨w.heap.size + 1 + 1, 2, none⟩ (.int .i64 y.trail)).setCell ⟨w.heap.size + 1 + 1, 3, none⟩ (.int .i64 (aft y.trail ((y.items.length : Int) + 1)))).setCell ⟨w.heap.size + 1 + 1, 4, none⟩ (.string s)).heap[_]? = _ from by repeat rw [Below.heap_setCell _ _ _ _ (by simp <;> omega)])
    have n_RP : Row (((((w19.setCell ⟨w.heap.size + 1 + 1, 0, none⟩ (.int .i64 1)).setCell ⟨w.heap.size + 1 + 1, 1, none⟩ (.int .i64 (aft x0.trail x0.items.length))).setCell ⟨w.heap.size + 1 + 1, 2, none⟩ (.int .i64 y.trail)).setCell ⟨w.heap.size + 1 + 1, 3, none⟩ (.int .i64 (aft y.trail ((y.items.length : Int) + 1)))).setCell ⟨w.heap.size + 1 + 1, 4, none⟩ (.string s)) (w.heap.size + 1 + 1) 30 [.int .i64 1, .int .i64 (aft x0.trail x0.items.length), .int .i64 y.trail, .int .i64 (aft y.trail ((y.items.length : Int) + 1)), .string s] := by simpa using (((((RP.set 0 (.int .i64 1)).set 1 (.int .i64 (aft x0.trail x0.items.length))).set 2 (.int .i64 y.trail)).set 3 (.int .i64 (aft y.trail ((y.items.length : Int) + 1)))).set 4 (.string s))
    have n_o6 := o6.frame (w' := (((((w19.setCell ⟨w.heap.size + 1 + 1, 0, none⟩ (.int .i64 1)).setCell ⟨w.heap.size + 1 + 1, 1, none⟩ (.int .i64 (aft x0.trail x0.items.length))).setCell ⟨w.heap.size + 1 + 1, 2, none⟩ (.int .i64 y.trail)).setCell ⟨w.heap.size + 1 + 1, 3, none⟩ (.int .i64 (aft y.trail ((y.items.length : Int) + 1)))).setCell ⟨w.heap.size + 1 + 1, 4, none⟩ (.string s))) fun b hb => by
      have h6 := g6 b hb
      repeat rw [Below.heap_setCell _ _ _ _ (by simp <;> omega)]
    have n_hB : Below w.heap.size w (((((w19.setCell ⟨w.heap.size + 1 + 1, 0, none⟩ (.int .i64 1)).setCell ⟨w.heap.size + 1 + 1, 1, none⟩ (.int .i64 (aft x0.trail x0.items.length))).setCell ⟨w.heap.size + 1 + 1, 2, none⟩ (.int .i64 y.trail)).setCell ⟨w.heap.size + 1 + 1, 3, none⟩ (.int .i64 (aft y.trail ((y.items.length : Int) + 1)))).setCell ⟨w.heap.size + 1 + 1, 4, none⟩ (.string s)) := by
      repeat refine Below.setCell ?_ (by simp <;> omega) _
      exact hB
    clear hB R0 RZ RP RO o6
    have hs_w20 : w19.heap.size ≤ (((((w19.setCell ⟨w.heap.size + 1 + 1, 0, none⟩ (.int .i64 1)).setCell ⟨w.heap.size + 1 + 1, 1, none⟩ (.int .i64 (aft x0.trail x0.items.length))).setCell ⟨w.heap.size + 1 + 1, 2, none⟩ (.int .i64 y.trail)).setCell ⟨w.heap.size + 1 + 1, 3, none⟩ (.int .i64 (aft y.trail ((y.items.length : Int) + 1)))).setCell ⟨w.heap.size + 1 + 1, 4, none⟩ (.string s)).heap.size := by simp
    generalize (((((w19.setCell ⟨w.heap.size + 1 + 1, 0, none⟩ (.int .i64 1)).setCell ⟨w.heap.size + 1 + 1, 1, none⟩ (.int .i64 (aft x0.trail x0.items.length))).setCell ⟨w.heap.size + 1 + 1, 2, none⟩ (.int .i64 y.trail)).setCell ⟨w.heap.size + 1 + 1, 3, none⟩ (.int .i64 (aft y.trail ((y.items.length : Int) + 1)))).setCell ⟨w.heap.size + 1 + 1, 4, none⟩ (.string s)) = w20 at *
    have hB := n_hB; clear n_hB
    have R0 := n_R0; clear n_R0
    have RZ := n_RZ; clear n_RZ
    have RP := n_RP; clear n_RP
    have RO := n_RO; clear n_RO
    have o6 := n_o6; clear n_o6
    clear hS
    have hS : (fun w' => w'.cell? ⟨w2.heap.size, 0, none⟩ = some (.int .i64 y.trail) ∧ w'.cell? ⟨w2.heap.size, 1, none⟩ = some (.int .i64 y.size) ∧ w'.cell? ⟨w2.heap.size, 2, none⟩ = some (.slice a6 (y.items.length + 1) c6)) w20 := ⟨RO.cells 0, RO.cells 1, RO.cells 2⟩
    refine hK.out _ _ (fun _ => hS) ?_
    clear hK K
    try simp only [Act.put, List.setIfInBounds_toArray, List.set_cons_zero, List.set_cons_succ]
    refine AnyX.done (by kernel_rfl) ?_ _
    (try clear hS)
    refine hK0 _ _ ?_
    clear hK0 K0
    obtain ⟨F7, hF7, s7⟩ := o6.sl (Weak.refl _)
    clear o6
    replace s7 := Lib.hid s7
    have c_R0 := R0.cells; have f_R0 := R0.frozens
    have c_RZ := RZ.cells; have f_RZ := RZ.frozens
    have c_RP := RP.cells; have f_RP := RP.frozens
    have c_RO := RO.cells; have f_RO := RO.frozens
    go_wp2_with fail
    refine bodyPost_ret (v := .tuple #[.agg #[.int .i64 y.trail, .int .i64 y.size, .slice a6 (y.items.length + 1) c6], .agg #[.int .i64 1, .int .i64 (aft x0.trail x0.items.length), .int .i64 y.trail, .int .i64 (aft y.trail ((y.items.length : Int) + 1)), .string s]]) ?_ rfl ?_
    · simp [results, Tryd.results100, go_sem, c_RZ, f_RZ, c_RP, f_RP]
    · have hry2 := hry.out
      have hyz2 := hyz.out
      rw [show pushedW x0 s = ⟨y.trail, y.size, y.items ++ [s]⟩ from by unfold pushedW; rw [hry2, hyz2]]
      refine ⟨_, F7, by unfold pushedP; rw [hry2], ⟨_, rfl, _, rfl, s7.out⟩, fun b hb => by have := g6 b (hF7 b hb); omega, hB⟩
end Go.Proofs.YtidephmobajikaaDoor
/- Sources: SendFrom of the program. -/
namespace Go.Proofs.YtidephmobajikaaDoor
open Go.RowKit
structure PuS where
  a : Option Addr
  c : Nat
  F : List Nat
theorem roomed_bd {x : SendWindow} (t0 : 0 ≤ x.trail) (t1 : x.trail ≤ 65535) : 0 ≤ (roomed x).trail ∧ (roomed x).trail ≤ 65535 := by
  unfold roomed
  split
  · exact aft_bd _ _
  · exact ⟨t0, t1⟩
end Go.Proofs.YtidephmobajikaaDoor
/- Walks: ResizeWindow, the program's and the reference's. -/
namespace Go.Proofs.YtidephmobajikaaDoor
open Go.RowKit
end Go.Proofs.YtidephmobajikaaDoor
/- Send windows: what is pushed, held, answered, dropped; plain laws. -/
namespace Go.Proofs.YtidephmobajikaaDoor
open Go.RowKit
def leadW (x : SendWindow) : Int := aft x.trail x.items.length
def itemAt (x : SendWindow) (n : Int) : ByteArray := x.items.getD (gp x.trail n).toNat ⟨#[]⟩
def resLead (x : SendWindow) : Int × Bool := if goodWin x then (leadW x, true) else (0, false)
def okHeld (x : SendWindow) (n : Int) : Bool := goodWin x && isSer n && heldB x n
def resHeld (x : SendWindow) (n : Int) : ByteArray × Bool := if okHeld x n then (itemAt x n, true) else (⟨#[]⟩, false)
def spanL (t : Int) (k : Nat) : List Int := (List.range k).map fun i => aft t (i : Nat)
def resSerials (x : SendWindow) : List Int × Bool := if goodWin x then (spanL x.trail x.items.length, true) else ([], false)
theorem leadW_bd (x : SendWindow) : 0 ≤ leadW x ∧ leadW x ≤ 65535 := aft_bd _ _
theorem roomed_lead {x : SendWindow} (h1 : 1 ≤ x.size) : leadW (roomed x) = leadW x := by
  unfold roomed
  split
  · rename_i h
    unfold leadW
    simp only [List.length_drop]
    unfold aft
    omega
  · rfl
theorem pushed_law {x : SendWindow} {s : ByteArray} (h : okPushItem x s = true) : goodWin x = true ∧ goodWin (pushedW x s) = true ∧ okHeld (pushedW x s) (pushedP x s).number = true ∧ itemAt (pushedW x s) (pushedP x s).number = s ∧ (pushedP x s).number = leadW x ∧ gp (leadW x) (leadW (pushedW x s)) = 1 ∧ (pushedP x s).lead = leadW (pushedW x s) ∧ (pushedP x s).trail = (pushedW x s).trail := by
  unfold okPushItem at h
  simp only [Bool.and_eq_true] at h
  obtain ⟨hg, hs⟩ := h
  obtain ⟨⟨t0, t1⟩, ⟨z0, z1⟩, hl, hi⟩ := goodWin_iff.1 hg
  have hr : 0 ≤ (roomed x).trail ∧ (roomed x).trail ≤ 65535 := roomed_bd t0 t1
  have hn : ((roomed x).items.length : Int) + 1 ≤ x.size ∧ (roomed x).items.all itm = true := by
    unfold roomed
    split
    · rename_i h
      refine ⟨by simp only [List.length_drop]; omega, ?_⟩
      rw [List.all_eq_true] at hi ⊢
      exact fun z hz => hi z (List.mem_of_mem_drop hz)
    · exact ⟨by omega, hi⟩
  have hlead := roomed_lead (x := x) z0
  have hgo : goodWin (pushedW x s) = true := by
    refine goodWin_iff.2 ⟨hr, ⟨z0, z1⟩, ?_, ?_⟩
    · show (((roomed x).items ++ [s]).length : Int) ≤ x.size
      simp only [List.length_append, List.length_cons, List.length_nil]; omega
    · show ((roomed x).items ++ [s]).all itm = true
      simp [hn.2, hs]
  have hnum : (pushedP x s).number = leadW x := rfl
  have hgap : gp (pushedW x s).trail (leadW x) = ((roomed x).items.length : Nat) := by
    rw [← hlead]
    show gp (roomed x).trail (leadW (roomed x)) = _
    unfold leadW gp aft
    omega
  have b := leadW_bd x
  refine ⟨hg, hgo, ?_, ?_, rfl, ?_, ?_, rfl⟩
  · unfold okHeld
    rw [hgo, hnum, isSer_iff.2 b, heldB, hgap]
    show decide (((roomed x).items.length : Int) < (((roomed x).items ++ [s]).length : Nat)) = true
    simp only [List.length_append, List.length_cons, List.length_nil, decide_eq_true_eq]
    omega
  · unfold itemAt
    rw [hnum, hgap]
    show ((roomed x).items ++ [s]).getD _ _ = s
    simp
  · rw [← hlead]
    show gp (leadW (roomed x)) (aft (roomed x).trail (((roomed x).items ++ [s]).length : Nat)) = 1
    unfold leadW gp aft
    simp only [List.length_append, List.length_cons, List.length_nil]
    omega
  · show aft (roomed x).trail (((roomed x).items.length : Nat) + 1) = aft (roomed x).trail ((((roomed x).items ++ [s]).length : Nat))
    simp
theorem spanL_mem {x : SendWindow} (hg : goodWin x = true) (n : Int) : (spanL x.trail x.items.length).contains n = (isSer n && heldB x n) := by
  obtain ⟨⟨t0, t1⟩, ⟨z0, z1⟩, hl, -⟩ := goodWin_iff.1 hg
  rw [Bool.eq_iff_iff]
  simp only [List.contains_iff_mem, Bool.and_eq_true, spanL, List.mem_map, List.mem_range, heldB, decide_eq_true_eq]
  constructor
  · rintro ⟨i, hi, rfl⟩
    refine ⟨isSer_iff.2 (aft_bd _ _), ?_⟩
    have : gp x.trail (aft x.trail (i : Nat)) = i := by unfold gp aft; omega
    omega
  · rintro ⟨h1, h2⟩
    obtain ⟨n0, n1⟩ := isSer_iff.1 h1
    have b := gp_bd x.trail n
    refine ⟨(gp x.trail n).toNat, by omega, ?_⟩
    have : (((gp x.trail n).toNat : Nat) : Int) = gp x.trail n := by omega
    rw [this]
    unfold aft gp
    omega
end Go.Proofs.YtidephmobajikaaDoor
/- Structs of type Packet in a walk's state: opened, closed. -/
namespace Go.Proofs.YtidephmobajikaaDoor
open Go.RowKit
section
variable {c : Cx} {fr : Fr} {H : List Pc} {Φ : Gl}
end
end Go.Proofs.YtidephmobajikaaDoor
/- Sources: TickSource of the program. -/
namespace Go.Proofs.YtidephmobajikaaDoor
open Go.RowKit
structure TiS where
  a : Option Addr
  c : Nat
  a2 : Option Addr
  c2 : Nat
  F : List Nat
  ae : Option Addr
  ce : Nat
  Fe : List Nat
end Go.Proofs.YtidephmobajikaaDoor
/- Sources: TickSource of the reference. -/
namespace Go.Proofs.YtidephmobajikaaDoor
open Go.RowKit
end Go.Proofs.YtidephmobajikaaDoor
/- '[]byte' of a string, a byte stored, and back. -/
namespace Go.Proofs.YtidephmobajikaaDoor
open Go.RowKit
/-- a byte aS data -/
def EByte : Elem Int where
  sz := 1
  rep _ cs z F := cs = [.int .u8 z] ∧ 0 ≤ z ∧ z ≤ 255 ∧ F = []
  len h := by simp [h.1]
  lt h := by simp [h.2.2.2]
  frame h _ := h
/-- the bytes of l lie in block g -/
def ByteRow (w : World) (g : Nat) (l : List UInt8) : Prop :=
  g < w.heap.size ∧ ∀ j (hj : j < l.length), w.cell? ⟨g, j, none⟩ = some (.int .u8 (l[j].toNat : Int)) ∧ w.frozen? ⟨g, j, none⟩ = false
theorem ByteRow.below {w w' g l} (h : ByteRow w g l) (hb : Below w.heap.size w w') : ByteRow w' g l :=
  ⟨Nat.lt_of_lt_of_le h.1 hb.size, fun j hj => ⟨(hb.cell (p := ⟨g, j, none⟩) h.1).trans (h.2 j hj).1, (hb.frozen (p := ⟨g, j, none⟩) h.1).trans (h.2 j hj).2⟩⟩
theorem ByteRow.set {w g l} (h : ByteRow w g l) (k : Nat) (b : UInt8) (hk : k < l.length) : ByteRow (w.setCell ⟨g, k, none⟩ (.int .u8 (b.toNat : Int))) g (l.set k b) := by
  refine ⟨by simp [h.1], fun j hj => ?_⟩
  rw [List.length_set] at hj
  refine ⟨?_, ?_⟩
  · by_cases e : k = j
    · subst e
      rw [World.cell?_setCell_same _ _ _ (h.2 k hk).1]
      simp
    · rw [World.cell?_setCell_other _ _ _ _ (by intro q; cases q; exact e rfl), (h.2 j hj).1]
      simp [List.getElem_set, e]
  · rw [World.frozen?_setCell]; exact (h.2 j hj).2
end Go.Proofs.YtidephmobajikaaDoor
/- Walks: the reference's draws: a cursor over bytes. -/
namespace Go.Proofs.YtidephmobajikaaDoor
open Go.RowKit
section
variable {P : Program} {ops : Array Oper} {Q : Exit → Act → World → Prop} {md : Region.Mode} {S : World → Prop} {X : Nat → Bool}
end
theorem Sl.byte {w v} {xs : List Int} {F} (h : Sl EByte w v xs F) : xs.length ≤ maxLen ∧ ∀ k (hk : k < xs.length), (0 ≤ xs[k] ∧ xs[k] ≤ 255) ∧ ∃ b off, v = .slice (some ⟨b, off, none⟩) xs.length (match v with | .slice _ _ c => c | _ => 0) ∧ b ∈ F ∧ w.cell? ⟨b, off + k, none⟩ = some (.int .u8 xs[k]) := by
  obtain ⟨a, cap, rfl, hl, ⟨rfl, rfl, _⟩ | ⟨b, off, F', rfl, hne, rfl, hc⟩⟩ := h
  · exact ⟨by simp, fun k hk => by simp at hk⟩
  · refine ⟨by omega, fun k hk => ?_⟩
    obtain ⟨cs, F1, ⟨rfl, h0, h1, rfl⟩, hcell, _⟩ := hc.get k hk
    refine ⟨⟨h0, h1⟩, b, off, rfl, by simp, ?_⟩
    simpa [EByte] using hcell 0 (by decide)
/-- the bytes that a cursor reads -/
structure CuF where
  code : List Int
  a : Option Addr
  c : Nat
  bs : List Nat
/-- the cursor lies in block g; its bytes in F, below it; it has moved at most B steps -/
def Cur (B : Nat) (w : World) (g : Nat) (F : CuF) : Prop :=
  ∃ (k : Nat) (seed : Int), Row w g 121 [.slice F.a F.code.length F.c, .int .i64 k, .int .u64 seed] ∧ Sl EByte w (.slice F.a F.code.length F.c) F.code F.bs ∧ g ∉ F.bs ∧ k ≤ B ∧ 0 ≤ seed ∧ seed < 18446744073709551616
theorem Cur.keep {B w w' g F K} (h : Cur B w g F) (hk : Keep K w w') (h1 : g ∉ K) (h2 : ∀ b ∈ F.bs, b ∉ K) : Cur B w' g F := by
  obtain ⟨k, seed, R, S, hF, h3⟩ := h
  exact ⟨k, seed, R.keepK hk h1, S.keep hk h2 (by decide), hF, h3⟩
theorem Cur.below {B w w' g F} (h : Cur B w g F) (hb : Below w.heap.size w w') : Cur B w' g F := by
  obtain ⟨k, seed, R, S, hF, h3⟩ := h
  exact ⟨k, seed, R.below hb, S.below (by decide) hb, hF, h3⟩
theorem Cur.mono {B B' w g F} (h : Cur B w g F) (hb : B ≤ B') : Cur B' w g F := by
  obtain ⟨k, seed, R, S, hF, h3, h4⟩ := h
  exact ⟨k, seed, R, S, hF, by omega, h4⟩
theorem Cur.lt {B w g F} (h : Cur B w g F) : g < w.heap.size := by
  obtain ⟨k, seed, R, _⟩ := h; exact R.lt
def PNext (B g : Nat) (F : CuF) (w : World) (e : Ending) (w' : World) : Prop := ∃ r : Nat, e = .returned (.int .i64 r) ∧ r ≤ 255 ∧ Cur (B + 1) w' g F ∧ Keep [g] w w'
set_option maxHeartbeats 3200000 in
set_option maxRecDepth 100000 in
theorem next_c (B g : Nat) (F : CuF) (w : World) (h : Cur B w g F) (hB0 : B ≤ 1099511627776) :
    Calls Tryd.prog 196 #[.pointer (some ⟨g, 0, none⟩)] w (PNext B g F w) := by
  obtain ⟨code, a, c, F⟩ := F
  obtain ⟨k, seed, R, S, hF, h2, h3, h4⟩ := h
  dsimp only at R S hF
  have hl := S.byte.1
  unfold maxLen at hl
  have hlt := S.lt (by decide)
  by_cases hk : k < code.length
  · obtain ⟨⟨hz0, hz1⟩, b, off, hv, hbF, hcell⟩ := S.byte.2 k hk
    simp only [Value.slice.injEq] at hv
    obtain ⟨rfl, -, -⟩ := hv
    generalize code[k] = z at *
    have hbg : b ≠ g := fun e => hF (e ▸ hbF)
    have hcl := fun w' (hb : Below w.heap.size w w') => kc hb hcell
    replace hcl := Lib.hid hcl
    clear hcell
    have hB := Below.refl w.heap.size w
    go_enter Tryd.func196, Tryd.ntmps196
    go_wp2_with fail
    refine AnyX.start (S := (fun w' => w'.cell? ⟨g, 0, none⟩ = some (.slice (some ⟨b, off, none⟩) code.length c) ∧ w'.cell? ⟨g, 1, none⟩ = some (.int .i64 k) ∧ w'.cell? ⟨g, 2, none⟩ = some (.int .u64 seed) ∧ w'.cell? ⟨b, off + k, none⟩ = some (.int .u8 z))) (X := (fun _ => false)) (by kernel_rfl) ?_
    have al : Below w.heap.size w w.drew := belowDrewN (Below.refl _ _) 1
    have hs_w1 := al.size
    replace R := R.below al
    replace S := S.below (by decide) al
    replace hB := tr hB al (Nat.le_refl _)
    generalize w.drew = w1 at *
    clear al
    have hS : (fun w' => w'.cell? ⟨g, 0, none⟩ = some (.slice (some ⟨b, off, none⟩) code.length c) ∧ w'.cell? ⟨g, 1, none⟩ = some (.int .i64 k) ∧ w'.cell? ⟨g, 2, none⟩ = some (.int .u64 seed) ∧ w'.cell? ⟨b, off + k, none⟩ = some (.int .u8 z)) w1 := ⟨R.cells 0, R.cells 1, R.cells 2, hcl.out _ hB⟩
    refine AnyX.take (i := 0) (oi := _) (v := ?_) (by rw [List.getElem?_toArray]; rfl) (by kernel_rfl) (by kernel_rfl) (by kernel_rfl) (by kernel_rfl) (by kernel_rfl) (by exact fun _ _ _ h => h) (Or.inl ⟨by rfl, ?_⟩) hS ?_
    rotate_left
    · (intro wS hSw; (try dsimp only at hSw); go_simp; try with_reducible rfl)
    try simp only [Act.put, List.setIfInBounds_toArray, List.set_cons_zero, List.set_cons_succ]
    refine AnyX.take (i := 1) (oi := _) (v := ?_) (by rw [List.getElem?_toArray]; rfl) (by kernel_rfl) (by kernel_rfl) (by kernel_rfl) (by kernel_rfl) (by kernel_rfl) (by exact fun _ _ _ h => h) (Or.inl ⟨by rfl, ?_⟩) hS ?_
    rotate_left
    · (intro wS hSw; (try dsimp only at hSw); go_simp; try with_reducible rfl)
    try simp only [Act.put, List.setIfInBounds_toArray, List.set_cons_zero, List.set_cons_succ]
    refine AnyX.take (i := 2) (oi := _) (v := ?_) (by rw [List.getElem?_toArray]; rfl) (by kernel_rfl) (by kernel_rfl) (by kernel_rfl) (by kernel_rfl) (by kernel_rfl) (by exact fun _ _ _ h => h) (Or.inl ⟨by rfl, ?_⟩) hS ?_
    rotate_left
    · (intro wS hSw; (try dsimp only at hSw); go_simp; try with_reducible rfl)
    try simp only [Act.put, List.setIfInBounds_toArray, List.set_cons_zero, List.set_cons_succ]
    refine AnyX.take (i := 3) (oi := _) (v := ?_) (by rw [List.getElem?_toArray]; rfl) (by kernel_rfl) (by kernel_rfl) (by kernel_rfl) (by kernel_rfl) (by kernel_rfl) (by exact fun _ _ _ h => h) (Or.inl ⟨by rfl, ?_⟩) hS ?_
    rotate_left
    · (intro wS hSw; (try dsimp only at hSw); go_simp; try with_reducible rfl)
    try simp only [Act.put, List.setIfInBounds_toArray, List.set_cons_zero, List.set_cons_succ]
    refine AnyX.take (i := 4) (oi := _) (v := ?_) (by rw [List.getElem?_toArray]; rfl) (by kernel_rfl) (by kernel_rfl) (by kernel_rfl) (by kernel_rfl) (by kernel_rfl) (by exact fun _ _ _ h => h) (Or.inl ⟨by rfl, ?_⟩) hS ?_
    rotate_left
    · (intro wS hSw; (try dsimp only at hSw); go_simp; try with_reducible rfl)
    try simp only [Act.put, List.setIfInBounds_toArray, List.set_cons_zero, List.set_cons_succ]
    refine AnyX.take (i := 5) (oi := _) (v := ?_) (by rw [List.getElem?_toArray]; rfl) (by kernel_rfl) (by kernel_rfl) (by kernel_rfl) (by kernel_rfl) (by kernel_rfl) (by exact fun _ _ _ h => h) (Or.inl ⟨by rfl, ?_⟩) hS ?_
    rotate_left
    · (intro wS hSw; (try dsimp only at hSw); go_simp; try with_reducible rfl)
    try simp only [Act.put, List.setIfInBounds_toArray, List.set_cons_zero, List.set_cons_succ]
    refine AnyX.take (i := 6) (oi := _) (v := ?_) (by rw [List.getElem?_toArray]; rfl) (by kernel_rfl) (by kernel_rfl) (by kernel_rfl) (by kernel_rfl) (by kernel_rfl) (by exact fun _ _ _ h => h) (Or.inl ⟨by rfl, ?_⟩) hS ?_
    rotate_left
    · (intro wS hSw; (try dsimp only at hSw); go_simp; try with_reducible rfl)
    try simp only [Act.put, List.setIfInBounds_toArray, List.set_cons_zero, List.set_cons_succ]
    refine AnyX.take (i := 7) (oi := _) (v := ?_) (by rw [List.getElem?_toArray]; rfl) (by kernel_rfl) (by kernel_rfl) (by kernel_rfl) (by kernel_rfl) (by kernel_rfl) (by exact fun _ _ _ h => h) (Or.inl ⟨by rfl, ?_⟩) hS ?_
    rotate_left
    · (intro wS hSw; (try dsimp only at hSw); go_simp; try with_reducible rfl)
    try simp only [Act.put, List.setIfInBounds_toArray, List.set_cons_zero, List.set_cons_succ]
    refine AnyX.take (i := 8) (oi := _) (v := ?_) (by rw [List.getElem?_toArray]; rfl) (by kernel_rfl) (by kernel_rfl) (by kernel_rfl) (by kernel_rfl) (by kernel_rfl) (by exact fun _ _ _ h => h) (Or.inl ⟨by rfl, ?_⟩) hS ?_
    rotate_left
    · (intro wS hSw; (try dsimp only at hSw); go_simp; try with_reducible rfl)
    try simp only [Act.put, List.setIfInBounds_toArray, List.set_cons_zero, List.set_cons_succ]
    refine AnyX.take (i := 9) (oi := _) (v := ?_) (by rw [List.getElem?_toArray]; rfl) (by kernel_rfl) (by kernel_rfl) (by kernel_rfl) (by kernel_rfl) (by kernel_rfl) (by exact fun _ _ _ h => h) (Or.inl ⟨by rfl, ?_⟩) hS ?_
    rotate_left
    · (intro wS hSw; (try dsimp only at hSw); go_simp; try with_reducible rfl)
    try simp only [Act.put, List.setIfInBounds_toArray, List.set_cons_zero, List.set_cons_succ]
    refine AnyX.done (by kernel_rfl) ?_ _
    (try clear hS)
    have c_R := R.cells; have f_R := R.frozens
    go_wp2_with fail
    clear c_R f_R
    rename_i K0 hK0
    refine AnyX.start (S := (fun w' => w'.cell? ⟨g, 0, none⟩ = some (.slice (some ⟨b, off, none⟩) code.length c) ∧ w'.cell? ⟨g, 1, none⟩ = some (.int .i64 k) ∧ w'.cell? ⟨g, 2, none⟩ = some (.int .u64 seed) ∧ w'.cell? ⟨b, off + k, none⟩ = some (.int .u8 z))) (X := (fun _ => false)) (by kernel_rfl) ?_
    have al : Below w1.heap.size w1 w1.drew := belowDrewN (Below.refl _ _) 1
    have hs_w2 := al.size
    replace R := R.below al
    replace S := S.below (by decide) al
    replace hB := tr hB al (Nat.le_refl _)
    generalize w1.drew = w2 at *
    clear al
    have hS : (fun w' => w'.cell? ⟨g, 0, none⟩ = some (.slice (some ⟨b, off, none⟩) code.length c) ∧ w'.cell? ⟨g, 1, none⟩ = some (.int .i64 k) ∧ w'.cell? ⟨g, 2, none⟩ = some (.int .u64 seed) ∧ w'.cell? ⟨b, off + k, none⟩ = some (.int .u8 z)) w2 := ⟨R.cells 0, R.cells 1, R.cells 2, hcl.out _ hB⟩
    refine AnyX.take (i := 0) (oi := _) (v := ?_) (by rw [List.getElem?_toArray]; rfl) (by kernel_rfl) (by kernel_rfl) (by kernel_rfl) (by kernel_rfl) (by kernel_rfl) (by exact fun _ _ _ h => h) (Or.inl ⟨by rfl, ?_⟩) hS ?_
    rotate_left
    · (intro wS hSw; (try dsimp only at hSw); go_simp; try with_reducible rfl)
    try simp only [Act.put, List.setIfInBounds_toArray, List.set_cons_zero, List.set_cons_succ]
    refine AnyX.take (i := 1) (oi := _) (v := ?_) (by rw [List.getElem?_toArray]; rfl) (by kernel_rfl) (by kernel_rfl) (by kernel_rfl) (by kernel_rfl) (by kernel_rfl) (by exact fun _ _ _ h => h) (Or.inl ⟨by rfl, ?_⟩) hS ?_
    rotate_left
    · (intro wS hSw; (try dsimp only at hSw); go_simp; try with_reducible rfl)
    try simp only [Act.put, List.setIfInBounds_toArray, List.set_cons_zero, List.set_cons_succ]
    refine AnyX.take (i := 2) (oi := _) (v := ?_) (by rw [List.getElem?_toArray]; rfl) (by kernel_rfl) (by kernel_rfl) (by kernel_rfl) (by kernel_rfl) (by kernel_rfl) (by exact fun _ _ _ h => h) (Or.inl ⟨by rfl, ?_⟩) hS ?_
    rotate_left
    · (intro wS hSw; (try dsimp only at hSw); go_simp; try with_reducible rfl)
    try simp only [Act.put, List.setIfInBounds_toArray, List.set_cons_zero, List.set_cons_succ]
    refine AnyX.take (i := 3) (oi := _) (v := ?_) (by rw [List.getElem?_toArray]; rfl) (by kernel_rfl) (by kernel_rfl) (by kernel_rfl) (by kernel_rfl) (by kernel_rfl) (by exact fun _ _ _ h => h) (Or.inl ⟨by rfl, ?_⟩) hS ?_
    rotate_left
    · (intro wS hSw; (try dsimp only at hSw); go_simp; try with_reducible rfl)
    try simp only [Act.put, List.setIfInBounds_toArray, List.set_cons_zero, List.set_cons_succ]
    refine AnyX.take (i := 4) (oi := _) (v := ?_) (by rw [List.getElem?_toArray]; rfl) (by kernel_rfl) (by kernel_rfl) (by kernel_rfl) (by kernel_rfl) (by kernel_rfl) (by exact fun _ _ _ h => h) (Or.inl ⟨by rfl, ?_⟩) hS ?_
    rotate_left
    · (intro wS hSw; (try dsimp only at hSw); go_simp; try with_reducible rfl)
    try simp only [Act.put, List.setIfInBounds_toArray, List.set_cons_zero, List.set_cons_succ]
    refine AnyX.take (i := 5) (oi := _) (v := ?_) (by rw [List.getElem?_toArray]; rfl) (by kernel_rfl) (by kernel_rfl) (by kernel_rfl) (by kernel_rfl) (by kernel_rfl) (by exact fun _ _ _ h => h) (Or.inl ⟨by rfl, ?_⟩) hS ?_
    rotate_left
    · (intro wS hSw; (try dsimp only at hSw); go_simp; try with_reducible rfl)
    try simp only [Act.put, List.setIfInBounds_toArray, List.set_cons_zero, List.set_cons_succ]
    refine AnyX.take (i := 6) (oi := _) (v := ?_) (by rw [List.getElem?_toArray]; rfl) (by kernel_rfl) (by kernel_rfl) (by kernel_rfl) (by kernel_rfl) (by kernel_rfl) (by exact fun _ _ _ h => h) (Or.inl ⟨by rfl, ?_⟩) hS ?_
    rotate_left
    · (intro wS hSw; (try dsimp only at hSw); go_simp; try with_reducible rfl)
    try simp only [Act.put, List.setIfInBounds_toArray, List.set_cons_zero, List.set_cons_succ]
    refine AnyX.take (i := 7) (oi := _) (v := ?_) (by rw [List.getElem?_toArray]; rfl) (by kernel_rfl) (by kernel_rfl) (by kernel_rfl) (by kernel_rfl) (by kernel_rfl) (by exact fun _ _ _ h => h) (Or.inl ⟨by rfl, ?_⟩) hS ?_
    rotate_left
    · (intro wS hSw; (try dsimp only at hSw); go_simp; try with_reducible rfl)
    try simp only [Act.put, List.setIfInBounds_toArray, List.set_cons_zero, List.set_cons_succ]
    refine AnyX.take (i := 8) (oi := _) (v := ?_) (by rw [List.getElem?_toArray]; rfl) (by kernel_rfl) (by kernel_rfl) (by kernel_rfl) (by kernel_rfl) (by kernel_rfl) (by exact fun _ _ _ h => h) (Or.inl ⟨by rfl, ?_⟩) hS ?_
    rotate_left
    · (intro wS hSw; (try dsimp only at hSw); go_simp; try with_reducible rfl)
    try simp only [Act.put, List.setIfInBounds_toArray, List.set_cons_zero, List.set_cons_succ]
    refine AnyX.take (i := 9) (oi := _) (v := ?_) (by rw [List.getElem?_toArray]; rfl) (by kernel_rfl) (by kernel_rfl) (by kernel_rfl) (by kernel_rfl) (by kernel_rfl) (by exact fun _ _ _ h => h) (Or.inl ⟨by rfl, ?_⟩) hS ?_
    rotate_left
    · (intro wS hSw; (try dsimp only at hSw); go_simp; try with_reducible rfl)
    try simp only [Act.put, List.setIfInBounds_toArray, List.set_cons_zero, List.set_cons_succ]
    refine AnyX.take (i := 10) (oi := _) (v := ?_) (by rw [List.getElem?_toArray]; rfl) (by kernel_rfl) (by kernel_rfl) (by kernel_rfl) (by kernel_rfl) (by kernel_rfl) (by exact fun _ _ _ h => h) (Or.inl ⟨by rfl, ?_⟩) hS ?_
    rotate_left
    · (intro wS hSw; (try dsimp only at hSw); go_simp; try with_reducible rfl)
    try simp only [Act.put, List.setIfInBounds_toArray, List.set_cons_zero, List.set_cons_succ]
    refine AnyX.only (i := 11) (o := _) (by kernel_rfl) (by rw [List.getElem?_toArray]; rfl) (fun K hK => ?_)
    try go_simp
    clear hS
    have hS : (fun w' => w'.cell? ⟨g, 0, none⟩ = some (.slice (some ⟨b, off, none⟩) code.length c) ∧ w'.cell? ⟨g, 1, none⟩ = some (.int .i64 k) ∧ w'.cell? ⟨g, 2, none⟩ = some (.int .u64 seed) ∧ w'.cell? ⟨b, off + k, none⟩ = some (.int .u8 z)) w2 := ⟨R.cells 0, R.cells 1, R.cells 2, hcl.out _ hB⟩
    refine hK.out _ _ (fun _ => hS) ?_
    clear hK K
    try simp only [Act.put, List.setIfInBounds_toArray, List.set_cons_zero, List.set_cons_succ]
    refine AnyX.done (by kernel_rfl) ?_ _
    (try clear hS)
    refine hK0 _ _ ?_
    clear hK0 K0
    have c_R := R.cells; have f_R := R.frozens
    go_wp2_with fail
    clear c_R f_R
    have n_K : Keep [g] w ((w2.setCell ⟨g, 1, none⟩ (.int .i64 ((k : Int) + 1))).setCell ⟨g, 2, none⟩ (.int .u64 (IntKind.u64.wrap (IntKind.u64.wrap (IntKind.u64.wrap (seed * 6364136223846793005) + z) + 840840)))) := ((Keep.ofBelow hB).setCell (p := ⟨g, 1, none⟩) (by simp) _).setCell (p := ⟨g, 2, none⟩) (by simp) _
    have n_R : Row ((w2.setCell ⟨g, 1, none⟩ (.int .i64 ((k : Int) + 1))).setCell ⟨g, 2, none⟩ (.int .u64 (IntKind.u64.wrap (IntKind.u64.wrap (IntKind.u64.wrap (seed * 6364136223846793005) + z) + 840840)))) g 121 [.slice (some ⟨b, off, none⟩) code.length c, .int .i64 ((k + 1 : Nat) : Int), .int .u64 (IntKind.u64.wrap (IntKind.u64.wrap (IntKind.u64.wrap (seed * 6364136223846793005) + z) + 840840))] := by simpa using ((R.set 1 (.int .i64 ((k : Int) + 1))).set 2 (.int .u64 (IntKind.u64.wrap (IntKind.u64.wrap (IntKind.u64.wrap (seed * 6364136223846793005) + z) + 840840))))
    have n_S : Sl EByte ((w2.setCell ⟨g, 1, none⟩ (.int .i64 ((k : Int) + 1))).setCell ⟨g, 2, none⟩ (.int .u64 (IntKind.u64.wrap (IntKind.u64.wrap (IntKind.u64.wrap (seed * 6364136223846793005) + z) + 840840)))) (Value.slice (some ⟨b, off, none⟩) code.length c) code F := S.frame (fun b hb => by have : b ≠ g := fun e => hF (e ▸ hb); repeat rw [Below.heap_setCell _ _ _ _ (by simp <;> omega)])
    have hs0 : 0 ≤ (IntKind.u64.wrap (IntKind.u64.wrap (IntKind.u64.wrap (seed * 6364136223846793005) + z) + 840840)) ∧ (IntKind.u64.wrap (IntKind.u64.wrap (IntKind.u64.wrap (seed * 6364136223846793005) + z) + 840840)) < 18446744073709551616 := by rw [IntKind.wrap_u64]; omega
    clear R S hB
    generalize (IntKind.u64.wrap (IntKind.u64.wrap (IntKind.u64.wrap (seed * 6364136223846793005) + z) + 840840)) = sd at *
    obtain ⟨hs0, hs1⟩ := hs0
    generalize ((w2.setCell ⟨g, 1, none⟩ (.int .i64 ((k : Int) + 1))).setCell ⟨g, 2, none⟩ (.int .u64 sd)) = w3 at *
    have R := n_R; clear n_R
    have S := n_S; clear n_S
    rename_i K0 hK0
    refine AnyX.start (S := (fun w' => w'.cell? ⟨g, 0, none⟩ = some (.slice (some ⟨b, off, none⟩) code.length c) ∧ w'.cell? ⟨g, 1, none⟩ = some (.int .i64 ((k + 1 : Nat) : Int)) ∧ w'.cell? ⟨g, 2, none⟩ = some (.int .u64 sd))) (X := (fun _ => false)) (by kernel_rfl) ?_
    have al : Below w3.heap.size w3 w3.drew := belowDrewN (Below.refl _ _) 1
    have hs_w4 := al.size
    replace R := R.below al
    replace S := S.below (by decide) al
    have hB := al
    generalize w3.drew = w4 at *
    clear al
    have hS : (fun w' => w'.cell? ⟨g, 0, none⟩ = some (.slice (some ⟨b, off, none⟩) code.length c) ∧ w'.cell? ⟨g, 1, none⟩ = some (.int .i64 ((k + 1 : Nat) : Int)) ∧ w'.cell? ⟨g, 2, none⟩ = some (.int .u64 sd)) w4 := ⟨R.cells 0, R.cells 1, R.cells 2⟩
    refine AnyX.take (i := 0) (oi := _) (v := ?_) (by rw [List.getElem?_toArray]; rfl) (by kernel_rfl) (by kernel_rfl) (by kernel_rfl) (by kernel_rfl) (by kernel_rfl) (by exact fun _ _ _ h => h) (Or.inl ⟨by rfl, ?_⟩) hS ?_
    rotate_left
    · (intro wS hSw; (try dsimp only at hSw); go_simp; try with_reducible rfl)
    try simp only [Act.put, List.setIfInBounds_toArray, List.set_cons_zero, List.set_cons_succ]
    refine AnyX.take (i := 1) (oi := _) (v := ?_) (by rw [List.getElem?_toArray]; rfl) (by kernel_rfl) (by kernel_rfl) (by kernel_rfl) (by kernel_rfl) (by kernel_rfl) (by exact fun _ _ _ h => h) (Or.inl ⟨by rfl, ?_⟩) hS ?_
    rotate_left
    · (intro wS hSw; (try dsimp only at hSw); go_simp; try with_reducible rfl)
    try simp only [Act.put, List.setIfInBounds_toArray, List.set_cons_zero, List.set_cons_succ]
    refine AnyX.take (i := 2) (oi := _) (v := ?_) (by rw [List.getElem?_toArray]; rfl) (by kernel_rfl) (by kernel_rfl) (by kernel_rfl) (by kernel_rfl) (by kernel_rfl) (by exact fun _ _ _ h => h) (Or.inl ⟨by rfl, ?_⟩) hS ?_
    rotate_left
    · (intro wS hSw; (try dsimp only at hSw); go_simp; try with_reducible rfl)
    try simp only [Act.put, List.setIfInBounds_toArray, List.set_cons_zero, List.set_cons_succ]
    refine AnyX.take (i := 3) (oi := _) (v := ?_) (by rw [List.getElem?_toArray]; rfl) (by kernel_rfl) (by kernel_rfl) (by kernel_rfl) (by kernel_rfl) (by kernel_rfl) (by exact fun _ _ _ h => h) (Or.inl ⟨by rfl, ?_⟩) hS ?_
    rotate_left
    · (intro wS hSw; (try dsimp only at hSw); go_simp; try with_reducible rfl)
    try simp only [Act.put, List.setIfInBounds_toArray, List.set_cons_zero, List.set_cons_succ]
    refine AnyX.take (i := 4) (oi := _) (v := ?_) (by rw [List.getElem?_toArray]; rfl) (by kernel_rfl) (by kernel_rfl) (by kernel_rfl) (by kernel_rfl) (by kernel_rfl) (by exact fun _ _ _ h => h) (Or.inl ⟨by rfl, ?_⟩) hS ?_
    rotate_left
    · (intro wS hSw; (try dsimp only at hSw); go_simp; try with_reducible rfl)
    try simp only [Act.put, List.setIfInBounds_toArray, List.set_cons_zero, List.set_cons_succ]
    refine AnyX.take (i := 5) (oi := _) (v := ?_) (by rw [List.getElem?_toArray]; rfl) (by kernel_rfl) (by kernel_rfl) (by kernel_rfl) (by kernel_rfl) (by kernel_rfl) (by exact fun _ _ _ h => h) (Or.inl ⟨by rfl, ?_⟩) hS ?_
    rotate_left
    · (intro wS hSw; (try dsimp only at hSw); go_simp; try with_reducible rfl)
    try simp only [Act.put, List.setIfInBounds_toArray, List.set_cons_zero, List.set_cons_succ]
    refine AnyX.take (i := 6) (oi := _) (v := ?_) (by rw [List.getElem?_toArray]; rfl) (by kernel_rfl) (by kernel_rfl) (by kernel_rfl) (by kernel_rfl) (by kernel_rfl) (by exact fun _ _ _ h => h) (Or.inl ⟨by rfl, ?_⟩) hS ?_
    rotate_left
    · (intro wS hSw; (try dsimp only at hSw); go_simp; try with_reducible rfl)
    try simp only [Act.put, List.setIfInBounds_toArray, List.set_cons_zero, List.set_cons_succ]
    refine AnyX.take (i := 7) (oi := _) (v := ?_) (by rw [List.getElem?_toArray]; rfl) (by kernel_rfl) (by kernel_rfl) (by kernel_rfl) (by kernel_rfl) (by kernel_rfl) (by exact fun _ _ _ h => h) (Or.inl ⟨by rfl, ?_⟩) hS ?_
    rotate_left
    · (intro wS hSw; (try dsimp only at hSw); go_simp; try with_reducible rfl)
    try simp only [Act.put, List.setIfInBounds_toArray, List.set_cons_zero, List.set_cons_succ]
    refine AnyX.take (i := 8) (oi := _) (v := ?_) (by rw [List.getElem?_toArray]; rfl) (by kernel_rfl) (by kernel_rfl) (by kernel_rfl) (by kernel_rfl) (by kernel_rfl) (by exact fun _ _ _ h => h) (Or.inl ⟨by rfl, ?_⟩) hS ?_
    rotate_left
    · (intro wS hSw; (try dsimp only at hSw); go_simp; try with_reducible rfl)
    try simp only [Act.put, List.setIfInBounds_toArray, List.set_cons_zero, List.set_cons_succ]
    refine AnyX.take (i := 9) (oi := _) (v := ?_) (by rw [List.getElem?_toArray]; rfl) (by kernel_rfl) (by kernel_rfl) (by kernel_rfl) (by kernel_rfl) (by kernel_rfl) (by exact fun _ _ _ h => h) (Or.inl ⟨by rfl, ?_⟩) hS ?_
    rotate_left
    · (intro wS hSw; (try dsimp only at hSw); go_simp; try with_reducible rfl)
    try simp only [Act.put, List.setIfInBounds_toArray, List.set_cons_zero, List.set_cons_succ]
    refine AnyX.done (by kernel_rfl) ?_ _
    (try clear hS)
    refine hK0 _ _ ?_
    clear hK0 K0
    have n_K2 := n_K.trans (Keep.ofBelow hB)
    have c_R := R.cells; have f_R := R.frozens
    go_wp2_with fail
    refine bodyPost_ret (v := .int .i64 (IntKind.i64.wrap z)) ?_ rfl ?_
    · simp [results, Tryd.results196, go_sem]
    · refine ⟨z.toNat, ?_, by omega, ⟨k + 1, sd, R, S, hF, by omega, hs0, hs1⟩, n_K2⟩
      rw [show IntKind.i64.wrap z = ((z.toNat : Nat) : Int) from by rw [IntKind.wrap_i64]; omega]
  · have hB := Below.refl w.heap.size w
    go_enter Tryd.func196, Tryd.ntmps196
    go_wp2_with fail
    refine AnyX.start (S := (fun w' => w'.cell? ⟨g, 0, none⟩ = some (.slice a code.length c) ∧ w'.cell? ⟨g, 1, none⟩ = some (.int .i64 k) ∧ w'.cell? ⟨g, 2, none⟩ = some (.int .u64 seed))) (X := (fun _ => false)) (by kernel_rfl) ?_
    have al : Below w.heap.size w w.drew := belowDrewN (Below.refl _ _) 1
    have hs_w5 := al.size
    replace R := R.below al
    replace S := S.below (by decide) al
    replace hB := tr hB al (Nat.le_refl _)
    generalize w.drew = w5 at *
    clear al
    have hS : (fun w' => w'.cell? ⟨g, 0, none⟩ = some (.slice a code.length c) ∧ w'.cell? ⟨g, 1, none⟩ = some (.int .i64 k) ∧ w'.cell? ⟨g, 2, none⟩ = some (.int .u64 seed)) w5 := ⟨R.cells 0, R.cells 1, R.cells 2⟩
    refine AnyX.take (i := 0) (oi := _) (v := ?_) (by rw [List.getElem?_toArray]; rfl) (by kernel_rfl) (by kernel_rfl) (by kernel_rfl) (by kernel_rfl) (by kernel_rfl) (by exact fun _ _ _ h => h) (Or.inl ⟨by rfl, ?_⟩) hS ?_
    rotate_left
    · (intro wS hSw; (try dsimp only at hSw); go_simp; try with_reducible rfl)
    try simp only [Act.put, List.setIfInBounds_toArray, List.set_cons_zero, List.set_cons_succ]
    refine AnyX.take (i := 1) (oi := _) (v := ?_) (by rw [List.getElem?_toArray]; rfl) (by kernel_rfl) (by kernel_rfl) (by kernel_rfl) (by kernel_rfl) (by kernel_rfl) (by exact fun _ _ _ h => h) (Or.inl ⟨by rfl, ?_⟩) hS ?_
    rotate_left
    · (intro wS hSw; (try dsimp only at hSw); go_simp; try with_reducible rfl)
    try simp only [Act.put, List.setIfInBounds_toArray, List.set_cons_zero, List.set_cons_succ]
    refine AnyX.take (i := 2) (oi := _) (v := ?_) (by rw [List.getElem?_toArray]; rfl) (by kernel_rfl) (by kernel_rfl) (by kernel_rfl) (by kernel_rfl) (by kernel_rfl) (by exact fun _ _ _ h => h) (Or.inl ⟨by rfl, ?_⟩) hS ?_
    rotate_left
    · (intro wS hSw; (try dsimp only at hSw); go_simp; try with_reducible rfl)
    try simp only [Act.put, List.setIfInBounds_toArray, List.set_cons_zero, List.set_cons_succ]
    refine AnyX.take (i := 3) (oi := _) (v := ?_) (by rw [List.getElem?_toArray]; rfl) (by kernel_rfl) (by kernel_rfl) (by kernel_rfl) (by kernel_rfl) (by kernel_rfl) (by exact fun _ _ _ h => h) (Or.inl ⟨by rfl, ?_⟩) hS ?_
    rotate_left
    · (intro wS hSw; (try dsimp only at hSw); go_simp; try with_reducible rfl)
    try simp only [Act.put, List.setIfInBounds_toArray, List.set_cons_zero, List.set_cons_succ]
    refine AnyX.take (i := 4) (oi := _) (v := ?_) (by rw [List.getElem?_toArray]; rfl) (by kernel_rfl) (by kernel_rfl) (by kernel_rfl) (by kernel_rfl) (by kernel_rfl) (by exact fun _ _ _ h => h) (Or.inl ⟨by rfl, ?_⟩) hS ?_
    rotate_left
    · (intro wS hSw; (try dsimp only at hSw); go_simp; try with_reducible rfl)
    try simp only [Act.put, List.setIfInBounds_toArray, List.set_cons_zero, List.set_cons_succ]
    refine AnyX.take (i := 5) (oi := _) (v := ?_) (by rw [List.getElem?_toArray]; rfl) (by kernel_rfl) (by kernel_rfl) (by kernel_rfl) (by kernel_rfl) (by kernel_rfl) (by exact fun _ _ _ h => h) (Or.inl ⟨by rfl, ?_⟩) hS ?_
    rotate_left
    · (intro wS hSw; (try dsimp only at hSw); go_simp; try with_reducible rfl)
    try simp only [Act.put, List.setIfInBounds_toArray, List.set_cons_zero, List.set_cons_succ]
    refine AnyX.take (i := 6) (oi := _) (v := ?_) (by rw [List.getElem?_toArray]; rfl) (by kernel_rfl) (by kernel_rfl) (by kernel_rfl) (by kernel_rfl) (by kernel_rfl) (by exact fun _ _ _ h => h) (Or.inl ⟨by rfl, ?_⟩) hS ?_
    rotate_left
    · (intro wS hSw; (try dsimp only at hSw); go_simp; try with_reducible rfl)
    try simp only [Act.put, List.setIfInBounds_toArray, List.set_cons_zero, List.set_cons_succ]
    refine AnyX.take (i := 7) (oi := _) (v := ?_) (by rw [List.getElem?_toArray]; rfl) (by kernel_rfl) (by kernel_rfl) (by kernel_rfl) (by kernel_rfl) (by kernel_rfl) (by exact fun _ _ _ h => h) (Or.inl ⟨by rfl, ?_⟩) hS ?_
    rotate_left
    · (intro wS hSw; (try dsimp only at hSw); go_simp; try with_reducible rfl)
    try simp only [Act.put, List.setIfInBounds_toArray, List.set_cons_zero, List.set_cons_succ]
    refine AnyX.take (i := 8) (oi := _) (v := ?_) (by rw [List.getElem?_toArray]; rfl) (by kernel_rfl) (by kernel_rfl) (by kernel_rfl) (by kernel_rfl) (by kernel_rfl) (by exact fun _ _ _ h => h) (Or.inl ⟨by rfl, ?_⟩) hS ?_
    rotate_left
    · (intro wS hSw; (try dsimp only at hSw); go_simp; try with_reducible rfl)
    try simp only [Act.put, List.setIfInBounds_toArray, List.set_cons_zero, List.set_cons_succ]
    refine AnyX.take (i := 9) (oi := _) (v := ?_) (by rw [List.getElem?_toArray]; rfl) (by kernel_rfl) (by kernel_rfl) (by kernel_rfl) (by kernel_rfl) (by kernel_rfl) (by exact fun _ _ _ h => h) (Or.inl ⟨by rfl, ?_⟩) hS ?_
    rotate_left
    · (intro wS hSw; (try dsimp only at hSw); go_simp; try with_reducible rfl)
    try simp only [Act.put, List.setIfInBounds_toArray, List.set_cons_zero, List.set_cons_succ]
    refine AnyX.done (by kernel_rfl) ?_ _
    (try clear hS)
    have c_R := R.cells; have f_R := R.frozens
    go_wp2_with fail
    clear c_R f_R
    have n_K : Keep [g] w ((w5.setCell ⟨g, 1, none⟩ (.int .i64 ((k : Int) + 1))).setCell ⟨g, 2, none⟩ (.int .u64 (IntKind.u64.wrap (IntKind.u64.wrap (IntKind.u64.wrap (seed * 6364136223846793005)) + 840840)))) := ((Keep.ofBelow hB).setCell (p := ⟨g, 1, none⟩) (by simp) _).setCell (p := ⟨g, 2, none⟩) (by simp) _
    have n_R : Row ((w5.setCell ⟨g, 1, none⟩ (.int .i64 ((k : Int) + 1))).setCell ⟨g, 2, none⟩ (.int .u64 (IntKind.u64.wrap (IntKind.u64.wrap (IntKind.u64.wrap (seed * 6364136223846793005)) + 840840)))) g 121 [.slice a code.length c, .int .i64 ((k + 1 : Nat) : Int), .int .u64 (IntKind.u64.wrap (IntKind.u64.wrap (IntKind.u64.wrap (seed * 6364136223846793005)) + 840840))] := by simpa using ((R.set 1 (.int .i64 ((k : Int) + 1))).set 2 (.int .u64 (IntKind.u64.wrap (IntKind.u64.wrap (IntKind.u64.wrap (seed * 6364136223846793005)) + 840840))))
    have n_S : Sl EByte ((w5.setCell ⟨g, 1, none⟩ (.int .i64 ((k : Int) + 1))).setCell ⟨g, 2, none⟩ (.int .u64 (IntKind.u64.wrap (IntKind.u64.wrap (IntKind.u64.wrap (seed * 6364136223846793005)) + 840840)))) (Value.slice a code.length c) code F := S.frame (fun b hb => by have : b ≠ g := fun e => hF (e ▸ hb); repeat rw [Below.heap_setCell _ _ _ _ (by simp <;> omega)])
    have hs0 : 0 ≤ (IntKind.u64.wrap (IntKind.u64.wrap (IntKind.u64.wrap (seed * 6364136223846793005)) + 840840)) ∧ (IntKind.u64.wrap (IntKind.u64.wrap (IntKind.u64.wrap (seed * 6364136223846793005)) + 840840)) < 18446744073709551616 := by rw [IntKind.wrap_u64]; omega
    clear R S hB
    generalize (IntKind.u64.wrap (IntKind.u64.wrap (IntKind.u64.wrap (seed * 6364136223846793005)) + 840840)) = sd at *
    obtain ⟨hs0, hs1⟩ := hs0
    generalize ((w5.setCell ⟨g, 1, none⟩ (.int .i64 ((k : Int) + 1))).setCell ⟨g, 2, none⟩ (.int .u64 sd)) = w6 at *
    have R := n_R; clear n_R
    have S := n_S; clear n_S
    rename_i K0 hK0
    refine AnyX.start (S := (fun w' => w'.cell? ⟨g, 0, none⟩ = some (.slice a code.length c) ∧ w'.cell? ⟨g, 1, none⟩ = some (.int .i64 ((k + 1 : Nat) : Int)) ∧ w'.cell? ⟨g, 2, none⟩ = some (.int .u64 sd))) (X := (fun _ => false)) (by kernel_rfl) ?_
    have al : Below w6.heap.size w6 w6.drew := belowDrewN (Below.refl _ _) 1
    have hs_w7 := al.size
    replace R := R.below al
    replace S := S.below (by decide) al
    have hB := al
    generalize w6.drew = w7 at *
    clear al
    have hS : (fun w' => w'.cell? ⟨g, 0, none⟩ = some (.slice a code.length c) ∧ w'.cell? ⟨g, 1, none⟩ = some (.int .i64 ((k + 1 : Nat) : Int)) ∧ w'.cell? ⟨g, 2, none⟩ = some (.int .u64 sd)) w7 := ⟨R.cells 0, R.cells 1, R.cells 2⟩
    refine AnyX.take (i := 0) (oi := _) (v := ?_) (by rw [List.getElem?_toArray]; rfl) (by kernel_rfl) (by kernel_rfl) (by kernel_rfl) (by kernel_rfl) (by kernel_rfl) (by exact fun _ _ _ h => h) (Or.inl ⟨by rfl, ?_⟩) hS ?_
    rotate_left
    · (intro wS hSw; (try dsimp only at hSw); go_simp; try with_reducible rfl)
    try simp only [Act.put, List.setIfInBounds_toArray, List.set_cons_zero, List.set_cons_succ]
    refine AnyX.take (i := 1) (oi := _) (v := ?_) (by rw [List.getElem?_toArray]; rfl) (by kernel_rfl) (by kernel_rfl) (by kernel_rfl) (by kernel_rfl) (by kernel_rfl) (by exact fun _ _ _ h => h) (Or.inl ⟨by rfl, ?_⟩) hS ?_
    rotate_left
    · (intro wS hSw; (try dsimp only at hSw); go_simp; try with_reducible rfl)
    try simp only [Act.put, List.setIfInBounds_toArray, List.set_cons_zero, List.set_cons_succ]
    refine AnyX.take (i := 2) (oi := _) (v := ?_) (by rw [List.getElem?_toArray]; rfl) (by kernel_rfl) (by kernel_rfl) (by kernel_rfl) (by kernel_rfl) (by kernel_rfl) (by exact fun _ _ _ h => h) (Or.inl ⟨by rfl, ?_⟩) hS ?_
    rotate_left
    · (intro wS hSw; (try dsimp only at hSw); go_simp; try with_reducible rfl)
    try simp only [Act.put, List.setIfInBounds_toArray, List.set_cons_zero, List.set_cons_succ]
    refine AnyX.take (i := 3) (oi := _) (v := ?_) (by rw [List.getElem?_toArray]; rfl) (by kernel_rfl) (by kernel_rfl) (by kernel_rfl) (by kernel_rfl) (by kernel_rfl) (by exact fun _ _ _ h => h) (Or.inl ⟨by rfl, ?_⟩) hS ?_
    rotate_left
    · (intro wS hSw; (try dsimp only at hSw); go_simp; try with_reducible rfl)
    try simp only [Act.put, List.setIfInBounds_toArray, List.set_cons_zero, List.set_cons_succ]
    refine AnyX.take (i := 4) (oi := _) (v := ?_) (by rw [List.getElem?_toArray]; rfl) (by kernel_rfl) (by kernel_rfl) (by kernel_rfl) (by kernel_rfl) (by kernel_rfl) (by exact fun _ _ _ h => h) (Or.inl ⟨by rfl, ?_⟩) hS ?_
    rotate_left
    · (intro wS hSw; (try dsimp only at hSw); go_simp; try with_reducible rfl)
    try simp only [Act.put, List.setIfInBounds_toArray, List.set_cons_zero, List.set_cons_succ]
    refine AnyX.take (i := 5) (oi := _) (v := ?_) (by rw [List.getElem?_toArray]; rfl) (by kernel_rfl) (by kernel_rfl) (by kernel_rfl) (by kernel_rfl) (by kernel_rfl) (by exact fun _ _ _ h => h) (Or.inl ⟨by rfl, ?_⟩) hS ?_
    rotate_left
    · (intro wS hSw; (try dsimp only at hSw); go_simp; try with_reducible rfl)
    try simp only [Act.put, List.setIfInBounds_toArray, List.set_cons_zero, List.set_cons_succ]
    refine AnyX.take (i := 6) (oi := _) (v := ?_) (by rw [List.getElem?_toArray]; rfl) (by kernel_rfl) (by kernel_rfl) (by kernel_rfl) (by kernel_rfl) (by kernel_rfl) (by exact fun _ _ _ h => h) (Or.inl ⟨by rfl, ?_⟩) hS ?_
    rotate_left
    · (intro wS hSw; (try dsimp only at hSw); go_simp; try with_reducible rfl)
    try simp only [Act.put, List.setIfInBounds_toArray, List.set_cons_zero, List.set_cons_succ]
    refine AnyX.take (i := 7) (oi := _) (v := ?_) (by rw [List.getElem?_toArray]; rfl) (by kernel_rfl) (by kernel_rfl) (by kernel_rfl) (by kernel_rfl) (by kernel_rfl) (by exact fun _ _ _ h => h) (Or.inl ⟨by rfl, ?_⟩) hS ?_
    rotate_left
    · (intro wS hSw; (try dsimp only at hSw); go_simp; try with_reducible rfl)
    try simp only [Act.put, List.setIfInBounds_toArray, List.set_cons_zero, List.set_cons_succ]
    refine AnyX.take (i := 8) (oi := _) (v := ?_) (by rw [List.getElem?_toArray]; rfl) (by kernel_rfl) (by kernel_rfl) (by kernel_rfl) (by kernel_rfl) (by kernel_rfl) (by exact fun _ _ _ h => h) (Or.inl ⟨by rfl, ?_⟩) hS ?_
    rotate_left
    · (intro wS hSw; (try dsimp only at hSw); go_simp; try with_reducible rfl)
    try simp only [Act.put, List.setIfInBounds_toArray, List.set_cons_zero, List.set_cons_succ]
    refine AnyX.take (i := 9) (oi := _) (v := ?_) (by rw [List.getElem?_toArray]; rfl) (by kernel_rfl) (by kernel_rfl) (by kernel_rfl) (by kernel_rfl) (by kernel_rfl) (by exact fun _ _ _ h => h) (Or.inl ⟨by rfl, ?_⟩) hS ?_
    rotate_left
    · (intro wS hSw; (try dsimp only at hSw); go_simp; try with_reducible rfl)
    try simp only [Act.put, List.setIfInBounds_toArray, List.set_cons_zero, List.set_cons_succ]
    refine AnyX.done (by kernel_rfl) ?_ _
    (try clear hS)
    refine hK0 _ _ ?_
    clear hK0 K0
    have n_K2 := n_K.trans (Keep.ofBelow hB)
    obtain ⟨q, hq, hq2⟩ : ∃ q : Nat, bits BinOp.and IntKind.u64 (sd / 1099511627776) 255 = (q : Int) ∧ q ≤ 255 := by
      refine ⟨(sd / 1099511627776).toNat &&& 255, ?_, Nat.and_le_right⟩
      rw [← bits_and_u64_nat _ _ (by omega) (by omega)]
      congr 1; omega
    have c_R := R.cells; have f_R := R.frozens
    go_wp2_with fail
    refine bodyPost_ret (v := .int .i64 (q : Int)) ?_ rfl ?_
    · simp [results, Tryd.results196, go_sem, hq]
    · exact ⟨q, rfl, hq2, ⟨k + 1, sd, R, S, hF, by omega, hs0, hs1⟩, n_K2⟩
def PPick (B g : Nat) (F : CuF) (n : Int) (w : World) (e : Ending) (w' : World) : Prop := ∃ r : Nat, e = .returned (.int .i64 r) ∧ (r = 0 ∨ (r : Int) < n) ∧ Cur (B + 2) w' g F ∧ Keep [g] w w'
set_option maxHeartbeats 1600000 in
set_option maxRecDepth 100000 in
theorem pick_c (B g : Nat) (F : CuF) (n : Int) (w : World) (h : Cur B w g F) (hB0 : B ≤ 1099511627774) (hn : n ≤ 1048576) :
    Calls Tryd.prog 152 #[.pointer (some ⟨g, 0, none⟩), .int .i64 n] w (PPick B g F n w) := by
  have hN1 := next_c B g F w h (by omega)
  have hN2 := fun w h => next_c (B + 1) g F w h (by omega)
  replace hN1 := Lib.hid hN1; replace hN2 := Lib.hid hN2
  by_cases h1 : n ≤ 1
  · go_enter Tryd.func152, Tryd.ntmps152
    go_wp2_with fail
    refine bodyPost_ret (v := .int .i64 0) ?_ rfl ⟨0, rfl, .inl rfl, h.mono (by omega), Keep.refl _ _⟩
    simp [results, Tryd.results152, go_sem]
  · by_cases h2 : n ≤ 200
    · go_enter Tryd.func152, Tryd.ntmps152
      go_wp2_with fail
      refine hN1.out.mono ?_
      rintro e w1 ⟨r, rfl, hr, hc, hk⟩
      have hm0 : 0 ≤ (r : Int) % n := Int.emod_nonneg _ (by omega)
      have hm1 : (r : Int) % n < n := Int.emod_lt_of_pos _ (by omega)
      go_wp2_with fail
      refine bodyPost_ret (v := .int .i64 ((r : Int) % n)) ?_ rfl ⟨((r : Int) % n).toNat, by rw [Int.toNat_of_nonneg hm0], .inr (by omega), hc.mono (by omega), hk⟩
      simp [results, Tryd.results152, go_sem]
    · go_enter Tryd.func152, Tryd.ntmps152
      go_wp2_with fail
      refine hN1.out.mono ?_
      rintro e w1 ⟨r, rfl, hr, hc, hk⟩
      go_wp2_with fail
      refine (hN2.out _ hc).mono ?_
      rintro e w2 ⟨r2, rfl, hr2, hc2, hk2⟩
      have hm0 : 0 ≤ ((r : Int) * 256 + r2) % n := Int.emod_nonneg _ (by omega)
      have hm1 : ((r : Int) * 256 + r2) % n < n := Int.emod_lt_of_pos _ (by omega)
      go_wp2_with fail
      refine bodyPost_ret (v := .int .i64 (((r : Int) * 256 + r2) % n)) ?_ rfl ⟨(((r : Int) * 256 + r2) % n).toNat, by rw [Int.toNat_of_nonneg hm0], .inr (by omega), hc2, hk.trans hk2⟩
      simp [results, Tryd.results152, go_sem]
def POne (B g : Nat) (F : CuF) (w : World) (e : Ending) (w' : World) : Prop := ∃ b : Bool, e = .returned (.bool b) ∧ Cur (B + 2) w' g F ∧ Keep [g] w w'
theorem one_c (B g : Nat) (F : CuF) (n : Int) (w : World) (h : Cur B w g F) (hB0 : B ≤ 1099511627774) (hn : n ≤ 1048576) :
    Calls Tryd.prog 115 #[.pointer (some ⟨g, 0, none⟩), .int .i64 n] w (POne B g F w) := by
  have hN1 := Lib.hid (pick_c B g F n w h hB0 hn)
  go_enter Tryd.func115, Tryd.ntmps115
  go_wp2_with fail
  refine hN1.out.mono ?_
  rintro e w1 ⟨r, rfl, hr, hc, hk⟩
  go_wp2_with fail
  refine bodyPost_ret (v := .bool ((r : Int) == 0)) ?_ rfl ⟨_, rfl, hc, hk⟩
  simp [results, Tryd.results115, go_sem]
def POf (B g : Nat) (F : CuF) (xs : List ByteArray) (w : World) (e : Ending) (w' : World) : Prop := ∃ s ∈ xs, e = .returned (.string s) ∧ Cur (B + 2) w' g F ∧ Keep [g] w w'
theorem of_c (B g : Nat) (F : CuF) (v : Value) (xs : List ByteArray) (K : List Nat) (w : World) (h : Cur B w g F) (hB0 : B ≤ 1099511627774) (hx : Sl EStr w v xs K) (h0 : 0 < xs.length) (h1 : xs.length ≤ 1048576) (hg : g ∉ K) :
    Calls Tryd.prog 94 #[.pointer (some ⟨g, 0, none⟩), v] w (POf B g F xs w) := by
  obtain ⟨a, c, rfl⟩ := hx.slice
  have hN1 := Lib.hid (pick_c B g F xs.length w h hB0 (by omega))
  go_enter Tryd.func94, Tryd.ntmps94
  go_wp2_with fail
  refine hN1.out.mono ?_
  rintro e w1 ⟨r, rfl, hr, hc, hk⟩
  have hr2 : r < xs.length := by omega
  obtain ⟨hsz, b, off, rfl, hcell⟩ := (hx.keep hk (fun b hb e => hg (by simp at e; rw [← e]; exact hb)) (by decide)).str.2.2 r hr2
  clear hr
  have hm := List.getElem_mem hr2
  generalize xs[r] = s at *
  go_wp2_with fail
  refine bodyPost_ret (v := .string s) ?_ rfl ⟨s, hm, rfl, hc, hk⟩
  simp [results, Tryd.results94, go_sem]
def PAmong (B g : Nat) (F : CuF) (xs : List Int) (w : World) (e : Ending) (w' : World) : Prop := ∃ s ∈ xs, e = .returned (.int .i64 s) ∧ Cur (B + 2) w' g F ∧ Keep [g] w w'
theorem among_c (B g : Nat) (F : CuF) (v : Value) (xs : List Int) (K : List Nat) (w : World) (h : Cur B w g F) (hB0 : B ≤ 1099511627774) (hx : Sl EInt w v xs K) (h0 : 0 < xs.length) (h1 : xs.length ≤ 1048576) (hg : g ∉ K) :
    Calls Tryd.prog 119 #[.pointer (some ⟨g, 0, none⟩), v] w (PAmong B g F xs w) := by
  obtain ⟨a, c, rfl⟩ := hx.slice
  have hN1 := Lib.hid (pick_c B g F xs.length w h hB0 (by omega))
  go_enter Tryd.func119, Tryd.ntmps119
  go_wp2_with fail
  refine hN1.out.mono ?_
  rintro e w1 ⟨r, rfl, hr, hc, hk⟩
  have hr2 : r < xs.length := by omega
  obtain ⟨b, off, rfl, hcell⟩ := (hx.keep hk (fun b hb e => hg (by simp at e; rw [← e]; exact hb)) (by decide)).int.2.2 r hr2
  clear hr
  have hm := List.getElem_mem hr2
  generalize xs[r] = s at *
  go_wp2_with fail
  refine bodyPost_ret (v := .int .i64 s) ?_ rfl ⟨s, hm, rfl, hc, hk⟩
  simp [results, Tryd.results119, go_sem]
end Go.Proofs.YtidephmobajikaaDoor
/- Draws, for the engine: the cursor. -/
namespace Go.Proofs.YtidephmobajikaaDoor
open Go.RowKit
structure CuS where
  k : Nat
  seed : Int
structure CuOk (B : Nat) (s : CuS) : Prop where
  k : s.k ≤ B
  s0 : 0 ≤ s.seed
  s1 : s.seed < 18446744073709551616
theorem CuOk.mono {B B' : Nat} {s : CuS} (h : CuOk B s) (hb : B ≤ B') : CuOk B' s := ⟨Nat.le_trans h.k hb, h.s0, h.s1⟩
theorem cu_fn {f : FuncId} {args : List Value} {σ : Type} {C : σ → Prop} {v : σ → Value} {B B' g : Nat} {F : CuF} {s : CuS} {X : List Pc} (hX : X.all (fun p => !p.mu) = true) (ok : CuOk B s)
    (h : ∀ w, Cur B w g F → Hol X w → (∀ p ∈ X, g ∉ p.F) → Calls Tryd.prog f args.toArray w fun e w' => ∃ r, C r ∧ e = .returned (v r) ∧ Cur B' w' g F ∧ Keep [g] w w') :
    Fn Tryd.prog f args (.sl EByte (.slice F.a F.code.length F.c) F.code F.bs :: X) [.row g 121 0 [] [.slice F.a F.code.length F.c, .int .i64 (s.k : Nat), .int .u64 s.seed] []] (fun (z : σ × CuS) => C z.1 ∧ CuOk B' z.2) (fun z => v z.1) (fun z => [.row g 121 0 [] [.slice F.a F.code.length F.c, .int .i64 (z.2.k : Nat), .int .u64 z.2.seed] []]) := fun w hH hS => by
  have h1 := hH (.row g 121 0 [] [.slice F.a F.code.length F.c, .int .i64 (s.k : Nat), .int .u64 s.seed] []) (by simp)
  have h2 := hH (.sl EByte (.slice F.a F.code.length F.c) F.code F.bs) (by simp)
  have ap := hS.1
  have hg : g ∉ F.bs := fun hm => ap (.sl EByte (.slice F.a F.code.length F.c) F.code F.bs) (by simp) (by simp [Pc.mu]) g (by simp [Pc.F]) hm
  refine (h w ⟨s.k, s.seed, by simpa using h1.2, h2.2, hg, ok.k, ok.s0, ok.s1⟩ (fun p hp => hH p (by simp [hp])) (fun p hp hm => ap p (by simp [hp]) (by simp [Pc.mu]) g (by simp [Pc.F]) hm)).mono ?_
  rintro e w' ⟨r, hC, he, ⟨k, seed, R, S, -, hk, h0, h3⟩, hK⟩
  refine ⟨(r, ⟨k, seed⟩), ⟨hC, hk, h0, h3⟩, he, hol1 ⟨rfl, by simpa using R⟩, ⟨by simp, trivial⟩, hK.mono (fun b hb _ => by simpa [fp, Pc.F] using hb), fun p hp b hb => ?_⟩
  simp at hp
  subst hp
  exact .inr (.inl ⟨_, List.mem_cons_self .., by simpa [Pc.F] using hb⟩)
theorem pick_f (B g : Nat) (F : CuF) (n : Int) (s : CuS) (ok : CuOk B s) (hB : B ≤ 1000000000000) (hn : n ≤ 1048576) :
    Fn Tryd.prog 152 [ptr g 0 0, .int .i64 n] [.sl EByte (.slice F.a F.code.length F.c) F.code F.bs] [.row g 121 0 [] [.slice F.a F.code.length F.c, .int .i64 (s.k : Nat), .int .u64 s.seed] []] (fun (z : Nat × CuS) => (z.1 = 0 ∨ (z.1 : Int) < n) ∧ CuOk (B + 2) z.2) (fun z => .int .i64 (z.1 : Nat)) (fun z => [.row g 121 0 [] [.slice F.a F.code.length F.c, .int .i64 (z.2.k : Nat), .int .u64 z.2.seed] []]) :=
  cu_fn (C := fun r : Nat => r = 0 ∨ (r : Int) < n) (v := fun r => .int .i64 (r : Nat)) (X := []) rfl ok fun w h _ _ => (pick_c B g F n w h (by omega) hn).mono fun _ _ ⟨r, he, h1, h2, h3⟩ => ⟨r, h1, he, h2, h3⟩
theorem one_f (B g : Nat) (F : CuF) (n : Int) (s : CuS) (ok : CuOk B s) (hB : B ≤ 1000000000000) (hn : n ≤ 1048576) :
    Fn Tryd.prog 115 [ptr g 0 0, .int .i64 n] [.sl EByte (.slice F.a F.code.length F.c) F.code F.bs] [.row g 121 0 [] [.slice F.a F.code.length F.c, .int .i64 (s.k : Nat), .int .u64 s.seed] []] (fun (z : Bool × CuS) => True ∧ CuOk (B + 2) z.2) (fun z => .bool z.1) (fun z => [.row g 121 0 [] [.slice F.a F.code.length F.c, .int .i64 (z.2.k : Nat), .int .u64 z.2.seed] []]) :=
  cu_fn (C := fun _ : Bool => True) (v := fun r => .bool r) (X := []) rfl ok fun w h _ _ => (one_c B g F n w h (by omega) hn).mono fun _ _ ⟨r, he, h2, h3⟩ => ⟨r, trivial, he, h2, h3⟩
theorem of_f (B g : Nat) (F : CuF) (v : Value) (xs : List ByteArray) (G : List Nat) (s : CuS) (ok : CuOk B s) (hB : B ≤ 1000000000000) (h0 : 0 < xs.length) (h1 : xs.length ≤ 1048576) :
    Fn Tryd.prog 94 [ptr g 0 0, v] [.sl EByte (.slice F.a F.code.length F.c) F.code F.bs, .sl EStr v xs G] [.row g 121 0 [] [.slice F.a F.code.length F.c, .int .i64 (s.k : Nat), .int .u64 s.seed] []] (fun (z : ByteArray × CuS) => z.1 ∈ xs ∧ CuOk (B + 2) z.2) (fun z => .string z.1) (fun z => [.row g 121 0 [] [.slice F.a F.code.length F.c, .int .i64 (z.2.k : Nat), .int .u64 z.2.seed] []]) :=
  cu_fn (C := fun r : ByteArray => r ∈ xs) (v := fun r => .string r) (X := [.sl EStr v xs G]) rfl ok fun w h hX hg => (of_c B g F v xs G w h (by omega) (hX (.sl EStr v xs G) (by simp)).2 h0 h1 (hg (.sl EStr v xs G) (by simp))).mono fun _ _ ⟨r, h1, he, h2, h3⟩ => ⟨r, h1, he, h2, h3⟩
theorem among_f (B g : Nat) (F : CuF) (v : Value) (xs : List Int) (G : List Nat) (s : CuS) (ok : CuOk B s) (hB : B ≤ 1000000000000) (h0 : 0 < xs.length) (h1 : xs.length ≤ 1048576) :
    Fn Tryd.prog 119 [ptr g 0 0, v] [.sl EByte (.slice F.a F.code.length F.c) F.code F.bs, .sl EInt v xs G] [.row g 121 0 [] [.slice F.a F.code.length F.c, .int .i64 (s.k : Nat), .int .u64 s.seed] []] (fun (z : Int × CuS) => z.1 ∈ xs ∧ CuOk (B + 2) z.2) (fun z => .int .i64 z.1) (fun z => [.row g 121 0 [] [.slice F.a F.code.length F.c, .int .i64 (z.2.k : Nat), .int .u64 z.2.seed] []]) :=
  cu_fn (C := fun r : Int => r ∈ xs) (v := fun r => .int .i64 r) (X := [.sl EInt v xs G]) rfl ok fun w h hX hg => (among_c B g F v xs G w h (by omega) (hX (.sl EInt v xs G) (by simp)).2 h0 h1 (hg (.sl EInt v xs G) (by simp))).mono fun _ _ ⟨r, h1, he, h2, h3⟩ => ⟨r, h1, he, h2, h3⟩
end Go.Proofs.YtidephmobajikaaDoor
/- The type Slot of the exact laws: how it reads, how it is owned; the walks of its size, copy, equality, mark and held. Written by wip/gentypes.py. -/
namespace Go.Proofs.YtidephmobajikaaDoor
open Go.RowKit
structure Slot where
  hav : Bool
  item : ByteArray
end Go.Proofs.YtidephmobajikaaDoor
/- The type ReceiveWindow of the exact laws: how it reads, how it is owned; the walks of its size, copy, equality, mark and held. Written by wip/gentypes.py. -/
namespace Go.Proofs.YtidephmobajikaaDoor
open Go.RowKit
structure ReceiveWindow where
  next : Int
  slots : List Slot
end Go.Proofs.YtidephmobajikaaDoor
/- Structs of type ReceiveWindow in a walk's state: opened, closed. -/
namespace Go.Proofs.YtidephmobajikaaDoor
open Go.RowKit
section
variable {c : Cx} {fr : Fr} {H : List Pc} {Φ : Gl}
end
end Go.Proofs.YtidephmobajikaaDoor
/- Structs of type Slot in a walk's state: opened, closed. -/
namespace Go.Proofs.YtidephmobajikaaDoor
open Go.RowKit
section
variable {c : Cx} {fr : Fr} {H : List Pc} {Φ : Gl}
end
end Go.Proofs.YtidephmobajikaaDoor
/- Walks of Go's generic library functions on slices of impl.Slot. Written by wip/genlib.py. -/
namespace Go.Proofs.YtidephmobajikaaDoor
open Go.RowKit
end Go.Proofs.YtidephmobajikaaDoor
/- Receive windows: the check, what is there. -/
namespace Go.Proofs.YtidephmobajikaaDoor
open Go.RowKit
end Go.Proofs.YtidephmobajikaaDoor
/- Receive windows: the reference's check. -/
namespace Go.Proofs.YtidephmobajikaaDoor
open Go.RowKit
end Go.Proofs.YtidephmobajikaaDoor
/- Receive windows: what is released, what is taken. Plain lists. -/
namespace Go.Proofs.YtidephmobajikaaDoor
open Go.RowKit
def plus (s : ByteArray) : ByteArray := ⟨#[43]⟩ ++ s
def minus : ByteArray := ⟨#[45]⟩
def shiftEv (l : List Slot) : ByteArray := match l with | [] => minus | s :: _ => if s.hav then plus s.item else minus
def rel : Int → List Slot → Int × List Slot × List ByteArray
  | n, [] => (n, [], [])
  | n, s :: r => if s.hav then ((rel (aft n 1) r).1, (rel (aft n 1) r).2.1, plus s.item :: (rel (aft n 1) r).2.2) else (n, s :: r, [])
end Go.Proofs.YtidephmobajikaaDoor
/- Receive windows: the copy, a step, what is released. -/
namespace Go.Proofs.YtidephmobajikaaDoor
open Go.RowKit
end Go.Proofs.YtidephmobajikaaDoor
/- Receive windows: what is released. -/
namespace Go.Proofs.YtidephmobajikaaDoor
open Go.RowKit
def relW (x : ReceiveWindow) : ReceiveWindow := ⟨(rel x.next x.slots).1, (rel x.next x.slots).2.1⟩
def relE (x : ReceiveWindow) : List ByteArray := (rel x.next x.slots).2.2
def shW (x : ReceiveWindow) : ReceiveWindow := ⟨aft x.next 1, x.slots.drop 1⟩
/-- events so far, the window, where both lie -/
structure RelS where
  es : List ByteArray
  y : ReceiveWindow
  a : Option Addr
  c : Nat
  F : List Nat
  ae : Option Addr
  ce : Nat
  Fe : List Nat
structure RelOk (x : ReceiveWindow) (s : RelS) : Prop where
  n0 : 0 ≤ s.y.next
  n1 : s.y.next ≤ 65535
  it : ∀ z ∈ s.y.slots, z.item.size ≤ 8
  ln : s.es.length + s.y.slots.length ≤ x.slots.length
  w : relW x = relW s.y
  e : relE x = s.es ++ relE s.y
end Go.Proofs.YtidephmobajikaaDoor
/- Receive windows: what is taken, what is given up: in place. -/
namespace Go.Proofs.YtidephmobajikaaDoor
open Go.RowKit
def stepsN (a b : Int) : Nat := if bef a b then (gp a b).toNat else 0
def giveW : Nat → ReceiveWindow → ReceiveWindow
  | 0, y => y
  | k + 1, y => giveW k (shW y)
def giveE : Nat → ReceiveWindow → List ByteArray
  | 0, _ => []
  | k + 1, y => shiftEv y.slots :: giveE k (shW y)
structure PadS where
  j : Nat
  a : Option Addr
  c : Nat
  F : List Nat
structure GiveOk (x : ReceiveWindow) (n : Int) (s : RelS) : Prop where
  n0 : 0 ≤ s.y.next
  n1 : s.y.next ≤ 65535
  it : ∀ z ∈ s.y.slots, z.item.size ≤ 8
  ln : s.y.slots.length ≤ x.slots.length
  le : s.es.length + stepsN s.y.next n ≤ stepsN x.next n
  w : giveW (stepsN x.next n) x = giveW (stepsN s.y.next n) s.y
  e : giveE (stepsN x.next n) x = s.es ++ giveE (stepsN s.y.next n) s.y
end Go.Proofs.YtidephmobajikaaDoor
/- Receive windows: TakeItem and GiveUpTo of the program. -/
namespace Go.Proofs.YtidephmobajikaaDoor
open Go.RowKit
structure GoodRW (x : ReceiveWindow) : Prop where
  n0 : 0 ≤ x.next
  n1 : x.next ≤ 65535
  l : x.slots.length ≤ 8
  it : ∀ s ∈ x.slots, s.item.size ≤ 8
end Go.Proofs.YtidephmobajikaaDoor
/- Receive windows: the reference's. -/
namespace Go.Proofs.YtidephmobajikaaDoor
open Go.RowKit
structure CpS where
  g : Nat
  a : Option Addr
  c : Nat
  F : List Nat
end Go.Proofs.YtidephmobajikaaDoor
/- Receive windows: the reference's taking and giving up. -/
namespace Go.Proofs.YtidephmobajikaaDoor
open Go.RowKit
end Go.Proofs.YtidephmobajikaaDoor
/- Receive windows: the reference's GiveUpTo and TakeItem; the contracts that the laws ask. -/
namespace Go.Proofs.YtidephmobajikaaDoor
open Go.RowKit
end Go.Proofs.YtidephmobajikaaDoor
/- Receive windows: GiveUpTo and TakeItem of the reference; the contracts that the laws ask. -/
namespace Go.Proofs.YtidephmobajikaaDoor
open Go.RowKit
end Go.Proofs.YtidephmobajikaaDoor
/- Receive windows: what is counted, what is there, what is seen; serials. -/
namespace Go.Proofs.YtidephmobajikaaDoor
open Go.RowKit
def resGap (a b : Int) : Int × Bool := if isSer a && isSer b then (gp a b, true) else (0, false)
set_option maxRecDepth 100000 in
theorem SerialGap_f (a b : Int) : Fn Tryd.prog 18 [.int .i64 a, .int .i64 b] [] [] (fun (_ : Unit) => True) (fun _ => .tuple #[.int .i64 (resGap a b).1, .bool (resGap a b).2]) (fun _ => []) := by
  refine enter Tryd.func18 rfl Tryd.ntmps18 fun w0 => ?_
  repeat (first | apply c_seq | apply c_reg | (apply wO; apply oc; rfl; exact ydE) | apply w_nil | apply n_cd | (apply wg_t; rfl; rfl) | (apply wg_f; rfl; rfl; rfl; rfl) | (apply wg_u; rfl; rfl; rfl) | (apply c_t; rfl) | (apply c_f; rfl) | apply c_skip | apply c_block | apply n_blk | apply c_exit | apply e_hit | apply e_cd | apply e_lp | (apply e_miss; rfl) | apply c_ret | (apply wO; apply o_box; rfl; rfl; rfl; intro _) | (apply wO; apply o_alloc; rfl; intro _) | (apply wO; apply o_st; rfl; rfl; rfl; (first | exact AggC.s | exact OneC.s); rfl; exact rplE; exact putE; rfl) | (apply wO; apply o_bs0; rfl; intro _) | (apply wO; apply o_bs; rfl; rfl; rfl; rfl; exact rptE; exact filE; intro _) | (apply wO; apply o_call; rfl; kernel_rfl; exact evsE))
  refine ce (fun w s => IsSerial_c _ _) ?_
  cases g1 : isSer a
  · repeat (first | apply c_seq | apply c_reg | (apply wO; apply oc; rfl; exact ydE) | apply w_nil | apply n_cd | (apply wg_t; rfl; rfl) | (apply wg_f; rfl; rfl; rfl; rfl) | (apply wg_u; rfl; rfl; rfl) | (apply c_t; rfl) | (apply c_f; rfl) | apply c_skip | apply c_block | apply n_blk | apply c_exit | apply e_hit | apply e_cd | apply e_lp | (apply e_miss; rfl) | apply c_ret | (apply wO; apply o_box; rfl; rfl; rfl; intro _) | (apply wO; apply o_alloc; rfl; intro _) | (apply wO; apply o_st; rfl; rfl; rfl; (first | exact AggC.s | exact OneC.s); rfl; exact rplE; exact putE; rfl) | (apply wO; apply o_bs0; rfl; intro _) | (apply wO; apply o_bs; rfl; rfl; rfl; rfl; exact rptE; exact filE; intro _) | (apply wO; apply o_call; rfl; kernel_rfl; exact evsE))
    rw [show resGap a b = _ by unfold resGap; rw [g1]]
    refine ret () trivial rfl
  repeat (first | apply c_seq | apply c_reg | (apply wO; apply oc; rfl; exact ydE) | apply w_nil | apply n_cd | (apply wg_t; rfl; rfl) | (apply wg_f; rfl; rfl; rfl; rfl) | (apply wg_u; rfl; rfl; rfl) | (apply c_t; rfl) | (apply c_f; rfl) | apply c_skip | apply c_block | apply n_blk | apply c_exit | apply e_hit | apply e_cd | apply e_lp | (apply e_miss; rfl) | apply c_ret | (apply wO; apply o_box; rfl; rfl; rfl; intro _) | (apply wO; apply o_alloc; rfl; intro _) | (apply wO; apply o_st; rfl; rfl; rfl; (first | exact AggC.s | exact OneC.s); rfl; exact rplE; exact putE; rfl) | (apply wO; apply o_bs0; rfl; intro _) | (apply wO; apply o_bs; rfl; rfl; rfl; rfl; exact rptE; exact filE; intro _) | (apply wO; apply o_call; rfl; kernel_rfl; exact evsE))
  refine ce (fun w s => IsSerial_c _ _) ?_
  cases g2 : isSer b
  · repeat (first | apply c_seq | apply c_reg | (apply wO; apply oc; rfl; exact ydE) | apply w_nil | apply n_cd | (apply wg_t; rfl; rfl) | (apply wg_f; rfl; rfl; rfl; rfl) | (apply wg_u; rfl; rfl; rfl) | (apply c_t; rfl) | (apply c_f; rfl) | apply c_skip | apply c_block | apply n_blk | apply c_exit | apply e_hit | apply e_cd | apply e_lp | (apply e_miss; rfl) | apply c_ret | (apply wO; apply o_box; rfl; rfl; rfl; intro _) | (apply wO; apply o_alloc; rfl; intro _) | (apply wO; apply o_st; rfl; rfl; rfl; (first | exact AggC.s | exact OneC.s); rfl; exact rplE; exact putE; rfl) | (apply wO; apply o_bs0; rfl; intro _) | (apply wO; apply o_bs; rfl; rfl; rfl; rfl; exact rptE; exact filE; intro _) | (apply wO; apply o_call; rfl; kernel_rfl; exact evsE))
    rw [show resGap a b = _ by unfold resGap; rw [g1, g2]]
    refine ret () trivial rfl
  obtain ⟨a0, a1⟩ := isSer_iff.1 g1
  obtain ⟨b0, b1⟩ := isSer_iff.1 g2
  rw [show resGap a b = _ by unfold resGap; rw [g1, g2]]
  repeat (first | apply c_seq | apply c_reg | (apply wO; apply oc; rfl; exact ydE) | apply w_nil | apply n_cd | (apply wg_t; rfl; rfl) | (apply wg_f; rfl; rfl; rfl; rfl) | (apply wg_u; rfl; rfl; rfl) | (apply c_t; rfl) | (apply c_f; rfl) | apply c_skip | apply c_block | apply n_blk | apply c_exit | apply e_hit | apply e_cd | apply e_lp | (apply e_miss; rfl) | apply c_ret | (apply wO; apply o_box; rfl; rfl; rfl; intro _) | (apply wO; apply o_alloc; rfl; intro _) | (apply wO; apply o_st; rfl; rfl; rfl; (first | exact AggC.s | exact OneC.s); rfl; exact rplE; exact putE; rfl) | (apply wO; apply o_bs0; rfl; intro _) | (apply wO; apply o_bs; rfl; rfl; rfl; rfl; exact rptE; exact filE; intro _) | (apply wO; apply o_call; rfl; kernel_rfl; exact evsE))
  refine ce (fun w s => gap_c _ _ _ (by omega) (by omega) (by omega) (by omega)) ?_
  repeat (first | apply c_seq | apply c_reg | (apply wO; apply oc; rfl; exact ydE) | apply w_nil | apply n_cd | (apply wg_t; rfl; rfl) | (apply wg_f; rfl; rfl; rfl; rfl) | (apply wg_u; rfl; rfl; rfl) | (apply c_t; rfl) | (apply c_f; rfl) | apply c_skip | apply c_block | apply n_blk | apply c_exit | apply e_hit | apply e_cd | apply e_lp | (apply e_miss; rfl) | apply c_ret | (apply wO; apply o_box; rfl; rfl; rfl; intro _) | (apply wO; apply o_alloc; rfl; intro _) | (apply wO; apply o_st; rfl; rfl; rfl; (first | exact AggC.s | exact OneC.s); rfl; exact rplE; exact putE; rfl) | (apply wO; apply o_bs0; rfl; intro _) | (apply wO; apply o_bs; rfl; rfl; rfl; rfl; exact rptE; exact filE; intro _) | (apply wO; apply o_call; rfl; kernel_rfl; exact evsE))
  refine ret () trivial rfl
end Go.Proofs.YtidephmobajikaaDoor
