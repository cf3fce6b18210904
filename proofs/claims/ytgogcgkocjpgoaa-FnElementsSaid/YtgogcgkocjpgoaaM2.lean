/- Part 2 of the proof: 27 texts, one behind the other. -/
import Derived.Lib.Overlaps
import Derived.Lib.AppendZerosOnto
import Derived.Laws.IdiomCopy
import Derived.Deep.RegionLaw
import Derived.BigQuiet
import Derived.ArgAppend
import Derived.Laws.IdiomStrings
import Derived.Test.YtgogcgkocjpgoaaM1
/- Rows written as wholes: an owned slice as its row and back, copying, appending that grows, functions that are entries of the model, parts of a slice as values. -/
namespace Go.Proofs.Ytgogcgkocjpgoaa
open Go.RowKit
theorem hsub_refl : ∀ (H : List Pc), HSub H H
  | [] => .nil
  | _ :: R => .cons .here (hsub_refl R)
theorem Flat.all {α : Type} {E : Elem α} {w : World} {cs : List Value} {xs : List α} (h : Flat E w cs xs []) (w' : World) : Flat E w' cs xs [] := h.frame (by simp)
theorem Flat.cutL {α : Type} {E : Elem α} {w : World} {cs : List Value} {xs : List α} (h : Flat E w cs xs []) (i : Nat) (hi : i ≤ xs.length) : Flat E w (cs.take (i * E.sz)) (xs.take i) [] ∧ Flat E w (cs.drop (i * E.sz)) (xs.drop i) [] := by
  rw [← List.take_append_drop i xs] at h
  obtain ⟨c1, c2, G1, G2, rfl, hG, h1, h2⟩ := h.split
  obtain ⟨rfl, rfl⟩ := List.append_eq_nil_iff.1 hG.symm
  have hl := h1.len
  rw [List.length_take, Nat.min_eq_left hi] at hl
  rw [List.take_left' hl, List.drop_left' hl]
  exact ⟨h1, h2⟩
theorem Flat.insL {α : Type} {E : Elem α} {w : World} {cs c1 : List Value} {xs : List α} {x : α} (h : Flat E w cs xs []) (h1 : Flat E w c1 [x] []) (i : Nat) (hi : i ≤ xs.length) : Flat E w (cs.take (i * E.sz) ++ c1 ++ cs.drop (i * E.sz)) (xs.take i ++ x :: xs.drop i) [] := by
  obtain ⟨ha, hb⟩ := h.cutL i hi
  have := (ha.append h1).append hb
  simpa using this
section
variable {P : Program} {n : Nat} {fr : Fr} {H : List Pc} {ty : TypeId} {x y z : Operand}
/-- what stands from i on, aS a value -/
theorem yd_slv {t e m i g o len cp : Nat} {kd : IntKind} {q : Int} [hS : SlC P t e m] (hx : ev fr x = some (.slice (some ⟨g, o, none⟩) len cp)) (hy : ev fr y = some (.int kd q)) (hq : q = (i : Int)) (hi : i ≤ len) (hc : i < cp) (hlc : len ≤ cp) : Yd P n fr H (.slice t x (some y) none none) ty (.slice (some ⟨g, o + i * m, none⟩) (len - i) (cp - i)) := .mk fun ac w d pos aft gd hA _ => by
  subst hq
  have he2 : P.elem t = e := by simp [Program.elem, hS.u]
  have h3 : (Instr.sliceAt t (.slice (some ⟨g, o, none⟩) len cp) (some (.int kd (i : Int))) none none).run P w = .ok (.slice (some ⟨g, o + i * m, none⟩) (len - i) (cp - i)) w := by
    rw [run_sliceAt_slice (h := by rw [he2]; exact hS.u), run_slice_l (ht := by rw [he2]; exact hS.u) (h0 := by omega) (h1 := by omega), he2, size_of hS.s]
    have h0 : ¬ (cp - i = 0) := by omega
    have h0' : ¬ (cp = i) := by omega
    simp [Result.andThen, sliced, h0, h0', Addr.add_lit]
  simp only [execOp, Option.map_none, Option.map_some, hA.ev hx, hA.ev hy, Sem.run_bind, h3, Result.andThen_ok, Sem.run_pure]
theorem yd_cvu {k : IntKind} {a : Int} {s t : TypeId} [hS : IntC P s k] [hD : IntC P t .u64] (hx : ev fr x = some (.int k a)) (h0 : 0 ≤ a) (h1 : a ≤ 18446744073709551615) : Yd P n fr H (.convert s t x) ty (.int .u64 a) := .mk fun c w d pos aft gd hA _ => by
  simp [execOp, hA.ev hx, convert, run_underlying hS.u, run_underlying hD.u, Conv.intToInt, IntWalk.u64_in _ ⟨h0, h1⟩]
theorem yd_shr1 {a : Int} {t t' : TypeId} (hx : ev fr x = some (.int .u64 a)) : Yd P n fr H (.binOp .shr t x (.const (.int .u64 1)) t') ty (.int .u64 (a / 2)) := .mk fun c w d pos aft gd hA _ => by
  have e : Op.shift .shr .u64 a .u64 1 = pure (.int .u64 (a / 2)) := by rw [shift_shr .u64 .u64 a 1 (by decide) (by decide)]; rfl
  have e2 : binOp .shr t (.int .u64 a) (.int .u64 1) = Op.shift .shr .u64 a .u64 1 := rfl
  have e3 : c.eval (.const (.int .u64 1)) = .int .u64 1 := rfl
  simp only [execOp, hA.ev hx, e3, eqGuard_shr, e2, e, Sem.run_bind, Sem.run_pure, Result.andThen_ok]
theorem yd_cap {a : Option Addr} {len cp t e m : Nat} [hS : SlC P t e m] (hx : ev fr x = some (.slice a len cp)) : Yd P n fr H (.call { callee := .builtin .cap, args := #[x], argTypes := #[t] }) ty (.int .i64 cp) := .mk fun ac w d pos aft gd hA _ => by
  simp [execOp, hA.ev hx, resolve, invoke, builtin, Builtin.cap_, run_underlying hS.u, goInt]
end
section
variable {c : Cx} {fr : Fr} {H k' : List Pc} {k : List It} {Φ : Gl} {d : Nat} {o : Op} {ty : TypeId} {v u : Value} {x y : Operand}
/-- an owned slice is its row -/
theorem t_rowof {α : Type} {E : Elem α} (sc : Scal E) {t n cp : Nat} {a : Option Addr} {xs : List α} {F : List Nat} {S : List Pc} (h0 : xs ≠ [])
    (h : ∀ g cs rest, a = some ⟨g, 0, none⟩ → n = xs.length → xs.length ≤ cp → cp ≤ 9223372036854775807 → cs.length = xs.length * E.sz → cs.length + rest.length = cp * E.sz → (∀ w, Flat E w cs xs []) → T c fr (.row g t 0 [] (cs ++ rest) [] :: S) Φ)
    (hp : Pick H (.ow E t (.slice a n cp) xs F) S := by (repeat (first | exact .here | apply Pick.there)); first | done | fail) : T c fr H Φ := .mk fun ac w s g' => by
  have s1 := s.pick hp
  obtain ⟨hnd, ho⟩ := s1.on (.ow E t (.slice a n cp) xs F) (by simp)
  have hF := ho.scal sc
  rcases ho with ⟨-, h2, -⟩ | ⟨g, cap, cs, rest, G, h1, h2, h3, h4, h5, h6, h7⟩
  · exact absurd h2 h0
  · cases h1
    have hG : G = [] := by rw [h7] at hF; simpa [Value.ownBlock] using hF
    subst hG h7
    have hl := h6.len
    refine (h g cs rest rfl rfl h3 (by unfold maxLen at h4; omega) hl h5 (fun w' => h6.all w')).h ac w (s1.conv rfl ⟨rfl, by simpa using h2⟩ (by simp [Pc.F])) g'
/-- .. and back -/
theorem t_owof {α : Type} {E : Elem α} {t g : Nat} {L cs rest : List Value} {xs : List α} {S : List Pc} (cp : Nat) (hL : L = cs ++ rest) (hf : ∀ w, Flat E w cs xs []) (h1 : xs.length ≤ cp) (h2 : cp ≤ 9223372036854775807) (h3 : L.length = cp * E.sz)
    (h : T c fr (.ow E t (.slice (some ⟨g, 0, none⟩) xs.length cp) xs [g] :: S) Φ) (hp : Pick H (.row g t 0 [] L []) S := by (repeat (first | exact .here | apply Pick.there)); first | done | fail) : T c fr H Φ := .mk fun ac w s g' => by
  subst hL
  have s1 := s.pick hp
  have hr := (s1.on (.row g t 0 [] (cs ++ rest) []) (by simp)).2
  exact h.h ac w (s1.conv rfl ⟨by simp, .inr ⟨g, cp, cs, rest, [], rfl, by simpa using hr, h1, by unfold maxLen; omega, by simpa using h3, hf w, rfl⟩⟩ (by simp [Pc.F])) g'
/-- an entry of the model that yields a value -/
theorem o_ext {f : Nat} {aS : List Operand} {ts : Array TypeId} {vs : List Value} (hd : Nat.blt d c.n = true) (ha : Evs fr aS vs) (hv : ∀ w, St c.G c.D c.w0 H w → (callFunc f vs.toArray).run c.P w = .ok (.value v) w) (h : T c ((d, v) :: fr) H Φ) : On c fr H (some d) (.call { callee := .value (.func f), args := aS.toArray, argTypes := ts }) ty Φ := ⟨fun _ _ _ => ef_of fun Q a w s g => by
  have e : ∀ pos aft gd, (execOp a.eval ⟨some d, .call { callee := .value (.func f), args := aS.toArray, argTypes := ts }, ty, pos, aft, gd⟩).run c.P w = .ok (.value v) w := by
    intro pos aft gd
    simp [execOp, resolve, Deferred.ofValue, Act.eval, invoke, g.evs ha, hv w s]
  rw [e]
  exact h.h _ _ s (g.put hd)⟩
theorem shape_row {w : World} {g : Nat} {t : TypeId} {cs : List Value} (h : Row w g t cs) : w.shape? g = some (t, cs.length) := by
  unfold World.shape?; rw [show w.heap[g]? = _ from h]; simp
/-- two rows do not overlap -/
theorem ovl {f : Nat} {tS tR e m : Nat} [hS : SlC c.P tS e m] {g o g2 o2 la ca lb cb t1 t2 : Nat} {L L2 : List Value}
    (he : ∀ (args : Array Value) (w : World), (callFunc f args).run c.P w = ((Extern.SlicesOverlaps.overlaps #[tS, tS] #[tR] args).run c.P w).andThen fun v w => .ok (.value v) w)
    (h1 : Pick H (.row g t1 0 [] L []) k') (h2 : .row g2 t2 0 [] L2 [] ∈ k') (hL : L2 ≠ []) (w : World) (s : St c.G c.D c.w0 H w) :
    (callFunc f [Value.slice (some ⟨g, o, none⟩) la ca, .slice (some ⟨g2, o2, none⟩) lb cb].toArray).run c.P w = .ok (.value (.bool false)) w := by
  have s1 := s.pick h1
  have r1 := (s1.on (.row g t1 0 [] L []) (by simp)).2
  have r2 := (s1.on (.row g2 t2 0 [] L2 []) (by simp [h2])).2
  have hne : g ≠ g2 := fun e' => s1.sep.1 (.row g2 t2 0 [] L2 []) h2 (by simp [Pc.mu]) g (by simp [Pc.F]) (by simp [Pc.F, e'])
  simp only [List.nil_append, List.append_nil] at r1 r2
  rw [he, Lib.run_overlaps_apart w tS tR e hS.u m (fun w => size_of hS.s w) ⟨g, o, none⟩ ⟨g2, o2, none⟩ la ca lb cb hne t1 t2 L.length L2.length (shape_row r1) (shape_row r2) (by simpa using hL) (r1.frozen _) (r1.frozen _)]
  rfl
theorem cpyM {P M Q d L : List Value} {o : Nat} (hL : L = P ++ M ++ Q) (ho : o = P.length) (hd : M.length = d.length) : P ++ d ++ Q = L.take o ++ d ++ L.drop (o + d.length) := by
  subst hL ho
  rw [List.append_assoc P M Q, List.take_left, ← hd, ← List.append_assoc, ← List.length_append, List.drop_left]
theorem shiftL {B R : List Value} (m : Nat) (h : m ≤ R.length) : ∃ X Y, B ++ R = X ++ Y ++ R.drop m ∧ X.length = m ∧ Y.length = B.length := by
  refine ⟨(B ++ R).take m, ((B ++ R).drop m).take B.length, ?_, by simp; omega, by simp; omega⟩
  have : R.drop m = ((B ++ R).drop m).drop B.length := by rw [List.drop_drop, Nat.add_comm, ← List.drop_drop, List.drop_left]
  rw [this, List.append_assoc, List.take_append_drop, List.take_append_drop]
/-- the world says what a row holds -/
theorem src_row {g t o m : Nat} {L cs : List Value} (h1 : .row g t 0 [] L [] ∈ H) (hc : cs = (L.drop o).take m) (w : World) (s : St c.G c.D c.w0 H w) : ∀ j u, cs[j]? = some u → w.cell? ((⟨g, o, none⟩ : Addr).add j) = some u := fun j u hu => by
  subst hc
  have r1 := (s.on (.row g t 0 [] L []) h1).2
  simp only [List.nil_append, List.append_nil] at r1
  rw [Addr.add_lit, r1.cell]
  rw [List.getElem?_take] at hu
  split at hu
  · rw [List.getElem?_drop] at hu; exact hu
  · cases hu
theorem run_copyN {P : Program} (w : World) (dT sT ty elem m : TypeId) (b o dLen dCap : Nat) (a : Addr) (sLen sCap : Nat) (cs : List Value)
    (hu : P.underlying dT = some (.slice elem)) (hs : (P.info? elem).map (·.size) = some m) (hn : cs.length = Nat.min sLen dLen * m)
    (hsrc : ∀ j v, cs[j]? = some v → w.cell? (a.add j) = some v) (hc : ∀ j, j < cs.length → (w.cell? ⟨b, o + j, none⟩).isSome = true) (hf : ∀ j, j < cs.length → w.frozen? ⟨b, o + j, none⟩ = false) (h1 : ∀ v ∈ cs, v.oneCell' = true) :
    (Builtin.copy_ #[dT, sT] ty #[.slice (some ⟨b, o, none⟩) dLen dCap, .slice (some a) sLen sCap]).run P w = .ok (goInt (Nat.min sLen dLen : Nat)) (w.setCells b o cs) := by
  have hl := run_loadCells_list (P := P) w a cs hsrc
  have hst := run_storeCells_cells (P := P) b o cs 0 w (by simpa using hc) (by simpa using hf) h1
  cases hq : P.info? elem with
  | none => simp [hq] at hs
  | some i =>
    have hi : i.size = m := by simpa [hq] using hs
    simp [Builtin.copy_, run_underlying hu, Builtin.lenOf, Builtin.firstCells, sizeOf, typeInfo, hq, hi, ← hn, hl, hst]
/-- copying into a row -/
theorem o_cpy {dT sT e m g t oo dn dc sn sc : Nat} {ad : Addr} {L L' cs : List Value} {S : List Pc} [hS : SlC c.P dT e m] (hd : Nat.blt d c.n = true) (hx : ev fr x = some (.slice (some ⟨g, oo, none⟩) dn dc)) (hy : ev fr y = some (.slice (some ad) sn sc))
    (hsrc : ∀ w, St c.G c.D c.w0 H w → ∀ j u, cs[j]? = some u → w.cell? (ad.add j) = some u) (hr : Rpl H (.row g t 0 [] L []) (.row g t 0 [] L' []) S)
    (hL : L' = L.take oo ++ cs ++ L.drop (oo + cs.length)) (hn : cs.length = Nat.min sn dn * m) (hfit : oo + cs.length ≤ L.length) (h1 : ∀ v ∈ cs, v.oneCell' = true) (h : T c ((d, .int .i64 (Nat.min sn dn : Nat)) :: fr) S Φ) :
    On c fr H (some d) (.call { callee := .builtin .copy, args := #[x, y], argTypes := #[dT, sT] }) ty Φ := ⟨fun _ _ _ => ef_of fun Q a w s ag => by
  have hP : (Pc.row g t 0 [] L []).P w := by obtain ⟨R, h1, _⟩ := hr.picks; exact s.on _ h1.mem
  have r1 := hP.2
  simp only [List.nil_append, List.append_nil] at r1
  have hrun := fun ty => run_copyN (P := c.P) w dT sT ty e m g oo dn dc ad sn sc cs hS.u hS.s hn (hsrc w s) (fun j hj => by rw [r1.cell, List.getElem?_eq_getElem (by omega)]; rfl) (fun j hj => r1.frozen _) h1
  have e1 : ∀ pos aft gd, (execOp a.eval ⟨some d, .call { callee := .builtin .copy, args := #[x, y], argTypes := #[dT, sT] }, ty, pos, aft, gd⟩).run c.P w = .ok (.value (goInt (Nat.min sn dn : Nat))) (w.setCells g oo cs) := by
    intro pos aft gd
    simp only [execOp, resolve, invoke, builtin, Sem.run_bind, Sem.run_pure, Result.andThen_ok, List.map_toArray, List.map_cons, List.map_nil, ag.ev hx, ag.ev hy, hrun]
  rw [e1]
  have hsplit : L = L.take oo ++ (L.drop oo).take cs.length ++ L.drop (oo + cs.length) := by
    rw [← List.drop_drop, List.append_assoc, List.take_append_drop, List.take_append_drop]
  have r2 := r1
  rw [hsplit] at r2
  have r3 := Row.put cs _ r2 (p := oo) (by simp; omega) (by simp; omega)
  have hk := putCells_keep (g := g) cs w oo
  rw [putCells_eq w g cs w] at r3 hk
  rw [← hL] at r3
  refine h.h _ _ (s.rpl hr rfl (fun b hb => .inl hb) hk ⟨rfl, by simpa using r3⟩) (ag.put hd)⟩
/-- zeros appended that make a slice grow: to a part of a row -/
theorem o_apgz {t tn e m b g oo n cp k : Nat} {zv : Value} {olds : List Value} {q : Int} [hS : SlC c.P t e m] [hE : ElT c.P e zv m b] [hI : IntC c.P tn .i64] (hd : Nat.blt d c.n = true) (hx : ev fr x = some (.slice (some ⟨g, oo, none⟩) n cp)) (hy : ev fr y = some (.int .i64 q)) (hq : q = (k : Int))
    (hso : ∀ w, St c.G c.D c.w0 H w → ∀ j u, olds[j]? = some u → w.cell? ((⟨g, oo, none⟩ : Addr).add j) = some u)
    (hlo : olds.length = n * m) (hm : 0 < m) (hk : 0 < k) (hg : cp < n + k) (h63 : n + k ≤ 4294967296) (hby : (n + k) * b ≤ 140737488355328)
    (h : ∀ g' cp' Z rest, n + k ≤ cp' → cp' ≤ 9223372036854775807 → Z.length = k * m → (olds ++ Z ++ rest).length = cp' * m → T c ((d, .slice (some ⟨g', 0, none⟩) ((n + k : Nat)) cp') :: fr) (.row g' e 0 [] (olds ++ Z ++ rest) [] :: H) Φ) :
    On c fr H (some d) (.call { callee := .builtin .append, args := #[x, y], argTypes := #[t, tn] }) ty Φ := ⟨fun _ _ _ => ef_of fun Q a w s ag => by
  subst hq
  obtain ⟨i, hi, hiz⟩ := Option.map_eq_some_iff.1 hE.i
  simp only [Prod.mk.injEq] at hiz
  obtain ⟨i1, i2, i3⟩ := hiz
  subst i2 i3
  have hold : (Builtin.firstCells i.size n (.slice (some ⟨g, oo, none⟩) n cp)).run c.P w.drew = .ok olds.toArray w.drew := run_firstCells_some w.drew i.size n ⟨g, oo, none⟩ n cp olds hlo (fun j v hj => hso w s j v hj)
  have hr := fun ty => Lib.run_append_grow_zeros (P := c.P) w t tn ty e i zv .i64 .i64 hS.u hI.u hi i1 (some ⟨g, oo, none⟩) n cp olds hold k hk hm hg (by omega) (Nat.le_trans (Nat.mul_le_mul_right _ (by omega)) (Nat.le_trans hby (by decide))) (growslice_fits hg hby)
  have e1 : ∀ pos aft gd, (execOp a.eval ⟨some d, .call { callee := .builtin .append, args := #[x, y], argTypes := #[t, tn] }, ty, pos, aft, gd⟩).run c.P w = .ok (.value (.slice (some ⟨w.heap.size, 0, none⟩) (n + k) (grownCap w (n + k) cp e))) (w.drew.alloc (.cells (olds.toArray ++ Builtin.zeroCells zv.cells k ++ Builtin.zeroCells zv.cells (grownCap w (n + k) cp e - (n + k))) e)) := by
    intro pos aft gd
    simp only [execOp, resolve, invoke, builtin, Sem.run_bind, Sem.run_pure, Result.andThen_ok, List.map_toArray, List.map_cons, List.map_nil, ag.ev hx, ag.ev hy, hr]
  rw [e1]
  have hge := grownCap_ge w (n + k) cp e
  have hle := grownCap_le_maxLen w (n + k) cp e (by unfold maxLen; omega)
  have hBel : Below w.heap.size w (w.drew.alloc (.cells (olds.toArray ++ Builtin.zeroCells zv.cells k ++ Builtin.zeroCells zv.cells (grownCap w (n + k) cp e - (n + k))) e)) := (belowDrewN (Below.refl w.heap.size w) 1).alloc (Nat.le_refl _) _
  have hz : ∀ q, (Builtin.zeroCells zv.cells q).toList.length = q * i.size := fun q => by rw [zeroCells_len, hE.s]
  refine (h w.heap.size (grownCap w (n + k) cp e) (Builtin.zeroCells zv.cells k).toList (Builtin.zeroCells zv.cells (grownCap w (n + k) cp e - (n + k))).toList hge (by unfold maxLen at hle; omega) (hz k) ?_).h _ _ (s.add (N := [.row w.heap.size e 0 [] (olds ++ (Builtin.zeroCells zv.cells k).toList ++ (Builtin.zeroCells zv.cells (grownCap w (n + k) cp e - (n + k))).toList) []]) hBel ?_ ⟨by simp, trivial⟩ ?_) (ag.put hd)
  · rw [List.length_append, List.length_append, hz, hz, hlo, ← Nat.add_mul, ← Nat.add_mul]; congr 1; omega
  · intro p hp
    rw [List.mem_singleton] at hp; subst hp
    refine ⟨rfl, ?_⟩
    have := Row.made w.drew e (olds ++ (Builtin.zeroCells zv.cells k).toList ++ (Builtin.zeroCells zv.cells (grownCap w (n + k) cp e - (n + k))).toList)
    rw [List.nil_append, List.append_nil]
    have e2 : (olds ++ (Builtin.zeroCells zv.cells k).toList ++ (Builtin.zeroCells zv.cells (grownCap w (n + k) cp e - (n + k))).toList).toArray = olds.toArray ++ Builtin.zeroCells zv.cells k ++ Builtin.zeroCells zv.cells (grownCap w (n + k) cp e - (n + k)) := by apply Array.ext'; simp
    rw [e2] at this
    exact this
  · intro p hp b hb
    rw [List.mem_singleton] at hp; subst hp
    simp [Pc.F] at hb; subst hb
    exact .inl (Nat.le_refl _)⟩
/-- a part of a slice that nobody looks at -/
theorem o_slany {t e m n cp i : Nat} {a : Option Addr} {q : Int} [hS : SlC c.P t e m] (hd : Nat.blt d c.n = true) (hx : ev fr x = some (.slice a n cp)) (hy : ev fr y = some (.int .i64 q)) (hq : q = (i : Int)) (hi : i ≤ n) (h : ∀ v, T c ((d, v) :: fr) H Φ) (hlc : n ≤ cp := by omega) : On c fr H (some d) (.slice t x (some y) none none) ty Φ := ⟨fun _ _ _ => ef_of fun Q ac w s g => by
  subst hq
  have he2 := elem_of hS
  obtain ⟨v, h3⟩ : ∃ v, (Instr.sliceAt t (.slice a n cp) (some (.int .i64 (i : Int))) none none).run c.P w = .ok v w := by
    rw [run_sliceAt_slice (h := by rw [he2]; exact hS.u), run_slice_l (ht := by rw [he2]; exact hS.u) (h0 := by omega) (h1 := by omega), he2, size_of hS.s]
    exact ⟨_, rfl⟩
  have e1 : ∀ pos aft gd, (execOp ac.eval ⟨some d, .slice t x (some y) none none, ty, pos, aft, gd⟩).run c.P w = .ok (.value v) w := by
    intro pos aft gd
    simp only [execOp, Option.map_none, Option.map_some, g.ev hx, g.ev hy, Sem.run_bind, h3, Result.andThen_ok, Sem.run_pure]
  rw [e1]
  exact (h v).h _ w s (g.put hd)⟩
end
end Go.Proofs.Ytgogcgkocjpgoaa
/- Functions bound to a receiver, clearing, loops beside pieces that are not told. -/
namespace Go.Proofs.Ytgogcgkocjpgoaa
open Go.RowKit
section
variable {P : Program} {n : Nat} {fr : Fr} {H : List Pc} {ty : TypeId}
end
section
variable {c : Cx} {fr : Fr} {H : List Pc} {k : List It} {Φ : Gl} {d : Nat} {ty : TypeId} {x : Operand}
theorem o_callb {fo : Operand} {f : Nat} {bd caps : List Value} {aS : List Operand} {ts : Array TypeId} {vs : List Value} (hd : Nat.blt d c.n = true) (hf : ev fr fo = some (.func (.func f) bd.toArray caps.toArray)) (hb : bodyB c.P f = true) (ha : Evs fr aS vs) (h : Cl c fr H d f (bd ++ vs ++ caps) Φ) : On c fr H (some d) (.call { callee := .value fo, args := aS.toArray, argTypes := ts }) ty Φ := ⟨fun _ _ _ => ef_of fun Q a w s g => by
  have e : ∀ pos aft gd, (execOp a.eval ⟨some d, .call { callee := .value fo, args := aS.toArray, argTypes := ts }, ty, pos, aft, gd⟩).run c.P w = (callFunc f (bd ++ vs ++ caps).toArray).run c.P w := by
    intro pos aft gd
    simp [execOp, resolve, Deferred.ofValue, g.ev hf, invoke, g.evs ha]
  rw [e]
  obtain ⟨R, hc, hk⟩ := h.h w s
  refine (body_of hb).upon hc fun e w' hR => ?_
  obtain ⟨v, he, hv⟩ := hk e w' hR
  exact ⟨v, he, hv _ (g.put hd)⟩⟩
/-- where an owned slice of plain elements lies -/
theorem t_head {α : Type} {E : Elem α} (sc : Scal E) {t n cp : Nat} {a : Option Addr} {xs : List α} {F : List Nat} (h0 : xs ≠ [])
    (h : ∀ g, a = some ⟨g, 0, none⟩ → F = [g] → n = xs.length → n ≤ cp → cp ≤ 9223372036854775807 → T c fr H Φ) (hm : .ow E t (.slice a n cp) xs F ∈ H := by (repeat (first | exact .head _ | apply List.Mem.tail)); first | done | fail) : T c fr H Φ := .mk fun ac w s g' => by
  obtain ⟨hnd, ho⟩ := s.get hm
  have hF := ho.scal sc
  rcases ho with ⟨-, h2, -⟩ | ⟨g, cap, cs, rest, G, h1, h2, h3, h4, h5, h6, h7⟩
  · exact absurd h2 h0
  · cases h1
    exact (h g rfl (by simpa [Value.ownBlock] using hF) rfl h3 (by unfold maxLen at h4; omega)).h ac w s g'
theorem Flat.rep0 {α : Type} {E : Elem α} {w : World} {zs : List Value} {z : α} (h : E.rep w zs z []) : ∀ n, Flat E w (List.replicate n zs).flatten (List.replicate n z) []
  | 0 => ⟨rfl, rfl⟩
  | n + 1 => ⟨zs, (List.replicate n zs).flatten, [], [], by simp [List.replicate_succ], by simp, h, Flat.rep0 h n⟩
theorem zeroCells_flat (z : Array Value) (n : Nat) : (Builtin.zeroCells z n).toList = (List.replicate n z.toList).flatten := by
  have := madeCells_flat z n
  exact this
/-- the elements from i on are cleared -/
theorem o_clr {α : Type} {E : Elem α} (sc : Scal E) {t e m b g n cp i : Nat} {zv : Value} {z0 : α} [hS : SlC c.P t e m] [hE : ElT c.P e zv m b] (hz : ∀ w, E.rep w zv.cells.toList z0 []) (one : ∀ u ∈ zv.cells, u.oneCell' = true) (hm : E.sz = m) {xs : List α} {F : List Nat} {S : List Pc}
    (hx : ev fr x = some (.slice (some ⟨g, 0 + i * m, none⟩) (n - i) (cp - i))) (hi : i < n) (hn : n = xs.length) (hp : Pick H (.ow E e (.slice (some ⟨g, 0, none⟩) n cp) xs F) S) (h : T c fr (.ow E e (.slice (some ⟨g, 0, none⟩) n cp) (xs.take i ++ List.replicate (n - i) z0) F :: S) Φ) :
    On c fr H none (.call { callee := .builtin .clear, args := #[x], argTypes := #[t] }) ty Φ := ⟨fun _ _ _ => ef_of fun Q a w s ag => by
  subst hm
  have s1 := s.pick hp
  obtain ⟨hnd, ho⟩ := s1.on (.ow E e (.slice (some ⟨g, 0, none⟩) n cp) xs F) (by simp)
  have hF := ho.scal sc
  rcases ho with ⟨h1, -, -⟩ | ⟨g2, cap, cs, rest, G, h1, h2, h3, h4, h5, h6, h7⟩
  · cases h1
  cases h1
  have hG : G = [] := by rw [h7] at hF; simpa [Value.ownBlock] using hF
  subst hG h7
  have hl := h6.len
  obtain ⟨f1, f2⟩ := h6.cutL i (by omega)
  have hcs := List.take_append_drop (i * E.sz) cs
  have hd1 : (cs.take (i * E.sz)).length = i * E.sz := by have := f1.len; rw [List.length_take (l := xs), Nat.min_eq_left (by omega)] at this; exact this
  have hd2 : (cs.drop (i * E.sz)).length = (xs.length - i) * E.sz := by have := f2.len; rwa [List.length_drop (l := xs)] at this
  have hr := fun ty => run_clear_rows (P := c.P) w t e ty zv hS.u (zeroValue_of hE.i) one g (0 + i * E.sz) (xs.length - i) (cp - i) (by omega)
    (fun j hj => by rw [hE.s] at hj; rw [h2.cell, List.getElem?_eq_getElem (by rw [List.length_append, ← hcs, List.length_append, hd1, hd2]; omega)]; rfl) (fun j _ => h2.frozen _)
  have e1 : ∀ pos aft gd, (execOp a.eval ⟨none, .call { callee := .builtin .clear, args := #[x], argTypes := #[t] }, ty, pos, aft, gd⟩).run c.P w = .ok (.value (.tuple #[])) (w.setCells g (0 + i * E.sz) (Builtin.zeroCells zv.cells (xs.length - i)).toList) := by
    intro pos aft gd
    simp only [execOp, resolve, invoke, builtin, Sem.run_bind, Sem.run_pure, Result.andThen_ok, List.map_toArray, List.map_cons, List.map_nil, ag.ev hx, hr]
  rw [e1]
  have hzl : (Builtin.zeroCells zv.cells (xs.length - i)).toList.length = (xs.length - i) * E.sz := by rw [zeroCells_len, hE.s]
  have R0 : Row w g e (cs.take (i * E.sz) ++ cs.drop (i * E.sz) ++ rest) := by rw [hcs]; exact h2
  have R1 := Row.put (Builtin.zeroCells zv.cells (xs.length - i)).toList _ R0 (p := 0 + i * E.sz) (by omega) (by rw [hzl, hd2])
  have hk := putCells_keep (g := g) (Builtin.zeroCells zv.cells (xs.length - i)).toList w (0 + i * E.sz)
  rw [putCells_eq w g] at R1 hk
  have hW : (Pc.ow E e (.slice (some ⟨g, 0, none⟩) xs.length cp) (xs.take i ++ List.replicate (xs.length - i) z0) [g]).P (w.setCells g (0 + i * E.sz) (Builtin.zeroCells zv.cells (xs.length - i)).toList) := by
    have hll : (xs.take i ++ List.replicate (xs.length - i) z0).length = xs.length := by rw [List.length_append, List.length_take, List.length_replicate]; omega
    have hfl : Flat E (w.setCells g (0 + i * E.sz) (Builtin.zeroCells zv.cells (xs.length - i)).toList) (cs.take (i * E.sz) ++ (Builtin.zeroCells zv.cells (xs.length - i)).toList) (xs.take i ++ List.replicate (xs.length - i) z0) [] := by
      rw [zeroCells_flat]
      exact (f1.all _).append (Flat.rep0 (hz _) _)
    refine ⟨by simp, .inr ⟨g, cp, cs.take (i * E.sz) ++ (Builtin.zeroCells zv.cells (xs.length - i)).toList, rest, [], by rw [hll], R1, by rw [hll]; exact h3, h4, ?_, hfl, rfl⟩⟩
    rw [List.length_append, hzl, hd1, ← Nat.add_mul]
    rw [← h5, hl]
    congr 2
    omega
  exact h.h _ _ (St.turn (M := [.ow E e (.slice (some ⟨g, 0, none⟩) xs.length cp) xs [g]]) (N := [.ow E e (.slice (some ⟨g, 0, none⟩) xs.length cp) (xs.take i ++ List.replicate (xs.length - i) z0) [g]]) s1 (by simpa [List.filter, Pc.mu, fp, Pc.F] using hk) (by intro q hq; rw [List.mem_singleton] at hq; subst hq; exact hW) ⟨by simp, trivial⟩ (by
      intro q hq b hb
      rw [List.mem_singleton] at hq; subst hq
      exact .inr (.inl ⟨_, List.mem_singleton.2 rfl, rfl, hb⟩))) ag⟩
end
end Go.Proofs.Ytgogcgkocjpgoaa
/- Slices whose elements have blocks of their own: their cells and what stands behind them, told apart. Plain: no program in sight. -/
namespace Go.Proofs.Ytgogcgkocjpgoaa
open Go.RowKit
theorem lenE {p : Prop} (h : p := by first | omega | (simp only [List.length_append, List.length_take, List.length_drop, List.length_cons, List.length_nil, List.length_set, List.length_replicate]; omega)) : p := h
/-- m cells, whatever they hold -/
def EC (m : Nat) : Elem (List Value) where
  sz := m
  rep _ cs x F := cs = x ∧ (x.length = m ∧ ∀ u ∈ x, u.oneCell' = true) ∧ F = []
  len h := by obtain ⟨rfl, ⟨h, _⟩, _⟩ := h; exact h
  lt h := by obtain ⟨_, _, rfl⟩ := h; simp
  frame h _ := h
theorem scal_EC (m : Nat) : Scal (EC m) := fun h => h.2.2
theorem one_EC (m : Nat) : One (EC m) := fun h => by obtain ⟨rfl, ⟨_, h⟩, _⟩ := h; exact h
theorem ec_flat {m : Nat} {w : World} : ∀ {ys : List (List Value)} {cs : List Value} {F : List Nat}, Flat (EC m) w cs ys F → cs = ys.flatten ∧ F = [] ∧ ∀ y ∈ ys, y.length = m
  | [], _, _, h => ⟨h.1, h.2, by simp⟩
  | y :: r, _, _, h => by
    obtain ⟨c1, c2, F1, F2, rfl, rfl, ⟨rfl, ⟨h1, _⟩, rfl⟩, h2⟩ := h
    obtain ⟨rfl, rfl, h4⟩ := ec_flat h2
    refine ⟨by simp, rfl, fun z hz => ?_⟩
    rcases List.mem_cons.1 hz with rfl | hz
    · exact h1
    · exact h4 z hz
theorem flat_ec {α : Type} {E : Elem α} {w w' : World} (one : One E) : ∀ {xs : List α} {cs : List Value} {G : List Nat}, Flat E w cs xs G → ∃ ys : List (List Value), ys.length = xs.length ∧ cs = ys.flatten ∧ (∀ y ∈ ys, y.length = E.sz) ∧ Flat (EC E.sz) w' cs ys []
  | [], _, _, h => ⟨[], rfl, h.1, by simp, h.1, rfl⟩
  | x :: r, _, _, h => by
    obtain ⟨c1, c2, F1, F2, rfl, rfl, h1, h2⟩ := h
    obtain ⟨ys, e1, rfl, e2, h3⟩ := flat_ec (w' := w') one h2
    refine ⟨c1 :: ys, by simp [e1], by simp, fun z hz => ?_, c1, ys.flatten, [], [], rfl, rfl, ⟨rfl, ⟨E.len h1, one h1⟩, rfl⟩, h3⟩
    rcases List.mem_cons.1 hz with rfl | hz
    · exact E.len h1
    · exact e2 z hz
theorem flat_len {m : Nat} : ∀ {ys : List (List Value)}, (∀ y ∈ ys, y.length = m) → ys.flatten.length = ys.length * m
  | [], _ => by simp
  | y :: r, h => by
    have := flat_len (m := m) (ys := r) fun z hz => h z (by simp [hz])
    rw [List.flatten_cons, List.length_append, this, h y (by simp), List.length_cons, Nat.add_mul]; omega
theorem Flat.cut {α : Type} {E : Elem α} {w : World} {c1 c2 : List Value} {x1 x2 : List α} {G : List Nat} (h : Flat E w (c1 ++ c2) (x1 ++ x2) G) (hl : c1.length = x1.length * E.sz) : ∃ G1 G2, G = G1 ++ G2 ∧ Flat E w c1 x1 G1 ∧ Flat E w c2 x2 G2 := by
  obtain ⟨d1, d2, G1, G2, he, hG, h1, h2⟩ := h.split
  have : d1.length = c1.length := by rw [h1.len, hl]
  obtain ⟨rfl, rfl⟩ := List.append_inj he this.symm
  exact ⟨G1, G2, hG, h1, h2⟩
theorem sep_nd : ∀ {N : List Pc}, (fp N).Nodup → Sep N
  | [], _ => trivial
  | p :: N, h => ⟨fun q hq _ b hb hqb => nodup_apt h hb (mem_fp.2 ⟨q, hq, hqb⟩), sep_nd (List.nodup_append.1 h).2.1⟩
theorem St.swap {G D w0 H M N R w} (s : St G D w0 H w) (hM : Picks H M R) (hm : ∀ p ∈ M, p.mu = true) (hN : Hol N w) (hnd : (fp M).Nodup → (fp N).Nodup) (hF : ∀ b ∈ fp N, b ∈ fp M) : St G D w0 (N ++ R) w :=
  have s1 : St G D w0 (M ++ R) w := by simpa using hM.st (X := []) (by simpa using s)
  have sM : Sep M := by
    have : ∀ (M : List Pc), Sep (M ++ R) → Sep M := by
      intro M
      induction M with
      | nil => intro _; trivial
      | cons p M ih => intro h; exact ⟨fun q hq => h.1 q (by simp [hq]), ih h.2⟩
    exact this M s1.sep
  have hn : (fp M).Nodup := fp_nd (by simpa using hm) (fun p hp => s1.on p (by simp [hp])) sM
  St.turn (M := M) (N := N) s1 (Keep.refl _ w) hN (sep_nd (hnd hn)) fun p hp b hb => by
    obtain ⟨q, hq, hqb⟩ := mem_fp.1 (hF b (mem_fp.2 ⟨p, hp, hb⟩))
    exact .inr (.inl ⟨q, hq, hm q hq, hqb⟩)
section
variable {c : Cx} {fr : Fr} {H : List Pc} {Φ : Gl}
/-- the cells of an owned slice, and what stands behind them -/
theorem t_shal {α : Type} {E : Elem α} (one : One E) {t : TypeId} {v : Value} {xs : List α} {F : List Nat} {S : List Pc} {m : Nat} (hm : E.sz = m)
    (h : ∀ (ys : List (List Value)) F0 G, ys.length = xs.length → (∀ y ∈ ys, y.length = m) → T c fr (.ow (EC m) t v ys F0 :: .flat E ys.flatten xs G :: S) Φ) (hp : Pick H (.ow E t v xs F) S := by (repeat (first | exact .here | apply Pick.there)); first | done | fail) : T c fr H Φ := .mk fun a w s g => by
  subst hm
  have s1 := s.pick hp
  obtain ⟨hnd, ho⟩ := s1.on (.ow E t v xs F) (by simp)
  rcases ho with ⟨rfl, rfl, rfl⟩ | ⟨b, cap, cs, rest, G, rfl, h2, h3, h4, h5, h6, rfl⟩
  · refine (h [] [] [] rfl (by simp)).h a w (s1.swap (M := [_]) (N := [.ow (EC E.sz) t (.slice none 0 0) [] [], .flat E [] [] []]) (.cons .here .nil) (by intro p hp; simp at hp; subst hp; rfl) ?_ (fun _ => by simp [fp, Pc.F]) (by simp [fp, Pc.F])) g
    intro p hp
    simp only [List.mem_cons, List.not_mem_nil, or_false] at hp
    rcases hp with rfl | rfl
    · exact ⟨by simp, .inl ⟨rfl, rfl, rfl⟩⟩
    · exact ⟨by simp, rfl, rfl⟩
  · obtain ⟨ys, e1, rfl, e2, h7⟩ := flat_ec (w' := w) one h6
    refine (h ys [b] G e1 e2).h a w (s1.swap (M := [_]) (N := [.ow (EC E.sz) t (.slice (some ⟨b, 0, none⟩) xs.length cap) ys [b], .flat E ys.flatten xs G]) (.cons .here .nil) (by intro p hp; simp at hp; subst hp; rfl) ?_ (fun hn => by simpa [fp, Pc.F] using hn) (by simp [fp, Pc.F])) g
    intro p hp
    simp only [List.mem_cons, List.not_mem_nil, or_false] at hp
    rcases hp with rfl | rfl
    · exact ⟨by simp, .inr ⟨b, cap, ys.flatten, rest, [], by rw [e1], h2, by rw [e1]; exact h3, h4, h5, h7, rfl⟩⟩
    · exact ⟨(List.nodup_cons.1 hnd).2, h6⟩
/-- .. and back -/
theorem t_deep {α : Type} {E : Elem α} {t : TypeId} {a : Option Addr} {n cp : Nat} {ys : List (List Value)} {cs : List Value} {xs : List α} {F G : List Nat} {S S2 : List Pc} {m : Nat}
    (h : T c fr (.ow E t (.slice a n cp) xs (F ++ G) :: S2) Φ) (hm : E.sz = m) (hc : cs = ys.flatten) (hl : ys.length = xs.length) (hp : Pick H (.ow (EC m) t (.slice a n cp) ys F) S := by (repeat (first | exact .here | apply Pick.there)); first | done | fail) (hp2 : Pick S (.flat E cs xs G) S2 := by (repeat (first | exact .here | apply Pick.there)); first | done | fail) : T c fr H Φ := .mk fun ac w s g => by
  subst hm hc
  have a1 := s.on _ hp.mem
  have a2 := s.on _ (hp.sub _ hp2.mem)
  obtain ⟨nd1, o1⟩ := a1
  obtain ⟨nd2, f2⟩ := a2
  refine h.h ac w (s.swap (M := [.ow (EC E.sz) t (.slice a n cp) ys F, .flat E ys.flatten xs G]) (N := [.ow E t (.slice a n cp) xs (F ++ G)]) (.cons hp (.cons hp2 .nil)) (by intro p hp; simp at hp; rcases hp with rfl | rfl <;> rfl) ?_ (fun hn => by simpa [fp, Pc.F] using hn) (by simp [fp, Pc.F])) g
  have hnd : (F ++ G).Nodup := by
    have s2 := s.pick hp
    refine List.nodup_append.2 ⟨nd1, nd2, fun b hb b' hb' e => ?_⟩
    subst e
    exact s2.sep.1 (.flat E ys.flatten xs G) hp2.mem rfl b hb hb'
  intro p hp
  simp only [List.mem_cons, List.not_mem_nil, or_false] at hp
  subst hp
  refine ⟨hnd, ?_⟩
  rcases o1 with ⟨h1, rfl, rfl⟩ | ⟨b, cap, cs, rest, G', h1, h2, h3, h4, h5, h6, rfl⟩
  · cases h1
    have : xs = [] := List.eq_nil_of_length_eq_zero hl.symm
    subst this
    exact .inl ⟨rfl, rfl, by simpa using f2.2⟩
  · cases h1
    obtain ⟨rfl, rfl, -⟩ := ec_flat h6
    exact .inr ⟨b, cp, ys.flatten, rest, G, by rw [hl], h2, by rw [← hl]; exact h3, h4, h5, f2, rfl⟩
/-- what stands behind one element -/
theorem t_fcut {α : Type} {E : Elem α} {ys : List (List Value)} {xs : List α} {G : List Nat} {S : List Pc} (i : Nat) (hi : i < xs.length) (hl : ys.length = xs.length) (hm : ∀ y ∈ ys, y.length = E.sz)
    (h : ∀ G1 Gi G2, T c fr (.flat E (ys.take i).flatten (xs.take i) G1 :: .own E (.agg (ys[i]'(by omega)).toArray) xs[i] Gi :: .flat E (ys.drop (i + 1)).flatten (xs.drop (i + 1)) G2 :: S) Φ) (hp : Pick H (.flat E ys.flatten xs G) S := by (repeat (first | exact .here | apply Pick.there)); first | done | fail) : T c fr H Φ := .mk fun ac w s g => by
  have s1 := s.pick hp
  obtain ⟨hnd, hf⟩ := s1.on (.flat E ys.flatten xs G) (by simp)
  have e1 : ys.flatten = (ys.take i).flatten ++ (ys[i]'(by omega) ++ (ys.drop (i + 1)).flatten) := by
    rw [← List.flatten_cons, ← List.drop_eq_getElem_cons, ← List.flatten_append, List.take_append_drop]
  have e2 : xs = xs.take i ++ ([xs[i]] ++ xs.drop (i + 1)) := by simp
  have hf2 : Flat E w ((ys.take i).flatten ++ (ys[i]'(by omega) ++ (ys.drop (i + 1)).flatten)) (xs.take i ++ ([xs[i]] ++ xs.drop (i + 1))) G := by rw [← e1, ← e2]; exact hf
  obtain ⟨G1, G', rfl, f1, f2⟩ := hf2.cut (by rw [flat_len (m := E.sz) fun y hy => hm y (List.mem_of_mem_take hy)]; simp [hl])
  obtain ⟨Gi, G2, rfl, ⟨d1, d2, F1, F2, h1, h2, h3, h4⟩, f3⟩ := f2.cut (by rw [hm _ (List.getElem_mem _)]; simp)
  obtain ⟨rfl, rfl⟩ := h4
  simp only [List.append_nil] at h1 h2
  subst h1 h2
  refine (h G1 Gi G2).h ac w (s1.swap (M := [_]) (N := [.flat E (ys.take i).flatten (xs.take i) G1, .own E (.agg (ys[i]'(by omega)).toArray) xs[i] Gi, .flat E (ys.drop (i + 1)).flatten (xs.drop (i + 1)) G2]) (.cons .here .nil) (by intro p hp; simp at hp; subst hp; rfl) ?_ (fun hn => by simpa [fp, Pc.F] using hn) (by simp [fp, Pc.F])) g
  have hn1 := List.nodup_append.1 hnd
  have hn2 := List.nodup_append.1 hn1.2.1
  intro p hp
  simp only [List.mem_cons, List.not_mem_nil, or_false] at hp
  rcases hp with rfl | rfl | rfl
  · exact ⟨hn1.1, f1⟩
  · exact ⟨hn2.1, _, rfl, h3⟩
  · exact ⟨hn2.2.1, f3⟩
theorem t_fjoin {α : Type} {E : Elem α} {c1 c2 : List Value} {x1 x2 : List α} {G1 G2 : List Nat} {S S2 : List Pc} (h : T c fr (.flat E (c1 ++ c2) (x1 ++ x2) (G1 ++ G2) :: S2) Φ) (hp : Pick H (.flat E c1 x1 G1) S := by (repeat (first | exact .here | apply Pick.there)); first | done | fail) (hp2 : Pick S (.flat E c2 x2 G2) S2 := by (repeat (first | exact .here | apply Pick.there)); first | done | fail) : T c fr H Φ := .mk fun ac w s g => by
  obtain ⟨nd1, f1⟩ := s.on _ hp.mem
  obtain ⟨nd2, f2⟩ := s.on _ (hp.sub _ hp2.mem)
  refine h.h ac w (s.swap (M := [.flat E c1 x1 G1, .flat E c2 x2 G2]) (N := [.flat E (c1 ++ c2) (x1 ++ x2) (G1 ++ G2)]) (.cons hp (.cons hp2 .nil)) (by intro p hp; simp at hp; rcases hp with rfl | rfl <;> rfl) ?_ (fun hn => by simpa [fp, Pc.F] using hn) (by simp [fp, Pc.F])) g
  intro p hq
  simp only [List.mem_cons, List.not_mem_nil, or_false] at hq
  subst hq
  refine ⟨List.nodup_append.2 ⟨nd1, nd2, fun b hb b' hb' e => ?_⟩, f1.append f2⟩
  subst e
  exact (s.pick hp).sep.1 (.flat E c2 x2 G2) hp2.mem rfl b hb hb'
/-- one element of an owned slice that has blocks of its own: its cells, what stands behind it; what stands behind the others -/
def HoleO {α : Type} (E : Elem α) (t : TypeId) (g : Nat) (v : Value) (xs : List α) (i : Nat) (A B c1 c2 : List Value) : Prop :=
  ∀ w cs y G1 Gi G2, Row w g t (A ++ cs ++ B) → Flat E w c1 (xs.take i) G1 → E.rep w cs y Gi → Flat E w c2 (xs.drop (i + 1)) G2 → Ow E t w v (xs.set i y) (g :: (G1 ++ Gi ++ G2))
theorem focO {α : Type} {E : Elem α} {t : TypeId} {a : Option Addr} {n cp m : Nat} {xs : List α} {F : List Nat} {S : List Pc} (i : Nat)
    (h : ∀ (_ : i < xs.length) g A cs B c1 c2 G1 Gi G2, a = some ⟨g, 0, none⟩ → n = xs.length → n ≤ cp → HoleO E t g (.slice (some ⟨g, 0, none⟩) n cp) xs i A B c1 c2 → T c fr (.row g t (0 + i * m) A cs B :: .own E (.agg cs.toArray) xs[i] Gi :: .flat E c1 (xs.take i) G1 :: .flat E c2 (xs.drop (i + 1)) G2 :: S) Φ)
    (hm : E.sz = m) (hi : i < xs.length) (hp : Pick H (.ow E t (.slice a n cp) xs F) S := by (repeat (first | exact .here | apply Pick.there)); first | done | fail) : T c fr H Φ := .mk fun ac w s ag => by
  subst hm
  have s1 := s.pick hp
  obtain ⟨hnd, ho⟩ := s1.on (.ow E t (.slice a n cp) xs F) (by simp)
  rcases ho with ⟨-, rfl, -⟩ | ⟨g, cap, cs0, rest, G, h1, h2, h3, h4, h5, h6, rfl⟩
  · simp at hi
  cases h1
  obtain ⟨A, cs, B, G1, Gi, G2, rfl, rfl, hA, hc, f1, f2, f3⟩ := h6.focus i hi
  refine (h hi g A cs (B ++ rest) A B G1 Gi G2 rfl rfl h3 ?_).h ac w (s1.swap (M := [_]) (N := [.row g t (0 + i * E.sz) A cs (B ++ rest), .own E (.agg cs.toArray) xs[i] Gi, .flat E A (xs.take i) G1, .flat E B (xs.drop (i + 1)) G2]) (.cons .here .nil) (by intro p hp; simp at hp; subst hp; rfl) ?_ (fun hn => ?_) (fun b hb => ?_)) ag
  · intro w' cs' y G1' Gi' G2' hr k1 k2 k3
    have := Flat.build hi k1 k2 k3
    have hl := this.len
    exact .inr ⟨g, cp, A ++ cs' ++ B, rest, G1' ++ Gi' ++ G2', by simp, by simpa using hr, by simpa using h3, h4, by
      have e1 := E.len k2
      simp only [List.length_append] at h5 ⊢
      omega, this, rfl⟩
  · have hn1 := List.nodup_append.1 (List.nodup_cons.1 hnd).2
    have hn2 := List.nodup_append.1 hn1.1
    intro p hp
    simp only [List.mem_cons, List.not_mem_nil, or_false] at hp
    rcases hp with rfl | rfl | rfl | rfl
    · exact ⟨by omega, by simpa using h2⟩
    · exact ⟨hn2.2.1, _, rfl, f2⟩
    · exact ⟨hn2.1, f1⟩
    · exact ⟨hn1.2.1, f3⟩
  · have : (g :: (G1 ++ Gi ++ G2)).Perm ([g] ++ (Gi ++ (G1 ++ (G2 ++ [])))) := by
      simp only [List.singleton_append, List.append_nil, List.append_assoc]
      refine List.Perm.cons _ ?_
      rw [← List.append_assoc, ← List.append_assoc]
      exact (List.perm_append_comm).append_right _
    exact this.nodup_iff.1 (by simpa [fp, Pc.F] using hn)
  · simp only [fp, Pc.F, List.append_nil, List.mem_append, List.mem_cons, List.not_mem_nil, or_false] at hb ⊢
    grind
theorem unfO {α : Type} {E : Elem α} {t : TypeId} {g o i : Nat} {u v : Value} {xs : List α} {A cs B c1 c2 : List Value} {x1 x2 : List α} {G1 Gi G2 : List Nat} {S1 S2 S3 S4 : List Pc} (y : α) (hh : HoleO E t g u xs i A B c1 c2) (hv : v = .agg cs.toArray) (h : ∀ F', T c fr (.ow E t u (xs.set i y) F' :: S4) Φ) (e1 : x1 = xs.take i := by rfl) (e2 : x2 = xs.drop (i + 1) := by rfl)
    (hp1 : Pick H (.row g t o A cs B) S1 := by (repeat (first | exact .here | apply Pick.there)); first | done | fail) (hp2 : Pick S1 (.own E v y Gi) S2 := by (repeat (first | exact .here | apply Pick.there)); first | done | fail) (hp3 : Pick S2 (.flat E c1 x1 G1) S3 := by (repeat (first | exact .here | apply Pick.there)); first | done | fail) (hp4 : Pick S3 (.flat E c2 x2 G2) S4 := by (repeat (first | exact .here | apply Pick.there)); first | done | fail) : T c fr H Φ := .mk fun ac w s ag => by
  subst hv e1 e2
  have hP : Picks H [.row g t o A cs B, .own E (.agg cs.toArray) y Gi, .flat E c1 (xs.take i) G1, .flat E c2 (xs.drop (i + 1)) G2] S4 := .cons hp1 (.cons hp2 (.cons hp3 (.cons hp4 .nil)))
  have s1 : St c.G c.D c.w0 ([.row g t o A cs B, .own E (.agg cs.toArray) y Gi, .flat E c1 (xs.take i) G1, .flat E c2 (xs.drop (i + 1)) G2] ++ S4) w := by simpa using hP.st (X := []) (by simpa using s)
  obtain ⟨-, r⟩ := s1.on (.row g t o A cs B) (by simp)
  obtain ⟨-, cs', e, hr⟩ := s1.on (.own E (.agg cs.toArray) y Gi) (by simp)
  obtain rfl : cs = cs' := by simpa using e
  have f1 := (s1.on (.flat E c1 (xs.take i) G1) (by simp)).2
  have f3 := (s1.on (.flat E c2 (xs.drop (i + 1)) G2) (by simp)).2
  have hO := hh w cs y G1 Gi G2 r f1 hr f3
  have hpm : (g :: (G1 ++ Gi ++ G2)).Perm ([g] ++ (Gi ++ (G1 ++ (G2 ++ [])))) := by
    simp only [List.singleton_append, List.append_nil, List.append_assoc]
    refine List.Perm.cons _ ?_
    rw [← List.append_assoc, ← List.append_assoc]
    exact (List.perm_append_comm).append_right _
  have hmM : ∀ p ∈ [Pc.row g t o A cs B, .own E (.agg cs.toArray) y Gi, .flat E c1 (xs.take i) G1, .flat E c2 (xs.drop (i + 1)) G2], p.mu = true := by intro p hp; simp only [List.mem_cons, List.not_mem_nil, or_false] at hp; rcases hp with rfl | rfl | rfl | rfl <;> rfl
  have hndM : (fp [Pc.row g t o A cs B, .own E (.agg cs.toArray) y Gi, .flat E c1 (xs.take i) G1, .flat E c2 (xs.drop (i + 1)) G2]).Nodup := fp_nd (by simpa using hmM) (fun p hp => s1.on p (List.mem_append_left _ hp)) (by
    have sp := s1.sep
    exact ⟨fun q hq => sp.1 q (List.mem_append_left _ hq), fun q hq => sp.2.1 q (List.mem_append_left _ hq), fun q hq => sp.2.2.1 q (List.mem_append_left _ hq), fun q hq => sp.2.2.2.1 q (List.mem_append_left _ hq), trivial⟩)
  have hnd : (g :: (G1 ++ Gi ++ G2)).Nodup := hpm.nodup_iff.2 (by simpa [fp, Pc.F] using hndM)
  refine (h (g :: (G1 ++ Gi ++ G2))).h ac w (s.swap hP hmM (N := [.ow E t u (xs.set i y) (g :: (G1 ++ Gi ++ G2))]) (by intro p hp; rw [List.mem_singleton] at hp; subst hp; exact ⟨hnd, hO⟩) (fun _ => by simpa [fp, Pc.F] using hnd) (fun b hb => ?_)) ag
  simp only [fp, Pc.F, List.append_nil, List.mem_append, List.mem_cons, List.not_mem_nil, or_false] at hb ⊢
  grind
/-- a row of our own with what stands behind it is appended -/
theorem ap1o {α : Type} {E : Elem α} {t e m b : Nat} {z : Value} [hS : SlC c.P t e m] [hE : ElT c.P e z m b] {xs : List α} {F Fy : List Nat} {g tt : Nat} {cs : List Value} {u : Value} {R R2 S : List Pc} {d : Nat} {ty : TypeId} {v : Value} {x y : Operand} (one : One E) (ey : α) (hu : u = .agg cs.toArray)
    (h : ∀ a' c' F', T c ((d, .slice a' (xs ++ [ey]).length c') :: fr) (.ow E e (.slice a' (xs ++ [ey]).length c') (xs ++ [ey]) F' :: S) Φ)
    (hx : ev fr x = some v := by rfl) (hy : ev fr y = some (.slice (some ⟨g, 0, none⟩) 1 1) := by rfl) (hp : Pick H (.ow E e v xs F) R := by (repeat (first | exact .here | apply Pick.there)); first | done | fail) (hp2 : Pick R (.row g tt 0 [] cs []) R2 := by (repeat (first | exact .here | apply Pick.there)); first | done | fail) (hp3 : Pick R2 (.own E u ey Fy) S := by (repeat (first | exact .here | apply Pick.there)); first | done | fail) (hz : 0 < E.sz := by decide) (hm : E.sz = m := by rfl)
    (h63 : xs.length + 1 ≤ 9223372036854775807 := by omega) (hby : (xs.length + 1) * b ≤ 140737488355328 := by omega) (hd : Nat.blt d c.n = true := by rfl) :
    On c fr H (some d) (.call { callee := .builtin .append, args := #[x, y], argTypes := #[t, t] }) ty Φ := ⟨fun _ _ _ => by
  subst hu
  refine ap (ys := [ey]) (Fy := Fy) (S := S) one hz hm hp hx hy rfl (fun w s => ?_) (fun w v' F' s hF w' hk hv => ?_) (by unfold maxLen; exact h63) hby h hd
  · have hro := s.on (.row g tt 0 [] cs []) (by simp [hp2.mem])
    have how := s.on (.own E (.agg cs.toArray) ey Fy) (by simp [hp2.sub _ hp3.mem])
    obtain ⟨hnd, cs', e1, hrep⟩ := how
    obtain rfl : cs = cs' := by simpa using e1
    refine ⟨cs, Flat.one hrep, .inr ⟨_, rfl, fun j u hu => ?_⟩, fun b hb hbF => ?_, hnd⟩
    · have hr := hro.2
      have := hr.cell j
      simp only [List.nil_append, List.append_nil] at this
      rw [hu] at this
      unfold Addr.add
      split
      · rename_i e; subst e; exact this
      · simpa using this
    · exact s.sep.1 (.own E (.agg cs.toArray) ey Fy) (hp2.sub _ hp3.mem) rfl b hbF hb
  · have hP : Picks (.ow E e v xs F :: R) [.ow E e v xs F, .own E (.agg cs.toArray) ey Fy, .row g tt 0 [] cs []] S := .cons .here (by
      have : ∀ {R R2 S : List Pc} {p q : Pc}, Pick R p R2 → Pick R2 q S → Picks R [q, p] S := by
        intro R R2 S p q h1
        induction h1 generalizing S with
        | here => intro h2; exact .cons (.there h2) (.cons .here .nil)
        | @there x p R R' h ih =>
          intro h2
          cases h2 with
          | here => exact .cons .here (.cons h .nil)
          | there h3 =>
            cases ih h3 with
            | cons a1 a2 =>
              cases a2 with
              | cons b1 b2 => cases b2; exact .cons (.there a1) (.cons (.there b1) .nil)
      exact this hp2 hp3)
    have s1 : St c.G c.D c.w0 ([.ow E e v xs F, .own E (.agg cs.toArray) ey Fy] ++ S) w := by
      have s0 : St c.G c.D c.w0 ([.ow E e v xs F, .own E (.agg cs.toArray) ey Fy, .row g tt 0 [] cs []] ++ S) w := by simpa using hP.st (X := []) (by simpa using s)
      have sp := s0.sep
      have hm3 : ∀ q, q ∈ [Pc.ow E e v xs F, .own E (.agg cs.toArray) ey Fy] ++ S → q ∈ [Pc.ow E e v xs F, .own E (.agg cs.toArray) ey Fy, .row g tt 0 [] cs []] ++ S := fun q hq => by
        simp only [List.cons_append, List.nil_append, List.mem_cons] at hq ⊢
        rcases hq with h | h | h
        · exact .inl h
        · exact .inr (.inl h)
        · exact .inr (.inr (.inr h))
      exact ⟨s0.keep, fun q hq => s0.on q (hm3 q hq), ⟨fun q hq => sp.1 q (by
        rcases List.mem_cons.1 hq with h | h
        · simp [h]
        · exact List.mem_cons_of_mem _ (List.mem_cons_of_mem _ h)), fun q hq => sp.2.1 q (List.mem_cons_of_mem _ hq), sp.2.2.2⟩, fun q hq => s0.mine q (hm3 q hq)⟩
    refine St.turn (M := [.ow E e v xs F, .own E (.agg cs.toArray) ey Fy]) (N := [.ow E e v' (xs ++ [ey]) F']) s1 (hk.mono (fun b hb _ => by simp [List.filter, Pc.mu, fp, Pc.F, hb])) (by intro q hq; simp at hq; subst hq; exact hv) ⟨by simp, trivial⟩ ?_
    intro q hq b hb
    simp only [List.mem_cons, List.not_mem_nil, or_false] at hq; subst hq
    rcases hF b hb with h | h | h
    · exact .inr (.inl ⟨.ow E e v xs F, by simp, rfl, h⟩)
    · exact .inr (.inl ⟨.own E (.agg cs.toArray) ey Fy, by simp, rfl, h⟩)
    · exact .inl (by omega)⟩
/-- the first k of a slice that reads, beside it -/
theorem t_stk {α : Type} {E : Elem α} {a : Option Addr} {n cp : Nat} {xs : List α} {F : List Nat} (k : Nat) (hk : k ≤ xs.length) (h : ∀ F', n ≤ cp → cp ≤ 9223372036854775807 → T c fr (.sl E (.slice a k cp) (xs.take k) F' :: H) Φ) (hm : .sl E (.slice a n cp) xs F ∈ H := by (repeat (first | exact .head _ | apply List.Mem.tail)); first | done | fail) : T c fr H Φ := .mk fun ac w s g => by
  obtain ⟨hz, hs⟩ := s.get hm
  obtain ⟨rfl, hnc, hmx⟩ := hs.caps
  obtain ⟨F', hF, h2⟩ := hs.takeS k hk
  exact (h F' hnc (by unfold maxLen at hmx; omega)).h ac w (s.ro hm rfl rfl ⟨hz, h2⟩ hF) g
/-! the same for slices that read -/
/-- n elements, one behind the other -/
def EA {α : Type} (E : Elem α) (n : Nat) : Elem (List α) where
  sz := n * E.sz
  rep w cs xs F := xs.length = n ∧ Flat E w cs xs F
  len h := by obtain ⟨rfl, h⟩ := h; exact h.len
  lt h := h.2.lt
  frame h hF := ⟨h.1, h.2.frame hF⟩
theorem t_shalR {α : Type} {E : Elem α} (one : One E) {a : Option Addr} {n cp : Nat} {xs : List α} {F : List Nat} {m : Nat} (hm : E.sz = m)
    (h : ∀ (ys : List (List Value)) F1 F2, ys.length = xs.length → (∀ y ∈ ys, y.length = m) → T c fr (.sl (EC m) (.slice a n cp) ys F1 :: .isv (EA E xs.length) (.agg ys.flatten.toArray) xs F2 :: H) Φ) (hp : .sl E (.slice a n cp) xs F ∈ H := by (repeat (first | exact .head _ | apply List.Mem.tail)); first | done | fail) : T c fr H Φ := .mk fun ac w s g => by
  subst hm
  obtain ⟨hz, a', cap, hv, hl, hh⟩ := s.get hp
  cases hv
  rcases hh with ⟨rfl, rfl, h0⟩ | ⟨b, off, F', rfl, hne, rfl, hc⟩
  · refine (h [] [] [] rfl (by simp)).h ac w (s.add (N := [.sl (EC E.sz) (.slice a 0 cp) [] [], .isv (EA E 0) (.agg #[]) [] []]) (Below.refl _ _) ?_ ?_ ?_) g
    · intro p hp
      simp only [List.mem_cons, List.not_mem_nil, or_false] at hp
      rcases hp with rfl | rfl
      · exact ⟨hz, a, cp, rfl, hl, .inl ⟨rfl, rfl, h0⟩⟩
      · exact ⟨[], rfl, rfl, rfl, rfl⟩
    · exact ⟨fun q _ hm => by simp at *; subst_vars; simp [Pc.mu] at hm, fun q hq => by simp at hq, trivial⟩
    · intro p hp b hb
      simp only [List.mem_cons, List.not_mem_nil, or_false] at hp
      rcases hp with rfl | rfl <;> simp [Pc.F] at hb
  · have key : ∀ (xs : List α) (off : Nat) (G : List Nat), Cells E w b off xs G → ∃ cs, Flat E w cs xs G ∧ ∀ j u, cs[j]? = some u → w.cell? ⟨b, off + j, none⟩ = some u := by
      intro xs
      induction xs with
      | nil => intro off G h; exact ⟨[], ⟨rfl, h⟩, by simp⟩
      | cons x r ih =>
        intro off G h
        obtain ⟨c1, F1, F2, rfl, h1, h2, h3⟩ := h
        obtain ⟨c2, f2, k2⟩ := ih _ _ h3
        have hl1 := E.len h1
        refine ⟨c1 ++ c2, ⟨c1, c2, F1, F2, rfl, rfl, h1, f2⟩, fun j u hu => ?_⟩
        by_cases hj : j < c1.length
        · rw [List.getElem?_append_left hj] at hu
          rw [h2 j (by omega)]; exact hu
        · rw [List.getElem?_append_right (by omega)] at hu
          have := k2 _ _ hu
          rwa [show off + E.sz + (j - c1.length) = off + j by omega] at this
    obtain ⟨cs, f1, k1⟩ := key xs off F' hc
    obtain ⟨ys, e1, rfl, e2, f2⟩ := flat_ec (w' := w) one f1
    have hys : ys ≠ [] := by rintro rfl; exact hne (List.eq_nil_of_length_eq_zero e1.symm)
    refine (h ys [b] F' e1 e2).h ac w (s.add (N := [.sl (EC E.sz) (.slice (some ⟨b, off, none⟩) xs.length cp) ys [b], .isv (EA E xs.length) (.agg ys.flatten.toArray) xs F']) (Below.refl _ _) ?_ ?_ ?_) g
    · intro p hp
      simp only [List.mem_cons, List.not_mem_nil, or_false] at hp
      rcases hp with rfl | rfl
      · refine ⟨hz, _, cp, by rw [e1], by rw [e1]; exact hl, .inr ⟨b, off, [], rfl, hys, rfl, f2.cells (fun j u hu => k1 j u hu)⟩⟩
      · exact ⟨_, rfl, rfl, f1⟩
    · exact ⟨fun q hq hm => by simp only [List.mem_cons, List.not_mem_nil, or_false] at hq; subst hq; simp [Pc.mu] at hm, fun q hq => by simp at hq, trivial⟩
    · intro p hq z hb
      simp only [List.mem_cons, List.not_mem_nil, or_false] at hq
      rcases hq with rfl | rfl
      · exact .inr ⟨rfl, _, hp, rfl, by simp only [Pc.F, List.mem_cons, List.not_mem_nil, or_false] at hb ⊢; exact .inl hb⟩
      · exact .inr ⟨rfl, _, hp, rfl, by simp only [Pc.F, List.mem_cons] at hb ⊢; exact .inr hb⟩
theorem t_deepR {α : Type} {E : Elem α} {a : Option Addr} {n cp m k : Nat} {ys : List (List Value)} {v : Value} {xs : List α} {F G : List Nat} (hm : E.sz = m) (hl : ys.length = xs.length) (hv : v = .agg ys.flatten.toArray)
    (h : ∀ F', T c fr (.sl E (.slice a n cp) xs F' :: H) Φ) (hp : .sl (EC m) (.slice a n cp) ys F ∈ H := by (repeat (first | exact .head _ | apply List.Mem.tail)); first | done | fail) (hp2 : .isv (EA E k) v xs G ∈ H := by (repeat (first | exact .head _ | apply List.Mem.tail)); first | done | fail) : T c fr H Φ := .mk fun ac w s g => by
  subst hm hv
  obtain ⟨hz, a', cap, hv, hlc, hh⟩ := s.get hp
  cases hv
  obtain ⟨cs, e, -, hf⟩ := s.get hp2
  obtain rfl : ys.flatten = cs := by simpa using e
  rcases hh with ⟨rfl, rfl, h0⟩ | ⟨b, off, F', rfl, hne, rfl, hc⟩
  · have : xs = [] := List.eq_nil_of_length_eq_zero hl.symm
    subst this
    refine (h []).h ac w (s.add (N := [.sl E (.slice a 0 cp) [] []]) (Below.refl _ _) (by intro p hp; simp only [List.mem_cons, List.not_mem_nil, or_false] at hp; subst hp; exact ⟨hz, a, cp, rfl, hlc, .inl ⟨rfl, rfl, h0⟩⟩) ⟨by simp, trivial⟩ (by intro p hp b hb; simp only [List.mem_cons, List.not_mem_nil, or_false] at hp; subst hp; simp [Pc.F] at hb)) g
  · have hxs : xs ≠ [] := by rintro rfl; exact hne (List.eq_nil_of_length_eq_zero hl)
    have key : ∀ (ys : List (List Value)) (off : Nat) (G : List Nat), Cells (EC E.sz) w b off ys G → ∀ j u, ys.flatten[j]? = some u → w.cell? ⟨b, off + j, none⟩ = some u := by
      intro ys
      induction ys with
      | nil => intro off G _ j u hu; simp at hu
      | cons y r ih =>
        intro off G h j u hu
        obtain ⟨c1, F1, F2, rfl, ⟨rfl, ⟨hy, -⟩, -⟩, h2, h3⟩ := h
        rw [List.flatten_cons] at hu
        by_cases hj : j < c1.length
        · rw [List.getElem?_append_left hj] at hu
          rw [h2 j (by show j < E.sz; omega)]; exact hu
        · rw [List.getElem?_append_right (by omega)] at hu
          have := ih _ _ h3 _ _ hu
          rwa [show off + (EC E.sz).sz + (j - c1.length) = off + j by show off + E.sz + (j - c1.length) = off + j; omega] at this
    refine (h (b :: G)).h ac w (s.add (N := [.sl E (.slice (some ⟨b, off, none⟩) ys.length cp) xs (b :: G)]) (Below.refl _ _) (by
      intro p hp
      simp only [List.mem_cons, List.not_mem_nil, or_false] at hp; subst hp
      exact ⟨hz, _, cp, by rw [hl], by rw [← hl]; exact hlc, .inr ⟨b, off, G, rfl, hxs, rfl, hf.cells (fun j u hu => key ys off F' hc j u hu)⟩⟩) ⟨by simp, trivial⟩ (by
      intro p hq z hb
      simp only [List.mem_cons, List.not_mem_nil, or_false] at hq; subst hq
      simp only [Pc.F, List.mem_cons] at hb
      rcases hb with rfl | hb
      · exact .inr ⟨rfl, _, hp, rfl, by simp [Pc.F]⟩
      · exact .inr ⟨rfl, _, hp2, rfl, hb⟩)) g
theorem t_ea1 {α : Type} {E : Elem α} {v : Value} {x : α} {F : List Nat} (h : T c fr (.isv (EA E 1) v [x] F :: H) Φ) (hp : .isv E v x F ∈ H := by (repeat (first | exact .head _ | apply List.Mem.tail)); first | done | fail) : T c fr H Φ := .mk fun ac w s g => by
  obtain ⟨cs, e, hr⟩ := s.get hp
  exact h.h ac w (s.ro hp rfl rfl ⟨cs, e, rfl, Flat.one hr⟩ (fun b hb => hb)) g
theorem t_ea {α : Type} {E : Elem α} {k1 k2 : Nat} {c1 c2 : List Value} {v1 v2 : Value} {x1 x2 : List α} {F1 F2 : List Nat} (e1 : v1 = .agg c1.toArray) (e2 : v2 = .agg c2.toArray) (h : T c fr (.isv (EA E (k1 + k2)) (.agg (c1 ++ c2).toArray) (x1 ++ x2) (F1 ++ F2) :: H) Φ) (hp : .isv (EA E k1) v1 x1 F1 ∈ H := by (repeat (first | exact .head _ | apply List.Mem.tail)); first | done | fail) (hp2 : .isv (EA E k2) v2 x2 F2 ∈ H := by (repeat (first | exact .head _ | apply List.Mem.tail)); first | done | fail) : T c fr H Φ := .mk fun ac w s g => by
  subst e1 e2
  obtain ⟨cs, e, hl, hf⟩ := s.get hp
  obtain ⟨cs2, e2, hl2, hf2⟩ := s.get hp2
  obtain rfl : c1 = cs := by simpa using e
  obtain rfl : c2 = cs2 := by simpa using e2
  refine h.h ac w (s.add (N := [.isv (EA E (k1 + k2)) (.agg (c1 ++ c2).toArray) (x1 ++ x2) (F1 ++ F2)]) (Below.refl _ _) (by intro p hp; rw [List.mem_singleton] at hp; subst hp; exact ⟨_, rfl, by simp [hl, hl2], hf.append hf2⟩) ⟨by simp, trivial⟩ (by
    intro p hq z hb
    rw [List.mem_singleton] at hq; subst hq
    rcases List.mem_append.1 hb with hb | hb
    · exact .inr ⟨rfl, _, hp, rfl, hb⟩
    · exact .inr ⟨rfl, _, hp2, rfl, hb⟩)) g
theorem flat_ec1 {m : Nat} {cs : List Value} (hm : cs.length = m) (h1 : ∀ u ∈ cs, u.oneCell' = true) (w : World) : Flat (EC m) w cs [cs] [] := Flat.one ⟨rfl, ⟨hm, h1⟩, rfl⟩
theorem t_weakI {α : Type} {O R : Elem α} (hW : Weak O R) {v : Value} {x : α} {F : List Nat} {S : List Pc} (h : ∀ F', T c fr (.isv R v x F' :: S) Φ) (hp : Pick H (.own O v x F) S := by (repeat (first | exact .here | apply Pick.there)); first | done | fail) : T c fr H Φ := .mk fun a w s g => by
  have s1 := s.pick hp
  obtain ⟨-, ho⟩ := s1.on (.own O v x F) (by simp)
  obtain ⟨F', hF, hs⟩ := IsV.weak hW ho
  exact (h F').h a w (s1.conv rfl hs hF) g
end
end Go.Proofs.Ytgogcgkocjpgoaa
/- Walks of the small functions on elements: serials, clocks, faces. -/
namespace Go.Proofs.Ytgogcgkocjpgoaa
open Go.RowKit

def isSer (x : Int) : Bool := btw 0 x 65535
def isClk (x : Int) : Bool := btw 0 x 9999
def isFac (x : Int) : Bool := btw 1 x 7
theorem IsSerial_c (x : Int) (w : World) : Calls Try.prog 36 #[.int .i64 x] w fun e w' => e = .returned (.bool (isSer x)) ∧ w = w' := by
  go_enter Try.func36, Try.ntmps36
  go_wp2_with (go_at_call 50; refine (within_c _ _ _ _).mono ?_; rintro e w' ⟨rfl, rfl⟩)
  go_ret
  exact ⟨rfl, rfl⟩
theorem l2Good_c (x : Int) (w : World) : Calls Try.prog 32 #[.int .i64 x] w fun e w' => e = .returned (.bool (isSer x)) ∧ w = w' := by
  go_enter Try.func32, Try.ntmps32
  go_wp2_with (go_at_call 61; refine (l1In_c _ _ _ _).mono ?_; rintro e w' ⟨rfl, rfl⟩)
  go_ret
  exact ⟨rfl, rfl⟩
theorem isClock_c (x : Int) (w : World) : Calls Try.prog 53 #[.int .i64 x] w fun e w' => e = .returned (.bool (isClk x)) ∧ w = w' := by
  go_enter Try.func53, Try.ntmps53
  go_wp2_with (go_at_call 50; refine (within_c _ _ _ _).mono ?_; rintro e w' ⟨rfl, rfl⟩)
  go_ret
  exact ⟨rfl, rfl⟩
theorem l11Clock_c (x : Int) (w : World) : Calls Try.prog 60 #[.int .i64 x] w fun e w' => e = .returned (.bool (isClk x)) ∧ w = w' := by
  go_enter Try.func60, Try.ntmps60
  go_wp2_with (go_at_call 61; refine (l1In_c _ _ _ _).mono ?_; rintro e w' ⟨rfl, rfl⟩)
  go_ret
  exact ⟨rfl, rfl⟩
theorem isFace_c (x : Int) (w : World) : Calls Try.prog 45 #[.int .i64 x] w fun e w' => e = .returned (.bool (isFac x)) ∧ w = w' := by
  go_enter Try.func45, Try.ntmps45
  go_wp2_with (go_at_call 50; refine (within_c _ _ _ _).mono ?_; rintro e w' ⟨rfl, rfl⟩)
  go_ret
  exact ⟨rfl, rfl⟩

/-- number i of a list is within bounds, and greater than the one before it -/
def risAt (lo hi : Int) (zs : List Int) (i : Nat) : Bool := btw lo (zs.getD i 0) hi && (i == 0 || decide (zs.getD (i - 1) 0 < zs.getD i 0))
def rising (lo hi : Int) (zs : List Int) : Bool := allUpTo (risAt lo hi zs) zs.length
theorem risAt_zero {lo hi : Int} {zs : List Int} (h : 0 < zs.length) : risAt lo hi zs 0 = btw lo zs[0] hi := by simp [risAt, h]
theorem risAt_succ {lo hi : Int} {zs : List Int} {m : Nat} (h : m + 1 < zs.length) : risAt lo hi zs (m + 1) = (btw lo zs[m + 1] hi && decide (zs[m]'(by omega) < zs[m + 1])) := by
  simp [risAt, h, show m < zs.length by omega]
set_option maxHeartbeats 800000 in
theorem areFaces_c (v : Value) (zs : List Int) (F : List Nat) (w : World) (h : Sl EInt w v zs F) :
    Calls Try.prog 37 #[v] w fun e w' => e = .returned (.bool (rising 1 7 zs)) ∧ w = w' := by
  obtain ⟨a, cap, rfl⟩ := h.slice
  obtain ⟨-, hl, hc⟩ := h.int
  unfold maxLen at hl
  go_enter Try.func37, Try.ntmps37
  go_wp2
  go_loop [3, 4, 7] (fun _ _ i => ∃ k : Nat, k ≤ zs.length ∧ i = .int .i64 k ∧ Hid (∀ j, j < k → risAt 1 7 zs j = true)) (fun _ _ i => zs.length - (intOf i).toNat)
  case atStart => exact ⟨0, Nat.zero_le _, rfl, fun j hj => by omega⟩
  case round =>
    obtain ⟨k, hk, rfl, hz⟩ := hrel
    by_cases hlt : k < zs.length
    · obtain ⟨b, off, rfl, c0⟩ := hc k hlt
      rcases k with _ | m
      · have hr := Lib.hid (risAt_zero (lo := 1) (hi := 7) hlt)
        clear hc
        simp only [Nat.add_zero] at c0
        go_wp2_with (go_at_call 45; refine (isFace_c _ _).mono ?_; rintro e w' ⟨rfl, rfl⟩)
        · have t : btw 1 zs[0] 7 = true := by assumption
          exact ⟨⟨1, by omega, by go_num, upto_snoc hz.out (by rw [hr.out, t])⟩, by simp [intOf]; omega⟩
        · have t : ¬ btw 1 zs[0] 7 = true := by assumption
          go_ret
          exact ⟨ret_bool (allUpTo_no hlt (by rw [hr.out]; simpa using t)).symm, rfl⟩
      · obtain ⟨b', off', hb', c1⟩ := hc m (by omega)
        cases hb'
        have hr := Lib.hid (risAt_succ (lo := 1) (hi := 7) hlt)
        clear hc
        go_wp2_with (go_at_call 45; refine (isFace_c _ _).mono ?_; rintro e w' ⟨rfl, rfl⟩)
        · have t : zs[m + 1] ≤ zs[m] := by assumption
          go_ret
          exact ⟨ret_bool (allUpTo_no hlt (by rw [hr.out]; simp; omega)).symm, rfl⟩
        · have t : btw 1 zs[m + 1] 7 = true := by assumption
          have t2 : zs[m] < zs[m + 1] := by assumption
          exact ⟨⟨m + 2, by omega, by go_num, upto_snoc hz.out (by rw [hr.out, t]; simp; omega)⟩, by simp [intOf]; omega⟩
        · have t : ¬ btw 1 zs[m + 1] 7 = true := by assumption
          go_ret
          exact ⟨ret_bool (allUpTo_no hlt (by rw [hr.out]; simp [t])).symm, rfl⟩
    · go_wp2
      go_ret
      exact ⟨ret_bool (allUpTo_yes (fun i hi => hz.out i (by omega))).symm, rfl⟩
set_option maxHeartbeats 800000 in
theorem l1Rising_c (v : Value) (zs : List Int) (F : List Nat) (lo hi : Int) (w : World) (h : Sl EInt w v zs F) :
    Calls Try.prog 62 #[v, .int .i64 lo, .int .i64 hi] w fun e w' => e = .returned (.bool (rising lo hi zs)) ∧ Below w.heap.size w w' := by
  obtain ⟨a, cap, rfl⟩ := h.slice
  obtain ⟨-, hl, -⟩ := h.int
  unfold maxLen at hl
  go_enter Try.func62, Try.ntmps62
  go_wp2
  go_loopw [7] (fun i wr => ∃ k : Nat, k ≤ zs.length ∧ i = .int .i64 k ∧ Hid (∀ j, j < k → risAt lo hi zs j = true) ∧ Below w.heap.size w wr) (fun i _ => zs.length - (intOf i).toNat)
  case atStart => exact ⟨0, Nat.zero_le _, rfl, fun j hj => by omega, Below.refl _ _⟩
  case round =>
    obtain ⟨k, hk, rfl, hz, hB⟩ := hrel
    have hc := (h.below (by decide) hB).int.2.2
    by_cases hlt : k < zs.length
    · obtain ⟨b, off, rfl, c0⟩ := hc k hlt
      rcases k with _ | m
      · have hr := Lib.hid (risAt_zero (lo := lo) (hi := hi) hlt)
        clear hc
        simp only [Nat.add_zero] at c0
        cases t : btw lo zs[0] hi
        · go_wp2_with fail
          go_quiet ((go_at_call 61; exact quiet_eq (l1In_c _ _ _ _)))
          go_wp2_with fail
          go_ret
          exact ⟨ret_bool (allUpTo_no hlt (by rw [hr.out, t])).symm, belowDrewN hB _⟩
        · go_wp2_with fail
          go_quiet ((go_at_call 61; exact quiet_eq (l1In_c _ _ _ _)))
          go_wp2_with fail
          exact ⟨⟨1, by omega, by go_num, upto_snoc hz.out (by rw [hr.out, t]), belowDrewN hB _⟩, by simp [intOf]; omega⟩
      · obtain ⟨b', off', hb', c1⟩ := hc m (by omega)
        cases hb'
        have hr := Lib.hid (risAt_succ (lo := lo) (hi := hi) hlt)
        clear hc
        cases t : btw lo zs[m + 1] hi
        · go_wp2_with fail
          go_quiet ((go_at_call 61; exact quiet_eq (l1In_c _ _ _ _)))
          go_wp2_with fail
          go_ret
          exact ⟨ret_bool (allUpTo_no hlt (by rw [hr.out, t]; rfl)).symm, belowDrewN hB _⟩
        · by_cases t2 : zs[m] < zs[m + 1]
          · go_wp2_with fail
            go_quiet ((go_at_call 61; exact quiet_eq (l1In_c _ _ _ _)))
            go_wp2_with fail
            exact ⟨⟨m + 2, by omega, by go_num, upto_snoc hz.out (by rw [hr.out, t]; simpa using t2), belowDrewN hB _⟩, by simp [intOf]; omega⟩
          · have t3 : zs[m + 1] ≤ zs[m] := by omega
            go_wp2_with fail
            go_quiet ((go_at_call 61; exact quiet_eq (l1In_c _ _ _ _)))
            go_wp2_with fail
            go_ret
            exact ⟨ret_bool (allUpTo_no hlt (by rw [hr.out]; simp; omega)).symm, belowDrewN hB _⟩
    · go_wp2
      go_ret
      exact ⟨ret_bool (allUpTo_yes (fun i hi => hz.out i (by omega))).symm, hB⟩
theorem l14Faces_c (v : Value) (zs : List Int) (F : List Nat) (w : World) (h : Sl EInt w v zs F) :
    Calls Try.prog 33 #[v] w fun e w' => e = .returned (.bool (rising 1 7 zs)) ∧ Below w.heap.size w w' := by
  go_enter Try.func33, Try.ntmps33
  go_wp2_with (go_at_call 62; refine (l1Rising_c _ zs F _ _ _ h).mono ?_; rintro e w' ⟨rfl, hb1⟩)
  go_ret
  exact ⟨rfl, hb1⟩
end Go.Proofs.Ytgogcgkocjpgoaa
/- Walks of Go's generic library functions on slices of impl.Entry. Written by wip/genlib.py. -/
namespace Go.Proofs.Ytgogcgkocjpgoaa
open Go.RowKit
set_option maxHeartbeats 800000 in
theorem IndexFunc_Entry (fid : FuncId) (hbd : Body Try.prog fid) (caps : Array Value) (v : Value) (xs : List Entry) (F : List Nat) (p : Entry → Bool) (w : World) (h : Sl EEntry w v xs F)
    (hp : ∀ (k : Nat) (hk : k < xs.length) (wr : World) (u : Value) (G : List Nat), Below w.heap.size w wr → IsV EEntry wr u xs[k] G → Calls Try.prog fid (#[u] ++ caps) wr fun e w' => e = .returned (.bool (p xs[k])) ∧ Below wr.heap.size wr w') :
    Calls Try.prog 81 #[v, .func (.func fid) #[] caps] w fun e w' => e = .returned (.int .i64 (fidx p xs)) ∧ Below w.heap.size w w' := by
  obtain ⟨a, cap, rfl⟩ := h.slice
  have hl := h.len
  unfold maxLen at hl
  go_enter Try.func81, Try.ntmps81
  go_wp2
  go_loopw [5, 8] (fun _ i wr => ∃ k : Nat, k ≤ xs.length ∧ i = .int .i64 k ∧ Hid (∀ j, j < k → ∀ hj : j < xs.length, p xs[j] = false) ∧ Below w.heap.size w wr) (fun _ i _ => xs.length - (intOf i).toNat)
  case atStart => exact ⟨0, Nat.zero_le _, rfl, fun j hj => by omega, Below.refl _ _⟩
  case round =>
    obtain ⟨k, hk, rfl, hz, hB⟩ := hrel
    by_cases hlt : k < xs.length
    · have hz0 := hz; clear hz
      obtain ⟨b, off, _, F1, rfl, hx, -, ja⟩ := (h.below (by decide) hB).at k hlt
      obtain ⟨v1, rfl, h1⟩ := id hx
      have a0 := ja 0 (by decide)
      have a1 := ja 1 (by decide)
      have a2 := ja 2 (by decide)
      simp only [show EEntry.sz = 3 from rfl, Nat.mul_one, Nat.add_zero, List.getElem?_cons_zero, List.getElem?_cons_succ] at a0 a1 a2
      clear ja
      have hr := hp k hlt wr _ F1 hB ⟨_, rfl, hx⟩
      have hp := Lib.hid hp
      cases hpk : p xs[k]
      all_goals
        rw [hpk] at hr
        have hpk := Lib.hid hpk
        have hr := Lib.hid hr
        go_wp2_with fail
        refine hbd.upon hr.out ?_
        rintro e w1 ⟨rfl, hb1⟩
        refine ⟨_, rfl, ?_⟩
        have hB := tr hB hb1 (Nat.le_refl _)
        clear hb1
        go_wp2_with fail
      · exact ⟨⟨k + 1, by omega, by go_num, fun j hj hl => by rcases Nat.lt_or_eq_of_le (Nat.le_of_lt_succ hj) with h | h; exact hz0.out j h hl; subst h; exact hpk.out, hB⟩, by simp [intOf]; omega⟩
      · go_ret
        exact ⟨ret_int (fidx_hit hlt hz0.out hpk.out).symm, hB⟩
    · go_wp2
      go_ret
      exact ⟨ret_int (fidx_none (fun j hj => hz.out j (by omega) hj)).symm, hB⟩
theorem ContainsFunc_Entry (fid : FuncId) (hbd : Body Try.prog fid) (caps : Array Value) (v : Value) (xs : List Entry) (F : List Nat) (p : Entry → Bool) (w : World) (h : Sl EEntry w v xs F)
    (hp : ∀ (k : Nat) (hk : k < xs.length) (wr : World) (u : Value) (G : List Nat), Below w.heap.size w wr → IsV EEntry wr u xs[k] G → Calls Try.prog fid (#[u] ++ caps) wr fun e w' => e = .returned (.bool (p xs[k])) ∧ Below wr.heap.size wr w') :
    Calls Try.prog 51 #[v, .func (.func fid) #[] caps] w fun e w' => e = .returned (.bool (xs.any p)) ∧ Below w.heap.size w w' := by
  have hp := Lib.hid hp
  go_enter Try.func51, Try.ntmps51
  go_wp2_with fail
  refine (IndexFunc_Entry fid hbd caps v xs F p _ h hp.out).mono ?_
  rintro e w1 ⟨rfl, hb1⟩
  go_wp2_with fail
  go_ret
  exact ⟨ret_bool (fidx_any p xs), hb1⟩
theorem Clone_Entry (v : Value) (xs : List Entry) (F : List Nat) (w : World) (h : Sl EEntry w v xs F) (hm : xs.length ≤ 4294967296) :
    Calls Try.prog 66 #[v] w fun e w' => ∃ v' F', e = .returned v' ∧ Ow EEntry 74 w' v' xs F' ∧ Hd F' ∧ (∀ b, v'.ownBlock = some b → w.heap.size ≤ b) ∧ (∀ b ∈ F', v'.ownBlock = some b ∨ b ∈ F) ∧ Below w.heap.size w w' := by
  obtain ⟨ao, c, news, Fy, rfl, hl, hfy, hFy, hsrc⟩ := h.src
  have hFl := hfy.lt
  have he := fun w (a : Option Addr) (n c : Nat) => Lib.run_eql_slice_nil (P := Try.prog) w 27 _ a n c 0 0 Try.underlying27
  go_enter Try.func66, Try.ntmps66
  rcases hsrc with ⟨rfl, rfl, rfl⟩ | ⟨ad, rfl, hn⟩
  · go_wp2
    go_ret
    exact ⟨.slice none 0 0, [], rfl, .inl ⟨rfl, rfl, rfl⟩, Hd.nil, (fun b e => by simp [Value.ownBlock] at e), by simp, Below.refl _ _⟩
  · go_wp2_with (at_builtin; refine wpList_apd one_EEntry (by decide) (by rfl) _ _ _ (by rfl) 74 (.agg #[.int .i64 0, .slice none 0 0, .int .i64 0]) 40 Try.underlying27 info_Entry rfl (.slice (some ⟨w.heap.size, 0, none⟩) 0 0) [] [w.heap.size] (by rfl) (Ow.empty (Row.made _ _ _)) (Hd.one _) (some ad) xs c (by rfl) news Fy (hfy.frame fun b hb => Below.heap_alloc _ _ _ (hFl b hb)) (.inr ⟨ad, rfl, fun j u hu => kc ((Below.refl _ _).alloc (Nat.le_refl _) _) (hn j u hu)⟩) (fun b hb e => by have := hFl b hb; simp [Value.ownBlock] at e; omega) (by simpa using hl) (by unfold maxLen at hl; simp; omega) ?_)
    intro v2 w2 F2 hA
    go_wp2_with fail
    go_ret
    have hB : Below w.heap.size w w2 := ((Below.refl _ _).alloc (Nat.le_refl _) _).trans (hA.keep.below (by simp) (by simp))
    have hs : ∀ b, v2.ownBlock = some b → w.heap.size ≤ b := fun b hb => by rcases hA.same with e | e <;> rw [e] at hb <;> simp [Value.ownBlock] at hb <;> omega
    refine ⟨v2, F2, rfl, by simpa using hA.ow, hA.hd, hs, fun b hb => ?_, hB⟩
    rw [hA.form [] (by simp [Value.ownBlock])] at hb
    simp at hb
    rcases hb with hb | hb
    · exact .inl hb
    · exact .inr (hFy b hb)
end Go.Proofs.Ytgogcgkocjpgoaa
/- Walks: an element is valid. -/
namespace Go.Proofs.Ytgogcgkocjpgoaa
open Go.RowKit

def okEntry (c : Int) (x : Entry) : Bool := isSer x.number && (decide (0 < x.faces.length) && (rising 1 7 x.faces && btw (c + 1) x.untl (c + 6)))
/-- entry i is valid, and no earlier one has its number -/
def entAt (c : Int) (es : List Entry) (i : Nat) : Bool := match es[i]? with
  | none => true
  | some x => okEntry c x && !((es.take i).any fun o => o.number == x.number)
theorem entAt_of {c : Int} {es : List Entry} {i : Nat} (h : i < es.length) : entAt c es i = (okEntry c es[i] && !((es.take i).any fun o => o.number == es[i].number)) := by
  simp [entAt, h]
def goodElement (e : Element) : Bool := isClk e.clock && decide (e.entries.length ≤ 5) && allUpTo (entAt e.clock e.entries) e.entries.length
theorem isClk_iff {c : Int} : isClk c = true ↔ 0 ≤ c ∧ c ≤ 9999 := by unfold isClk btw; simp

theorem any_take {es : List Entry} {m k : Nat} {p : Entry → Bool} (h : m < es.length) (hk : m < k) (hp : p es[m] = true) : (es.take k).any p = true := by
  rw [List.any_eq_true]; exact ⟨es[m], List.mem_take_iff_getElem.2 ⟨m, by omega, rfl⟩, hp⟩
theorem any_take_no {es : List Entry} {k : Nat} {n : Int} (h : ∀ q, q < k → ∀ hq : q < es.length, es[q].number ≠ n) : ((es.take k).any fun o => o.number == n) = false := by
  rw [List.any_eq_false]; intro x hx
  obtain ⟨i, hi, rfl⟩ := List.mem_take_iff_getElem.1 hx
  simpa using h i (by omega) (by omega)
theorem wrap_clk {c d : Int} (h : isClk c = true) (h1 : 0 ≤ d) (h2 : d ≤ 100) : wrap64 (c + d) = c + d := by
  have := isClk_iff.1 h; unfold wrap64; omega
theorem good_no {e : Element} {k : Nat} (hk : k < e.entries.length) (h : isClk e.clock = true → entAt e.clock e.entries k = false) : goodElement e = false := by
  unfold goodElement
  cases hc : isClk e.clock
  · rfl
  · rw [allUpTo_no hk (h hc)]; simp
theorem IsValidElement_1_c (x : Entry) (num : Int) (b : Nat) (G : List Nat) (u : Value) (w : World) (h : IsV EEntry w u x G) (hc : w.cell? ⟨b, 0, none⟩ = some (.int .i64 num)) :
    Calls Try.prog 52 #[u, .pointer (some ⟨b, 0, none⟩)] w fun e w' => e = .returned (.bool (x.number == num)) ∧ Below w.heap.size w w' := by
  obtain ⟨_, rfl, v1, rfl, -⟩ := h
  have hc1 := fun o : Obj => kc ((Below.refl w.heap.size w).alloc (Nat.le_refl _) o) hc
  go_enter Try.func52, Try.ntmps52
  go_wp2
  go_ret
  exact ⟨ret_bool rfl, (Below.refl _ _).alloc (Nat.le_refl _) _⟩
set_option maxHeartbeats 1600000 in
theorem IsValidElement_c (v : Value) (e : Element) (F : List Nat) (w : World) (h : IsV EElement w v e F) :
    Calls Try.prog 22 #[v] w fun e' w' => e' = .returned (.bool (goodElement e)) ∧ Below w.heap.size w w' := by
  obtain ⟨_, rfl, v1, rfl, h1⟩ := h
  obtain ⟨a, cap, rfl⟩ := h1.slice
  have hl := h1.len
  unfold maxLen at hl
  have hB0 : ∀ A : Obj, Below w.heap.size w (w.alloc A) := fun A => (Below.refl _ _).alloc (Nat.le_refl _) _
  go_enter Try.func22, Try.ntmps22
  go_wp2
  go_loopw [3, 4, 8] (fun _ _ i wr => ∃ k : Nat, k ≤ e.entries.length ∧ i = .int .i64 k ∧ Hid (isClk e.clock = true → ∀ j, j < k → entAt e.clock e.entries j = true) ∧ Row wr w.heap.size 29 [.int .i64 e.clock, .slice a e.entries.length cap] ∧ Below w.heap.size w wr) (fun _ _ i _ => e.entries.length - (intOf i).toNat)
  case atStart => exact ⟨0, Nat.zero_le _, rfl, fun _ j hj => by omega, by simp [row_alloc], hB0 _⟩
  case round =>
    obtain ⟨k, hk, rfl, hz, hr, hB⟩ := hrel
    have c0 := hr.cells
    by_cases hlt : k < e.entries.length
    · have hz0 := hz; clear hz
      obtain ⟨b, off, _, F1, rfl, hx, -, ja⟩ := (h1.below (by decide) hB).at k hlt
      obtain ⟨u1, rfl, hf⟩ := id hx
      obtain ⟨fa, fc, rfl⟩ := hf.slice
      have a0 := ja 0 (by decide)
      have a1 := ja 1 (by decide)
      have a2 := ja 2 (by decide)
      simp only [show EEntry.sz = 3 from rfl, Nat.mul_one, Nat.add_zero, List.getElem?_cons_zero, List.getElem?_cons_succ] at a0 a1 a2
      clear ja
      have d0 := fun A => (hr.alloc A).cells
      have hf1 := fun A : Obj => hf.below (by decide) ((Below.refl wr.heap.size wr).alloc (Nat.le_refl _) A)
      have hB1 := fun A : Obj => tr hB ((Below.refl wr.heap.size wr).alloc (Nat.le_refl _) A) (Nat.le_refl _)
      have hcp := h1.caps
      by_cases hfe : e.entries[k].faces = []
      · have hE : ((e.entries[k].faces.length : Int) == 0) = true := by simp [hfe]
        have hno := Lib.hid (good_no hlt (fun _ => by rw [entAt_of hlt]; simp [okEntry, hfe]))
        go_wp2_with (first
          | (go_at_call 36; refine (IsSerial_c _ _).mono ?_; rintro e' w' ⟨rfl, rfl⟩)
          | (go_at_call 37; refine (areFaces_c _ _ _ _ (hf1 _)).mono ?_; rintro e' w' ⟨rfl, rfl⟩)
          | (go_at_call 50; refine (within_c _ _ _ _).mono ?_; rintro e' w' ⟨rfl, rfl⟩))
        all_goals go_ret
        all_goals exact ⟨ret_bool hno.out.symm, hB1 _⟩
      · have hE : ((e.entries[k].faces.length : Int) == 0) = false := by simp [hfe]
        have hfe := Lib.hid hfe
        go_wp2_with (first
          | (go_at_call 36; refine (IsSerial_c _ _).mono ?_; rintro e' w' ⟨rfl, rfl⟩)
          | (go_at_call 37; refine (areFaces_c _ _ _ _ (hf1 _)).mono ?_; rintro e' w' ⟨rfl, rfl⟩)
          | (go_at_call 50; refine (within_c _ _ _ _).mono ?_; rintro e' w' ⟨rfl, rfl⟩))
        · have t : (!btw (wrap64 (e.clock + 1)) e.entries[k].untl (wrap64 (e.clock + 6))) = true := by assumption
          go_ret
          refine ⟨ret_bool (good_no hlt fun hc => ?_).symm, hB1 _⟩
          rw [wrap_clk hc (by omega) (by omega), wrap_clk hc (by omega) (by omega)] at t
          rw [entAt_of hlt]; simp only [okEntry]; simp at t; simp [t]
        · have t1 : isSer e.entries[k].number = true := by assumption
          have t2 : rising 1 7 e.entries[k].faces = true := by assumption
          have t : (!btw (wrap64 (e.clock + 1)) e.entries[k].untl (wrap64 (e.clock + 6))) = false := by assumption
          obtain ⟨G, -, hs⟩ := h1.takeS k hk
          refine (ContainsFunc_Entry _ (.mk' Try.func52 rfl rfl) _ _ _ _ (fun o => o.number == e.entries[k].number) _ (hs.below (by decide) (hB1 _)) ?_).mono ?_
          · intro j hj w2 u G2 hb2 hu
            exact IsValidElement_1_c _ _ _ _ _ _ hu (kc hb2 (by simp))
          rintro e' w2 ⟨rfl, hb2⟩
          have hr2 := (hr.alloc _).below hb2
          have hB2 := tr (hB1 _) hb2 (Nat.le_refl _)
          have hc2 := hr2.cells
          have hAt := Lib.hid (entAt_of (c := e.clock) hlt)
          cases hany : (e.entries.take k).any fun o => o.number == e.entries[k].number
          · rw [hany] at hAt
            have hany := Lib.hid hany
            go_wp2_with fail
            refine ⟨⟨k + 1, by omega, by go_num, fun hc => upto_snoc (hz0.out hc) ?_, hr2, hB2⟩, by simp [intOf]; omega⟩
            rw [wrap_clk hc (by omega) (by omega), wrap_clk hc (by omega) (by omega)] at t
            rw [hAt.out]; simp only [okEntry, t1, t2]; simp at t; simp [t, List.length_pos_iff, hfe.out]
          · rw [hany] at hAt
            have hany := Lib.hid hany
            go_wp2_with fail
            go_ret
            exact ⟨ret_bool (good_no hlt fun _ => by rw [hAt.out]; simp).symm, hB2⟩
        · have t : ¬rising 1 7 e.entries[k].faces = true := by assumption
          go_ret
          refine ⟨ret_bool (good_no hlt fun hc => ?_).symm, hB1 _⟩
          rw [entAt_of hlt]; simp [okEntry, t]
        · have t : ¬isSer e.entries[k].number = true := by assumption
          go_ret
          refine ⟨ret_bool (good_no hlt fun hc => ?_).symm, hB1 _⟩
          rw [entAt_of hlt]; simp [okEntry, t]
    · have hk : k = e.entries.length := by omega
      subst hk
      have hz0 := hz; clear hz
      cases hck : isClk e.clock
      · have hn := Lib.hid (show goodElement e = false by unfold goodElement; rw [hck]; rfl)
        have hck := Lib.hid hck
        go_wp2_with (go_at_call 53; refine (isClock_c _ _).mono ?_; rintro e' w' ⟨rfl, rfl⟩; rw [hck.out])
        go_ret
        exact ⟨ret_bool hn.out.symm, hB⟩
      · have hn := Lib.hid (show goodElement e = decide ((e.entries.length : Int) ≤ 5) by unfold goodElement; rw [hck, allUpTo_yes (hz0.out hck)]; simp; omega)
        have hck := Lib.hid hck
        go_wp2_with (go_at_call 53; refine (isClock_c _ _).mono ?_; rintro e' w' ⟨rfl, rfl⟩; rw [hck.out])
        go_ret
        exact ⟨ret_bool hn.out.symm, hB⟩
set_option maxHeartbeats 1600000 in
theorem l14Good_c (v : Value) (e : Element) (F : List Nat) (w : World) (h : IsV EElement w v e F) :
    Calls Try.prog 31 #[v] w fun e' w' => e' = .returned (.bool (goodElement e)) ∧ Below w.heap.size w w' := by
  obtain ⟨_, rfl, v1, rfl, h1⟩ := h
  obtain ⟨a, cap, rfl⟩ := h1.slice
  have hl := h1.len
  unfold maxLen at hl
  have hB0 : ∀ A : Obj, Below w.heap.size w (w.alloc A) := fun A => (Below.refl _ _).alloc (Nat.le_refl _) _
  go_enter Try.func31, Try.ntmps31
  cases hck : isClk e.clock
  · have hn := Lib.hid (show goodElement e = false by unfold goodElement; rw [hck]; rfl)
    have hck := Lib.hid hck
    go_wp2_with (go_at_call 60; refine (l11Clock_c _ _).mono ?_; rintro e' w' ⟨rfl, rfl⟩; rw [hck.out])
    go_ret
    exact ⟨ret_bool hn.out.symm, hB0 _⟩
  by_cases h5 : ¬ (e.entries.length : Int) ≤ 5
  · have hn := Lib.hid (show goodElement e = false by unfold goodElement; rw [hck, decide_eq_false (by omega)]; rfl)
    have hck := Lib.hid hck
    go_wp2_with (go_at_call 60; refine (l11Clock_c _ _).mono ?_; rintro e' w' ⟨rfl, rfl⟩; rw [hck.out])
    go_ret
    exact ⟨ret_bool hn.out.symm, hB0 _⟩
  have h5 : (e.entries.length : Int) ≤ 5 := by omega
  have hcb := isClk_iff.1 hck
  have hgood := Lib.hid (show goodElement e = allUpTo (entAt e.clock e.entries) e.entries.length by unfold goodElement; rw [hck, decide_eq_true (by omega)]; rfl)
  have hck := Lib.hid hck
  go_wp2_with (go_at_call 60; refine (l11Clock_c _ _).mono ?_; rintro e' w' ⟨rfl, rfl⟩; rw [hck.out])
  go_loopw [3, 4, 5] (fun i _ _ wr => ∃ k : Nat, k ≤ e.entries.length ∧ i = .int .i64 k ∧ Hid (∀ j, j < k → entAt e.clock e.entries j = true) ∧ Row wr w.heap.size 29 [.int .i64 e.clock, .slice a e.entries.length cap] ∧ Below w.heap.size w wr) (fun i _ _ _ => e.entries.length - (intOf i).toNat)
  case atStart => exact ⟨0, Nat.zero_le _, rfl, fun j hj => by omega, by simp [row_alloc], hB0 _⟩
  case round =>
    obtain ⟨k, hk, rfl, hz, hr, hB⟩ := hrel
    have c0 := hr.cells
    by_cases hlt : k < e.entries.length
    · have hz0 := hz; clear hz
      obtain ⟨b, off, _, F1, rfl, hx, -, ja⟩ := (h1.below (by decide) hB).at k hlt
      obtain ⟨u1, rfl, hf⟩ := id hx
      obtain ⟨fa, fc, rfl⟩ := hf.slice
      have a0 := ja 0 (by decide)
      have a1 := ja 1 (by decide)
      have a2 := ja 2 (by decide)
      simp only [show EEntry.sz = 3 from rfl, Nat.add_zero, List.getElem?_cons_zero, List.getElem?_cons_succ] at a0 a1 a2
      clear ja
      have d0 := fun A => (hr.alloc A).cells
      have hf1 := fun A : Obj => hf.below (by decide) ((Below.refl wr.heap.size wr).alloc (Nat.le_refl _) A)
      have hB1 := fun A : Obj => tr hB ((Below.refl wr.heap.size wr).alloc (Nat.le_refl _) A) (Nat.le_refl _)
      by_cases hfe : e.entries[k].faces = []
      · have hE : ((e.entries[k].faces.length : Int) == 0) = true := by simp [hfe]
        have hno := Lib.hid (good_no hlt (fun _ => by rw [entAt_of hlt]; simp [okEntry, hfe]))
        go_wp2_with (go_at_call 32; refine (l2Good_c _ _).mono ?_; rintro e' w' ⟨rfl, rfl⟩)
        all_goals go_ret
        all_goals exact ⟨ret_bool hno.out.symm, hB1 _⟩
      · have hE : ((e.entries[k].faces.length : Int) == 0) = false := by simp [hfe]
        have hfe := Lib.hid hfe
        go_wp2_with (go_at_call 32; refine (l2Good_c _ _).mono ?_; rintro e' w' ⟨rfl, rfl⟩)
        · have t1 : isSer e.entries[k].number = true := by assumption
          refine (l14Faces_c _ _ _ _ (hf1 _)).mono ?_
          rintro e' w2 ⟨rfl, hb2⟩
          have hr2 := (hr.alloc _).below hb2
          have q2 := Row.below (g := wr.heap.size) (t := 74) (cs := [.int .i64 e.entries[k].number, .slice fa e.entries[k].faces.length fc, .int .i64 e.entries[k].untl]) (by simp [row_alloc]) hb2
          have hB2 := tr (hB1 _) hb2 (Nat.le_refl _)
          have c2 := hr2.cells; have d2 := q2.cells
          clear hb2
          cases t2 : rising 1 7 e.entries[k].faces
          · have hno := Lib.hid (good_no hlt (fun _ => by rw [entAt_of hlt]; simp [okEntry, t2]))
            go_wp2_with fail
            go_ret
            exact ⟨ret_bool hno.out.symm, hB2⟩
          cases t3 : btw (e.clock + 1) e.entries[k].untl (e.clock + 6)
          · have hno := Lib.hid (good_no hlt (fun _ => by rw [entAt_of hlt]; simp [okEntry, t3]))
            have t3 := Lib.hid t3
            go_wp2_with (go_at_call 61; refine (l1In_c _ _ _ _).mono ?_; rintro e' w' ⟨rfl, rfl⟩; rw [t3.out])
            go_ret
            exact ⟨ret_bool hno.out.symm, hB2⟩
          have hAt := Lib.hid (show entAt e.clock e.entries k = !((e.entries.take k).any fun o => o.number == e.entries[k].number) by rw [entAt_of hlt]; simp [okEntry, t1, t2, t3, List.length_pos_iff, hfe.out])
          have t3 := Lib.hid t3
          clear t1 t2 hE hf1 hx
          go_wp2_with (go_at_call 61; refine (l1In_c _ _ _ _).mono ?_; rintro e' w' ⟨rfl, rfl⟩; rw [t3.out])
          go_loopw [5] (fun j wr2 => ∃ m : Nat, m ≤ k ∧ j = .int .i64 m ∧ Hid (∀ q, q < m → ∀ hq : q < e.entries.length, e.entries[q].number ≠ e.entries[k].number) ∧ Row wr2 w.heap.size 29 [.int .i64 e.clock, .slice (some ⟨b, off, none⟩) e.entries.length cap] ∧ Row wr2 wr.heap.size 74 [.int .i64 e.entries[k].number, .slice fa e.entries[k].faces.length fc, .int .i64 e.entries[k].untl] ∧ Below w.heap.size w wr2) (fun j _ => k - (intOf j).toNat)
          case atStart => exact ⟨0, Nat.zero_le _, rfl, fun q hq => by omega, hr2, q2, hB2⟩
          case round =>
            obtain ⟨m, hm, rfl, hy, hr3, q3, hB3⟩ := hrel
            rename_i wr2
            have c3 := hr3.cells; have d3 := q3.cells
            by_cases hlm : m < k
            · have hy0 := hy; clear hy
              obtain ⟨bb, oo, _, F2, he, hx2, -, jb⟩ := (h1.below (by decide) hB3).at m (by omega)
              cases he
              obtain ⟨u2, rfl, -⟩ := hx2
              have b0 := jb 0 (by decide)
              simp only [show EEntry.sz = 3 from rfl, Nat.add_zero, List.getElem?_cons_zero] at b0
              clear jb
              have hmi : m < e.entries.length := by omega
              by_cases hnum : e.entries[m].number = e.entries[k].number
              · have hno := Lib.hid (good_no hlt fun _ => by rw [hAt.out, any_take hmi hlm (by simpa using hnum)]; rfl)
                have hEq : (e.entries[m].number == e.entries[k].number) = true := by simpa using hnum
                go_wp2_with fail
                go_quiet (fail)
                go_wp2_with fail
                go_ret
                exact ⟨ret_bool hno.out.symm, belowDrewN hB3 _⟩
              · have hEq : (e.entries[m].number == e.entries[k].number) = false := by simpa using hnum
                have hnum := Lib.hid hnum
                go_wp2_with fail
                go_quiet (fail)
                go_wp2_with fail
                exact ⟨⟨m + 1, by omega, by go_num, fun q hq hql => by rcases Nat.lt_or_eq_of_le (Nat.le_of_lt_succ hq) with h | h; exact hy0.out q h hql; subst h; exact hnum.out, hr3, q3, belowDrewN hB3 _⟩, by simp [intOf]; omega⟩
            · have hmk : m = k := by omega
              subst hmk
              have hat : entAt e.clock e.entries m = true := by
                rw [hAt.out, any_take_no hy.out]; rfl
              have hat := Lib.hid hat
              have hy0 := hy; clear hy
              go_wp2_with fail
              exact ⟨⟨m + 1, by omega, by go_num, upto_snoc hz0.out hat.out, hr3, hB3⟩, by simp [intOf]; omega⟩
        · have t : ¬isSer e.entries[k].number = true := by assumption
          go_ret
          refine ⟨ret_bool (good_no hlt fun hc => ?_).symm, hB1 _⟩
          rw [entAt_of hlt]; simp [okEntry, t]
    · have hk : k = e.entries.length := by omega
      subst hk
      have hn := Lib.hid (show goodElement e = true by rw [hgood.out, allUpTo_yes hz.out])
      have hz0 := hz; clear hz
      go_wp2_with fail
      go_ret
      exact ⟨ret_bool hn.out.symm, hB⟩
end Go.Proofs.Ytgogcgkocjpgoaa
/- Walks of Go's generic library functions on slices of int. Written by wip/genlib.py. -/
namespace Go.Proofs.Ytgogcgkocjpgoaa
open Go.RowKit
theorem Clone_Int (v : Value) (xs : List Int) (F : List Nat) (w : World) (h : Sl EInt w v xs F) (hm : xs.length ≤ 4294967296) :
    Calls Try.prog 55 #[v] w (RetNew EInt 3 xs w) := by
  obtain ⟨ao, c, news, Fy, rfl, hl, hfy, hFy, hsrc⟩ := h.src
  have hFl := hfy.lt
  have he := fun w (a : Option Addr) (n c : Nat) => Lib.run_eql_slice_nil (P := Try.prog) w 25 _ a n c 0 0 Try.underlying25
  go_enter Try.func55, Try.ntmps55
  rcases hsrc with ⟨rfl, rfl, rfl⟩ | ⟨ad, rfl, hn⟩
  · go_wp2
    go_ret
    exact ⟨.slice none 0 0, [], rfl, .inl ⟨rfl, rfl, rfl⟩, by simp, by simp, Below.refl _ _⟩
  · go_wp2_with (at_builtin; refine wpList_apd one_EInt (by decide) (by rfl) _ _ _ (by rfl) 3 (.int .i64 0) 8 Try.underlying25 info_int rfl (.slice (some ⟨w.heap.size, 0, none⟩) 0 0) [] [w.heap.size] (by rfl) (Ow.empty (Row.made _ _ _)) (Hd.one _) (some ad) xs c (by rfl) news Fy (hfy.frame fun b hb => Below.heap_alloc _ _ _ (hFl b hb)) (.inr ⟨ad, rfl, fun j u hu => kc ((Below.refl _ _).alloc (Nat.le_refl _) _) (hn j u hu)⟩) (fun b hb e => by have := hFl b hb; simp [Value.ownBlock] at e; omega) (by simpa using hl) (by unfold maxLen at hl; simp; omega) ?_)
    intro v2 w2 F2 hA
    go_wp2_with fail
    go_ret
    have hB : Below w.heap.size w w2 := ((Below.refl _ _).alloc (Nat.le_refl _) _).trans (hA.keep.below (by simp) (by simp))
    have hs : ∀ b, v2.ownBlock = some b → w.heap.size ≤ b := fun b hb => by rcases hA.same with e | e <;> rw [e] at hb <;> simp [Value.ownBlock] at hb <;> omega
    refine ⟨v2, F2, rfl, by simpa using hA.ow, hA.ow.scal scal_EInt ▸ ?_, fun b hb => ?_, hB⟩
    · cases v2.ownBlock <;> simp
    · rw [hA.ow.scal scal_EInt] at hb; exact hs b (by simpa using hb)

end Go.Proofs.Ytgogcgkocjpgoaa
/- Walks of the reference's small functions on slices of numbers. -/
namespace Go.Proofs.Ytgogcgkocjpgoaa
open Go.RowKit
theorem l1Own_c (v : Value) (xs : List Int) (F : List Nat) (w : World) (h : Sl EInt w v xs F) (hm : xs.length ≤ 4294967296) :
    Calls Try.prog 58 #[v] w (RetNew EInt 3 xs w) := by
  obtain ⟨ao, c, news, Fy, rfl, hl, hfy, hFy, hsrc⟩ := h.src
  have hFl := hfy.lt
  have hsrc2 : (ao = none ∧ c = 0 ∧ xs = []) ∨ ∃ ad, ao = some ad ∧ ∀ j u, news[j]? = some u → (w.alloc (.cells #[] 3)).cell? (ad.add j) = some u := by
    rcases hsrc with h | ⟨ad, h1, h2⟩
    · exact .inl h
    · exact .inr ⟨ad, h1, fun j u hu => kc ((Below.refl _ _).alloc (Nat.le_refl _) _) (h2 j u hu)⟩
  go_enter Try.func58, Try.ntmps58
  go_wp2_with (at_builtin; refine wpList_apd one_EInt (by decide) (by rfl) _ _ _ (by rfl) 3 (.int .i64 0) 8 Try.underlying25 info_int rfl (.slice (some ⟨w.heap.size, 0, none⟩) 0 0) [] [w.heap.size] (by rfl) (Ow.empty (Row.made _ _ _)) (Hd.one _) ao xs c (by rfl) news Fy (hfy.frame fun b hb => Below.heap_alloc _ _ _ (hFl b hb)) hsrc2 (fun b hb e => by have := hFl b hb; simp [Value.ownBlock] at e; omega) (by simpa using hl) (by unfold maxLen at hl; simp; omega) ?_)
  intro v2 w2 F2 hA
  go_wp2_with fail
  go_ret
  have hB : Below w.heap.size w w2 := ((Below.refl _ _).alloc (Nat.le_refl _) _).trans (hA.keep.below (by simp) (by simp))
  have hs : ∀ b, v2.ownBlock = some b → w.heap.size ≤ b := fun b hb => by rcases hA.same with e | e <;> rw [e] at hb <;> simp [Value.ownBlock] at hb <;> omega
  refine ⟨v2, F2, rfl, by simpa using hA.ow, hA.ow.scal scal_EInt ▸ ?_, fun b hb => ?_, hB⟩
  · cases v2.ownBlock <;> simp
  · rw [hA.ow.scal scal_EInt] at hb; exact hs b (by simpa using hb)
end Go.Proofs.Ytgogcgkocjpgoaa
/- Walks: copies of an element. -/
namespace Go.Proofs.Ytgogcgkocjpgoaa
open Go.RowKit
set_option maxHeartbeats 1600000 in
theorem Element_clone_c (v : Value) (e : Element) (F : List Nat) (w : World) (h : IsV EElement w v e F) (hm : e.entries.length ≤ 4294967296) (hm2 : ∀ x ∈ e.entries, x.faces.length ≤ 4294967296) :
    Calls Try.prog 38 #[v] w (RetV OElement e w) := by
  obtain ⟨_, rfl, v1, rfl, h1⟩ := h
  obtain ⟨a, cap, rfl⟩ := h1.slice
  have hl := h1.len
  unfold maxLen at hl
  have hB0 : ∀ A B : Obj, Below w.heap.size w ((w.alloc A).alloc B) := fun A B => ((Below.refl _ _).alloc (Nat.le_refl _) _).alloc (by simp) _
  have hFl := h1.lt (by decide)
  go_enter Try.func38, Try.ntmps38
  go_wp2_with fail
  refine (Clone_Entry _ e.entries F _ (h1.below (by decide) (hB0 _ _)) hm).mono ?_
  rintro e' w1 ⟨v2, F2, rfl, ho, hd, hs, hF2, hb1⟩
  obtain ⟨a2, cap2, rfl⟩ := ho.slice
  have r0 := Row.below (g := w.heap.size) (t := 29) (cs := [.int .i64 e.clock, .slice a e.entries.length cap]) (by simp [row_alloc] <;> omega) hb1
  have r1 := Row.below (g := w.heap.size + 1) (t := 29) (cs := [.int .i64 0, .slice none 0 0]) (by simp [row_alloc] <;> omega) hb1
  have hB := tr (hB0 _ _) hb1 (Nat.le_refl _)
  have hm1 := Lib.hid (Mix.start (O := OEntry) (R := EEntry) (B1 := w.heap.size) (B0 := w.heap.size + 2) rfl ho (by simpa using hs) (fun b hb => (hF2 b hb).imp id fun hb => hFl b hb) hd)
  have c0 := r0.cells; have f0 := r0.frozens
  have f1 := r1.frozens; have c1 := r1.cells
  clear hb1 ho hs hd hF2
  go_wp2_with fail
  have R0 := r0.set 1 (.slice a2 e.entries.length cap2)
  have R1 := r1.setOther (p := ⟨w.heap.size, 1, none⟩) (by simp) (.slice a2 e.entries.length cap2)
  have M1 := Lib.hid (hm1.out.setFar (p := ⟨w.heap.size, 1, none⟩) (Nat.le_refl _) (by simp) (.slice a2 e.entries.length cap2))
  clear hm1
  go_loopw [3, 11] (fun _ i wr => ∃ k : Nat, k ≤ e.entries.length ∧ i = .int .i64 k ∧ Hid (Mix OEntry EEntry 74 w.heap.size (w.heap.size + 2) wr (.slice a2 e.entries.length cap2) e.entries k) ∧ Row wr w.heap.size 29 [.int .i64 e.clock, .slice a2 e.entries.length cap2] ∧ Row wr (w.heap.size + 1) 29 [.int .i64 0, .slice none 0 0] ∧ Below w.heap.size w wr) (fun _ i _ => e.entries.length - (intOf i).toNat)
  case atStart => exact ⟨0, Nat.zero_le _, rfl, M1, by simpa using R0, R1, hB.setCell (Nat.le_refl _) _⟩
  case round =>
    obtain ⟨k, hk, rfl, hM, hr, hr1, hB⟩ := hrel
    have c0 := hr.cells; have f0 := hr.frozens
    have hsz := hr1.lt
    by_cases hlt : k < e.entries.length
    · obtain ⟨g, cap3, A, c, B, Fk, hv, hg, hrow, hA, hcl, hx, -, back⟩ := hM.out.at rfl hlt (by omega) (by omega)
      cases hv
      obtain ⟨u1, rfl, hf⟩ := id hx
      obtain ⟨fa, fc, rfl⟩ := hf.slice
      have a1 := hrow.cellMid (p := k * 3 + 1) (j := 1) (by rw [hA]; rfl) (by simp)
      simp only [List.getElem?_cons_zero, List.getElem?_cons_succ] at a1
      have hne : ¬ g = w.heap.size := by omega
      have hne2 : ¬ w.heap.size = g := by omega
      have hbk := Lib.hid back
      clear back
      have hfl := hm2 e.entries[k] (List.getElem_mem _)
      go_wp2_with fail
      go_region_law (first | (go_simp; go_at_call 55; refine (Clone_Int _ e.entries[k].faces Fk wr.drew (hf.frame fun _ _ => rfl) hfl).mono ?_; rintro e' w2 ⟨v3, F3, rfl, o3, n3, g3, hb2⟩; obtain ⟨d3, p3, rfl⟩ := o3.slice; have z3 := kc hb2 (show wr.drew.cell? ⟨w.heap.size, 1, none⟩ = some (.slice (some ⟨g, 0, none⟩) e.entries.length cap2) by simpa using c0 1); have z1 := kc hb2 (by simpa using a1); have zf := ((show Row wr.drew g 74 _ from hrow).below hb2).frozens (k * 3 + 1)))
      all_goals
        have hr2 := ((show Row wr.drew w.heap.size 29 _ from hr).below hb2).setOther (p := ⟨g, k * 3 + 1, none⟩) hne (.slice d3 e.entries[k].faces.length p3)
        have hr3 := ((show Row wr.drew (w.heap.size + 1) 29 _ from hr1).below hb2).setOther (p := ⟨g, k * 3 + 1, none⟩) (by simp; omega) (.slice d3 e.entries[k].faces.length p3)
        have hro := ((show Row wr.drew g 74 _ from hrow).below hb2).setMid (p := k * 3 + 1) (j := 1) (by rw [hA]; rfl) (by simp) (.slice d3 e.entries[k].faces.length p3)
        have hg3 : ∀ b ∈ F3, wr.heap.size ≤ b := g3
        have hgs := hrow.lt
        have hMk := Lib.hid (hbk.out _ _ F3 hro ⟨_, rfl, o3.setFar (fun hm => by have := hg3 _ hm; simp at this; omega) _⟩ n3 hg3 (fun b hb hbg => (Below.heap_setCell _ _ _ _ hbg).trans (hb2.block b hb)))
        have hB3 : Below w.heap.size w (w2.setCell ⟨g, k * 3 + 1, none⟩ (.slice d3 e.entries[k].faces.length p3)) := (tr (belowDrewN hB 1) hb2 (Nat.le_refl _)).setCell (by simp; omega) _
        go_wp2_with fail
        exact ⟨⟨k + 1, by omega, by go_num, hMk, hr2, hr3, hB3⟩, by simp [intOf]; omega⟩
    · have hk : k = e.entries.length := by omega
      subst hk
      obtain ⟨F4, o4, n4, g4⟩ := hM.out.done
      have O4 := Lib.hid o4
      clear hM o4
      have d1 := hr1.cells; have fd := hr1.frozens
      go_wp2_with fail
      refine bodyPost_ret (v := .agg #[.int .i64 e.clock, .slice a2 e.entries.length cap2]) ?_ rfl ?_
      · simp [results, Try.results38, go_sem, c0, d1, fd]
      · refine ⟨_, F4, rfl, ⟨_, rfl, _, rfl, ?_⟩, n4, fun b hb => by have := g4 b hb; omega, ?_⟩
        · repeat refine Ow.setFar ?_ (fun hm => by have := g4 _ hm; simp at this <;> omega) _
          exact O4.out
        · repeat refine Below.setCell ?_ (by simp <;> omega) _
          exact hB
end Go.Proofs.Ytgogcgkocjpgoaa
/- Walks: the reference's copy of an element. -/
namespace Go.Proofs.Ytgogcgkocjpgoaa
open Go.RowKit
set_option maxHeartbeats 1600000 in
theorem l14Own_c (v : Value) (e : Element) (F : List Nat) (w : World) (h : IsV EElement w v e F) (hm : e.entries.length ≤ 4294967296) (hm2 : ∀ x ∈ e.entries, x.faces.length ≤ 4294967296) :
    Calls Try.prog 63 #[v] w (RetV OElement e w) := by
  obtain ⟨_, rfl, v1, rfl, h1⟩ := h
  obtain ⟨a, cap, rfl⟩ := h1.slice
  have hl := h1.len
  unfold maxLen at hl
  have hB0 : ∀ A B C : Obj, Below w.heap.size w (((w.alloc A).alloc B).alloc C) := fun A B C => (((Below.refl _ _).alloc (Nat.le_refl _) _).alloc (by simp) _).alloc (by simp <;> omega) _
  go_enter Try.func63, Try.ntmps63
  go_wp2_with fail
  go_loopw [4, 5] (fun i _ wr => ∃ k : Nat, k ≤ e.entries.length ∧ i = .int .i64 k ∧ ∃ oa oc F, Hid (Ow OEntry 74 wr (.slice oa k oc) (e.entries.take k) F) ∧ F.Nodup ∧ (∀ b ∈ F, w.heap.size + 1 + 1 < b) ∧
    Row wr w.heap.size 29 [.int .i64 e.clock, .slice a e.entries.length cap] ∧ Row wr (w.heap.size + 1) 29 [.int .i64 0, .slice none 0 0] ∧ Row wr (w.heap.size + 1 + 1) 29 [.int .i64 e.clock, .slice oa k oc] ∧ Below w.heap.size w wr) (fun i _ _ => e.entries.length - (intOf i).toNat)
  case atStart => exact ⟨0, Nat.zero_le _, rfl, none, 0, [], Lib.hid (.inl ⟨rfl, by simp, rfl⟩), by simp, by simp, by simp [row_alloc] <;> omega, by simp [row_alloc] <;> omega, by simp [row_alloc] <;> omega, hB0 _ _ _⟩
  case round =>
    obtain ⟨k, hk, rfl, oa, oc, F2, ho, hn2, hF2, hr, hr1, hr2, hB⟩ := hrel
    have c0 := hr.cells
    have hsz := hr2.lt
    by_cases hlt : k < e.entries.length
    · obtain ⟨b, off, _, F1, rfl, hx, -, ja⟩ := (h1.below (by decide) hB).at k hlt
      obtain ⟨u1, rfl, hf⟩ := id hx
      obtain ⟨fa, fc, rfl⟩ := hf.slice
      have a0 := ja 0 (by decide)
      have a1 := ja 1 (by decide)
      have a2 := ja 2 (by decide)
      simp only [show EEntry.sz = 3 from rfl, Nat.add_zero, List.getElem?_cons_zero, List.getElem?_cons_succ] at a0 a1 a2
      clear ja
      have hfl := hm2 e.entries[k] (List.getElem_mem _)
      have hAl := fun A : Obj => (Below.refl wr.heap.size wr).alloc (Nat.le_refl _) A
      have hB1 := fun A : Obj => tr hB (hAl A) (Nat.le_refl _)
      have hlF := ho.out.lt
      go_wp2_with fail
      have H0 := hr.alloc (.cells #[.int .i64 e.entries[k].number, .slice fa e.entries[k].faces.length fc, .int .i64 e.entries[k].untl] 74)
      have H1 := hr1.alloc (.cells #[.int .i64 e.entries[k].number, .slice fa e.entries[k].faces.length fc, .int .i64 e.entries[k].untl] 74)
      have H2 := hr2.alloc (.cells #[.int .i64 e.entries[k].number, .slice fa e.entries[k].faces.length fc, .int .i64 e.entries[k].untl] 74)
      have Q := Row.made wr 74 [.int .i64 e.entries[k].number, .slice fa e.entries[k].faces.length fc, .int .i64 e.entries[k].untl]
      have O1 := Lib.hid (ho.out.below (hAl (.cells #[.int .i64 e.entries[k].number, .slice fa e.entries[k].faces.length fc, .int .i64 e.entries[k].untl] 74)))
      have hf1 := hf.below (by decide) (hAl (.cells #[.int .i64 e.entries[k].number, .slice fa e.entries[k].faces.length fc, .int .i64 e.entries[k].untl] 74))
      have hB2 := hB1 (.cells #[.int .i64 e.entries[k].number, .slice fa e.entries[k].faces.length fc, .int .i64 e.entries[k].untl] 74)
      have hs1 : wr.heap.size < (wr.alloc (.cells #[.int .i64 e.entries[k].number, .slice fa e.entries[k].faces.length fc, .int .i64 e.entries[k].untl] 74)).heap.size := by simp
      generalize wr.alloc (.cells #[.int .i64 e.entries[k].number, .slice fa e.entries[k].faces.length fc, .int .i64 e.entries[k].untl] 74) = w1 at *
      have q0 := Q.cells; have t1 := H2.cells 1
      simp only [List.getElem?_cons_zero, List.getElem?_cons_succ] at t1
      have hown := O1.out.own_mem
      have hne : ¬ wr.heap.size = w.heap.size + 1 + 1 := by omega
      have hne2 : ¬ w.heap.size + 1 + 1 = wr.heap.size := by omega
      have htl : (e.entries.take k).length = k := by simp; omega
      have hks : k + 1 ≤ 4294967296 := by omega
      clear hr hr1 hr2 hx hf ho hAl hB1 c0 a0 a1 a2
      have hS0 : (fun w' => w'.cell? ⟨wr.heap.size, 0, none⟩ = some (.int .i64 e.entries[k].number) ∧ w'.cell? ⟨wr.heap.size, 1, none⟩ = some (.slice fa e.entries[k].faces.length fc) ∧ w'.cell? ⟨wr.heap.size, 2, none⟩ = some (.int .i64 e.entries[k].untl) ∧ w'.cell? ⟨w.heap.size + 1 + 1, 1, none⟩ = some (.slice oa k oc)) w1.drew := ⟨by simpa using q0 0, by simpa using q0 1, by simpa using q0 2, t1⟩
      refine AnyX.start (S := (fun w' => w'.cell? ⟨wr.heap.size, 0, none⟩ = some (.int .i64 e.entries[k].number) ∧ w'.cell? ⟨wr.heap.size, 1, none⟩ = some (.slice fa e.entries[k].faces.length fc) ∧ w'.cell? ⟨wr.heap.size, 2, none⟩ = some (.int .i64 e.entries[k].untl) ∧ w'.cell? ⟨w.heap.size + 1 + 1, 1, none⟩ = some (.slice oa k oc))) (X := fun i => i == 13) (by kernel_rfl) ?_
      refine AnyX.take (i := 0) (oi := _) (v := ?_) rfl (by kernel_rfl) (by kernel_rfl) (by kernel_rfl) (by kernel_rfl) (by kernel_rfl) (fun _ _ _ h => h) (Or.inl ⟨by rfl, ?_⟩) (by assumption) ?_
      rotate_left
      · (intro wS hSw; (try dsimp only at hSw); go_simp; try with_reducible rfl)
      try simp only [Act.put, List.setIfInBounds_toArray, List.set_cons_zero, List.set_cons_succ]
      refine AnyX.take (i := 1) (oi := _) (v := ?_) rfl (by kernel_rfl) (by kernel_rfl) (by kernel_rfl) (by kernel_rfl) (by kernel_rfl) (fun _ _ _ h => h) (Or.inl ⟨by rfl, ?_⟩) (by assumption) ?_
      rotate_left
      · (intro wS hSw; (try dsimp only at hSw); go_simp; try with_reducible rfl)
      try simp only [Act.put, List.setIfInBounds_toArray, List.set_cons_zero, List.set_cons_succ]
      refine AnyX.take (i := 2) (oi := _) (v := ?_) rfl (by kernel_rfl) (by kernel_rfl) (by kernel_rfl) (by kernel_rfl) (by kernel_rfl) (fun _ _ _ h => h) (Or.inl ⟨by rfl, ?_⟩) (by assumption) ?_
      rotate_left
      · (intro wS hSw; (try dsimp only at hSw); go_simp; try with_reducible rfl)
      try simp only [Act.put, List.setIfInBounds_toArray, List.set_cons_zero, List.set_cons_succ]
      refine AnyX.take (i := 3) (oi := _) (v := ?_) rfl (by kernel_rfl) (by kernel_rfl) (by kernel_rfl) (by kernel_rfl) (by kernel_rfl) (fun _ _ _ h => h) (Or.inl ⟨by rfl, ?_⟩) (by assumption) ?_
      rotate_left
      · (intro wS hSw; (try dsimp only at hSw); go_simp; try with_reducible rfl)
      try simp only [Act.put, List.setIfInBounds_toArray, List.set_cons_zero, List.set_cons_succ]
      refine AnyX.take (i := 4) (oi := _) (v := ?_) rfl (by kernel_rfl) (by kernel_rfl) (by kernel_rfl) (by kernel_rfl) (by kernel_rfl) (fun _ _ _ h => h) (Or.inl ⟨by rfl, ?_⟩) (by assumption) ?_
      rotate_left
      · (intro wS hSw; (try dsimp only at hSw); go_simp; try with_reducible rfl)
      try simp only [Act.put, List.setIfInBounds_toArray, List.set_cons_zero, List.set_cons_succ]
      refine AnyX.take (i := 5) (oi := _) (v := ?_) rfl (by kernel_rfl) (by kernel_rfl) (by kernel_rfl) (by kernel_rfl) (by kernel_rfl) (fun _ _ _ h => h) (Or.inl ⟨by rfl, ?_⟩) (by assumption) ?_
      rotate_left
      · (intro wS hSw; (try dsimp only at hSw); go_simp; try with_reducible rfl)
      try simp only [Act.put, List.setIfInBounds_toArray, List.set_cons_zero, List.set_cons_succ]
      refine AnyX.take (i := 7) (oi := _) (v := ?_) rfl (by kernel_rfl) (by kernel_rfl) (by kernel_rfl) (by kernel_rfl) (by kernel_rfl) (fun _ _ _ h => h) (Or.inl ⟨by rfl, ?_⟩) (by assumption) ?_
      rotate_left
      · (intro wS hSw; (try dsimp only at hSw); go_simp; try with_reducible rfl)
      try simp only [Act.put, List.setIfInBounds_toArray, List.set_cons_zero, List.set_cons_succ]
      refine AnyX.take (i := 8) (oi := _) (v := ?_) rfl (by kernel_rfl) (by kernel_rfl) (by kernel_rfl) (by kernel_rfl) (by kernel_rfl) (fun _ _ _ h => h) (Or.inl ⟨by rfl, ?_⟩) (by assumption) ?_
      rotate_left
      · (intro wS hSw; (try dsimp only at hSw); go_simp; try with_reducible rfl)
      try simp only [Act.put, List.setIfInBounds_toArray, List.set_cons_zero, List.set_cons_succ]
      refine AnyX.only (i := 6) (o := _) (by kernel_rfl) rfl (fun K hK => ?_)
      go_simp
      go_at_call 58; refine (l1Own_c _ e.entries[k].faces F1 w1.drew (hf1.frame fun _ _ => rfl) hfl).mono ?_; rintro e' w2 ⟨v3, F3, rfl, o3, n3, g3, hb2⟩; obtain ⟨d3, p3, rfl⟩ := o3.slice; have H2b := (show Row w1.drew (w.heap.size + 1 + 1) 29 _ from H2).below hb2; have t2 := H2b.cells 1; have t3 := fun A => (H2b.alloc A).cells 1; have Q2 := (show Row w1.drew wr.heap.size 74 _ from Q).below hb2; simp only [List.getElem?_cons_zero, List.getElem?_cons_succ] at t2 t3
      refine hK.out _ _ (fun _ => ?_) ?_
      · exact ⟨kc hb2 (by simpa using q0 0), kc hb2 (by simpa using q0 1), kc hb2 (by simpa using q0 2), t2⟩
      clear hK K
      try simp only [Act.put, List.setIfInBounds_toArray, List.set_cons_zero, List.set_cons_succ]
      have hS2 : (fun w' => w'.cell? ⟨wr.heap.size, 0, none⟩ = some (.int .i64 e.entries[k].number) ∧ w'.cell? ⟨wr.heap.size, 1, none⟩ = some (.slice fa e.entries[k].faces.length fc) ∧ w'.cell? ⟨wr.heap.size, 2, none⟩ = some (.int .i64 e.entries[k].untl) ∧ w'.cell? ⟨w.heap.size + 1 + 1, 1, none⟩ = some (.slice oa k oc)) w2 := ⟨kc hb2 (by simpa using q0 0), kc hb2 (by simpa using q0 1), kc hb2 (by simpa using q0 2), t2⟩
      have q6 := fun A => (Q2.alloc A).cells
      refine AnyX.take (i := 9) (oi := _) (v := ?_) rfl (by kernel_rfl) (by kernel_rfl) (by kernel_rfl) (by kernel_rfl) (by kernel_rfl) (fun _ _ _ h => h) (Or.inl ⟨by rfl, ?_⟩) (by assumption) ?_
      rotate_left
      · (intro wS hSw; (try dsimp only at hSw); go_simp; try with_reducible rfl)
      try simp only [Act.put, List.setIfInBounds_toArray, List.set_cons_zero, List.set_cons_succ]
      refine AnyX.only (i := 10) (o := _) (by kernel_rfl) rfl (fun K hK => ?_)
      go_simp
      refine hK.out _ _ (fun _ => ?_) ?_
      · exact ⟨by simpa using q6 _ 0, by simpa using q6 _ 1, by simpa using q6 _ 2, t3 _⟩
      clear hK K
      try simp only [Act.put, List.setIfInBounds_toArray, List.set_cons_zero, List.set_cons_succ]
      refine AnyX.only (i := 11) (o := _) (by kernel_rfl) rfl (fun K hK => ?_)
      refine step_apd one_OEntry (by decide) (by rfl) _ _ _ (by rfl) 74 (.agg #[.int .i64 0, .slice none 0 0, .int .i64 0]) 40 Try.underlying27 info_Entry rfl (.slice oa k oc) (e.entries.take k) F2 (by rfl) ((O1.out.frame (w' := w1.drew) fun _ _ => rfl).below (hb2.alloc hb2.size _)) (Hd.of hn2) (some ⟨w2.heap.size, 0, none⟩) [e.entries[k]] 1 (by rfl) [.int .i64 e.entries[k].number, .slice d3 e.entries[k].faces.length p3, .int .i64 e.entries[k].untl] F3 (Flat.one ⟨_, rfl, o3.below ((Below.refl _ _).alloc (Nat.le_refl _) _)⟩) (.inr ⟨_, rfl, World.news_of_block (heap_alloc_new w2 _)⟩) (fun b hb he => by have h1 := hown b he; have h2 := O1.out.lt b h1; have h3 := g3 b hb; exact Nat.lt_irrefl _ (Nat.lt_of_lt_of_le h2 h3)) (by unfold maxLen; rw [htl]; simp; omega) (by rw [htl]; simp; omega) ?_
      intro v4 w4 F4 hA; obtain ⟨oa2, oc2, rfl⟩ := hA.val; rw [htl];  have H4 := (H2b.alloc (.cells #[.int .i64 e.entries[k].number, .slice d3 e.entries[k].faces.length p3, .int .i64 e.entries[k].untl] 74)).keepK hA.keep (fun hm => Nat.lt_irrefl _ (hF2 _ hm)); have q4 := ((Q2.alloc (.cells #[.int .i64 e.entries[k].number, .slice d3 e.entries[k].faces.length p3, .int .i64 e.entries[k].untl] 74)).keepK hA.keep (fun hm => by have := hlF _ hm; omega)).cells; have t4 := H4.cells 1; have f4 := H4.frozens 1; simp only [List.getElem?_cons_zero, List.getElem?_cons_succ] at t4
      refine hK.out _ _ (fun _ => ?_) ?_
      · exact ⟨by simpa using q4 0, by simpa using q4 1, by simpa using q4 2, t4⟩
      clear hK K
      try simp only [Act.put, List.setIfInBounds_toArray, List.set_cons_zero, List.set_cons_succ]
      have hS4 : (fun w' => w'.cell? ⟨wr.heap.size, 0, none⟩ = some (.int .i64 e.entries[k].number) ∧ w'.cell? ⟨wr.heap.size, 1, none⟩ = some (.slice fa e.entries[k].faces.length fc) ∧ w'.cell? ⟨wr.heap.size, 2, none⟩ = some (.int .i64 e.entries[k].untl) ∧ w'.cell? ⟨w.heap.size + 1 + 1, 1, none⟩ = some (.slice oa k oc)) w4 := ⟨by simpa using q4 0, by simpa using q4 1, by simpa using q4 2, t4⟩
      refine AnyX.take (i := 12) (oi := _) (v := ?_) rfl (by kernel_rfl) (by kernel_rfl) (by kernel_rfl) (by kernel_rfl) (by kernel_rfl) (fun _ _ _ h => h) (Or.inl ⟨by rfl, ?_⟩) (by assumption) ?_
      rotate_left
      · (intro wS hSw; (try dsimp only at hSw); go_simp; try with_reducible rfl)
      try simp only [Act.put, List.setIfInBounds_toArray, List.set_cons_zero, List.set_cons_succ]
      refine AnyX.only (i := 13) (o := _) (by kernel_rfl) rfl (fun K hK => ?_)
      go_simp
      refine hK.out _ _ (fun h => by cases h) ?_
      clear hK K
      try simp only [Act.put, List.setIfInBounds_toArray, List.set_cons_zero, List.set_cons_succ]
      refine AnyX.done (by kernel_rfl) ?_ _
      have hz2 : w1.heap.size ≤ w2.heap.size := hb2.size
      have hO4 := hA.ow
      rw [htl, ← List.take_succ_eq_append_getElem hlt] at hO4
      have hF4 : ∀ b ∈ F4, w.heap.size + 1 + 1 < b := fun b hb => by
        rcases hA.mem b hb with h | h | h
        · exact hF2 b h
        · have h3 : w1.heap.size ≤ b := g3 b h; omega
        · simp at h; omega
      have hO5 := Lib.hid (hO4.setFar (p := ⟨w.heap.size + 1 + 1, 1, none⟩) (fun hm => Nat.lt_irrefl _ (hF4 _ hm)) (.slice oa2 (k + 1) oc2))
      have hn4 := hA.nodup hn2 n3 (fun b hb hm => by have h2 := O1.out.lt b hm; have h3 := g3 b hb; exact Nat.lt_irrefl _ (Nat.lt_of_lt_of_le h2 h3))
      have G0 := (((show Row w1.drew w.heap.size 29 _ from H0).below hb2).alloc (.cells #[.int .i64 e.entries[k].number, .slice d3 e.entries[k].faces.length p3, .int .i64 e.entries[k].untl] 74)).keepK hA.keep (fun hm => by have := hF2 _ hm; omega)
      have G1 := (((show Row w1.drew (w.heap.size + 1) 29 _ from H1).below hb2).alloc (.cells #[.int .i64 e.entries[k].number, .slice d3 e.entries[k].faces.length p3, .int .i64 e.entries[k].untl] 74)).keepK hA.keep (fun hm => by have := hF2 _ hm; omega)
      have L0 := G0.setOther (p := ⟨w.heap.size + 1 + 1, 1, none⟩) (by simp; omega) (.slice oa2 (k + 1) oc2)
      have L1 := G1.setOther (p := ⟨w.heap.size + 1 + 1, 1, none⟩) (by simp) (.slice oa2 (k + 1) oc2)
      have L2 := H4.set 1 (.slice oa2 (k + 1) oc2)
      have hB5 : Below w.heap.size w (w4.setCell ⟨w.heap.size + 1 + 1, 1, none⟩ (.slice oa2 (k + 1) oc2)) :=
        Below.setCell (((tr (belowDrewN hB2 1) hb2 (Nat.le_refl _)).alloc (by omega) _).trans (hA.keep.below (by simp; omega) (fun b hb => by have := hF2 b hb; omega))) (by simp <;> omega) _
      clear hA hO4 G0 G1 H4
      go_wp2_with fail
      exact ⟨⟨k + 1, by omega, by go_num, oa2, oc2, F4, hO5, hn4, hF4, L0, L1, by simpa using L2, hB5⟩, by simp [intOf]; omega⟩
    · have hk : k = e.entries.length := by omega
      subst hk
      have hO := Lib.hid (show Ow OEntry 74 wr (.slice oa e.entries.length oc) e.entries F2 by simpa using ho.out)
      clear ho
      have c1 := hr1.cells; have c2 := hr2.cells; have f1 := hr1.frozens
      go_wp2_with fail
      refine bodyPost_ret (v := .agg #[.int .i64 e.clock, .slice oa e.entries.length oc]) ?_ rfl ?_
      · simp [results, Try.results63, go_sem, c1, c2, f1]
      · refine ⟨_, F2, rfl, ⟨_, rfl, _, rfl, ?_⟩, hn2, fun b hb => by have := hF2 b hb; omega, ?_⟩
        · repeat refine Ow.setFar ?_ (fun hm => by have := hF2 _ hm; simp at this <;> omega) _
          exact hO.out
        · repeat refine Below.setCell ?_ (by simp <;> omega) _
          exact hB
end Go.Proofs.Ytgogcgkocjpgoaa
/- Walks: a tick of an element. -/
namespace Go.Proofs.Ytgogcgkocjpgoaa
open Go.RowKit
/-- an element a tick later -/
def tickElement (e : Element) : Element := ⟨e.clock + 1, e.entries.filter fun x => !decide (x.untl ≤ e.clock + 1)⟩
theorem Sl.headIn {α : Type} {E : Elem α} {w : World} {b off n cap : Nat} {xs : List α} {F} (h : Sl E w (.slice (some ⟨b, off, none⟩) n cap) xs F) (k : Nat) (hk : k < xs.length) : b ∈ F := by
  obtain ⟨a', cap', hv, hl, h⟩ := h
  cases hv
  rcases h with ⟨rfl, _⟩ | ⟨b, off, F', he, _, rfl, hc⟩
  · simp at hk
  · cases he; simp
set_option maxHeartbeats 1600000 in
theorem l14Tick_c (v : Value) (e : Element) (F : List Nat) (w : World) (h : IsV EElement w v e F) (hc : isClk e.clock = true) (hm : e.entries.length ≤ 4294967296) (hm2 : ∀ x ∈ e.entries, x.faces.length ≤ 4294967296) :
    Calls Try.prog 76 #[v] w (RetR EElement (tickElement e) w) := by
  have hcb := isClk_iff.1 hc
  have hm2 := Lib.hid hm2
  have h0 := h
  obtain ⟨_, rfl, v1, rfl, h1⟩ := h
  obtain ⟨a, cap, rfl⟩ := h1.slice
  have hB0 : ∀ A B : Obj, Below w.heap.size w ((w.alloc A).alloc B) := fun A B => ((Below.refl _ _).alloc (Nat.le_refl _) _).alloc (by simp) _
  go_enter Try.func76, Try.ntmps76
  go_wp2_with fail
  refine (l14Own_c _ e F _ (h0.below (hB0 _ _)) hm hm2.out).mono ?_
  rintro e' w1 ⟨_, Fo, rfl, ⟨_, rfl, v2, rfl, ho⟩, hn, hFo, hb1⟩
  obtain ⟨a2, cap2, rfl⟩ := ho.slice
  have r0 := Row.below (g := w.heap.size) (t := 29) (cs := [.int .i64 e.clock, .slice a e.entries.length cap]) (by simp [row_alloc] <;> omega) hb1
  have r1 := Row.below (g := w.heap.size + 1) (t := 29) (cs := [.int .i64 0, .slice none 0 0]) (by simp [row_alloc] <;> omega) hb1
  obtain ⟨Fr, hFr, hs⟩ := ho.sl weak_Entry
  have hFl := ho.lt
  have hB := tr (hB0 _ _) hb1 (Nat.le_refl _)
  have d0 := fun A => (r0.alloc A).cells
  have c0 := r0.cells
  clear hb1
  go_wp2_with fail
  go_loopw [5] (fun i wr => ∃ k : Nat, k ≤ e.entries.length ∧ i = .int .i64 k ∧ ∃ oa oc F, Hid (Ow EEntry 74 wr (.slice oa ((e.entries.take k).filter fun x => !decide (x.untl ≤ e.clock + 1)).length oc) ((e.entries.take k).filter fun x => !decide (x.untl ≤ e.clock + 1)) F) ∧ Hd F ∧ (∀ b, oa = some b → w1.heap.size + 1 + 1 ≤ b.block) ∧ (∀ c ∈ F, w.heap.size + 2 ≤ c ∧ c ≠ w1.heap.size ∧ c ≠ w1.heap.size + 1) ∧
    Row wr (w.heap.size + 1) 29 [.int .i64 0, .slice none 0 0] ∧ Row wr w1.heap.size 29 [.int .i64 e.clock, .slice a2 e.entries.length cap2] ∧ Row wr (w1.heap.size + 1) 29 [.int .i64 (e.clock + 1), .slice oa ((e.entries.take k).filter fun x => !decide (x.untl ≤ e.clock + 1)).length oc] ∧ Below w1.heap.size w1 wr) (fun i _ => e.entries.length - (intOf i).toNat)
  case atStart => exact ⟨0, Nat.zero_le _, rfl, none, 0, [], Lib.hid (.inl ⟨rfl, by simp, rfl⟩), Hd.nil, by simp, by simp, (r1.alloc _).alloc _, by simp [row_alloc], by simp [row_alloc], ((Below.refl _ _).alloc (Nat.le_refl _) _).alloc (by simp) _⟩
  case round =>
    obtain ⟨k, hk, rfl, oa, oc, F2, hO, hd2, hoa, hF2, hr1, hr2, hr3, hB2⟩ := hrel
    have c1 := hr2.cells; have c2 := hr3.cells; have c4 := hr1.cells; have f4 := hr1.frozens
    by_cases hlt : k < e.entries.length
    · obtain ⟨b, off, _, F1, rfl, hx, hFx, ja⟩ := (hs.below (by decide) hB2).at k hlt
      obtain ⟨u1, rfl, hf⟩ := id hx
      obtain ⟨fa, fc, rfl⟩ := hf.slice
      have a0 := ja 0 (by decide)
      have a1 := ja 1 (by decide)
      have a2 := ja 2 (by decide)
      simp only [show EEntry.sz = 3 from rfl, Nat.add_zero, List.getElem?_cons_zero, List.getElem?_cons_succ] at a0 a1 a2
      clear ja
      by_cases hq : e.entries[k].untl > e.clock + 1
      · have hqf := Lib.hid (filter_take_yes (q := fun x : Entry => !decide (x.untl ≤ e.clock + 1)) hlt (by simp; omega))
        generalize hys : ((e.entries.take k).filter fun x => !decide (x.untl ≤ e.clock + 1)) = ys at *
        have hys := Lib.hid hys
        go_wp2_with fail
        go_quiet (fail)
        go_wp2_with fail
        have D1 := show Row (wr.drewN nq) _ _ _ from hr1
        have D2 := show Row (wr.drewN nq) _ _ _ from hr2
        have D3 := show Row (wr.drewN nq) _ _ _ from hr3
        have DO := Lib.hid (show Ow EEntry 74 (wr.drewN nq) _ _ _ from hO.out.frame fun _ _ => rfl)
        have DX : EEntry.rep (wr.drewN nq) _ _ _ := EEntry.frame hx fun _ _ => rfl
        have DB := belowDrewN hB2 nq
        have b0 : (wr.drewN nq).cell? ⟨b, off + k * 3, none⟩ = _ := a0
        have b1 : (wr.drewN nq).cell? ⟨b, off + k * 3 + 1, none⟩ = _ := a1
        have b2 : (wr.drewN nq).cell? ⟨b, off + k * 3 + 2, none⟩ = _ := a2
        clear hr1 hr2 hr3 hO hx hf hB2 a0 a1 a2 c1 c2 c4 f4
        generalize wr.drewN nq = w2 at *
        have hbb := World.block_lt_of_cell? w2 _ b0
        simp only at hbb
        have DBs := DB.size
        have t3 := fun A => (D3.alloc A).cells 1; have t0 := D3.cells 1
        have o0 := D2.cells 1
        simp only [List.getElem?_cons_zero, List.getElem?_cons_succ] at t3 t0 o0
        have hyl : ys.length ≤ 4294967295 := by have := congrArg List.length hys.out; have := List.length_filter_le (fun x : Entry => !decide (x.untl ≤ e.clock + 1)) (e.entries.take k); simp at this; omega
        have hA := (Below.refl w2.heap.size w2).alloc (Nat.le_refl _) (.cells #[.int .i64 e.entries[k].number, .slice fa e.entries[k].faces.length fc, .int .i64 e.entries[k].untl] 74)
        have DOd := Lib.hid ((DO.out.below hA).frame (w' := (w2.alloc (.cells #[.int .i64 e.entries[k].number, .slice fa e.entries[k].faces.length fc, .int .i64 e.entries[k].untl] 74)).drew) fun _ _ => rfl)
        have DXd := EEntry.frame (w' := (w2.alloc (.cells #[.int .i64 e.entries[k].number, .slice fa e.entries[k].faces.length fc, .int .i64 e.entries[k].untl] 74)).drew) (EEntry.below DX hA) fun _ _ => rfl
        have E0' := kc hA o0; have E0 : (w2.alloc (.cells #[.int .i64 e.entries[k].number, .slice fa e.entries[k].faces.length fc, .int .i64 e.entries[k].untl] 74)).drew.cell? _ = _ := E0'
        have E1' := kc hA b0; have E1 : (w2.alloc (.cells #[.int .i64 e.entries[k].number, .slice fa e.entries[k].faces.length fc, .int .i64 e.entries[k].untl] 74)).drew.cell? _ = _ := E1'
        have E2' := kc hA b1; have E2 : (w2.alloc (.cells #[.int .i64 e.entries[k].number, .slice fa e.entries[k].faces.length fc, .int .i64 e.entries[k].untl] 74)).drew.cell? _ = _ := E2'
        have E3' := kc hA b2; have E3 : (w2.alloc (.cells #[.int .i64 e.entries[k].number, .slice fa e.entries[k].faces.length fc, .int .i64 e.entries[k].untl] 74)).drew.cell? _ = _ := E3'
        have nob : ∀ c ∈ (Value.slice oa ys.length oc).ownBlock.toList, w1.heap.size + 1 + 1 ≤ c := fun c hc => by
          cases oa with
          | none => simp [Value.ownBlock] at hc
          | some b => simp [Value.ownBlock] at hc; subst hc; exact hoa b rfl
        have D3a := show Row (w2.alloc (.cells #[.int .i64 e.entries[k].number, .slice fa e.entries[k].faces.length fc, .int .i64 e.entries[k].untl] 74)).drew _ _ _ from D3.alloc (.cells #[.int .i64 e.entries[k].number, .slice fa e.entries[k].faces.length fc, .int .i64 e.entries[k].untl] 74)
        have hFs : ∀ c ∈ F1, c < w1.heap.size := fun c hc => hs.lt (by decide) c (hFx c hc)
        have hbw : b < w1.heap.size := hs.lt (by decide) b (hs.headIn k hlt)
        have hn1 : ¬ b = w1.heap.size + 1 := by omega
        have hn2 : ¬ w1.heap.size + 1 = b := by omega
        go_region_law (first | ((refine step_apd one_EEntry (by decide) (by rfl) _ _ _ (by rfl) 74 (.agg #[.int .i64 0, .slice none 0 0, .int .i64 0]) 40 Try.underlying27 info_Entry rfl (.slice oa ys.length oc) ys F2 (by rfl) DOd.out hd2 (some ⟨w2.heap.size, 0, none⟩) [e.entries[k]] 1 (by rfl) [.int .i64 e.entries[k].number, .slice fa e.entries[k].faces.length fc, .int .i64 e.entries[k].untl] F1 (Flat.one DXd) (.inr ⟨_, rfl, World.news_of_block (w := (w2.alloc (.cells #[.int .i64 e.entries[k].number, .slice fa e.entries[k].faces.length fc, .int .i64 e.entries[k].untl] 74)).drew) (heap_alloc_new w2 _)⟩) (fun c hc he => by have h1 := nob c (by rw [he]; simp); have h2 := hFs c hc; omega) (by unfold maxLen; simp; omega) (by simp; omega) ?_); intro v4 w4 F4 hA4; obtain ⟨oa2, oc2, rfl⟩ := hA4.val; have D4 := D3a.keepK hA4.keep1 (fun hm => by have := nob _ hm; omega); have t4 := D4.cells 1; have f4 := D4.frozens 1; simp only [List.getElem?_cons_zero, List.getElem?_cons_succ] at t4))
        all_goals
          have hn4 : w1.heap.size + 1 ∉ F4 := fun hm => by
            rcases hA4.mem _ hm with h | h | h
            · exact (hF2 _ h).2.2 rfl
            · have := hFs _ h; omega
            · have := D3.lt; simp at h; omega
          have P1 := Lib.hid (hA4.ow.setFar (p := ⟨w1.heap.size + 1, 1, none⟩) hn4 (.slice oa2 (ys.length + 1) oc2))
          have L1 := ((show Row (w2.alloc (.cells #[.int .i64 e.entries[k].number, .slice fa e.entries[k].faces.length fc, .int .i64 e.entries[k].untl] 74)).drew _ _ _ from D1.alloc (.cells #[.int .i64 e.entries[k].number, .slice fa e.entries[k].faces.length fc, .int .i64 e.entries[k].untl] 74)).keepK hA4.keep1 (fun hm => by have := nob _ hm; have := r1.lt; omega)).setOther (p := ⟨w1.heap.size + 1, 1, none⟩) (by have := r1.lt; simp; omega) (.slice oa2 (ys.length + 1) oc2)
          have L2 := ((show Row (w2.alloc (.cells #[.int .i64 e.entries[k].number, .slice fa e.entries[k].faces.length fc, .int .i64 e.entries[k].untl] 74)).drew _ _ _ from D2.alloc (.cells #[.int .i64 e.entries[k].number, .slice fa e.entries[k].faces.length fc, .int .i64 e.entries[k].untl] 74)).keepK hA4.keep1 (fun hm => by have := nob _ hm; omega)).setOther (p := ⟨w1.heap.size + 1, 1, none⟩) (by simp) (.slice oa2 (ys.length + 1) oc2)
          have L3 := D4.set 1 (.slice oa2 (ys.length + 1) oc2)
          have hoa2 : ∀ b, oa2 = some b → w1.heap.size + 1 + 1 ≤ b.block := fun c hc => by
            subst hc
            rcases hA4.same with h | h
            · simp only [Value.ownBlock] at h; exact nob _ (by cases oa <;> simp_all [Value.ownBlock])
            · simp [Value.ownBlock] at h; have := D3.lt; omega
          have hF4 : ∀ c ∈ F4, w.heap.size + 2 ≤ c ∧ c ≠ w1.heap.size ∧ c ≠ w1.heap.size + 1 := fun c hc => by
            have hs3 := D3.lt
            have hsw := r1.lt
            rcases hA4.mem _ hc with h | h | h
            · exact hF2 _ h
            · have h1 := hFs _ h; have h2 : w.heap.size + 2 ≤ c := (by simpa using hFo c (hFr c (hFx c h))); exact ⟨h2, by omega, by omega⟩
            · simp at h; exact ⟨by omega, by omega, by omega⟩
          have hB5 : Below w1.heap.size w1 (w4.setCell ⟨w1.heap.size + 1, 1, none⟩ (.slice oa2 (ys.length + 1) oc2)) :=
            Below.setCell ((belowDrewN (tr DB hA (Nat.le_refl _)) 1).trans (hA4.keep1.below (by simp; omega) (fun b hb => by have := nob b hb; omega))) (by simp) _
          have hd4 := hA4.hd
          clear hA4 D1 D2 D3 D4
          go_wp2_with fail
          exact ⟨⟨k + 1, by omega, by go_num, oa2, oc2, F4, by rw [hqf.out, List.length_append]; exact P1, hd4, hoa2, hF4, L1, L2, by rw [hqf.out, List.length_append]; exact L3, hB5⟩, by simp [intOf]; omega⟩
      · have hqf := Lib.hid (filter_take_no (q := fun x : Entry => !decide (x.untl ≤ e.clock + 1)) hlt (by simp; omega))
        generalize hys : ((e.entries.take k).filter fun x => !decide (x.untl ≤ e.clock + 1)) = ys at *
        have hys := Lib.hid hys
        go_wp2_with fail
        go_quiet (fail)
        go_wp2_with fail
        refine ⟨⟨k + 1, by omega, by go_num, oa, oc, F2, ?_, hd2, hoa, hF2, hr1, hr2, ?_, belowDrewN hB2 _⟩, by simp [intOf]; omega⟩
        · rw [hqf.out]; exact Lib.hid (hO.out.frame fun _ _ => rfl)
        · rw [hqf.out]; exact hr3
    · have hk : k = e.entries.length := by omega
      subst hk
      simp only [List.take_length] at hO hr3 c2
      obtain ⟨F3, hF3, hs3⟩ := hO.out.read
      have hB3 := tr hB hB2 (Nat.le_refl _)
      go_wp2_with fail
      refine bodyPost_ret (v := .agg #[.int .i64 (e.clock + 1), .slice oa (e.entries.filter fun x => !decide (x.untl ≤ e.clock + 1)).length oc]) ?_ rfl ?_
      · simp [results, Try.results76, go_sem, c4, c2, f4]
      · refine ⟨_, F3, rfl, ⟨_, rfl, _, rfl, ?_⟩, fun b hb => by have := (hF2 b (hF3 b hb)).1; omega, ?_⟩
        · refine hs3.frame fun b hb => ?_
          have h2 := (hF2 b (hF3 b hb)).1
          rw [Below.heap_setCell _ _ _ _ (by simp; omega), Below.heap_setCell _ _ _ _ (by simp; omega)]
        · repeat refine Below.setCell ?_ (by simp <;> omega) _
          exact hB3
end Go.Proofs.Ytgogcgkocjpgoaa
/- Walks: TickElement, the program's and the reference's. -/
namespace Go.Proofs.Ytgogcgkocjpgoaa
open Go.RowKit
theorem rising_len {lo hi : Int} {zs : List Int} (h : rising lo hi zs = true) : (zs.length : Int) ≤ hi - lo + 1 ∨ zs = [] := by
  by_cases h0 : zs = []
  · exact .inr h0
  · left
    have key : ∀ i (hi' : i < zs.length), lo + i ≤ zs[i] ∧ zs[i] ≤ hi := by
      intro i
      induction i with
      | zero =>
        intro hi'
        have := allUpTo_get h 0 hi'
        rw [risAt_zero hi'] at this
        simp [btw] at this
        simpa using this
      | succ i ih =>
        intro hi'
        have := allUpTo_get h (i + 1) hi'
        rw [risAt_succ hi'] at this
        have := ih (by omega)
        simp [btw] at *
        omega
    have hp := List.length_pos_iff.2 h0
    have := key (zs.length - 1) (by omega)
    omega
theorem good_room {e : Element} (h : goodElement e = true) : isClk e.clock = true ∧ e.entries.length ≤ 5 ∧ ∀ x ∈ e.entries, x.faces.length ≤ 7 := by
  unfold goodElement at h
  simp only [Bool.and_eq_true, decide_eq_true_eq] at h
  refine ⟨h.1.1, h.1.2, fun x hx => ?_⟩
  obtain ⟨i, hi, rfl⟩ := List.getElem_of_mem hx
  have := allUpTo_get h.2 i hi
  rw [entAt_of hi] at this
  simp [okEntry] at this
  rcases rising_len this.1.2.2.1 with h | h
  · omega
  · rw [h]; simp
end Go.Proofs.Ytgogcgkocjpgoaa
/- Elements: what requests and repairs bring; plain laws. -/
namespace Go.Proofs.Ytgogcgkocjpgoaa
open Go.RowKit
/-- the place of a number in a rising list -/
def placeI (l : List Int) (n : Int) : Nat := (l.takeWhile fun x => decide (x < n)).length
/-- a number put to its place, once -/
def putI (l : List Int) (n : Int) : List Int := if l[placeI l n]? = some n then l else l.take (placeI l n) ++ n :: l.drop (placeI l n)
/-- where the entry for a serial stands -/
def atE (e : Element) (n : Int) : Nat := e.entries.findIdx fun x => x.number == n
def reqE (e : Element) (n f : Int) : Element := match e.entries[atE e n]? with
  | some x => ⟨e.clock, e.entries.set (atE e n) ⟨x.number, putI x.faces f, x.untl⟩⟩
  | none => if e.entries.length < 5 then ⟨e.clock, e.entries ++ [⟨n, [f], e.clock + 6⟩]⟩ else e
def fwdE (e : Element) (n : Int) : Bool := !e.entries.any fun x => x.number == n
def repE (e : Element) (n : Int) : Element := match e.entries[atE e n]? with
  | some _ => ⟨e.clock, e.entries.take (atE e n) ++ e.entries.drop (atE e n + 1)⟩
  | none => e
def facE (e : Element) (n : Int) (below : List Int) : List Int := match e.entries[atE e n]? with
  | some x => x.faces.filter fun f => decide (f ∈ below)
  | none => if e.entries.length = 5 then below else []
def okTakeRequest (e : Element) (n f : Int) : Bool := goodElement e && isSer n && isFac f
def resTakeRequest (e : Element) (n f : Int) : Element × Bool × Bool := if okTakeRequest e n f then (reqE e n f, fwdE e n, true) else (⟨0, []⟩, false, false)
def okTakeRepair (e : Element) (n : Int) (below : List Int) : Bool := goodElement e && isSer n && rising 1 7 below
def resTakeRepair (e : Element) (n : Int) (below : List Int) : Element × List Int × Bool := if okTakeRepair e n below then (repE e n, facE e n below, true) else (⟨0, []⟩, [], false)
theorem resTakeRequest_no {e : Element} {n f : Int} (h : okTakeRequest e n f = false) : resTakeRequest e n f = (⟨0, []⟩, false, false) := by unfold resTakeRequest; rw [h]; rfl
theorem resTakeRequest_yes {e : Element} {n f : Int} (h : okTakeRequest e n f = true) : resTakeRequest e n f = (reqE e n f, fwdE e n, true) := by unfold resTakeRequest; rw [h]; rfl
theorem resTakeRepair_no {e : Element} {n : Int} {l : List Int} (h : okTakeRepair e n l = false) : resTakeRepair e n l = (⟨0, []⟩, [], false) := by unfold resTakeRepair; rw [h]; rfl
theorem resTakeRepair_yes {e : Element} {n : Int} {l : List Int} (h : okTakeRepair e n l = true) : resTakeRepair e n l = (repE e n, facE e n l, true) := by unfold resTakeRepair; rw [h]; rfl
/-- there is an entry, or there is none -/
theorem findE_or (e : Element) (n : Int) : (∃ (h : atE e n < e.entries.length), fidx (fun x => x.number == n) e.entries = (atE e n : Nat) ∧ e.entries[atE e n].number = n ∧ fwdE e n = false) ∨ (fidx (fun x => x.number == n) e.entries = -1 ∧ e.entries[atE e n]? = none ∧ fwdE e n = true ∧ ∀ x ∈ e.entries, x.number ≠ n) := by
  cases h : e.entries.any fun x => x.number == n
  · right
    have h' := List.any_eq_false.1 h
    refine ⟨by unfold fidx; rw [h]; rfl, ?_, by simp [fwdE, h], fun x hx => by have := h' x hx; simpa using this⟩
    have : atE e n = e.entries.length := List.findIdx_eq_length.2 (fun x hx => by have := h' x hx; simpa using this)
    rw [this]; simp
  · left
    have h2 : atE e n < e.entries.length := by
      obtain ⟨x, hx, hp⟩ := List.any_eq_true.1 h
      exact List.findIdx_lt_length_of_exists ⟨x, hx, hp⟩
    refine ⟨h2, by unfold fidx; rw [h]; rfl, ?_, by simp [fwdE, h]⟩
    have : (e.entries[atE e n].number == n) = true := List.findIdx_getElem (p := fun x : Entry => x.number == n) (xs := e.entries) (w := h2)
    simpa using this
theorem rising_pw {lo hi : Int} {zs : List Int} (h : rising lo hi zs = true) : zs.Pairwise (· < ·) ∧ ∀ z ∈ zs, lo ≤ z ∧ z ≤ hi := by
  have hb : ∀ i (hi' : i < zs.length), lo ≤ zs[i] ∧ zs[i] ≤ hi := fun i hi' => by
    have := allUpTo_get h i hi'
    unfold risAt btw at this
    simp only [Bool.and_eq_true, decide_eq_true_eq] at this
    rw [List.getD_eq_getElem?_getD, List.getElem?_eq_getElem hi'] at this
    simpa using this.1
  refine ⟨?_, fun z hz => by obtain ⟨i, hi', rfl⟩ := List.getElem_of_mem hz; exact hb i hi'⟩
  have step : ∀ i (hi : i + 1 < zs.length), zs[i] < zs[i + 1] := fun i hi' => by
    have := allUpTo_get h (i + 1) hi'
    rw [risAt_succ hi'] at this
    simp only [Bool.and_eq_true, decide_eq_true_eq] at this
    exact this.2
  refine List.pairwise_iff_getElem.2 fun i j hi' hj hij => ?_
  obtain ⟨d, rfl⟩ : ∃ d, j = i + 1 + d := ⟨j - i - 1, by omega⟩
  clear hij
  induction d with
  | zero => exact step i hj
  | succ d ih => exact Int.lt_trans (ih (by omega)) (step (i + 1 + d) hj)
theorem pw_rising {lo hi : Int} {zs : List Int} (h1 : zs.Pairwise (· < ·)) (h2 : ∀ z ∈ zs, lo ≤ z ∧ z ≤ hi) : rising lo hi zs = true := by
  unfold rising
  refine allUpTo_yes fun i hi' => ?_
  have hb := h2 zs[i] (List.getElem_mem hi')
  cases i with
  | zero => rw [risAt_zero hi']; simp [btw, hb]
  | succ i =>
    rw [risAt_succ hi']
    have := List.pairwise_iff_getElem.1 h1 i (i + 1) (by omega) hi' (by omega)
    simp [btw, hb, this]
/-- rising lists with the same numbers are one -/
theorem pw_ext : ∀ {a b : List Int}, a.Pairwise (· < ·) → b.Pairwise (· < ·) → (∀ x, x ∈ a ↔ x ∈ b) → a = b
  | [], [], _, _, _ => rfl
  | [], y :: b, _, _, h => absurd ((h y).2 (by simp)) (by simp)
  | x :: a, [], _, _, h => absurd ((h x).1 (by simp)) (by simp)
  | x :: a, y :: b, h1, h2, h => by
    have a1 := List.pairwise_cons.1 h1
    have b1 := List.pairwise_cons.1 h2
    have e : x = y := by
      rcases List.mem_cons.1 ((h x).1 (by simp)) with e | m
      · exact e
      · rcases List.mem_cons.1 ((h y).2 (by simp)) with e | m2
        · exact e.symm
        · have := b1.1 x m; have := a1.1 y m2; omega
    subst e
    congr 1
    refine pw_ext a1.2 b1.2 fun z => ⟨fun hz => ?_, fun hz => ?_⟩
    · rcases List.mem_cons.1 ((h z).1 (by simp [hz])) with e | m
      · have := a1.1 z hz; omega
      · exact m
    · rcases List.mem_cons.1 ((h z).2 (by simp [hz])) with e | m
      · have := b1.1 z hz; omega
      · exact m
theorem filter_swap {a b : List Int} (h1 : a.Pairwise (· < ·)) (h2 : b.Pairwise (· < ·)) : (a.filter fun f => decide (f ∈ b)) = b.filter fun f => decide (f ∈ a) :=
  pw_ext (h1.filter _) (h2.filter _) fun x => by simp [and_comm]
end Go.Proofs.Ytgogcgkocjpgoaa
/- Elements: finding, lists of numbers. -/
namespace Go.Proofs.Ytgogcgkocjpgoaa
open Go.RowKit
theorem find1_f (x : Entry) (gb : Nat) (n : Int) (u : Value) (G : List Nat) : Fn Try.prog 82 [u, ptr gb 0 0] [.isv EEntry u x G, .cel gb 0 [.int .i64 n]] [] (fun (_ : Unit) => True) (fun _ => .bool (x.number == n)) (fun _ => []) := by
  refine enter Try.func82 rfl Try.ntmps82 fun w0 => ?_
  refine openEntry ?_
  rintro a1 c1 F1 rfl l1
  refine go ?_; intros
  refine ret () trivial ?_
  rfl
theorem Efind_f (e : Element) (n : Int) (v : Value) (F : List Nat) : Fn Try.prog 54 [v, .int .i64 n] [.isv EElement v e F] [] (fun (_ : Unit) => True) (fun _ => .int .i64 (fidx (fun x => x.number == n) e.entries)) (fun _ => []) := by
  refine enter Try.func54 rfl Try.ntmps54 fun w0 => ?_
  refine openElement ?_
  rintro a1 c1 F1 rfl l1
  refine go ?_; intros
  rename_i gb
  refine cb (fun w st => IndexFunc_Entry _ (body_of (by kernel_rfl)) #[ptr gb 0 0] _ e.entries _ (fun x => x.number == n) w (st.get (p := .sl EEntry (.slice a1 e.entries.length c1) e.entries F1) (by simp)).2 (fun k hk wr u G hB hu => (find1_f e.entries[k] gb n u G).val wr (hol2 hu ⟨by simp, row_range ((st.below hB).get (p := .row gb 3 0 [] [.int .i64 n] []) (by simp))⟩))) ?_
  refine go ?_; intros
  refine ret () trivial rfl
theorem l14Find_f (e : Element) (n : Int) (v : Value) (F : List Nat) : Fn Try.prog 57 [v, .int .i64 n] [.isv EElement v e F] [] (fun (_ : Unit) => True) (fun _ => .int .i64 (fidx (fun x => x.number == n) e.entries)) (fun _ => []) := by
  refine enter Try.func57 rfl Try.ntmps57 fun w0 => ?_
  refine openElement ?_
  rintro a1 c1 F1 rfl l1
  unfold maxLen at l1
  refine go ?_; intros
  refine c_loopR [1, 2, 4] (fun k : Nat => [(5, .int .i64 (k : Nat))]) (fun k => k ≤ e.entries.length ∧ ∀ j (_ : j < k) (hj : j < e.entries.length), (e.entries[j].number == n) = false) (fun k => e.entries.length - k) 0 ⟨Nat.zero_le _, fun j h => by omega⟩ fun k hk => ?_
  obtain ⟨hk1, hk2⟩ := hk
  refine go ?_; intros
  refine c_if rfl (fun h1 => ?_) (fun h1 => ?_)
  · have hh : k < e.entries.length := by omega
    refine go ?_; intros
    refine atEntry (xs := e.entries) k ?_
    rintro hi b o a3 c3 F3 e1 l3
    rw [e1]
    refine go ?_; intros
    refine c_if rfl (fun h2 => ?_) (fun h2 => ?_)
    · refine go ?_; intros
      refine ret () trivial ?_
      rw [fidx_hit hh hk2 (by simpa using h2)]; rfl
    · refine go ?_; intros
      refine n_lp (k + 1) ⟨hh, fun j hj hl => ?_⟩ (by omega)
      rcases Nat.lt_or_eq_of_le (Nat.lt_succ_iff.1 hj) with h | rfl
      · exact hk2 j h hl
      · simpa using h2
  · obtain rfl : k = e.entries.length := by omega
    refine go ?_; intros
    refine ret () trivial ?_
    rw [fidx_none (fun j hj => hk2 j hj hj)]; rfl
theorem l1Has_f (l : List Int) (n : Int) (a : Option Addr) (c : Nat) (F : List Nat) : Fn Try.prog 64 [.slice a l.length c, .int .i64 n] [.sl EInt (.slice a l.length c) l F] [] (fun (_ : Unit) => True) (fun _ => .bool (decide (n ∈ l))) (fun _ => []) := by
  refine enter Try.func64 rfl Try.ntmps64 fun w0 => ?_
  refine t_sl (xs := l) ?_
  rintro _ _ _ l2 l3
  refine go ?_; intros
  refine c_loopR [0, 1, 4] (fun k : Nat => [(5, .int .i64 (k : Nat))]) (fun k => k ≤ l.length ∧ n ∉ l.take k) (fun k => l.length - k) 0 ⟨Nat.zero_le _, by simp⟩ fun k hk => ?_
  obtain ⟨hk1, hk2⟩ := hk
  refine go ?_; intros
  refine c_if rfl (fun h1 => ?_) (fun h1 => ?_)
  · have hh : k < l.length := by omega
    refine go ?_; intros
    refine at_int (xs := l) k ?_
    rintro hi b o e1
    rw [e1]
    refine go ?_; intros
    refine c_if rfl (fun h2 => ?_) (fun h2 => ?_)
    · refine go ?_; intros
      refine ret () trivial ?_
      rw [decide_eq_true (h2 ▸ List.getElem_mem hh : n ∈ l)]; rfl
    · refine go ?_; intros
      refine n_lp (k + 1) ⟨hh, fun hm => ?_⟩ (by omega)
      rw [List.take_add_one, List.getElem?_eq_getElem hh] at hm
      rcases List.mem_append.1 hm with h | h
      · exact hk2 h
      · simp at h; exact h2 h.symm
  · obtain rfl : k = l.length := by omega
    rw [List.take_length] at hk2
    refine go ?_; intros
    refine ret () trivial ?_
    rw [decide_eq_false hk2]; rfl
end Go.Proofs.Ytgogcgkocjpgoaa
/- The first elements that satisfy a test: how many; plain. -/
namespace Go.Proofs.Ytgogcgkocjpgoaa
theorem tw_len {α : Type} {p : α → Bool} : ∀ {xs : List α} {k : Nat}, k ≤ xs.length → (∀ j (_ : j < k) (h : j < xs.length), p xs[j] = true) → (∀ h : k < xs.length, p xs[k] = false) → (xs.takeWhile p).length = k
  | [], k, hk, _, _ => by simp at hk; simp [hk]
  | x :: r, 0, _, _, h2 => by have := h2 (by simp); simp at this; simp [this]
  | x :: r, k + 1, hk, h1, h2 => by
    have hx : p x = true := h1 0 (by omega) (by simp)
    rw [List.takeWhile_cons_of_pos hx, List.length_cons, tw_len (xs := r) (k := k) (by simpa using hk) (fun j hj h => by have := h1 (j + 1) (by omega) (by simpa using h); simpa using this) (fun h => by have := h2 (by simpa using h); simpa using this)]
theorem tw_spec {α : Type} {p : α → Bool} : ∀ {xs : List α}, (xs.takeWhile p).length ≤ xs.length ∧ (∀ j (_ : j < (xs.takeWhile p).length) (h : j < xs.length), p xs[j] = true) ∧ ∀ h : (xs.takeWhile p).length < xs.length, p xs[(xs.takeWhile p).length] = false
  | [] => by simp
  | x :: r => by
    cases hx : p x
    · rw [List.takeWhile_cons_of_neg (by simp [hx])]; simp [hx]
    · rw [List.takeWhile_cons_of_pos hx]
      obtain ⟨h1, h2, h3⟩ := tw_spec (p := p) (xs := r)
      refine ⟨by simpa using h1, fun j hj h => ?_, fun h => ?_⟩
      · cases j with
        | zero => simpa using hx
        | succ j => simpa using h2 j (by simpa using hj) (by simpa using h)
      · simpa using h3 (by simpa using h)
end Go.Proofs.Ytgogcgkocjpgoaa
/- Lists of numbers: searching, inserting, what is there. -/
namespace Go.Proofs.Ytgogcgkocjpgoaa
open Go.RowKit
theorem cNaN_f (n : Int) : Fn Try.prog 90 [.int .i64 n] [] [] (fun (_ : Unit) => True) (fun _ => .bool false) (fun _ => []) := by
  refine enter Try.func90 rfl Try.ntmps90 fun w0 => ?_
  refine go ?_; intros
  refine ret () trivial ?_
  simp [tup]
theorem sNaN_f (n : Int) : Fn Try.prog 87 [.int .i64 n] [] [] (fun (_ : Unit) => True) (fun _ => .bool false) (fun _ => []) := by
  refine enter Try.func87 rfl Try.ntmps87 fun w0 => ?_
  refine go ?_; intros
  refine ret () trivial ?_
  simp [tup]

theorem cLess_f (a b : Int) : Fn Try.prog 86 [.int .i64 a, .int .i64 b] [] [] (fun (_ : Unit) => True) (fun _ => .bool (decide (a < b))) (fun _ => []) := by
  refine enter Try.func86 rfl Try.ntmps86 fun w0 => ?_
  refine go ?_; intros
  refine cf (cNaN_f a) fun _ _ => ?_
  refine t_app ?_
  refine go ?_; intros
  refine ret () trivial rfl
def atPl (l : List Int) (n : Int) : Bool := decide (l[placeI l n]? = some n)
theorem placeI_eq {l : List Int} {n : Int} {k : Nat} (h1 : k ≤ l.length) (h2 : ∀ j (_ : j < k) (h : j < l.length), l[j] < n) (h3 : ∀ h : k < l.length, ¬ l[k] < n) : placeI l n = k := tw_len h1 (fun j hj h => by simpa using h2 j hj h) (fun h => by simpa using h3 h)
set_option maxRecDepth 100000 in
theorem bsInt_f (xs : List Int) (n : Int) (a : Option Addr) (c : Nat) (F : List Nat) (hs : xs.Pairwise (· < ·)) (hl : xs.length ≤ 1000000) : Fn Try.prog 73 [.slice a xs.length c, .int .i64 n] [.sl EInt (.slice a xs.length c) xs F] [] (fun (_ : Unit) => True) (fun _ => .tuple #[.int .i64 (placeI xs n : Nat), .bool (atPl xs n)]) (fun _ => []) := by
  have hm := List.pairwise_iff_getElem.1 hs
  refine enter Try.func73 rfl Try.ntmps73 fun w0 => ?_
  refine go ?_; intros
  refine c_loopR [0, 1, 4, 5, 6] (fun s : Nat × Nat => [(7, .int .i64 (s.1 : Nat)), (8, .int .i64 (s.2 : Nat))]) (fun s => s.1 ≤ s.2 ∧ s.2 ≤ xs.length ∧ (∀ j (_ : j < s.1) (h : j < xs.length), xs[j] < n) ∧ (∀ j (_ : s.2 ≤ j) (h : j < xs.length), ¬ xs[j] < n)) (fun s => s.2 - s.1) (0, xs.length) ⟨Nat.zero_le _, Nat.le_refl _, fun j h => by omega, fun j h1 h2 => by omega⟩ fun s hs => ?_
  obtain ⟨i, j⟩ := s
  obtain ⟨h1, h2, h3, h4⟩ := hs
  dsimp only at h1 h2 h3 h4 ⊢
  refine go ?_; intros
  refine c_if rfl (fun h5 => ?_) (fun h5 => ?_)
  · have hh : (i + j) / 2 < xs.length := by omega
    have e2 : ((i : Int) + (j : Int)) / 2 = (((i + j) / 2 : Nat) : Int) := by omega
    refine go ?_; intros
    apply wO; apply oc; rfl; exact yd_cvu rfl (by omega) (by omega)
    refine go ?_; intros
    apply wO; apply oc; rfl; exact yd_shr1 rfl
    rw [e2]
    apply wO; apply oc; rfl; exact yd_cv rfl (by omega) (by omega)
    generalize hq : (i + j) / 2 = q at hh
    refine go ?_; intros
    refine at_int (xs := xs) q ?_
    rintro hi b o e
    rw [e]
    refine go ?_; intros
    refine cf (cLess_f _ _) fun _ _ => ?_
    refine t_app ?_
    refine go ?_; intros
    refine c_if rfl (fun h6 => ?_) (fun h6 => ?_)
    · refine go ?_; intros
      refine t_drop ?_
      refine n_lp (hH := hsub_refl _) (q + 1, j) ⟨by show q + 1 ≤ j; omega, h2, fun k hk h => ?_, h4⟩ (by show j - (q + 1) < j - i; omega)
      rcases Nat.lt_or_eq_of_le (Nat.lt_succ_iff.1 (show k < q + 1 from hk)) with hk | rfl
      · have := hm k q h hh hk; omega
      · exact h6
    · refine go ?_; intros
      refine t_drop ?_
      refine n_lp (hH := hsub_refl _) (i, q) ⟨by show i ≤ q; omega, by show q ≤ xs.length; omega, h3, fun k hk h hn => h6 ?_⟩ (by show q - i < j - i; omega)
      rcases Nat.lt_or_eq_of_le (show q ≤ k from hk) with hk | rfl
      · have := hm q k hh h hk; omega
      · exact hn
  · have hij : i = j := by omega
    subst hij
    have hk : placeI xs n = i := placeI_eq h2 h3 (fun h => h4 i (Nat.le_refl _) h)
    unfold atPl
    rw [hk]
    refine go ?_; intros
    refine wg_if rfl rfl (fun h6 => ?_) (fun h6 => ?_)
    · have hh : i < xs.length := by omega
      rw [List.getElem?_eq_getElem hh]
      refine go ?_; intros
      refine at_int (xs := xs) i ?_
      rintro hi b o e
      rw [e]
      refine go ?_; intros
      refine wg_if rfl rfl (fun h7 => ?_) (fun h7 => ?_)
      · refine go ?_; intros
        refine ret () trivial ?_
        rw [decide_eq_true (by simpa using h7)]; rfl
      · refine go ?_; intros
        refine cf (sNaN_f _) fun _ _ => ?_
        refine t_app ?_
        refine go ?_; intros
        refine ret () trivial ?_
        rw [decide_eq_false (by simpa using h7)]; rfl
    · refine go ?_; intros
      refine ret () trivial ?_
      rw [List.getElem?_eq_none (by omega)]; rfl
theorem idxI_f (xs : List Int) (n : Int) (a : Option Addr) (c : Nat) (F : List Nat) : Fn Try.prog 85 [.slice a xs.length c, .int .i64 n] [.sl EInt (.slice a xs.length c) xs F] [] (fun (_ : Unit) => True) (fun _ => .int .i64 (fidx (fun x => x == n) xs)) (fun _ => []) := by
  refine enter Try.func85 rfl Try.ntmps85 fun w0 => ?_
  refine t_sl (xs := xs) ?_
  rintro _ _ - l2 l3
  refine go ?_; intros
  refine c_loopR [0, 1, 4, 7] (fun k : Nat => [(8, .int .i64 (k : Nat))]) (fun k => k ≤ xs.length ∧ ∀ j (_ : j < k) (hj : j < xs.length), (xs[j] == n) = false) (fun k => xs.length - k) 0 ⟨Nat.zero_le _, fun j h => by omega⟩ fun k hk => ?_
  obtain ⟨hk1, hk2⟩ := hk
  refine go ?_; intros
  refine c_if rfl (fun h1 => ?_) (fun h1 => ?_)
  · have hh : k < xs.length := by omega
    refine go ?_; intros
    refine at_int (xs := xs) k ?_
    rintro hi b o e1
    rw [e1]
    refine go ?_; intros
    refine c_if rfl (fun h2 => ?_) (fun h2 => ?_)
    · refine go ?_; intros
      refine ret () trivial ?_
      rw [fidx_hit hh hk2 (by simpa using h2.symm)]; rfl
    · refine go ?_; intros
      refine n_lp (k + 1) ⟨hh, fun j hj hl => ?_⟩ (by omega)
      rcases Nat.lt_or_eq_of_le (Nat.lt_succ_iff.1 hj) with h | rfl
      · exact hk2 j h hl
      · simpa using fun e => h2 e.symm
  · obtain rfl : k = xs.length := by omega
    refine go ?_; intros
    refine ret () trivial ?_
    rw [fidx_none (fun j hj => hk2 j hj hj)]; rfl
theorem any_mem (l : List Int) (n : Int) : (l.any fun x => x == n) = decide (n ∈ l) := by
  rw [Bool.eq_iff_iff, List.any_eq_true, decide_eq_true_eq]
  exact ⟨fun ⟨x, hx, h⟩ => by simp at h; exact h ▸ hx, fun h => ⟨n, h, by simp⟩⟩
theorem conI_f (xs : List Int) (n : Int) (a : Option Addr) (c : Nat) (F : List Nat) : Fn Try.prog 69 [.slice a xs.length c, .int .i64 n] [.sl EInt (.slice a xs.length c) xs F] [] (fun (_ : Unit) => True) (fun _ => .bool (decide (n ∈ xs))) (fun _ => []) := by
  refine enter Try.func69 rfl Try.ntmps69 fun w0 => ?_
  refine go ?_; intros
  refine cf (idxI_f xs n _ _ F) fun _ _ => ?_
  refine t_app ?_
  refine go ?_; intros
  refine ret () trivial ?_
  rw [fidx_any, any_mem]; rfl

theorem rep1_Int (y : Int) (w : World) : Flat EInt w [.int .i64 y] [y] [] := ⟨_, [], [], [], by simp, by simp, ⟨rfl, rfl⟩, rfl, rfl⟩
set_option maxRecDepth 100000 in
set_option maxHeartbeats 1000000 in
theorem InsInt_f (xs : List Int) (y : Int) (i : Nat) (a : Option Addr) (c vb : Nat) (F : List Nat) (hi : i ≤ xs.length) (hl : xs.length ≤ 1000000) :
    Fn Try.prog 74 [.slice a xs.length c, .int .i64 i, .slice (some ⟨vb, 0, none⟩) 1 1] [] [.ow EInt 3 (.slice a xs.length c) xs F, .row vb 3 0 [] [.int .i64 y] []] (fun (_ : Option Addr × Nat × List Nat) => True)
      (fun z => .slice z.1 (xs.take i ++ y :: xs.drop i).length z.2.1) (fun z => [.ow EInt 3 (.slice z.1 (xs.take i ++ y :: xs.drop i).length z.2.1) (xs.take i ++ y :: xs.drop i) z.2.2]) := by
  have hone : ∀ w' : World, ∀ cs : List Value, Flat EInt w' cs xs [] → ∀ u ∈ cs, u.oneCell' = true := fun w' cs h => h.one' one_EInt
  have hy := rep1_Int y
  have h1y : ∀ u ∈ ([.int .i64 y] : List Value), u.oneCell' = true := by intro u hu; simp at hu; rcases hu with rfl | rfl | rfl | rfl <;> rfl
  refine enter Try.func74 rfl Try.ntmps74 fun w0 => ?_
  refine t_cap (E := EInt) fun hc1 hc2 => ?_
  refine go ?_; intros
  apply wO
  refine o_slany rfl rfl rfl rfl hi (fun _ => ?_) hc1
  refine go ?_; intros
  refine c_if rfl (fun h1 => ?_) (fun h1 => ?_)
  · have hin : i = xs.length := by omega
    subst hin
    have e : xs.take xs.length ++ y :: xs.drop xs.length = xs ++ [y] := by simp
    refine go ?_; intros
    apply wO
    refine ap1 hy one_EInt fun a2 c2 F2 => ?_
    rw [e]
    refine go ?_; intros
    refine ret (a2, c2, F2) trivial rfl
  · have hlt : i < xs.length := by omega
    refine t_rowof (xs := xs) scal_EInt (by rintro rfl; simp at hlt) ?_
    rintro g cs rest rfl - - - hcl hcr hfl
    rw [show EInt.sz = 1 from rfl] at hcl hcr
    have h1c := hone w0 cs (hfl w0)
    obtain ⟨A, B, hcs, hA, hB⟩ : ∃ A B, cs = A ++ B ∧ A = cs.take (i * 1) ∧ B = cs.drop (i * 1) := ⟨_, _, (List.take_append_drop _ _).symm, rfl, rfl⟩
    have hAl : A.length = i * 1 := by rw [hA, List.length_take]; omega
    have hBl : B.length = (xs.length - i) * 1 := by rw [hB, List.length_drop]; omega
    have hins : ∀ w, Flat EInt w (A ++ [.int .i64 y] ++ B) (xs.take i ++ y :: xs.drop i) [] := fun w => by rw [hA, hB]; exact (hfl w).insL (hy w) i hi
    have h1A : ∀ u ∈ A, u.oneCell' = true := fun u hu => h1c u (by rw [hcs]; simp [hu])
    have h1B : ∀ u ∈ B, u.oneCell' = true := fun u hu => h1c u (by rw [hcs]; simp [hu])
    have hlen : (xs.take i ++ y :: xs.drop i).length = xs.length + 1 := by simp; omega
    clear hA hB hfl hone
    subst hcs
    have eA : A = ((A ++ B ++ rest).drop 0).take (i * 1) := by rw [List.drop_zero, List.append_assoc, List.take_left' hAl]
    have eB : B = ((A ++ B ++ rest).drop (0 + i * 1)).take ((xs.length - i) * 1) := by rw [Nat.zero_add, List.append_assoc, List.drop_left' hAl, List.take_left' hBl]
    rw [hlen]
    refine go ?_; intros
    apply wO; apply oc; rfl; exact yd_cap rfl
    refine go ?_; intros
    refine c_if rfl (fun h2 => ?_) (fun h2 => ?_)
    · refine go ?_; intros
      apply wO; apply oc; rfl; exact yd_slt (i := i) rfl rfl rfl (by omega) (by omega)
      refine go ?_; intros
      apply wO
      refine o_apgz (k := xs.length + 1 - i) (olds := A) rfl rfl rfl (by omega) (src_row (m := i * 1) (.head _) eA) (by omega) (by decide) (by omega) (by omega) (by omega) (by omega) fun g' cp' Z rest' h3 h4 h5 h6 => ?_
      rw [show i + (xs.length + 1 - i) = xs.length + 1 by omega] at h3 ⊢
      obtain ⟨Z1, Z2, rfl, hZ1, hZ2⟩ : ∃ Z1 Z2, Z = Z1 ++ Z2 ∧ Z1.length = 1 ∧ Z2.length = B.length := ⟨Z.take 1, Z.drop 1, (List.take_append_drop _ _).symm, by rw [List.length_take]; omega, by rw [List.length_drop]; omega⟩
      refine go ?_; intros
      apply wO; apply oc; rfl; exact yd_slv (i := i) rfl rfl rfl (by omega) (by omega) (by omega)
      refine go ?_; intros
      apply wO
      refine o_cpy (cs := [.int .i64 y]) (L' := A ++ [.int .i64 y] ++ (Z2 ++ rest')) rfl rfl rfl (src_row (L := [.int .i64 y]) (o := 0) (m := 1) (by exact memE) rfl) .here (cpyM (M := Z1) (by simp [List.append_assoc]) (by omega) (by simpa using hZ1)) (by show 1 = min 1 (xs.length + 1 - i) * 1; omega) (by simp only [List.length_append, List.length_cons, List.length_nil]; omega) h1y ?_
      refine go ?_; intros
      refine d_start [] [] ?_
      refine dt 0 ?_
      refine dt 1 ?_
      refine dt 2 ?_
      refine dt 3 ?_
      refine dt 4 ?_ (hy := yd_slv (i := i + 1) rfl rfl (by omega) (by omega) (by omega) (by omega))
      refine dt 5 ?_
      refine dt 6 ?_
      refine dt 7 ?_ (hy := yd_slv (i := i) rfl rfl (by omega) (by omega) (by omega) (by omega))
      refine dO 8 (by kernel_rfl) (by rw [List.getElem?_toArray]; rfl) ?_
      refine o_cpy (cs := B) (L' := A ++ [.int .i64 y] ++ B ++ rest') rfl rfl rfl (src_row (by exact memE) eB) .here (cpyM (P := A ++ [.int .i64 y]) (M := Z2) (by simp [List.append_assoc]) (by simp only [List.length_append, List.length_cons, List.length_nil]; omega) hZ2) (by rw [hBl]; congr 1; show _ = min (xs.length - i) (xs.length + 1 - (i + 1)); omega) (by simp only [List.length_append, List.length_cons, List.length_nil]; omega) h1B ?_
      refine dk ?_
      refine dd ?_
      refine t_owof (cs := A ++ [.int .i64 y] ++ B) (rest := rest') (xs := xs.take i ++ y :: xs.drop i) cp' rfl hins (by omega) h4 (by rw [show EInt.sz = 1 from rfl]; simp only [List.length_append, List.length_cons, List.length_nil] at h6 ⊢; omega) ?_
      rw [hlen]
      refine go ?_; intros
      refine ret (_, cp', [g']) trivial rfl
    · have hcx : xs.length + 1 ≤ c := by omega
      obtain ⟨X, Y, hXY, hX, hY⟩ := shiftL (B := B) (R := rest) 1 (by omega)
      refine go ?_; intros
      apply wO; apply oc; rfl; exact yd_slt (i := xs.length + 1) rfl rfl (by omega) (by omega) (by omega)
      refine go ?_; intros
      apply wO; apply oc; rfl; exact yd_slv (i := i + 1) rfl rfl (by omega) (by omega) (by omega) (by omega)
      refine goN ?_; intros
      apply wO
      refine o_ext rfl evsE (ovl (tS := 25) (tR := 4) (run_callFunc_extern Try.func88 (by kernel_rfl) (by kernel_rfl) (by kernel_rfl) (e := Extern.SlicesOverlaps.overlaps #[25, 25] #[4]) (by kernel_rfl)) (.there .here) (.head _) (by intro e; have := congrArg List.length e; simp only [List.length_append, List.length_nil] at this; omega)) ?_
      refine go ?_; intros
      refine d_start [] [] ?_
      refine dt 0 ?_
      refine dt 1 ?_
      refine dt 2 ?_
      refine dt 3 ?_
      refine dt 4 ?_ (hy := yd_slv (i := i + 1) rfl rfl (by omega) (by omega) (by omega) (by omega))
      refine dt 5 ?_
      refine dt 6 ?_
      refine dt 7 ?_ (hy := yd_slv (i := i) rfl rfl (by omega) (by omega) (by omega) (by omega))
      refine dO 8 (by kernel_rfl) (by rw [List.getElem?_toArray]; rfl) ?_
      refine o_cpy (cs := B) (L' := A ++ X ++ B ++ rest.drop 1) rfl rfl rfl (src_row (by exact memE) eB) .here (cpyM (P := A ++ X) (M := Y) (by rw [List.append_assoc A B rest, hXY]; simp [List.append_assoc]) (by simp only [List.length_append]; omega) hY) (by rw [hBl]; congr 1; show _ = min (xs.length + 1 - i) (xs.length + 1 - (i + 1)); omega) (by simp only [List.length_append]; omega) h1B ?_
      refine dk ?_
      refine dd ?_
      refine go ?_; intros
      apply wO; apply oc; rfl; exact yd_slv (i := i) rfl rfl rfl (by omega) (by omega) (by omega)
      refine go ?_; intros
      apply wO
      refine o_cpy (cs := [.int .i64 y]) (L' := A ++ [.int .i64 y] ++ (B ++ rest.drop 1)) rfl rfl rfl (src_row (L := [.int .i64 y]) (o := 0) (m := 1) (by exact memE) rfl) .here (cpyM (M := X) (by simp [List.append_assoc]) (by omega) (by simpa using hX)) (by show 1 = min 1 (xs.length + 1 - i) * 1; omega) (by simp only [List.length_append, List.length_cons, List.length_nil]; omega) h1y ?_
      refine go ?_; intros
      refine t_owof (L := A ++ [.int .i64 y] ++ (B ++ rest.drop 1)) (cs := A ++ [.int .i64 y] ++ B) (rest := rest.drop 1) (xs := xs.take i ++ y :: xs.drop i) c (by simp [List.append_assoc]) hins (by omega) (by omega) (by rw [show EInt.sz = 1 from rfl]; simp only [List.length_append, List.length_cons, List.length_nil, List.length_drop]; omega) ?_
      rw [hlen]
      refine ret (_, c, [g]) trivial rfl
end Go.Proofs.Ytgogcgkocjpgoaa
/- Elements: a number put to its place. -/
namespace Go.Proofs.Ytgogcgkocjpgoaa
open Go.RowKit
theorem rep_i (n : Int) (w : World) : Flat EInt w [.int .i64 n] [n] [] := ⟨_, [], [], [], by simp, by simp, ⟨rfl, rfl⟩, rfl, rfl⟩
theorem placeI_le (l : List Int) (n : Int) : placeI l n ≤ l.length := (tw_spec (p := fun x => decide (x < n)) (xs := l)).1
structure PutS where
  a : Option Addr
  c : Nat
  F : List Nat
set_option maxRecDepth 100000 in
theorem l1Put_f (l : List Int) (n : Int) (a : Option Addr) (c : Nat) (F : List Nat) (hl : l.length ≤ 1000000) : Fn Try.prog 72 [.slice a l.length c, .int .i64 n] [] [.ow EInt 3 (.slice a l.length c) l F] (fun (_ : PutS) => True) (fun s => .slice s.a (putI l n).length s.c) (fun s => [.ow EInt 3 (.slice s.a (putI l n).length s.c) (putI l n) s.F]) := by
  refine enter Try.func72 rfl Try.ntmps72 fun w0 => ?_
  refine go ?_; intros
  refine c_loopR [0, 1, 4] (fun k : Nat => [(5, .int .i64 (k : Nat))]) (fun k => k ≤ l.length ∧ ∀ j (_ : j < k) (hj : j < l.length), l[j] < n) (fun k => l.length - k) 0 ⟨Nat.zero_le _, fun j h => by omega⟩ fun k hk => ?_
  obtain ⟨hk1, hk2⟩ := hk
  refine go ?_; intros
  refine wg_if rfl rfl (fun h1 => ?_) (fun h1 => ?_)
  · have hh : k < l.length := by omega
    refine go ?_; intros
    refine focF (m := 1) scal_EInt k ?_ (by repeat (first | exact .here | apply Pick.there)) rfl hh
    rintro _ g A cs B rfl rfl hr hH
    obtain ⟨rfl, -⟩ := hr w0
    refine go ?_; intros
    refine unfF l[k] hH hr ?_
    rw [List.set_getElem_self]
    refine c_if rfl (fun h2 => ?_) (fun h2 => ?_)
    · refine go ?_; intros
      refine n_lp (k + 1) ⟨hh, fun j hj hl => ?_⟩ (by omega)
      rcases Nat.lt_or_eq_of_le (Nat.lt_succ_iff.1 hj) with h | rfl
      · exact hk2 j h hl
      · exact h2
    · have hp : placeI l n = k := placeI_eq hk1 hk2 (fun _ => h2)
      refine go ?_; intros
      refine wg_if rfl rfl (fun h4 => ?_) (fun h4 => absurd h1 h4)
      refine go ?_; intros
      refine focF (m := 1) scal_EInt k ?_ (by repeat (first | exact .here | apply Pick.there)) rfl hh
      rintro _ g A cs B e1 - hr hH
      cases e1
      obtain ⟨rfl, -⟩ := hr w0
      refine go ?_; intros
      refine unfF l[k] hH hr ?_
      rw [List.set_getElem_self]
      refine c_if rfl (fun h3 => ?_) (fun h3 => ?_)
      · have e : putI l n = l := by unfold putI; rw [hp, List.getElem?_eq_getElem hh, if_pos (by rw [h3])]
        rw [e]
        refine go ?_; intros
        refine ret ⟨_, _, _⟩ trivial rfl
      · have e : putI l n = l.take k ++ [n] ++ l.drop k := by unfold putI; rw [hp, List.getElem?_eq_getElem hh, if_neg (by simpa using h3)]; simp
        refine go ?_; intros
        refine t_read fun F5 => ?_
        refine t_stk k (by omega) fun F6 hc1 hc2 => ?_
        refine d_start [] [] ?_
        refine dt 1 ?_
        refine dt 2 ?_
        refine dt 3 ?_ (hy := yd_slt (i := k) rfl rfl rfl (by omega) (by omega))
        refine dt 5 ?_
        refine dt 8 ?_
        refine dt 9 ?_
        refine dsld 10 k fun a6 c6 F6 => ?_
        refine dO2 0 6 (by kernel_rfl) (by rw [List.getElem?_toArray]; rfl) (by rw [List.getElem?_toArray]; rfl) ?_ ?_
        · apply o_bs0; rfl; intro _
          refine t_emp EInt ?_
          refine dk ?_
          refine dO2 4 6 (by kernel_rfl) (by rw [List.getElem?_toArray]; rfl) (by rw [List.getElem?_toArray]; rfl) ?_ ?_
          · refine aps one_EInt scal_EInt (fun a2 c2 F2 => ?_) (hn := by rw [List.length_take]; omega) (h63 := by exact lenE) (hby := by exact lenE)
            refine dk ?_
            refine dO 6 (by kernel_rfl) (by rw [List.getElem?_toArray]; rfl) ?_
            apply o_bs; rfl; rfl; rfl; rfl; exact rptE; exact filE; intro _
            refine dk ?_
            refine dO 7 (by kernel_rfl) (by rw [List.getElem?_toArray]; rfl) ?_
            refine ap1 (rep_i n) one_EInt (fun a3 c3 F3 => ?_) (h63 := by exact lenE) (hby := by exact lenE)
            refine dk ?_
            refine dO 11 (by kernel_rfl) (by rw [List.getElem?_toArray]; rfl) ?_
            refine aps one_EInt scal_EInt (fun a4 c4 F4 => ?_) (h63 := by exact lenE) (hby := by exact lenE)
            refine dk ?_
            refine dt 12 ?_
            refine dd ?_
            rw [e]
            refine go ?_; intros
            refine ret ⟨_, _, _⟩ trivial rfl
          · apply o_bs; rfl; rfl; rfl; rfl; exact rptE; exact filE; intro _
            refine dk ?_
            refine dO 4 (by kernel_rfl) (by rw [List.getElem?_toArray]; rfl) ?_
            refine aps one_EInt scal_EInt (fun a2 c2 F2 => ?_) (hn := by rw [List.length_take]; omega) (h63 := by exact lenE) (hby := by exact lenE)
            refine dk ?_
            refine dO 7 (by kernel_rfl) (by rw [List.getElem?_toArray]; rfl) ?_
            refine ap1 (rep_i n) one_EInt (fun a3 c3 F3 => ?_) (h63 := by exact lenE) (hby := by exact lenE)
            refine dk ?_
            refine dO 11 (by kernel_rfl) (by rw [List.getElem?_toArray]; rfl) ?_
            refine aps one_EInt scal_EInt (fun a4 c4 F4 => ?_) (h63 := by exact lenE) (hby := by exact lenE)
            refine dk ?_
            refine dt 12 ?_
            refine dd ?_
            rw [e]
            refine go ?_; intros
            refine ret ⟨_, _, _⟩ trivial rfl
        · apply o_bs; rfl; rfl; rfl; rfl; exact rptE; exact filE; intro _
          refine dk ?_
          refine dO 0 (by kernel_rfl) (by rw [List.getElem?_toArray]; rfl) ?_
          apply o_bs0; rfl; intro _
          refine t_emp EInt ?_
          refine dk ?_
          refine dO 4 (by kernel_rfl) (by rw [List.getElem?_toArray]; rfl) ?_
          refine aps one_EInt scal_EInt (fun a2 c2 F2 => ?_) (hn := by rw [List.length_take]; omega) (h63 := by exact lenE) (hby := by exact lenE)
          refine dk ?_
          refine dO 7 (by kernel_rfl) (by rw [List.getElem?_toArray]; rfl) ?_
          refine ap1 (rep_i n) one_EInt (fun a3 c3 F3 => ?_) (h63 := by exact lenE) (hby := by exact lenE)
          refine dk ?_
          refine dO 11 (by kernel_rfl) (by rw [List.getElem?_toArray]; rfl) ?_
          refine aps one_EInt scal_EInt (fun a4 c4 F4 => ?_) (h63 := by exact lenE) (hby := by exact lenE)
          refine dk ?_
          refine dt 12 ?_
          refine dd ?_
          rw [e]
          refine go ?_; intros
          refine ret ⟨_, _, _⟩ trivial rfl
  · have hp : placeI l n = k := placeI_eq hk1 hk2 (fun h => by omega)
    have e : putI l n = l.take k ++ [n] ++ l.drop k := by unfold putI; rw [hp, List.getElem?_eq_none (by omega)]; simp
    refine go ?_; intros
    refine wg_if rfl rfl (fun h4 => absurd h4 h1) (fun h4 => ?_)
    refine go ?_; intros
    refine t_read fun F5 => ?_
    refine t_stk k (by omega) fun F6 hc1 hc2 => ?_
    refine d_start [] [] ?_
    refine dt 1 ?_
    refine dt 2 ?_
    refine dt 3 ?_ (hy := yd_slt (i := k) rfl rfl rfl (by omega) (by omega))
    refine dt 5 ?_
    refine dt 8 ?_
    refine dt 9 ?_
    refine dsld 10 k fun a6 c6 F6 => ?_
    refine dO2 0 6 (by kernel_rfl) (by rw [List.getElem?_toArray]; rfl) (by rw [List.getElem?_toArray]; rfl) ?_ ?_
    · apply o_bs0; rfl; intro _
      refine t_emp EInt ?_
      refine dk ?_
      refine dO2 4 6 (by kernel_rfl) (by rw [List.getElem?_toArray]; rfl) (by rw [List.getElem?_toArray]; rfl) ?_ ?_
      · refine aps one_EInt scal_EInt (fun a2 c2 F2 => ?_) (hn := by rw [List.length_take]; omega) (h63 := by exact lenE) (hby := by exact lenE)
        refine dk ?_
        refine dO 6 (by kernel_rfl) (by rw [List.getElem?_toArray]; rfl) ?_
        apply o_bs; rfl; rfl; rfl; rfl; exact rptE; exact filE; intro _
        refine dk ?_
        refine dO 7 (by kernel_rfl) (by rw [List.getElem?_toArray]; rfl) ?_
        refine ap1 (rep_i n) one_EInt (fun a3 c3 F3 => ?_) (h63 := by exact lenE) (hby := by exact lenE)
        refine dk ?_
        refine dO 11 (by kernel_rfl) (by rw [List.getElem?_toArray]; rfl) ?_
        refine aps one_EInt scal_EInt (fun a4 c4 F4 => ?_) (h63 := by exact lenE) (hby := by exact lenE)
        refine dk ?_
        refine dt 12 ?_
        refine dd ?_
        rw [e]
        refine go ?_; intros
        refine ret ⟨_, _, _⟩ trivial rfl
      · apply o_bs; rfl; rfl; rfl; rfl; exact rptE; exact filE; intro _
        refine dk ?_
        refine dO 4 (by kernel_rfl) (by rw [List.getElem?_toArray]; rfl) ?_
        refine aps one_EInt scal_EInt (fun a2 c2 F2 => ?_) (hn := by rw [List.length_take]; omega) (h63 := by exact lenE) (hby := by exact lenE)
        refine dk ?_
        refine dO 7 (by kernel_rfl) (by rw [List.getElem?_toArray]; rfl) ?_
        refine ap1 (rep_i n) one_EInt (fun a3 c3 F3 => ?_) (h63 := by exact lenE) (hby := by exact lenE)
        refine dk ?_
        refine dO 11 (by kernel_rfl) (by rw [List.getElem?_toArray]; rfl) ?_
        refine aps one_EInt scal_EInt (fun a4 c4 F4 => ?_) (h63 := by exact lenE) (hby := by exact lenE)
        refine dk ?_
        refine dt 12 ?_
        refine dd ?_
        rw [e]
        refine go ?_; intros
        refine ret ⟨_, _, _⟩ trivial rfl
    · apply o_bs; rfl; rfl; rfl; rfl; exact rptE; exact filE; intro _
      refine dk ?_
      refine dO 0 (by kernel_rfl) (by rw [List.getElem?_toArray]; rfl) ?_
      apply o_bs0; rfl; intro _
      refine t_emp EInt ?_
      refine dk ?_
      refine dO 4 (by kernel_rfl) (by rw [List.getElem?_toArray]; rfl) ?_
      refine aps one_EInt scal_EInt (fun a2 c2 F2 => ?_) (hn := by rw [List.length_take]; omega) (h63 := by exact lenE) (hby := by exact lenE)
      refine dk ?_
      refine dO 7 (by kernel_rfl) (by rw [List.getElem?_toArray]; rfl) ?_
      refine ap1 (rep_i n) one_EInt (fun a3 c3 F3 => ?_) (h63 := by exact lenE) (hby := by exact lenE)
      refine dk ?_
      refine dO 11 (by kernel_rfl) (by rw [List.getElem?_toArray]; rfl) ?_
      refine aps one_EInt scal_EInt (fun a4 c4 F4 => ?_) (h63 := by exact lenE) (hby := by exact lenE)
      refine dk ?_
      refine dt 12 ?_
      refine dd ?_
      rw [e]
      refine go ?_; intros
      refine ret ⟨_, _, _⟩ trivial rfl
end Go.Proofs.Ytgogcgkocjpgoaa
/- Elements: requests and repairs of the reference. -/
namespace Go.Proofs.Ytgogcgkocjpgoaa
open Go.RowKit
/-- an owned element, its value aS it stands -/
theorem clOE {c : Cx} {fr : Fr} {H S : List Pc} {Φ : Gl} (x : Element) {a : Option Addr} {n cp : Nat} {F : List Nat} (hn : n = x.entries.length) (h : T c fr (.own OElement (.agg #[.int .i64 x.clock, .slice a n cp]) x F :: S) Φ) (hp : Pick H (.ow OEntry 74 (.slice a n cp) x.entries F) S := by (repeat (first | exact .here | apply Pick.there)); first | done | fail) : T c fr H Φ := by
  subst hn; exact closeOElement x h hp
theorem reqE_yes {e : Element} {n f : Int} (h : atE e n < e.entries.length) : reqE e n f = ⟨e.clock, e.entries.set (atE e n) ⟨e.entries[atE e n].number, putI e.entries[atE e n].faces f, e.entries[atE e n].untl⟩⟩ := by unfold reqE; rw [List.getElem?_eq_getElem h]
theorem reqE_new {e : Element} {n f : Int} (h : e.entries[atE e n]? = none) (hl : e.entries.length < 5) : reqE e n f = ⟨e.clock, e.entries ++ [⟨n, [f], e.clock + 6⟩]⟩ := by unfold reqE; rw [h]; simp [hl]
theorem reqE_full {e : Element} {n f : Int} (h : e.entries[atE e n]? = none) (hl : ¬ e.entries.length < 5) : reqE e n f = e := by unfold reqE; rw [h]; simp [hl]
set_option maxRecDepth 100000 in
theorem l14Request_f (e : Element) (n f : Int) (v : Value) (F : List Nat) (hl : e.entries.length ≤ 1000000) (hf : ∀ x ∈ e.entries, x.faces.length ≤ 1000000) (hc0 : -1000000 ≤ e.clock) (hc1 : e.clock ≤ 1000000) : Fn Try.prog 44 [v, .int .i64 n, .int .i64 f] [.isv EElement v e F] [] (fun (_ : Value × List Nat) => True) (fun s => .tuple #[s.1, .bool (fwdE e n)]) (fun s => [.own OElement s.1 (reqE e n f) s.2]) := by
  refine enter Try.func44 rfl Try.ntmps44 fun w0 => ?_
  refine openElement ?_
  rintro a1 c1 F1 rfl l1
  refine go ?_; intros
  refine cv (fun w st => l14Own_c _ e _ w (st.get (p := .isv EElement (.agg #[.int .i64 e.clock, .slice a1 e.entries.length c1]) e F) (by simp)) (by omega) (fun x hx => Nat.le_trans (hf x hx) (by decide))) fun u FU => ?_
  refine openOElement ?_
  rintro a2 c2 F2 rfl l2
  refine go ?_; intros
  refine cf (l14Find_f e n _ F) fun _ _ => ?_
  refine t_app ?_
  rcases findE_or e n with ⟨h, e1, e2, e3⟩ | ⟨e1, e2, e3, e4⟩
  · rw [e1, e3, reqE_yes h]
    have hfx := hf e.entries[atE e n] (List.getElem_mem h)
    refine go ?_; intros
    refine focO (m := 3) (atE e n) ?_ rfl h
    rintro _ g A cs B k1 k2 G1 Gi G2 rfl - hc hH
    refine openOEntry ?_
    rintro a5 c5 F5 ev l5
    obtain rfl : cs = [.int .i64 e.entries[atE e n].number, .slice a5 e.entries[atE e n].faces.length c5, .int .i64 e.entries[atE e n].untl] := by simpa using ev
    refine go ?_; intros
    refine cf (l1Put_f _ f a5 c5 F5 hfx) fun z _ => ?_
    refine t_app ?_
    refine go ?_; intros
    refine closeOEntry ⟨e.entries[atE e n].number, putI e.entries[atE e n].faces f, e.entries[atE e n].untl⟩ ?_
    refine unfO _ hH rfl fun F6 => ?_
    refine clOE ⟨e.clock, _⟩ List.length_set.symm ?_
    refine ret (_, _) trivial rfl
  · rw [e1, e3]
    refine go ?_; intros
    refine c_if rfl (fun h5 => ?_) (fun h5 => ?_)
    · rw [reqE_new e2 (by omega)]
      refine go ?_; intros
      refine t_row (E := EInt) (xs := [f]) (rep_i f) ?_ (by simp)
      refine closeOEntry ⟨n, [f], e.clock + 6⟩ ?_
      apply wO
      refine ap1o one_OEntry ⟨n, [f], e.clock + 6⟩ rfl fun a3 c3 F3 => ?_
      refine go ?_; intros
      refine clOE ⟨e.clock, _⟩ rfl ?_
      refine ret (_, _) trivial rfl
    · rw [reqE_full e2 (by omega)]
      refine go ?_; intros
      refine clOE e rfl ?_
      refine ret (_, _) trivial rfl
def facS (e : Element) (n : Int) (below : List Int) : List Int := match e.entries[atE e n]? with
  | some x => below.filter fun f => decide (f ∈ x.faces)
  | none => if e.entries.length = 5 then below else []
theorem repE_yes {e : Element} {n : Int} (h : atE e n < e.entries.length) : repE e n = ⟨e.clock, e.entries.take (atE e n) ++ e.entries.drop (atE e n + 1)⟩ := by unfold repE; rw [List.getElem?_eq_getElem h]
theorem repE_no {e : Element} {n : Int} (h : e.entries[atE e n]? = none) : repE e n = e := by unfold repE; rw [h]
theorem facS_yes {e : Element} {n : Int} {l : List Int} (h : atE e n < e.entries.length) : facS e n l = l.filter fun f => decide (f ∈ e.entries[atE e n].faces) := by unfold facS; rw [List.getElem?_eq_getElem h]
theorem facS_no {e : Element} {n : Int} {l : List Int} (h : e.entries[atE e n]? = none) : facS e n l = if e.entries.length = 5 then l else [] := by unfold facS; rw [h]
structure FacS where
  k : Nat
  a : Option Addr
  c : Nat
  F : List Nat
structure RepS where
  v : Value
  F : List Nat
  a : Option Addr
  c : Nat
  G : List Nat
set_option maxRecDepth 100000 in
theorem l14Repair_f (e : Element) (n : Int) (below : List Int) (v : Value) (F : List Nat) (a0 : Option Addr) (c0 : Nat) (F0 : List Nat) (hl : e.entries.length ≤ 1000000) (hf : ∀ x ∈ e.entries, x.faces.length ≤ 1000000) (hb : below.length ≤ 1000000) : Fn Try.prog 34 [v, .int .i64 n, .slice a0 below.length c0] [.isv EElement v e F, .sl EInt (.slice a0 below.length c0) below F0] [] (fun (_ : RepS) => True) (fun s => .tuple #[s.v, .slice s.a (facS e n below).length s.c]) (fun s => [.own OElement s.v (repE e n) s.F, .ow EInt 3 (.slice s.a (facS e n below).length s.c) (facS e n below) s.G]) := by
  refine enter Try.func34 rfl Try.ntmps34 fun w0 => ?_
  refine openElement ?_
  rintro a1 c1 F1 rfl l1
  refine go ?_; intros
  refine cv (fun w st => l14Own_c _ e _ w (st.get (p := .isv EElement (.agg #[.int .i64 e.clock, .slice a1 e.entries.length c1]) e F) (by simp)) (by omega) (fun x hx => Nat.le_trans (hf x hx) (by decide))) fun u FU => ?_
  refine openOElement ?_
  rintro a2 c2 F2 rfl l2
  refine go ?_; intros
  refine cf (l14Find_f e n _ F) fun _ _ => ?_
  refine t_app ?_
  refine t_emp EInt ?_
  rcases findE_or e n with ⟨h, e1, e2, e3⟩ | ⟨e1, e2, e3, e4⟩
  · rw [e1, repE_yes h, facS_yes h]
    have hfx := hf e.entries[atE e n] (List.getElem_mem h)
    refine go ?_; intros
    refine atEntry (xs := e.entries) (atE e n) ?_
    rintro hi b o a5 c5 F5 e6 l5
    generalize atE e n = i at *
    generalize hx : e.entries[i] = x at *
    rw [e6]
    refine go ?_; intros
    refine c_loopS [2, 3, 6, 7, 8, 10] (fun s : FacS => [(11, .int .i64 (s.k : Nat)), (9, .slice s.a ((below.take s.k).filter fun f => decide (f ∈ x.faces)).length s.c)]) (fun s => [.ow EInt 3 (.slice s.a ((below.take s.k).filter fun f => decide (f ∈ x.faces)).length s.c) ((below.take s.k).filter fun f => decide (f ∈ x.faces)) s.F]) (fun s => s.k ≤ below.length) (fun s => below.length - s.k) ⟨0, _, _, _⟩ (Nat.zero_le _) fun s hs => ?_
    obtain ⟨k, a3, c3, F3⟩ := s
    dsimp only at hs ⊢
    refine go ?_; intros
    refine c_if rfl (fun h6 => ?_) (fun h6 => ?_)
    · have hk : k < below.length := by omega
      refine at_int (xs := below) k ?_
      rintro hi2 b2 o2 e7
      rw [e7]
      have ht : below.take (k + 1) = below.take k ++ [below[k]] := by rw [List.take_add_one, List.getElem?_eq_getElem hk]; rfl
      have hle : ((below.take k).filter fun f => decide (f ∈ x.faces)).length ≤ k := Nat.le_trans (List.length_filter_le _ _) (by simp; omega)
      refine go ?_; intros
      refine d_start [0, 2, 7] [] ?_
      refine dt 0 ?_
      refine dt 1 ?_
      refine dt 2 ?_
      refine dt 3 ?_
      refine dt 4 ?_
      refine dt 5 ?_
      refine dt 6 ?_
      refine dt 7 ?_
      refine dt 8 ?_
      refine dt 9 ?_
      refine dO 10 (by kernel_rfl) (by rw [List.getElem?_toArray]; rfl) ?_
      apply o_call; rfl; kernel_rfl; exact evsE
      refine cf (l1Has_f x.faces below[k] a5 c5 F5) fun _ _ => ?_
      refine t_app ?_
      refine dk ?_
      refine dd ?_
      refine go ?_; intros
      refine c_if rfl (fun h7 => ?_) (fun h7 => ?_)
      · have e8 : (below.take (k + 1)).filter (fun f => decide (f ∈ x.faces)) = ((below.take k).filter fun f => decide (f ∈ x.faces)) ++ [below[k]] := by rw [ht, List.filter_append]; simp [h7]
        refine go ?_; intros
        apply wO
        refine ap1 (rep_i _) one_EInt fun a6 c6 F6 => ?_
        rw [← e8]
        refine go ?_; intros
        refine n_lp (⟨k + 1, _, _, _⟩ : FacS) hk (by dsimp only; omega)
      · have e8 : (below.take (k + 1)).filter (fun f => decide (f ∈ x.faces)) = ((below.take k).filter fun f => decide (f ∈ x.faces)) := by rw [ht, List.filter_append]; simp [h7]
        refine go ?_; intros
        rw [← e8]
        refine n_lp (⟨k + 1, _, _, _⟩ : FacS) hk (by dsimp only; omega)
    · have hk : below.take k = below := List.take_of_length_le (by omega)
      rw [hk]
      refine go ?_; intros
      refine t_shal one_OEntry rfl fun ys Fy Gy hyl hym => ?_
      refine t_fcut i hi hyl hym fun G1 Gi G2 => ?_
      refine t_read (E := EC 3) (xs := ys) fun Fr => ?_
      refine t_stk (E := EC 3) (xs := ys) i (by omega) fun F6 hc1 hc2 => ?_
      refine d_start [8] [13] ?_
      refine dt 1 ?_
      refine dt 2 ?_
      refine dt 3 ?_
      refine dt 4 ?_ (hy := yd_slt (i := i) rfl rfl rfl (by omega) (by omega))
      refine dt 6 ?_
      refine dt 7 ?_
      refine dt 8 ?_
      refine dt 9 ?_
      refine dsld 10 (i + 1) fun a7 c7 F7 => ?_
      refine dO 0 (by kernel_rfl) (by rw [List.getElem?_toArray]; rfl) ?_
      apply o_bs0; rfl; intro _
      refine t_emp (EC 3) ?_
      refine dk ?_
      refine dO 5 (by kernel_rfl) (by rw [List.getElem?_toArray]; rfl) ?_
      refine aps (one_EC 3) (scal_EC 3) (fun a6 c6 F6 => ?_) (hn := by rw [List.length_take]; omega) (h63 := by exact lenE) (hby := by exact lenE)
      refine dk ?_
      refine dO 11 (by kernel_rfl) (by rw [List.getElem?_toArray]; rfl) ?_
      refine aps (one_EC 3) (scal_EC 3) (fun a8 c8 F8 => ?_) (h63 := by exact lenE) (hby := by exact lenE)
      refine dk ?_
      refine dt 12 ?_
      refine dO 13 (by kernel_rfl) (by rw [List.getElem?_toArray]; rfl) ?_
      apply o_st; rfl; rfl; rfl; (first | exact AggC.s | exact OneC.s); rfl; exact rplE; exact putE; rfl
      refine dkx ?_
      refine dd ?_
      refine t_fjoin (E := OEntry) ?_
      refine t_deep (E := OEntry) (m := 3) (ys := ([] ++ ys.take i) ++ ys.drop (i + 1)) (cs := (ys.take i).flatten ++ (ys.drop (i + 1)).flatten) (xs := e.entries.take i ++ e.entries.drop (i + 1)) ?_ rfl (by simp) (by simp [hyl])
      refine go ?_; intros
      refine clOE (n := (([] ++ ys.take i) ++ ys.drop (i + 1)).length) ⟨e.clock, e.entries.take i ++ e.entries.drop (i + 1)⟩ (by simp [hyl]) ?_
      refine ret ⟨_, _, _, _, _⟩ trivial rfl
  · rw [e1, repE_no e2, facS_no e2]
    refine go ?_; intros
    refine c_if rfl (fun h5 => ?_) (fun h5 => ?_)
    · rw [if_pos (by omega)]
      refine go ?_; intros
      apply wO
      refine aps one_EInt scal_EInt fun a4 c4 F4 => ?_
      refine go ?_; intros
      refine clOE e rfl ?_
      refine ret ⟨_, _, _, _, _⟩ trivial rfl
    · rw [if_neg (by omega)]
      refine go ?_; intros
      refine clOE e rfl ?_
      refine ret ⟨_, _, _, _, _⟩ trivial rfl
end Go.Proofs.Ytgogcgkocjpgoaa
/- Deleting in place: parts of a slice, a part put down further ahead in its own row. -/
namespace Go.Proofs.Ytgogcgkocjpgoaa
open Go.RowKit
section
variable {P : Program} {n : Nat} {fr : Fr} {H : List Pc} {ty : TypeId} {x y z u : Operand}
theorem yd_slw {t e m i g o len cp : Nat} {kd : IntKind} {q : Int} [hS : SlC P t e m] (hx : ev fr x = some (.slice (some ⟨g, o, none⟩) len cp)) (hy : ev fr y = some (.int kd q)) (hq : q = (i : Int)) (hi : i ≤ len) (hlc : len ≤ cp) : Yd P n fr H (.slice t x (some y) none none) ty (.slice (some ⟨g, if cp = i then o else o + i * m, none⟩) (len - i) (cp - i)) := .mk fun ac w d pos aft gd hA _ => by
  subst hq
  have he2 : P.elem t = e := by simp [Program.elem, hS.u]
  have h3 : (Instr.sliceAt t (.slice (some ⟨g, o, none⟩) len cp) (some (.int kd (i : Int))) none none).run P w = .ok (.slice (some ⟨g, if cp = i then o else o + i * m, none⟩) (len - i) (cp - i)) w := by
    rw [run_sliceAt_slice (h := by rw [he2]; exact hS.u), run_slice_l (ht := by rw [he2]; exact hS.u) (h0 := by omega) (h1 := by omega), he2, size_of hS.s]
    simp only [Result.andThen, sliced, Option.map_some, Addr.add_lit, Int.toNat_natCast]
    split <;> rfl
  simp only [execOp, Option.map_none, Option.map_some, hA.ev hx, hA.ev hy, Sem.run_bind, h3, Result.andThen_ok, Sem.run_pure]
theorem yd_slhv {t e m i j g o len cp : Nat} {kd kd2 : IntKind} {q r : Int} [hS : SlC P t e m] (hx : ev fr x = some (.slice (some ⟨g, o, none⟩) len cp)) (hy : ev fr y = some (.int kd q)) (hz : ev fr z = some (.int kd2 r)) (hq : q = (i : Int)) (hr : r = (j : Int)) (hi : i < cp) (hij : i ≤ j) (hj : j ≤ cp) : Yd P n fr H (.slice t x (some y) (some z) none) ty (.slice (some ⟨g, o + i * m, none⟩) (j - i) (cp - i)) := .mk fun ac w d pos aft gd hA _ => by
  subst hq hr
  have he2 : P.elem t = e := by simp [Program.elem, hS.u]
  have h3 : (Instr.sliceAt t (.slice (some ⟨g, o, none⟩) len cp) (some (.int kd (i : Int))) (some (.int kd2 (j : Int))) none).run P w = .ok (.slice (some ⟨g, o + i * m, none⟩) (j - i) (cp - i)) w := by
    rw [run_sliceAt_slice (h := by rw [he2]; exact hS.u), run_slice_lh (ht := by rw [he2]; exact hS.u) (h0 := by omega) (h1 := by omega) (h2 := by omega), he2, size_of hS.s]
    simp only [Result.andThen, sliced, Option.map_some, Addr.add_lit, Int.toNat_natCast]
    rw [if_neg (by omega)]
  simp only [execOp, Option.map_none, Option.map_some, hA.ev hx, hA.ev hy, hA.ev hz, Sem.run_bind, h3, Result.andThen_ok, Sem.run_pure]
end
section
variable {c : Cx} {fr : Fr} {H : List Pc} {k : List It} {Φ : Gl} {d : Nat} {ty : TypeId} {x y z u : Operand}
/-- a part of a slice that nobody looks at -/
theorem o_slany3 {t e m n cp i j l : Nat} {a : Option Addr} {q r s : Int} [hS : SlC c.P t e m] (hd : Nat.blt d c.n = true) (hx : ev fr x = some (.slice a n cp)) (hy : ev fr y = some (.int .i64 q)) (hz : ev fr z = some (.int .i64 r)) (hu : ev fr u = some (.int .i64 s)) (hq : q = (i : Int)) (hr : r = (j : Int)) (hs : s = (l : Int)) (hij : i ≤ j) (hjl : j ≤ l) (hl : l ≤ cp) (h : ∀ v, T c ((d, v) :: fr) H Φ) : On c fr H (some d) (.slice t x (some y) (some z) (some u)) ty Φ := ⟨fun _ _ _ => ef_of fun Q ac w st g => by
  subst hq hr hs
  have he2 := elem_of hS
  obtain ⟨v, h3⟩ : ∃ v, (Instr.sliceAt t (.slice a n cp) (some (.int .i64 (i : Int))) (some (.int .i64 (j : Int))) (some (.int .i64 (l : Int)))).run c.P w = .ok v w := by
    rw [run_sliceAt_slice (h := by rw [he2]; exact hS.u), run_slice_lhm (ht := by rw [he2]; exact hS.u) (h0 := by omega) (h1 := by omega) (h2 := by omega) (h3 := by omega), he2, size_of hS.s]
    exact ⟨_, rfl⟩
  have e1 : ∀ pos aft gd, (execOp ac.eval ⟨some d, .slice t x (some y) (some z) (some u), ty, pos, aft, gd⟩).run c.P w = .ok (.value v) w := by
    intro pos aft gd
    simp only [execOp, Option.map_none, Option.map_some, g.ev hx, g.ev hy, g.ev hz, g.ev hu, Sem.run_bind, h3, Result.andThen_ok, Sem.run_pure]
  rw [e1]
  exact (h v).h _ w st (g.put hd)⟩
/-- the elements from j on, put down from i on -/
theorem o_apin {α : Type} {E : Elem α} (sc : Scal E) (one : One E) {t e m b g n cp i j q c2 : Nat} {zv : Value} [hS : SlC c.P t e m] [hE : ElT c.P e zv m b] (hm : E.sz = m) {xs : List α} {F : List Nat} {S : List Pc}
    (hd : Nat.blt d c.n = true) (hx : ev fr x = some (.slice (some ⟨g, 0, none⟩) i cp)) (hy : ev fr y = some (.slice (some ⟨g, q, none⟩) (n - j) c2)) (hq : j < n → q = j * m) (hij : i ≤ j) (hj : j ≤ n) (hn : n = xs.length)
    (hp : Pick H (.ow E e (.slice (some ⟨g, 0, none⟩) n cp) xs F) S) (h : T c ((d, .slice (some ⟨g, 0, none⟩) (i + (n - j)) cp) :: fr) (.ow E e (.slice (some ⟨g, 0, none⟩) n cp) (xs.take i ++ xs.drop j ++ xs.drop (i + (n - j))) F :: S) Φ) :
    On c fr H (some d) (.call { callee := .builtin .append, args := #[x, y], argTypes := #[t, t] }) ty Φ := ⟨fun _ _ _ => ef_of fun Q a w s ag => by
  subst hm hn
  have s1 := s.pick hp
  obtain ⟨hnd, ho⟩ := s1.on (.ow E e (.slice (some ⟨g, 0, none⟩) xs.length cp) xs F) (by simp)
  have hF := ho.scal sc
  rcases ho with ⟨h1, -, -⟩ | ⟨g2, cap, cs, rest, G, h1, h2, h3, h4, h5, h6, h7⟩
  · cases h1
  cases h1
  have hG : G = [] := by rw [h7] at hF; simpa [Value.ownBlock] using hF
  subst hG h7
  obtain ⟨ti, hi, hiz⟩ := Option.map_eq_some_iff.1 hE.i
  simp only [Prod.mk.injEq] at hiz
  obtain ⟨-, i2, -⟩ := hiz
  have hl := h6.len
  have hle : i + (xs.length - j) ≤ xs.length := by omega
  have fi := (h6.cutL i (by omega)).1
  have fj := (h6.cutL j hj).2
  have fk := (h6.cutL (i + (xs.length - j)) hle).2
  have hd1 : (cs.take (i * E.sz)).length = i * E.sz := by have := fi.len; rw [List.length_take (l := xs), Nat.min_eq_left (by omega)] at this; exact this
  have hd2 : (cs.drop (j * E.sz)).length = (xs.length - j) * E.sz := by have := fj.len; rwa [List.length_drop (l := xs)] at this
  have h1c := h6.one' one
  have hsm : (i + (xs.length - j)) * E.sz ≤ xs.length * E.sz := Nat.mul_le_mul_right _ hle
  have hadd : (i + (xs.length - j)) * E.sz = i * E.sz + (xs.length - j) * E.sz := Nat.add_mul _ _ _
  have hsrc : ∀ r u, (cs.drop (j * E.sz))[r]? = some u → w.cell? ((⟨g, q, none⟩ : Addr).add r) = some u := fun r u hu => by
    have hr : r < (cs.drop (j * E.sz)).length := (List.getElem?_eq_some_iff.1 hu).1
    have hlt : j < xs.length := by
      rcases Nat.lt_or_ge j xs.length with h | h
      · exact h
      · rw [hd2, show xs.length - j = 0 by omega] at hr; simp at hr
    rw [hq hlt, Addr.add_lit, h2.cell, List.getElem?_append_left (by rw [List.length_drop] at hr; omega)]
    rw [List.getElem?_drop] at hu; exact hu
  have hr := fun ty => run_append_room_cells (P := c.P) w t ty e ti hS.u hi g 0 i cp ⟨g, q, none⟩ (xs.length - j) c2 (cs.drop (j * E.sz)) (by rw [hd2, i2]) hsrc (fun u hu => h1c u (List.mem_of_mem_drop hu)) (by omega)
    (fun r hr => by rw [i2, h2.cell, List.getElem?_eq_getElem (by rw [List.length_append]; omega)]; rfl) (fun r _ => h2.frozen _)
  have e1 : ∀ pos aft gd, (execOp a.eval ⟨some d, .call { callee := .builtin .append, args := #[x, y], argTypes := #[t, t] }, ty, pos, aft, gd⟩).run c.P w = .ok (.value (.slice (some ⟨g, 0, none⟩) (i + (xs.length - j)) cp)) (w.setCells g (0 + i * E.sz) (cs.drop (j * E.sz))) := by
    intro pos aft gd
    simp only [execOp, resolve, invoke, builtin, Sem.run_bind, Sem.run_pure, Result.andThen_ok, List.map_toArray, List.map_cons, List.map_nil, ag.ev hx, ag.ev hy, hr, i2]
  rw [e1]
  have R0 : Row w g e (cs.take (i * E.sz) ++ (cs.drop (i * E.sz)).take ((xs.length - j) * E.sz) ++ (cs.drop ((i + (xs.length - j)) * E.sz) ++ rest)) := by
    rw [hadd, ← List.drop_drop, List.append_assoc, ← List.append_assoc _ _ rest, List.take_append_drop, ← List.append_assoc, List.take_append_drop]; exact h2
  have R1 := Row.put (cs.drop (j * E.sz)) _ R0 (p := 0 + i * E.sz) (by omega) (by rw [hd2, List.length_take, List.length_drop]; omega)
  have hk := putCells_keep (g := g) (cs.drop (j * E.sz)) w (0 + i * E.sz)
  rw [putCells_eq w g] at R1 hk
  have hW : (Pc.ow E e (.slice (some ⟨g, 0, none⟩) xs.length cp) (xs.take i ++ xs.drop j ++ xs.drop (i + (xs.length - j))) [g]).P (w.setCells g (0 + i * E.sz) (cs.drop (j * E.sz))) := by
    have hll : (xs.take i ++ xs.drop j ++ xs.drop (i + (xs.length - j))).length = xs.length := by simp only [List.length_append, List.length_take, List.length_drop]; omega
    refine ⟨by simp, .inr ⟨g, cp, cs.take (i * E.sz) ++ cs.drop (j * E.sz) ++ cs.drop ((i + (xs.length - j)) * E.sz), rest, [], by rw [hll], by simpa [List.append_assoc] using R1, by rw [hll]; exact h3, h4, ?_, ?_, rfl⟩⟩
    · rw [List.length_append, List.length_append, hd1, hd2, List.length_drop, hl, ← h5]; omega
    · have := ((fi.all (w.setCells g (0 + i * E.sz) (cs.drop (j * E.sz)))).append (fj.all _)).append (fk.all _)
      simpa using this
  exact h.h _ _ (St.turn (M := [.ow E e (.slice (some ⟨g, 0, none⟩) xs.length cp) xs [g]]) (N := [.ow E e (.slice (some ⟨g, 0, none⟩) xs.length cp) (xs.take i ++ xs.drop j ++ xs.drop (i + (xs.length - j))) [g]]) s1 (by simpa [List.filter, Pc.mu, fp, Pc.F] using hk) (by intro q hq; rw [List.mem_singleton] at hq; subst hq; exact hW) ⟨by simp, trivial⟩ (by
      intro q hq b hb
      rw [List.mem_singleton] at hq; subst hq
      exact .inr (.inl ⟨_, List.mem_singleton.2 rfl, rfl, hb⟩))) (ag.put hd)⟩
end
end Go.Proofs.Ytgogcgkocjpgoaa
/- Deleting one entry, by its cells. -/
namespace Go.Proofs.Ytgogcgkocjpgoaa
open Go.RowKit
set_option maxRecDepth 100000 in
theorem DelE_f (xs : List (List Value)) (n i : Nat) (j : Int) (a : Option Addr) (c : Nat) (F : List Nat) (hn : n = xs.length) (hi : i < xs.length) (hj : j = (i : Int) + 1) (hl : xs.length ≤ 1000000) :
    Fn Try.prog 70 [.slice a n c, .int .i64 i, .int .i64 j] [] [.ow (EC 3) 74 (.slice a n c) xs F] (fun (_ : Option Addr × Nat × List Nat) => True)
      (fun z => .slice z.1 (xs.take i ++ xs.drop (i + 1)).length z.2.1) (fun z => [.ow (EC 3) 74 (.slice z.1 (xs.take i ++ xs.drop (i + 1)).length z.2.1) (xs.take i ++ xs.drop (i + 1)) z.2.2]) := by
  subst hn
  refine enter Try.func70 rfl Try.ntmps70 fun w0 => ?_
  refine t_head (xs := xs) (scal_EC 3) (by rintro rfl; simp at hi) ?_
  rintro g rfl rfl - hc1 hc2
  refine go ?_; intros
  apply wO
  refine o_slany3 (i := i) (j := i + 1) (l := xs.length) rfl rfl rfl rfl rfl rfl (by omega) rfl (by omega) (by omega) hc1 (fun _ => ?_)
  refine go ?_; intros
  refine c_if rfl (fun h => absurd h (by omega)) (fun _ => ?_)
  refine go ?_; intros
  refine d_start [] [] ?_
  refine dt 0 ?_
  refine dt 1 ?_
  refine dt 2 ?_ (hy := yd_slt (i := i) rfl rfl rfl (by omega) (by omega))
  refine dt 3 ?_
  refine dt 4 ?_
  refine dt 5 ?_ (hy := yd_slw (i := i + 1) rfl rfl (by omega) (by omega) hc1)
  refine dO 6 (by kernel_rfl) (by rw [List.getElem?_toArray]; rfl) ?_
  refine o_apin (m := 3) (i := i) (j := i + 1) (q := if c = i + 1 then 0 else 0 + (i + 1) * 3) (g := g) (cp := c) (n := xs.length) (scal_EC 3) (one_EC 3) rfl rfl rfl rfl (fun h => by rw [if_neg (by omega)]; omega) (by omega) (by omega) rfl (by repeat (first | exact .here | apply Pick.there)) ?_
  refine dk ?_
  refine dt 7 ?_
  refine dd ?_
  refine go ?_; intros
  apply wO; apply oc; rfl; exact yd_slhv (i := i + (xs.length - (i + 1))) (j := xs.length) rfl rfl rfl rfl rfl (by omega) (by omega) hc1
  refine go ?_; intros
  apply wO
  refine o_clr (xs := xs.take i ++ xs.drop (i + 1) ++ xs.drop (i + (xs.length - (i + 1)))) (z0 := [.int .i64 0, .slice none 0 0, .int .i64 0]) (n := xs.length) (cp := c) (i := i + (xs.length - (i + 1))) (g := g) (scal_EC 3) (fun w => ⟨rfl, ⟨rfl, by simp [Value.oneCell']⟩, rfl⟩) (by decide) rfl rfl (by omega) (by exact lenE) (by repeat (first | exact .here | apply Pick.there)) ?_
  have hk : (xs.take i ++ xs.drop (i + 1)).length = i + (xs.length - (i + 1)) := by exact lenE
  refine t_take (xs := (xs.take i ++ xs.drop (i + 1) ++ xs.drop (i + (xs.length - (i + 1)))).take (i + (xs.length - (i + 1))) ++ List.replicate (xs.length - (i + (xs.length - (i + 1)))) [.int .i64 0, .slice none 0 0, .int .i64 0]) (i + (xs.length - (i + 1))) (fun F2 => ?_) (by exact lenE)
  rw [List.take_left' (by rw [List.take_left' hk, hk]), List.take_left' hk, ← hk]
  refine go ?_; intros
  refine ret (_, c, F2) trivial rfl
end Go.Proofs.Ytgogcgkocjpgoaa
/- Deleting out of lists of integers, by the engine. -/
namespace Go.Proofs.Ytgogcgkocjpgoaa
open Go.RowKit
set_option maxRecDepth 100000 in
theorem IdxInt_f (fid : FuncId) (bd caps : List Value) (A : List Pc) (hA : A.all (fun p => !p.mu) = true) (xs : List Int) (a : Option Addr) (c : Nat) (F : List Nat) (p : Int → Bool) (hb : bodyB Try.prog fid = true) (hl : xs.length ≤ 1000000000)
    (hp : ∀ x ∈ xs, ∀ w, Hol A w → Calls Try.prog fid (bd ++ [(.int .i64 x : Value)] ++ caps).toArray w fun e w' => e = .returned (.bool (p x)) ∧ Below w.heap.size w w') :
    Fn Try.prog 84 [.slice a xs.length c, .func (.func fid) bd.toArray caps.toArray] (.sl EInt (.slice a xs.length c) xs F :: A) [] (fun (_ : Unit) => True) (fun _ => .int .i64 (fidx p xs)) (fun _ => []) := by
  refine enter Try.func84 rfl Try.ntmps84 (fun w0 => ?_) rfl (by simpa [Pc.mu] using hA) .nil
  refine go ?_; intros
  refine c_loopR [0, 1, 4, 7] (fun k : Nat => [(8, .int .i64 (k : Nat))]) (fun k => k ≤ xs.length ∧ ∀ j (_ : j < k) (hj : j < xs.length), p xs[j] = false) (fun k => xs.length - k) 0 ⟨Nat.zero_le _, fun j h => by omega⟩ fun k hk => ?_
  obtain ⟨hk1, hk2⟩ := hk
  refine go ?_; intros
  refine c_if rfl (fun h5 => ?_) (fun h5 => ?_)
  · have hh : k < xs.length := by omega
    refine go ?_; intros
    refine at_int (xs := xs) k ?_
    rintro hi b o e
    rw [e]
    refine go ?_; intros
    apply wO
    refine o_callb rfl rfl hb evsE ?_
    refine cb (fun w st => hp xs[k] (List.getElem_mem hh) w (fun q hq => st.on q (by simp [hq]))) ?_
    cases hpk : p xs[k]
    · refine go ?_; intros
      refine t_drop ?_
      refine n_lp (hH := hsub_refl _) (k + 1) ⟨hh, fun j hj h => ?_⟩ (by omega)
      rcases Nat.lt_or_eq_of_le (Nat.lt_succ_iff.1 hj) with h2 | rfl
      · exact hk2 j h2 h
      · exact hpk
    · refine go ?_; intros
      refine ret () trivial ?_
      rw [fidx_hit hh hk2 hpk]; rfl
  · obtain rfl : k = xs.length := by omega
    refine go ?_; intros
    refine ret () trivial ?_
    rw [fidx_none (fun j hj => hk2 j hj hj)]; rfl
structure DfInt where
  i : Nat
  j : Nat
  zs : List Int
set_option maxRecDepth 100000 in
theorem DelInt_f (fid : FuncId) (bd caps : List Value) (A : List Pc) (hA : A.all (fun p => !p.mu) = true) (xs : List Int) (a : Option Addr) (c : Nat) (F : List Nat) (p : Int → Bool) (hb : bodyB Try.prog fid = true) (hl : xs.length ≤ 1000000000)
    (hp : ∀ x ∈ xs, ∀ w, Hol A w → Calls Try.prog fid (bd ++ [(.int .i64 x : Value)] ++ caps).toArray w fun e w' => e = .returned (.bool (p x)) ∧ Below w.heap.size w w') :
    Fn Try.prog 67 [.slice a xs.length c, .func (.func fid) bd.toArray caps.toArray] A [.ow EInt 3 (.slice a xs.length c) xs F] (fun (_ : Option Addr × Nat × List Nat) => True)
      (fun z => .slice z.1 (xs.filter fun x => !p x).length z.2.1) (fun z => [.ow EInt 3 (.slice z.1 (xs.filter fun x => !p x).length z.2.1) (xs.filter fun x => !p x) z.2.2]) := by
  refine enter Try.func67 rfl Try.ntmps67 (fun w0 => ?_) rfl (by simpa [Pc.mu] using hA) (.cons .nil)
  refine go ?_; intros
  refine cb (fun w st => by
    obtain ⟨Fw, -, hw⟩ := (st.get (p := .ow EInt 3 (.slice a xs.length c) xs F) (by simp)).2.read
    refine (IdxInt_f fid bd caps A hA xs a c Fw p hb hl hp).val w ?_ (by simpa [Pc.mu] using hA)
    intro q hq
    rcases List.mem_cons.1 hq with rfl | hq
    · exact ⟨by decide, hw⟩
    · exact st.on q (by simp [hq])) ?_
  by_cases hany : xs.any p = true
  · obtain ⟨i0, hi0, hfx, hpi, hfl⟩ := fidx_some hany
    rw [hfx]
    refine t_head (xs := xs) scal_EInt (by rintro rfl; simp at hi0) ?_
    rintro g rfl rfl - hc1 hc2
    refine go ?_; intros
    refine c_loopS [0, 1, 4] (fun s : DfInt => [(5, .int .i64 (s.i : Nat)), (6, .int .i64 (s.j : Nat))]) (fun s => [.ow EInt 3 (.slice (some ⟨g, 0, none⟩) xs.length c) s.zs [g]]) (fun s => s.zs.length = xs.length ∧ s.j ≤ xs.length ∧ s.i < s.j ∧ s.zs.take s.i = (xs.take s.j).filter (fun x => !p x) ∧ s.zs.drop s.j = xs.drop s.j) (fun s => xs.length - s.j) ⟨i0, i0 + 1, xs⟩ ⟨rfl, hi0, Nat.lt_succ_self _, by rw [filter_take_no hi0 (by simp [hpi]), hfl], rfl⟩ fun s hs => ?_
    obtain ⟨i, j, zs⟩ := s
    obtain ⟨h1, h2, h3, h4, h5⟩ := hs
    dsimp only at h1 h2 h3 h4 h5 ⊢
    refine go ?_; intros
    refine c_if rfl (fun h6 => ?_) (fun h6 => ?_)
    · have hj : j < xs.length := by omega
      have hjz : j < zs.length := by omega
      have hx : zs[j] = xs[j] := by
        have a1 := List.drop_eq_getElem_cons hjz
        have a2 := List.drop_eq_getElem_cons hj
        rw [h5, a2] at a1
        exact (List.cons.inj a1).1.symm
      have hdz : zs.drop (j + 1) = xs.drop (j + 1) := by
        rw [← List.drop_drop, h5, List.drop_drop]
      refine go ?_; intros
      refine focF (m := 1) scal_EInt j ?_ (by repeat (first | exact .here | apply Pick.there)) rfl hjz
      rintro _ g2 A2 cs2 B2 e1 e2 hc3 hh
      cases e1
      obtain ⟨rfl, -⟩ := hc3 w0
      refine go ?_; intros
      refine unfF zs[j] hh hc3 ?_
      rw [List.set_getElem_self, hx]
      apply wO
      refine o_callb rfl rfl hb evsE ?_
      refine cb (fun w st => hp xs[j] (List.getElem_mem hj) w (fun q hq => st.on q (by simp [hq]))) ?_
      cases hpj : p xs[j]
      · refine go ?_; intros
        refine focF (m := 1) scal_EInt i ?_ (by repeat (first | exact .here | apply Pick.there)) rfl (by omega)
        rintro _ g3 A3 cs3 B3 e1 e2 hc4 hh3
        cases e1
        obtain ⟨rfl, -⟩ := hc4 w0
        refine go ?_; intros
        refine unfF xs[j] hh3 (fun w => ⟨rfl, rfl⟩) ?_
        refine n_lp (hH := hsub_refl _) (⟨i + 1, j + 1, zs.set i xs[j]⟩ : DfInt) ⟨by simp [h1], hj, Nat.succ_lt_succ h3, ?_, ?_⟩ (by dsimp only; omega)
        · dsimp only
          rw [filter_take_yes hj (by simp [hpj]), ← h4, List.take_add_one, List.getElem?_set_self (by omega), List.take_set_of_le (Nat.le_refl _)]
          rfl
        · dsimp only
          rw [List.drop_set_of_lt (by omega), hdz]
      · refine go ?_; intros
        refine n_lp (hH := hsub_refl _) (⟨i, j + 1, zs⟩ : DfInt) ⟨h1, hj, Nat.lt_succ_of_lt h3, ?_, hdz⟩ (by dsimp only; omega)
        dsimp only
        rw [filter_take_no hj (by simp [hpj]), h4]
    · obtain rfl : j = xs.length := by omega
      have h4' : zs.take i = xs.filter fun x => !p x := by rw [h4, List.take_length]
      have hil : (xs.filter fun x => !p x).length = i := by rw [← h4', List.length_take]; omega
      refine go ?_; intros
      apply wO; apply oc; rfl; exact yd_slv (i := i) rfl rfl rfl (by omega) (by omega) (by omega)
      refine go ?_; intros
      apply wO
      refine o_clr (z0 := 0) (n := xs.length) (cp := c) (i := i) (g := g) scal_EInt (fun w => ⟨rfl, rfl⟩) (by decide) rfl rfl h3 h1.symm (by repeat (first | exact .here | apply Pick.there)) ?_
      refine go ?_; intros
      refine t_take (xs := zs.take i ++ List.replicate (xs.length - i) 0) i (fun F2 => ?_) (by rw [List.length_append, List.length_take, List.length_replicate]; omega)
      rw [List.take_left' (by rw [List.length_take]; omega), h4']
      apply wO; apply oc; rfl; exact yd_slt (i := i) rfl rfl rfl (by omega) (by omega)
      refine go ?_; intros
      subst hil
      refine ret (_, c, F2) trivial rfl
  · obtain ⟨hfx, hfl⟩ := fidx_all hany
    rw [hfx, hfl]
    refine go ?_; intros
    refine ret (a, c, F) trivial rfl
end Go.Proofs.Ytgogcgkocjpgoaa
/- Elements: requests and repairs in place. -/
namespace Go.Proofs.Ytgogcgkocjpgoaa
open Go.RowKit
theorem t_rocel {c : Cx} {fr : Fr} {H S : List Pc} {Φ : Gl} {g t : Nat} {cs : List Value} (h : T c fr (.cel g 0 cs :: S) Φ) (h0 : cs ≠ []) (hp : Pick H (.row g t 0 [] cs []) S := by (repeat (first | exact .here | apply Pick.there)); first | done | fail) : T c fr H Φ := .mk fun ac w s ag => by
  have s1 := s.pick hp
  exact h.h ac w (s1.conv rfl ⟨h0, row_range (s1.on (.row g t 0 [] cs []) (by simp))⟩ (fun b hb => hb)) ag
set_option maxRecDepth 100000 in
theorem Erequest_f (e : Element) (n f : Int) (g t o : Nat) (A B : List Value) (a : Option Addr) (c : Nat) (F : List Nat) (hl : e.entries.length ≤ 1000000) (hf : ∀ x ∈ e.entries, x.faces.length ≤ 1000000 ∧ x.faces.Pairwise (· < ·)) (hc0 : -1000000 ≤ e.clock) (hc1 : e.clock ≤ 1000000) :
    Fn Try.prog 46 [ptr g o 0, .int .i64 n, .int .i64 f] [] [.row g t o A [.int .i64 e.clock, .slice a e.entries.length c] B, .ow OEntry 74 (.slice a e.entries.length c) e.entries F] (fun (_ : Option Addr × Nat × List Nat) => True) (fun _ => .bool (fwdE e n)) (fun s => [.row g t o A [.int .i64 (reqE e n f).clock, .slice s.1 (reqE e n f).entries.length s.2.1] B, .ow OEntry 74 (.slice s.1 (reqE e n f).entries.length s.2.1) (reqE e n f).entries s.2.2]) := by
  refine enter Try.func46 rfl Try.ntmps46 fun w0 => ?_
  refine go ?_; intros
  refine cb (fun w st => by
    obtain ⟨F', -, hs⟩ := (st.get (p := .ow OEntry 74 (.slice a e.entries.length c) e.entries F) (by simp)).2.sl weak_Entry
    exact (Efind_f e n _ F').val w (hol1 ⟨_, rfl, _, rfl, hs⟩)) ?_
  rcases findE_or e n with ⟨h, e1, e2, e3⟩ | ⟨e1, e2, e3, e4⟩
  · rw [e1, e3, reqE_yes h]
    obtain ⟨hfx, hpw⟩ := hf e.entries[atE e n] (List.getElem_mem h)
    have hsl : ∀ y, (e.entries.set (atE e n) y).length = e.entries.length := fun y => List.length_set
    refine go ?_; intros
    refine focO (m := 3) (atE e n) ?_ rfl h
    rintro _ g2 A2 cs B2 k1 k2 G1 Gi G2 rfl - hc hH
    refine openOEntry ?_
    rintro a5 c5 F5 ev l5
    obtain rfl : cs = [.int .i64 e.entries[atE e n].number, .slice a5 e.entries[atE e n].faces.length c5, .int .i64 e.entries[atE e n].untl] := by simpa using ev
    refine go ?_; intros
    refine cb (fun w st => by
      obtain ⟨F', -, hs⟩ := (st.get (p := .ow EInt 3 (.slice a5 e.entries[atE e n].faces.length c5) e.entries[atE e n].faces F5) (by simp)).2.read
      exact (bsInt_f _ f a5 c5 F' hpw hfx).val w (hol1 ⟨by decide, hs⟩)) ?_
    cases hq : atPl e.entries[atE e n].faces f
    · have ep : putI e.entries[atE e n].faces f = e.entries[atE e n].faces.take (placeI e.entries[atE e n].faces f) ++ f :: e.entries[atE e n].faces.drop (placeI e.entries[atE e n].faces f) := by unfold putI; rw [if_neg (by simpa [atPl] using hq)]
      refine go ?_; intros
      refine cf (InsInt_f e.entries[atE e n].faces f (placeI e.entries[atE e n].faces f) a5 c5 _ F5 (placeI_le _ _) hfx) fun z _ => ?_
      refine t_app ?_
      rw [← ep]
      refine go ?_; intros
      refine closeOEntry ⟨e.entries[atE e n].number, putI e.entries[atE e n].faces f, e.entries[atE e n].untl⟩ ?_
      refine unfO _ hH rfl fun F6 => ?_
      dsimp only
      rw [← hsl ⟨e.entries[atE e n].number, putI e.entries[atE e n].faces f, e.entries[atE e n].untl⟩]
      refine ret (_, _, _) trivial rfl
    · have ep : putI e.entries[atE e n].faces f = e.entries[atE e n].faces := by unfold putI; rw [if_pos (by simpa [atPl] using hq)]
      rw [ep]
      refine go ?_; intros
      refine closeOEntry ⟨e.entries[atE e n].number, e.entries[atE e n].faces, e.entries[atE e n].untl⟩ ?_
      refine unfO _ hH rfl fun F6 => ?_
      dsimp only
      rw [← hsl ⟨e.entries[atE e n].number, e.entries[atE e n].faces, e.entries[atE e n].untl⟩]
      refine ret (_, _, _) trivial rfl
  · rw [e1, e3]
    refine go ?_; intros
    refine c_if rfl (fun h5 => ?_) (fun h5 => ?_)
    · rw [reqE_new e2 (by omega)]
      refine go ?_; intros
      refine d_start [0] [18] ?_
      refine dt 0 ?_
      refine dt 1 ?_
      refine dt 2 ?_
      refine dt 3 ?_
      refine dt 4 ?_
      refine dt 5 ?_
      refine dt 6 ?_
      refine dt 8 ?_
      refine dt 9 ?_
      refine dt 10 ?_
      refine dt 11 ?_
      refine dt 12 ?_
      refine dO 7 (by kernel_rfl) (by rw [List.getElem?_toArray]; rfl) ?_
      apply o_bs; rfl; rfl; rfl; rfl; exact rptE; exact filE; intro _
      refine dk ?_
      refine dt 13 ?_
      refine dO 14 (by kernel_rfl) (by rw [List.getElem?_toArray]; rfl) ?_
      apply o_bs; rfl; rfl; rfl; rfl; exact rptE; exact filE; intro _
      refine t_row (E := EInt) (xs := [f]) (rep_i f) ?_ (by simp)
      refine closeOEntry ⟨n, [f], e.clock + 6⟩ ?_
      refine dk ?_
      refine dO 15 (by kernel_rfl) (by rw [List.getElem?_toArray]; rfl) ?_
      refine ap1o one_OEntry ⟨n, [f], e.clock + 6⟩ rfl fun a3 c3 F3 => ?_
      refine dk ?_
      refine dt 16 ?_
      refine dt 17 ?_
      refine dO 18 (by kernel_rfl) (by rw [List.getElem?_toArray]; rfl) ?_
      apply o_st; rfl; rfl; rfl; (first | exact AggC.s | exact OneC.s); rfl; exact rplE; exact putE; rfl
      refine dkx ?_
      refine dd ?_
      refine go ?_; intros
      refine ret (_, _, _) trivial rfl
    · rw [reqE_full e2 (by omega)]
      refine go ?_; intros
      refine ret (_, _, _) trivial rfl
theorem repair1_f (x : Int) (gb : Nat) (l : List Int) (a : Option Addr) (c : Nat) (F : List Nat) : Fn Try.prog 68 [.int .i64 x, ptr gb 0 0] [.cel gb 0 [.slice a l.length c], .sl EInt (.slice a l.length c) l F] [] (fun (_ : Unit) => True) (fun _ => .bool (!decide (x ∈ l))) (fun _ => []) := by
  refine enter Try.func68 rfl Try.ntmps68 fun w0 => ?_
  refine go ?_; intros
  refine cf (conI_f l x _ _ F) fun _ _ => ?_
  refine t_app ?_
  refine go ?_; intros
  refine ret () trivial ?_
  rw [decide_not]; rfl
structure RpIS where
  a : Option Addr
  c : Nat
  F : List Nat
  a2 : Option Addr
  c2 : Nat
  F2 : List Nat
theorem facE_yes {e : Element} {n : Int} {l : List Int} (h : atE e n < e.entries.length) : facE e n l = e.entries[atE e n].faces.filter fun f => decide (f ∈ l) := by unfold facE; rw [List.getElem?_eq_getElem h]
theorem facE_no {e : Element} {n : Int} {l : List Int} (h : e.entries[atE e n]? = none) : facE e n l = if e.entries.length = 5 then l else [] := by unfold facE; rw [h]
set_option maxRecDepth 100000 in
set_option maxHeartbeats 1000000 in
theorem Erepair_f (e : Element) (n : Int) (below : List Int) (g t o : Nat) (A B : List Value) (a : Option Addr) (c : Nat) (F : List Nat) (a0 : Option Addr) (c0 : Nat) (F0 : List Nat) (hl : e.entries.length ≤ 1000000) (hf : ∀ x ∈ e.entries, x.faces.length ≤ 1000000) (hb : below.length ≤ 1000000) :
    Fn Try.prog 39 [ptr g o 0, .int .i64 n, .slice a0 below.length c0] [.sl EInt (.slice a0 below.length c0) below F0] [.row g t o A [.int .i64 e.clock, .slice a e.entries.length c] B, .ow OEntry 74 (.slice a e.entries.length c) e.entries F] (fun (_ : RpIS) => True) (fun s => .slice s.a2 (facE e n below).length s.c2) (fun s => [.row g t o A [.int .i64 (repE e n).clock, .slice s.a (repE e n).entries.length s.c] B, .ow OEntry 74 (.slice s.a (repE e n).entries.length s.c) (repE e n).entries s.F, .ow EInt 3 (.slice s.a2 (facE e n below).length s.c2) (facE e n below) s.F2]) := by
  refine enter Try.func39 rfl Try.ntmps39 fun w0 => ?_
  refine go ?_; intros
  rename_i gb
  refine cb (fun w st => by
    obtain ⟨F', -, hs⟩ := (st.get (p := .ow OEntry 74 (.slice a e.entries.length c) e.entries F) (by simp)).2.sl weak_Entry
    exact (Efind_f e n _ F').val w (hol1 ⟨_, rfl, _, rfl, hs⟩)) ?_
  refine t_rocel (cs := [.slice a0 below.length c0]) ?_ (by simp)
  rcases findE_or e n with ⟨h, e1, e2, e3⟩ | ⟨e1, e2, e3, e4⟩
  · rw [e1, repE_yes h, facE_yes h]
    have hfx := hf e.entries[atE e n] (List.getElem_mem h)
    refine go ?_; intros
    refine t_shal one_OEntry rfl fun ys Fy Gy hyl hym => ?_
    generalize atE e n = i at *
    generalize hx : e.entries[i] = x at *
    refine t_fcut i h hyl hym fun G1 Gi G2 => ?_
    rw [hx]
    refine openOEntry ?_
    rintro a5 c5 F5 ev l5
    have hyi : ys[i] = [.int .i64 x.number, .slice a5 x.faces.length c5, .int .i64 x.untl] := by simpa using ev
    refine focF (m := 3) (scal_EC 3) i ?_ (by repeat (first | exact .here | apply Pick.there)) rfl (by omega)
    rintro _ g2 A2 cs B2 rfl rfl hr hH
    obtain ⟨rfl, -⟩ := hr w0
    rw [hyi]
    refine go ?_; intros
    refine cf (DelInt_f 68 [] [ptr gb 0 0] [.cel gb 0 [.slice a0 below.length c0], .sl EInt (.slice a0 below.length c0) below F0] rfl x.faces a5 c5 F5 (fun z => !decide (z ∈ below)) (by kernel_rfl) (by omega) (fun z _ w hA => (repair1_f z gb below a0 c0 F0).val w hA)) fun z _ => ?_
    refine t_app ?_
    have e9 : (x.faces.filter fun z => !!decide (z ∈ below)) = x.faces.filter fun z => decide (z ∈ below) := by simp only [Bool.not_not]
    rw [e9]
    rw [← hyi]
    refine unfF ys[i] hH hr ?_
    rw [List.set_getElem_self]
    refine go ?_; intros
    refine cf (DelE_f ys e.entries.length i _ _ _ _ hyl.symm (by omega) rfl (by omega)) fun q _ => ?_
    refine t_app ?_
    refine go ?_; intros
    refine t_fjoin (E := OEntry) ?_
    refine t_deep (E := OEntry) (m := 3) (ys := ys.take i ++ ys.drop (i + 1)) (cs := (ys.take i).flatten ++ (ys.drop (i + 1)).flatten) (xs := e.entries.take i ++ e.entries.drop (i + 1)) ?_ rfl (by simp) (by simp [hyl])
    rw [show (ys.take i ++ ys.drop (i + 1)).length = (e.entries.take i ++ e.entries.drop (i + 1)).length by simp [hyl]]
    refine ret ⟨_, _, _, _, _, _⟩ trivial rfl
  · rw [e1, repE_no e2, facE_no e2]
    refine go ?_; intros
    refine c_if rfl (fun h5 => ?_) (fun h5 => ?_)
    · rw [if_pos (by omega)]
      refine go ?_; intros
      refine cn (fun w st => Clone_Int _ below F0 w (st.get (p := .sl EInt (.slice a0 below.length c0) below F0) (by simp)).2 (by omega)) fun a6 c6 F6 => ?_
      refine go ?_; intros
      refine ret ⟨_, _, _, _, _, _⟩ trivial rfl
    · rw [if_neg (by omega)]
      refine t_nilow EInt 3 ?_
      refine go ?_; intros
      refine ret ⟨_, _, _, _, _, _⟩ trivial rfl
end Go.Proofs.Ytgogcgkocjpgoaa
/- TakeRequest and TakeRepair, the program's and the reference's. -/
namespace Go.Proofs.Ytgogcgkocjpgoaa
open Go.RowKit
theorem faces_pw {e : Element} (h : goodElement e = true) {x : Entry} (hx : x ∈ e.entries) : x.faces.Pairwise (· < ·) := by
  unfold goodElement at h
  simp only [Bool.and_eq_true] at h
  obtain ⟨i, hi, rfl⟩ := List.getElem_of_mem hx
  have := allUpTo_get h.2 i hi
  rw [entAt_of hi] at this
  simp only [okEntry, Bool.and_eq_true] at this
  exact (rising_pw this.1.2.2.1).1
theorem facS_eq {e : Element} {n : Int} {l : List Int} (h : goodElement e = true) (h2 : rising 1 7 l = true) : facS e n l = facE e n l := by
  unfold facS facE
  cases hx : e.entries[atE e n]? with
  | none => rfl
  | some x => exact (filter_swap (faces_pw h (List.mem_of_getElem? hx)) (rising_pw h2).1).symm
theorem l14Face_f (x : Int) : Fn Try.prog 43 [.int .i64 x] [] [] (fun (_ : Unit) => True) (fun _ => .bool (isFac x)) (fun _ => []) := by
  refine enter Try.func43 rfl Try.ntmps43 fun w0 => ?_
  refine go ?_; intros
  refine ce (fun w s => l1In_c _ _ _ _) ?_
  refine go ?_; intros
  refine ret () trivial rfl
set_option maxRecDepth 100000 in
set_option maxHeartbeats 400000 in
theorem specTakeRequest_f (e : Element) (n : Int) (f : Int) (v : Value) (F : List Nat) : Fn Try.prog 17 [v, .int .i64 n, .int .i64 f] [.isv EElement v e F] [] (fun (_ : Value × List Nat) => True) (fun s => .tuple #[s.1, .bool (resTakeRequest e n f).2.1, .bool (resTakeRequest e n f).2.2]) (fun s => [.own OElement s.1 (resTakeRequest e n f).1 s.2]) := by
  refine enter Try.func17 rfl Try.ntmps17 fun w0 => ?_
  refine t_nilow OEntry 74 ?_
  refine openElement ?_
  rintro a1 c1 F1 rfl l1
  refine go ?_; intros
  refine cb (fun w st => l14Good_c _ e _ w (st.get (p := .isv EElement (.agg #[.int .i64 e.clock, .slice a1 e.entries.length c1]) e F) (by simp))) ?_
  cases g1 : goodElement e
  · skip
    refine go ?_; intros
    rw [resTakeRequest_no (by unfold okTakeRequest; simp [g1])]
    refine clOE ⟨0, []⟩ rfl ?_
    refine ret (_, _) trivial rfl
  obtain ⟨hck, hl5, hf7⟩ := good_room g1
  obtain ⟨hc0, hc1⟩ := isClk_iff.1 hck
  refine go ?_; intros
  refine ce (fun w s => l2Good_c n _) ?_
  cases g2 : isSer n
  · skip
    refine go ?_; intros
    rw [resTakeRequest_no (by unfold okTakeRequest; simp [g1, g2])]
    refine clOE ⟨0, []⟩ rfl ?_
    refine ret (_, _) trivial rfl
  refine go ?_; intros
  refine cf (l14Face_f f) fun _ _ => ?_
  refine t_app ?_
  cases g3 : isFac f
  · skip
    refine go ?_; intros
    rw [resTakeRequest_no (by unfold okTakeRequest; simp [g1, g2, g3])]
    refine clOE ⟨0, []⟩ rfl ?_
    refine ret (_, _) trivial rfl
  rw [resTakeRequest_yes (by unfold okTakeRequest; simp [g1, g2, g3])]
  refine go ?_; intros
  refine cf (l14Request_f e n f _ F (by omega) (fun x hx => by have := hf7 x hx; omega) (by omega) (by omega)) fun z _ => ?_
  refine t_app ?_
  refine openOElement ?_
  rintro a6 c6 F6 e6 l6
  rw [e6]
  refine go ?_; intros
  refine clOE (reqE e n f) rfl ?_
  refine ret (_, _) trivial rfl
set_option maxRecDepth 100000 in
set_option maxHeartbeats 400000 in
theorem TakeRequest_f (e : Element) (n : Int) (f : Int) (v : Value) (F : List Nat) : Fn Try.prog 18 [v, .int .i64 n, .int .i64 f] [.isv EElement v e F] [] (fun (_ : Value × List Nat) => True) (fun s => .tuple #[s.1, .bool (resTakeRequest e n f).2.1, .bool (resTakeRequest e n f).2.2]) (fun s => [.own OElement s.1 (resTakeRequest e n f).1 s.2]) := by
  refine enter Try.func18 rfl Try.ntmps18 fun w0 => ?_
  refine t_nilow OEntry 74 ?_
  refine openElement ?_
  rintro a1 c1 F1 rfl l1
  refine go ?_; intros
  refine cb (fun w st => IsValidElement_c _ e _ w (st.get (p := .isv EElement (.agg #[.int .i64 e.clock, .slice a1 e.entries.length c1]) e F) (by simp))) ?_
  cases g1 : goodElement e
  · skip
    refine go ?_; intros
    rw [resTakeRequest_no (by unfold okTakeRequest; simp [g1])]
    refine clOE ⟨0, []⟩ rfl ?_
    refine ret (_, _) trivial rfl
  obtain ⟨hck, hl5, hf7⟩ := good_room g1
  obtain ⟨hc0, hc1⟩ := isClk_iff.1 hck
  refine go ?_; intros
  refine ce (fun w s => IsSerial_c n _) ?_
  cases g2 : isSer n
  · skip
    refine go ?_; intros
    rw [resTakeRequest_no (by unfold okTakeRequest; simp [g1, g2])]
    refine clOE ⟨0, []⟩ rfl ?_
    refine ret (_, _) trivial rfl
  refine go ?_; intros
  refine ce (fun w s => isFace_c f _) ?_
  cases g3 : isFac f
  · skip
    refine go ?_; intros
    rw [resTakeRequest_no (by unfold okTakeRequest; simp [g1, g2, g3])]
    refine clOE ⟨0, []⟩ rfl ?_
    refine ret (_, _) trivial rfl
  rw [resTakeRequest_yes (by unfold okTakeRequest; simp [g1, g2, g3])]
  refine go ?_; intros
  refine cv (fun w st => Element_clone_c _ e _ w (st.get (p := .isv EElement (.agg #[.int .i64 e.clock, .slice a1 e.entries.length c1]) e F) (by simp)) (by omega) (fun x hx => Nat.le_trans (hf7 x hx) (by decide))) fun u FU => ?_
  refine openOElement ?_
  rintro a6 c6 F6 rfl l6
  refine go ?_; intros
  refine cf (Erequest_f e n f _ _ _ _ _ a6 c6 F6 (by omega) (fun x hx => ⟨by have := hf7 x hx; omega, faces_pw g1 hx⟩) (by omega) (by omega)) fun z _ => ?_
  refine t_app ?_
  refine go ?_; intros
  refine clOE (reqE e n f) rfl ?_
  refine ret (_, _) trivial rfl
set_option maxRecDepth 100000 in
set_option maxHeartbeats 400000 in
theorem specTakeRepair_f (e : Element) (n : Int) (below : List Int) (a0 : Option Addr) (c0 : Nat) (F0 : List Nat) (v : Value) (F : List Nat) : Fn Try.prog 7 [v, .int .i64 n, .slice a0 below.length c0] [.isv EElement v e F, .sl EInt (.slice a0 below.length c0) below F0] [] (fun (_ : RepS) => True) (fun s => .tuple #[s.v, .slice s.a (resTakeRepair e n below).2.1.length s.c, .bool (resTakeRepair e n below).2.2]) (fun s => [.own OElement s.v (resTakeRepair e n below).1 s.F, .ow EInt 3 (.slice s.a (resTakeRepair e n below).2.1.length s.c) (resTakeRepair e n below).2.1 s.G]) := by
  refine enter Try.func7 rfl Try.ntmps7 fun w0 => ?_
  refine t_nilow OEntry 74 ?_
  refine openElement ?_
  rintro a1 c1 F1 rfl l1
  refine go ?_; intros
  refine cb (fun w st => l14Good_c _ e _ w (st.get (p := .isv EElement (.agg #[.int .i64 e.clock, .slice a1 e.entries.length c1]) e F) (by simp))) ?_
  cases g1 : goodElement e
  · skip
    refine go ?_; intros
    refine t_emp EInt ?_
    rw [resTakeRepair_no (by unfold okTakeRepair; simp [g1])]
    refine clOE ⟨0, []⟩ rfl ?_
    refine ret ⟨_, _, _, _, _⟩ trivial rfl
  obtain ⟨hck, hl5, hf7⟩ := good_room g1
  obtain ⟨hc0, hc1⟩ := isClk_iff.1 hck
  refine go ?_; intros
  refine ce (fun w s => l2Good_c n _) ?_
  cases g2 : isSer n
  · skip
    refine go ?_; intros
    refine t_emp EInt ?_
    rw [resTakeRepair_no (by unfold okTakeRepair; simp [g1, g2])]
    refine clOE ⟨0, []⟩ rfl ?_
    refine ret ⟨_, _, _, _, _⟩ trivial rfl
  refine go ?_; intros
  refine cb (fun w st => l14Faces_c _ below F0 w (st.get (p := .sl EInt (.slice a0 below.length c0) below F0) (by simp)).2) ?_
  cases g3 : rising 1 7 below
  · skip
    refine go ?_; intros
    refine t_emp EInt ?_
    rw [resTakeRepair_no (by unfold okTakeRepair; simp [g1, g2, g3])]
    refine clOE ⟨0, []⟩ rfl ?_
    refine ret ⟨_, _, _, _, _⟩ trivial rfl
  have hb7 := rising_len g3
  have hb8 : below.length ≤ 1000 := by rcases hb7 with h | h; omega; rw [h]; decide
  rw [resTakeRepair_yes (by unfold okTakeRepair; simp [g1, g2, g3])]
  refine go ?_; intros
  refine cf (l14Repair_f e n below _ F a0 c0 F0 (by omega) (fun x hx => by have := hf7 x hx; omega) (by omega)) fun z _ => ?_
  refine t_app ?_
  rw [facS_eq g1 g3]
  refine openOElement ?_
  rintro a6 c6 F6 e6 l6
  rw [e6]
  refine go ?_; intros
  refine clOE (repE e n) rfl ?_
  refine ret ⟨_, _, _, _, _⟩ trivial rfl
set_option maxRecDepth 100000 in
set_option maxHeartbeats 400000 in
theorem TakeRepair_f (e : Element) (n : Int) (below : List Int) (a0 : Option Addr) (c0 : Nat) (F0 : List Nat) (v : Value) (F : List Nat) : Fn Try.prog 10 [v, .int .i64 n, .slice a0 below.length c0] [.isv EElement v e F, .sl EInt (.slice a0 below.length c0) below F0] [] (fun (_ : RepS) => True) (fun s => .tuple #[s.v, .slice s.a (resTakeRepair e n below).2.1.length s.c, .bool (resTakeRepair e n below).2.2]) (fun s => [.own OElement s.v (resTakeRepair e n below).1 s.F, .ow EInt 3 (.slice s.a (resTakeRepair e n below).2.1.length s.c) (resTakeRepair e n below).2.1 s.G]) := by
  refine enter Try.func10 rfl Try.ntmps10 fun w0 => ?_
  refine t_nilow OEntry 74 ?_
  refine t_nilow EInt 3 ?_
  refine openElement ?_
  rintro a1 c1 F1 rfl l1
  refine go ?_; intros
  refine cb (fun w st => IsValidElement_c _ e _ w (st.get (p := .isv EElement (.agg #[.int .i64 e.clock, .slice a1 e.entries.length c1]) e F) (by simp))) ?_
  cases g1 : goodElement e
  · skip
    refine go ?_; intros
    rw [resTakeRepair_no (by unfold okTakeRepair; simp [g1])]
    refine clOE ⟨0, []⟩ rfl ?_
    refine ret ⟨_, _, _, _, _⟩ trivial rfl
  obtain ⟨hck, hl5, hf7⟩ := good_room g1
  obtain ⟨hc0, hc1⟩ := isClk_iff.1 hck
  refine go ?_; intros
  refine ce (fun w s => IsSerial_c n _) ?_
  cases g2 : isSer n
  · skip
    refine go ?_; intros
    rw [resTakeRepair_no (by unfold okTakeRepair; simp [g1, g2])]
    refine clOE ⟨0, []⟩ rfl ?_
    refine ret ⟨_, _, _, _, _⟩ trivial rfl
  refine go ?_; intros
  refine ce (fun w st => areFaces_c _ below F0 w (st.get (p := .sl EInt (.slice a0 below.length c0) below F0) (by simp)).2) ?_
  cases g3 : rising 1 7 below
  · skip
    refine go ?_; intros
    rw [resTakeRepair_no (by unfold okTakeRepair; simp [g1, g2, g3])]
    refine clOE ⟨0, []⟩ rfl ?_
    refine ret ⟨_, _, _, _, _⟩ trivial rfl
  have hb7 := rising_len g3
  have hb8 : below.length ≤ 1000 := by rcases hb7 with h | h; omega; rw [h]; decide
  rw [resTakeRepair_yes (by unfold okTakeRepair; simp [g1, g2, g3])]
  refine go ?_; intros
  refine cv (fun w st => Element_clone_c _ e _ w (st.get (p := .isv EElement (.agg #[.int .i64 e.clock, .slice a1 e.entries.length c1]) e F) (by simp)) (by omega) (fun x hx => Nat.le_trans (hf7 x hx) (by decide))) fun u FU => ?_
  refine openOElement ?_
  rintro a6 c6 F6 rfl l6
  refine go ?_; intros
  refine cf (Erepair_f e n below _ _ _ _ _ a6 c6 F6 a0 c0 F0 (by omega) (fun x hx => by have := hf7 x hx; omega) (by omega)) fun z _ => ?_
  refine t_app ?_
  refine go ?_; intros
  refine clOE (repE e n) rfl ?_
  refine ret ⟨_, _, _, _, _⟩ trivial rfl
end Go.Proofs.Ytgogcgkocjpgoaa
/- Lists of numbers, compared by the laws. -/
namespace Go.Proofs.Ytgogcgkocjpgoaa
open Go.RowKit
theorem has_succ {l : List Int} {k : Nat} {n : Int} (h : k < l.length) (hp : (l.take k).contains n = false) (hn : ¬ l[k] = n) : (l.take (k + 1)).contains n = false := by
  rw [← List.take_append_getElem h]
  rw [Bool.eq_false_iff] at hp ⊢
  intro hc
  rw [List.contains_iff_mem, List.mem_append] at hc
  rcases hc with hc | hc
  · exact hp (List.contains_iff_mem.2 hc)
  · exact hn (List.mem_singleton.1 hc).symm
set_option maxRecDepth 100000 in
theorem vHas_f (v : Value) (xs : List Int) (F : List Nat) (n : Int) : Fn Try.prog 25 [v, .int .i64 n] [.sl EInt v xs F] [] (fun (_ : Unit) => True) (fun _ => .bool (xs.contains n)) (fun _ => []) := by
  refine enter Try.func25 rfl Try.ntmps25 fun w0 => ?_
  refine t_sl (E := EInt) (v := v) (xs := xs) (F := F) ?_
  rintro a c rfl l1 l2
  refine go ?_; intros
  refine c_loopR [0, 1, 4] (fun k : Nat => [(5, .int .i64 k)]) (fun k => k ≤ xs.length ∧ (xs.take k).contains n = false) (fun k => xs.length - k) 0 ⟨Nat.zero_le _, by simp⟩ fun k hk => ?_
  obtain ⟨hk, hc⟩ := hk
  refine go ?_; intros
  refine c_if rfl (fun h3 => ?_) (fun h3 => ?_)
  · have hk3 : k < xs.length := by omega
    refine at_int (xs := xs) k ?_
    rintro hi b o e
    rw [e]
    refine go ?_; intros
    refine c_if rfl (fun h4 => ?_) (fun h4 => ?_)
    · refine go ?_; intros
      refine ret () trivial ?_
      rw [show xs.contains n = true from List.contains_iff_mem.2 (h4 ▸ List.getElem_mem hk3)]
      rfl
    refine go ?_; intros
    refine n_lp (k + 1) ⟨hk3, has_succ hk3 hc h4⟩ (by omega)
  · have hkl : k = xs.length := by omega
    subst hkl
    rw [List.take_length] at hc
    rw [hc]
    refine go ?_; intros
    refine ret () trivial rfl
set_option maxRecDepth 100000 in
theorem vInts_f (v v2 : Value) (xs : List Int) (F F2 : List Nat) : Fn Try.prog 26 [v, v2] [.sl EInt v xs F, .sl EInt v2 xs F2] [] (fun (_ : Unit) => True) (fun _ => .bool true) (fun _ => []) := by
  refine enter Try.func26 rfl Try.ntmps26 fun w0 => ?_
  refine t_sl (v := v) (xs := xs) (F := F) ?_
  rintro a c rfl l1 l2
  refine t_sl (v := v2) (xs := xs) (F := F2) ?_
  rintro a2 c2 rfl l3 l4
  refine go ?_; intros
  refine c_if rfl (fun h => ?_) (fun h => ?_)
  · exact absurd rfl h
  refine go ?_; intros
  refine c_loopR [0, 1, 4] (fun k : Nat => [(5, .int .i64 k)]) (fun k => k ≤ xs.length) (fun k => xs.length - k) 0 (Nat.zero_le _) fun k hk => ?_
  refine go ?_; intros
  refine c_if rfl (fun h3 => ?_) (fun h3 => ?_)
  · have hk3 : k < xs.length := by omega
    refine at_int (a := a) (xs := xs) k ?_
    rintro hi b o e
    rw [e]
    refine at_int (a := a2) (xs := xs) k ?_
    rintro hi2 b2 o2 e2
    rw [e2]
    refine goN ?_; intros
    refine d_start [0, 1] [] ?_
    refine dt 0 ?_
    refine dt 1 ?_
    refine dt 2 ?_
    refine dt 3 ?_
    refine dt 4 ?_
    refine dt 5 ?_
    refine dt 6 ?_
    refine dt 7 ?_
    refine dt 8 ?_
    refine dd ?_
    refine go ?_; intros
    refine c_if rfl (fun h4 => ?_) (fun h4 => ?_)
    · exact absurd rfl h4
    refine go ?_; intros
    refine n_lp (k + 1) hk3 (by omega)
  · refine go ?_; intros
    refine ret () trivial rfl
end Go.Proofs.Ytgogcgkocjpgoaa
/- Elements: compared, looked at. -/
namespace Go.Proofs.Ytgogcgkocjpgoaa
open Go.RowKit
def facesE (e : Element) (n : Int) : List Int := match e.entries[atE e n]? with
  | some x => x.faces
  | none => []
def resFaces (e : Element) (n : Int) : List Int × Bool := if goodElement e && isSer n then (facesE e n, true) else ([], false)
theorem resFaces_no {e : Element} {n : Int} (h : (goodElement e && isSer n) = false) : resFaces e n = ([], false) := by unfold resFaces; rw [h]; rfl
set_option maxRecDepth 100000 in
theorem FacesFor_f (e : Element) (n : Int) (v : Value) (F : List Nat) : Fn Try.prog 24 [v, .int .i64 n] [.isv EElement v e F] [] (fun (_ : Option Addr × Nat × List Nat) => True) (fun s => .tuple #[.slice s.1 (resFaces e n).1.length s.2.1, .bool (resFaces e n).2]) (fun s => [.ow EInt 3 (.slice s.1 (resFaces e n).1.length s.2.1) (resFaces e n).1 s.2.2]) := by
  refine enter Try.func24 rfl Try.ntmps24 fun w0 => ?_
  refine t_nilow EInt 3 ?_
  refine openElement ?_
  rintro a1 c1 F1 rfl l1
  refine go ?_; intros
  refine cb (fun w st => IsValidElement_c _ e _ w (st.get (p := .isv EElement (.agg #[.int .i64 e.clock, .slice a1 e.entries.length c1]) e F) (by simp))) ?_
  cases g1 : goodElement e
  · skip
    rw [resFaces_no (by simp [g1])]
    refine go ?_; intros
    refine ret (_, _, _) trivial rfl
  obtain ⟨hck, hl5, hf7⟩ := good_room g1
  refine go ?_; intros
  refine ce (fun w s => IsSerial_c n _) ?_
  cases g2 : isSer n
  · skip
    rw [resFaces_no (by simp [g1, g2])]
    refine go ?_; intros
    refine ret (_, _, _) trivial rfl
  refine go ?_; intros
  refine cf (Efind_f e n _ F) fun _ _ => ?_
  refine t_app ?_
  rw [show resFaces e n = (facesE e n, true) by unfold resFaces; rw [g1, g2]; rfl]
  rcases findE_or e n with ⟨h, e1, e2, e3⟩ | ⟨e1, e2, e3, e4⟩
  · have hfx := hf7 e.entries[atE e n] (List.getElem_mem h)
    rw [e1, show facesE e n = e.entries[atE e n].faces by unfold facesE; rw [List.getElem?_eq_getElem h]]
    refine atEntry (xs := e.entries) (atE e n) ?_
    rintro hi b o a5 c5 F5 e6 l5
    rw [e6]
    refine go ?_; intros
    refine cn (fun w st => Clone_Int _ e.entries[atE e n].faces F5 w (st.get (p := .sl EInt (.slice a5 e.entries[atE e n].faces.length c5) e.entries[atE e n].faces F5) (by simp)).2 (by omega)) fun a6 c6 F6 => ?_
    refine go ?_; intros
    refine ret (_, _, _) trivial rfl
  · rw [e1, show facesE e n = [] by unfold facesE; rw [e2]]
    refine go ?_; intros
    refine ret (_, _, _) trivial rfl
set_option maxRecDepth 100000 in
theorem specFacesFor_f (e : Element) (n : Int) (v : Value) (F : List Nat) : Fn Try.prog 29 [v, .int .i64 n] [.isv EElement v e F] [] (fun (_ : Option Addr × Nat × List Nat) => True) (fun s => .tuple #[.slice s.1 (resFaces e n).1.length s.2.1, .bool (resFaces e n).2]) (fun s => [.ow EInt 3 (.slice s.1 (resFaces e n).1.length s.2.1) (resFaces e n).1 s.2.2]) := by
  refine enter Try.func29 rfl Try.ntmps29 fun w0 => ?_
  refine openElement ?_
  rintro a1 c1 F1 rfl l1
  refine go ?_; intros
  refine cb (fun w st => l14Good_c _ e _ w (st.get (p := .isv EElement (.agg #[.int .i64 e.clock, .slice a1 e.entries.length c1]) e F) (by simp))) ?_
  cases g1 : goodElement e
  · skip
    rw [resFaces_no (by simp [g1])]
    refine go ?_; intros
    refine t_emp EInt ?_
    refine ret (_, _, _) trivial rfl
  obtain ⟨hck, hl5, hf7⟩ := good_room g1
  refine go ?_; intros
  refine ce (fun w s => l2Good_c n _) ?_
  cases g2 : isSer n
  · skip
    rw [resFaces_no (by simp [g1, g2])]
    refine go ?_; intros
    refine t_emp EInt ?_
    refine ret (_, _, _) trivial rfl
  refine go ?_; intros
  refine cf (l14Find_f e n _ F) fun _ _ => ?_
  refine t_app ?_
  rw [show resFaces e n = (facesE e n, true) by unfold resFaces; rw [g1, g2]; rfl]
  rcases findE_or e n with ⟨h, e1, e2, e3⟩ | ⟨e1, e2, e3, e4⟩
  · have hfx := hf7 e.entries[atE e n] (List.getElem_mem h)
    rw [e1, show facesE e n = e.entries[atE e n].faces by unfold facesE; rw [List.getElem?_eq_getElem h]]
    refine atEntry (xs := e.entries) (atE e n) ?_
    rintro hi b o a5 c5 F5 e6 l5
    rw [e6]
    refine go ?_; intros
    refine cn (fun w st => l1Own_c _ e.entries[atE e n].faces F5 w (st.get (p := .sl EInt (.slice a5 e.entries[atE e n].faces.length c5) e.entries[atE e n].faces F5) (by simp)).2 (by omega)) fun a6 c6 F6 => ?_
    refine go ?_; intros
    refine ret (_, _, _) trivial rfl
  · rw [e1, show facesE e n = [] by unfold facesE; rw [e2]]
    refine go ?_; intros
    refine t_emp EInt ?_
    refine ret (_, _, _) trivial rfl

theorem specValidE_f (e : Element) (v : Value) (F : List Nat) : Fn Try.prog 23 [v] [.isv EElement v e F] [] (fun (_ : Unit) => True) (fun _ => .bool (goodElement e)) (fun _ => []) := by
  refine enter Try.func23 rfl Try.ntmps23 fun w0 => ?_
  refine openElement ?_
  rintro a1 c1 F1 rfl l1
  refine go ?_; intros
  refine cb (fun w st => l14Good_c _ e _ w (st.get (p := .isv EElement (.agg #[.int .i64 e.clock, .slice a1 e.entries.length c1]) e F) (by simp))) ?_
  refine go ?_; intros
  refine ret () trivial rfl
set_option maxRecDepth 100000 in
theorem vElement_f (v v2 : Value) (e : Element) (F F2 : List Nat) : Fn Try.prog 21 [v, v2] [.isv EElement v e F, .isv EElement v2 e F2] [] (fun (_ : Unit) => True) (fun _ => .bool true) (fun _ => []) := by
  refine enter Try.func21 rfl Try.ntmps21 fun w0 => ?_
  refine openElement (v := v) (x := e) (F := F) ?_
  rintro a1 c1 F3 rfl l1
  unfold maxLen at l1
  refine openElement (v := v2) (x := e) (F := F2) ?_
  rintro a2 c2 F4 rfl l2
  refine go ?_; intros
  refine wg_if rfl rfl (fun h1 => ?_) (fun h1 => ?_)
  · exact absurd rfl h1
  refine go ?_; intros
  refine c_if rfl (fun h2 => ?_) (fun h2 => ?_)
  · exact absurd rfl h2
  refine go ?_; intros
  refine c_loopR [2, 3, 4] (fun k : Nat => [(5, .int .i64 (k : Nat))]) (fun k => k ≤ e.entries.length) (fun k => e.entries.length - k) 0 (Nat.zero_le _) fun k hk => ?_
  refine go ?_; intros
  refine c_if rfl (fun h3 => ?_) (fun h3 => ?_)
  · have hk3 : k < e.entries.length := by omega
    refine atEntry (a := a1) (xs := e.entries) k ?_
    rintro hi b o a5 c5 F5 e6 l5
    rw [e6]
    refine atEntry (a := a2) (xs := e.entries) k ?_
    rintro hi2 b2 o2 a7 c7 F7 e8 l7
    rw [e8]
    refine go ?_; intros
    refine d_start [0, 2, 4, 5] [] ?_
    refine dt 0 ?_
    refine dt 1 ?_
    refine dt 2 ?_
    refine dt 3 ?_
    refine dt 4 ?_
    refine dt 5 ?_
    refine dt 6 ?_
    refine dt 7 ?_
    refine dt 8 ?_
    refine dt 9 ?_
    refine dO2 10 11 (by kernel_rfl) (by rw [List.getElem?_toArray]; rfl) (by rw [List.getElem?_toArray]; rfl) ?_ ?_
    · apply o_alloc; rfl; intro _
      refine dk ?_
      refine dO 11 (by kernel_rfl) (by rw [List.getElem?_toArray]; rfl) ?_
      apply o_alloc; rfl; intro _
      refine dk ?_
      refine dO 12 (by kernel_rfl) (by rw [List.getElem?_toArray]; rfl) ?_
      apply o_st; rfl; rfl; rfl; (first | exact AggC.s | exact OneC.s); rfl; exact rplE; exact putE; rfl
      refine dk ?_
      refine dO 13 (by kernel_rfl) (by rw [List.getElem?_toArray]; rfl) ?_
      apply o_st; rfl; rfl; rfl; (first | exact AggC.s | exact OneC.s); rfl; exact rplE; exact putE; rfl
      refine dk ?_
      refine dd ?_
      refine go ?_; intros
      refine wg_if rfl rfl (fun h4 => ?_) (fun h4 => ?_)
      · exact absurd rfl h4
      refine go ?_; intros
      refine wg_if rfl rfl (fun h5 => ?_) (fun h5 => ?_)
      · exact absurd rfl h5
      refine go ?_; intros
      refine cf (vInts_f _ _ e.entries[k].faces F5 F7) fun _ _ => ?_
      refine t_app ?_
      refine go ?_; intros
      refine n_lp (k + 1) (by omega) (by omega)
    · apply o_alloc; rfl; intro _
      refine dk ?_
      refine dO 10 (by kernel_rfl) (by rw [List.getElem?_toArray]; rfl) ?_
      apply o_alloc; rfl; intro _
      refine dk ?_
      refine dO 12 (by kernel_rfl) (by rw [List.getElem?_toArray]; rfl) ?_
      apply o_st; rfl; rfl; rfl; (first | exact AggC.s | exact OneC.s); rfl; exact rplE; exact putE; rfl
      refine dk ?_
      refine dO 13 (by kernel_rfl) (by rw [List.getElem?_toArray]; rfl) ?_
      apply o_st; rfl; rfl; rfl; (first | exact AggC.s | exact OneC.s); rfl; exact rplE; exact putE; rfl
      refine dk ?_
      refine dd ?_
      refine go ?_; intros
      refine wg_if rfl rfl (fun h4 => ?_) (fun h4 => ?_)
      · exact absurd rfl h4
      refine go ?_; intros
      refine wg_if rfl rfl (fun h5 => ?_) (fun h5 => ?_)
      · exact absurd rfl h5
      refine go ?_; intros
      refine cf (vInts_f _ _ e.entries[k].faces F5 F7) fun _ _ => ?_
      refine t_app ?_
      refine go ?_; intros
      refine n_lp (k + 1) (by omega) (by omega)
  · refine go ?_; intros
    refine ret () trivial rfl
end Go.Proofs.Ytgogcgkocjpgoaa
/- Elements: bounds on marks; plain. -/
namespace Go.Proofs.Ytgogcgkocjpgoaa
open Go.RowKit
theorem putI_len (l : List Int) (n : Int) : (putI l n).length ≤ l.length + 1 := by
  unfold putI
  split
  · omega
  · simp only [List.length_append, List.length_take, List.length_cons, List.length_drop]; omega
end Go.Proofs.Ytgogcgkocjpgoaa
/- '[]byte' of a string, a byte stored, and back. -/
namespace Go.Proofs.Ytgogcgkocjpgoaa
open Go.RowKit
/-- a byte aS data -/
def EByte : Elem Int where
  sz := 1
  rep _ cs z F := cs = [.int .u8 z] ∧ 0 ≤ z ∧ z ≤ 255 ∧ F = []
  len h := by simp [h.1]
  lt h := by simp [h.2.2.2]
  frame h _ := h
/-- the bytes of l lie in block g -/
def ByteRow (w : World) (g : Nat) (l : List UInt8) : Prop :=
  g < w.heap.size ∧ ∀ j (hj : j < l.length), w.cell? ⟨g, j, none⟩ = some (.int .u8 (l[j].toNat : Int)) ∧ w.frozen? ⟨g, j, none⟩ = false
theorem ByteRow.below {w w' g l} (h : ByteRow w g l) (hb : Below w.heap.size w w') : ByteRow w' g l :=
  ⟨Nat.lt_of_lt_of_le h.1 hb.size, fun j hj => ⟨(hb.cell (p := ⟨g, j, none⟩) h.1).trans (h.2 j hj).1, (hb.frozen (p := ⟨g, j, none⟩) h.1).trans (h.2 j hj).2⟩⟩
theorem ByteRow.set {w g l} (h : ByteRow w g l) (k : Nat) (b : UInt8) (hk : k < l.length) : ByteRow (w.setCell ⟨g, k, none⟩ (.int .u8 (b.toNat : Int))) g (l.set k b) := by
  refine ⟨by simp [h.1], fun j hj => ?_⟩
  rw [List.length_set] at hj
  refine ⟨?_, ?_⟩
  · by_cases e : k = j
    · subst e
      rw [World.cell?_setCell_same _ _ _ (h.2 k hk).1]
      simp
    · rw [World.cell?_setCell_other _ _ _ _ (by intro q; cases q; exact e rfl), (h.2 j hj).1]
      simp [List.getElem_set, e]
  · rw [World.frozen?_setCell]; exact (h.2 j hj).2
end Go.Proofs.Ytgogcgkocjpgoaa
