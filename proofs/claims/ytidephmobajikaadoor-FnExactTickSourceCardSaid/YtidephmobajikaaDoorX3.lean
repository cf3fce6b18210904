/- Operations that only compute or read: what they yield. Plain: no program in sight. -/
import Derived.Test.YtidephmobajikaaDoorX2
import Derived.IntWalk
import Derived.Laws.Strings
namespace Go.Proofs.YtidephmobajikaaDoor
open Go.RowKit
/-- a type whose variables take one cell -/
class OneC (P : Program) (t : TypeId) : Prop where
  d : ∃ d, P.underlying t = some d ∧ d.isRow = false
  s : (P.info? t).map (·.size) = some 1
/-- a struct's type, its number of cells -/
class AggC (P : Program) (t : TypeId) (n : outParam Nat) : Prop where
  d : ∃ d, P.underlying t = some d ∧ d.isRow = true
  s : (P.info? t).map (·.size) = some n
/-- field i of a struct's type: where its cells begin, its type, their number -/
class FldC (P : Program) (t : TypeId) (i : Nat) (off : outParam Nat) (ft : outParam TypeId) (n : outParam Nat) : Prop where
  f : ∃ fs f, P.underlying t = some (.struct fs) ∧ fs[i]? = some f ∧ f.offset = off ∧ f.type = ft
  s : (P.info? ft).map (·.size) = some n
  p : n ≠ 0
/-- a slice's type: its elements' type, their number of cells -/
class SlC (P : Program) (t : TypeId) (e : outParam TypeId) (n : outParam Nat) : Prop where
  u : P.underlying t = some (.slice e)
  s : (P.info? e).map (·.size) = some n
class IntC (P : Program) (t : TypeId) (k : outParam IntKind) : Prop where
  u : P.underlying t = some (.int k)
class StrC (P : Program) (t : TypeId) : Prop where
  u : P.underlying t = some .string
class BoolC (P : Program) (t : TypeId) : Prop where
  u : P.underlying t = some .bool
/-- a pointer into a block -/
def ptr (g o j : Nat) : Value := .pointer (some ⟨g, o + j, none⟩)
/-- what an operation yields where only this is known -/
structure Yd (P : Program) (n : Nat) (fr : Fr) (H : List Pc) (o : Op) (ty : TypeId) (v : Value) : Prop where
  h : ∀ (a : Act) (w : World) (d : Option Tmp) (pos : String) (aft : Array Edge) (g : Option (Nat × Bool)), Ag n fr a → Hol H w → (execOp a.eval ⟨d, o, ty, pos, aft, g⟩).run P w = .ok (.value v) w
theorem list_eq_iff (a b : ByteArray) : (a.toList == b.toList) = decide (a = b) := by
  rw [Bool.eq_iff_iff]
  simp only [beq_iff_eq, decide_eq_true_eq, ByteArray.toList_eq]
  exact ⟨fun h => ByteArray.ext (Array.ext' h), fun h => by rw [h]⟩
section
variable {P : Program} {n : Nat} {fr : Fr} {H : List Pc} {ty : TypeId} {v u : Value} {x y z : Operand}
theorem size_of {t : TypeId} {n : Nat} (h : (P.info? t).map (·.size) = some n) (w : World) : (sizeOf t).run P w = .ok n w := by
  obtain ⟨i, hi, hn⟩ := Option.map_eq_some_iff.1 h
  simp [sizeOf, typeInfo, hi, hn]
theorem isAgg_no {t : TypeId} (h : ∃ d, P.underlying t = some d ∧ d.isRow = false) (w : World) : (isAgg t).run P w = .ok false w := by
  obtain ⟨d, hu, hd⟩ := h
  unfold isAgg
  rw [Sem.run_bind, run_underlying hu w]
  cases d <;> simp_all
theorem isAgg_yes {t : TypeId} (h : ∃ d, P.underlying t = some d ∧ d.isRow = true) (w : World) : (isAgg t).run P w = .ok true w := by
  obtain ⟨d, hu, hd⟩ := h
  unfold isAgg
  rw [Sem.run_bind, run_underlying hu w]
  cases d <;> simp_all
theorem yd_move (hx : ev fr x = some v) : Yd P n fr H (.move x) ty v := .mk fun a w d pos aft g hA _ => by
  simp [execOp, hA.ev hx]
theorem yd_assign (hx : ev fr x = some v) : Yd P n fr H (.assign x) ty v := .mk fun a w d pos aft g hA _ => by
  simp [execOp, hA.ev hx]
theorem yd_pick_t (hc : ev fr x = some (.bool true)) (hy : ev fr y = some v) : Yd P n fr H (.pick x y z) ty v := .mk fun a w d pos aft g hA _ => by
  simp [execOp, hA.ev hc, hA.ev hy, asBool]
theorem yd_pick_f (hc : ev fr x = some (.bool false)) (hz : ev fr z = some v) : Yd P n fr H (.pick x y z) ty v := .mk fun a w d pos aft g hA _ => by
  simp [execOp, hA.ev hc, hA.ev hz, asBool]
theorem row_cell {w : World} {g t o j : Nat} {A cs B : List Value} (h : (Pc.row g t o A cs B).P w) (hv : cs[j]? = some v) : w.cell? ⟨g, o + j, none⟩ = some v := by
  obtain ⟨rfl, h⟩ := h
  rw [h.cellMid rfl (List.getElem?_eq_some_iff.1 hv).1]; exact hv
theorem row_range {w : World} {g t o : Nat} {A cs B : List Value} (h : (Pc.row g t o A cs B).P w) : w.rangeAt g o cs := fun _ _ hv => row_cell h hv
theorem row_there {w : World} {g t o : Nat} {A cs B : List Value} (h : (Pc.row g t o A cs B).P w) : w.there g o cs.length := fun j hj =>
  ⟨by rw [row_cell h (List.getElem?_eq_getElem hj)]; rfl, h.2.frozen _⟩
theorem load_one {t : TypeId} [hT : OneC P t] {w : World} {a : Addr} (h : w.cell? a = some v) : (Instr.loadAt t (.pointer (some a))).run P w = .ok v w := by
  simp [Instr.loadAt, Instr.sureAddr, loadVar, isAgg_no hT.d, h]
theorem yd_ld {t g o j tt : Nat} {A cs B : List Value} [OneC P t] (hx : ev fr x = some (ptr g o j)) (hm : Pc.row g tt o A cs B ∈ H) (hv : cs[j]? = some v) : Yd P n fr H (.load t x) ty v := .mk fun a w d pos aft gd hA hH => by
  simp [execOp, hA.ev hx, ptr, load_one (row_cell (hH _ hm) hv)]
theorem yd_ldc {t b o j : Nat} {cs : List Value} [OneC P t] (hx : ev fr x = some (ptr b o j)) (hm : Pc.cel b o cs ∈ H) (hv : cs[j]? = some v) : Yd P n fr H (.load t x) ty v := .mk fun a w d pos aft gd hA hH => by
  simp [execOp, hA.ev hx, ptr, load_one ((hH _ hm).2 j v hv)]
/-- a stretch of a list -/
inductive Cut : List Value → Nat → Nat → List Value → Prop
  | zero {l} : Cut l 0 0 []
  | one {x l m r} : Cut l 0 m r → Cut (x :: l) 0 (m + 1) (x :: r)
  | skip {x l j m r} : Cut l j m r → Cut (x :: l) (j + 1) m r
theorem Cut.get {l j m r} (h : Cut l j m r) : r.length = m ∧ ∀ (i : Nat) u, r[i]? = some u → l[j + i]? = some u := by
  induction h with
  | zero => exact ⟨rfl, fun i u h => by simp at h⟩
  | one _ ih =>
    refine ⟨by simp [ih.1], fun i u h => ?_⟩
    cases i with
    | zero => simpa using h
    | succ i => have := ih.2 i u (by simpa using h); simpa [Nat.add_assoc] using this
  | skip _ ih =>
    refine ⟨ih.1, fun i u h => ?_⟩
    have := ih.2 i u h
    rwa [show ∀ a b : Nat, a + 1 + b = a + b + 1 by omega, List.getElem?_cons_succ]
theorem load_agg {t m : Nat} [hT : AggC P t m] {w : World} {b o j : Nat} {cs r : List Value} (h : w.rangeAt b o cs) (hc : Cut cs j m r) : (Instr.loadAt t (.pointer (some ⟨b, o + j, none⟩))).run P w = .ok (.agg r.toArray) w := by
  obtain ⟨d, hu, hd⟩ := hT.d
  exact run_loadAt_mid w b (o + j) t r d (fun i u hu => by rw [Nat.add_assoc]; exact h _ _ (hc.get.2 i u hu)) hu hd (by rw [hT.s, hc.get.1])
theorem yd_lda {t g o j tt m : Nat} {A cs B r : List Value} [AggC P t m] (hx : ev fr x = some (ptr g o j)) (hm : Pc.row g tt o A cs B ∈ H) (hc : Cut cs j m r) : Yd P n fr H (.load t x) ty (.agg r.toArray) := .mk fun a w d pos aft gd hA hH => by
  simp [execOp, hA.ev hx, ptr, load_agg (row_range (hH _ hm)) hc]
theorem yd_ldac {t b o j m : Nat} {cs r : List Value} [AggC P t m] (hx : ev fr x = some (ptr b o j)) (hm : Pc.cel b o cs ∈ H) (hc : Cut cs j m r) : Yd P n fr H (.load t x) ty (.agg r.toArray) := .mk fun a w d pos aft gd hA hH => by
  simp [execOp, hA.ev hx, ptr, load_agg (hH _ hm).2 hc]
theorem yd_fa {t i g o j off ft m : Nat} [hF : FldC P t i off ft m] (hx : ev fr x = some (ptr g o j)) : Yd P n fr H (.fieldAddr t x i) ty (ptr g o (j + off)) := .mk fun a w d pos aft gd hA _ => by
  obtain ⟨fs, f, hu, hf, rfl, rfl⟩ := hF.f
  simp [execOp, hA.ev hx, ptr, Instr.fieldAt, run_underlying hu, hf, Instr.sureAddr, fieldPlace, size_of hF.s, hF.p, Addr.add_lit, Nat.add_assoc]
theorem yd_fld {t i off ft m : Nat} {l : List Value} [hF : FldC P t i off ft m] [hT : OneC P ft] (hx : ev fr x = some (.agg l.toArray)) (hv : l[off]? = some v) : Yd P n fr H (.field t x i) ty v := .mk fun a w d pos aft gd hA _ => by
  obtain ⟨fs, f, hu, hf, rfl, rfl⟩ := hF.f
  simp [execOp, hA.ev hx, Instr.field, run_underlying hu, hf, asAgg, part, isAgg_no hT.d, hv]
theorem yd_flda {t i off ft m m' : Nat} {l r : List Value} [hF : FldC P t i off ft m] [hT : AggC P ft m'] (hx : ev fr x = some (.agg l.toArray)) (hc : Cut l off m' r) : Yd P n fr H (.field t x i) ty (.agg r.toArray) := .mk fun a w d pos aft gd hA _ => by
  obtain ⟨fs, f, hu, hf, rfl, rfl⟩ := hF.f
  have e : l.toArray.extract f.offset (f.offset + m') = r.toArray := by
    obtain ⟨h1, h2⟩ := hc.get
    apply Array.ext'
    simp only [List.extract_toArray, List.extract_eq_take_drop, Nat.add_sub_cancel_left]
    apply List.ext_getElem?
    intro i
    rw [List.getElem?_take]
    split
    · rename_i hi
      have hr : r[i]? = some (r[i]'(by omega)) := List.getElem?_eq_getElem (by omega)
      rw [List.getElem?_drop, hr]; exact h2 i _ hr
    · rw [List.getElem?_eq_none (by omega)]
  simp [execOp, hA.ev hx, Instr.field, run_underlying hu, hf, asAgg, part, isAgg_yes hT.d, size_of hT.s, ← e]
theorem yd_nil {g o j : Nat} (hx : ev fr x = some (ptr g o j)) : Yd P n fr H (.nilCheck x) ty (ptr g o j) := .mk fun a w d pos aft gd hA _ => by
  simp [execOp, hA.ev hx, ptr]
theorem yd_nilf {f : Nat} {l : Array Value} (hx : ev fr x = some (.func (.func f) #[] l)) : Yd P n fr H (.nilCheck x) ty (.func (.func f) #[] l) := .mk fun a w d pos aft gd hA _ => by
  simp [execOp, hA.ev hx]
theorem yd_ix {t e m b o len cp : Nat} {kd : IntKind} {i : Int} [hS : SlC P t e m] (hx : ev fr x = some (.slice (some ⟨b, o, none⟩) len cp)) (hy : ev fr y = some (.int kd i)) (h0 : 0 ≤ i) (h1 : i < len) :
    Yd P n fr H (.indexAddr t x y) ty (ptr b (o + i.toNat * m) 0) := .mk fun a w d pos aft gd hA _ => by
  simp [execOp, hA.ev hx, hA.ev hy, Instr.indexAt, run_underlying hS.u, asIntOf, h0, h1, size_of hS.s, Addr.add_lit, ptr]
theorem yd_ixs {t : Nat} {kd : IntKind} {i : Int} {s : ByteArray} [hS : StrC P t] (hx : ev fr x = some (.string s)) (hy : ev fr y = some (.int kd i)) (h0 : 0 ≤ i) (h1 : i.toNat < s.size) :
    Yd P n fr H (.index t x y) ty (.int .u8 (s[i.toNat]'h1).toNat) := .mk fun a w d pos aft gd hA _ => by
  simp [execOp, hA.ev hx, hA.ev hy, Instr.index, run_underlying hS.u, asIntOf, h0, h1]
theorem yd_ex {i : Nat} {l : List Value} (hx : ev fr x = some (.tuple l.toArray)) (hv : l[i]? = some v) : Yd P n fr H (.extract x i) ty v := .mk fun a w d pos aft gd hA _ => by
  simp [execOp, hA.ev hx, Instr.extract, hv]
theorem yd_not {b : Bool} {t : Nat} (hx : ev fr x = some (.bool b)) : Yd P n fr H (.unOp .not t x) ty (.bool (!b)) := .mk fun a w d pos aft gd hA _ => by
  simp [execOp, hA.ev hx, Op.unary]
theorem yd_notd {p : Prop} {_ : Decidable p} {t : Nat} (hx : ev fr x = some (.bool (decide p))) : Yd P n fr H (.unOp .not t x) ty (.bool (decide (¬ p))) := .mk fun a w d pos aft gd hA _ => by
  simp [execOp, hA.ev hx, Op.unary]
theorem yd_neg {a : Int} {t : Nat} (hx : ev fr x = some (.int .i64 a)) (h0 : -9223372036854775808 ≤ -a) (h1 : -a ≤ 9223372036854775807) : Yd P n fr H (.unOp .neg t x) ty (.int .i64 (-a)) := .mk fun a w d pos aft gd hA _ => by
  simp [execOp, hA.ev hx, Op.unary, Op.intArith, IntWalk.i64_in _ ⟨h0, h1⟩]
section
variable {a b : Int} {t t' : TypeId} (hx : ev fr x = some (.int .i64 a)) (hy : ev fr y = some (.int .i64 b))
include hx hy
theorem yd_add (h0 : -9223372036854775808 ≤ a + b) (h1 : a + b ≤ 9223372036854775807) : Yd P n fr H (.binOp .add t x y t') ty (.int .i64 (a + b)) := .mk fun a w d pos aft gd hA _ => by
  simp [execOp, hA.ev hx, hA.ev hy, eqGuard_add, binOp_add, Op.intArith, IntWalk.i64_in _ ⟨h0, h1⟩]
theorem yd_sub (h0 : -9223372036854775808 ≤ a - b) (h1 : a - b ≤ 9223372036854775807) : Yd P n fr H (.binOp .sub t x y t') ty (.int .i64 (a - b)) := .mk fun a w d pos aft gd hA _ => by
  simp [execOp, hA.ev hx, hA.ev hy, eqGuard_sub, binOp_sub, Op.intArith, IntWalk.i64_in _ ⟨h0, h1⟩]
theorem yd_mul (h0 : -9223372036854775808 ≤ a * b) (h1 : a * b ≤ 9223372036854775807) : Yd P n fr H (.binOp .mul t x y t') ty (.int .i64 (a * b)) := .mk fun a w d pos aft gd hA _ => by
  simp [execOp, hA.ev hx, hA.ev hy, eqGuard_mul, binOp_mul, Op.intArith, IntWalk.i64_in _ ⟨h0, h1⟩]
theorem yd_quo (h0 : 0 ≤ a) (h2 : a ≤ 9223372036854775807) (h1 : 0 < b) : Yd P n fr H (.binOp .quo t x y t') ty (.int .i64 (a / b)) := .mk fun c w d pos aft gd hA _ => by
  have hle : a / b ≤ a := Int.ediv_le_self _ h0
  have hge : 0 ≤ a / b := Int.ediv_nonneg h0 (by omega)
  have hb : b ≠ 0 := by omega
  simp [execOp, hA.ev hx, hA.ev hy, eqGuard_quo, binOp_quo, Op.intDiv, hb, Int.tdiv_eq_ediv_of_nonneg h0, IntWalk.i64_in _ ⟨(by omega : -9223372036854775808 ≤ a / b), (by omega : a / b ≤ 9223372036854775807)⟩]
theorem yd_rem (h0 : 0 ≤ a) (h1 : 0 < b) : Yd P n fr H (.binOp .rem t x y t') ty (.int .i64 (a % b)) := .mk fun c w d pos aft gd hA _ => by
  have hb : b ≠ 0 := by omega
  simp [execOp, hA.ev hx, hA.ev hy, eqGuard_rem, binOp_rem, Op.intDiv, hb, Int.tmod_eq_emod_of_nonneg h0]
end
section
variable {a b : Int} {k : IntKind} {t t' : TypeId} (hx : ev fr x = some (.int k a)) (hy : ev fr y = some (.int k b))
include hx hy
theorem yd_min {ts : Array TypeId} : Yd P n fr H (.call { callee := .builtin .min, args := #[x, y], argTypes := ts }) ty (.int k (min a b)) := .mk fun c w d pos aft gd hA _ => by
  have e : (if b < a then b else a) = min a b := by split <;> omega
  simp [execOp, hA.ev hx, hA.ev hy, resolve, invoke, builtin, run_min_int2, e]
theorem yd_max {ts : Array TypeId} : Yd P n fr H (.call { callee := .builtin .max, args := #[x, y], argTypes := ts }) ty (.int k (max a b)) := .mk fun c w d pos aft gd hA _ => by
  have e : (if a < b then b else a) = max a b := by split <;> omega
  simp [execOp, hA.ev hx, hA.ev hy, resolve, invoke, builtin, run_max_int2, e]
theorem yd_lt : Yd P n fr H (.binOp .lss t x y t') ty (.bool (decide (a < b))) := .mk fun a w d pos aft gd hA _ => by
  simp [execOp, hA.ev hx, hA.ev hy, eqGuard_lss, binOp_lss]
theorem yd_le : Yd P n fr H (.binOp .leq t x y t') ty (.bool (decide (a ≤ b))) := .mk fun a w d pos aft gd hA _ => by
  simp [execOp, hA.ev hx, hA.ev hy, eqGuard_leq, binOp_leq]
theorem yd_gt : Yd P n fr H (.binOp .gtr t x y t') ty (.bool (decide (b < a))) := .mk fun a w d pos aft gd hA _ => by
  simp [execOp, hA.ev hx, hA.ev hy, eqGuard_gtr, binOp_gtr]
theorem yd_ge : Yd P n fr H (.binOp .geq t x y t') ty (.bool (decide (b ≤ a))) := .mk fun a w d pos aft gd hA _ => by
  simp [execOp, hA.ev hx, hA.ev hy, eqGuard_geq, binOp_geq]
theorem yd_eq : Yd P n fr H (.binOp .eql t x y t') ty (.bool (decide (a = b))) := .mk fun a w d pos aft gd hA _ => by
  simp [execOp, hA.ev hx, hA.ev hy, eqGuard_at_int, binOp_eql]; rfl
theorem yd_ne : Yd P n fr H (.binOp .neq t x y t') ty (.bool (decide (¬ a = b))) := .mk fun a w d pos aft gd hA _ => by
  simp [execOp, hA.ev hx, hA.ev hy, eqGuard_at_int, binOp_neq, bne]; rfl
end
section
variable {a b : ByteArray} {t t' : TypeId} (hx : ev fr x = some (.string a)) (hy : ev fr y = some (.string b))
include hx hy
theorem yd_cat (h : a.size + b.size ≤ 9223372036854775807) : Yd P n fr H (.binOp .add t x y t') ty (.string (a ++ b)) := .mk fun c w d pos aft gd hA _ => by
  have : ¬ ((a.size : Int) + b.size > 9223372036854775807) := by omega
  simp [execOp, hA.ev hx, hA.ev hy, eqGuard_add, binOp, Op.stringOp, this]
theorem yd_eqs : Yd P n fr H (.binOp .eql t x y t') ty (.bool (decide (a = b))) := .mk fun c w d pos aft gd hA _ => by
  simp [execOp, hA.ev hx, hA.ev hy, eqGuard_at_string, binOp, Op.stringOp, list_eq_iff a b]
theorem yd_nes : Yd P n fr H (.binOp .neq t x y t') ty (.bool (decide (¬ a = b))) := .mk fun c w d pos aft gd hA _ => by
  simp [execOp, hA.ev hx, hA.ev hy, eqGuard_at_string, binOp, Op.stringOp, list_eq_iff a b]
end
theorem equal_bool {t : TypeId} [hB : BoolC P t] (a b : Bool) (w : World) : (Op.equal t (.bool a) (.bool b)).run P w = .ok (a == b) w := by
  unfold Op.equal
  rw [show Op.maxDepth = 9999 + 1 from rfl]
  unfold Op.equalIn
  rw [Sem.run_bind, run_underlying hB.u w]
  rfl
theorem yd_eqb {a b : Bool} {t t' : TypeId} [hB : BoolC P t] (hx : ev fr x = some (.bool a)) (hy : ev fr y = some (.bool b)) : Yd P n fr H (.binOp .eql t x y t') ty (.bool (decide (a = b))) := .mk fun c w d pos aft gd hA _ => by
  have e : binOp .eql t (.bool a) (.bool b) = (do pure (.bool (← Op.equal t (.bool a) (.bool b)))) := rfl
  simp only [execOp, hA.ev hx, hA.ev hy, eqGuard_at_bool, e, Sem.run_bind, Sem.run_pure, Result.andThen_ok, equal_bool]; cases a <;> cases b <;> rfl
theorem yd_neb {a b : Bool} {t t' : TypeId} [hB : BoolC P t] (hx : ev fr x = some (.bool a)) (hy : ev fr y = some (.bool b)) : Yd P n fr H (.binOp .neq t x y t') ty (.bool (decide (¬ a = b))) := .mk fun c w d pos aft gd hA _ => by
  have e : binOp .neq t (.bool a) (.bool b) = (do pure (.bool (!(← Op.equal t (.bool a) (.bool b))))) := rfl
  simp only [execOp, hA.ev hx, hA.ev hy, eqGuard_at_bool, e, Sem.run_bind, Sem.run_pure, Result.andThen_ok, equal_bool]; cases a <;> cases b <;> rfl
theorem yd_cv {k k' : IntKind} {a : Int} {s t : TypeId} [hS : IntC P s k'] [hD : IntC P t .i64] (hx : ev fr x = some (.int k a)) (h0 : -9223372036854775808 ≤ a) (h1 : a ≤ 9223372036854775807) : Yd P n fr H (.convert s t x) ty (.int .i64 a) := .mk fun c w d pos aft gd hA _ => by
  simp [execOp, hA.ev hx, convert, run_underlying hS.u, run_underlying hD.u, Conv.intToInt, IntWalk.i64_in _ ⟨h0, h1⟩]
theorem yd_len {a : Option Addr} {len cp t e m : Nat} [hS : SlC P t e m] (hx : ev fr x = some (.slice a len cp)) : Yd P n fr H (.call { callee := .builtin .len, args := #[x], argTypes := #[t] }) ty (.int .i64 len) := .mk fun c w d pos aft gd hA _ => by
  simp [execOp, hA.ev hx, resolve, invoke, builtin, Builtin.len_, run_underlying hS.u, goInt]
theorem yd_lens {s : ByteArray} {t : Nat} [hS : StrC P t] (hx : ev fr x = some (.string s)) : Yd P n fr H (.call { callee := .builtin .len, args := #[x], argTypes := #[t] }) ty (.int .i64 s.size) := .mk fun c w d pos aft gd hA _ => by
  simp [execOp, hA.ev hx, resolve, invoke, builtin, run_len_string (h := hS.u), goInt]
theorem yd_slt {t e m i : Nat} {a : Option Addr} {len cp : Nat} {z : Int} [hS : SlC P t e m] (hx : ev fr x = some (.slice a len cp)) (hy : ev fr y = some (.int .i64 z)) (hz : z = (i : Int)) (hi : i ≤ cp) (hc : cp ≤ 9223372036854775807) : Yd P n fr H (.slice t x none (some y) none) ty (.slice a i cp) := .mk fun ac w d pos aft gd hA _ => by
  subst hz
  have he2 : P.elem t = e := by simp [Program.elem, hS.u]
  have h3 : (Instr.sliceAt t (.slice a len cp) none (some (.int .i64 (i : Int))) none).run P w = .ok (.slice a i cp) w := by
    rw [run_sliceAt_slice (h := by rw [he2]; exact hS.u), run_slice_h (ht := by rw [he2]; exact hS.u) (h0 := by omega) (h2 := by omega), he2, size_of hS.s]
    have h0 : a.map (fun b => b.add 0) = a := by cases a <;> simp [Addr.add]
    simp [Result.andThen, sliced, h0]
  simp only [execOp, Option.map_none, Option.map_some, hA.ev hx, hA.ev hy, Sem.run_bind, h3, Result.andThen_ok, Sem.run_pure]
theorem yd_fn {f : Nat} {caps : List Operand} {vs : List Value} (hc : Evs fr caps vs) : Yd P n fr H (.makeFunc (.func f) #[] caps.toArray) ty (.func (.func f) #[] vs.toArray) := .mk fun c w d pos aft gd hA _ => by
  simp [execOp, Instr.makeFunc, hA.evs hc]
end
end Go.Proofs.YtidephmobajikaaDoor
