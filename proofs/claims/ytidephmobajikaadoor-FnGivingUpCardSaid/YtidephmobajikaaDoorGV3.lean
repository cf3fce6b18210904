/- Two slots that are the same are equal. -/
import Derived.Test.YtidephmobajikaaDoorGV2
import Derived.Test.YtidephmobajikaaDoorRW10
import Derived.Laws.StructEq
namespace Go.Proofs.YtidephmobajikaaDoor
open Go.RowKit
theorem slot_eq (s : Slot) (w : World) : (Op.equalIn 10000 146 (.agg #[.bool s.hav, .string s.item]) (.agg #[.bool s.hav, .string s.item])).run Tryd.prog w = .ok true w := by
  have u1 := Tryd.underlying4
  have u2 := Tryd.underlying9
  have hS : Tryd.prog.underlying 146 = some (.struct (Tryd.prog.fieldsOf 146)) := by kernel_rfl
  rw [show (10000 : Nat) = 9999 + 1 from rfl, run_equalIn_agg w 9999 146 _ _ hS (by kernel_rfl)]
  have a1 := Tryd.isAgg4
  have a2 := Tryd.isAgg9
  simp only [Program.fieldsOf, Tryd.underlying146]
  go_simp
theorem yd_neSlot {n : Nat} {fr : Fr} {H : List Pc} {x y : Operand} {ty t' : TypeId} {s : Slot} (hx : ev fr x = some (.agg #[.bool s.hav, .string s.item])) (hy : ev fr y = some (.agg #[.bool s.hav, .string s.item])) : Yd Tryd.prog n fr H (.binOp .neq 146 x y t') ty (.bool false) := .mk fun c w d pos aft gd hA _ => by
  have h2 : (eqGuard .neq 146 x y (.agg #[.bool s.hav, .string s.item]) (.agg #[.bool s.hav, .string s.item])).run Tryd.prog w = .ok () w := run_eqGuard_agg w _ _ _ _ _ _ (by kernel_rfl)
  simp only [execOp, hA.ev hx, hA.ev hy, Sem.run_bind, h2, Result.andThen_ok, run_neq_struct, slot_eq, Sem.run_pure]
  rfl
end Go.Proofs.YtidephmobajikaaDoor
