/- The law FnDelivery: the walk of the law itself out of the contracts of its functions. No condition beyond the form's own reach. Printed by wip/mkstr.py. -/
import Derived.Test.YtbmlecejkacpnaaGreatDoorCards
import Derived.Test.YtbmlecejkacpnaaGreatDoorTie
import Derived.LaidMore
import Derived.Lay
import Derived.SevenTiedAt
import Derived.Stop.Joined
import Derived.Test.YtbmlecejkacpnaaGreatDoorM11
namespace Go.Proofs.YtbmlecejkacpnaaGreatDoor
open Go.RowKit Go.ChangeShapes Go.WideShapes Go.ChangeAt
theorem Ae8 : Acj Tryz.prog Gs 5 := fun h => by
  obtain ⟨n, rfl, _, hw⟩ := DataW.trod_int Tryz.underlying5 h
  have hb := bounds_u8 hw
  exact ⟨n, [], rfl, hb.1, hb.2, rfl⟩
theorem Yl (v0 : Value) (Bl : List Int) (F0 FT : List Nat) (w : World) (h0 : Sl Gs w v0 Bl F0) (hT : (Mt FT).P w) :
    Calls Tryz.prog 3 #[v0] w fun e' w' => e' = .returned (.bool true) ∧ Below w.heap.size w w' := (Aer v0 Bl F0 FT).val w (Qm ⟨by decide, h0⟩ hT)
set_option maxRecDepth 100000 in
theorem Um (os : Os) (Bg : os.Started) (H : Type) (enc : TypeId × Value → H) :
    ReturnsInHanded {} Tryz.checked os 3 .any (fun w args => (Rows.fnDeliverySpec.pre enc Tryz.prog Tryz.f3 Rows.fnDeliveryRow.domain false w args ∧ laidMetH Tryz.prog Rows.fnDeliveryRow.laid w) ∧ sizedMet enc Tryz.prog Tryz.f3 (OpenSpec.ofChange Rows.fnDeliverySpec) false w args)
      (Rows.fnDeliverySpec.post enc Tryz.prog Tryz.f3 false true false false) := by
  have core : ∀ (W : World) (base : Nat) (args : Array Value) (ds gs : List (DataW H)) (before : List MemPlace),
      (∀ (j : Nat) t v, Tryz.f3.params[j]? = some t → args[j]? = some v → Value.okWide Tryz.prog W .any base t v) → DataW.Whole enc Tryz.prog Tryz.f3.params.toList Rows.fnDeliverySpec.vars false W args.toList ds gs before →
      W.ShapedOpen Tryz.prog → laidMetH Tryz.prog Rows.fnDeliveryRow.laid W → Calls Tryz.prog 3 args W fun e W' => ∃ v, e = .returned v ∧ Rows.fnDeliverySpec.post enc Tryz.prog Tryz.f3 false true false false W args v W' := by
    intro W base args ds gs before hval0 hW hsh hL
    have hval : ∀ (j : Nat) t v, Tryz.f3.params[j]? = some t → args[j]? = some v → Value.okWide Tryz.prog W .any base t v := hval0
    have hW' := hW
    obtain ⟨p, q, hA0, hV, rfl, hfz, hnd⟩ := hW
    have hA : DataW.TrodAll enc Tryz.prog W 0 (fun _ => true) true Tryz.f3.params.toList args.toList ds p := hA0
    rw [Tryz.params3] at hA hval
    obtain ⟨v0, d0, rfl, rfl, h0⟩ := trodAll_one hA
    obtain ⟨a0, l0, c0, rfl⟩ := okWide_slice Tryz.underlying22 (hval 0 22 v0 rfl rfl)
    obtain ⟨fuel0, hf0⟩ := h0
    obtain ⟨x0, F0, u0, hu0, hs0⟩ := (Ad0 Tryz.underlying22 (by kernel_rfl) (by decide) Ae8) hf0
    obtain rfl : Value.slice a0 l0 c0 = u0 := by simpa [Value.cells] using hu0
    refine (Yl _ x0 F0 _ W hs0 (Ape hL hsh)).mono fun e W' ⟨he, hB⟩ => ⟨_, he, Aj9 (tb := 4) (by kernel_rfl) ?_ Tryz.underlying4 (by kernel_rfl) rfl rfl hW' hB⟩
    rw [Tryz.params3]
    simp only [List.mem_cons, List.not_mem_nil, or_false, forall_eq]
    exact ⟨by kernel_rfl, of_decide_eq_true (by kernel_rfl)⟩
  refine returnsInHanded_of_calls (C := Tryz.checked) (by kernel_rfl) Bg (by kernel_rfl)
    (ChangeSpec.witness_shaped (enc := enc) (C := Tryz.checked) (os := os) (X := fun w _ => laidMetH Tryz.prog Rows.fnDeliveryRow.laid w) false (World.laidAll Tryz.prog os Rows.fnDeliveryRow.laid) #[.slice none 0 0] 8 (World.laidAll_os _ _ _)
      (World.shaped_of_ZipB (by kernel_rfl) (by kernel_rfl)) (by kernel_rfl) (by kernel_rfl) (by kernel_rfl)
      (by rw [MakeChecks.laidMetH_plain _ _ _ (by kernel_rfl)]; exact laidMet_laidAll _ (by kernel_rfl) (by kernel_rfl))) ?_
  intro w tape i _ hsh _ hok hpre _
  obtain ⟨_, _, _, fn2, hfn2, _, _, _, _, hval⟩ := hok
  obtain rfl : fn2 = Tryz.f3 := Option.some.inj (hfn2.symm.trans Tryz.func3)
  obtain ⟨⟨⟨ds, gs, before, hw, _⟩, hL⟩, _⟩ := hpre
  have hw2 := DataW.Whole.of_heap (w' := w.forCall tape i) (by rfl) hw
  refine (core (w.forCall tape i) w.heap.size i.args ds gs before hval hw2 hsh (hL.of_heap (by rfl))).mono fun e W' ⟨v, he, hp⟩ => ?_
  subst he
  exact ChangeSpec.post_blind hp
theorem Vc : Rows.FnDeliverySaid :=
  OpenClaim.holds_of_wide 3 Tryz.f3 rfl rfl rfl rfl rfl rfl rfl ⟨rfl, rfl, rfl, rfl, rfl⟩ rfl rfl rfl rfl rfl (by kernel_rfl) Tryz.func3 Zt
    (of_decide_eq_true (by kernel_rfl)) (by unfold Func.isWrapper; first | (rw [if_pos (by decide +kernel)]; kernel_rfl) | (rw [if_neg (by decide +kernel)]; exact ⟨rfl, rfl⟩))
    (fun os Bg H enc _ => Um os Bg H enc)
/-- no parameter wants a stand-in; the looks are off -/
theorem Vq (f : FuncId) (fn : Func) (hf : Tryz.pinned.checked.prog.funcNamed "loop.example/g00840/laws.FnDelivery" = some f) (hfn : Tryz.pinned.checked.prog.funcs[f]? = some fn) :
    false = Tryz.pinned.checked.prog.looks [] ∧ ∀ (j : Nat) t, fn.params[j]? = some t → Tryz.pinned.checked.prog.wantsStandIn t = false := by
  obtain rfl : f = 3 := Option.some.inj ((show Tryz.prog.funcNamed "loop.example/g00840/laws.FnDelivery" = some 3 by kernel_rfl).symm.trans hf) |>.symm
  obtain rfl : fn = Tryz.f3 := (Option.some.inj (Tryz.func3.symm.trans hfn)).symm
  refine ⟨by kernel_rfl, fun j t ht => ?_⟩
  rw [Tryz.params3] at ht
  have hm : t ∈ [22] := by simpa using Array.mem_of_getElem? ht
  have hall : ([22].all fun u => !Tryz.prog.wantsStandIn u) = true := by kernel_rfl
  exact (show Tryz.prog.wantsStandIn t = false by simpa using List.all_eq_true.1 hall t hm)
theorem card_FnDelivery : Rows.FnDeliveryCardSaid :=
  Claim7.holds_tied_plain_at .later [] _ _ _ _ Vc (fun _ h => by cases h) (by kernel_rfl) (fun _ h => by cases h) fnDelivery_row_tie rfl ⟨rfl, rfl⟩ (by kernel_rfl) rfl Vq (by kernel_rfl)
end Go.Proofs.YtbmlecejkacpnaaGreatDoor
