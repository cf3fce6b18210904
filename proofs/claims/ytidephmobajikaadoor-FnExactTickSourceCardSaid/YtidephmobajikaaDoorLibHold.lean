/- Walks of Go's generic library functions on slices of impl.Hold. Written by wip/genlib.py. -/
import Derived.Test.YtidephmobajikaaDoorTyHold
import Derived.Test.YtidephmobajikaaDoorOwn3
namespace Go.Proofs.YtidephmobajikaaDoor
open Go.RowKit
set_option maxHeartbeats 800000 in
set_option maxRecDepth 100000 in
theorem IndexFunc_Hold (fid : FuncId) (hbd : Body Tryd.prog fid) (caps : Array Value) (v : Value) (xs : List Hold) (F : List Nat) (p : Hold → Bool) (w : World) (h : Sl EHold w v xs F)
    (hp : ∀ (k : Nat) (hk : k < xs.length) (wr : World) (u : Value) (G : List Nat), Below w.heap.size w wr → IsV EHold wr u xs[k] G → Calls Tryd.prog fid (#[u] ++ caps) wr fun e w' => e = .returned (.bool (p xs[k])) ∧ Below wr.heap.size wr w') :
    Calls Tryd.prog 219 #[v, .func (.func fid) #[] caps] w fun e w' => e = .returned (.int .i64 (fidx p xs)) ∧ Below w.heap.size w w' := by
  obtain ⟨a, cap, rfl⟩ := h.slice
  have hl := h.len
  unfold maxLen at hl
  go_enter Tryd.func219, Tryd.ntmps219
  go_wp2
  go_loopw [5, 8] (fun _ i wr => ∃ k : Nat, k ≤ xs.length ∧ i = .int .i64 k ∧ Hid (∀ j, j < k → ∀ hj : j < xs.length, p xs[j] = false) ∧ Below w.heap.size w wr) (fun _ i _ => xs.length - (intOf i).toNat)
  case atStart => exact ⟨0, Nat.zero_le _, rfl, fun j hj => by omega, Below.refl _ _⟩
  case round =>
    obtain ⟨k, hk, rfl, hz, hB⟩ := hrel
    by_cases hlt : k < xs.length
    · have hz0 := hz; clear hz
      obtain ⟨b, off, _, F1, rfl, hx, -, ja⟩ := (h.below (by decide) hB).at k hlt
      obtain ⟨rfl, rfl⟩ := id hx
      have a0 := ja 0 (by decide)
      have a1 := ja 1 (by decide)
      simp only [show EHold.sz = 2 from rfl, Nat.mul_one, Nat.add_zero, List.getElem?_cons_zero, List.getElem?_cons_succ] at a0 a1
      clear ja
      have hr := hp k hlt wr _ _ hB ⟨_, rfl, hx⟩
      have hp := Lib.hid hp
      cases hpk : p xs[k]
      all_goals
        rw [hpk] at hr
        have hpk := Lib.hid hpk
        have hr := Lib.hid hr
        go_wp2_with fail
        refine hbd.upon hr.out ?_
        rintro e w1 ⟨rfl, hb1⟩
        refine ⟨_, rfl, ?_⟩
        have hB := tr hB hb1 (Nat.le_refl _)
        clear hb1
        go_wp2_with fail
      · exact ⟨⟨k + 1, by omega, by go_num, fun j hj hl => by rcases Nat.lt_or_eq_of_le (Nat.le_of_lt_succ hj) with h | h; exact hz0.out j h hl; subst h; exact hpk.out, hB⟩, by simp [intOf]; omega⟩
      · go_ret
        exact ⟨ret_int (fidx_hit hlt hz0.out hpk.out).symm, hB⟩
    · go_wp2
      go_ret
      exact ⟨ret_int (fidx_none (fun j hj => hz.out j (by omega) hj)).symm, hB⟩
theorem Clone_Hold (v : Value) (xs : List Hold) (F : List Nat) (w : World) (h : Sl EHold w v xs F) (hm : xs.length ≤ 4294967296) :
    Calls Tryd.prog 203 #[v] w (RetNew EHold 195 xs w) := by
  obtain ⟨ao, c, news, Fy, rfl, hl, hfy, hFy, hsrc⟩ := h.src
  have hFl := hfy.lt
  have he := fun w (a : Option Addr) (n c : Nat) => Lib.run_eql_slice_nil (P := Tryd.prog) w 98 _ a n c 0 0 Tryd.underlying98
  go_enter Tryd.func203, Tryd.ntmps203
  rcases hsrc with ⟨rfl, rfl, rfl⟩ | ⟨ad, rfl, hn⟩
  · go_wp2
    go_ret
    exact ⟨.slice none 0 0, [], rfl, .inl ⟨rfl, rfl, rfl⟩, by simp, by simp, Below.refl _ _⟩
  · go_wp2_with (at_builtin; refine wpList_apd one_EHold (by decide) (by rfl) _ _ _ (by rfl) 195 (.agg #[.int .i64 0, .int .i64 0]) 16 Tryd.underlying98 info_Hold rfl (.slice (some ⟨w.heap.size, 0, none⟩) 0 0) [] [w.heap.size] (by rfl) (Ow.empty (Row.made _ _ _)) (Hd.one _) (some ad) xs c (by rfl) news Fy (hfy.frame fun b hb => Below.heap_alloc _ _ _ (hFl b hb)) (.inr ⟨ad, rfl, fun j u hu => kc ((Below.refl _ _).alloc (Nat.le_refl _) _) (hn j u hu)⟩) (fun b hb e => by have := hFl b hb; simp [Value.ownBlock] at e; omega) (by simpa using hl) (by unfold maxLen at hl; simp; omega) ?_)
    intro v2 w2 F2 hA
    go_wp2_with fail
    go_ret
    have hB : Below w.heap.size w w2 := ((Below.refl _ _).alloc (Nat.le_refl _) _).trans (hA.keep.below (by simp) (by simp))
    have hs : ∀ b, v2.ownBlock = some b → w.heap.size ≤ b := fun b hb => by rcases hA.same with e | e <;> rw [e] at hb <;> simp [Value.ownBlock] at hb <;> omega
    refine ⟨v2, F2, rfl, by simpa using hA.ow, hA.ow.scal scal_EHold ▸ ?_, fun b hb => ?_, hB⟩
    · cases v2.ownBlock <;> simp
    · rw [hA.ow.scal scal_EHold] at hb; exact hs b (by simpa using hb)
set_option maxHeartbeats 1600000 in
set_option maxRecDepth 100000 in
theorem DeleteFunc_Hold (fid : FuncId) (hbd : Body Tryd.prog fid) (caps : Array Value) (v : Value) (xs : List Hold) (F : List Nat) (p : Hold → Bool) (w : World) (h : Ow EHold 195 w v xs F) (hn : F.Nodup)
    (hp : ∀ (k : Nat) (hk : k < xs.length) (wr : World) (u : Value) (G : List Nat), Keep F w wr → IsV EHold wr u xs[k] G → Calls Tryd.prog fid (#[u] ++ caps) wr fun e w' => e = .returned (.bool (p xs[k])) ∧ Below wr.heap.size wr w') :
    Calls Tryd.prog 204 #[v, .func (.func fid) #[] caps] w fun e w' => ∃ v' F', e = .returned v' ∧ Ow EHold 195 w' v' (xs.filter fun x => !p x) F' ∧ F'.Nodup ∧ (∀ b ∈ F', b ∈ F) ∧ Keep F w w' := by
  obtain ⟨F1, hF1, hs⟩ := h.sl (Weak.refl _)
  obtain ⟨a, cap, rfl⟩ := h.slice
  have hl := h.len
  unfold maxLen at hl
  have hp := Lib.hid hp
  go_enter Tryd.func204, Tryd.ntmps204
  go_wp2_with fail
  refine (IndexFunc_Hold fid hbd caps _ xs F1 p _ hs (fun k hk wr u G hb hu => hp.out k hk wr u G (Keep.ofBelow hb) hu)).mono ?_
  rintro e w1 ⟨rfl, hb1⟩
  have hK1 := Keep.ofBelow (F := F) hb1
  by_cases hany : xs.any p = true
  · obtain ⟨k0, hk0, hfx, hpk, hfl⟩ := fidx_some hany
    rw [hfx]
    obtain ⟨g, rfl, -, hg0⟩ := Gap.start (h.below hb1) hn (ys := xs.take k0) (zs := xs[k0] :: xs.drop (k0 + 1)) (by simp) (by omega)
    obtain ⟨F0, hg0, hF0⟩ := hg0.skip
    have hG0 := Lib.hid hg0
    clear hg0
    have hk1 : ((k0 : Int) == -1) = false := by simp
    go_wp2_with fail
    go_loopw [5, 6, 7] (fun i j _ wr => ∃ (q m : Nat) (F1 : List Nat), q ≤ xs.length ∧ 0 < m ∧ ((xs.take q).filter fun x => !p x).length + m = q ∧ i = .int .i64 ((xs.take q).filter fun x => !p x).length ∧ j = .int .i64 q ∧ Hid (Gap EHold 195 wr g xs.length cap ((xs.take q).filter fun x => !p x) m (xs.drop q) F1) ∧ (∀ b ∈ F1, b ∈ F) ∧ Keep F w wr) (fun _ j _ _ => xs.length - (intOf j).toNat)
    case atStart => exact ⟨k0 + 1, 1, F0, hk0, by omega, by rw [filter_take_no hk0 (by simp [hpk]), hfl]; simp; omega, by rw [filter_take_no hk0 (by simp [hpk]), hfl]; simp; omega, by go_num, by rw [filter_take_no hk0 (by simp [hpk]), hfl]; exact hG0, hF0, hK1⟩
    case round =>
      obtain ⟨q, m, F1, hq, hm, hlen, rfl, rfl, hG, hF1, hK⟩ := hrel
      obtain ⟨-, hcap, -⟩ := hG.out.caps
      generalize hys : ((xs.take q).filter fun x => !p x) = ys at *
      by_cases hlt : q < xs.length
      · rw [List.drop_eq_getElem_cons hlt] at hG
        obtain ⟨c, Fx, hx, hFx, hcell⟩ := hG.out.first
        obtain ⟨Fx2, -, hxe⟩ := (Weak.refl _).rep hx
        obtain ⟨rfl, rfl⟩ := id hx
        have a0 := hcell 0 (by decide)
        have a1 := hcell 1 (by decide)
        simp only [hlen, show EHold.sz = 2 from rfl, Nat.mul_one, Nat.add_zero, List.getElem?_cons_zero, List.getElem?_cons_succ] at a0 a1
        have hr := fun A => hp.out q hlt (wr.alloc A) _ Fx2 (hK.alloc A) ⟨_, rfl, EHold.below hxe ((Below.refl wr.heap.size wr).alloc (Nat.le_refl _) A)⟩
        cases hpq : p xs[q]
        · obtain ⟨st, c2, Fx3, hx3, -, hcell2, back⟩ := hG.out.move hm
          simp only [hpq] at hr
          obtain rfl := same_cells (EHold.len hx) (EHold.len hx3) hcell hcell2
          have st := st
          obtain ⟨⟨x0, z0⟩, g0⟩ := st 0 (by decide)
          obtain ⟨⟨x1, z1⟩, g1⟩ := st 1 (by decide)
          simp only [show EHold.sz = 2 from rfl, Nat.mul_one, Nat.add_zero] at z0 g0 z1 g1
          have hr := Lib.hid hr; have hbk := Lib.hid back; have hpq := Lib.hid hpq; have hys := Lib.hid hys; have hlen := Lib.hid hlen
          have hyl : ys.length < xs.length := by have := hlen.out; omega
          clear hx hxe hcell hcell2 hx3 back st hfx hpk hfl
          go_wp2_with fail
          refine hbd.upon (hr.out _) ?_
          rintro e w2 ⟨rfl, hb2⟩
          refine ⟨_, rfl, ?_⟩
          have b2 := (Row.below (g := wr.heap.size) (t := 195) (cs := [.int .i64 xs[q].number, .int .i64 xs[q].untl]) (by simp [row_alloc]) hb2).cells
          have hbb := tr ((Below.refl wr.heap.size wr).alloc (Nat.le_refl _) _) hb2 (Nat.le_refl _)
          clear hb2
          have g0 := (kf hbb z0).trans g0; have z0 := kc hbb z0
          have g1 := (kf hbb z1).trans g1; have z1 := kc hbb z1
          obtain ⟨F2, hg2, hF2⟩ := hbk.out w2 hbb
          simp only [putCells, show EHold.sz = 2 from rfl, Nat.mul_one] at hg2
          have hg2 := Lib.hid hg2
          have hgF : g ∈ F := hF1 g hG.out.caps.2.2.2.2.1
          go_wp2_with fail
          exact ⟨⟨q + 1, m, F2, by omega, hm, by rw [filter_take_yes hlt (by simp [hpq.out]), hys.out]; have := hlen.out; simp; omega, by rw [filter_take_yes hlt (by simp [hpq.out]), hys.out, List.length_append]; go_num, by go_num, by rw [filter_take_yes hlt (by simp [hpq.out]), hys.out]; exact hg2.out, fun b hb => hF1 b (hF2 b hb), by (repeat (refine Keep.setCell ?_ hgF _)); exact hK.trans (Keep.ofBelow hbb)⟩, by simp [intOf]; omega⟩
        · obtain ⟨F2, hg2, hF2⟩ := hG.out.skip
          simp only [hpq] at hr
          have hr := Lib.hid hr; have hg2 := Lib.hid hg2; have hpq := Lib.hid hpq; have hys := Lib.hid hys; have hlen := Lib.hid hlen
          clear hx hxe hcell hfx hpk hfl
          go_wp2_with fail
          refine hbd.upon (hr.out _) ?_
          rintro e w2 ⟨rfl, hb2⟩
          refine ⟨_, rfl, ?_⟩
          have hbb := tr ((Below.refl wr.heap.size wr).alloc (Nat.le_refl _) _) hb2 (Nat.le_refl _)
          clear hb2
          go_wp2_with fail
          exact ⟨⟨q + 1, m + 1, F2, by omega, by omega, by rw [filter_take_no hlt (by simp [hpq.out]), hys.out]; have := hlen.out; omega, by rw [filter_take_no hlt (by simp [hpq.out]), hys.out], by go_num, by rw [filter_take_no hlt (by simp [hpq.out]), hys.out]; exact hg2.out.below hbb, fun b hb => hF1 b (hF2 b hb), hK.trans (Keep.ofBelow hbb)⟩, by simp [intOf]; omega⟩
      · have hqe : q = xs.length := by omega
        subst hqe
        simp only [List.drop_length, List.take_length] at hG hys
        obtain ⟨hc, F2, ho2, hn2, hF2⟩ := hG.out.done (z := #[.int .i64 0, .int .i64 0]) rfl
        have hmm : xs.length - ys.length = m := by omega
        have hcl := fun ty => run_clear_rows (P := Tryd.prog) wr 98 195 ty (.agg #[.int .i64 0, .int .i64 0]) Tryd.underlying98 (zeroValue_of info_Hold) (by simp [Value.cells, Value.oneCell']) g (ys.length * 2) m (cap - ys.length) hm (fun j hj => (hc j hj).1) (fun j hj => (hc j hj).2)
        have hyl : ys.length < xs.length := by omega
        have hgF : g ∈ F := hF1 g hG.out.caps.2.2.2.2.1
        have hO := Lib.hid ho2; have hlen := Lib.hid hlen; have hys := Lib.hid hys
        clear ho2 hc hfx hpk hfl
        go_wp2_with fail
        go_ret
        refine ⟨_, F2, rfl, by rw [hys.out]; exact hO.out, hn2, fun b hb => hF1 b (hF2 b hb), hK.trans ?_⟩
        rw [← putCells_eq wr]; exact (putCells_keep _ _ _).mono (fun b hb _ => by simp at hb; subst hb; exact hgF)
  · obtain ⟨hfx, hfl⟩ := fidx_all hany
    rw [hfx]
    go_wp2_with fail
    go_ret
    exact ⟨_, F, rfl, by rw [hfl]; exact h.below hb1, hn, fun b hb => hb, hK1⟩
end Go.Proofs.YtidephmobajikaaDoor
