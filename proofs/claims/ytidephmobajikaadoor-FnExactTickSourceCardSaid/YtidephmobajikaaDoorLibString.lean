/- Walks of Go's generic library functions on slices of string. Written by wip/genlib.py. -/
import Derived.Test.YtidephmobajikaaDoorTStr
import Derived.Test.YtidephmobajikaaDoorOwn3
namespace Go.Proofs.YtidephmobajikaaDoor
open Go.RowKit
set_option maxHeartbeats 800000 in
set_option maxRecDepth 100000 in
theorem IndexFunc_String (fid : FuncId) (hbd : Body Tryd.prog fid) (caps : Array Value) (v : Value) (xs : List ByteArray) (F : List Nat) (p : ByteArray → Bool) (w : World) (h : Sl EStr w v xs F)
    (hp : ∀ (k : Nat) (hk : k < xs.length) (wr : World) (u : Value) (G : List Nat), Below w.heap.size w wr → IsC EStr wr u xs[k] G → Calls Tryd.prog fid (#[u] ++ caps) wr fun e w' => e = .returned (.bool (p xs[k])) ∧ Below wr.heap.size wr w') :
    Calls Tryd.prog 188 #[v, .func (.func fid) #[] caps] w fun e w' => e = .returned (.int .i64 (fidx p xs)) ∧ Below w.heap.size w w' := by
  obtain ⟨a, cap, rfl⟩ := h.slice
  have hl := h.len
  unfold maxLen at hl
  go_enter Tryd.func188, Tryd.ntmps188
  go_wp2
  go_loopw [5, 8] (fun _ i wr => ∃ k : Nat, k ≤ xs.length ∧ i = .int .i64 k ∧ Hid (∀ j, j < k → ∀ hj : j < xs.length, p xs[j] = false) ∧ Below w.heap.size w wr) (fun _ i _ => xs.length - (intOf i).toNat)
  case atStart => exact ⟨0, Nat.zero_le _, rfl, fun j hj => by omega, Below.refl _ _⟩
  case round =>
    obtain ⟨k, hk, rfl, hz, hB⟩ := hrel
    by_cases hlt : k < xs.length
    · have hz0 := hz; clear hz
      obtain ⟨b, off, _, F1, rfl, hx, -, ja⟩ := (h.below (by decide) hB).at k hlt
      obtain ⟨rfl, -, -⟩ := id hx
      have a0 := ja 0 (by decide)
      simp only [show EStr.sz = 1 from rfl, Nat.mul_one, Nat.add_zero, List.getElem?_cons_zero, List.getElem?_cons_succ] at a0
      clear ja
      have hr := hp k hlt wr _ F1 hB ⟨_, rfl, hx⟩
      have hp := Lib.hid hp
      cases hpk : p xs[k]
      all_goals
        rw [hpk] at hr
        have hpk := Lib.hid hpk
        have hr := Lib.hid hr
        go_wp2_with fail
        refine hbd.upon hr.out ?_
        rintro e w1 ⟨rfl, hb1⟩
        refine ⟨_, rfl, ?_⟩
        have hB := tr hB hb1 (Nat.le_refl _)
        clear hb1
        go_wp2_with fail
      · exact ⟨⟨k + 1, by omega, by go_num, fun j hj hl => by rcases Nat.lt_or_eq_of_le (Nat.le_of_lt_succ hj) with h | h; exact hz0.out j h hl; subst h; exact hpk.out, hB⟩, by simp [intOf]; omega⟩
      · go_ret
        exact ⟨ret_int (fidx_hit hlt hz0.out hpk.out).symm, hB⟩
    · go_wp2
      go_ret
      exact ⟨ret_int (fidx_none (fun j hj => hz.out j (by omega) hj)).symm, hB⟩
theorem ContainsFunc_String (fid : FuncId) (hbd : Body Tryd.prog fid) (caps : Array Value) (v : Value) (xs : List ByteArray) (F : List Nat) (p : ByteArray → Bool) (w : World) (h : Sl EStr w v xs F)
    (hp : ∀ (k : Nat) (hk : k < xs.length) (wr : World) (u : Value) (G : List Nat), Below w.heap.size w wr → IsC EStr wr u xs[k] G → Calls Tryd.prog fid (#[u] ++ caps) wr fun e w' => e = .returned (.bool (p xs[k])) ∧ Below wr.heap.size wr w') :
    Calls Tryd.prog 147 #[v, .func (.func fid) #[] caps] w fun e w' => e = .returned (.bool (xs.any p)) ∧ Below w.heap.size w w' := by
  have hp := Lib.hid hp
  go_enter Tryd.func147, Tryd.ntmps147
  go_wp2_with fail
  refine (IndexFunc_String fid hbd caps v xs F p _ h hp.out).mono ?_
  rintro e w1 ⟨rfl, hb1⟩
  go_wp2_with fail
  go_ret
  exact ⟨ret_bool (fidx_any p xs), hb1⟩
theorem Clone_String (v : Value) (xs : List ByteArray) (F : List Nat) (w : World) (h : Sl EStr w v xs F) (hm : xs.length ≤ 4294967296) :
    Calls Tryd.prog 170 #[v] w (RetNew EStr 9 xs w) := by
  obtain ⟨ao, c, news, Fy, rfl, hl, hfy, hFy, hsrc⟩ := h.src
  have hFl := hfy.lt
  have he := fun w (a : Option Addr) (n c : Nat) => Lib.run_eql_slice_nil (P := Tryd.prog) w 24 _ a n c 0 0 Tryd.underlying24
  go_enter Tryd.func170, Tryd.ntmps170
  rcases hsrc with ⟨rfl, rfl, rfl⟩ | ⟨ad, rfl, hn⟩
  · go_wp2
    go_ret
    exact ⟨.slice none 0 0, [], rfl, .inl ⟨rfl, rfl, rfl⟩, by simp, by simp, Below.refl _ _⟩
  · go_wp2_with (at_builtin; refine wpList_apd one_EStr (by decide) (by rfl) _ _ _ (by rfl) 9 (.string ⟨#[]⟩) 16 Tryd.underlying24 info_string rfl (.slice (some ⟨w.heap.size, 0, none⟩) 0 0) [] [w.heap.size] (by rfl) (Ow.empty (Row.made _ _ _)) (Hd.one _) (some ad) xs c (by rfl) news Fy (hfy.frame fun b hb => Below.heap_alloc _ _ _ (hFl b hb)) (.inr ⟨ad, rfl, fun j u hu => kc ((Below.refl _ _).alloc (Nat.le_refl _) _) (hn j u hu)⟩) (fun b hb e => by have := hFl b hb; simp [Value.ownBlock] at e; omega) (by simpa using hl) (by unfold maxLen at hl; simp; omega) ?_)
    intro v2 w2 F2 hA
    go_wp2_with fail
    go_ret
    have hB : Below w.heap.size w w2 := ((Below.refl _ _).alloc (Nat.le_refl _) _).trans (hA.keep.below (by simp) (by simp))
    have hs : ∀ b, v2.ownBlock = some b → w.heap.size ≤ b := fun b hb => by rcases hA.same with e | e <;> rw [e] at hb <;> simp [Value.ownBlock] at hb <;> omega
    refine ⟨v2, F2, rfl, by simpa using hA.ow, hA.ow.scal scal_EStr ▸ ?_, fun b hb => ?_, hB⟩
    · cases v2.ownBlock <;> simp
    · rw [hA.ow.scal scal_EStr] at hb; exact hs b (by simpa using hb)

end Go.Proofs.YtidephmobajikaaDoor
