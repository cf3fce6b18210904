/- slices.Insert of one string into a slice of strings that one owns. -/
import Derived.Test.YtkcajnpdmgafjaaDoorLibStrDel
import Derived.Test.YtkcajnpdmgafjaaDoorLaw2
namespace Go.Proofs.YtkcajnpdmgafjaaDoor
open Go.RowKit Go.Shelf
theorem Row.shape {w : World} {g : Nat} {t : TypeId} {cs : List Value} (h : Row w g t cs) : w.shape? g = some (t, cs.length) := by
  unfold World.shape?; rw [show w.heap[g]? = _ from h]; simp
theorem str_one (xs : List ByteArray) : ∀ v ∈ xs.map Value.string, v.oneCell' = true := by
  intro v hv
  obtain ⟨s, -, rfl⟩ := List.mem_map.1 hv
  rfl
theorem insert_le {xs : List ByteArray} {s : ByteArray} {i : Nat} (h : ∀ x ∈ xs, x.size ≤ maxLen) (hs : s.size ≤ maxLen) : ∀ x ∈ xs.take i ++ s :: xs.drop i, x.size ≤ maxLen := by
  intro x hx
  simp only [List.mem_append, List.mem_cons] at hx
  rcases hx with hx | rfl | hx
  · exact h x (List.mem_of_mem_take hx)
  · exact hs
  · exact h x (List.mem_of_mem_drop hx)
/-- a new row: what stands before i, then the set cells -/
theorem Row.ofMade {w : World} {t : TypeId} {cs : Array Value} : Row (w.alloc (.cells cs t)) w.heap.size t cs.toList := by
  have := Row.made w t cs.toList
  simpa using this
theorem Row.setAt {w : World} {g : Nat} {t : TypeId} {A c c' B : List Value} {p : Nat} (h : Row w g t (A ++ c ++ B)) (hp : p = A.length) (hl : c'.length = c.length) : Row (w.setCells g p c') g t (A ++ c' ++ B) := by
  have := h.put c' c hp hl
  rwa [putCells_eq w] at this
theorem Row.ins {w : World} {g : Nat} {t : TypeId} {cs rest : List Value} {u : Value} {i : Nat} (h : Row w g t (cs ++ rest)) (hi : i < cs.length) (hr : 0 < rest.length) :
    Row ((w.setCells g (i + 1) (cs.drop i)).setCells g i [u]) g t (cs.take i ++ u :: cs.drop i ++ rest.drop 1) := by
  obtain ⟨r, rs, rfl⟩ : ∃ r rs, rest = r :: rs := by cases rest with | nil => simp at hr | cons r rs => exact ⟨r, rs, rfl⟩
  have e : cs ++ r :: rs = (cs.take i ++ [cs[i]]) ++ (cs.drop (i + 1) ++ [r]) ++ rs := by
    rw [List.take_append_getElem, List.append_assoc, List.append_assoc, List.singleton_append, ← List.append_assoc, List.take_append_drop]
  rw [e] at h
  have h2 := h.setAt (c' := cs.drop i) (p := i + 1) (by simp; omega) (by simp; omega)
  have h3 : Row (w.setCells g (i + 1) (cs.drop i)) g t (cs.take i ++ [cs[i]] ++ (cs.drop i ++ rs)) := by simpa using h2
  have h4 := h3.setAt (c' := [u]) (p := i) (by simp; omega) rfl
  simpa using h4
theorem Row.ins2 {w : World} {g : Nat} {t : TypeId} {A Z D B : List Value} {u : Value} {i : Nat} (h : Row w g t (A ++ Z ++ B)) (hi : i = A.length) (hD : Z.length = D.length + 1) :
    Row (((w.drew.setCells g i [u]).drew).setCells g (i + 1) D) g t (A ++ u :: D ++ B) := by
  obtain ⟨z, zs, rfl⟩ : ∃ z zs, Z = z :: zs := by cases Z with | nil => simp at hD | cons z zs => exact ⟨z, zs, rfl⟩
  have h1 : Row w g t (A ++ [z] ++ (zs ++ B)) := by simpa using h
  have h2 := (h1.drewN 1).setAt (c' := [u]) hi rfl
  have h3 : Row ((w.drewN 1).setCells g i [u]) g t ((A ++ [u]) ++ zs ++ B) := by simpa using h2
  have h4 := (h3.drewN 1).setAt (c' := D) (p := i + 1) (by simp [hi]) (by simpa using hD.symm)
  have e : A ++ [u] ++ D ++ B = A ++ u :: D ++ B := by simp
  rw [e] at h4
  exact h4
theorem Insert_String (a : Option Addr) (n c : Nat) (xs : List ByteArray) (F : List Nat) (i : Nat) (s : ByteArray) (vb : Nat) (w : World) (h : Ow EStr 9 w (.slice a n c) xs F) (hi : i ≤ xs.length) (hv : Row w vb 9 [.string s]) (hvF : vb ∉ F) (hs : s.size ≤ maxLen) (hl : xs.length ≤ 4294967296) :
    Calls Tryd.prog 204 #[.slice a n c, .int .i64 i, .slice (some ⟨vb, 0, none⟩) 1 1] w fun e w' => ∃ v' F', e = .returned v' ∧ Ow EStr 9 w' v' (xs.take i ++ s :: xs.drop i) F' ∧ F'.Nodup ∧ (∀ b ∈ F', b ∈ F ∨ b = w.heap.size) ∧ Keep F w w' := by
  have hvs : ∀ j u, [Value.string s][j]? = some u → w.cell? ⟨vb, 0 + j, none⟩ = some u := fun j u hu => by rw [Nat.zero_add, hv.cell]; exact hu
  have h1v : ∀ u ∈ [Value.string s], u.oneCell' = true := by intro u hu; simp at hu; subst hu; rfl
  have hm1 : ∀ m : Nat, m ≤ 4294967297 → m ≤ maxLen := fun m hm => by unfold maxLen; omega
  have hlen : (xs.take i ++ s :: xs.drop i).length = xs.length + 1 := by simp; omega
  have hnn : n = xs.length := by obtain ⟨a', c', e⟩ := h.slice; cases e; rfl
  have hmp : (xs.map Value.string).take i ++ Value.string s :: (xs.map Value.string).drop i = (xs.take i ++ s :: xs.drop i).map Value.string := by simp
  subst hnn
  rcases Nat.lt_or_ge i xs.length with hlt | hge
  · obtain ⟨g, rest, rfl, -, rfl, hr, hnc, hc, hcl, hsz⟩ := h.str_owned (by omega)
    have hcs : ∀ j u, (xs.map Value.string)[j]? = some u → w.cell? ⟨g, 0 + j, none⟩ = some u := fun j u hu => by
      obtain ⟨hj, -⟩ := List.getElem?_eq_some_iff.1 hu
      rw [Nat.zero_add, hr.cell, List.getElem?_append_left hj]; exact hu
    have hgl := hr.lt
    have hvg : vb ≠ g := fun e => hvF (by simp [e])
    have hcl' : xs.length + rest.length = c := by simpa using hcl
    rcases Nat.lt_or_ge c (xs.length + 1) with hroom | hroom
    · refine (Any2.slices_Insert_string_grow Tryd.laysNm222 g 0 xs.length c i vb 0 1 1 (xs.map Value.string) [.string s] w hlt (by omega) hnc hroom (by omega) (by simp) rfl hcs hvs (str_one xs) h1v).mono ?_
      rintro e w' ⟨rfl, rfl⟩
      have hge := grownCap_ge w (xs.length + 1) c (Tryd.laysNm222_ren.t 9)
      have hle := grownCap_le_maxLen w (xs.length + 1) c (Tryd.laysNm222_ren.t 9) (hm1 _ (by omega))
      refine ⟨_, [w.heap.size], rfl, ?_, by simp, by simp, ?_⟩
      · have R0 : Row (w.alloc (.cells (((xs.map Value.string).take i).toArray ++ Builtin.zeroCells (Value.string ⟨#[]⟩).cells (xs.length + 1 - i) ++ Builtin.zeroCells (Value.string ⟨#[]⟩).cells (grownCap w (xs.length + 1) c (Tryd.laysNm222_ren.t 9) - (xs.length + 1))) (Tryd.laysNm222_ren.t 9))) w.heap.size (Tryd.laysNm222_ren.t 9) ((xs.map Value.string).take i ++ (Builtin.zeroCells (Value.string ⟨#[]⟩).cells (xs.length + 1 - i)).toList ++ (Builtin.zeroCells (Value.string ⟨#[]⟩).cells (grownCap w (xs.length + 1) c (Tryd.laysNm222_ren.t 9) - (xs.length + 1))).toList) := by
          simpa using Row.ofMade (w := w) (t := Tryd.laysNm222_ren.t 9) (cs := ((xs.map Value.string).take i).toArray ++ Builtin.zeroCells (Value.string ⟨#[]⟩).cells (xs.length + 1 - i) ++ Builtin.zeroCells (Value.string ⟨#[]⟩).cells (grownCap w (xs.length + 1) c (Tryd.laysNm222_ren.t 9) - (xs.length + 1)))
        have R1 := R0.ins2 (u := .string s) (D := (xs.map Value.string).drop i) (i := i) (by simp; omega) (by rw [zeroCells_len]; simp [Value.cells]; omega)
        rw [hmp] at R1
        exact Ow.str_make hlen.symm R1 (by omega) hle (by rw [List.length_append, zeroCells_len]; simp [Value.cells]; omega) (insert_le hsz hs)
      · exact Keep.ofBelow (Keep.below (F := [w.heap.size]) ((((((Keep.refl [w.heap.size] w).alloc _).drewN 1).trans (setCells_keep _ _ _)).drewN 1).trans (setCells_keep _ _ _)) (Nat.le_refl _) (by simp))
    · refine (Any2.slices_Insert_string_shift Tryd.laysNm222 g 0 xs.length c i vb 0 1 1 (xs.map Value.string) [.string s] w hlt (by omega) hroom (by unfold maxLen at hc; omega) hvg (by simp) rfl hcs (fun j hj => ?_) (fun j _ => hr.frozen _) hvs (str_one xs) h1v 9 9 1 c hv.shape (by rw [hr.shape, hcl]) (by omega) (hv.frozen _) (hv.frozen _)).mono ?_
      · rw [Nat.zero_add, hr.cell, List.getElem?_eq_getElem (by omega)]; rfl
      rintro e w' ⟨rfl, rfl⟩
      refine ⟨_, [g], rfl, ?_, by simp, by simp, ?_⟩
      · have R1 := (hr.drewN 1).ins (u := .string s) (i := i) (by simpa using hlt) (by omega)
        rw [hmp] at R1
        rw [Nat.zero_add, Nat.zero_add]
        exact Ow.str_make hlen.symm R1 hroom hc (by simp; omega) (insert_le hsz hs)
      · exact ((Keep.drewN (Keep.refl [g] w) 1).trans (setCells_keep _ _ _)).trans (setCells_keep _ _ _)
  · have hix : i = xs.length := by omega
    subst hix
    have e1 : xs.take xs.length ++ s :: xs.drop xs.length = xs ++ [s] := by simp
    rw [e1]
    rcases Nat.lt_or_ge c (xs.length + 1) with hroom | hroom
    · have hend : ∀ base, a = base → xs.length ≤ c → c ≤ maxLen → (∀ x ∈ xs, x.size ≤ maxLen) → (base = none → xs.length = 0) → (∀ ad, base = some ad → ∀ j v, (xs.map Value.string)[j]? = some v → w.cell? (ad.add j) = some v) → Calls Tryd.prog 204 #[.slice base xs.length c, .int .i64 xs.length, .slice (some ⟨vb, 0, none⟩) 1 1] w fun e w' => ∃ v' F', e = .returned v' ∧ Ow EStr 9 w' v' (xs ++ [s]) F' ∧ F'.Nodup ∧ (∀ b ∈ F', b ∈ F ∨ b = w.heap.size) ∧ Keep F w w' := by
        intro base _ hnc hcm hsz hnil hcs
        refine (Any2.slices_Insert_string_end_grow Tryd.laysNm222 base xs.length c vb 0 1 1 (xs.map Value.string) [.string s] w (by omega) hnc hroom (by omega) (by simp) rfl hnil hcs hvs h1v).mono ?_
        rintro e w' ⟨rfl, rfl⟩
        have hge := grownCap_ge w (xs.length + 1) c (Tryd.laysNm222_ren.t 9)
        have hle := grownCap_le_maxLen w (xs.length + 1) c (Tryd.laysNm222_ren.t 9) (hm1 _ (by omega))
        refine ⟨_, [w.heap.size], rfl, ?_, by simp, by simp, ?_⟩
        · have R0 := Row.ofMade (w := w.drew) (t := Tryd.laysNm222_ren.t 9) (cs := (xs.map Value.string ++ [Value.string s]).toArray ++ Builtin.zeroCells (Value.string ⟨#[]⟩).cells (grownCap w (xs.length + 1) c (Tryd.laysNm222_ren.t 9) - (xs.length + 1)))
          have R1 : Row (w.drew.alloc (.cells ((xs.map Value.string ++ [Value.string s]).toArray ++ Builtin.zeroCells (Value.string ⟨#[]⟩).cells (grownCap w (xs.length + 1) c (Tryd.laysNm222_ren.t 9) - (xs.length + 1))) (Tryd.laysNm222_ren.t 9))) w.heap.size (Tryd.laysNm222_ren.t 9) ((xs ++ [s]).map Value.string ++ (Builtin.zeroCells (Value.string ⟨#[]⟩).cells (grownCap w (xs.length + 1) c (Tryd.laysNm222_ren.t 9) - (xs.length + 1))).toList) := by simpa using R0
          exact Ow.str_make (by simp) R1 (by omega) hle (by rw [List.length_append, zeroCells_len]; simp [Value.cells]; omega) (fun x hx => by rcases List.mem_append.1 hx with hx | hx; exact hsz x hx; simp at hx; subst hx; exact hs)
        · exact ((Keep.refl _ w).drewN 1).alloc _
      rcases h with ⟨h1, h2, h3⟩ | ⟨g, cap, cs, rest, G, h1, h2, h3, h4, h5, h6, h7⟩
      · subst h2
        cases h1
        exact hend none rfl (by simp) (by decide) (by simp) (fun _ => rfl) (by simp)
      · cases h1
        obtain ⟨rfl, rfl, hsz⟩ := flat_str h6
        exact hend _ rfl h3 h4 hsz (by simp) fun ad had j v hj => by
          cases had
          obtain ⟨hj2, -⟩ := List.getElem?_eq_some_iff.1 hj
          have := h2.cell j
          rw [List.getElem?_append_left hj2, hj] at this
          unfold Addr.add
          split
          · rename_i e; subst e; exact this
          · simpa using this
    · rcases h with ⟨h1, h2, h3⟩ | ⟨g, cap, cs, rest, G, h1, h2, h3, h4, h5, h6, h7⟩
      · subst h2; cases h1; omega
      cases h1
      subst h7
      obtain ⟨rfl, rfl, hsz⟩ := flat_str h6
      simp only [EStr, Nat.mul_one, List.length_map] at h5
      obtain ⟨r, rs, rfl⟩ : ∃ r rs, rest = r :: rs := by cases rest with | nil => simp at h5; omega | cons r rs => exact ⟨r, rs, rfl⟩
      refine (Any2.slices_Insert_string_end_room Tryd.laysNm222 g 0 xs.length c vb 0 1 1 [.string s] w (by omega) hroom (by unfold maxLen at h4; omega) rfl (fun j hj => ?_) (fun j _ => h2.frozen _) hvs h1v).mono ?_
      · rw [Nat.zero_add, h2.cell, List.getElem?_eq_getElem (by simp; omega)]; rfl
      rintro e w' ⟨rfl, rfl⟩
      refine ⟨_, [g], rfl, ?_, by simp, by simp, ?_⟩
      · have h2' : Row w g 9 (xs.map Value.string ++ [r] ++ rs) := by simpa using h2
        have R0 := h2'.setAt (c' := [Value.string s]) (p := 0 + xs.length) (by simp) rfl
        have R1 : Row (w.setCells g (0 + xs.length) [Value.string s]) g 9 ((xs ++ [s]).map Value.string ++ rs) := by simpa using R0
        exact Ow.str_make (by simp) R1 hroom h4 (by simp at h5 ⊢; omega) (fun x hx => by rcases List.mem_append.1 hx with hx | hx; exact hsz x hx; simp at hx; subst hx; exact hs)
      · exact setCells_keep _ _ _
end Go.Proofs.YtkcajnpdmgafjaaDoor
