/- slices.Delete on a slice of strings that one owns. -/
import Derived.Test.YtidephmobajikaaDoorShelf
import Derived.Test.YtidephmobajikaaDoorTStr
import Derived.Test.YtidephmobajikaaDoorOwn3
namespace Go.Proofs.YtidephmobajikaaDoor
open Go.RowKit Go.Shelf
theorem flat_str {w : World} : ∀ {xs : List ByteArray} {cs : List Value} {G : List Nat}, Flat EStr w cs xs G → cs = xs.map Value.string ∧ G = [] ∧ ∀ x ∈ xs, x.size ≤ maxLen
  | [], _, _, h => ⟨h.1, h.2, by simp⟩
  | x :: r, _, _, h => by
    obtain ⟨c, c2, F1, G2, rfl, rfl, hx, h2⟩ := h
    obtain ⟨rfl, rfl, h3⟩ := flat_str h2
    obtain ⟨rfl, h4, rfl⟩ := hx
    exact ⟨rfl, rfl, by simpa using ⟨h4, h3⟩⟩
theorem str_flat (w : World) : ∀ {xs : List ByteArray}, (∀ x ∈ xs, x.size ≤ maxLen) → Flat EStr w (xs.map Value.string) xs []
  | [], _ => ⟨rfl, rfl⟩
  | x :: r, h => ⟨[.string x], r.map Value.string, [], [], rfl, rfl, ⟨rfl, h x (by simp), rfl⟩, str_flat w (fun y hy => h y (by simp [hy]))⟩
theorem strs_map (xs : List ByteArray) (n : Nat) (hn : n = xs.length) (Sx : Nat → ByteArray) (hS : ∀ k (h : k < xs.length), Sx k = xs[k]) : Lib.strsOf Sx n = xs.map fun s => s.data.toList := by
  subst hn
  unfold Lib.strsOf
  apply List.ext_getElem
  · simp
  · intro k h1 h2
    simp at h1 ⊢
    rw [hS k (by simpa using h2)]
theorem Ow.str_owned {t : TypeId} {w : World} {a : Option Addr} {n c : Nat} {xs : List ByteArray} {F : List Nat} (h : Ow EStr t w (.slice a n c) xs F) (h0 : 0 < xs.length) :
    ∃ g rest, a = some ⟨g, 0, none⟩ ∧ n = xs.length ∧ F = [g] ∧ Row w g t (xs.map Value.string ++ rest) ∧ n ≤ c ∧ c ≤ maxLen ∧ (xs.map Value.string ++ rest).length = c ∧ ∀ x ∈ xs, x.size ≤ maxLen := by
  rcases h with ⟨_, h1, _⟩ | ⟨g, cap', cs, rest, G, hv, hr, h3, h4, h5, hf, rfl⟩
  · rw [h1] at h0; simp at h0
  · cases hv
    obtain ⟨rfl, rfl, hsz⟩ := flat_str hf
    refine ⟨g, rest, rfl, rfl, rfl, hr, h3, h4, ?_, hsz⟩
    have h6 : (xs.map Value.string).length + rest.length = c * EStr.sz := h5
    rw [show EStr.sz = 1 from rfl] at h6
    simp at h6 ⊢; omega
theorem Ow.str_make {t : TypeId} {w : World} {g n c : Nat} {xs : List ByteArray} {rest : List Value} (hn : n = xs.length) (hr : Row w g t (xs.map Value.string ++ rest)) (h1 : n ≤ c) (h2 : c ≤ maxLen) (h3 : (xs.map Value.string ++ rest).length = c) (h4 : ∀ x ∈ xs, x.size ≤ maxLen) :
    Ow EStr t w (.slice (some ⟨g, 0, none⟩) n c) xs [g] := by
  subst hn
  refine .inr ⟨g, c, xs.map Value.string, rest, [], rfl, hr, h1, h2, ?_, str_flat w h4, rfl⟩
  rw [show EStr.sz = 1 from rfl]
  simp at h3 ⊢; omega
theorem Row.setAll {w : World} {g : Nat} {t : TypeId} {c c' rest : List Value} (h : Row w g t (c ++ rest)) (hl : c'.length = c.length) : Row (w.setCells g 0 c') g t (c' ++ rest) := by
  have h' : Row w g t ([] ++ c ++ rest) := by simpa using h
  have := h'.put c' c (p := 0) rfl hl
  rw [putCells_eq w] at this
  simpa using this
theorem setCells_keep {g : Nat} (w : World) (p : Nat) (c : List Value) : Keep [g] w (w.setCells g p c) := by
  rw [← putCells_eq w]; exact putCells_keep _ _ _
theorem Delete_String (a : Option Addr) (n c : Nat) (xs : List ByteArray) (F : List Nat) (i j : Nat) (w : World) (h : Ow EStr 9 w (.slice a n c) xs F) (hij : i ≤ j) (hj : j ≤ xs.length) (h0 : 0 < xs.length) :
    Calls Tryd.prog 151 #[.slice a n c, .int .i64 i, .int .i64 j] w fun e w' => e = .returned (.slice a (n - (j - i)) c) ∧ Ow EStr 9 w' (.slice a (n - (j - i)) c) (xs.take i ++ xs.drop j) F ∧ Keep F w w' := by
  obtain ⟨g, rest, rfl, rfl, rfl, hr, hnc, hc, hl, hsz⟩ := h.str_owned h0
  have hcell : ∀ k, k < xs.length → w.cell? ⟨g, 0 + k, none⟩ = some (.string ((fun k => xs[k]!) k)) := fun k hk => by
    rw [Nat.zero_add, hr.cell, List.getElem?_append_left (by simpa using hk)]; simp [hk]
  unfold maxLen at hc
  refine (Any.slices_Delete_string_cells Tryd.laysNm224 g 0 xs.length c i j (fun k => xs[k]!) w hnc hc hij hj hcell (fun k _ => hr.frozen _)).mono ?_
  rintro e w' ⟨rfl, q, rfl⟩
  rw [strs_map xs xs.length rfl _ (fun k hk => by simp [hk])]
  have hcells : ((xs.map fun s : ByteArray => s.data.toList).take i ++ (xs.map fun s : ByteArray => s.data.toList).drop j ++ List.replicate (j - i) []).map encStr = (xs.take i ++ xs.drop j).map Value.string ++ List.replicate (j - i) (Value.string ⟨#[]⟩) := by
    have he : ∀ s : ByteArray, encStr s.data.toList = .string s := fun s => rfl
    simp [← List.map_take, ← List.map_drop, he]
    rfl
  rw [hcells]
  have hlen : ((xs.take i ++ xs.drop j).map Value.string ++ List.replicate (j - i) (Value.string ⟨#[]⟩)).length = (xs.map Value.string).length := by simp; omega
  refine ⟨rfl, ?_, (Keep.drewN (Keep.refl [g] w) q).trans (setCells_keep _ _ _)⟩
  have hr2 : Row (w.drewN q) g 9 (xs.map Value.string ++ rest) := hr
  refine Ow.str_make (rest := List.replicate (j - i) (Value.string ⟨#[]⟩) ++ rest) (by simp; omega) ?_ (by omega) hc ?_ ?_
  · simpa using hr2.setAll hlen
  · simp at hl ⊢; omega
  · intro x hx
    rcases List.mem_append.1 hx with h | h
    · exact hsz x (List.mem_of_mem_take h)
    · exact hsz x (List.mem_of_mem_drop h)
end Go.Proofs.YtidephmobajikaaDoor
