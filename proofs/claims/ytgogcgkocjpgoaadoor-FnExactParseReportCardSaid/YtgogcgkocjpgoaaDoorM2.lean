/- Part 2 of the proof: 21 texts, one behind the other. -/
import Derived.Test.YtgogcgkocjpgoaaDoorProg
import Derived.Test.YtgogcgkocjpgoaaDoorRows
import Derived.MakeChecks
import Derived.Stop.LaidErr
import Derived.Shelf.Vars
import Derived.LaidLaws
import Derived.ProofKit
import Derived.OpenShut
import Derived.Test.YtgogcgkocjpgoaaDoorCards
import Derived.Test.YtgogcgkocjpgoaaDoorTie
import Derived.LaidMore
import Derived.Lay
import Derived.SevenTiedAt
import Derived.Stop.Joined
import Derived.Test.YtgogcgkocjpgoaaDoorM1
/- Deliveries: their sentences, and that they come back out of them. Plain. -/
namespace Go.Proofs.YtgogcgkocjpgoaaDoor
open Go.RowKit
def zDel : Delivery := ⟨0, 0, 0, 0⟩
def goodDel (d : Delivery) : Bool := btw 1 d.receiver 7 && btw 0 d.got 1000000 && btw 0 d.repaired d.got && btw 0 d.lost 1000000
def decI (n : Int) : Bs := Lib.decDigits n.toNat
def cmD (d : Delivery) : Bs := if d.repaired = 0 then [] else [44]
def itemW (d : Delivery) : List Bs := if d.got = 0 then [[110, 111], [105, 116, 101, 109, 115] ++ cmD d] else if d.got = 1 then [[49], [105, 116, 101, 109] ++ cmD d] else [decI d.got, [105, 116, 101, 109, 115] ++ cmD d]
def repW (d : Delivery) : List Bs := if d.repaired = 0 then [] else if d.got = 1 then [[114, 101, 112, 97, 105, 114, 101, 100, 44]] else if d.repaired = d.got then [[97, 108, 108], [111, 102], [116, 104, 101, 109], [114, 101, 112, 97, 105, 114, 101, 100, 44]] else [decI d.repaired, [111, 102], [116, 104, 101, 109], [114, 101, 112, 97, 105, 114, 101, 100, 44]]
def lostW (d : Delivery) : Bs := if d.lost = 0 then [110, 111, 110, 101] else decI d.lost
def headW (d : Delivery) : List Bs := [decI d.receiver, [103, 111, 116]] ++ itemW d ++ repW d ++ [[97, 110, 100], [108, 111, 115, 116]]
def jnB (W : List Bs) : Bs := (W.map fun w => 32 :: w).flatten
def delB (d : Delivery) : Bs := [82, 101, 99, 101, 105, 118, 101, 114] ++ jnB (headW d ++ [lostW d])
/-- the sentence -/
def delT (d : Delivery) : ByteArray := bz (delB d ++ [46])
def dig (l : Bs) : Prop := ∀ c ∈ l, 48 ≤ c.toNat ∧ c.toNat ≤ 57
theorem dec_dig (n : Int) : dig (decI n) := digit_mem n.toNat
theorem ne_of (b : UInt8) {l : Bs} (hb : b.toNat < 48 ∨ 57 < b.toNat) (h : dig l) : ∀ c ∈ l, c ≠ b := fun c hc e => by have := h c hc; subst e; omega
theorem word_ne {d : Delivery} {b : UInt8} (hb : b = 32 ∨ b = 46) : ∀ w ∈ headW d ++ [lostW d], ∀ c ∈ w, c ≠ b := by
  have h1 := fun n => ne_of b (l := decI n) (by rcases hb with rfl | rfl <;> decide) (dec_dig n)
  have hl : ∀ l : Bs, (32 ∉ l ∧ 46 ∉ l) → ∀ c ∈ l, c ≠ b := fun l h c hc e => by
    subst e
    rcases hb with rfl | rfl
    · exact h.1 hc
    · exact h.2 hc
  intro w hw
  unfold headW at hw
  simp only [List.mem_append, List.mem_cons, List.not_mem_nil, or_false] at hw
  rcases hw with ((((hw | hw) | hw) | hw) | hw | hw) | hw
  · subst hw; exact h1 _
  · subst hw; exact hl _ (by decide)
  · unfold itemW cmD at hw
    split at hw <;> (try split at hw) <;> (try split at hw) <;> (simp only [List.mem_cons, List.not_mem_nil, or_false] at hw; rcases hw with rfl | rfl) <;> first | exact h1 _ | exact hl _ (by decide)
  · unfold repW at hw
    by_cases k0 : d.repaired = 0
    · rw [if_pos k0] at hw; cases hw
    rw [if_neg k0] at hw
    by_cases k1 : d.got = 1
    · rw [if_pos k1] at hw
      simp only [List.mem_cons, List.not_mem_nil, or_false] at hw; subst hw; exact hl _ (by decide)
    rw [if_neg k1] at hw
    split at hw <;> (simp only [List.mem_cons, List.not_mem_nil, or_false] at hw; rcases hw with rfl | rfl | rfl | rfl) <;> first | exact h1 _ | exact hl _ (by decide)
  · subst hw; exact hl _ (by decide)
  · subst hw; exact hl _ (by decide)
  · subst hw; unfold lostW; split
    · exact hl _ (by decide)
    · exact h1 _
theorem delB_ne {d : Delivery} : ∀ c ∈ delB d, c ≠ 46 := by
  intro c hc
  unfold delB jnB at hc
  rcases List.mem_append.1 hc with h | h
  · exact fun e => by subst e; revert h; decide
  · obtain ⟨w, hw, hc⟩ := List.mem_flatten.1 h
    obtain ⟨u, hu, rfl⟩ := List.mem_map.1 hw
    rcases List.mem_cons.1 hc with rfl | hc
    · decide
    · exact word_ne (.inr rfl) u hu c hc
theorem split_del (d : Delivery) : splitL 32 (delB d) = [82, 101, 99, 101, 105, 118, 101, 114] :: (headW d ++ [lostW d]) := splitL_join 32 _ _ (by decide) (word_ne (.inl rfl))
theorem split_dot (d : Delivery) : splitL 32 (delB d ++ [46]) = [82, 101, 99, 101, 105, 118, 101, 114] :: (headW d ++ [lostW d ++ [46]]) := by
  have h : delB d ++ [46] = [82, 101, 99, 101, 105, 118, 101, 114] ++ ((headW d ++ [lostW d ++ [46]]).map fun w => 32 :: w).flatten := by unfold delB jnB; simp
  rw [h]
  refine splitL_join 32 _ _ (by decide) fun w hw => ?_
  rcases List.mem_append.1 hw with hw | hw
  · exact word_ne (d := d) (.inl rfl) w (by simp [hw])
  · rw [List.mem_singleton] at hw; subst hw
    intro c hc
    rcases List.mem_append.1 hc with hc | hc
    · exact word_ne (d := d) (.inl rfl) (lostW d) (by simp) c hc
    · rw [List.mem_singleton] at hc; subst hc; decide
/-- how the program reads a word aS a number -/
def nwI (l : Bs) : Int := match Lib.atoiAll l with
  | Lib.NumEnd.ok v => v
  | Lib.NumEnd.range => Lib.atoiSat l
  | _ => 0
/-- how the reference reads it -/
def nwS (l : Bs) : Int := if l = [49, 48, 48, 48, 48, 48, 48] then 1000000 else (resPI (bz l)).1
theorem nwI_dec {n : Int} (h0 : 0 ≤ n) (h1 : n ≤ 1000000) : nwI (decI n) = n := by
  unfold nwI decI
  rw [atoi_back n.toNat (by omega)]
  show ((n.toNat : Nat) : Int) = n; omega
theorem dec_mil : Lib.decDigits 1000000 = [49, 48, 48, 48, 48, 48, 48] := by decide +kernel
theorem nwS_dec {n : Int} (h0 : 0 ≤ n) (h1 : n ≤ 1000000) : nwS (decI n) = n := by
  unfold nwS decI
  by_cases h : n = 1000000
  · subst h; rw [show (1000000 : Int).toNat = 1000000 from rfl, dec_mil, if_pos rfl]
  · rw [if_neg, resPI_back n.toNat (by omega)]
    · show ((n.toNat : Nat) : Int) = n; omega
    · intro e
      have h2 := atoi_back n.toNat (by omega)
      have h3 := atoi_back 1000000 (by omega)
      rw [dec_mil, ← e, h2] at h3
      have : ((n.toNat : Nat) : Int) = ((1000000 : Nat) : Int) := by injection h3
      omega
def atW (ws : List Bs) (i : Nat) : Bs := ws.getD i []
def lastW (ws : List Bs) : Bs := ws.getD (ws.length - 1) []
/-- what the program makes of the words -/
def pdI (ws : List Bs) : Delivery := ⟨nwI (atW ws 1), nwI (atW ws 3), if atW ws 5 = [114, 101, 112, 97, 105, 114, 101, 100, 44] then 1 else if atW ws 5 = [97, 108, 108] then nwI (atW ws 3) else if atW ws 5 = [97, 110, 100] then 0 else nwI (atW ws 5), nwI (lastW ws)⟩
/-- what the reference makes of them -/
def pdS (ws : List Bs) : Delivery := ⟨nwS (atW ws 1), nwS (atW ws 3), if atW ws 5 = [97, 108, 108] ∨ atW ws 5 = [114, 101, 112, 97, 105, 114, 101, 100, 44] then nwS (atW ws 3) else nwS (atW ws 5), if lastW ws = [] then 0 else nwS (lastW ws).dropLast⟩
theorem dig_not {l : Bs} (h : dig l) (hl : 1 ≤ l.length) : l ≠ [114, 101, 112, 97, 105, 114, 101, 100, 44] ∧ l ≠ [97, 108, 108] ∧ l ≠ [97, 110, 100] := by
  refine ⟨?_, ?_, ?_⟩ <;> rintro rfl
  · have := h 114 (by simp); revert this; decide
  · have := h 97 (by simp); revert this; decide
  · have := h 97 (by simp); revert this; decide
theorem good_del {d : Delivery} (h : goodDel d = true) : (1 ≤ d.receiver ∧ d.receiver ≤ 7) ∧ (0 ≤ d.got ∧ d.got ≤ 1000000) ∧ (0 ≤ d.repaired ∧ d.repaired ≤ d.got) ∧ (0 ≤ d.lost ∧ d.lost ≤ 1000000) := by
  unfold goodDel btw at h
  simp only [Bool.and_eq_true, decide_eq_true_eq] at h
  exact ⟨h.1.1.1, h.1.1.2, h.1.2, h.2⟩
theorem lastW_app (u : Bs) (W : List Bs) (l : Bs) : lastW (u :: (W ++ [l])) = l := by
  unfold lastW
  rw [List.getD_eq_getElem?_getD]; simp
theorem five (d : Delivery) (l : Bs) : atW ([82, 101, 99, 101, 105, 118, 101, 114] :: (headW d ++ [l])) 1 = decI d.receiver ∧ atW ([82, 101, 99, 101, 105, 118, 101, 114] :: (headW d ++ [l])) 3 = (if d.got = 0 then [110, 111] else if d.got = 1 then [49] else decI d.got)
    ∧ atW ([82, 101, 99, 101, 105, 118, 101, 114] :: (headW d ++ [l])) 5 = (if d.repaired = 0 then [97, 110, 100] else if d.got = 1 then [114, 101, 112, 97, 105, 114, 101, 100, 44] else if d.repaired = d.got then [97, 108, 108] else decI d.repaired) ∧ 8 ≤ ([82, 101, 99, 101, 105, 118, 101, 114] :: (headW d ++ [l])).length := by
  unfold headW itemW repW atW
  refine ⟨rfl, ?_, ?_, ?_⟩
  all_goals
    by_cases a : d.repaired = 0 <;> by_cases b : d.got = 0 <;> by_cases c : d.got = 1 <;> by_cases e : d.repaired = d.got <;> (first | simp only [if_pos a] | simp only [if_neg a] | skip) <;> (first | simp only [if_pos b] | simp only [if_neg b] | skip) <;> (first | simp only [if_pos c] | simp only [if_neg c] | skip) <;> (first | simp only [if_pos e] | simp only [if_neg e] | skip) <;> first | rfl | (simp; done) | omega
theorem nwI_no : nwI [110, 111] = 0 := by decide +kernel
theorem nwI_none : nwI [110, 111, 110, 101] = 0 := by decide +kernel
theorem nwI_one : nwI [49] = 1 := by decide +kernel
theorem nwS_no : nwS [110, 111] = 0 := by decide +kernel
theorem nwS_none : nwS [110, 111, 110, 101] = 0 := by decide +kernel
theorem nwS_and : nwS [97, 110, 100] = 0 := by decide +kernel
theorem nwS_one : nwS [49] = 1 := by decide +kernel
theorem pdI_back {d : Delivery} (hg : goodDel d = true) : pdI ([82, 101, 99, 101, 105, 118, 101, 114] :: (headW d ++ [lostW d])) = d := by
  obtain ⟨⟨r0, r1⟩, ⟨g0, g1⟩, ⟨p0, p1⟩, l0, l1⟩ := good_del hg
  obtain ⟨e1, e3, e5, -⟩ := five d (lostW d)
  unfold pdI
  rw [e1, e3, e5, lastW_app]
  obtain ⟨rc, gt, rp, ls⟩ := d
  dsimp only at r0 r1 g0 g1 p0 p1 l0 l1 ⊢
  have hr := nwI_dec (n := rc) (by omega) (by omega)
  have hl : nwI (lostW ⟨rc, gt, rp, ls⟩) = ls := by
    unfold lostW; dsimp only
    split
    · rw [nwI_none]; omega
    · exact nwI_dec l0 l1
  have hgt : nwI (if gt = 0 then [110, 111] else if gt = 1 then [49] else decI gt) = gt := by
    split
    · rw [nwI_no]; omega
    · split
      · rw [nwI_one]; omega
      · exact nwI_dec g0 g1
  rw [hr, hl, hgt]
  congr 1
  by_cases a : rp = 0
  · rw [if_pos a, if_neg (by decide), if_neg (by decide), if_pos rfl]; omega
  rw [if_neg a]
  by_cases b : gt = 1
  · rw [if_pos b, if_pos rfl]; omega
  rw [if_neg b]
  by_cases c : rp = gt
  · rw [if_pos c, if_neg (by decide), if_pos rfl]; omega
  rw [if_neg c]
  obtain ⟨n1, n2, n3⟩ := dig_not (dec_dig rp) (digit_pos _)
  rw [if_neg n1, if_neg n2, if_neg n3]
  exact nwI_dec p0 (by omega)
theorem pdS_back {d : Delivery} (hg : goodDel d = true) : pdS ([82, 101, 99, 101, 105, 118, 101, 114] :: (headW d ++ [lostW d ++ [46]])) = d := by
  obtain ⟨⟨r0, r1⟩, ⟨g0, g1⟩, ⟨p0, p1⟩, l0, l1⟩ := good_del hg
  obtain ⟨e1, e3, e5, -⟩ := five d (lostW d ++ [46])
  unfold pdS
  rw [e1, e3, e5, lastW_app, if_neg (show ¬ (lostW d ++ [46] = []) by simp), List.dropLast_concat]
  obtain ⟨rc, gt, rp, ls⟩ := d
  dsimp only at r0 r1 g0 g1 p0 p1 l0 l1 ⊢
  have hr := nwS_dec (n := rc) (by omega) (by omega)
  have hl : nwS (lostW ⟨rc, gt, rp, ls⟩) = ls := by
    unfold lostW; dsimp only
    split
    · rw [nwS_none]; omega
    · exact nwS_dec l0 l1
  have hgt : nwS (if gt = 0 then [110, 111] else if gt = 1 then [49] else decI gt) = gt := by
    split
    · rw [nwS_no]; omega
    · split
      · rw [nwS_one]; omega
      · exact nwS_dec g0 g1
  rw [hr, hl, hgt]
  congr 1
  by_cases a : rp = 0
  · rw [if_pos a, if_neg (by decide), nwS_and]; omega
  rw [if_neg a]
  by_cases b : gt = 1
  · rw [if_pos b, if_pos (.inr rfl)]; omega
  rw [if_neg b]
  by_cases c : rp = gt
  · rw [if_pos c, if_pos (.inl rfl)]; omega
  rw [if_neg c]
  obtain ⟨n1, n2, n3⟩ := dig_not (dec_dig rp) (digit_pos _)
  rw [if_neg fun h => h.elim n2 n1]
  exact nwS_dec p0 (by omega)
/-- without the stop at the end -/
def unDot (l : Bs) : Bs := Lib.trimSuffix l [46]
theorem unDot_at (l : Bs) : unDot (l ++ [46]) = l := by
  unfold unDot Lib.trimSuffix Lib.hasSuffix
  rw [if_pos (by rw [List.isSuffixOf_iff_suffix]; exact List.suffix_append _ _)]
  simp
def wsI (s : ByteArray) : List Bs := splitL 32 (unDot s.data.toList)
def wsS (s : ByteArray) : List Bs := splitL 32 s.data.toList
def okPDI (s : ByteArray) : Bool := !decide ((wsI s).length < 8) && goodDel (pdI (wsI s)) && decide (delT (pdI (wsI s)) = s)
def okPDS (s : ByteArray) : Bool := !(decide (90 < s.size) || decide ((wsS s).length < 8)) && goodDel (pdS (wsS s)) && decide (delT (pdS (wsS s)) = s)
def resPD (s : ByteArray) : Delivery × Bool := if okPDI s then (pdI (wsI s), true) else (zDel, false)
theorem delT_list (d : Delivery) : (delT d).data.toList = delB d ++ [46] := bz_list _
theorem wsI_del (d : Delivery) : wsI (delT d) = [82, 101, 99, 101, 105, 118, 101, 114] :: (headW d ++ [lostW d]) := by unfold wsI; rw [delT_list, unDot_at, split_del]
theorem wsS_del (d : Delivery) : wsS (delT d) = [82, 101, 99, 101, 105, 118, 101, 114] :: (headW d ++ [lostW d ++ [46]]) := by unfold wsS; rw [delT_list, split_dot]
theorem dec_len {n : Int} (h : n ≤ 1000000) : (decI n).length ≤ 7 := digit_len 6 _ (by omega)
theorem delT_size {d : Delivery} (hg : goodDel d = true) : (delT d).size ≤ 80 := by
  obtain ⟨⟨r0, r1⟩, ⟨g0, g1⟩, ⟨p0, p1⟩, l0, l1⟩ := good_del hg
  have hr : (decI d.receiver).length ≤ 1 := digit_len 0 _ (by omega)
  have hg := dec_len g1
  have hp := dec_len (n := d.repaired) (by omega)
  have hl := dec_len l1
  unfold delT
  rw [bz_size]
  unfold delB jnB headW
  have hi : ((itemW d).map fun w => 32 :: w).flatten.length ≤ 15 := by
    unfold itemW cmD
    by_cases a : d.repaired = 0 <;> by_cases b : d.got = 0 <;> by_cases c : d.got = 1 <;> (first | simp only [if_pos a] | simp only [if_neg a] | skip) <;> (first | simp only [if_pos b] | simp only [if_neg b] | skip) <;> (first | simp only [if_pos c] | simp only [if_neg c] | skip) <;> simp <;> omega
  have hw : ((repW d).map fun w => 32 :: w).flatten.length ≤ 26 := by
    unfold repW
    by_cases a : d.repaired = 0 <;> by_cases c : d.got = 1 <;> by_cases e : d.repaired = d.got <;> (first | simp only [if_pos a] | simp only [if_neg a] | skip) <;> (first | simp only [if_pos c] | simp only [if_neg c] | skip) <;> (first | simp only [if_pos e] | simp only [if_neg e] | skip) <;> simp <;> omega
  have hs : (lostW d).length ≤ 7 := by unfold lostW; split <;> first | exact hl | decide
  simp only [List.map_append, List.flatten_append, List.length_append, List.map_cons, List.map_nil, List.flatten_cons, List.flatten_nil, List.length_cons, List.length_nil]
  omega
theorem okPDI_del {d : Delivery} (hg : goodDel d = true) : okPDI (delT d) = true ∧ pdI (wsI (delT d)) = d := by
  unfold okPDI
  rw [wsI_del, pdI_back hg, hg, decide_eq_true rfl]
  have := (five d (lostW d)).2.2.2
  rw [decide_eq_false (by omega)]
  exact ⟨rfl, rfl⟩
theorem okPDS_del {d : Delivery} (hg : goodDel d = true) : okPDS (delT d) = true ∧ pdS (wsS (delT d)) = d := by
  unfold okPDS
  rw [wsS_del, pdS_back hg, hg, decide_eq_true rfl]
  have := (five d (lostW d ++ [46])).2.2.2
  have := delT_size hg
  rw [decide_eq_false (by omega), decide_eq_false (by omega)]
  exact ⟨rfl, rfl⟩
/-- the reference's answer is the program's -/
theorem resPD_S (s : ByteArray) : (if okPDS s then (pdS (wsS s), true) else (zDel, false)) = resPD s := by
  unfold resPD
  cases h : okPDS s
  · cases h2 : okPDI s
    · rfl
    · unfold okPDI at h2
      simp only [Bool.and_eq_true, decide_eq_true_eq] at h2
      obtain ⟨⟨-, hg⟩, e⟩ := h2
      rw [← e, (okPDS_del hg).1] at h
      cases h
  · have h0 := h
    unfold okPDS at h
    simp only [Bool.and_eq_true, decide_eq_true_eq] at h
    obtain ⟨⟨-, hg⟩, e⟩ := h
    have h2 := okPDI_del hg
    rw [e] at h2
    rw [h2.1, h2.2]
theorem resPD_back {d : Delivery} (hg : goodDel d = true) : resPD (delT d) = (d, true) := by
  unfold resPD
  rw [(okPDI_del hg).1, (okPDI_del hg).2]; rfl
end Go.Proofs.YtgogcgkocjpgoaaDoor
/- Structs of type Delivery in a walk's state: opened, closed. -/
namespace Go.Proofs.YtgogcgkocjpgoaaDoor
open Go.RowKit
section
variable {c : Cx} {fr : Fr} {H : List Pc} {Φ : Gl}
theorem atDelivery {a : Option Addr} {n cp : Nat} {xs : List Delivery} {F : List Nat} (i : Nat) (h : ∀ (hi : i < xs.length) (b o : Nat), a = some ⟨b, o, none⟩ → T c fr (.cel b (o + i * 4) [.int .i64 xs[i].receiver, .int .i64 xs[i].got, .int .i64 xs[i].repaired, .int .i64 xs[i].lost] :: H) Φ) (hm : .sl EDelivery (.slice a n cp) xs F ∈ H := by (repeat (first | exact .head _ | apply List.Mem.tail)); first | done | fail) (hi : i < xs.length := by omega) : T c fr H Φ := .mk fun ac w s g => by
  obtain ⟨b, o, cs, G, ha, hrep, hG, hb, hne, hr⟩ := sl_at (s.get hm) i hi
  obtain ⟨rfl, rfl⟩ := hrep
  exact (h hi b o  ha  ).h ac w (s.ro hm rfl rfl ⟨hne, hr⟩ (by intro x hx; simp [Pc.F] at hx; subst hx; exact hb)) g
theorem flatDelivery (x : Delivery)  (w : World) : Flat EDelivery w [.int .i64 x.receiver, .int .i64 x.got, .int .i64 x.repaired, .int .i64 x.lost] [x] [] := ⟨_, [], [], [], by simp, by simp, ⟨rfl, rfl⟩, rfl, rfl⟩
end
end Go.Proofs.YtgogcgkocjpgoaaDoor
/- What the types of this program are. -/
namespace Go.Proofs.YtgogcgkocjpgoaaDoor
open Go.RowKit
instance : OneC Tryd.prog 3 := ⟨⟨_, Tryd.underlying3, rfl⟩, by kernel_rfl⟩
instance : IntC Tryd.prog 3 .i64 := ⟨Tryd.underlying3⟩
instance : ZC Tryd.prog 3 [.int .i64 0] := ⟨⟨.int .i64 0, by kernel_rfl, rfl⟩⟩
instance : ElT Tryd.prog 3 (.int .i64 0) 1 8 := ⟨by kernel_rfl, rfl⟩
instance : OneC Tryd.prog 5 := ⟨⟨_, Tryd.underlying5, rfl⟩, by kernel_rfl⟩
instance : IntC Tryd.prog 5 .u8 := ⟨Tryd.underlying5⟩
instance : ZC Tryd.prog 5 [.int .u8 0] := ⟨⟨.int .u8 0, by kernel_rfl, rfl⟩⟩
instance : ElT Tryd.prog 5 (.int .u8 0) 1 1 := ⟨by kernel_rfl, rfl⟩
instance : OneC Tryd.prog 78 := ⟨⟨_, Tryd.underlying78, rfl⟩, by kernel_rfl⟩
instance : IntC Tryd.prog 78 .u64 := ⟨Tryd.underlying78⟩
instance : ZC Tryd.prog 78 [.int .u64 0] := ⟨⟨.int .u64 0, by kernel_rfl, rfl⟩⟩
instance : ElT Tryd.prog 78 (.int .u64 0) 1 8 := ⟨by kernel_rfl, rfl⟩
instance : OneC Tryd.prog 77 := ⟨⟨_, Tryd.underlying77, rfl⟩, by kernel_rfl⟩
instance : IntC Tryd.prog 77 .u64 := ⟨Tryd.underlying77⟩
instance : ZC Tryd.prog 77 [.int .u64 0] := ⟨⟨.int .u64 0, by kernel_rfl, rfl⟩⟩
instance : ElT Tryd.prog 77 (.int .u64 0) 1 8 := ⟨by kernel_rfl, rfl⟩
instance : OneC Tryd.prog 4 := ⟨⟨_, Tryd.underlying4, rfl⟩, by kernel_rfl⟩
instance : BoolC Tryd.prog 4 := ⟨Tryd.underlying4⟩
instance : ZC Tryd.prog 4 [.bool false] := ⟨⟨.bool false, by kernel_rfl, rfl⟩⟩
instance : ElT Tryd.prog 4 (.bool false) 1 1 := ⟨by kernel_rfl, rfl⟩
instance : OneC Tryd.prog 9 := ⟨⟨_, Tryd.underlying9, rfl⟩, by kernel_rfl⟩
instance : StrC Tryd.prog 9 := ⟨Tryd.underlying9⟩
instance : ZC Tryd.prog 9 [.string ⟨#[]⟩] := ⟨⟨.string ⟨#[]⟩, by kernel_rfl, rfl⟩⟩
instance : ElT Tryd.prog 9 (.string ⟨#[]⟩) 1 16 := ⟨by kernel_rfl, rfl⟩
instance : OneC Tryd.prog 21 := ⟨⟨_, Tryd.underlying21, rfl⟩, by kernel_rfl⟩
instance : IntC Tryd.prog 21 .i32 := ⟨Tryd.underlying21⟩
instance : ZC Tryd.prog 21 [.int .i32 0] := ⟨⟨.int .i32 0, by kernel_rfl, rfl⟩⟩
instance : ElT Tryd.prog 21 (.int .i32 0) 1 4 := ⟨by kernel_rfl, rfl⟩
instance : AggC Tryd.prog 23 4 := ⟨⟨_, Tryd.underlying23, rfl⟩, by kernel_rfl⟩
instance : FldC Tryd.prog 23 0 0 3 1 := ⟨⟨_, _, Tryd.underlying23, rfl, rfl, rfl⟩, by kernel_rfl, by decide⟩
instance : FldC Tryd.prog 23 1 1 3 1 := ⟨⟨_, _, Tryd.underlying23, rfl, rfl, rfl⟩, by kernel_rfl, by decide⟩
instance : FldC Tryd.prog 23 2 2 3 1 := ⟨⟨_, _, Tryd.underlying23, rfl, rfl, rfl⟩, by kernel_rfl, by decide⟩
instance : FldC Tryd.prog 23 3 3 3 1 := ⟨⟨_, _, Tryd.underlying23, rfl, rfl, rfl⟩, by kernel_rfl, by decide⟩
instance : ZC Tryd.prog 23 [.int .i64 0, .int .i64 0, .int .i64 0, .int .i64 0] := ⟨⟨.agg #[.int .i64 0, .int .i64 0, .int .i64 0, .int .i64 0], by kernel_rfl, rfl⟩⟩
instance : ElT Tryd.prog 23 (.agg #[.int .i64 0, .int .i64 0, .int .i64 0, .int .i64 0]) 4 32 := ⟨by kernel_rfl, rfl⟩
instance : BldC Tryd.prog 23 [(0, 1), (1, 1), (2, 1), (3, 1)] [.int .i64 0, .int .i64 0, .int .i64 0, .int .i64 0] := ⟨fun parts => by kernel_rfl⟩
instance : OneC Tryd.prog 28 := ⟨⟨_, Tryd.underlying28, rfl⟩, by kernel_rfl⟩
instance : SlC Tryd.prog 28 23 4 := ⟨Tryd.underlying28, by kernel_rfl⟩
instance : ZC Tryd.prog 28 [.slice none 0 0] := ⟨⟨.slice none 0 0, by kernel_rfl, rfl⟩⟩
instance : ElT Tryd.prog 28 (.slice none 0 0) 1 24 := ⟨by kernel_rfl, rfl⟩
instance : OneC Tryd.prog 33 := ⟨⟨_, Tryd.underlying33, rfl⟩, by kernel_rfl⟩
instance : SlC Tryd.prog 33 9 1 := ⟨Tryd.underlying33, by kernel_rfl⟩
instance : ZC Tryd.prog 33 [.slice none 0 0] := ⟨⟨.slice none 0 0, by kernel_rfl, rfl⟩⟩
instance : ElT Tryd.prog 33 (.slice none 0 0) 1 24 := ⟨by kernel_rfl, rfl⟩
instance : OneC Tryd.prog 61 := ⟨⟨_, Tryd.underlying61, rfl⟩, by kernel_rfl⟩
instance : SlC Tryd.prog 61 5 1 := ⟨Tryd.underlying61, by kernel_rfl⟩
instance : ZC Tryd.prog 61 [.slice none 0 0] := ⟨⟨.slice none 0 0, by kernel_rfl, rfl⟩⟩
instance : ElT Tryd.prog 61 (.slice none 0 0) 1 24 := ⟨by kernel_rfl, rfl⟩
end Go.Proofs.YtgogcgkocjpgoaaDoor
/- A call that reads what is owned, and gives new pieces. -/
namespace Go.Proofs.YtgogcgkocjpgoaaDoor
open Go.RowKit
theorem sep_roA : ∀ (A : List Pc), A.all (fun p => !p.mu) = true → Sep A
  | [], _ => trivial
  | p :: A, h => by
    simp only [List.all_cons, Bool.and_eq_true, Bool.not_eq_true'] at h
    exact ⟨fun q hq hm => by
      have hq' := List.all_eq_true.1 h.2 q hq
      simp only [Bool.not_eq_true'] at hq'
      rw [h.1, hq'] at hm; simp at hm, sep_roA A h.2⟩
section
variable {c : Cx} {fr : Fr} {H : List Pc} {d : Nat} {Φ : Gl}
theorem cfr {f : Nat} {vs : List Value} {σ : Type} {C : σ → Prop} {vv : σ → Value} {N : σ → List Pc} (hf : ∀ w, St c.G c.D c.w0 H w → ∃ A, Hol A w ∧ A.all (fun p => !p.mu) = true ∧ Fn c.P f vs A [] C vv N)
    (h : ∀ s, C s → T c ((d, vv s) :: fr) (N s ++ H) Φ) (hN : ∀ s, (N s).all (·.mu) = true := by intro s; rfl) : Cl c fr H d f vs Φ :=
  cl_of (R := fun w e w' => ∃ s, C s ∧ e = .returned (vv s) ∧ Hol (N s) w' ∧ Sep (N s) ∧ Keep [] w w' ∧ ∀ p ∈ N s, ∀ b ∈ p.F, w.heap.size ≤ b)
    (fun w s => by
      obtain ⟨A, hA, hm, hF⟩ := hf w s
      refine (hF w (by simpa using hA) (by simpa using sep_roA A hm)).mono fun e w' ⟨z, hz, he, h1, h2, h3, h4⟩ => ⟨z, hz, he, h1, h2, h3, fun p hp b hb => ?_⟩
      rcases h4 p hp b hb with h | ⟨q, hq, -⟩ | ⟨hp', -⟩
      · exact h
      · cases hq
      · have := List.all_eq_true.1 (hN z) p hp
        rw [hp'] at this; cases this)
    (fun w e w' s ⟨z, hz, he, h1, h2, h3, h4⟩ => ⟨_, he, fun a g => (h z hz).h a w' (St.turn (M := []) (R := H) (N := N z) s h3 h1 h2 fun p hp b hb => .inl (h4 p hp b hb)) g⟩)
end
end Go.Proofs.YtgogcgkocjpgoaaDoor
/- Deliveries: checked, written as sentences; the program and the reference. -/
namespace Go.Proofs.YtgogcgkocjpgoaaDoor
open Go.RowKit
theorem isFaceD_c (x : Int) (w : World) : Calls Tryd.prog 45 #[.int .i64 x] w fun e w' => e = .returned (.bool (btw 1 x 7)) ∧ w = w' := by
  go_enter Tryd.func45, Tryd.ntmps45
  go_wp2_with (go_at_call 47; refine (within_c _ _ _ _).mono ?_; rintro e w' ⟨rfl, rfl⟩)
  go_ret
  exact ⟨rfl, rfl⟩
theorem isCountD_c (x : Int) (w : World) : Calls Tryd.prog 46 #[.int .i64 x] w fun e w' => e = .returned (.bool (btw 0 x 1000000)) ∧ w = w' := by
  go_enter Tryd.func46, Tryd.ntmps46
  go_wp2_with (go_at_call 47; refine (within_c _ _ _ _).mono ?_; rintro e w' ⟨rfl, rfl⟩)
  go_ret
  exact ⟨rfl, rfl⟩
theorem l21Node_c (x : Int) (w : World) : Calls Tryd.prog 33 #[.int .i64 x] w fun e w' => e = .returned (.bool (btw 1 x 7)) ∧ w = w' := by
  go_enter Tryd.func33, Tryd.ntmps33
  go_wp2_with (go_at_call 35; refine (l1In_c _ _ _ _).mono ?_; rintro e w' ⟨rfl, rfl⟩)
  go_ret
  exact ⟨rfl, rfl⟩
theorem l26Count_c (x : Int) (w : World) : Calls Tryd.prog 34 #[.int .i64 x] w fun e w' => e = .returned (.bool (btw 0 x 1000000)) ∧ w = w' := by
  go_enter Tryd.func34, Tryd.ntmps34
  go_wp2_with (go_at_call 35; refine (l1In_c _ _ _ _).mono ?_; rintro e w' ⟨rfl, rfl⟩)
  go_ret
  exact ⟨rfl, rfl⟩
theorem itoa_dec {n : Int} (h : 0 ≤ n) : Lib.itoa n = decI n := by unfold Lib.itoa decI; rw [if_neg (by omega)]
theorem itoa7_c (n : Int) (h0 : 0 ≤ n) (h1 : n ≤ 1000000) (FT : List Nat) (w : World) (hT : (EnvP FT).P w) :
    Calls Tryd.prog 48 #[.int .i64 n] w fun e w' => e = .returned (.string (bz (decI n))) ∧ Below w.heap.size w w' := by
  have := itoa_c n (by omega) (by omega) FT w hT
  rw [itoa_dec h0] at this
  exact this
theorem num7_c (n : Int) (h0 : 0 ≤ n) (h1 : n ≤ 1000000) (w : World) : Calls Tryd.prog 36 #[.int .i64 n] w fun e w2 => e = .returned (.string (bz (decI n))) ∧ Below w.heap.size w w2 := by
  obtain ⟨k, rfl⟩ : ∃ k : Nat, n = k := ⟨n.toNat, by omega⟩
  refine (l1Num_c 6 k w (by omega) (by omega)).mono ?_
  rintro e w2 ⟨rfl, j, rfl⟩
  exact ⟨rfl, belowDrewN (Below.refl _ _) j⟩
theorem lit_app (a : Bs) (b : List UInt8) : bz (a ++ b) = bz a ++ ⟨b.toArray⟩ := (bz_app a b).symm
def itemsB (n : Int) : Bs := if n = 0 then [110, 111, 32, 105, 116, 101, 109, 115] else if n = 1 then [49, 32, 105, 116, 101, 109] else decI n ++ [32, 105, 116, 101, 109, 115]
def repsB (d : Delivery) : Bs := if d.repaired = 0 then [] else if d.got = 1 then [44, 32, 114, 101, 112, 97, 105, 114, 101, 100, 44] else if d.repaired = d.got then [44, 32, 97, 108, 108, 32, 111, 102, 32, 116, 104, 101, 109, 32, 114, 101, 112, 97, 105, 114, 101, 100, 44] else [44, 32] ++ decI d.repaired ++ [32, 111, 102, 32, 116, 104, 101, 109, 32, 114, 101, 112, 97, 105, 114, 101, 100, 44]
theorem itemsB_len {n : Int} (h : n ≤ 1000000) : (itemsB n).length ≤ 13 := by
  have := dec_len h
  unfold itemsB
  split <;> (try split) <;> simp <;> omega
theorem repsB_len {d : Delivery} (h : d.repaired ≤ 1000000) : (repsB d).length ≤ 30 := by
  have := dec_len h
  unfold repsB
  split <;> (try split) <;> (try split) <;> simp <;> omega
def resDT (d : Delivery) : ByteArray × Bool := if goodDel d then (delT d, true) else (⟨#[]⟩, false)
theorem delB_text (d : Delivery) : delB d ++ [46] = [82, 101, 99, 101, 105, 118, 101, 114, 32] ++ decI d.receiver ++ [32, 103, 111, 116, 32] ++ itemsB d.got ++ repsB d ++ [32, 97, 110, 100, 32, 108, 111, 115, 116, 32] ++ lostW d ++ [46] := by
  unfold delB jnB headW itemW repW itemsB repsB cmD
  by_cases a : d.repaired = 0 <;> by_cases b : d.got = 0 <;> by_cases c : d.got = 1 <;> by_cases e : d.repaired = d.got <;> (first | simp only [if_pos a] | simp only [if_neg a] | skip) <;> (first | simp only [if_pos b] | simp only [if_neg b] | skip) <;> (first | simp only [if_pos c] | simp only [if_neg c] | skip) <;> (first | simp only [if_pos e] | simp only [if_neg e] | skip) <;> first | omega | (simp; done)
theorem text_at (d : Delivery) : ⟨#[82, 101, 99, 101, 105, 118, 101, 114, 32]⟩ ++ bz (decI d.receiver) ++ ⟨#[32, 103, 111, 116, 32]⟩ ++ bz (itemsB d.got) ++ bz (repsB d) ++ ⟨#[32, 97, 110, 100, 32, 108, 111, 115, 116, 32]⟩ ++ bz (lostW d) ++ ⟨#[46]⟩ = delT d := by
  apply ByteArray.ext
  unfold delT
  rw [delB_text]
  simp [bz, ByteArray.data_append]
set_option maxRecDepth 100000 in
theorem itemsText_f (n : Int) (FT : List Nat) (h0 : 0 ≤ n) (h1 : n ≤ 1000000) : Fn Tryd.prog 49 [.int .i64 n] [EnvP FT] [] (fun (_ : Unit) => True) (fun _ => .string (bz (itemsB n))) (fun _ => []) := by
  have hz : (bz (decI n)).size ≤ 7 := by rw [bz_size]; exact dec_len h1
  have ql1 : (⟨#[32, 105, 116, 101, 109, 115]⟩ : ByteArray).size = 6 := rfl
  have q0 : (bz (decI n) ++ ⟨#[32, 105, 116, 101, 109, 115]⟩).size = _ := ByteArray.size_append
  refine enter Tryd.func49 rfl Tryd.ntmps49 fun w0 => ?_
  refine go ?_; intros
  refine c_if rfl (fun e0 => ?_) (fun e0 => ?_)
  · refine go ?_; intros
    rw [show bz (itemsB n) = ⟨#[110, 111, 32, 105, 116, 101, 109, 115]⟩ by unfold itemsB; rw [if_pos e0]; rfl]
    refine ret () trivial rfl
  refine go ?_; intros
  refine c_if rfl (fun e1 => ?_) (fun e1 => ?_)
  · refine go ?_; intros
    rw [show bz (itemsB n) = ⟨#[49, 32, 105, 116, 101, 109]⟩ by unfold itemsB; rw [if_neg e0, if_pos e1]; rfl]
    refine ret () trivial rfl
  refine go ?_; intros
  refine cb (fun w st => itoa7_c n (by omega) (by omega) FT w (st.get (p := EnvP FT) (by simp))) ?_
  refine go ?_; intros
  rw [show bz (itemsB n) = bz (decI n) ++ ⟨#[32, 105, 116, 101, 109, 115]⟩ by unfold itemsB; rw [if_neg e0, if_neg e1, lit_app]]
  refine ret () trivial rfl
set_option maxRecDepth 100000 in
theorem l26Items_f (n : Int) (FT : List Nat) (h0 : 0 ≤ n) (h1 : n ≤ 1000000) : Fn Tryd.prog 37 [.int .i64 n] [EnvP FT] [] (fun (_ : Unit) => True) (fun _ => .string (bz (itemsB n))) (fun _ => []) := by
  have hz : (bz (decI n)).size ≤ 7 := by rw [bz_size]; exact dec_len h1
  have ql1 : (⟨#[32, 105, 116, 101, 109, 115]⟩ : ByteArray).size = 6 := rfl
  have q0 : (bz (decI n) ++ ⟨#[32, 105, 116, 101, 109, 115]⟩).size = _ := ByteArray.size_append
  refine enter Tryd.func37 rfl Tryd.ntmps37 fun w0 => ?_
  refine go ?_; intros
  refine c_if rfl (fun e0 => ?_) (fun e0 => ?_)
  · refine go ?_; intros
    rw [show bz (itemsB n) = ⟨#[110, 111, 32, 105, 116, 101, 109, 115]⟩ by unfold itemsB; rw [if_pos e0]; rfl]
    refine ret () trivial rfl
  refine go ?_; intros
  refine c_if rfl (fun e1 => ?_) (fun e1 => ?_)
  · refine go ?_; intros
    rw [show bz (itemsB n) = ⟨#[49, 32, 105, 116, 101, 109]⟩ by unfold itemsB; rw [if_neg e0, if_pos e1]; rfl]
    refine ret () trivial rfl
  refine go ?_; intros
  refine cb (fun w st => num7_c n (by omega) (by omega) w) ?_
  refine go ?_; intros
  rw [show bz (itemsB n) = bz (decI n) ++ ⟨#[32, 105, 116, 101, 109, 115]⟩ by unfold itemsB; rw [if_neg e0, if_neg e1, lit_app]]
  refine ret () trivial rfl
set_option maxRecDepth 100000 in
theorem repairsText_f (d : Delivery) (FT : List Nat) (h0 : 0 ≤ d.repaired) (h1 : d.repaired ≤ 1000000) : Fn Tryd.prog 50 [.agg #[.int .i64 d.receiver, .int .i64 d.got, .int .i64 d.repaired, .int .i64 d.lost]] [EnvP FT] [] (fun (_ : Unit) => True) (fun _ => .string (bz (repsB d))) (fun _ => []) := by
  have hz : (bz (decI d.repaired)).size ≤ 7 := by rw [bz_size]; exact dec_len h1
  have ql0 : (⟨#[44, 32]⟩ : ByteArray).size = 2 := rfl
  have ql2 : (⟨#[32, 111, 102, 32, 116, 104, 101, 109, 32, 114, 101, 112, 97, 105, 114, 101, 100, 44]⟩ : ByteArray).size = 18 := rfl
  have q0 : (⟨#[44, 32]⟩ ++ bz (decI d.repaired)).size = _ := ByteArray.size_append
  have q1 : (⟨#[44, 32]⟩ ++ bz (decI d.repaired) ++ ⟨#[32, 111, 102, 32, 116, 104, 101, 109, 32, 114, 101, 112, 97, 105, 114, 101, 100, 44]⟩).size = _ := ByteArray.size_append
  refine enter Tryd.func50 rfl Tryd.ntmps50 fun w0 => ?_
  refine go ?_; intros
  refine c_if rfl (fun e0 => ?_) (fun e0 => ?_)
  · refine go ?_; intros
    rw [show bz (repsB d) = ⟨#[]⟩ by unfold repsB; rw [if_pos e0]; rfl]
    refine ret () trivial rfl
  refine go ?_; intros
  refine c_if rfl (fun e1 => ?_) (fun e1 => ?_)
  · refine go ?_; intros
    rw [show bz (repsB d) = ⟨#[44, 32, 114, 101, 112, 97, 105, 114, 101, 100, 44]⟩ by unfold repsB; rw [if_neg e0, if_pos e1]; rfl]
    refine ret () trivial rfl
  refine go ?_; intros
  refine c_if rfl (fun e2 => ?_) (fun e2 => ?_)
  · refine go ?_; intros
    rw [show bz (repsB d) = ⟨#[44, 32, 97, 108, 108, 32, 111, 102, 32, 116, 104, 101, 109, 32, 114, 101, 112, 97, 105, 114, 101, 100, 44]⟩ by unfold repsB; rw [if_neg e0, if_neg e1, if_pos e2]; rfl]
    refine ret () trivial rfl
  refine go ?_; intros
  refine cb (fun w st => itoa7_c d.repaired (by omega) (by omega) FT w (st.get (p := EnvP FT) (by simp))) ?_
  refine go ?_; intros
  rw [show bz (repsB d) = ⟨#[44, 32]⟩ ++ bz (decI d.repaired) ++ ⟨#[32, 111, 102, 32, 116, 104, 101, 109, 32, 114, 101, 112, 97, 105, 114, 101, 100, 44]⟩ by unfold repsB; rw [if_neg e0, if_neg e1, if_neg e2]; apply ByteArray.ext; simp [bz, ByteArray.data_append]]
  refine ret () trivial rfl
set_option maxRecDepth 100000 in
theorem l26Repairs_f (d : Delivery) (FT : List Nat) (h0 : 0 ≤ d.repaired) (h1 : d.repaired ≤ 1000000) : Fn Tryd.prog 38 [.agg #[.int .i64 d.receiver, .int .i64 d.got, .int .i64 d.repaired, .int .i64 d.lost]] [EnvP FT] [] (fun (_ : Unit) => True) (fun _ => .string (bz (repsB d))) (fun _ => []) := by
  have hz : (bz (decI d.repaired)).size ≤ 7 := by rw [bz_size]; exact dec_len h1
  have ql0 : (⟨#[44, 32]⟩ : ByteArray).size = 2 := rfl
  have ql2 : (⟨#[32, 111, 102, 32, 116, 104, 101, 109, 32, 114, 101, 112, 97, 105, 114, 101, 100, 44]⟩ : ByteArray).size = 18 := rfl
  have q0 : (⟨#[44, 32]⟩ ++ bz (decI d.repaired)).size = _ := ByteArray.size_append
  have q1 : (⟨#[44, 32]⟩ ++ bz (decI d.repaired) ++ ⟨#[32, 111, 102, 32, 116, 104, 101, 109, 32, 114, 101, 112, 97, 105, 114, 101, 100, 44]⟩).size = _ := ByteArray.size_append
  refine enter Tryd.func38 rfl Tryd.ntmps38 fun w0 => ?_
  refine go ?_; intros
  refine c_if rfl (fun e0 => ?_) (fun e0 => ?_)
  · refine go ?_; intros
    rw [show bz (repsB d) = ⟨#[]⟩ by unfold repsB; rw [if_pos e0]; rfl]
    refine ret () trivial rfl
  refine go ?_; intros
  refine c_if rfl (fun e1 => ?_) (fun e1 => ?_)
  · refine go ?_; intros
    rw [show bz (repsB d) = ⟨#[44, 32, 114, 101, 112, 97, 105, 114, 101, 100, 44]⟩ by unfold repsB; rw [if_neg e0, if_pos e1]; rfl]
    refine ret () trivial rfl
  refine go ?_; intros
  refine c_if rfl (fun e2 => ?_) (fun e2 => ?_)
  · refine go ?_; intros
    rw [show bz (repsB d) = ⟨#[44, 32, 97, 108, 108, 32, 111, 102, 32, 116, 104, 101, 109, 32, 114, 101, 112, 97, 105, 114, 101, 100, 44]⟩ by unfold repsB; rw [if_neg e0, if_neg e1, if_pos e2]; rfl]
    refine ret () trivial rfl
  refine go ?_; intros
  refine cb (fun w st => num7_c d.repaired (by omega) (by omega) w) ?_
  refine go ?_; intros
  rw [show bz (repsB d) = ⟨#[44, 32]⟩ ++ bz (decI d.repaired) ++ ⟨#[32, 111, 102, 32, 116, 104, 101, 109, 32, 114, 101, 112, 97, 105, 114, 101, 100, 44]⟩ by unfold repsB; rw [if_neg e0, if_neg e1, if_neg e2]; apply ByteArray.ext; simp [bz, ByteArray.data_append]]
  refine ret () trivial rfl
set_option maxRecDepth 100000 in
theorem IsValidDelivery_f (d : Delivery) : Fn Tryd.prog 28 [.agg #[.int .i64 d.receiver, .int .i64 d.got, .int .i64 d.repaired, .int .i64 d.lost]] [] [] (fun (_ : Unit) => True) (fun _ => .bool (goodDel d)) (fun _ => []) := by
  refine enter Tryd.func28 rfl Tryd.ntmps28 fun w0 => ?_
  unfold goodDel
  refine go ?_; intros
  refine ce (fun w s => isFaceD_c _ _) ?_
  cases g1 : btw 1 d.receiver 7
  · refine go ?_; intros
    refine ret () trivial rfl
  refine go ?_; intros
  refine ce (fun w s => isCountD_c d.got _) ?_
  cases g2 : btw 0 d.got 1000000
  · refine go ?_; intros
    refine ret () trivial rfl
  refine go ?_; intros
  refine ce (fun w s => within_c _ _ _ _) ?_
  cases g3 : btw 0 d.repaired d.got
  · refine go ?_; intros
    refine ret () trivial rfl
  refine go ?_; intros
  refine ce (fun w s => isCountD_c d.lost _) ?_
  cases g4 : btw 0 d.lost 1000000
  all_goals
    refine go ?_; intros
    refine ret () trivial rfl
set_option maxRecDepth 100000 in
theorem l26One_f (d : Delivery) : Fn Tryd.prog 23 [.agg #[.int .i64 d.receiver, .int .i64 d.got, .int .i64 d.repaired, .int .i64 d.lost]] [] [] (fun (_ : Unit) => True) (fun _ => .bool (goodDel d)) (fun _ => []) := by
  refine enter Tryd.func23 rfl Tryd.ntmps23 fun w0 => ?_
  unfold goodDel
  refine go ?_; intros
  refine ce (fun w s => l21Node_c _ _) ?_
  cases g1 : btw 1 d.receiver 7
  · refine go ?_; intros
    refine ret () trivial rfl
  refine go ?_; intros
  refine ce (fun w s => l26Count_c d.got _) ?_
  cases g2 : btw 0 d.got 1000000
  · refine go ?_; intros
    refine ret () trivial rfl
  refine go ?_; intros
  refine ce (fun w s => l1In_c _ _ _ _) ?_
  cases g3 : btw 0 d.repaired d.got
  · refine go ?_; intros
    refine ret () trivial rfl
  refine go ?_; intros
  refine ce (fun w s => l26Count_c d.lost _) ?_
  cases g4 : btw 0 d.lost 1000000
  all_goals
    refine go ?_; intros
    refine ret () trivial rfl
set_option maxRecDepth 100000 in
theorem deliveryText_f (d : Delivery) (FT : List Nat) (hg : goodDel d = true) : Fn Tryd.prog 29 [.agg #[.int .i64 d.receiver, .int .i64 d.got, .int .i64 d.repaired, .int .i64 d.lost]] [EnvP FT] [] (fun (_ : Unit) => True) (fun _ => .string (delT d)) (fun _ => []) := by
  obtain ⟨⟨r0, r1⟩, ⟨g0, g1⟩, ⟨p0, p1⟩, l0, l1⟩ := good_del hg
  have hT := text_at d
  have z1 : (bz (decI d.receiver)).size ≤ 7 := by rw [bz_size]; exact dec_len (by omega)
  have z2 : (bz (itemsB d.got)).size ≤ 13 := by rw [bz_size]; exact itemsB_len g1
  have z3 : (bz (repsB d)).size ≤ 30 := by rw [bz_size]; exact repsB_len (by omega)
  have z4 : (bz (decI d.lost)).size ≤ 7 := by rw [bz_size]; exact dec_len l1
  have z5 : (bz (lostW d)).size ≤ 7 := by rw [bz_size]; unfold lostW; split <;> first | exact dec_len l1 | decide
  have ql0 : (⟨#[82, 101, 99, 101, 105, 118, 101, 114, 32]⟩ : ByteArray).size = 9 := rfl
  have ql2 : (⟨#[32, 103, 111, 116, 32]⟩ : ByteArray).size = 5 := rfl
  have ql5 : (⟨#[32, 97, 110, 100, 32, 108, 111, 115, 116, 32]⟩ : ByteArray).size = 10 := rfl
  have ql7 : (⟨#[46]⟩ : ByteArray).size = 1 := rfl
  have q0 : (⟨#[82, 101, 99, 101, 105, 118, 101, 114, 32]⟩ ++ bz (decI d.receiver)).size = _ := ByteArray.size_append
  have q1 : (⟨#[82, 101, 99, 101, 105, 118, 101, 114, 32]⟩ ++ bz (decI d.receiver) ++ ⟨#[32, 103, 111, 116, 32]⟩).size = _ := ByteArray.size_append
  have q2 : (⟨#[82, 101, 99, 101, 105, 118, 101, 114, 32]⟩ ++ bz (decI d.receiver) ++ ⟨#[32, 103, 111, 116, 32]⟩ ++ bz (itemsB d.got)).size = _ := ByteArray.size_append
  have q3 : (⟨#[82, 101, 99, 101, 105, 118, 101, 114, 32]⟩ ++ bz (decI d.receiver) ++ ⟨#[32, 103, 111, 116, 32]⟩ ++ bz (itemsB d.got) ++ bz (repsB d)).size = _ := ByteArray.size_append
  have q4 : (⟨#[82, 101, 99, 101, 105, 118, 101, 114, 32]⟩ ++ bz (decI d.receiver) ++ ⟨#[32, 103, 111, 116, 32]⟩ ++ bz (itemsB d.got) ++ bz (repsB d) ++ ⟨#[32, 97, 110, 100, 32, 108, 111, 115, 116, 32]⟩).size = _ := ByteArray.size_append
  have q5 : (⟨#[82, 101, 99, 101, 105, 118, 101, 114, 32]⟩ ++ bz (decI d.receiver) ++ ⟨#[32, 103, 111, 116, 32]⟩ ++ bz (itemsB d.got) ++ bz (repsB d) ++ ⟨#[32, 97, 110, 100, 32, 108, 111, 115, 116, 32]⟩ ++ bz (lostW d)).size = _ := ByteArray.size_append
  have q6 : (⟨#[82, 101, 99, 101, 105, 118, 101, 114, 32]⟩ ++ bz (decI d.receiver) ++ ⟨#[32, 103, 111, 116, 32]⟩ ++ bz (itemsB d.got) ++ bz (repsB d) ++ ⟨#[32, 97, 110, 100, 32, 108, 111, 115, 116, 32]⟩ ++ bz (lostW d) ++ ⟨#[46]⟩).size = _ := ByteArray.size_append
  refine enter Tryd.func29 rfl Tryd.ntmps29 fun w0 => ?_
  refine go ?_; intros
  refine c_if rfl (fun e0 => ?_) (fun e0 => ?_)
  · refine go ?_; intros
    refine cb (fun w st => itoa7_c d.lost (by omega) (by omega) FT w (st.get (p := EnvP FT) (by simp))) ?_
    have eL : bz (lostW d) = bz (decI d.lost) := by unfold lostW; rw [if_neg (by omega)]
    rw [eL] at hT q5 q6 z5
    refine goN ?_; intros
    refine d_start [0] [] ?_
    refine dt 0 ?_
    refine dt 1 ?_
    refine dt 5 ?_
    refine dt 6 ?_
    refine dt 9 ?_
    refine dt 13 ?_
    refine dO 2 (by kernel_rfl) (by rw [List.getElem?_toArray]; rfl) ?_
    apply o_call; rfl; kernel_rfl; exact evsE
    refine cb (fun w st => itoa7_c d.receiver (by omega) (by omega) FT w (st.get (p := EnvP FT) (by simp))) ?_
    refine dk ?_
    refine dt 3 ?_
    refine dt 4 ?_
    refine dO 7 (by kernel_rfl) (by rw [List.getElem?_toArray]; rfl) ?_
    apply o_call; rfl; kernel_rfl; exact evsE
    refine cb (fun w st => (itemsText_f d.got FT (by omega) (by omega)).val w (hol1 (st.get (p := EnvP FT) (by simp)))) ?_
    refine dk ?_
    refine dt 8 ?_
    refine dO 10 (by kernel_rfl) (by rw [List.getElem?_toArray]; rfl) ?_
    apply o_call; rfl; kernel_rfl; exact evsE
    refine cb (fun w st => (repairsText_f d FT (by omega) (by omega)).val w (hol1 (st.get (p := EnvP FT) (by simp)))) ?_
    refine dk ?_
    refine dt 11 ?_
    refine dt 12 ?_
    refine dt 14 ?_
    refine dt 15 ?_
    refine dt 16 ?_
    refine dd ?_
    refine go ?_; intros
    rw [hT]
    refine ret () trivial rfl
  · have eL : bz (lostW d) = ⟨#[110, 111, 110, 101]⟩ := by unfold lostW; rw [if_pos (by omega)]; rfl
    rw [eL] at hT q5 q6 z5
    refine goN ?_; intros
    refine d_start [0] [] ?_
    refine dt 0 ?_
    refine dt 1 ?_
    refine dt 5 ?_
    refine dt 6 ?_
    refine dt 9 ?_
    refine dt 13 ?_
    refine dO 2 (by kernel_rfl) (by rw [List.getElem?_toArray]; rfl) ?_
    apply o_call; rfl; kernel_rfl; exact evsE
    refine cb (fun w st => itoa7_c d.receiver (by omega) (by omega) FT w (st.get (p := EnvP FT) (by simp))) ?_
    refine dk ?_
    refine dt 3 ?_
    refine dt 4 ?_
    refine dO 7 (by kernel_rfl) (by rw [List.getElem?_toArray]; rfl) ?_
    apply o_call; rfl; kernel_rfl; exact evsE
    refine cb (fun w st => (itemsText_f d.got FT (by omega) (by omega)).val w (hol1 (st.get (p := EnvP FT) (by simp)))) ?_
    refine dk ?_
    refine dt 8 ?_
    refine dO 10 (by kernel_rfl) (by rw [List.getElem?_toArray]; rfl) ?_
    apply o_call; rfl; kernel_rfl; exact evsE
    refine cb (fun w st => (repairsText_f d FT (by omega) (by omega)).val w (hol1 (st.get (p := EnvP FT) (by simp)))) ?_
    refine dk ?_
    refine dt 11 ?_
    refine dt 12 ?_
    refine dt 14 ?_
    refine dt 15 ?_
    refine dt 16 ?_
    refine dd ?_
    refine go ?_; intros
    rw [hT]
    refine ret () trivial rfl
set_option maxRecDepth 100000 in
theorem l26Text_f (d : Delivery) (FT : List Nat) (hg : goodDel d = true) : Fn Tryd.prog 24 [.agg #[.int .i64 d.receiver, .int .i64 d.got, .int .i64 d.repaired, .int .i64 d.lost]] [EnvP FT] [] (fun (_ : Unit) => True) (fun _ => .string (delT d)) (fun _ => []) := by
  obtain ⟨⟨r0, r1⟩, ⟨g0, g1⟩, ⟨p0, p1⟩, l0, l1⟩ := good_del hg
  have hT := text_at d
  have z1 : (bz (decI d.receiver)).size ≤ 7 := by rw [bz_size]; exact dec_len (by omega)
  have z2 : (bz (itemsB d.got)).size ≤ 13 := by rw [bz_size]; exact itemsB_len g1
  have z3 : (bz (repsB d)).size ≤ 30 := by rw [bz_size]; exact repsB_len (by omega)
  have z4 : (bz (decI d.lost)).size ≤ 7 := by rw [bz_size]; exact dec_len l1
  have z5 : (bz (lostW d)).size ≤ 7 := by rw [bz_size]; unfold lostW; split <;> first | exact dec_len l1 | decide
  have z6 : (⟨#[110, 111, 110, 101, 46]⟩ : ByteArray).size = 5 := rfl
  have ql0 : (⟨#[82, 101, 99, 101, 105, 118, 101, 114, 32]⟩ : ByteArray).size = 9 := rfl
  have ql2 : (⟨#[32, 103, 111, 116, 32]⟩ : ByteArray).size = 5 := rfl
  have ql5 : (⟨#[32, 97, 110, 100, 32, 108, 111, 115, 116, 32]⟩ : ByteArray).size = 10 := rfl
  have ql7 : (⟨#[46]⟩ : ByteArray).size = 1 := rfl
  have q0 : (⟨#[82, 101, 99, 101, 105, 118, 101, 114, 32]⟩ ++ bz (decI d.receiver)).size = _ := ByteArray.size_append
  have q1 : (⟨#[82, 101, 99, 101, 105, 118, 101, 114, 32]⟩ ++ bz (decI d.receiver) ++ ⟨#[32, 103, 111, 116, 32]⟩).size = _ := ByteArray.size_append
  have q2 : (⟨#[82, 101, 99, 101, 105, 118, 101, 114, 32]⟩ ++ bz (decI d.receiver) ++ ⟨#[32, 103, 111, 116, 32]⟩ ++ bz (itemsB d.got)).size = _ := ByteArray.size_append
  have q3 : (⟨#[82, 101, 99, 101, 105, 118, 101, 114, 32]⟩ ++ bz (decI d.receiver) ++ ⟨#[32, 103, 111, 116, 32]⟩ ++ bz (itemsB d.got) ++ bz (repsB d)).size = _ := ByteArray.size_append
  have q4 : (⟨#[82, 101, 99, 101, 105, 118, 101, 114, 32]⟩ ++ bz (decI d.receiver) ++ ⟨#[32, 103, 111, 116, 32]⟩ ++ bz (itemsB d.got) ++ bz (repsB d) ++ ⟨#[32, 97, 110, 100, 32, 108, 111, 115, 116, 32]⟩).size = _ := ByteArray.size_append
  have q5 : (⟨#[82, 101, 99, 101, 105, 118, 101, 114, 32]⟩ ++ bz (decI d.receiver) ++ ⟨#[32, 103, 111, 116, 32]⟩ ++ bz (itemsB d.got) ++ bz (repsB d) ++ ⟨#[32, 97, 110, 100, 32, 108, 111, 115, 116, 32]⟩ ++ bz (lostW d)).size = _ := ByteArray.size_append
  have q6 : (⟨#[82, 101, 99, 101, 105, 118, 101, 114, 32]⟩ ++ bz (decI d.receiver) ++ ⟨#[32, 103, 111, 116, 32]⟩ ++ bz (itemsB d.got) ++ bz (repsB d) ++ ⟨#[32, 97, 110, 100, 32, 108, 111, 115, 116, 32]⟩ ++ bz (lostW d) ++ ⟨#[46]⟩).size = _ := ByteArray.size_append
  refine enter Tryd.func24 rfl Tryd.ntmps24 fun w0 => ?_
  refine goN ?_; intros
  refine d_start [0] [] ?_
  refine dt 0 ?_
  refine dt 1 ?_
  refine dt 5 ?_
  refine dt 6 ?_
  refine dt 9 ?_
  refine dO 2 (by kernel_rfl) (by rw [List.getElem?_toArray]; rfl) ?_
  apply o_call; rfl; kernel_rfl; exact evsE
  refine cb (fun w st => num7_c d.receiver (by omega) (by omega) w) ?_
  refine dk ?_
  refine dt 3 ?_
  refine dt 4 ?_
  refine dO 7 (by kernel_rfl) (by rw [List.getElem?_toArray]; rfl) ?_
  apply o_call; rfl; kernel_rfl; exact evsE
  refine cb (fun w st => (l26Items_f d.got FT (by omega) (by omega)).val w (hol1 (st.get (p := EnvP FT) (by simp)))) ?_
  refine dk ?_
  refine dt 8 ?_
  refine dO 10 (by kernel_rfl) (by rw [List.getElem?_toArray]; rfl) ?_
  apply o_call; rfl; kernel_rfl; exact evsE
  refine cb (fun w st => (l26Repairs_f d FT (by omega) (by omega)).val w (hol1 (st.get (p := EnvP FT) (by simp)))) ?_
  refine dk ?_
  refine dt 11 ?_
  refine dt 12 ?_
  refine dt 13 ?_
  refine dd ?_
  refine go ?_; intros
  refine c_if rfl (fun e0 => ?_) (fun e0 => ?_)
  · have eL : bz (lostW d) = ⟨#[110, 111, 110, 101]⟩ := by unfold lostW; rw [if_pos (by omega)]; rfl
    rw [eL] at hT
    refine go ?_; intros
    rw [show ∀ x : ByteArray, x ++ ⟨#[110, 111, 110, 101, 46]⟩ = x ++ ⟨#[110, 111, 110, 101]⟩ ++ ⟨#[46]⟩ from fun x => by rw [ByteArray.append_assoc]; rfl, hT]
    refine ret () trivial rfl
  · have eL : bz (lostW d) = bz (decI d.lost) := by unfold lostW; rw [if_neg (by omega)]
    rw [eL] at hT q5 q6
    refine go ?_; intros
    refine cb (fun w st => num7_c d.lost (by omega) (by omega) w) ?_
    refine go ?_; intros
    rw [hT]
    refine ret () trivial rfl
set_option maxRecDepth 100000 in
theorem DeliveryText_f (d : Delivery) (FT : List Nat) : Fn Tryd.prog 17 [.agg #[.int .i64 d.receiver, .int .i64 d.got, .int .i64 d.repaired, .int .i64 d.lost]] [EnvP FT] [] (fun (_ : Unit) => True) (fun _ => .tuple #[.string (resDT d).1, .bool (resDT d).2]) (fun _ => []) := by
  refine enter Tryd.func17 rfl Tryd.ntmps17 fun w0 => ?_
  refine go ?_; intros
  refine cf (IsValidDelivery_f d) fun _ _ => ?_
  refine t_app ?_
  cases g1 : goodDel d
  · refine go ?_; intros
    rw [show resDT d = (⟨#[]⟩, false) by unfold resDT; rw [g1]; rfl]
    refine ret () trivial rfl
  rw [show resDT d = (delT d, true) by unfold resDT; rw [g1]; rfl]
  refine go ?_; intros
  refine cb (fun w st => (deliveryText_f d FT g1).val w (hol1 (st.get (p := EnvP FT) (by simp)))) ?_
  refine go ?_; intros
  refine ret () trivial rfl
end Go.Proofs.YtgogcgkocjpgoaaDoor
/- Words read as numbers, texts split: the program and the reference. -/
namespace Go.Proofs.YtgogcgkocjpgoaaDoor
open Go.RowKit
set_option maxRecDepth 100000 in
theorem numberWord_f (s : ByteArray) (FT : List Nat) (hs : s.size ≤ 1000000000) : Fn Tryd.prog 16 [.string s] [EnvP FT] [] (fun (_ : Unit) => True) (fun _ => .int .i64 (nwI s.data.toList)) (fun _ => []) := by
  refine enter Tryd.func16 rfl Tryd.ntmps16 fun w0 => ?_
  refine go ?_; intros
  match h : Lib.atoiAll s.data.toList with
  | Lib.NumEnd.ok v =>
    rw [show nwI s.data.toList = v by unfold nwI; rw [h]]
    refine cb (fun w st => (Tryd.strconv_Atoi_ok s (by omega) v h w).mono fun e w' hh => ⟨hh.1, ?_⟩) ?_
    · rcases hh.2 with rfl | ⟨t, rfl⟩
      · exact Below.refl _ _
      · exact Lib.bytesWorld_below _ _ _
    refine go ?_; intros
    refine ret () trivial rfl
  | Lib.NumEnd.syntax =>
    rw [show nwI s.data.toList = 0 by unfold nwI; rw [h]]
    refine cx (fun v => ∃ u p, v = .tuple #[.int .i64 0, .iface u p]) (fun w st => ?_) ?_
    · obtain ⟨tp, p, hv⟩ := (EnvP.env (st.get (p := EnvP FT) (by simp))).2.2.1
      refine (Tryd.strconv_Atoi_syntax_var s (by omega) h tp p w hv).mono ?_
      rintro e w' ⟨N, rfl, -, -, hB⟩
      exact ⟨_, ⟨_, _, rfl⟩, rfl, hB⟩
    rintro _ ⟨u, p, rfl⟩
    refine go ?_; intros
    refine ret () trivial rfl
  | Lib.NumEnd.range =>
    rw [show nwI s.data.toList = Lib.atoiSat s.data.toList by unfold nwI; rw [h]]
    refine cx (fun v => ∃ u p, v = .tuple #[.int .i64 (Lib.atoiSat s.data.toList), .iface u p]) (fun w st => ?_) ?_
    · obtain ⟨tp, p, hv⟩ := (EnvP.env (st.get (p := EnvP FT) (by simp))).2.2.2
      refine (Tryd.strconv_Atoi_range_var s (by omega) h tp p w hv).mono ?_
      rintro e w' ⟨N, rfl, -, -, hB⟩
      exact ⟨_, ⟨_, _, rfl⟩, rfl, hB⟩
    rintro _ ⟨u, p, rfl⟩
    refine go ?_; intros
    refine ret () trivial rfl
structure SpS where
  o : List Bs
  f : Nat
  k : Nat
  a : Option Addr
  c : Nat
  F : List Nat
structure SpOk (b : UInt8) (s : ByteArray) (z : SpS) : Prop where
  k : z.k ≤ s.size
  f : z.f ≤ z.k
  l : z.o.length ≤ z.f
  e : splitL b s.data.toList = z.o ++ splitL b (s.data.toList.drop z.f)
  n : ∀ x ∈ (s.data.toList.drop z.f).take (z.k - z.f), x ≠ b
set_option maxRecDepth 100000 in
theorem l1Split_f (s : ByteArray) (b : UInt8) (hs : s.size ≤ 16777216) : Fn Tryd.prog 19 [.string s, .int .u8 (b.toNat : Int)] [] [] (fun (_ : Option Addr × Nat × List Nat) => True) (fun z => .slice z.1 ((splitL b s.data.toList).map bz).length z.2.1) (fun z => [.ow EStr 9 (.slice z.1 ((splitL b s.data.toList).map bz).length z.2.1) ((splitL b s.data.toList).map bz) z.2.2]) := by
  refine enter Tryd.func19 rfl Tryd.ntmps19 fun w0 => ?_
  refine go ?_; intros
  refine t_emp EStr ?_
  refine go ?_; intros
  refine c_loopS [0, 1, 4] (fun z : SpS => [(5, .slice z.a (z.o.map bz).length z.c), (6, .int .i64 (z.f : Nat)), (7, .int .i64 (z.k : Nat))]) (fun z => [.ow EStr 9 (.slice z.a (z.o.map bz).length z.c) (z.o.map bz) z.F]) (SpOk b s) (fun z => s.size - z.k) ⟨[], 0, 0, _, _, _⟩ ⟨Nat.zero_le _, Nat.le_refl _, Nat.le_refl _, rfl, by simp⟩ fun z hz => ?_
  obtain ⟨z1, z2, z3, z4, z5⟩ := hz
  have hml : (z.o.map bz).length = z.o.length := List.length_map ..
  refine go ?_; intros
  refine c_if rfl (fun h1 => ?_) (fun h1 => ?_)
  · have hk : z.k < s.size := by omega
    have hkl : z.k < s.data.toList.length := by rw [size_list]; exact hk
    refine go ?_; intros
    refine c_if rfl (fun h2 => ?_) (fun h2 => ?_)
    · have hb : s[z.k] = b := UInt8.toNat_inj.1 (by have : ((s[z.k]).toNat : Int) = (b.toNat : Int) := h2; omega)
      have h3 := drop_split (l := s.data.toList) z2 hkl
      rw [ba_get s z.k hk, hb] at h3
      have h4 : splitL b (s.data.toList.drop z.f) = (s.data.toList.drop z.f).take (z.k - z.f) :: splitL b (s.data.toList.drop (z.k + 1)) := by rw [h3, splitL_at _ z5, ← h3]
      have hx : (s.extract z.f z.k).size ≤ maxLen := by unfold maxLen; simp; omega
      refine goN ?_; intros
      apply wO; apply oc; rfl; exact yd_slb rfl rfl rfl (by omega) (by omega) (by omega)
      refine goN ?_; intros
      rw [show s.extract ((z.f : Nat) : Int).toNat ((z.k : Nat) : Int).toNat = s.extract z.f z.k from rfl]
      apply wO
      refine ap1 (rep_s hx) one_EStr fun a9 c9 F9 => ?_
      refine go ?_; intros
      have e9 : z.o.map bz ++ [s.extract z.f z.k] = (z.o ++ [(s.data.toList.drop z.f).take (z.k - z.f)]).map bz := by rw [List.map_append, ext_z s z.f z.k]; rfl
      rw [e9]
      refine n_lp ⟨z.o ++ [(s.data.toList.drop z.f).take (z.k - z.f)], z.k + 1, z.k + 1, a9, c9, F9⟩ ⟨by show z.k + 1 ≤ s.size; omega, Nat.le_refl _, by show (z.o ++ [_]).length ≤ z.k + 1; simp; omega, by show _ = (z.o ++ [_]) ++ splitL b (s.data.toList.drop (z.k + 1)); rw [z4, h4]; simp, by show ∀ x ∈ (s.data.toList.drop (z.k + 1)).take (z.k + 1 - (z.k + 1)), x ≠ b; simp⟩ (by show s.size - (z.k + 1) < s.size - z.k; omega)
    · refine go ?_; intros
      refine n_lp ⟨z.o, z.f, z.k + 1, z.a, z.c, z.F⟩ ⟨by show z.k + 1 ≤ s.size; omega, by show z.f ≤ z.k + 1; omega, z3, z4, by
        show ∀ x ∈ (s.data.toList.drop z.f).take (z.k + 1 - z.f), x ≠ b
        rw [take_more z2 hkl, ba_get s z.k hk]
        intro x hx
        rcases List.mem_append.1 hx with hx | hx
        · exact z5 x hx
        · rw [List.mem_singleton] at hx
          subst hx
          intro e
          exact h2 (by show ((s[z.k]).toNat : Int) = (b.toNat : Int); rw [e])⟩ (by show s.size - (z.k + 1) < s.size - z.k; omega)
  · have hke : z.k = s.size := by omega
    have h4 : splitL b s.data.toList = z.o ++ [s.data.toList.drop z.f] := by
      rw [z4, splitL_no]
      rw [List.take_of_length_le (by simp; omega)] at z5
      exact z5
    have hx : (s.extract z.f s.size).size ≤ maxLen := by unfold maxLen; simp; omega
    refine goN ?_; intros
    apply wO; apply oc; rfl; exact yd_sll rfl rfl (by omega) (by omega)
    refine goN ?_; intros
    rw [show s.extract ((z.f : Nat) : Int).toNat s.size = s.extract z.f s.size from rfl]
    apply wO
    refine ap1 (rep_s hx) one_EStr fun a9 c9 F9 => ?_
    refine go ?_; intros
    have e9 : z.o.map bz ++ [s.extract z.f s.size] = (splitL b s.data.toList).map bz := by rw [h4, List.map_append, ext_end s z.f]; rfl
    rw [e9]
    refine ret (a9, c9, F9) trivial rfl
end Go.Proofs.YtgogcgkocjpgoaaDoor
/- Numbers with their sign: read back out of their texts; plain. -/
namespace Go.Proofs.YtgogcgkocjpgoaaDoor
open Go.RowKit
theorem decNat_dec {u : Nat} (h : u < 10000000) : Lib.decNat (Lib.decDigits u) = some u := by
  have hb := dec_back 6 u (by omega)
  have hp := digit_pos u
  unfold Lib.decNat
  rw [if_neg (by intro e; rw [List.isEmpty_iff] at e; rw [e] at hp; simp at hp), hb]
theorem itoa_neg {v : Int} (h : v < 0) : Lib.itoa v = 45 :: Lib.decDigits v.natAbs := by unfold Lib.itoa; rw [if_pos h]
theorem itoa_nat {v : Int} (h : 0 ≤ v) : Lib.itoa v = Lib.decDigits v.natAbs := by unfold Lib.itoa; rw [if_neg (by omega), show v.toNat = v.natAbs by omega]
theorem resPI_itoa {v : Int} (h0 : -999999 ≤ v) (h1 : v ≤ 999999) : resPI (bz (Lib.itoa v)) = (v, true) := by
  by_cases hn : v < 0
  · have hl := digit_len 5 v.natAbs (by omega)
    have ha : Lib.atoiAll (Lib.itoa v) = .ok v := by
      rw [itoa_neg hn, Lib.atoiAll_short _ (by simp; omega)]
      have : Lib.atoi (45 :: Lib.decDigits v.natAbs) = some v := by
        rw [Lib.atoi, if_pos (by rfl), decNat_dec (by omega)]
        show some (-((v.natAbs : Nat) : Int)) = some v
        congr 1; omega
      rw [this]; rfl
    unfold resPI
    rw [bz_list, ha]
    show (if btw (-999999) v 999999 && decide (bz (Lib.itoa v) = bz (Lib.itoa v)) then (v, true) else (0, false)) = (v, true)
    rw [decide_eq_true rfl, show btw (-999999) v 999999 = true by unfold btw; rw [decide_eq_true h0, decide_eq_true h1]; rfl]; rfl
  · rw [itoa_nat (by omega), resPI_back v.natAbs (by omega)]
    congr 1; omega
theorem resPI_cases (s : ByteArray) : resPI s = (0, false) ∨ ∃ v : Int, -999999 ≤ v ∧ v ≤ 999999 ∧ s = bz (Lib.itoa v) := by
  unfold resPI
  split
  · rename_i v _
    cases h : (btw (-999999) v 999999 && decide (bz (Lib.itoa v) = s))
    · exact .inl rfl
    · unfold btw at h
      simp only [Bool.and_eq_true, decide_eq_true_eq] at h
      exact .inr ⟨v, h.1.1, h.1.2, h.2.symm⟩
  · exact .inl rfl
/-- the text without its sign -/
def unS (l : Bs) : Bs := if 1 < l.length ∧ l.head? = some 45 then l.drop 1 else l
def dval (l : Bs) : Nat := l.foldl (fun a c => 10 * a + (c.toNat - 48)) 0
theorem dval_app (l : Bs) (c : UInt8) : dval (l ++ [c]) = 10 * dval l + (c.toNat - 48) := by unfold dval; rw [List.foldl_append]; rfl
theorem dval_lt : ∀ (n : Nat) (l : Bs), l.length = n → (∀ c ∈ l, 48 ≤ c.toNat ∧ c.toNat ≤ 57) → dval l < 10 ^ n
  | 0, l, h, _ => by rw [List.length_eq_zero_iff.1 h]; decide
  | n + 1, l, h, hd => by
    have hne : l ≠ [] := by intro e; rw [e] at h; simp at h
    have e := List.dropLast_concat_getLast hne
    have ih := dval_lt n l.dropLast (by simp; omega) fun c hc => hd c (List.dropLast_subset _ hc)
    have hc := hd _ (List.getLast_mem hne)
    rw [← e, dval_app, Nat.pow_succ]
    omega
theorem digU : ∀ d : Nat, d < 10 → (UInt8.ofNat (48 + d)).toNat = 48 + d := by decide
theorem dval_dec : ∀ (k u : Nat), u < 10 ^ (k + 1) → dval (Lib.decDigits u) = u
  | 0, u, h => by
    have h3 : u < 10 := by simpa using h
    rw [Lib.decDigits, dif_pos h3]
    unfold dval
    simp only [List.foldl_cons, List.foldl_nil]
    rw [digU u h3]; omega
  | k + 1, u, h => by
    by_cases h3 : u < 10
    · rw [Lib.decDigits, dif_pos h3]
      unfold dval
      simp only [List.foldl_cons, List.foldl_nil]
      rw [digU u h3]; omega
    · rw [Lib.decDigits, dif_neg h3, dval_app, dval_dec k (u / 10) (by rw [Nat.pow_succ] at h; omega), digU _ (by omega)]
      omega
theorem unS_itoa {v : Int} (h0 : -999999 ≤ v) (h1 : v ≤ 999999) : unS (Lib.itoa v) = Lib.decDigits v.natAbs ∧ ((unS (Lib.itoa v)).length < (Lib.itoa v).length ↔ v < 0) := by
  have hp := digit_pos v.natAbs
  by_cases hn : v < 0
  · rw [itoa_neg hn]
    unfold unS
    rw [if_pos ⟨by simp; omega, rfl⟩]
    exact ⟨rfl, by simp [hn]⟩
  · rw [itoa_nat (by omega)]
    have : ¬ (1 < (Lib.decDigits v.natAbs).length ∧ (Lib.decDigits v.natAbs).head? = some 45) := by
      rintro ⟨-, h⟩
      have := digit_mem _ 45 (List.mem_of_mem_head? h)
      revert this; decide
    unfold unS
    rw [if_neg this]
    exact ⟨rfl, by simp; omega⟩
/-- what a good text is like -/
theorem read_good {s : ByteArray} (h : resPI s ≠ (0, false)) : ∃ v : Int, -999999 ≤ v ∧ v ≤ 999999 ∧ s = bz (Lib.itoa v) ∧ 1 ≤ (unS s.data.toList).length ∧ (unS s.data.toList).length ≤ 6 ∧ (∀ c ∈ unS s.data.toList, 48 ≤ c.toNat ∧ c.toNat ≤ 57) ∧ dval (unS s.data.toList) = v.natAbs ∧ ((unS s.data.toList).length < s.size ↔ v < 0) := by
  rcases resPI_cases s with h2 | ⟨v, h0, h1, rfl⟩
  · exact absurd h2 h
  · obtain ⟨e, e2⟩ := unS_itoa h0 h1
    have hl := digit_len 5 v.natAbs (by omega)
    rw [bz_list, bz_size]
    refine ⟨v, h0, h1, rfl, ?_, ?_, ?_, ?_, e2⟩
    · rw [e]; exact digit_pos _
    · rw [e]; exact hl
    · rw [e]; exact digit_mem _
    · rw [e]; exact dval_dec 5 _ (by omega)
end Go.Proofs.YtgogcgkocjpgoaaDoor
/- Numbers with their sign: the reference writes and reads them. -/
namespace Go.Proofs.YtgogcgkocjpgoaaDoor
open Go.RowKit
set_option maxRecDepth 100000 in
theorem numNeg_f (n : Int) (h0 : -999999 ≤ n) (hn : n < 0) : Fn Tryd.prog 36 [.int .i64 n] [] [] (fun (_ : Unit) => True) (fun _ => .string (bz (Lib.itoa n))) (fun _ => []) := by
  have hz : (bz (decI (-n))).size ≤ 7 := by rw [bz_size]; exact dec_len (by omega)
  have zl : (⟨#[45]⟩ : ByteArray).size = 1 := rfl
  refine enter Tryd.func36 rfl Tryd.ntmps36 fun w0 => ?_
  refine go ?_; intros
  refine c_if rfl (fun e0 => ?_) (fun e0 => ?_)
  rotate_left
  · exact absurd hn e0
  refine go ?_; intros
  refine cb (fun w st => num7_c (-n) (by omega) (by omega) w) ?_
  refine go ?_; intros
  rw [show (⟨#[45]⟩ : ByteArray) ++ bz (decI (-n)) = bz (Lib.itoa n) by
    rw [itoa_neg hn]
    unfold decI
    rw [show (-n).toNat = n.natAbs by omega]
    apply ByteArray.ext; simp [bz, ByteArray.data_append]]
  refine ret () trivial rfl
theorem numI_c (n : Int) (h0 : -999999 ≤ n) (h1 : n ≤ 999999) (w : World) : Calls Tryd.prog 36 #[.int .i64 n] w fun e w2 => e = .returned (.string (bz (Lib.itoa n))) ∧ Below w.heap.size w w2 := by
  by_cases hn : n < 0
  · exact (numNeg_f n h0 hn).val w (fun p hp => by cases hp)
  · rw [itoa_dec (by omega)]
    exact num7_c n (by omega) (by omega) w
theorem unS_at {s : ByteArray} (h : 1 < s.size) : unS s.data.toList = if s[0] = 45 then (s.extract 1 s.size).data.toList else s.data.toList := by
  have e : s.data.toList.head? = some s[0] := by
    rw [List.head?_eq_getElem?, List.getElem?_eq_getElem (by rw [size_list]; omega)]; rfl
  unfold unS
  rw [size_list, e, ext_end, bz_list]
  by_cases h2 : s[0] = 45
  · rw [if_pos ⟨h, by rw [h2]⟩, if_pos h2]
  · rw [if_neg (fun hh => h2 (Option.some.inj hh.2)), if_neg h2]
theorem unS_short {s : ByteArray} (h : ¬ 1 < s.size) : unS s.data.toList = s.data.toList := by
  unfold unS; rw [size_list, if_neg (fun hh => h hh.1)]
theorem yd_subu8 {P : Program} {n : Nat} {fr : Fr} {H : List Pc} {ty : TypeId} {x y : Operand} {a b : Int} {t t' : TypeId} (hx : ev fr x = some (.int .u8 a)) (hy : ev fr y = some (.int .u8 b)) (h0 : 0 ≤ a - b) (h1 : a - b ≤ 255) : Yd P n fr H (.binOp .sub t x y t') ty (.int .u8 (a - b)) := .mk fun c w d pos aft gd hA _ => by
  simp [execOp, hA.ev hx, hA.ev hy, eqGuard_sub, binOp_sub, Op.intArith, IntWalk.u8_in _ ⟨h0, h1⟩]
structure RdOk (t : ByteArray) (z : Nat × Nat) : Prop where
  k : z.2 ≤ t.size
  v : z.1 = dval (t.data.toList.take z.2)
  d : ∀ c ∈ t.data.toList.take z.2, 48 ≤ c.toNat ∧ c.toNat ≤ 57
set_option maxRecDepth 100000 in
theorem l1Read_f (s : ByteArray) (hs : s.size ≤ 1000000000) : Fn Tryd.prog 32 [.string s] [] [] (fun (_ : Unit) => True) (fun _ => .tuple #[.int .i64 (resPI s).1, .bool (resPI s).2]) (fun _ => []) := by
  refine enter Tryd.func32 rfl Tryd.ntmps32 fun w0 => ?_
  refine go ?_; intros
  refine wg_if rfl rfl (fun h1 => ?_) (fun h1 => ?_)
  · have h1 : 1 < s.size := by omega
    refine go ?_; intros
    refine c_if rfl (fun h2 => ?_) (fun h2 => ?_)
    · have ht : (s.extract 1 s.size).data.toList = unS s.data.toList := by rw [unS_at h1, if_pos (UInt8.toNat_inj.1 (by have : ((s[0]).toNat : Int) = 45 := h2; show (s[0]).toNat = 45; omega))]
      have hts : (s.extract 1 s.size).size = s.size - 1 := by simp
      refine goN ?_; intros
      apply wO; apply oc; rfl; exact yd_sll rfl rfl (by omega) (by omega)
      rw [show s.extract (1 : Int).toNat s.size = s.extract 1 s.size from rfl]
      generalize s.extract 1 s.size = t at ht hts ⊢
      refine go ?_; intros
      refine ce (fun w s => l1In_c _ _ _ _) ?_
      cases g1 : btw 1 ((t.size : Nat) : Int) 6
      · have hr : resPI s = (0, false) := by
          rcases Classical.em (resPI s = (0, false)) with h | h
          · exact h
          · exfalso
            obtain ⟨v, h0, h1', hsv, q1, q2, q3, q4, q5⟩ := read_good h
            rw [← ht, size_list] at q1 q2
            have : btw 1 ((t.size : Nat) : Int) 6 = true := by unfold btw; rw [decide_eq_true (by omega), decide_eq_true (by omega)]; rfl
            rw [this] at g1; cases g1
        rw [hr]
        refine go ?_; intros
        refine ret () trivial rfl
      obtain ⟨t1, t6⟩ : 1 ≤ t.size ∧ t.size ≤ 6 := by unfold btw at g1; simp only [Bool.and_eq_true, decide_eq_true_eq] at g1; omega
      refine go ?_; intros
      refine c_loopR [0, 2, 3, 4] (fun z : Nat × Nat => [(5, .int .i64 (z.1 : Nat)), (6, .int .i64 (z.2 : Nat))]) (RdOk t) (fun z => t.size - z.2) (0, 0) ⟨Nat.zero_le _, rfl, by simp⟩ fun z hz => ?_
      obtain ⟨vv, k⟩ := z
      obtain ⟨z1, z2, z3⟩ := hz
      dsimp only at z1 z2 z3 ⊢
      have hv6 : vv ≤ 999999 := by
        have := dval_lt (t.data.toList.take k).length _ rfl z3
        have hl : (t.data.toList.take k).length ≤ 6 := by rw [List.length_take, size_list]; omega
        have := Nat.pow_le_pow_right (show 0 < 10 by omega) hl
        omega
      refine go ?_; intros
      refine c_if rfl (fun h1 => ?_) (fun h1 => ?_)
      · have hk : k < t.size := by omega
        have hkl : k < t.data.toList.length := by rw [size_list]; exact hk
        have hm : t[k] ∈ unS s.data.toList := by rw [← ht]; exact List.getElem_mem hkl
        refine go ?_; intros
        refine wg_if rfl rfl (fun h3 => ?_) (fun h3 => ?_)
        · have h3 : ((t[k]).toNat : Int) < 48 := h3
          have hr : resPI s = (0, false) := by
            rcases Classical.em (resPI s = (0, false)) with h | h
            · exact h
            · exfalso
              obtain ⟨v, h0, h1', hsv, q1, q2, q3, q4, q5⟩ := read_good h
              have := q3 _ hm; omega
          rw [hr]
          refine go ?_; intros
          refine ret () trivial rfl
        have h3k : ¬ ((t[k]).toNat : Int) < 48 := h3
        refine go ?_; intros
        refine c_if rfl (fun h4 => ?_) (fun h4 => ?_)
        · have h4 : 57 < ((t[k]).toNat : Int) := h4
          have hr : resPI s = (0, false) := by
            rcases Classical.em (resPI s = (0, false)) with h | h
            · exact h
            · exfalso
              obtain ⟨v, h0, h1', hsv, q1, q2, q3, q4, q5⟩ := read_good h
              have := q3 _ hm; omega
          rw [hr]
          refine go ?_; intros
          refine ret () trivial rfl
        have h4k : ¬ 57 < ((t[k]).toNat : Int) := h4
        refine go ?_; intros
        apply wO; apply oc; rfl; exact yd_subu8 rfl rfl (by omega) (by omega)
        apply wO; apply oc; rfl; exact yd_cv rfl (by omega) (by omega)
        refine goN ?_; intros
        have e48 : ∀ x : Nat, 48 ≤ x → 10 * ((vv : Nat) : Int) + (((x : Nat) : Int) - 48) = ((10 * vv + (x - 48) : Nat) : Int) := fun x hx => by omega
        rw [e48]
        rotate_left
        · show 48 ≤ (t[k]).toNat; omega
        refine go ?_; intros
        have etk : t.data.toList.take (k + 1) = t.data.toList.take k ++ [t[k]] := by rw [List.take_succ_eq_append_getElem hkl]; rfl
        refine n_lp (10 * vv + ((t[k]).toNat - 48), k + 1) ⟨by show k + 1 ≤ t.size; omega, by show _ = dval (t.data.toList.take (k + 1)); rw [etk, dval_app, ← z2], by
          show ∀ c ∈ t.data.toList.take (k + 1), 48 ≤ c.toNat ∧ c.toNat ≤ 57
          rw [etk]
          intro c hc
          rcases List.mem_append.1 hc with hc | hc
          · exact z3 c hc
          · rw [List.mem_singleton] at hc; subst hc; omega⟩ (by show t.size - (k + 1) < t.size - k; omega)
      · have hks : k = t.size := by omega
        have z2 : vv = dval (unS s.data.toList) := by rw [← ht, z2, List.take_of_length_le (by rw [size_list]; omega)]
        have htz : (unS s.data.toList).length = t.size := by rw [← ht, size_list]
        refine go ?_; intros
        refine c_if rfl (fun h5 => ?_) (fun h5 => ?_)
        · refine go ?_; intros
          refine cb (fun w st => numI_c (-((vv : Nat) : Int)) (by omega) (by omega) w) ?_
          refine go ?_; intros
          by_cases h6 : bz (Lib.itoa (-((vv : Nat) : Int))) = s
          · have hr : resPI s = (-((vv : Nat) : Int), true) := by rw [← h6]; exact resPI_itoa (by omega) (by omega)
            rw [decide_eq_false (by simpa using h6), hr]
            refine go ?_; intros
            refine ret () trivial rfl
          · rw [decide_eq_true h6]
            have hr : resPI s = (0, false) := by
              rcases Classical.em (resPI s = (0, false)) with h | h
              · exact h
              · exfalso
                obtain ⟨v, h0, h1', hsv, q1, q2, q3, q4, q5⟩ := read_good h
                rw [htz] at q5
                have hv : v = -((vv : Nat) : Int) := by omega
                exact h6 (by rw [← hv]; exact hsv.symm)
            rw [hr]
            refine go ?_; intros
            refine ret () trivial rfl
        · refine go ?_; intros
          refine cb (fun w st => numI_c (((vv : Nat) : Int)) (by omega) (by omega) w) ?_
          refine go ?_; intros
          by_cases h6 : bz (Lib.itoa (((vv : Nat) : Int))) = s
          · have hr : resPI s = (((vv : Nat) : Int), true) := by rw [← h6]; exact resPI_itoa (by omega) (by omega)
            rw [decide_eq_false (by simpa using h6), hr]
            refine go ?_; intros
            refine ret () trivial rfl
          · rw [decide_eq_true h6]
            have hr : resPI s = (0, false) := by
              rcases Classical.em (resPI s = (0, false)) with h | h
              · exact h
              · exfalso
                obtain ⟨v, h0, h1', hsv, q1, q2, q3, q4, q5⟩ := read_good h
                rw [htz] at q5
                have hv : v = ((vv : Nat) : Int) := by omega
                exact h6 (by rw [← hv]; exact hsv.symm)
            rw [hr]
            refine go ?_; intros
            refine ret () trivial rfl
    · have ht : s.data.toList = unS s.data.toList := by rw [unS_at h1, if_neg (fun e => h2 (by show ((s[0]).toNat : Int) = 45; rw [e]; rfl))]
      refine go ?_; intros
      refine ce (fun w s => l1In_c _ _ _ _) ?_
      cases g1 : btw 1 ((s.size : Nat) : Int) 6
      · have hr : resPI s = (0, false) := by
          rcases Classical.em (resPI s = (0, false)) with h | h
          · exact h
          · exfalso
            obtain ⟨v, h0, h1', hsv, q1, q2, q3, q4, q5⟩ := read_good h
            rw [← ht, size_list] at q1 q2
            have : btw 1 ((s.size : Nat) : Int) 6 = true := by unfold btw; rw [decide_eq_true (by omega), decide_eq_true (by omega)]; rfl
            rw [this] at g1; cases g1
        rw [hr]
        refine go ?_; intros
        refine ret () trivial rfl
      obtain ⟨t1, t6⟩ : 1 ≤ s.size ∧ s.size ≤ 6 := by unfold btw at g1; simp only [Bool.and_eq_true, decide_eq_true_eq] at g1; omega
      refine go ?_; intros
      refine c_loopR [0, 2, 3, 4] (fun z : Nat × Nat => [(5, .int .i64 (z.1 : Nat)), (6, .int .i64 (z.2 : Nat))]) (RdOk s) (fun z => s.size - z.2) (0, 0) ⟨Nat.zero_le _, rfl, by simp⟩ fun z hz => ?_
      obtain ⟨vv, k⟩ := z
      obtain ⟨z1, z2, z3⟩ := hz
      dsimp only at z1 z2 z3 ⊢
      have hv6 : vv ≤ 999999 := by
        have := dval_lt (s.data.toList.take k).length _ rfl z3
        have hl : (s.data.toList.take k).length ≤ 6 := by rw [List.length_take, size_list]; omega
        have := Nat.pow_le_pow_right (show 0 < 10 by omega) hl
        omega
      refine go ?_; intros
      refine c_if rfl (fun h1 => ?_) (fun h1 => ?_)
      · have hk : k < s.size := by omega
        have hkl : k < s.data.toList.length := by rw [size_list]; exact hk
        have hm : s[k] ∈ unS s.data.toList := by rw [← ht]; exact List.getElem_mem hkl
        refine go ?_; intros
        refine wg_if rfl rfl (fun h3 => ?_) (fun h3 => ?_)
        · have h3 : ((s[k]).toNat : Int) < 48 := h3
          have hr : resPI s = (0, false) := by
            rcases Classical.em (resPI s = (0, false)) with h | h
            · exact h
            · exfalso
              obtain ⟨v, h0, h1', hsv, q1, q2, q3, q4, q5⟩ := read_good h
              have := q3 _ hm; omega
          rw [hr]
          refine go ?_; intros
          refine ret () trivial rfl
        have h3k : ¬ ((s[k]).toNat : Int) < 48 := h3
        refine go ?_; intros
        refine c_if rfl (fun h4 => ?_) (fun h4 => ?_)
        · have h4 : 57 < ((s[k]).toNat : Int) := h4
          have hr : resPI s = (0, false) := by
            rcases Classical.em (resPI s = (0, false)) with h | h
            · exact h
            · exfalso
              obtain ⟨v, h0, h1', hsv, q1, q2, q3, q4, q5⟩ := read_good h
              have := q3 _ hm; omega
          rw [hr]
          refine go ?_; intros
          refine ret () trivial rfl
        have h4k : ¬ 57 < ((s[k]).toNat : Int) := h4
        refine go ?_; intros
        apply wO; apply oc; rfl; exact yd_subu8 rfl rfl (by omega) (by omega)
        apply wO; apply oc; rfl; exact yd_cv rfl (by omega) (by omega)
        refine goN ?_; intros
        have e48 : ∀ x : Nat, 48 ≤ x → 10 * ((vv : Nat) : Int) + (((x : Nat) : Int) - 48) = ((10 * vv + (x - 48) : Nat) : Int) := fun x hx => by omega
        rw [e48]
        rotate_left
        · show 48 ≤ (s[k]).toNat; omega
        refine go ?_; intros
        have etk : s.data.toList.take (k + 1) = s.data.toList.take k ++ [s[k]] := by rw [List.take_succ_eq_append_getElem hkl]; rfl
        refine n_lp (10 * vv + ((s[k]).toNat - 48), k + 1) ⟨by show k + 1 ≤ s.size; omega, by show _ = dval (s.data.toList.take (k + 1)); rw [etk, dval_app, ← z2], by
          show ∀ c ∈ s.data.toList.take (k + 1), 48 ≤ c.toNat ∧ c.toNat ≤ 57
          rw [etk]
          intro c hc
          rcases List.mem_append.1 hc with hc | hc
          · exact z3 c hc
          · rw [List.mem_singleton] at hc; subst hc; omega⟩ (by show s.size - (k + 1) < s.size - k; omega)
      · have hks : k = s.size := by omega
        have z2 : vv = dval (unS s.data.toList) := by rw [← ht, z2, List.take_of_length_le (by rw [size_list]; omega)]
        have htz : (unS s.data.toList).length = s.size := by rw [← ht, size_list]
        refine go ?_; intros
        refine c_if rfl (fun h5 => ?_) (fun h5 => ?_)
        · refine go ?_; intros
          refine cb (fun w st => numI_c (-((vv : Nat) : Int)) (by omega) (by omega) w) ?_
          refine go ?_; intros
          by_cases h6 : bz (Lib.itoa (-((vv : Nat) : Int))) = s
          · have hr : resPI s = (-((vv : Nat) : Int), true) := by rw [← h6]; exact resPI_itoa (by omega) (by omega)
            rw [decide_eq_false (by simpa using h6), hr]
            refine go ?_; intros
            refine ret () trivial rfl
          · rw [decide_eq_true h6]
            have hr : resPI s = (0, false) := by
              rcases Classical.em (resPI s = (0, false)) with h | h
              · exact h
              · exfalso
                obtain ⟨v, h0, h1', hsv, q1, q2, q3, q4, q5⟩ := read_good h
                rw [htz] at q5
                have hv : v = -((vv : Nat) : Int) := by omega
                exact h6 (by rw [← hv]; exact hsv.symm)
            rw [hr]
            refine go ?_; intros
            refine ret () trivial rfl
        · refine go ?_; intros
          refine cb (fun w st => numI_c (((vv : Nat) : Int)) (by omega) (by omega) w) ?_
          refine go ?_; intros
          by_cases h6 : bz (Lib.itoa (((vv : Nat) : Int))) = s
          · have hr : resPI s = (((vv : Nat) : Int), true) := by rw [← h6]; exact resPI_itoa (by omega) (by omega)
            rw [decide_eq_false (by simpa using h6), hr]
            refine go ?_; intros
            refine ret () trivial rfl
          · rw [decide_eq_true h6]
            have hr : resPI s = (0, false) := by
              rcases Classical.em (resPI s = (0, false)) with h | h
              · exact h
              · exfalso
                obtain ⟨v, h0, h1', hsv, q1, q2, q3, q4, q5⟩ := read_good h
                rw [htz] at q5
                have hv : v = ((vv : Nat) : Int) := by omega
                exact h6 (by rw [← hv]; exact hsv.symm)
            rw [hr]
            refine go ?_; intros
            refine ret () trivial rfl
  · have ht : s.data.toList = unS s.data.toList := (unS_short (by omega)).symm
    refine go ?_; intros
    refine ce (fun w s => l1In_c _ _ _ _) ?_
    cases g1 : btw 1 ((s.size : Nat) : Int) 6
    · have hr : resPI s = (0, false) := by
        rcases Classical.em (resPI s = (0, false)) with h | h
        · exact h
        · exfalso
          obtain ⟨v, h0, h1', hsv, q1, q2, q3, q4, q5⟩ := read_good h
          rw [← ht, size_list] at q1 q2
          have : btw 1 ((s.size : Nat) : Int) 6 = true := by unfold btw; rw [decide_eq_true (by omega), decide_eq_true (by omega)]; rfl
          rw [this] at g1; cases g1
      rw [hr]
      refine go ?_; intros
      refine ret () trivial rfl
    obtain ⟨t1, t6⟩ : 1 ≤ s.size ∧ s.size ≤ 6 := by unfold btw at g1; simp only [Bool.and_eq_true, decide_eq_true_eq] at g1; omega
    refine go ?_; intros
    refine c_loopR [0, 2, 3, 4] (fun z : Nat × Nat => [(5, .int .i64 (z.1 : Nat)), (6, .int .i64 (z.2 : Nat))]) (RdOk s) (fun z => s.size - z.2) (0, 0) ⟨Nat.zero_le _, rfl, by simp⟩ fun z hz => ?_
    obtain ⟨vv, k⟩ := z
    obtain ⟨z1, z2, z3⟩ := hz
    dsimp only at z1 z2 z3 ⊢
    have hv6 : vv ≤ 999999 := by
      have := dval_lt (s.data.toList.take k).length _ rfl z3
      have hl : (s.data.toList.take k).length ≤ 6 := by rw [List.length_take, size_list]; omega
      have := Nat.pow_le_pow_right (show 0 < 10 by omega) hl
      omega
    refine go ?_; intros
    refine c_if rfl (fun h1 => ?_) (fun h1 => ?_)
    · have hk : k < s.size := by omega
      have hkl : k < s.data.toList.length := by rw [size_list]; exact hk
      have hm : s[k] ∈ unS s.data.toList := by rw [← ht]; exact List.getElem_mem hkl
      refine go ?_; intros
      refine wg_if rfl rfl (fun h3 => ?_) (fun h3 => ?_)
      · have h3 : ((s[k]).toNat : Int) < 48 := h3
        have hr : resPI s = (0, false) := by
          rcases Classical.em (resPI s = (0, false)) with h | h
          · exact h
          · exfalso
            obtain ⟨v, h0, h1', hsv, q1, q2, q3, q4, q5⟩ := read_good h
            have := q3 _ hm; omega
        rw [hr]
        refine go ?_; intros
        refine ret () trivial rfl
      have h3k : ¬ ((s[k]).toNat : Int) < 48 := h3
      refine go ?_; intros
      refine c_if rfl (fun h4 => ?_) (fun h4 => ?_)
      · have h4 : 57 < ((s[k]).toNat : Int) := h4
        have hr : resPI s = (0, false) := by
          rcases Classical.em (resPI s = (0, false)) with h | h
          · exact h
          · exfalso
            obtain ⟨v, h0, h1', hsv, q1, q2, q3, q4, q5⟩ := read_good h
            have := q3 _ hm; omega
        rw [hr]
        refine go ?_; intros
        refine ret () trivial rfl
      have h4k : ¬ 57 < ((s[k]).toNat : Int) := h4
      refine go ?_; intros
      apply wO; apply oc; rfl; exact yd_subu8 rfl rfl (by omega) (by omega)
      apply wO; apply oc; rfl; exact yd_cv rfl (by omega) (by omega)
      refine goN ?_; intros
      have e48 : ∀ x : Nat, 48 ≤ x → 10 * ((vv : Nat) : Int) + (((x : Nat) : Int) - 48) = ((10 * vv + (x - 48) : Nat) : Int) := fun x hx => by omega
      rw [e48]
      rotate_left
      · show 48 ≤ (s[k]).toNat; omega
      refine go ?_; intros
      have etk : s.data.toList.take (k + 1) = s.data.toList.take k ++ [s[k]] := by rw [List.take_succ_eq_append_getElem hkl]; rfl
      refine n_lp (10 * vv + ((s[k]).toNat - 48), k + 1) ⟨by show k + 1 ≤ s.size; omega, by show _ = dval (s.data.toList.take (k + 1)); rw [etk, dval_app, ← z2], by
        show ∀ c ∈ s.data.toList.take (k + 1), 48 ≤ c.toNat ∧ c.toNat ≤ 57
        rw [etk]
        intro c hc
        rcases List.mem_append.1 hc with hc | hc
        · exact z3 c hc
        · rw [List.mem_singleton] at hc; subst hc; omega⟩ (by show s.size - (k + 1) < s.size - k; omega)
    · have hks : k = s.size := by omega
      have z2 : vv = dval (unS s.data.toList) := by rw [← ht, z2, List.take_of_length_le (by rw [size_list]; omega)]
      have htz : (unS s.data.toList).length = s.size := by rw [← ht, size_list]
      refine go ?_; intros
      refine c_if rfl (fun h5 => ?_) (fun h5 => ?_)
      · refine go ?_; intros
        refine cb (fun w st => numI_c (-((vv : Nat) : Int)) (by omega) (by omega) w) ?_
        refine go ?_; intros
        by_cases h6 : bz (Lib.itoa (-((vv : Nat) : Int))) = s
        · have hr : resPI s = (-((vv : Nat) : Int), true) := by rw [← h6]; exact resPI_itoa (by omega) (by omega)
          rw [decide_eq_false (by simpa using h6), hr]
          refine go ?_; intros
          refine ret () trivial rfl
        · rw [decide_eq_true h6]
          have hr : resPI s = (0, false) := by
            rcases Classical.em (resPI s = (0, false)) with h | h
            · exact h
            · exfalso
              obtain ⟨v, h0, h1', hsv, q1, q2, q3, q4, q5⟩ := read_good h
              rw [htz] at q5
              have hv : v = -((vv : Nat) : Int) := by omega
              exact h6 (by rw [← hv]; exact hsv.symm)
          rw [hr]
          refine go ?_; intros
          refine ret () trivial rfl
      · refine go ?_; intros
        refine cb (fun w st => numI_c (((vv : Nat) : Int)) (by omega) (by omega) w) ?_
        refine go ?_; intros
        by_cases h6 : bz (Lib.itoa (((vv : Nat) : Int))) = s
        · have hr : resPI s = (((vv : Nat) : Int), true) := by rw [← h6]; exact resPI_itoa (by omega) (by omega)
          rw [decide_eq_false (by simpa using h6), hr]
          refine go ?_; intros
          refine ret () trivial rfl
        · rw [decide_eq_true h6]
          have hr : resPI s = (0, false) := by
            rcases Classical.em (resPI s = (0, false)) with h | h
            · exact h
            · exfalso
              obtain ⟨v, h0, h1', hsv, q1, q2, q3, q4, q5⟩ := read_good h
              rw [htz] at q5
              have hv : v = ((vv : Nat) : Int) := by omega
              exact h6 (by rw [← hv]; exact hsv.symm)
          rw [hr]
          refine go ?_; intros
          refine ret () trivial rfl
end Go.Proofs.YtgogcgkocjpgoaaDoor
/- Deliveries read out of sentences: the program and the reference. -/
namespace Go.Proofs.YtgogcgkocjpgoaaDoor
open Go.RowKit
theorem getD_atW (ws : List Bs) (i : Nat) (h : i < ws.length) : atW ws i = ws[i] := by unfold atW; rw [List.getD_eq_getElem?_getD, List.getElem?_eq_getElem h]; rfl
theorem mapbz_at {ws : List Bs} {i : Nat} (h : i < (ws.map bz).length) : ((ws.map bz)[i]).data.toList = atW ws i := by
  rw [List.getElem_map, bz_list, getD_atW]
theorem mapbz_eq {ws : List Bs} {i : Nat} (h : i < (ws.map bz).length) : (ws.map bz)[i] = bz (atW ws i) := by
  rw [List.getElem_map, getD_atW]
theorem lastW_at (ws : List Bs) : atW ws ((ws.map bz).length - 1) = lastW ws := by unfold lastW atW; rw [List.length_map]
theorem bz_lit {a : Bs} {b : List UInt8} : (bz a = ⟨b.toArray⟩) ↔ a = b := ⟨fun h => by have := congrArg (fun x : ByteArray => x.data.toList) h; simpa [bz] using this, fun h => by rw [h]; rfl⟩
theorem words_size (l : Bs) : ∀ t ∈ (splitL 32 l).map bz, t.size ≤ l.length := by
  intro t ht
  rw [← splitB_L] at ht
  have := splitB_small ⟨#[32]⟩ l.length _ (bz l) (by rw [bz_size]; exact Nat.le_refl _) t ht
  exact this
theorem unDot_len (l : Bs) : (unDot l).length ≤ l.length := by
  unfold unDot Lib.trimSuffix
  split
  · simp only [List.length_take]; omega
  · exact Nat.le_refl _
theorem resPD_at {s : ByteArray} (h8 : ¬ (wsI s).length < 8) : resPD s = if goodDel (pdI (wsI s)) && decide (delT (pdI (wsI s)) = s) then (pdI (wsI s), true) else (zDel, false) := by
  unfold resPD okPDI
  rw [decide_eq_false h8]
  simp only [Bool.not_false, Bool.true_and]
theorem resPD_few {s : ByteArray} (h8 : (wsI s).length < 8) : resPD s = (zDel, false) := by
  unfold resPD okPDI
  rw [decide_eq_true h8]
  simp
set_option maxRecDepth 100000 in
theorem ParseDelivery_f (s : ByteArray) (FT : List Nat) (hs : s.size ≤ 10000000) : Fn Tryd.prog 6 [.string s] [EnvP FT] [] (fun (_ : Unit) => True) (fun _ => .tuple #[.agg #[.int .i64 (resPD s).1.receiver, .int .i64 (resPD s).1.got, .int .i64 (resPD s).1.repaired, .int .i64 (resPD s).1.lost], .bool (resPD s).2]) (fun _ => []) := by
  have hu := unDot_len s.data.toList
  rw [size_list] at hu
  have hw : ∀ t ∈ (wsI s).map bz, t.size ≤ 1000000000 := fun t ht => by have := words_size _ t ht; omega
  have hml : ((wsI s).map bz).length = (wsI s).length := List.length_map ..
  have hcb := Lib.countB_le ⟨#[32]⟩ (by decide) (bz (unDot s.data.toList)).size (bz (unDot s.data.toList)) (Nat.le_refl _)
  have hlen := Lib.splitB_all ⟨#[32]⟩ (by decide) 0 _ (bz (unDot s.data.toList)) rfl
  rw [splitS_L, bz_list, List.length_map] at hlen
  rw [bz_size] at hcb
  have hwl : (wsI s).length ≤ s.size + 1 := by unfold wsI; omega
  refine enter Tryd.func6 rfl Tryd.ntmps6 fun w0 => ?_
  refine go ?_; intros
  refine ce (fun w _ => (Tryd.strings_TrimSuffix s ⟨#[46]⟩ w (by omega)).mono fun _ _ ⟨h1, h2⟩ => ⟨h1, h2.symm⟩) ?_
  rw [show (⟨(Lib.trimSuffix s.data.toList (⟨#[46]⟩ : ByteArray).data.toList).toArray⟩ : ByteArray) = bz (unDot s.data.toList) from rfl]
  refine go ?_; intros
  refine cn (fun w st => split_c (bz (unDot s.data.toList)) ⟨#[32]⟩ (by rw [bz_size]; omega) (by decide) FT w (st.get (p := EnvP FT) (by simp))) fun a0 c0 F0 => ?_
  rw [show Lib.splitB ⟨#[32]⟩ 0 (Lib.countB (bz (unDot s.data.toList)) ⟨#[32]⟩) (bz (unDot s.data.toList)) = (wsI s).map bz by rw [splitS_L, bz_list]; rfl]
  refine t_read (E := EStr) fun F1 => ?_
  refine go ?_; intros
  refine c_if rfl (fun h8 => ?_) (fun h8 => ?_)
  · rw [resPD_few (by omega)]
    refine go ?_; intros
    refine ret () trivial rfl
  have h8 : ¬ (wsI s).length < 8 := by omega
  apply c_skip
  apply n_cd
  apply c_seq
  refine c_joinS [0, 2, 3, 4] [0, 1, 2] (fun gq : Nat => [(5, ptr gq 0 0)]) (fun gq => [.row gq 23 0 [] [.int .i64 (nwI (atW (wsI s) 1)), .int .i64 (nwI (atW (wsI s) 3)), .int .i64 0, .int .i64 (nwI (lastW (wsI s)))] []]) (fun _ => True) ?_ fun gq _ => ?_
  · refine at_str (a := a0) (xs := (wsI s).map bz) 1 ?_
    rintro hi1 b o e s1
    rw [e]
    refine at_str (a := some ⟨b, o, none⟩) (xs := (wsI s).map bz) 3 ?_
    rintro hi3 _ _ e3 s3
    cases e3
    refine at_str (a := some ⟨b, o, none⟩) (xs := (wsI s).map bz) (((wsI s).map bz).length - 1) ?_
    rintro hil _ _ el sl
    cases el
    refine goN ?_; intros
    refine d_start [0, 1, 2] [] ?_
    refine dt 0 ?_
    refine dt 1 ?_
    refine dt 2 ?_
    refine dt 4 ?_
    refine dt 5 ?_
    refine dt 6 ?_
    refine dt 8 ?_
    refine dt 9 ?_
    refine dt 10 ?_
    refine dt 11 ?_
    rw [show ((((wsI s).map bz).length : Nat) : Int) - 1 = ((((wsI s).map bz).length - 1 : Nat) : Int) by omega]
    refine dt 12 ?_
    refine dt 13 ?_
    refine dO2 3 16 (by kernel_rfl) (by rw [List.getElem?_toArray]; rfl) (by rw [List.getElem?_toArray]; rfl) ?_ ?_
    · apply o_call; rfl; kernel_rfl; exact evsE
      refine cb (fun w st => (numberWord_f _ FT (hw _ (List.getElem_mem _))).val w (hol1 (st.get (p := EnvP FT) (by simp)))) ?_
      rw [mapbz_at]
      refine dk ?_
      refine dO2 7 16 (by kernel_rfl) (by rw [List.getElem?_toArray]; rfl) (by rw [List.getElem?_toArray]; rfl) ?_ ?_
      · apply o_call; rfl; kernel_rfl; exact evsE
        refine cb (fun w st => (numberWord_f _ FT (hw _ (List.getElem_mem _))).val w (hol1 (st.get (p := EnvP FT) (by simp)))) ?_
        rw [mapbz_at]
        refine dk ?_
        refine dO2 14 16 (by kernel_rfl) (by rw [List.getElem?_toArray]; rfl) (by rw [List.getElem?_toArray]; rfl) ?_ ?_
        · apply o_call; rfl; kernel_rfl; exact evsE
          refine cb (fun w st => (numberWord_f _ FT (hw _ (List.getElem_mem _))).val w (hol1 (st.get (p := EnvP FT) (by simp)))) ?_
          rw [mapbz_at]
          refine dk ?_
          refine dt 15 ?_
          refine dO 16 (by kernel_rfl) (by rw [List.getElem?_toArray]; rfl) ?_
          apply o_alloc; rfl; intro _
          refine dk ?_
          refine dO 17 (by kernel_rfl) (by rw [List.getElem?_toArray]; rfl) ?_
          apply o_st; rfl; rfl; rfl; (first | exact AggC.s | exact OneC.s); rfl; exact rplE; exact putE; rfl
          refine dk ?_
          refine dd ?_
          rw [lastW_at]
          refine go ?_; intros
          refine n_join _ trivial
        · apply o_alloc; rfl; intro _
          refine dk ?_
          refine dO 14 (by kernel_rfl) (by rw [List.getElem?_toArray]; rfl) ?_
          apply o_call; rfl; kernel_rfl; exact evsE
          refine cb (fun w st => (numberWord_f _ FT (hw _ (List.getElem_mem _))).val w (hol1 (st.get (p := EnvP FT) (by simp)))) ?_
          rw [mapbz_at]
          refine dk ?_
          refine dt 15 ?_
          refine dO 17 (by kernel_rfl) (by rw [List.getElem?_toArray]; rfl) ?_
          apply o_st; rfl; rfl; rfl; (first | exact AggC.s | exact OneC.s); rfl; exact rplE; exact putE; rfl
          refine dk ?_
          refine dd ?_
          rw [lastW_at]
          refine go ?_; intros
          refine n_join _ trivial
      · apply o_alloc; rfl; intro _
        refine dk ?_
        refine dO 7 (by kernel_rfl) (by rw [List.getElem?_toArray]; rfl) ?_
        apply o_call; rfl; kernel_rfl; exact evsE
        refine cb (fun w st => (numberWord_f _ FT (hw _ (List.getElem_mem _))).val w (hol1 (st.get (p := EnvP FT) (by simp)))) ?_
        rw [mapbz_at]
        refine dk ?_
        refine dO 14 (by kernel_rfl) (by rw [List.getElem?_toArray]; rfl) ?_
        apply o_call; rfl; kernel_rfl; exact evsE
        refine cb (fun w st => (numberWord_f _ FT (hw _ (List.getElem_mem _))).val w (hol1 (st.get (p := EnvP FT) (by simp)))) ?_
        rw [mapbz_at]
        refine dk ?_
        refine dt 15 ?_
        refine dO 17 (by kernel_rfl) (by rw [List.getElem?_toArray]; rfl) ?_
        apply o_st; rfl; rfl; rfl; (first | exact AggC.s | exact OneC.s); rfl; exact rplE; exact putE; rfl
        refine dk ?_
        refine dd ?_
        rw [lastW_at]
        refine go ?_; intros
        refine n_join _ trivial
    · apply o_alloc; rfl; intro _
      refine dk ?_
      refine dO 3 (by kernel_rfl) (by rw [List.getElem?_toArray]; rfl) ?_
      apply o_call; rfl; kernel_rfl; exact evsE
      refine cb (fun w st => (numberWord_f _ FT (hw _ (List.getElem_mem _))).val w (hol1 (st.get (p := EnvP FT) (by simp)))) ?_
      rw [mapbz_at]
      refine dk ?_
      refine dO 7 (by kernel_rfl) (by rw [List.getElem?_toArray]; rfl) ?_
      apply o_call; rfl; kernel_rfl; exact evsE
      refine cb (fun w st => (numberWord_f _ FT (hw _ (List.getElem_mem _))).val w (hol1 (st.get (p := EnvP FT) (by simp)))) ?_
      rw [mapbz_at]
      refine dk ?_
      refine dO 14 (by kernel_rfl) (by rw [List.getElem?_toArray]; rfl) ?_
      apply o_call; rfl; kernel_rfl; exact evsE
      refine cb (fun w st => (numberWord_f _ FT (hw _ (List.getElem_mem _))).val w (hol1 (st.get (p := EnvP FT) (by simp)))) ?_
      rw [mapbz_at]
      refine dk ?_
      refine dt 15 ?_
      refine dO 17 (by kernel_rfl) (by rw [List.getElem?_toArray]; rfl) ?_
      apply o_st; rfl; rfl; rfl; (first | exact AggC.s | exact OneC.s); rfl; exact rplE; exact putE; rfl
      refine dk ?_
      refine dd ?_
      rw [lastW_at]
      refine go ?_; intros
      refine n_join _ trivial
  have hi5 : 5 < ((wsI s).map bz).length := by omega
  refine at_str (a := a0) (xs := (wsI s).map bz) 5 ?_
  rintro hi1 b o e s1
  rw [e]
  refine go ?_; intros
  rw [mapbz_eq hi5]
  by_cases k1 : atW (wsI s) 5 = [114, 101, 112, 97, 105, 114, 101, 100, 44]
  · have hd : pdI (wsI s) = ⟨nwI (atW (wsI s) 1), nwI (atW (wsI s) 3), 1, nwI (lastW (wsI s))⟩ := by unfold pdI; rw [if_pos k1]
    rw [decide_eq_true (bz_lit.2 k1)]
    refine go ?_; intros
    refine cb (fun w st => (DeliveryText_f ⟨nwI (atW (wsI s) 1), nwI (atW (wsI s) 3), 1, nwI (lastW (wsI s))⟩ FT).val w (hol1 (st.get (p := EnvP FT) (by simp)))) ?_
    have hq := resPD_at h8
    rw [hd] at hq
    cases g : goodDel ⟨nwI (atW (wsI s) 1), nwI (atW (wsI s) 3), 1, nwI (lastW (wsI s))⟩
    · rw [show resDT ⟨nwI (atW (wsI s) 1), nwI (atW (wsI s) 3), 1, nwI (lastW (wsI s))⟩ = (⟨#[]⟩, false) by unfold resDT; rw [g]; rfl]
      rw [hq, g]
      refine go ?_; intros
      refine ret () trivial rfl
    rw [show resDT ⟨nwI (atW (wsI s) 1), nwI (atW (wsI s) 3), 1, nwI (lastW (wsI s))⟩ = (delT ⟨nwI (atW (wsI s) 1), nwI (atW (wsI s) 3), 1, nwI (lastW (wsI s))⟩, true) by unfold resDT; rw [g]; rfl]
    by_cases ht : delT ⟨nwI (atW (wsI s) 1), nwI (atW (wsI s) 3), 1, nwI (lastW (wsI s))⟩ = s
    · rw [hq, g, decide_eq_true ht, ht]
      refine go ?_; intros
      rw [show decide (¬ s = s) = false by simp]
      refine go ?_; intros
      refine ret () trivial rfl
    · rw [hq, g, decide_eq_false ht]
      refine go ?_; intros
      rw [show decide (¬ delT ⟨nwI (atW (wsI s) 1), nwI (atW (wsI s) 3), 1, nwI (lastW (wsI s))⟩ = s) = true by simpa using ht]
      refine go ?_; intros
      refine ret () trivial rfl
  rw [decide_eq_false (fun h => k1 (bz_lit.1 h))]
  refine go ?_; intros
  by_cases k2 : atW (wsI s) 5 = [97, 108, 108]
  · have hd : pdI (wsI s) = ⟨nwI (atW (wsI s) 1), nwI (atW (wsI s) 3), nwI (atW (wsI s) 3), nwI (lastW (wsI s))⟩ := by unfold pdI; rw [if_neg k1, if_pos k2]
    rw [decide_eq_true (bz_lit.2 k2)]
    refine go ?_; intros
    refine cb (fun w st => (DeliveryText_f ⟨nwI (atW (wsI s) 1), nwI (atW (wsI s) 3), nwI (atW (wsI s) 3), nwI (lastW (wsI s))⟩ FT).val w (hol1 (st.get (p := EnvP FT) (by simp)))) ?_
    have hq := resPD_at h8
    rw [hd] at hq
    cases g : goodDel ⟨nwI (atW (wsI s) 1), nwI (atW (wsI s) 3), nwI (atW (wsI s) 3), nwI (lastW (wsI s))⟩
    · rw [show resDT ⟨nwI (atW (wsI s) 1), nwI (atW (wsI s) 3), nwI (atW (wsI s) 3), nwI (lastW (wsI s))⟩ = (⟨#[]⟩, false) by unfold resDT; rw [g]; rfl]
      rw [hq, g]
      refine go ?_; intros
      refine ret () trivial rfl
    rw [show resDT ⟨nwI (atW (wsI s) 1), nwI (atW (wsI s) 3), nwI (atW (wsI s) 3), nwI (lastW (wsI s))⟩ = (delT ⟨nwI (atW (wsI s) 1), nwI (atW (wsI s) 3), nwI (atW (wsI s) 3), nwI (lastW (wsI s))⟩, true) by unfold resDT; rw [g]; rfl]
    by_cases ht : delT ⟨nwI (atW (wsI s) 1), nwI (atW (wsI s) 3), nwI (atW (wsI s) 3), nwI (lastW (wsI s))⟩ = s
    · rw [hq, g, decide_eq_true ht, ht]
      refine go ?_; intros
      rw [show decide (¬ s = s) = false by simp]
      refine go ?_; intros
      refine ret () trivial rfl
    · rw [hq, g, decide_eq_false ht]
      refine go ?_; intros
      rw [show decide (¬ delT ⟨nwI (atW (wsI s) 1), nwI (atW (wsI s) 3), nwI (atW (wsI s) 3), nwI (lastW (wsI s))⟩ = s) = true by simpa using ht]
      refine go ?_; intros
      refine ret () trivial rfl
  rw [decide_eq_false (fun h => k2 (bz_lit.1 h))]
  refine go ?_; intros
  by_cases k3 : atW (wsI s) 5 = [97, 110, 100]
  · have hd : pdI (wsI s) = ⟨nwI (atW (wsI s) 1), nwI (atW (wsI s) 3), 0, nwI (lastW (wsI s))⟩ := by unfold pdI; rw [if_neg k1, if_neg k2, if_pos k3]
    rw [decide_eq_false (show ¬ ¬ bz (atW (wsI s) 5) = ⟨#[97, 110, 100]⟩ from fun h => h (bz_lit.2 k3))]
    refine go ?_; intros
    refine cb (fun w st => (DeliveryText_f ⟨nwI (atW (wsI s) 1), nwI (atW (wsI s) 3), 0, nwI (lastW (wsI s))⟩ FT).val w (hol1 (st.get (p := EnvP FT) (by simp)))) ?_
    have hq := resPD_at h8
    rw [hd] at hq
    cases g : goodDel ⟨nwI (atW (wsI s) 1), nwI (atW (wsI s) 3), 0, nwI (lastW (wsI s))⟩
    · rw [show resDT ⟨nwI (atW (wsI s) 1), nwI (atW (wsI s) 3), 0, nwI (lastW (wsI s))⟩ = (⟨#[]⟩, false) by unfold resDT; rw [g]; rfl]
      rw [hq, g]
      refine go ?_; intros
      refine ret () trivial rfl
    rw [show resDT ⟨nwI (atW (wsI s) 1), nwI (atW (wsI s) 3), 0, nwI (lastW (wsI s))⟩ = (delT ⟨nwI (atW (wsI s) 1), nwI (atW (wsI s) 3), 0, nwI (lastW (wsI s))⟩, true) by unfold resDT; rw [g]; rfl]
    by_cases ht : delT ⟨nwI (atW (wsI s) 1), nwI (atW (wsI s) 3), 0, nwI (lastW (wsI s))⟩ = s
    · rw [hq, g, decide_eq_true ht, ht]
      refine go ?_; intros
      rw [show decide (¬ s = s) = false by simp]
      refine go ?_; intros
      refine ret () trivial rfl
    · rw [hq, g, decide_eq_false ht]
      refine go ?_; intros
      rw [show decide (¬ delT ⟨nwI (atW (wsI s) 1), nwI (atW (wsI s) 3), 0, nwI (lastW (wsI s))⟩ = s) = true by simpa using ht]
      refine go ?_; intros
      refine ret () trivial rfl
  · have hd : pdI (wsI s) = ⟨nwI (atW (wsI s) 1), nwI (atW (wsI s) 3), nwI (atW (wsI s) 5), nwI (lastW (wsI s))⟩ := by unfold pdI; rw [if_neg k1, if_neg k2, if_neg k3]
    rw [decide_eq_true (show ¬ bz (atW (wsI s) 5) = ⟨#[97, 110, 100]⟩ from fun h => k3 (bz_lit.1 h))]
    refine go ?_; intros
    refine cb (fun w st => (numberWord_f _ FT (hw (bz (atW (wsI s) 5)) (by rw [← mapbz_eq hi5]; exact List.getElem_mem _))).val w (hol1 (st.get (p := EnvP FT) (by simp)))) ?_
    rw [bz_list]
    refine go ?_; intros
    refine cb (fun w st => (DeliveryText_f ⟨nwI (atW (wsI s) 1), nwI (atW (wsI s) 3), nwI (atW (wsI s) 5), nwI (lastW (wsI s))⟩ FT).val w (hol1 (st.get (p := EnvP FT) (by simp)))) ?_
    have hq := resPD_at h8
    rw [hd] at hq
    cases g : goodDel ⟨nwI (atW (wsI s) 1), nwI (atW (wsI s) 3), nwI (atW (wsI s) 5), nwI (lastW (wsI s))⟩
    · rw [show resDT ⟨nwI (atW (wsI s) 1), nwI (atW (wsI s) 3), nwI (atW (wsI s) 5), nwI (lastW (wsI s))⟩ = (⟨#[]⟩, false) by unfold resDT; rw [g]; rfl]
      rw [hq, g]
      refine go ?_; intros
      refine ret () trivial rfl
    rw [show resDT ⟨nwI (atW (wsI s) 1), nwI (atW (wsI s) 3), nwI (atW (wsI s) 5), nwI (lastW (wsI s))⟩ = (delT ⟨nwI (atW (wsI s) 1), nwI (atW (wsI s) 3), nwI (atW (wsI s) 5), nwI (lastW (wsI s))⟩, true) by unfold resDT; rw [g]; rfl]
    by_cases ht : delT ⟨nwI (atW (wsI s) 1), nwI (atW (wsI s) 3), nwI (atW (wsI s) 5), nwI (lastW (wsI s))⟩ = s
    · rw [hq, g, decide_eq_true ht, ht]
      refine go ?_; intros
      rw [show decide (¬ s = s) = false by simp]
      refine go ?_; intros
      refine ret () trivial rfl
    · rw [hq, g, decide_eq_false ht]
      refine go ?_; intros
      rw [show decide (¬ delT ⟨nwI (atW (wsI s) 1), nwI (atW (wsI s) 3), nwI (atW (wsI s) 5), nwI (lastW (wsI s))⟩ = s) = true by simpa using ht]
      refine go ?_; intros
      refine ret () trivial rfl
set_option maxRecDepth 100000 in
theorem l26Read_f (s : ByteArray) (hs : s.size ≤ 1000000000) : Fn Tryd.prog 22 [.string s] [] [] (fun (_ : Unit) => True) (fun _ => .int .i64 (nwS s.data.toList)) (fun _ => []) := by
  refine enter Tryd.func22 rfl Tryd.ntmps22 fun w0 => ?_
  refine go ?_; intros
  refine c_if rfl (fun h => ?_) (fun h => ?_)
  · rw [show nwS s.data.toList = 1000000 by rw [h]; rfl]
    refine go ?_; intros
    refine ret () trivial rfl
  · rw [show nwS s.data.toList = (resPI s).1 by
      unfold nwS
      rw [if_neg (fun e => h (by rw [← bz_of s, e]; rfl)), bz_of]]
    refine go ?_; intros
    refine cf (l1Read_f s hs) fun _ _ => ?_
    refine t_app ?_
    refine go ?_; intros
    refine ret () trivial rfl
theorem resPD_Sat {s : ByteArray} (h : ¬ 90 < s.size) (h8 : ¬ (wsS s).length < 8) : resPD s = if goodDel (pdS (wsS s)) && decide (delT (pdS (wsS s)) = s) then (pdS (wsS s), true) else (zDel, false) := by
  rw [← resPD_S]
  unfold okPDS
  rw [decide_eq_false h, decide_eq_false h8]
  simp only [Bool.or_false, Bool.not_false, Bool.true_and]
theorem resPD_Sno {s : ByteArray} (h : 90 < s.size ∨ (wsS s).length < 8) : resPD s = (zDel, false) := by
  rw [← resPD_S]
  unfold okPDS
  rcases h with h | h <;> rw [decide_eq_true h] <;> simp
set_option maxRecDepth 100000 in
theorem l26Parse_f (s : ByteArray) (FT : List Nat) (hs : s.size ≤ 10000000) : Fn Tryd.prog 13 [.string s] [EnvP FT] [] (fun (_ : Unit) => True) (fun _ => .tuple #[.agg #[.int .i64 (resPD s).1.receiver, .int .i64 (resPD s).1.got, .int .i64 (resPD s).1.repaired, .int .i64 (resPD s).1.lost], .bool (resPD s).2]) (fun _ => []) := by
  have hw : ∀ t ∈ (wsS s).map bz, t.size ≤ 1000000000 := fun t ht => by have := words_size _ t ht; rw [size_list] at this; omega
  have hml : ((wsS s).map bz).length = (wsS s).length := List.length_map ..
  have hcb := Lib.countB_le ⟨#[32]⟩ (by decide) s.size s (Nat.le_refl _)
  have hlen := Lib.splitB_all ⟨#[32]⟩ (by decide) 0 _ s rfl
  rw [splitS_L, List.length_map] at hlen
  have hwl : (wsS s).length ≤ s.size + 1 := by unfold wsS; omega
  refine enter Tryd.func13 rfl Tryd.ntmps13 fun w0 => ?_
  refine go ?_; intros
  refine cf (l1Split_f s 32 (by omega)) fun q _ => ?_
  refine t_app ?_
  rw [show (splitL 32 s.data.toList).map bz = (wsS s).map bz from rfl]
  refine t_read (E := EStr) (xs := (wsS s).map bz) fun F1 => ?_
  refine go ?_; intros
  refine wg_if rfl rfl (fun h9 => ?_) (fun h9 => ?_)
  · rw [resPD_Sno (.inl (by omega))]
    refine go ?_; intros
    refine ret () trivial rfl
  refine go ?_; intros
  refine c_if rfl (fun h8 => ?_) (fun h8 => ?_)
  · rw [resPD_Sno (.inr (by omega))]
    refine go ?_; intros
    refine ret () trivial rfl
  have h8 : ¬ (wsS s).length < 8 := by omega
  have h9 : ¬ 90 < s.size := by omega
  have hil : ((wsS s).map bz).length - 1 < ((wsS s).map bz).length := by omega
  have hls : (bz (lastW (wsS s))).size ≤ 1000000000 := by rw [← lastW_at, ← mapbz_eq hil]; exact hw _ (List.getElem_mem _)
  refine at_str (a := q.1) (xs := (wsS s).map bz) (((wsS s).map bz).length - 1) ?_
  rintro _ b o el sl
  rw [el]
  refine go ?_; intros
  rw [show ((((wsS s).map bz).length : Nat) : Int) - 1 = ((((wsS s).map bz).length - 1 : Nat) : Int) by omega]
  refine go ?_; intros
  rw [mapbz_eq hil, lastW_at]
  refine c_joinS [0, 2, 3, 4, 5, 7] [0, 1, 2, 3, 4] (fun gq : Nat => [(8, ptr gq 0 0)]) (fun gq => [.row gq 23 0 [] [.int .i64 (nwS (atW (wsS s) 1)), .int .i64 (nwS (atW (wsS s) 3)), .int .i64 0, .int .i64 0] []]) (fun _ => True) ?_ fun gq _ => ?_
  · refine at_str (a := some ⟨b, o, none⟩) (xs := (wsS s).map bz) 1 ?_
    rintro hi1 _ _ e1 s1
    cases e1
    refine at_str (a := some ⟨b, o, none⟩) (xs := (wsS s).map bz) 3 ?_
    rintro hi3 _ _ e3 s3
    cases e3
    refine goN ?_; intros
    refine d_start [0, 1] [] ?_
    refine dt 0 ?_
    refine dt 1 ?_
    refine dt 2 ?_
    refine dt 4 ?_
    refine dt 5 ?_
    refine dt 6 ?_
    refine dO2 3 9 (by kernel_rfl) (by rw [List.getElem?_toArray]; rfl) (by rw [List.getElem?_toArray]; rfl) ?_ ?_
    · apply o_call; rfl; kernel_rfl; exact evsE
      refine cf (l26Read_f _ (hw _ (List.getElem_mem _))) fun _ _ => ?_
      refine t_app ?_
      rw [mapbz_at]
      refine dk ?_
      refine dO2 7 9 (by kernel_rfl) (by rw [List.getElem?_toArray]; rfl) (by rw [List.getElem?_toArray]; rfl) ?_ ?_
      · apply o_call; rfl; kernel_rfl; exact evsE
        refine cf (l26Read_f _ (hw _ (List.getElem_mem _))) fun _ _ => ?_
        refine t_app ?_
        rw [mapbz_at]
        refine dk ?_
        refine dt 8 ?_
        refine dO 9 (by kernel_rfl) (by rw [List.getElem?_toArray]; rfl) ?_
        apply o_alloc; rfl; intro _
        refine dk ?_
        refine dO 10 (by kernel_rfl) (by rw [List.getElem?_toArray]; rfl) ?_
        apply o_st; rfl; rfl; rfl; (first | exact AggC.s | exact OneC.s); rfl; exact rplE; exact putE; rfl
        refine dk ?_
        refine dd ?_
        refine go ?_; intros
        refine n_join _ trivial
      · apply o_alloc; rfl; intro _
        refine dk ?_
        refine dO 7 (by kernel_rfl) (by rw [List.getElem?_toArray]; rfl) ?_
        apply o_call; rfl; kernel_rfl; exact evsE
        refine cf (l26Read_f _ (hw _ (List.getElem_mem _))) fun _ _ => ?_
        refine t_app ?_
        rw [mapbz_at]
        refine dk ?_
        refine dt 8 ?_
        refine dO 10 (by kernel_rfl) (by rw [List.getElem?_toArray]; rfl) ?_
        apply o_st; rfl; rfl; rfl; (first | exact AggC.s | exact OneC.s); rfl; exact rplE; exact putE; rfl
        refine dk ?_
        refine dd ?_
        refine go ?_; intros
        refine n_join _ trivial
    · apply o_alloc; rfl; intro _
      refine dk ?_
      refine dO 3 (by kernel_rfl) (by rw [List.getElem?_toArray]; rfl) ?_
      apply o_call; rfl; kernel_rfl; exact evsE
      refine cf (l26Read_f _ (hw _ (List.getElem_mem _))) fun _ _ => ?_
      refine t_app ?_
      rw [mapbz_at]
      refine dk ?_
      refine dO 7 (by kernel_rfl) (by rw [List.getElem?_toArray]; rfl) ?_
      apply o_call; rfl; kernel_rfl; exact evsE
      refine cf (l26Read_f _ (hw _ (List.getElem_mem _))) fun _ _ => ?_
      refine t_app ?_
      rw [mapbz_at]
      refine dk ?_
      refine dt 8 ?_
      refine dO 10 (by kernel_rfl) (by rw [List.getElem?_toArray]; rfl) ?_
      apply o_st; rfl; rfl; rfl; (first | exact AggC.s | exact OneC.s); rfl; exact rplE; exact putE; rfl
      refine dk ?_
      refine dd ?_
      refine go ?_; intros
      refine n_join _ trivial
  refine go ?_; intros
  refine c_joinS [0, 2, 3, 4, 5, 7, 8] [1, 2, 3, 4, 5] (fun _ : Int => []) (fun z => [.row gq 23 0 [] [.int .i64 (nwS (atW (wsS s) 1)), .int .i64 (nwS (atW (wsS s) 3)), .int .i64 0, .int .i64 z] []]) (fun z => z = if lastW (wsS s) = [] then 0 else nwS (lastW (wsS s)).dropLast) ?_ fun z hz => ?_
  · refine c_if rfl (fun h => ?_) (fun h => ?_)
    · have hn : lastW (wsS s) ≠ [] := by intro e; rw [e, bz_size] at h; exact absurd h (by simp)
      have hx : ((bz (lastW (wsS s))).extract 0 (((bz (lastW (wsS s))).size : Int) - 1).toNat).data.toList = (lastW (wsS s)).dropLast := by
        rw [Lib.extract_from_zero, bz_list, bz_size, List.dropLast_eq_take]; congr 1; omega
      have hx2 : ((bz (lastW (wsS s))).extract 0 (((bz (lastW (wsS s))).size : Int) - 1).toNat).size ≤ 1000000000 := by rw [ByteArray.size_extract]; omega
      refine goN ?_; intros
      apply wO; apply oc; rfl; exact yd_slh rfl rfl (by omega) (by omega)
      refine go ?_; intros
      refine cf (l26Read_f _ hx2) fun _ _ => ?_
      refine t_app ?_
      rw [hx]
      refine go ?_; intros
      refine n_join (nwS (lastW (wsS s)).dropLast) (by rw [if_neg hn])
    · have hn : lastW (wsS s) = [] := by
        have : (bz (lastW (wsS s))).size = 0 := by omega
        rw [bz_size] at this; exact List.length_eq_zero_iff.1 this
      refine go ?_; intros
      refine n_join 0 (by rw [if_pos hn])
  have hi5 : 5 < ((wsS s).map bz).length := by omega
  refine at_str (a := some ⟨b, o, none⟩) (xs := (wsS s).map bz) 5 ?_
  rintro _ _ _ e5 s5
  cases e5
  rw [mapbz_eq hi5]
  refine go ?_; intros
  by_cases k1 : atW (wsS s) 5 = [97, 108, 108]
  · have hd : pdS (wsS s) = ⟨nwS (atW (wsS s) 1), nwS (atW (wsS s) 3), nwS (atW (wsS s) 3), z⟩ := by unfold pdS; rw [if_pos (.inl k1), ← hz]
    rw [decide_eq_true (bz_lit.2 k1)]
    refine go ?_; intros
    refine cf (l26One_f ⟨nwS (atW (wsS s) 1), nwS (atW (wsS s) 3), nwS (atW (wsS s) 3), z⟩) fun _ _ => ?_
    refine t_app ?_
    have hq := resPD_Sat h9 h8
    rw [hd] at hq
    cases g : goodDel ⟨nwS (atW (wsS s) 1), nwS (atW (wsS s) 3), nwS (atW (wsS s) 3), z⟩
    · rw [hq, g]
      refine go ?_; intros
      refine ret () trivial rfl
    refine go ?_; intros
    refine cb (fun w st => (l26Text_f ⟨nwS (atW (wsS s) 1), nwS (atW (wsS s) 3), nwS (atW (wsS s) 3), z⟩ FT g).val w (hol1 (st.get (p := EnvP FT) (by simp)))) ?_
    by_cases ht : delT ⟨nwS (atW (wsS s) 1), nwS (atW (wsS s) 3), nwS (atW (wsS s) 3), z⟩ = s
    · rw [hq, g, decide_eq_true ht, ht]
      refine go ?_; intros
      rw [show decide (¬ s = s) = false by simp]
      refine go ?_; intros
      refine ret () trivial rfl
    · rw [hq, g, decide_eq_false ht]
      refine go ?_; intros
      rw [show decide (¬ delT ⟨nwS (atW (wsS s) 1), nwS (atW (wsS s) 3), nwS (atW (wsS s) 3), z⟩ = s) = true by simpa using ht]
      refine go ?_; intros
      refine ret () trivial rfl
  rw [decide_eq_false (fun h => k1 (bz_lit.1 h))]
  refine go ?_; intros
  by_cases k2 : atW (wsS s) 5 = [114, 101, 112, 97, 105, 114, 101, 100, 44]
  · have hd : pdS (wsS s) = ⟨nwS (atW (wsS s) 1), nwS (atW (wsS s) 3), nwS (atW (wsS s) 3), z⟩ := by unfold pdS; rw [if_pos (.inr k2), ← hz]
    rw [decide_eq_true (bz_lit.2 k2)]
    refine go ?_; intros
    refine cf (l26One_f ⟨nwS (atW (wsS s) 1), nwS (atW (wsS s) 3), nwS (atW (wsS s) 3), z⟩) fun _ _ => ?_
    refine t_app ?_
    have hq := resPD_Sat h9 h8
    rw [hd] at hq
    cases g : goodDel ⟨nwS (atW (wsS s) 1), nwS (atW (wsS s) 3), nwS (atW (wsS s) 3), z⟩
    · rw [hq, g]
      refine go ?_; intros
      refine ret () trivial rfl
    refine go ?_; intros
    refine cb (fun w st => (l26Text_f ⟨nwS (atW (wsS s) 1), nwS (atW (wsS s) 3), nwS (atW (wsS s) 3), z⟩ FT g).val w (hol1 (st.get (p := EnvP FT) (by simp)))) ?_
    by_cases ht : delT ⟨nwS (atW (wsS s) 1), nwS (atW (wsS s) 3), nwS (atW (wsS s) 3), z⟩ = s
    · rw [hq, g, decide_eq_true ht, ht]
      refine go ?_; intros
      rw [show decide (¬ s = s) = false by simp]
      refine go ?_; intros
      refine ret () trivial rfl
    · rw [hq, g, decide_eq_false ht]
      refine go ?_; intros
      rw [show decide (¬ delT ⟨nwS (atW (wsS s) 1), nwS (atW (wsS s) 3), nwS (atW (wsS s) 3), z⟩ = s) = true by simpa using ht]
      refine go ?_; intros
      refine ret () trivial rfl
  · have hd : pdS (wsS s) = ⟨nwS (atW (wsS s) 1), nwS (atW (wsS s) 3), nwS (atW (wsS s) 5), z⟩ := by unfold pdS; rw [if_neg (fun h => h.elim k1 k2), ← hz]
    rw [decide_eq_false (fun h => k2 (bz_lit.1 h))]
    refine go ?_; intros
    refine cf (l26Read_f _ (hw (bz (atW (wsS s) 5)) (by rw [← mapbz_eq hi5]; exact List.getElem_mem _))) fun _ _ => ?_
    refine t_app ?_
    rw [bz_list]
    refine go ?_; intros
    refine cf (l26One_f ⟨nwS (atW (wsS s) 1), nwS (atW (wsS s) 3), nwS (atW (wsS s) 5), z⟩) fun _ _ => ?_
    refine t_app ?_
    have hq := resPD_Sat h9 h8
    rw [hd] at hq
    cases g : goodDel ⟨nwS (atW (wsS s) 1), nwS (atW (wsS s) 3), nwS (atW (wsS s) 5), z⟩
    · rw [hq, g]
      refine go ?_; intros
      refine ret () trivial rfl
    refine go ?_; intros
    refine cb (fun w st => (l26Text_f ⟨nwS (atW (wsS s) 1), nwS (atW (wsS s) 3), nwS (atW (wsS s) 5), z⟩ FT g).val w (hol1 (st.get (p := EnvP FT) (by simp)))) ?_
    by_cases ht : delT ⟨nwS (atW (wsS s) 1), nwS (atW (wsS s) 3), nwS (atW (wsS s) 5), z⟩ = s
    · rw [hq, g, decide_eq_true ht, ht]
      refine go ?_; intros
      rw [show decide (¬ s = s) = false by simp]
      refine go ?_; intros
      refine ret () trivial rfl
    · rw [hq, g, decide_eq_false ht]
      refine go ?_; intros
      rw [show decide (¬ delT ⟨nwS (atW (wsS s) 1), nwS (atW (wsS s) 3), nwS (atW (wsS s) 5), z⟩ = s) = true by simpa using ht]
      refine go ?_; intros
      refine ret () trivial rfl
end Go.Proofs.YtgogcgkocjpgoaaDoor
/- Reports: their texts, and that they come back out of them. Plain. -/
namespace Go.Proofs.YtgogcgkocjpgoaaDoor
open Go.RowKit
theorem idx2_at (r : Bs) : ∀ x : Bs, (∀ c ∈ x, c ≠ 46) → Lib.index (x ++ 46 :: 32 :: r) [46, 32] = x.length
  | [], _ => by simp [Lib.index]
  | c :: x, h => by
    have ih := idx2_at r x (fun d hd => h d (by simp [hd]))
    have hc : ¬ (46 : UInt8) = c := fun e => h c (by simp) e.symm
    rw [List.cons_append, Lib.index, if_neg (by simp [hc]), ih, if_neg (by simp <;> omega)]
    simp
theorem idx2_no : ∀ x : Bs, (∀ c ∈ x, c ≠ 46) → Lib.index x [46, 32] = -1
  | [], _ => by simp [Lib.index]
  | c :: x, h => by
    have ih := idx2_no x (fun d hd => h d (by simp [hd]))
    have hc : ¬ (46 : UInt8) = c := fun e => h c (by simp) e.symm
    rw [Lib.index, if_neg (by simp [hc]), ih]; rfl
def jn2 (W : List Bs) : Bs := (W.map fun w => 46 :: 32 :: w).flatten
theorem split2 : ∀ (W : List Bs) (u : Bs), (∀ c ∈ u, c ≠ 46) → (∀ w ∈ W, ∀ c ∈ w, c ≠ 46) → Lib.splitB ⟨#[46, 32]⟩ 0 (Lib.countB (bz (u ++ jn2 W)) ⟨#[46, 32]⟩) (bz (u ++ jn2 W)) = (u :: W).map bz
  | [], u, hu, _ => by
    have hi : Lib.indexB (bz (u ++ jn2 [])) ⟨#[46, 32]⟩ = -1 := by
      unfold Lib.indexB
      rw [bz_list, show jn2 [] = [] from rfl, List.append_nil]
      exact idx2_no u hu
    rw [Lib.countB_miss _ _ hi, Lib.splitB_zero, show jn2 [] = [] from rfl, List.append_nil]; rfl
  | w :: W, u, hu, hW => by
    have e : u ++ jn2 (w :: W) = u ++ 46 :: 32 :: (w ++ jn2 W) := by simp [jn2]
    have hi : Lib.indexB (bz (u ++ jn2 (w :: W))) ⟨#[46, 32]⟩ = (u.length : Int) := by
      unfold Lib.indexB
      rw [bz_list, e]
      exact idx2_at (w ++ jn2 W) u hu
    have e1 : (bz (u ++ jn2 (w :: W))).extract 0 (u.length + 0) = bz u := by
      rw [← bz_of (ByteArray.extract _ _ _), Lib.extract_from_zero, bz_list, Nat.add_zero, List.take_left]
    have e2 : (bz (u ++ jn2 (w :: W))).extract (u.length + (⟨#[46, 32]⟩ : ByteArray).size) (bz (u ++ jn2 (w :: W))).size = bz (w ++ jn2 W) := by
      rw [← bz_of (ByteArray.extract _ _ _)]
      congr 1
      rw [Lib.extract_data, bz_list, e, bz_size, show (⟨#[46, 32]⟩ : ByteArray).size = 2 from rfl, show u ++ 46 :: 32 :: (w ++ jn2 W) = (u ++ [46, 32]) ++ (w ++ jn2 W) by simp, List.drop_left' (by simp)]
      exact List.take_of_length_le (by simp; omega)
    rw [Lib.countB_hit _ _ _ (by decide) hi, e2, Nat.add_comm, Lib.splitB_hit _ _ _ _ _ hi, e1, e2, split2 W w (hW w (by simp)) (fun v hv => hW v (by simp [hv]))]
    rfl
def noRcv : ByteArray := ⟨#[84, 104, 101, 114, 101, 32, 97, 114, 101, 32, 110, 111, 32, 114, 101, 99, 101, 105, 118, 101, 114, 115, 46]⟩
def dOk (l : List Delivery) (i : Nat) : Bool := match l[i]? with
  | some d => goodDel d && (decide (i = 0) || !decide (d.receiver ≤ (l.getD (i - 1) zDel).receiver))
  | none => true
theorem dOk_at {l : List Delivery} {i : Nat} (h : i < l.length) : dOk l i = (goodDel l[i] && (decide (i = 0) || !decide (l[i].receiver ≤ (l[i - 1]'(by omega)).receiver))) := by
  unfold dOk
  rw [List.getElem?_eq_getElem h, List.getD_eq_getElem?_getD, List.getElem?_eq_getElem (by omega)]; rfl
def goodDels (l : List Delivery) : Bool := (List.range l.length).all (dOk l)
theorem goodDels_no {l : List Delivery} {i : Nat} (h : i < l.length) (hc : dOk l i = false) : goodDels l = false := by
  unfold goodDels
  rw [List.all_eq_false]
  exact ⟨i, List.mem_range.2 h, by simp [hc]⟩
theorem goodDels_yes {l : List Delivery} (h : ∀ j, j < l.length → dOk l j = true) : goodDels l = true := by
  unfold goodDels
  exact List.all_eq_true.2 fun j hj => h j (List.mem_range.1 hj)
theorem goodDels_at {l : List Delivery} (hg : goodDels l = true) {i : Nat} (h : i < l.length) : goodDel l[i] = true ∧ (0 < i → (l[i - 1]'(by omega)).receiver < l[i].receiver) := by
  unfold goodDels at hg
  have := List.all_eq_true.1 hg i (List.mem_range.2 h)
  rw [dOk_at h] at this
  simp only [Bool.and_eq_true, Bool.or_eq_true, Bool.not_eq_true', decide_eq_true_eq, decide_eq_false_iff_not] at this
  refine ⟨this.1, fun h0 => ?_⟩
  rcases this.2 with h1 | h1 <;> omega
theorem goodDels_mem {l : List Delivery} (hg : goodDels l = true) : ∀ d ∈ l, goodDel d = true := fun d hd => by
  obtain ⟨i, hi, rfl⟩ := List.mem_iff_getElem.1 hd
  exact (goodDels_at hg hi).1
theorem goodDels_rec {l : List Delivery} (hg : goodDels l = true) : ∀ i (h : i < l.length), (i : Int) + 1 ≤ l[i].receiver
  | 0, h => by have := (good_del (goodDels_at hg h).1).1; omega
  | i + 1, h => by
    have ih := goodDels_rec hg i (by omega)
    have := (goodDels_at hg h).2 (by omega)
    simp only [Nat.add_sub_cancel] at this
    omega
theorem goodDels_len {l : List Delivery} (hg : goodDels l = true) : l.length ≤ 7 := by
  by_cases h : l.length = 0
  · omega
  · have h1 := goodDels_rec hg (l.length - 1) (by omega)
    have h2 := (good_del (goodDels_at hg (i := l.length - 1) (by omega)).1).1
    omega
def tailR (r : List Delivery) : Bs := (r.map fun e => 32 :: (delB e ++ [46])).flatten
def repB (d : Delivery) (r : List Delivery) : Bs := delB d ++ [46] ++ tailR r
def repT : List Delivery → ByteArray
  | [] => noRcv
  | d :: r => bz (repB d r)
theorem repB_dot : ∀ (r : List Delivery) (d : Delivery), repB d r = delB d ++ jn2 (r.map delB) ++ [46]
  | [], d => by simp [repB, tailR, jn2]
  | e :: r, d => by
    have ih := repB_dot r e
    unfold repB tailR jn2 at *
    simp only [List.map_cons, List.flatten_cons, List.append_assoc, List.cons_append, List.nil_append] at ih ⊢
    rw [ih]
theorem repT_size {l : List Delivery} (hg : goodDels l = true) : (repT l).size ≤ 600 := by
  have h7 := goodDels_len hg
  have hm := goodDels_mem hg
  have hb : ∀ d ∈ l, (delB d).length ≤ 79 := fun d hd => by
    have := delT_size (hm d hd)
    unfold delT at this; rw [bz_size, List.length_append] at this
    simp only [List.length_cons, List.length_nil] at this; omega
  cases l with
  | nil => decide
  | cons d r =>
    show (bz (repB d r)).size ≤ 600
    rw [bz_size]
    have ht : ∀ r : List Delivery, (∀ e ∈ r, (delB e).length ≤ 79) → (tailR r).length ≤ 81 * r.length := by
      intro r
      induction r with
      | nil => intro _; simp [tailR]
      | cons e r ih =>
        intro h
        have h1 := ih fun f hf => h f (by simp [hf])
        have h2 := h e (by simp)
        unfold tailR at h1 ⊢
        simp only [List.map_cons, List.flatten_cons, List.length_append, List.length_cons, List.length_nil]
        omega
    have h1 := ht r fun e he => hb e (by simp [he])
    have h2 := hb d (by simp)
    unfold repB
    simp only [List.length_append, List.length_cons, List.length_nil] at h7 ⊢
    omega
/-- sentences read one by one -/
def prD (t : Bs) : Delivery × Bool := resPD (bz (t ++ [46]))
def okAll (ts : List Bs) : Bool := ts.all fun t => (prD t).2
def valAll (ts : List Bs) : List Delivery := ts.map fun t => (prD t).1
theorem prD_del {d : Delivery} (hg : goodDel d = true) : prD (delB d) = (d, true) := resPD_back hg
theorem all_del {l : List Delivery} (hm : ∀ d ∈ l, goodDel d = true) : okAll (l.map delB) = true ∧ valAll (l.map delB) = l := by
  constructor
  · unfold okAll
    rw [List.all_map, List.all_eq_true]
    intro d hd
    show (prD (delB d)).2 = true
    rw [prD_del (hm d hd)]
  · unfold valAll
    rw [List.map_map]
    have : ∀ d ∈ l, ((fun t => (prD t).1) ∘ delB) d = id d := fun d hd => by
      show (prD (delB d)).1 = d
      rw [prD_del (hm d hd)]
    rw [List.map_congr_left this, List.map_id]
def tsI (s : ByteArray) : List Bs := (Lib.splitB ⟨#[46, 32]⟩ 0 (Lib.countB (bz (unDot s.data.toList)) ⟨#[46, 32]⟩) (bz (unDot s.data.toList))).map fun t => t.data.toList
def tsS (s : ByteArray) : List Bs := (splitL 46 s.data.toList).dropLast.take 1 ++ ((splitL 46 s.data.toList).dropLast.drop 1).map (List.drop 1)
def okPRI (s : ByteArray) : Bool := okAll (tsI s) && goodDels (valAll (tsI s)) && decide (repT (valAll (tsI s)) = s)
def okPRS (s : ByteArray) : Bool := !decide (640 < s.size) && okAll (tsS s) && !decide (tsS s = []) && goodDels (valAll (tsS s)) && decide (repT (valAll (tsS s)) = s)
def resPR (s : ByteArray) : List Delivery × Bool := if decide (s = noRcv) then ([], true) else if okPRI s then (valAll (tsI s), true) else ([], false)
theorem tsI_rep {d : Delivery} {r : List Delivery} : tsI (bz (repB d r)) = (d :: r).map delB := by
  unfold tsI
  rw [bz_list, repB_dot, unDot_at, split2 _ _ delB_ne (by
    intro w hw
    obtain ⟨e, -, rfl⟩ := List.mem_map.1 hw
    exact delB_ne)]
  simp [bz_list]
theorem splitL_rep : ∀ (r : List Delivery) (d : Delivery), splitL 46 (repB d r) = delB d :: (r.map fun e => 32 :: delB e) ++ [[]]
  | [], d => by
    unfold repB tailR
    rw [List.map_nil, List.flatten_nil, List.append_nil, splitL_at [] delB_ne]; rfl
  | e :: r, d => by
    have ih := splitL_rep r e
    have h1 : repB d (e :: r) = delB d ++ 46 :: ((32 :: delB e) ++ 46 :: tailR r) := by unfold repB tailR; simp
    have h2 : repB e r = delB e ++ 46 :: tailR r := by unfold repB; simp
    rw [h2, splitL_at _ delB_ne] at ih
    rw [h1, splitL_at _ delB_ne, splitL_at _ (by
      intro c hc
      rcases List.mem_cons.1 hc with rfl | hc
      · decide
      · exact delB_ne c hc)]
    simp only [List.map_cons, List.cons_append] at ih ⊢
    injection ih with _ ih
    rw [ih]
theorem tsS_rep {d : Delivery} {r : List Delivery} : tsS (bz (repB d r)) = (d :: r).map delB := by
  unfold tsS
  rw [bz_list, splitL_rep, List.dropLast_concat]
  simp
theorem okPRI_rep {l : List Delivery} (h0 : l ≠ []) (hg : goodDels l = true) : okPRI (repT l) = true ∧ valAll (tsI (repT l)) = l := by
  cases l with
  | nil => exact absurd rfl h0
  | cons d r =>
    obtain ⟨a, b⟩ := all_del (goodDels_mem hg)
    have e : tsI (repT (d :: r)) = (d :: r).map delB := tsI_rep
    unfold okPRI
    rw [e, a, b, hg, decide_eq_true rfl]
    exact ⟨rfl, rfl⟩
theorem okPRS_rep {l : List Delivery} (h0 : l ≠ []) (hg : goodDels l = true) : okPRS (repT l) = true ∧ valAll (tsS (repT l)) = l := by
  cases l with
  | nil => exact absurd rfl h0
  | cons d r =>
    obtain ⟨a, b⟩ := all_del (goodDels_mem hg)
    have e : tsS (repT (d :: r)) = (d :: r).map delB := tsS_rep
    have hs := repT_size hg
    unfold okPRS
    rw [e, a, b, hg, decide_eq_true rfl, decide_eq_false (by omega), decide_eq_false (by simp)]
    exact ⟨rfl, rfl⟩
theorem resPR_S (s : ByteArray) (hn : s ≠ noRcv) : (if okPRS s then (valAll (tsS s), true) else (([] : List Delivery), false)) = resPR s := by
  unfold resPR
  rw [decide_eq_false hn]
  cases h : okPRS s
  · cases h2 : okPRI s
    · rfl
    · unfold okPRI at h2
      simp only [Bool.and_eq_true, decide_eq_true_eq] at h2
      obtain ⟨⟨-, hg⟩, e⟩ := h2
      have h0 : valAll (tsI s) ≠ [] := fun h => by rw [h] at e; exact hn e.symm
      rw [← e, (okPRS_rep h0 hg).1] at h
      cases h
  · have h1 := h
    unfold okPRS at h1
    simp only [Bool.and_eq_true, decide_eq_true_eq] at h1
    obtain ⟨⟨-, hg⟩, e⟩ := h1
    have h0 : valAll (tsS s) ≠ [] := fun h => by rw [h] at e; exact hn e.symm
    have h2 := okPRI_rep h0 hg
    rw [e] at h2
    rw [h2.1, h2.2]; rfl
theorem resPR_no : resPR noRcv = ([], true) := by unfold resPR; rw [decide_eq_true rfl]; rfl
end Go.Proofs.YtgogcgkocjpgoaaDoor
/- Reports: checked, written; the program and the reference. -/
namespace Go.Proofs.YtgogcgkocjpgoaaDoor
open Go.RowKit
set_option maxRecDepth 100000 in
theorem areDeliveries_f (l : List Delivery) (a : Option Addr) (c : Nat) (F : List Nat) (hl : l.length ≤ 1000000000) : Fn Tryd.prog 30 [.slice a l.length c] [.sl EDelivery (.slice a l.length c) l F] [] (fun (_ : Unit) => True) (fun _ => .bool (goodDels l)) (fun _ => []) := by
  refine enter Tryd.func30 rfl Tryd.ntmps30 fun w0 => ?_
  refine go ?_; intros
  refine c_loopR [0, 2, 5, 6] (fun k : Nat => [(7, .int .i64 k)]) (fun k => k ≤ l.length ∧ ∀ j, j < k → dOk l j = true) (fun k => l.length - k) 0 ⟨Nat.zero_le _, fun j hj => by omega⟩ fun k hk => ?_
  obtain ⟨hk, hp⟩ := hk
  refine go ?_; intros
  refine c_if rfl (fun h3 => ?_) (fun h3 => ?_)
  · have hk3 : k < l.length := by omega
    refine atDelivery (a := a) (xs := l) k ?_
    rintro hi b o e
    rw [e]
    refine goN ?_; intros
    cases g1 : goodDel l[k]
    · refine d_start [0, 1] [] ?_
      refine dt 0 ?_
      refine dO 1 (by kernel_rfl) (by rw [List.getElem?_toArray]; rfl) ?_
      apply o_call; rfl; kernel_rfl; exact evsE
      refine cf (IsValidDelivery_f l[k]) fun _ _ => ?_
      refine t_app ?_
      rw [g1]
      refine dk ?_
      refine dt 2 ?_
      refine dt 3 ?_
      refine ds 4 ?_
      refine ds 5 ?_
      refine ds 6 ?_
      refine dsu 7 ?_
      refine dsu 8 ?_
      refine dsu 9 ?_
      refine dsu 10 ?_
      refine dsu 11 ?_
      refine dsu 12 ?_
      refine dsu 13 ?_
      refine dsu 14 ?_
      refine dsu 15 ?_
      refine ds 16 ?_
      refine dt 17 ?_
      refine dd ?_
      refine go ?_; intros
      rw [goodDels_no hk3 (by rw [dOk_at hk3, g1]; rfl)]
      refine ret () trivial rfl
    by_cases k0 : k = 0
    · refine d_start [0, 1] [] ?_
      refine dt 0 ?_
      refine dO 1 (by kernel_rfl) (by rw [List.getElem?_toArray]; rfl) ?_
      apply o_call; rfl; kernel_rfl; exact evsE
      refine cf (IsValidDelivery_f l[k]) fun _ _ => ?_
      refine t_app ?_
      rw [g1]
      refine dk ?_
      refine dt 2 ?_
      refine dt 3 ?_
      refine dtg 4 ?_
      refine dtg 5 ?_
      rw [show decide ((0 : Int) < ((k : Nat) : Int)) = false by simp [k0]]
      refine dtg 6 ?_
      refine ds 7 ?_
      refine ds 8 ?_
      refine ds 9 ?_
      refine ds 10 ?_
      refine ds 11 ?_
      refine ds 12 ?_
      refine ds 13 ?_
      refine ds 14 ?_
      refine ds 15 ?_
      refine dtg 16 ?_
      refine dt 17 ?_
      refine dd ?_
      refine go ?_; intros
      refine n_lp (k + 1) ⟨hk3, fun j hj => ?_⟩ (by omega)
      by_cases hjk : j < k
      · exact hp j hjk
      · obtain rfl : j = k := by omega
        rw [dOk_at hk3, g1]
        rw [decide_eq_true k0]; rfl
    · refine atDelivery (a := some ⟨b, o, none⟩) (xs := l) (k - 1) ?_
      rintro hi2 _ _ e2
      cases e2
      refine d_start [0, 1, 2] [] ?_
      refine dt 0 ?_
      refine dO 1 (by kernel_rfl) (by rw [List.getElem?_toArray]; rfl) ?_
      apply o_call; rfl; kernel_rfl; exact evsE
      refine cf (IsValidDelivery_f l[k]) fun _ _ => ?_
      refine t_app ?_
      rw [g1]
      refine dk ?_
      refine dt 2 ?_
      refine dt 3 ?_
      refine dtg 4 ?_
      refine dtg 5 ?_
      rw [show decide ((0 : Int) < ((k : Nat) : Int)) = true by simp; omega]
      refine dtg 6 ?_
      refine dtg 7 ?_
      refine dtg 8 ?_
      refine dtg 9 ?_
      rw [show ((k : Nat) : Int) - 1 = ((k - 1 : Nat) : Int) by omega]
      refine dtg 10 ?_
      refine dtg 11 ?_
      refine dtg 12 ?_
      refine dtg 13 ?_
      refine dtg 14 ?_
      refine dtg 15 ?_
      refine dtg 16 ?_
      refine dt 17 ?_
      refine dd ?_
      refine go ?_; intros
      refine c_if rfl (fun h5 => ?_) (fun h5 => ?_)
      · rw [goodDels_no hk3 (by rw [dOk_at hk3, g1, decide_eq_false k0, decide_eq_true h5]; rfl)]
        refine go ?_; intros
        refine ret () trivial rfl
      · refine go ?_; intros
        refine n_lp (k + 1) ⟨hk3, fun j hj => ?_⟩ (by omega)
        by_cases hjk : j < k
        · exact hp j hjk
        · obtain rfl : j = k := by omega
          rw [dOk_at hk3, g1, decide_eq_false k0, decide_eq_false h5]; rfl
  · rw [goodDels_yes fun j hj => hp j (by omega)]
    refine go ?_; intros
    refine ret () trivial rfl
set_option maxRecDepth 100000 in
theorem l26Good_f (l : List Delivery) (a : Option Addr) (c : Nat) (F : List Nat) (hl : l.length ≤ 1000000000) : Fn Tryd.prog 20 [.slice a l.length c] [.sl EDelivery (.slice a l.length c) l F] [] (fun (_ : Unit) => True) (fun _ => .bool (goodDels l)) (fun _ => []) := by
  refine enter Tryd.func20 rfl Tryd.ntmps20 fun w0 => ?_
  refine go ?_; intros
  refine c_loopR [0, 2] (fun k : Nat => [(3, .int .i64 k)]) (fun k => k ≤ l.length ∧ ∀ j, j < k → dOk l j = true) (fun k => l.length - k) 0 ⟨Nat.zero_le _, fun j hj => by omega⟩ fun k hk => ?_
  obtain ⟨hk, hp⟩ := hk
  refine go ?_; intros
  refine c_if rfl (fun h3 => ?_) (fun h3 => ?_)
  · have hk3 : k < l.length := by omega
    refine atDelivery (a := a) (xs := l) k ?_
    rintro hi b o e
    rw [e]
    refine goN ?_; intros
    cases g1 : goodDel l[k]
    · refine d_start [0] [] ?_
      refine dt 0 ?_
      refine dt 1 ?_
      refine dt 2 ?_
      refine dt 3 ?_
      refine dO 4 (by kernel_rfl) (by rw [List.getElem?_toArray]; rfl) ?_
      apply o_call; rfl; kernel_rfl; exact evsE
      refine cf (l26One_f l[k]) fun _ _ => ?_
      refine t_app ?_
      rw [g1]
      refine dk ?_
      refine dt 5 ?_
      refine dt 6 ?_
      refine ds 7 ?_
      refine ds 8 ?_
      refine ds 9 ?_
      refine dsu 10 ?_
      refine dsu 11 ?_
      refine dsu 12 ?_
      refine dsu 13 ?_
      refine dsu 14 ?_
      refine dsu 15 ?_
      refine dsu 16 ?_
      refine dsu 17 ?_
      refine dsu 18 ?_
      refine dsu 19 ?_
      refine dsu 20 ?_
      refine dsu 21 ?_
      refine ds 22 ?_
      refine dt 23 ?_
      refine dd ?_
      refine go ?_; intros
      rw [goodDels_no hk3 (by rw [dOk_at hk3, g1]; rfl)]
      refine ret () trivial rfl
    by_cases k0 : k = 0
    · refine d_start [0] [] ?_
      refine dt 0 ?_
      refine dt 1 ?_
      refine dt 2 ?_
      refine dt 3 ?_
      refine dO 4 (by kernel_rfl) (by rw [List.getElem?_toArray]; rfl) ?_
      apply o_call; rfl; kernel_rfl; exact evsE
      refine cf (l26One_f l[k]) fun _ _ => ?_
      refine t_app ?_
      rw [g1]
      refine dk ?_
      refine dt 5 ?_
      refine dt 6 ?_
      refine dtg 7 ?_
      refine dtg 8 ?_
      rw [show decide ((0 : Int) < ((k : Nat) : Int)) = false by simp [k0]]
      refine dtg 9 ?_
      refine ds 10 ?_
      refine ds 11 ?_
      refine ds 12 ?_
      refine ds 13 ?_
      refine ds 14 ?_
      refine ds 15 ?_
      refine ds 16 ?_
      refine ds 17 ?_
      refine ds 18 ?_
      refine ds 19 ?_
      refine ds 20 ?_
      refine ds 21 ?_
      refine dtg 22 ?_
      refine dt 23 ?_
      refine dd ?_
      refine go ?_; intros
      refine n_lp (k + 1) ⟨hk3, fun j hj => ?_⟩ (by omega)
      by_cases hjk : j < k
      · exact hp j hjk
      · obtain rfl : j = k := by omega
        rw [dOk_at hk3, g1]
        rw [decide_eq_true k0]; rfl
    · refine atDelivery (a := some ⟨b, o, none⟩) (xs := l) (k - 1) ?_
      rintro hi2 _ _ e2
      cases e2
      refine d_start [0, 1] [] ?_
      refine dt 0 ?_
      refine dt 1 ?_
      refine dt 2 ?_
      refine dt 3 ?_
      refine dO 4 (by kernel_rfl) (by rw [List.getElem?_toArray]; rfl) ?_
      apply o_call; rfl; kernel_rfl; exact evsE
      refine cf (l26One_f l[k]) fun _ _ => ?_
      refine t_app ?_
      rw [g1]
      refine dk ?_
      refine dt 5 ?_
      refine dt 6 ?_
      refine dtg 7 ?_
      refine dtg 8 ?_
      rw [show decide ((0 : Int) < ((k : Nat) : Int)) = true by simp; omega]
      refine dtg 9 ?_
      refine dtg 10 ?_
      refine dtg 11 ?_
      refine dtg 12 ?_
      rw [show ((k : Nat) : Int) - 1 = ((k - 1 : Nat) : Int) by omega]
      refine dtg 13 ?_
      refine dtg 14 ?_
      refine dtg 15 ?_
      refine dtg 16 ?_
      refine dtg 17 ?_
      refine dtg 18 ?_
      refine dtg 19 ?_
      refine dtg 20 ?_
      refine dtg 21 ?_
      refine dtg 22 ?_
      refine dt 23 ?_
      refine dd ?_
      refine go ?_; intros
      refine c_if rfl (fun h5 => ?_) (fun h5 => ?_)
      · rw [goodDels_no hk3 (by rw [dOk_at hk3, g1, decide_eq_false k0, decide_eq_true h5]; rfl)]
        refine go ?_; intros
        refine ret () trivial rfl
      · refine go ?_; intros
        refine n_lp (k + 1) ⟨hk3, fun j hj => ?_⟩ (by omega)
        by_cases hjk : j < k
        · exact hp j hjk
        · obtain rfl : j = k := by omega
          rw [dOk_at hk3, g1, decide_eq_false k0, decide_eq_false h5]; rfl
  · rw [goodDels_yes fun j hj => hp j (by omega)]
    refine go ?_; intros
    refine ret () trivial rfl
theorem sl_cells {w : World} {a : Option Addr} {n cp : Nat} {xs : List ByteArray} {F : List Nat} (h : (Pc.sl EStr (.slice a n cp) xs F).P w) (h0 : 0 < xs.length) : ∃ b o, a = some ⟨b, o, none⟩ ∧ n = xs.length ∧ xs.length ≤ cp ∧ b < w.heap.size ∧ ∀ (j : Nat) x, xs[j]? = some x → w.cell? ⟨b, o + j, none⟩ = some (.string x) := by
  have hlt := h.2.lt
  obtain ⟨hz, a', cap, hv, hl, h | ⟨b, o, F', rfl, hne, rfl, hc⟩⟩ := h
  · rw [h.1] at h0; simp at h0
  · simp only [Value.slice.injEq] at hv
    obtain ⟨rfl, rfl, rfl⟩ := hv
    refine ⟨b, o, rfl, rfl, hl.1, hlt (by decide) b (by simp), fun j x hj => ?_⟩
    obtain ⟨hj1, rfl⟩ := List.getElem?_eq_some_iff.1 hj
    obtain ⟨cs, F1, ⟨rfl, -, -⟩, h2, -⟩ := hc.get j hj1
    have := h2 0 (by decide)
    simpa [EStr] using this
theorem join_c (xs : List ByteArray) (sep : ByteArray) (a : Option Addr) (cp : Nat) (F : List Nat) (w : World) (h : (Pc.sl EStr (.slice a xs.length cp) xs F).P w) (h0 : 0 < xs.length) (hN : xs.length ≤ 1000000000) (hlen : (Lib.join (xs.map (·.data.toList)) sep.data.toList).length ≤ 1000000000) :
    Calls Tryd.prog 31 #[.slice a xs.length cp, .string sep] w fun e w' => e = .returned (.string (bz (Lib.join (xs.map (·.data.toList)) sep.data.toList))) ∧ Below w.heap.size w w' := by
  obtain ⟨b, o, rfl, -, hcap, hb, hc⟩ := sl_cells h h0
  exact Tryd.strings_Join b o cp xs sep w hc hb (by omega) hcap (by omega)
theorem join_rep (d : Delivery) (r : List Delivery) : Lib.join (((d :: r).map delT).map (·.data.toList)) [32] = repB d r := by
  rw [List.map_map, List.map_cons, Lib.join_cons]
  unfold Lib.joinTail repB tailR
  rw [List.map_map]
  simp only [Function.comp_def, delT_list, List.cons_append, List.nil_append]
theorem repB_size {d : Delivery} {r : List Delivery} (hg : goodDels (d :: r) = true) : (repB d r).length ≤ 600 := by
  have := repT_size hg
  rw [show repT (d :: r) = bz (repB d r) from rfl, bz_size] at this
  exact this
def resRT (l : List Delivery) : ByteArray × Bool := if goodDels l then (repT l, true) else (⟨#[]⟩, false)
structure RtS where
  k : Nat
  a : Option Addr
  c : Nat
  F : List Nat
set_option maxRecDepth 100000 in
theorem ReportText_f (l : List Delivery) (a : Option Addr) (c : Nat) (F FT : List Nat) (hl : l.length ≤ 1000000000) : Fn Tryd.prog 21 [.slice a l.length c] [.sl EDelivery (.slice a l.length c) l F, EnvP FT] [] (fun (_ : Unit) => True) (fun _ => .tuple #[.string (resRT l).1, .bool (resRT l).2]) (fun _ => []) := by
  refine enter Tryd.func21 rfl Tryd.ntmps21 fun w0 => ?_
  refine go ?_; intros
  refine cf (areDeliveries_f l a c F hl) fun _ _ => ?_
  refine t_app ?_
  cases g : goodDels l
  · rw [show resRT l = (⟨#[]⟩, false) by unfold resRT; rw [g]; rfl]
    refine go ?_; intros
    refine ret () trivial rfl
  rw [show resRT l = (repT l, true) by unfold resRT; rw [g]; rfl]
  have h7 := goodDels_len g
  have hm := goodDels_mem g
  refine go ?_; intros
  refine c_if rfl (fun h0 => ?_) (fun h0 => ?_)
  · have e : l = [] := List.length_eq_zero_iff.1 (by omega)
    rw [show repT l = noRcv by rw [e]; rfl]
    refine go ?_; intros
    refine ret () trivial rfl
  refine go ?_; intros
  refine t_nilow EStr 9 ?_
  refine c_loopS [2, 3, 13, 14] (fun z : RtS => [(4, .slice z.a ((l.take z.k).map delT).length z.c), (15, .int .i64 (z.k : Nat))]) (fun z => [.ow EStr 9 (.slice z.a ((l.take z.k).map delT).length z.c) ((l.take z.k).map delT) z.F]) (fun z => z.k ≤ l.length) (fun z => l.length - z.k) ⟨0, none, 0, []⟩ (Nat.zero_le _) fun z hz => ?_
  have hml : ((l.take z.k).map delT).length = z.k := by rw [List.length_map, List.length_take]; omega
  refine go ?_; intros
  refine c_if rfl (fun h1 => ?_) (fun h1 => ?_)
  · have hk : z.k < l.length := by omega
    have hg := hm _ (List.getElem_mem hk)
    have hx : (delT l[z.k]).size ≤ maxLen := by have := delT_size hg; unfold maxLen; omega
    refine atDelivery (a := a) (xs := l) z.k ?_
    rintro hi b o e
    rw [e]
    refine go ?_; intros
    refine cb (fun w st => (deliveryText_f l[z.k] FT hg).val w (hol1 (st.get (p := EnvP FT) (by simp)))) ?_
    refine goN ?_; intros
    apply wO
    refine ap1 (rep_s hx) one_EStr fun a9 c9 F9 => ?_
    refine go ?_; intros
    have e9 : (l.take z.k).map delT ++ [delT l[z.k]] = (l.take (z.k + 1)).map delT := by rw [List.take_succ_eq_append_getElem hk, List.map_append]; rfl
    rw [e9]
    refine n_lp ⟨z.k + 1, a9, c9, F9⟩ (by show z.k + 1 ≤ l.length; omega) (by show l.length - (z.k + 1) < l.length - z.k; omega)
  · have hk : z.k = l.length := by omega
    have e9 : (l.take z.k).map delT = l.map delT := by rw [hk, List.take_length]
    rw [e9]
    refine t_read (E := EStr) (xs := l.map delT) fun F8 => ?_
    obtain ⟨d, r, rfl⟩ : ∃ d r, l = d :: r := by
      cases l with
      | nil => exact absurd rfl h0
      | cons d r => exact ⟨d, r, rfl⟩
    have hj := join_rep d r
    have hjl := repB_size g
    refine go ?_; intros
    refine cb (fun w st => join_c ((d :: r).map delT) ⟨#[32]⟩ z.a z.c F8 w (st.get (p := .sl EStr (.slice z.a ((d :: r).map delT).length z.c) ((d :: r).map delT) F8) (by simp)) (by simp) (by rw [List.length_map]; omega) (by rw [show (⟨#[32]⟩ : ByteArray).data.toList = [32] from rfl, hj]; omega)) ?_
    rw [show (⟨#[32]⟩ : ByteArray).data.toList = [32] from rfl, hj]
    refine go ?_; intros
    refine ret () trivial rfl
end Go.Proofs.YtgogcgkocjpgoaaDoor
/- Reports read out of texts: the program and the reference. -/
namespace Go.Proofs.YtgogcgkocjpgoaaDoor
open Go.RowKit
theorem tailR_take (r : List Delivery) : ∀ k, (tailR (r.take k)).length ≤ (tailR r).length := by
  induction r with
  | nil => intro k; simp
  | cons d r ih =>
    intro k
    cases k with
    | zero => exact Nat.zero_le _
    | succ k =>
      have := ih k
      unfold tailR at this ⊢
      simp only [List.take_succ_cons, List.map_cons, List.flatten_cons, List.length_append]
      omega
theorem repB_succ {d : Delivery} {r : List Delivery} {k : Nat} (h : k < r.length) : bz (repB d (r.take k)) ++ ⟨#[32]⟩ ++ delT r[k] = bz (repB d (r.take (k + 1))) := by
  have e : repB d (r.take (k + 1)) = repB d (r.take k) ++ (32 :: (delB r[k] ++ [46])) := by
    unfold repB tailR
    rw [List.take_succ_eq_append_getElem h]
    simp only [List.map_append, List.flatten_append, List.map_cons, List.map_nil, List.flatten_cons, List.flatten_nil, List.append_nil, List.append_assoc]
  rw [e]
  unfold delT
  apply ByteArray.ext; simp [bz, ByteArray.data_append]
theorem l26Rep0_f (a : Option Addr) (c : Nat) : Fn Tryd.prog 18 [.slice a 0 c] [] [] (fun (_ : Unit) => True) (fun _ => .string noRcv) (fun _ => []) := by
  refine enter Tryd.func18 rfl Tryd.ntmps18 fun w0 => ?_
  refine go ?_; intros
  refine ret () trivial rfl
set_option maxRecDepth 100000 in
theorem l26Report_f (d : Delivery) (r : List Delivery) (a : Option Addr) (c : Nat) (F FT : List Nat) (hg : goodDels (d :: r) = true) : Fn Tryd.prog 18 [.slice a (d :: r).length c] [.sl EDelivery (.slice a (d :: r).length c) (d :: r) F, EnvP FT] [] (fun (_ : Unit) => True) (fun _ => .string (repT (d :: r))) (fun _ => []) := by
  have h7 := goodDels_len hg
  have hm := goodDels_mem hg
  have hz := repB_size hg
  have z1 : (⟨#[32]⟩ : ByteArray).size = 1 := rfl
  refine enter Tryd.func18 rfl Tryd.ntmps18 fun w0 => ?_
  refine atDelivery (a := a) (xs := d :: r) 0 (hi := by simp) ?_
  rintro hi b o e
  rw [e]
  refine go ?_; intros
  refine cb (fun w st => (l26Text_f d FT (hm d (by simp))).val w (hol1 (st.get (p := EnvP FT) (by simp)))) ?_
  rw [show delT d = bz (repB d (r.take 0)) by unfold delT repB; simp [tailR]]
  refine go ?_; intros
  refine c_loopR [0, 2] (fun k : Nat => [(3, .string (bz (repB d (r.take k)))), (4, .int .i64 ((k + 1 : Nat) : Int))]) (fun k => k ≤ r.length) (fun k => r.length - k) 0 (Nat.zero_le _) fun k hk => ?_
  have hs : (bz (repB d (r.take k))).size ≤ 600 := by
    have := tailR_take r k
    rw [bz_size]; unfold repB at hz ⊢; simp only [List.length_append] at hz ⊢; omega
  refine go ?_; intros
  refine c_if rfl (fun h1 => ?_) (fun h1 => ?_)
  · have hk1 : k < r.length := by simp only [List.length_cons] at h1; omega
    have hx := delT_size (hm r[k] (by simp))
    have z2 := ByteArray.size_append (a := bz (repB d (r.take k))) (b := ⟨#[32]⟩)
    refine atDelivery (a := some ⟨b, o, none⟩) (xs := d :: r) (k + 1) (hi := by simp; omega) ?_
    rintro hi2 _ _ e2
    cases e2
    refine go ?_; intros
    refine cb (fun w st => (l26Text_f r[k] FT (hm r[k] (by simp))).val w (hol1 (st.get (p := EnvP FT) (by simp)))) ?_
    refine go ?_; intros
    rw [repB_succ hk1]
    refine n_lp (k + 1) hk1 (by omega)
  · have hk1 : k = r.length := by simp only [List.length_cons] at h1; omega
    rw [show r.take k = r by rw [hk1, List.take_length]]
    refine go ?_; intros
    refine ret () trivial rfl
theorem okAll_no {ts : List Bs} {k : Nat} (h : k < ts.length) (hp : (prD ts[k]).2 = false) : okAll ts = false := by
  unfold okAll
  rw [List.all_eq_false]
  exact ⟨ts[k], List.getElem_mem h, by simp [hp]⟩
theorem okAll_take {ts : List Bs} {k : Nat} (h : k < ts.length) (hp : (prD ts[k]).2 = true) (ha : okAll (ts.take k) = true) : okAll (ts.take (k + 1)) = true := by
  unfold okAll at *
  rw [List.take_succ_eq_append_getElem h, List.all_append, ha]
  simp [hp]
theorem valAll_take {ts : List Bs} {k : Nat} (h : k < ts.length) : valAll (ts.take (k + 1)) = valAll (ts.take k) ++ [(prD ts[k]).1] := by
  unfold valAll
  rw [List.take_succ_eq_append_getElem h, List.map_append]; rfl
theorem resPR_at {s : ByteArray} (hn : s ≠ noRcv) : resPR s = if okPRI s then (valAll (tsI s), true) else ([], false) := by
  unfold resPR; rw [decide_eq_false hn]; rfl
theorem tsI_len (s : ByteArray) : (tsI s).length ≤ s.size + 1 := by
  have hu := unDot_len s.data.toList
  rw [size_list] at hu
  have hcb := Lib.countB_le ⟨#[46, 32]⟩ (by decide) (bz (unDot s.data.toList)).size (bz (unDot s.data.toList)) (Nat.le_refl _)
  have hlen := Lib.splitB_all ⟨#[46, 32]⟩ (by decide) 0 _ (bz (unDot s.data.toList)) rfl
  rw [bz_size] at hcb
  unfold tsI
  rw [List.length_map, hlen]; omega
theorem tsI_bz (s : ByteArray) : Lib.splitB ⟨#[46, 32]⟩ 0 (Lib.countB (bz (unDot s.data.toList)) ⟨#[46, 32]⟩) (bz (unDot s.data.toList)) = (tsI s).map bz := by
  unfold tsI
  rw [List.map_map]
  have : ∀ t ∈ Lib.splitB ⟨#[46, 32]⟩ 0 (Lib.countB (bz (unDot s.data.toList)) ⟨#[46, 32]⟩) (bz (unDot s.data.toList)), (bz ∘ fun t => t.data.toList) t = id t := fun t _ => bz_of t
  rw [List.map_congr_left this, List.map_id]
theorem tsI_small (s : ByteArray) : ∀ t ∈ tsI s, t.length ≤ s.size := by
  intro t ht
  have hu := unDot_len s.data.toList
  rw [size_list] at hu
  unfold tsI at ht
  obtain ⟨u, h, rfl⟩ := List.mem_map.1 ht
  have := splitB_small ⟨#[46, 32]⟩ (unDot s.data.toList).length _ (bz (unDot s.data.toList)) (by rw [bz_size]; exact Nat.le_refl _) u h
  rw [size_list]; omega
structure PrS where
  k : Nat
  a : Option Addr
  c : Nat
  F : List Nat
theorem dot_app (t : Bs) : bz t ++ (⟨#[46]⟩ : ByteArray) = bz (t ++ [46]) := by apply ByteArray.ext; simp [bz, ByteArray.data_append]
set_option maxRecDepth 100000 in
theorem ParseReport_f (s : ByteArray) (FT : List Nat) (hs : s.size ≤ 1048576) : Fn Tryd.prog 9 [.string s] [EnvP FT] [] (fun (_ : PrS) => True) (fun z => .tuple #[.slice z.a (resPR s).1.length z.c, .bool (resPR s).2]) (fun z => [.ow EDelivery 23 (.slice z.a (resPR s).1.length z.c) (resPR s).1 z.F]) := by
  have z1 : (⟨#[46]⟩ : ByteArray).size = 1 := rfl
  have hu := unDot_len s.data.toList
  rw [size_list] at hu
  have htl := tsI_len s
  refine enter Tryd.func9 rfl Tryd.ntmps9 fun w0 => ?_
  refine go ?_; intros
  refine c_if rfl (fun h => ?_) (fun h => ?_)
  · rw [show resPR s = ([], true) by rw [show s = noRcv from h]; exact resPR_no]
    refine t_nilow EDelivery 23 ?_
    refine go ?_; intros
    refine ret ⟨0, none, 0, []⟩ trivial rfl
  have hq := resPR_at (show s ≠ noRcv from h)
  refine go ?_; intros
  refine ce (fun w _ => (Tryd.strings_TrimSuffix s ⟨#[46]⟩ w (by omega)).mono fun _ _ ⟨h1, h2⟩ => ⟨h1, h2.symm⟩) ?_
  rw [show (⟨(Lib.trimSuffix s.data.toList (⟨#[46]⟩ : ByteArray).data.toList).toArray⟩ : ByteArray) = bz (unDot s.data.toList) from rfl]
  refine go ?_; intros
  refine cn (fun w st => split_c (bz (unDot s.data.toList)) ⟨#[46, 32]⟩ (by rw [bz_size]; omega) (by decide) FT w (st.get (p := EnvP FT) (by simp))) fun a0 c0 F0 => ?_
  rw [tsI_bz]
  refine t_read (E := EStr) fun F1 => ?_
  have hml : ((tsI s).map bz).length = (tsI s).length := List.length_map ..
  refine go ?_; intros
  refine t_nilow EDelivery 23 ?_
  refine c_loopS [0, 2, 3, 15, 16] (fun z : PrS => [(4, .slice z.a (valAll ((tsI s).take z.k)).length z.c), (17, .int .i64 (z.k : Nat))]) (fun z => [.ow EDelivery 23 (.slice z.a (valAll ((tsI s).take z.k)).length z.c) (valAll ((tsI s).take z.k)) z.F]) (fun z => z.k ≤ (tsI s).length ∧ okAll ((tsI s).take z.k) = true) (fun z => (tsI s).length - z.k) ⟨0, none, 0, []⟩ ⟨Nat.zero_le _, rfl⟩ fun z hz => ?_
  obtain ⟨z2, z3⟩ := hz
  have hvl : (valAll ((tsI s).take z.k)).length = z.k := by unfold valAll; rw [List.length_map, List.length_take]; omega
  refine go ?_; intros
  refine c_if rfl (fun h1 => ?_) (fun h1 => ?_)
  · have hk : z.k < (tsI s).length := by omega
    have hts := tsI_small s _ (List.getElem_mem hk)
    have hbz : (bz (tsI s)[z.k]).size ≤ 1048576 := by rw [bz_size]; omega
    refine at_str (a := a0) (xs := (tsI s).map bz) z.k ?_
    rintro hi b o e s1
    rw [e]
    rw [List.getElem_map]
    refine go ?_; intros
    rw [dot_app]
    refine cb (fun w st => (ParseDelivery_f (bz ((tsI s)[z.k] ++ [46])) FT (by rw [bz_size, List.length_append]; simp only [List.length_cons, List.length_nil]; omega)).val w (hol1 (st.get (p := EnvP FT) (by simp)))) ?_
    rw [show resPD (bz ((tsI s)[z.k] ++ [46])) = prD (tsI s)[z.k] from rfl]
    cases g : (prD (tsI s)[z.k]).2
    · rw [show resPR s = ([], false) by rw [hq]; unfold okPRI; rw [okAll_no hk g]; rfl]
      refine t_nilow EDelivery 23 ?_
      refine go ?_; intros
      refine ret ⟨0, none, 0, []⟩ trivial rfl
    refine goN ?_; intros
    apply wO
    refine ap1 (flatDelivery (prD (tsI s)[z.k]).1) one_EDelivery fun a9 c9 F9 => ?_
    refine go ?_; intros
    rw [← valAll_take hk]
    refine n_lp ⟨z.k + 1, a9, c9, F9⟩ ⟨by show z.k + 1 ≤ (tsI s).length; omega, okAll_take hk g z3⟩ (by show (tsI s).length - (z.k + 1) < (tsI s).length - z.k; omega)
  · have hk : (tsI s).take z.k = tsI s := List.take_of_length_le (by omega)
    rw [hk] at z3 hvl ⊢
    refine go ?_; intros
    refine cfr (fun w st => by obtain ⟨Fq, -, hq9⟩ := (st.get (p := .ow EDelivery 23 (.slice z.a (valAll (tsI s)).length z.c) (valAll (tsI s)) z.F) (by simp)).2.read; exact ⟨[.sl EDelivery (.slice z.a (valAll (tsI s)).length z.c) (valAll (tsI s)) Fq, EnvP FT], hol2 ⟨by decide, hq9⟩ (st.get (p := EnvP FT) (by simp)), rfl, ReportText_f (valAll (tsI s)) z.a z.c Fq FT (by omega)⟩) (fun _ _ => ?_)
    refine t_app ?_
    cases g : goodDels (valAll (tsI s))
    · rw [show resPR s = ([], false) by rw [hq]; unfold okPRI; rw [g, z3]; rfl]
      rw [show resRT (valAll (tsI s)) = (⟨#[]⟩, false) by unfold resRT; rw [g]; rfl]
      refine t_nilow EDelivery 23 ?_
      refine go ?_; intros
      refine ret ⟨0, none, 0, []⟩ trivial rfl
    rw [show resRT (valAll (tsI s)) = (repT (valAll (tsI s)), true) by unfold resRT; rw [g]; rfl]
    by_cases ht : repT (valAll (tsI s)) = s
    · rw [show resPR s = (valAll (tsI s), true) by rw [hq]; unfold okPRI; rw [g, z3, decide_eq_true ht]; rfl, ht]
      refine go ?_; intros
      rw [show decide (¬ s = s) = false by simp]
      refine go ?_; intros
      refine ret z trivial rfl
    · rw [show resPR s = ([], false) by rw [hq]; unfold okPRI; rw [g, z3, decide_eq_false ht]; rfl]
      refine go ?_; intros
      rw [show decide (¬ repT (valAll (tsI s)) = s) = true by simpa using ht]
      refine t_nilow EDelivery 23 ?_
      refine go ?_; intros
      refine ret ⟨0, none, 0, []⟩ trivial rfl
end Go.Proofs.YtgogcgkocjpgoaaDoor
/- Reports read out of texts: the reference. -/
namespace Go.Proofs.YtgogcgkocjpgoaaDoor
open Go.RowKit
theorem tsS_len (s : ByteArray) : (tsS s).length = (splitL 46 s.data.toList).length - 1 := by
  unfold tsS
  simp only [List.length_append, List.length_take, List.length_map, List.length_drop, List.length_dropLast]; omega
theorem tsS_zero {s : ByteArray} (h : 0 < (tsS s).length) (h2 : 0 < (splitL 46 s.data.toList).length) : (tsS s)[0] = (splitL 46 s.data.toList)[0] := by
  have hl := tsS_len s
  have e : (tsS s)[0]? = (splitL 46 s.data.toList)[0]? := by
    unfold tsS
    rw [List.getElem?_append_left (by simp only [List.length_take, List.length_dropLast]; omega), List.getElem?_take_of_lt (by omega), List.getElem?_dropLast, if_pos (by omega)]
  rw [List.getElem?_eq_getElem h, List.getElem?_eq_getElem h2] at e
  exact Option.some.inj e
theorem tsS_succ {s : ByteArray} {k : Nat} (h : k + 1 < (tsS s).length) (h2 : k + 1 < (splitL 46 s.data.toList).length) : (tsS s)[k + 1] = ((splitL 46 s.data.toList)[k + 1]).drop 1 := by
  have hl := tsS_len s
  have e : (tsS s)[k + 1]? = ((splitL 46 s.data.toList)[k + 1]?).map (List.drop 1) := by
    unfold tsS
    rw [List.getElem?_append_right (by simp only [List.length_take, List.length_dropLast]; omega), List.getElem?_map, List.getElem?_drop, List.getElem?_dropLast]
    have h1 : (List.take 1 (splitL 46 s.data.toList).dropLast).length = 1 := by simp only [List.length_take, List.length_dropLast]; omega
    rw [h1, show 1 + (k + 1 - 1) = k + 1 by omega, if_pos (by omega)]
  rw [List.getElem?_eq_getElem h, List.getElem?_eq_getElem h2] at e
  exact Option.some.inj e
theorem parts_small (s : ByteArray) : ∀ t ∈ splitL 46 s.data.toList, t.length ≤ s.size := by
  intro t ht
  have h : bz t ∈ (splitL 46 s.data.toList).map bz := List.mem_map.2 ⟨t, ht, rfl⟩
  rw [← splitS_L] at h
  have := splitB_small ⟨#[46]⟩ s.size _ s (Nat.le_refl _) (bz t) h
  rw [bz_size] at this; exact this
theorem parts_len (s : ByteArray) : (splitL 46 s.data.toList).length ≤ s.size + 1 := by
  have hcb := Lib.countB_le ⟨#[46]⟩ (by decide) s.size s (Nat.le_refl _)
  have hlen := Lib.splitB_all ⟨#[46]⟩ (by decide) 0 _ s rfl
  rw [splitS_L, List.length_map] at hlen
  omega
theorem tsS_small (s : ByteArray) : ∀ t ∈ tsS s, t.length ≤ s.size := by
  intro t ht
  unfold tsS at ht
  rcases List.mem_append.1 ht with h | h
  · exact parts_small s t (List.dropLast_subset _ (List.mem_of_mem_take h))
  · obtain ⟨u, hu, rfl⟩ := List.mem_map.1 h
    have := parts_small s u (List.dropLast_subset _ (List.mem_of_mem_drop hu))
    simp only [List.length_drop]; omega
set_option maxRecDepth 100000 in
theorem specParseReport_f (s : ByteArray) (FT : List Nat) (hs : s.size ≤ 1048576) : Fn Tryd.prog 8 [.string s] [EnvP FT] [] (fun (_ : PrS) => True) (fun z => .tuple #[.slice z.a (resPR s).1.length z.c, .bool (resPR s).2]) (fun z => [.sl EDelivery (.slice z.a (resPR s).1.length z.c) (resPR s).1 z.F]) := by
  have z1 : (⟨#[46]⟩ : ByteArray).size = 1 := rfl
  have hpl := parts_len s
  have htl := tsS_len s
  have hml : ((splitL 46 s.data.toList).map bz).length = (splitL 46 s.data.toList).length := List.length_map ..
  have hp1 : 1 ≤ (splitL 46 s.data.toList).length := by
    have := splitL_ne 46 s.data.toList
    exact List.length_pos_iff.2 this
  refine enter Tryd.func8 rfl Tryd.ntmps8 fun w0 => ?_
  refine goN ?_; intros
  refine t_emp EDelivery ?_
  refine go ?_; intros
  refine cf (l26Rep0_f _ _) fun _ _ => ?_
  refine t_app ?_
  refine go ?_; intros
  refine c_if rfl (fun h => ?_) (fun h => ?_)
  · rw [show resPR s = ([], true) by rw [show s = noRcv from h]; exact resPR_no]
    refine go ?_; intros
    refine t_read (E := EDelivery) (xs := []) fun F9 => ?_
    refine ret ⟨0, _, _, _⟩ trivial rfl
  have h : s ≠ noRcv := h
  refine go ?_; intros
  refine c_if rfl (fun h6 => ?_) (fun h6 => ?_)
  · rw [show resPR s = ([], false) by rw [← resPR_S s h]; unfold okPRS; rw [decide_eq_true (by omega)]; simp]
    refine go ?_; intros
    refine t_read (E := EDelivery) (xs := []) fun F9 => ?_
    refine ret ⟨0, _, _, _⟩ trivial rfl
  refine go ?_; intros
  refine cf (l1Split_f s 46 (by omega)) fun q _ => ?_
  refine t_app ?_
  refine t_read (E := EStr) (xs := (splitL 46 s.data.toList).map bz) fun F1 => ?_
  refine go ?_; intros
  refine c_loopS [0, 2, 3, 5] (fun z : PrS => [(4, .slice z.a (valAll ((tsS s).take z.k)).length z.c), (6, .int .i64 (z.k : Nat))]) (fun z => [.ow EDelivery 23 (.slice z.a (valAll ((tsS s).take z.k)).length z.c) (valAll ((tsS s).take z.k)) z.F]) (fun z => z.k ≤ (tsS s).length ∧ okAll ((tsS s).take z.k) = true) (fun z => (tsS s).length - z.k) ⟨0, _, _, _⟩ ⟨Nat.zero_le _, rfl⟩ fun z hz => ?_
  obtain ⟨z2, z3⟩ := hz
  have hvl : (valAll ((tsS s).take z.k)).length = z.k := by unfold valAll; rw [List.length_map, List.length_take]; omega
  refine go ?_; intros
  refine c_if rfl (fun h1 => ?_) (fun h1 => ?_)
  · have hk : z.k < (tsS s).length := by omega
    have hkp : z.k < (splitL 46 s.data.toList).length := by omega
    have hts := tsS_small s _ (List.getElem_mem hk)
    have hbz : (bz (tsS s)[z.k]).size ≤ 1048576 := by rw [bz_size]; omega
    refine at_str (a := q.1) (xs := (splitL 46 s.data.toList).map bz) z.k ?_
    rintro hi b o e s1
    rw [e]
    rw [List.getElem_map]
    refine go ?_; intros
    refine wg_if rfl rfl (fun h7 => ?_) (fun h7 => ?_)
    · obtain ⟨k', hk'⟩ : ∃ k', z.k = k' + 1 := ⟨z.k - 1, by omega⟩
      have et : (tsS s)[z.k] = ((splitL 46 s.data.toList)[z.k]).drop 1 := by simp only [hk']; exact tsS_succ (by omega) (by omega)
      refine go ?_; intros
      refine c_if rfl (fun h8 => ?_) (fun h8 => ?_)
      · refine goN ?_; intros
        apply wO; apply oc; rfl; exact yd_sll rfl rfl (by omega) (by omega)
        rw [show (bz (splitL 46 s.data.toList)[z.k]).extract (1 : Int).toNat (bz (splitL 46 s.data.toList)[z.k]).size = bz (tsS s)[z.k] by rw [et]; have := ext_end (bz (splitL 46 s.data.toList)[z.k]) 1; rw [bz_list] at this; exact this]
        refine go ?_; intros
        rw [dot_app]
        refine cb (fun w st => (l26Parse_f (bz ((tsS s)[z.k] ++ [46])) FT (by rw [bz_size, List.length_append]; simp only [List.length_cons, List.length_nil]; omega)).val w (hol1 (st.get (p := EnvP FT) (by simp)))) ?_
        rw [show resPD (bz ((tsS s)[z.k] ++ [46])) = prD (tsS s)[z.k] from rfl]
        cases g : (prD (tsS s)[z.k]).2
        · rw [show resPR s = ([], false) by rw [← resPR_S s h]; unfold okPRS; rw [okAll_no hk g]; simp]
          refine goN ?_; intros
          refine t_emp EDelivery ?_
          refine t_read (E := EDelivery) (xs := []) fun F9 => ?_
          refine ret ⟨0, _, _, _⟩ trivial rfl
        refine goN ?_; intros
        apply wO
        refine ap1 (flatDelivery (prD (tsS s)[z.k]).1) one_EDelivery fun a9 c9 F9 => ?_
        refine go ?_; intros
        rw [← valAll_take hk]
        refine n_lp ⟨z.k + 1, a9, c9, F9⟩ ⟨by show z.k + 1 ≤ (tsS s).length; omega, okAll_take hk g z3⟩ (by show (tsS s).length - (z.k + 1) < (tsS s).length - z.k; omega)
      · have en : (splitL 46 s.data.toList)[z.k] = [] := by
          have : (bz (splitL 46 s.data.toList)[z.k]).size = 0 := by omega
          rw [bz_size] at this; exact List.length_eq_zero_iff.1 this
        rw [show bz (splitL 46 s.data.toList)[z.k] = bz (tsS s)[z.k] by rw [et, en]; rfl]
        refine go ?_; intros
        rw [dot_app]
        refine cb (fun w st => (l26Parse_f (bz ((tsS s)[z.k] ++ [46])) FT (by rw [bz_size, List.length_append]; simp only [List.length_cons, List.length_nil]; omega)).val w (hol1 (st.get (p := EnvP FT) (by simp)))) ?_
        rw [show resPD (bz ((tsS s)[z.k] ++ [46])) = prD (tsS s)[z.k] from rfl]
        cases g : (prD (tsS s)[z.k]).2
        · rw [show resPR s = ([], false) by rw [← resPR_S s h]; unfold okPRS; rw [okAll_no hk g]; simp]
          refine goN ?_; intros
          refine t_emp EDelivery ?_
          refine t_read (E := EDelivery) (xs := []) fun F9 => ?_
          refine ret ⟨0, _, _, _⟩ trivial rfl
        refine goN ?_; intros
        apply wO
        refine ap1 (flatDelivery (prD (tsS s)[z.k]).1) one_EDelivery fun a9 c9 F9 => ?_
        refine go ?_; intros
        rw [← valAll_take hk]
        refine n_lp ⟨z.k + 1, a9, c9, F9⟩ ⟨by show z.k + 1 ≤ (tsS s).length; omega, okAll_take hk g z3⟩ (by show (tsS s).length - (z.k + 1) < (tsS s).length - z.k; omega)
    · have hz0 : z.k = 0 := by omega
      have et : (tsS s)[z.k] = (splitL 46 s.data.toList)[z.k] := by simp only [hz0]; exact tsS_zero (by omega) (by omega)
      rw [← et]
      refine go ?_; intros
      rw [dot_app]
      refine cb (fun w st => (l26Parse_f (bz ((tsS s)[z.k] ++ [46])) FT (by rw [bz_size, List.length_append]; simp only [List.length_cons, List.length_nil]; omega)).val w (hol1 (st.get (p := EnvP FT) (by simp)))) ?_
      rw [show resPD (bz ((tsS s)[z.k] ++ [46])) = prD (tsS s)[z.k] from rfl]
      cases g : (prD (tsS s)[z.k]).2
      · rw [show resPR s = ([], false) by rw [← resPR_S s h]; unfold okPRS; rw [okAll_no hk g]; simp]
        refine goN ?_; intros
        refine t_emp EDelivery ?_
        refine t_read (E := EDelivery) (xs := []) fun F9 => ?_
        refine ret ⟨0, _, _, _⟩ trivial rfl
      refine goN ?_; intros
      apply wO
      refine ap1 (flatDelivery (prD (tsS s)[z.k]).1) one_EDelivery fun a9 c9 F9 => ?_
      refine go ?_; intros
      rw [← valAll_take hk]
      refine n_lp ⟨z.k + 1, a9, c9, F9⟩ ⟨by show z.k + 1 ≤ (tsS s).length; omega, okAll_take hk g z3⟩ (by show (tsS s).length - (z.k + 1) < (tsS s).length - z.k; omega)
  · have hk : (tsS s).take z.k = tsS s := List.take_of_length_le (by omega)
    rw [hk] at z3 hvl ⊢
    refine t_read (E := EDelivery) (xs := valAll (tsS s)) fun F8 => ?_
    refine go ?_; intros
    refine wg_if rfl rfl (fun h9 => ?_) (fun h9 => ?_)
    · rw [show resPR s = ([], false) by
        rw [← resPR_S s h]; unfold okPRS
        have : tsS s = [] := List.length_eq_zero_iff.1 (by omega)
        rw [decide_eq_true this]; simp]
      refine goN ?_; intros
      refine t_emp EDelivery ?_
      refine t_read (E := EDelivery) (xs := []) fun F9 => ?_
      refine ret ⟨0, _, _, _⟩ trivial rfl
    refine go ?_; intros
    refine cf (l26Good_f (valAll (tsS s)) z.a z.c F8 (by omega)) fun _ _ => ?_
    refine t_app ?_
    have hne : tsS s ≠ [] := fun e => by
      rw [show valAll (tsS s) = [] by rw [e]; rfl] at h9
      exact h9 rfl
    cases g : goodDels (valAll (tsS s))
    · rw [show resPR s = ([], false) by rw [← resPR_S s h]; unfold okPRS; rw [g]; simp]
      refine goN ?_; intros
      refine t_emp EDelivery ?_
      refine t_read (E := EDelivery) (xs := []) fun F9 => ?_
      refine ret ⟨0, _, _, _⟩ trivial rfl
    obtain ⟨d, r, hdr⟩ : ∃ d r, valAll (tsS s) = d :: r := by
      cases hv : valAll (tsS s) with
      | nil => rw [hv] at hvl h9; exact absurd rfl h9
      | cons d r => exact ⟨d, r, rfl⟩
    have hq := resPR_S s h
    unfold okPRS at hq
    rw [decide_eq_false (show ¬ 640 < s.size by omega), z3, g, decide_eq_false hne] at hq
    rw [hdr] at g hq ⊢
    refine go ?_; intros
    refine cf (l26Report_f d r z.a z.c F8 FT g) fun _ _ => ?_
    refine t_app ?_
    by_cases ht : repT (d :: r) = s
    · rw [← hq, decide_eq_true ht, ht]
      refine go ?_; intros
      rw [show decide (¬ s = s) = false by simp]
      refine go ?_; intros
      refine ret ⟨0, z.a, z.c, F8⟩ trivial rfl
    · rw [← hq, decide_eq_false ht]
      refine go ?_; intros
      rw [show decide (¬ repT (d :: r) = s) = true by simpa using ht]
      refine goN ?_; intros
      refine t_emp EDelivery ?_
      refine t_read (E := EDelivery) (xs := []) fun F9 => ?_
      refine ret ⟨0, _, _, _⟩ trivial rfl
end Go.Proofs.YtgogcgkocjpgoaaDoor
/- Regions that draw: an operation that may stand behind a store. -/
namespace Go.Proofs.YtgogcgkocjpgoaaDoor
open Go.RowKit
section
variable {P : Program} {ops : Array Oper} {Q : Exit → Act → World → Prop} {md : Region.Mode} {S : World → Prop} {X : Nat → Bool}
end
end Go.Proofs.YtgogcgkocjpgoaaDoor
/- Regions that draw: pure operations that may stand behind a store. -/
namespace Go.Proofs.YtgogcgkocjpgoaaDoor
open Go.RowKit
section
variable {c : Cx} {fr : Fr} {H H0 : List Pc} {k : List It} {X : List Nat} {ops : Array Oper} {f : Nat} {listed : Array Bool} {d : Nat} {o : Op} {ty : TypeId} {pos : String} {aft : Array Edge} {v : Value}
end
end Go.Proofs.YtgogcgkocjpgoaaDoor
/- What the walks of the exact laws need: structs by their cells as wholes, contracts of made values, marks. -/
namespace Go.Proofs.YtgogcgkocjpgoaaDoor
open Go.RowKit
section
variable {c : Cx} {fr : Fr} {H H0 : List Pc} {k : List It} {Φ : Gl} {X : List Nat} {ops : Array Oper} {f : Nat} {listed : Array Bool} {d : Nat} {o : Op} {ty : TypeId} {v u : Value} {x y : Operand}
theorem Put.all : ∀ {zs l : List Value}, zs.length = l.length → Put zs 0 l l
  | [], [], _ => .zero
  | [], _ :: _, h => by simp at h
  | _ :: _, [], h => by simp at h
  | _ :: zs, _ :: l, h => .one (Put.all (by simpa using h))
/-- all of a box -/
theorem yd_ldw {P : Program} {n : Nat} {H : List Pc} {t g o tt m : Nat} {A cs B : List Value} [AggC P t m] (hx : ev fr x = some (ptr g o 0)) (hm : Pc.row g tt o A cs B ∈ H) (hl : cs.length = m) : Yd P n fr H (.load t x) ty (.agg cs.toArray) := yd_lda hx hm (hl ▸ Cut.whole cs)
/-- what is behind a box that is stored into -/
theorem o_stw {t g tt m : Nat} {cs l : List Value} {S : List Pc} (hx : ev fr x = some (ptr g 0 0)) (hy : ev fr y = some (.agg l.toArray)) (hs : (c.P.info? t).map (·.size) = some m) (hr : Rpl H (.row g tt 0 [] cs []) (.row g tt 0 [] l []) S) (hl : l.length = m) (hc : cs.length = m) (h1 : l.all (·.oneCell') = true) (h : T c fr S Φ) : On c fr H none (.store t x y) ty Φ :=
  o_st hx hy rfl hs hl hr (Put.all (by omega)) h1 h
end
/-! contracts, with what they ask read off pieces -/
theorem ex1 {α : Type} {A : α → Prop} {C : Prop} (f : ∀ a, A a → C) : (∃ a, A a) → C := fun ⟨a, h⟩ => f a h
theorem ex2 {α β : Type} {A : α → Prop} {B : β → Prop} {C : Prop} (f : ∀ a b, A a → B b → C) : (∃ a, A a) → (∃ b, B b) → C := fun ⟨a, h⟩ ⟨b, h2⟩ => f a b h h2
section
variable {G D : List Nat} {w0 w : World} {H : List Pc}
theorem St.rS {α : Type} {E : Elem α} {v : Value} {xs : List α} {F : List Nat} (s : St G D w0 H w) (hm : .sl E v xs F ∈ H := by (repeat (first | exact .head _ | apply List.Mem.tail)); first | done | fail) : ∃ F', Sl E w v xs F' := ⟨F, (s.get hm).2⟩
theorem St.rL {α : Type} {O R : Elem α} (hW : Weak O R) {t : TypeId} {v : Value} {xs : List α} {F : List Nat} (s : St G D w0 H w) (hm : .ow O t v xs F ∈ H := by (repeat (first | exact .head _ | apply List.Mem.tail)); first | done | fail) : ∃ F', Sl R w v xs F' := by
  obtain ⟨-, ho⟩ := s.get hm
  obtain ⟨F', -, h⟩ := ho.sl hW
  exact ⟨F', h⟩
end
theorem fn_markL {P : Program} {α : Type} {O : Elem α} {t : TypeId} {f : FuncId} {v : Value} {x x' : List α} {F : List Nat} {k m : Int} (h : ∀ w, Ow O t w v x F → F.Nodup → Calls P f #[v, .int .i64 k] w (RetMark O t v m x' F w)) : Fn P f [v, .int .i64 k] [] [.ow O t v x F] (fun (_ : Unit) => True) (fun _ => .int .i64 m) (fun _ => [.ow O t v x' F]) := fun w hH _ => by
  obtain ⟨hn, ho⟩ := hH (.ow O t v x F) (by simp)
  refine (h w ho hn).mono ?_
  rintro e w' ⟨he, h1, h2⟩
  refine ⟨(), trivial, he, hol1 ⟨hn, h1⟩, ⟨by simp, trivial⟩, by simpa [fp, Pc.F] using h2, fun p hp b hb => ?_⟩
  rw [List.mem_singleton] at hp; subst hp
  exact .inr (.inl ⟨_, List.mem_singleton.2 rfl, hb⟩)
end Go.Proofs.YtgogcgkocjpgoaaDoor
/- The steps of the exact laws' walks, as one word. -/
namespace Go.Proofs.YtgogcgkocjpgoaaDoor
open Go.RowKit
/-- the steps of an exact law -/
theorem goL {X : Prop} {c : Cx} {fr : Fr} {H : List Pc} {Φ : Gl} (h : X) (hs : Kp X → T c fr H Φ := by intro hX; (repeat (first | apply c_seq | apply c_reg | (apply wO; apply oc; rfl; exact ydE) | (apply wO; apply oc; rfl; apply yd_ldw; rfl; exact memE; assumption) | apply w_nil | apply n_cd | (apply wg_t; rfl; rfl) | (apply wg_f; rfl; rfl; rfl; rfl) | (apply wg_u; rfl; rfl; rfl) | (apply c_t; rfl) | (apply c_f; rfl) | apply c_skip | apply c_block | apply n_blk | apply c_exit | apply e_hit | apply e_cd | apply e_lp | (apply e_miss; rfl) | apply c_ret | (apply wO; apply o_boxX; rfl; rfl; rfl; exact hX; clear hX; intro _ hX) | (apply wO; apply o_allocX; rfl; exact hX; clear hX; intro _ hX) | (apply wO; apply o_st; rfl; rfl; rfl; (first | exact AggC.s | exact OneC.s); rfl; exact rplE; exact putE; rfl) | (apply wO; apply o_stw; rfl; rfl; exact AggC.s; exact rplE; assumption; rfl; assumption) | (apply wO; apply o_call; rfl; kernel_rfl; exact evsE) | (refine c_if rfl (fun h => absurd h (by first | omega | simp)) (fun h => ?_); clear h) | (refine wg_if rfl rfl (fun h => absurd h (by first | omega | simp)) (fun h => ?_); clear h))); exact hX.h) : T c fr H Φ := hs ⟨h⟩
end Go.Proofs.YtgogcgkocjpgoaaDoor
/- The law FnExactParseReport: the walk. -/
namespace Go.Proofs.YtgogcgkocjpgoaaDoor
open Go.RowKit
theorem wt0 (l : List Delivery) : wtL (fun _ => 0) l = l.length := by
  have : (l.map fun _ => 0).sum = 0 := by induction l with
    | nil => rfl
    | cons d r ih => rw [List.map_cons, List.sum_cons, ih]
  unfold wtL; rw [this]; rfl
theorem resPR_len (s : ByteArray) : (resPR s).1.length ≤ 7 := by
  unfold resPR
  split
  · exact Nat.zero_le _
  · split
    · rename_i h
      unfold okPRI at h
      simp only [Bool.and_eq_true] at h
      exact goodDels_len h.1.2
    · exact Nat.zero_le _
set_option maxRecDepth 100000 in
theorem parseReport_l (s : ByteArray) (FT : List Nat) : Fn Tryd.prog 4 [.string s] [EnvP FT] [] (fun (_ : Unit) => True) (fun _ => .bool true) (fun _ => []) := by
  have h7 := resPR_len s
  have hc := cntDeliveryS_wt (resPR s).1 (by rw [wt0]; omega)
  refine enter Tryd.func4 rfl Tryd.ntmps4 fun w0 => ?_
  refine go ?_; intros
  refine c_if rfl (fun h => ?_) (fun h => ?_)
  · refine go ?_; intros
    refine ret () trivial rfl
  have hS := specParseReport_f s FT (by omega)
  have hI := ParseReport_f s FT (by omega)
  obtain ⟨r0, r1, er⟩ : ∃ r0 r1, resPR s = (r0, r1) := ⟨_, _, rfl⟩
  rw [er] at hS hI hc
  dsimp only at hS hI hc
  refine goL ?_; intros
  refine cf hS fun z hz => ?_
  refine t_app ?_
  refine goL ?_; intros
  refine cf hI fun z hz => ?_
  refine t_app ?_
  refine goL ?_; intros
  refine cb (fun w st => ex2 (fun Fa Fb ha hb => eqDeliveryS_c _ _ r0 Fa Fb w ha hb) (st.rL ((Weak.refl _))) st.rS) ?_
  refine goL ?_; intros
  refine cf (fn_markL (fun w h hn => markDeliveryS_c _ r0 _ (1) w h hn (by omega) (by omega))) fun _ _ => ?_
  refine t_app ?_
  refine goL ?_; intros
  refine cb (fun w st => ex1 (fun F h => heldDeliveryS_c _ r0 F (1) w h (by omega) (by omega)) (st.rL ((Weak.refl _)))) ?_
  refine goL ?_; intros
  refine cf hI fun z hz => ?_
  refine t_app ?_
  refine goL ?_; intros
  refine cb (fun w st => ex2 (fun Fa Fb ha hb => eqDeliveryS_c _ _ r0 Fa Fb w ha hb) (st.rL ((Weak.refl _))) st.rS) ?_
  refine goL ?_; intros
  refine cb (fun w st => ex1 (fun F h => heldDeliveryS_c _ r0 F (1) w h (by omega) (by omega)) (st.rL ((Weak.refl _)))) ?_
  refine goL ?_; intros
  refine ret () trivial rfl
end Go.Proofs.YtgogcgkocjpgoaaDoor
/- The library's variables as the rows give them when the call begins. -/
namespace Go.Proofs.YtgogcgkocjpgoaaDoor
open Go.RowKit
theorem star_es : "*" ++ "errors.errorString" = "*errors.errorString" := by decide
theorem row_es : ∀ u, Tryd.prog.typeName? 3 u = some "*errors.errorString" → u = 97 := by
  intro u h
  exact typeName_ptr_named (nm := "errors.errorString") (by rw [star_es]; kernel_rfl) (by kernel_rfl) (by decide) u (by rw [star_es]; exact h)
theorem env_of {W : World} (hL : laidMetH Tryd.prog Rows.fnExactParseReportRow.laid W) (hsh : W.ShapedOpen Tryd.prog) : (EnvP [5, 0, 1, 2]).P W := by
  rw [MakeChecks.laidMetH_plain _ _ _ (by kernel_rfl)] at hL
  have h3 := hL.tail.tail
  have h5 := hL.tail.tail.tail.tail
  have h6 := hL.tail.tail.tail.tail.tail
  have e : (Rows.laid_internal_strconv_uint64pow10 : DataW Unit) = Lib.tabData .u64 Lib.pow10Tab := by kernel_rfl
  rw [e] at h3
  have ht : Lib.TabIs Tryd.prog W "internal/strconv.uint64pow10" .u64 Lib.pow10Tab := Lib.tabIs_of_head (g := 5) (t := 106) (e := 78) (n := 20) (by kernel_rfl) (by kernel_rfl) Tryd.underlying106 Tryd.underlying78 (by kernel_rfl) (by kernel_rfl) h3
  have hu : Tryd.prog.underlying 47 = some (.interface (Tryd.prog.methodsAt 47)) := by kernel_rfl
  obtain ⟨a1, s1, hv1, -, -, -⟩ := laid_sentinel (g := 2) (ti := 47) (tp := 97) (te := 99) (ts := 9) h5 (by kernel_rfl) (by kernel_rfl) hu row_es Tryd.underlying97 Tryd.underlying99 rfl rfl Tryd.underlying9 (by kernel_rfl) (by kernel_rfl)
  obtain ⟨a2, s2, hv2, -, -, -⟩ := laid_sentinel (g := 1) (ti := 47) (tp := 97) (te := 99) (ts := 9) h6 (by kernel_rfl) (by kernel_rfl) hu row_es Tryd.underlying97 Tryd.underlying99 rfl rfl Tryd.underlying9 (by kernel_rfl) (by kernel_rfl)
  obtain ⟨m, hm⟩ := cell_of_shapedOpen_int (P := Tryd.prog) (g := 0) (t := 3) (zero := #[.int .i64 0]) hsh (of_decide_eq_true (by kernel_rfl)) (by kernel_rfl) rfl (by kernel_rfl) (by kernel_rfl) Tryd.underlying3
  refine ⟨[], rfl, rfl, ⟨ht, ⟨m, hm⟩, ⟨_, _, hv2⟩, ⟨_, _, hv1⟩⟩, rfl, ?_⟩
  have hc := Lib.TabIs.cell ht (g := 5) (by kernel_rfl) 0 (by rw [Lib.pow10Tab_length]; omega)
  have b0 := World.block_lt_of_cell? W ⟨5, 0, none⟩ hc
  intro b hb
  have : b ≤ 5 := by
    simp only [List.mem_cons, List.not_mem_nil, or_false] at hb
    rcases hb with rfl | rfl | rfl | rfl <;> decide
  exact Nat.lt_of_le_of_lt this b0
end Go.Proofs.YtgogcgkocjpgoaaDoor
/- What every law's proof shares: the step from 'returns true, and nothing that was there has turned' to the row's post; how arguments read. -/
namespace Go.Proofs.YtgogcgkocjpgoaaDoor
open Go.ChangeShapes Go.WideShapes Go.ChangeAt Go.RowKit

theorem trodAll_below {H : Type} {enc : TypeId × Value → H} {P : Program} (hl : laidOutB P = true) {W W' : World} (hb : Below W.heap.size W W') :
    ∀ (ts : List TypeId) (vs : List Value) (ds : List (DataW H)) (ps : List MemPlace), (∀ t ∈ ts, P.readableRec t = true ∧ t < P.types.size) →
      DataW.TrodAll enc P W 0 (fun _ => true) true ts vs ds ps → (∀ x ∈ ps, x.block < W.heap.size) → DataW.TrodAll enc P W' 0 (fun b => decide (b < W.heap.size)) true ts vs ds ps
  | [], vs, ds, ps, _, h, _ => by obtain ⟨rfl, rfl, rfl⟩ := trodAll_nil h; exact rfl
  | t :: ts, vs, ds, ps, ht, h, hlt => by
    obtain ⟨v, vs', d, ds', p, q, rfl, rfl, rfl, h1, h2⟩ := trodAll_cons h
    have ⟨a, b⟩ := ht t (by simp)
    exact ⟨p, q, Below.trod hl a b h1 hb fun x hx => hlt x (by simp [hx]), trodAll_below hl hb ts vs' ds' q (fun t h => ht t (by simp [h])) h2 fun x hx => hlt x (by simp [hx]), rfl⟩

/-- A law returned true and left all that was there aS it was: the row's post. -/
theorem law_post {H : Type} {enc : TypeId × Value → H} {P : Program} {f : Func} {s : ChangeSpec} {tb : TypeId} (hl : laidOutB P = true) (hr : ∀ t ∈ f.params.toList, P.readableRec t = true ∧ t < P.types.size)
    (hb : P.underlying tb = some .bool) (hres : f.resultTypes = #[tb]) (hv : s.vars = []) {W W' : World} {args : Array Value} {ds gs : List (DataW H)} {before : List MemPlace}
    (hs : s.fn H ds = { results := [.lit (.bool true)], args := ds }) (hW : DataW.Whole enc P f.params.toList s.vars false W args.toList ds gs before) (hB : Below W.heap.size W W') :
    s.post enc P f false true false false W args (.bool true) W' := by
  have hlt := hW.lt
  have hW0 := hW
  obtain ⟨p, q, hA, hV, rfl, _, _⟩ := hW0
  rw [hv] at hV
  obtain ⟨rfl, rfl⟩ := trodVars_none hV
  refine ⟨ds, [], p ++ [], [], p, [], hW, ?_, ?_, ?_, hB.frame _, fun h => by cases h⟩
  · rw [List.append_nil, hs, hres]
    exact trodAll_mk1 (shut_bool hb true)
  · rw [List.append_nil, hs]
    exact trodAll_below hl hB _ _ _ _ hr hA fun x hx => hlt x (by simpa using hx)
  · rw [hv, List.append_nil, hs]; exact rfl

/-- what reads aS data at type t reads by E -/
def Reads (P : Program) {α : Type} (E : Elem α) (t : TypeId) : Prop :=
  ∀ {H : Type} {enc : TypeId × Value → H} {w : World} {fuel : Nat} {cs : List Value} {x : DataW H × List MemPlace}, DataW.trod enc P w 0 (fun _ => true) true fuel t cs = some x → ∃ y F, E.rep w cs y F

section
variable {P : Program}
end

/-- the fields of a struct, one behind the other, each by its own reading -/
inductive FieldsOk (P : Program) : List Field → Nat → (α : Type) → Elem α → Prop
  | nil (off : Nat) : FieldsOk P [] off Unit EUnit
  | cons {f : Field} {r : List Field} {off : Nat} {α β : Type} {A : Elem α} {B : Elem β} (ho : f.offset = off) (hc : P.cellsOf f.type = A.sz) (hA : Reads P A f.type) (h : FieldsOk P r (off + A.sz) β B) : FieldsOk P (f :: r) off (α × β) (EProd A B)
end Go.Proofs.YtgogcgkocjpgoaaDoor
/- The law FnExactParseReport: what is counted of the program, each count by itself. -/
namespace Go.Proofs.YtgogcgkocjpgoaaDoor
open Go.RowKit Go.ChangeShapes Go.WideShapes Go.ChangeAt
set_option maxRecDepth 100000 in
set_option maxHeartbeats 0 in
theorem jf_ParseReport : joinedFacts Tryd.prog 4 Tryd.f4 Rows.fnExactParseReportSpec Rows.fnExactParseReportRow = true := by
  unfold joinedFacts
  simp only [Bool.and_eq_true]
  repeat' refine And.intro ?_ ?_
  all_goals (as_aux_lemma => kernel_rfl)
end Go.Proofs.YtgogcgkocjpgoaaDoor
