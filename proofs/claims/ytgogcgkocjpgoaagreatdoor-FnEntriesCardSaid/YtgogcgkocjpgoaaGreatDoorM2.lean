/- Part 2 of the proof: 43 texts, one behind the other. -/
import Derived.WideLaws
import Derived.Test.YtgogcgkocjpgoaaGreatDoorProg
import Derived.Deep.RegionLaw
import Derived.BigQuiet
import Derived.ArgAppend
import Derived.Test.YtgogcgkocjpgoaaGreatDoorM1
/- Texts split and joined, numbers read back; plain lists. -/
namespace Go.Proofs.YtgogcgkocjpgoaaGreatDoor
open Go.RowKit
theorem idx_at (b : UInt8) (r : Bs) : ∀ x : Bs, (∀ c ∈ x, c ≠ b) → Lib.index (x ++ b :: r) [b] = x.length
  | [], _ => by simp [Lib.index]
  | c :: x, h => by
    have ih := idx_at b r x (fun d hd => h d (by simp [hd]))
    have hc : ¬ b = c := fun e => h c (by simp) e.symm
    rw [List.cons_append, Lib.index, if_neg (by simp [hc]), ih, if_neg (by simp <;> omega)]
    simp
theorem decFrom_app (l : Bs) (b : UInt8) (d : Nat) (hb : Lib.digitVal b = some d) : ∀ acc n, Lib.decFrom acc l = some n → Lib.decFrom acc (l ++ [b]) = some (n * 10 + d) := by
  induction l with
  | nil => intro acc n h; simp [Lib.decFrom] at h ⊢; subst h; rw [hb]
  | cons a l ih =>
    intro acc n h
    simp only [List.cons_append, Lib.decFrom] at h ⊢
    cases ha : Lib.digitVal a with
    | none => rw [ha] at h; cases h
    | some x =>
      have h2 : Lib.decFrom (acc * 10 + x) l = some n := by simpa [ha] using h
      exact ih _ _ h2
theorem dig_val : ∀ d : Nat, d < 10 → Lib.digitVal (UInt8.ofNat (48 + d)) = some d := by decide
theorem dec_back : ∀ (k u : Nat), u < 10 ^ (k + 1) → Lib.decFrom 0 (Lib.decDigits u) = some u
  | 0, u, h => by
    have h3 : u < 10 := by simpa using h
    rw [Lib.decDigits, dif_pos h3, Lib.decFrom, dig_val u h3]; simp [Lib.decFrom]
  | k + 1, u, h => by
    by_cases h3 : u < 10
    · rw [Lib.decDigits, dif_pos h3, Lib.decFrom, dig_val u h3]; simp [Lib.decFrom]
    · have ih := dec_back k (u / 10) (by rw [Nat.pow_succ] at h; omega)
      rw [Lib.decDigits, dif_neg h3, decFrom_app _ _ _ (dig_val (u % 10) (by omega)) _ _ ih]
      congr 1; omega
theorem atoi_back (u : Nat) (h : u < 10000000) : Lib.atoiAll (Lib.decDigits u) = .ok (u : Int) := by
  have hl := digit_len 6 u (by omega)
  have hp := digit_pos u
  rw [Lib.atoiAll_short _ (by omega)]
  have : Lib.atoi (Lib.decDigits u) = some (u : Int) := by
    have hb := dec_back 6 u (by omega)
    cases hd : Lib.decDigits u with
    | nil => rw [hd] at hp; simp at hp
    | cons b r =>
      have hm := digit_mem u b (by rw [hd]; simp)
      have h45 : (45 : UInt8).toNat = 45 := rfl
      have h43 : (43 : UInt8).toNat = 43 := rfl
      rw [Lib.atoi, if_neg (by simp; intro e; subst e; omega), if_neg (by simp; intro e; subst e; omega)]
      unfold Lib.decNat
      rw [if_neg (by simp), ← hd, hb]; rfl
  rw [this]; rfl
end Go.Proofs.YtgogcgkocjpgoaaGreatDoor
/- Texts split at a byte; plain. -/
namespace Go.Proofs.YtgogcgkocjpgoaaGreatDoor
open Go.RowKit
def splitL (b : UInt8) : Bs → List Bs
  | [] => [[]]
  | c :: r => if c == b then [] :: splitL b r else match splitL b r with
    | [] => [[c]]
    | x :: xs => (c :: x) :: xs
theorem splitL_at {b : UInt8} : ∀ {x : Bs} (r : Bs), (∀ c ∈ x, c ≠ b) → splitL b (x ++ b :: r) = x :: splitL b r
  | [], r, _ => by simp [splitL]
  | c :: x, r, h => by
    have ih := splitL_at (b := b) (x := x) r fun d hd => h d (by simp [hd])
    have hb : (c == b) = false := by simpa using h c (by simp)
    simp only [List.cons_append, splitL, hb, ih]
    simp
theorem splitL_no {b : UInt8} : ∀ {x : Bs}, (∀ c ∈ x, c ≠ b) → splitL b x = [x]
  | [], _ => rfl
  | c :: x, h => by
    have ih := splitL_no (b := b) (x := x) fun d hd => h d (by simp [hd])
    have hb : (c == b) = false := by simpa using h c (by simp)
    simp only [splitL, hb, ih]
    simp
theorem splitL_head (b : UInt8) (l : Bs) : ∃ r, splitL b l = upTo b l :: r ∧ (r = [] ↔ b ∉ l) := by
  rcases split_at b l with ⟨h, h2⟩ | ⟨h, h2, _⟩
  · refine ⟨splitL b (behind b l), ?_, ?_⟩
    · conv => lhs; rw [h2]
      exact splitL_at _ upTo_mem
    · refine ⟨fun e => ?_, fun e => absurd h e⟩
      have : ∀ l : Bs, splitL b l ≠ [] := by
        intro l
        cases l with
        | nil => simp [splitL]
        | cons c r =>
          unfold splitL
          split
          · simp
          · split <;> simp
      exact absurd e (this _)
  · exact ⟨[], by rw [splitL_no fun c hc e => h (by rw [← e]; exact hc), h2], by simp [h]⟩
theorem drop_split {l : Bs} {f k : Nat} (hf : f ≤ k) (hk : k < l.length) : l.drop f = (l.drop f).take (k - f) ++ l[k] :: l.drop (k + 1) := by
  have h1 : (l.drop f).drop (k - f) = l.drop k := by rw [List.drop_drop]; congr 1; omega
  conv => lhs; rw [← List.take_append_drop (k - f) (l.drop f), h1, List.drop_eq_getElem_cons hk]
theorem take_more {l : Bs} {f k : Nat} (hf : f ≤ k) (hk : k < l.length) : (l.drop f).take (k + 1 - f) = (l.drop f).take (k - f) ++ [l[k]] := by
  rw [show k + 1 - f = (k - f) + 1 by omega, List.take_succ_eq_append_getElem (by rw [List.length_drop]; omega)]
  congr 2
  rw [List.getElem_drop]; congr 1; omega
theorem ba_get (s : ByteArray) (k : Nat) (h : k < s.size) : s.data.toList[k]'(by simpa using h) = s[k] := rfl
theorem ext_z (s : ByteArray) (f k : Nat) : s.extract f k = bz ((s.data.toList.drop f).take (k - f)) := Lib.extract_eq s f k
theorem ext_end (s : ByteArray) (f : Nat) : s.extract f s.size = bz (s.data.toList.drop f) := by
  rw [Lib.extract_eq]; unfold bz; rw [List.take_of_length_le (by simp)]
theorem splitL_ne (b : UInt8) (l : Bs) : splitL b l ≠ [] := by
  obtain ⟨r, h, -⟩ := splitL_head b l
  rw [h]; simp
/-- Go's Split at one byte is the same -/
theorem splitB_L (b : UInt8) : ∀ (l : Bs), Lib.splitB ⟨#[b]⟩ 0 (l.count b) (bz l) = (splitL b l).map bz := by
  intro l
  induction hn : l.length using Nat.strongRecOn generalizing l with
  | ind n ih =>
    subst hn
    rcases split_at b l with ⟨h, h2⟩ | ⟨h, -, -⟩
    · obtain ⟨u, r, hm, e⟩ : ∃ u r : Bs, (∀ c ∈ u, c ≠ b) ∧ l = u ++ b :: r := ⟨_, _, upTo_mem, h2⟩
      subst e
      clear h h2
      have hc0 : u.count b = 0 := List.count_eq_zero.2 fun hc => hm b hc rfl
      have hcnt : (u ++ b :: r).count b = r.count b + 1 := by rw [List.count_append, List.count_cons_self, hc0]; omega
      have hi : Lib.indexB (bz (u ++ b :: r)) ⟨#[b]⟩ = (u.length : Int) := by
        unfold Lib.indexB
        rw [bz_list]
        exact idx_at b r u hm
      have e1 : (bz (u ++ b :: r)).extract 0 (u.length + 0) = bz u := by
        rw [← bz_of (ByteArray.extract _ _ _), Lib.extract_from_zero, bz_list, Nat.add_zero, List.take_left]
      have e2 : (bz (u ++ b :: r)).extract (u.length + (⟨#[b]⟩ : ByteArray).size) (bz (u ++ b :: r)).size = bz r := by
        rw [← bz_of (ByteArray.extract _ _ _)]
        congr 1
        rw [Lib.extract_data, bz_list, bz_size, show (⟨#[b]⟩ : ByteArray).size = 1 from rfl, show u ++ b :: r = (u ++ [b]) ++ r by simp, List.drop_left' (by simp)]
        exact List.take_of_length_le (by simp; omega)
      rw [hcnt, Lib.splitB_hit _ _ _ _ _ hi, e1, e2, ih _ (by simp; omega) _ rfl, splitL_at _ hm]
      rfl
    · have hc0 : l.count b = 0 := List.count_eq_zero.2 h
      rw [hc0, Lib.splitB_zero, splitL_no fun c hc e => h (by subst e; exact hc)]; rfl
theorem splitS_L (b : UInt8) (s : ByteArray) : Lib.splitB ⟨#[b]⟩ 0 (Lib.countB s ⟨#[b]⟩) s = (splitL b s.data.toList).map bz := by
  have h := splitB_L b s.data.toList
  rw [bz_of] at h
  rw [← h]
  congr 1
  have := Lib.count_one b s.data.toList
  unfold Lib.countB
  exact this
theorem splitL_join (b : UInt8) : ∀ (W : List Bs) (u : Bs), (∀ c ∈ u, c ≠ b) → (∀ w ∈ W, ∀ c ∈ w, c ≠ b) → splitL b (u ++ (W.map fun w => b :: w).flatten) = u :: W
  | [], u, hu, _ => by simpa using splitL_no hu
  | w :: W, u, hu, hW => by
    have ih := splitL_join b W w (hW w (by simp)) fun v hv => hW v (by simp [hv])
    rw [List.map_cons, List.flatten_cons, List.cons_append, splitL_at _ hu, ih]
end Go.Proofs.YtgogcgkocjpgoaaGreatDoor
/- Numbers read out of texts. -/
namespace Go.Proofs.YtgogcgkocjpgoaaGreatDoor
open Go.RowKit
section
variable {P : Program} {n : Nat} {fr : Fr} {H : List Pc} {ty : TypeId} {x : Operand} {t t2 : TypeId}
theorem yd_nen (hx : ev fr x = some .nilIface) (hu : P.underlying t = some (.interface (P.methodsAt t))) : Yd P n fr H (.binOp .neq t x (.const .nilIface) t2) ty (.bool false) := .mk fun c w d pos aft gd hA _ => by
  have e : binOp .neq t .nilIface .nilIface = (do pure (.bool (!(← Op.equal t .nilIface .nilIface)))) := rfl
  have eg : eqGuard .neq t x (.const .nilIface) .nilIface .nilIface = pure () := by unfold eqGuard; simp
  have ec : c.eval (.const .nilIface) = .nilIface := rfl
  simp only [execOp, hA.ev hx, ec, eg, e, Sem.run_bind, Sem.run_pure, Result.andThen_ok, run_equal_nil_nil w t hu]; rfl
theorem yd_nei {u : TypeId} {p : Value} (hx : ev fr x = some (.iface u p)) (hu : P.underlying t = some (.interface (P.methodsAt t))) : Yd P n fr H (.binOp .neq t x (.const .nilIface) t2) ty (.bool true) := .mk fun c w d pos aft gd hA _ => by
  have e : binOp .neq t (.iface u p) .nilIface = (do pure (.bool (!(← Op.equal t (.iface u p) .nilIface)))) := rfl
  have eg : eqGuard .neq t x (.const .nilIface) (.iface u p) .nilIface = pure () := by unfold eqGuard; simp
  have ec : c.eval (.const .nilIface) = .nilIface := rfl
  simp only [execOp, hA.ev hx, ec, eg, e, Sem.run_bind, Sem.run_pure, Result.andThen_ok, run_equal_held_nil w t u p hu]; rfl
end
section
variable {c : Cx} {fr : Fr} {H : List Pc} {d : Nat} {Φ : Gl}
/-- a call that returns one of these values; nothing that was there has turned -/
theorem cx {f : Nat} {vs : List Value} (V : Value → Prop) (hc : ∀ w, St c.G c.D c.w0 H w → Calls c.P f vs.toArray w fun e w' => ∃ v, V v ∧ e = .returned v ∧ Below w.heap.size w w') (h : ∀ v, V v → T c ((d, v) :: fr) H Φ) : Cl c fr H d f vs Φ :=
  cl_of hc fun w e w' s ⟨v, hv, he, hB⟩ => ⟨v, he, fun a g => (h v hv).h a w' (s.below hB) g⟩
end
def resPI (s : ByteArray) : Int × Bool := match Lib.atoiAll s.data.toList with
  | .ok v => if btw (-999999) v 999999 && decide (bz (Lib.itoa v) = s) then (v, true) else (0, false)
  | _ => (0, false)
set_option maxRecDepth 100000 in
theorem ParseInt_f (s : ByteArray) (FT : List Nat) (hs : s.size ≤ 1000000000) : Fn Tryz.prog 87 [.string s] [EnvP FT] [] (fun (_ : Unit) => True) (fun _ => .tuple #[.int .i64 (resPI s).1, .bool (resPI s).2]) (fun _ => []) := by
  have hu : Tryz.prog.underlying 179 = some (.interface (Tryz.prog.methodsAt 179)) := by kernel_rfl
  refine enter Tryz.func87 rfl Tryz.ntmps87 fun w0 => ?_
  refine go ?_; intros
  have bad : (∀ v, Lib.atoiAll s.data.toList ≠ .ok v) → resPI s = (0, false) := fun h => by
    unfold resPI
    cases h2 : Lib.atoiAll s.data.toList with
    | ok v => exact absurd h2 (h v)
    | _ => rfl
  match h : Lib.atoiAll s.data.toList with
  | Lib.NumEnd.ok v =>
    obtain ⟨b0, b1⟩ := Lib.atoiAll_bounds h
    refine cb (fun w st => (Tryz.strconv_Atoi_ok s (by omega) v h w).mono fun e w' hh => ⟨hh.1, ?_⟩) ?_
    · rcases hh.2 with rfl | ⟨t, rfl⟩
      · exact Below.refl _ _
      · exact Lib.bytesWorld_below _ _ _
    refine go ?_; intros
    apply wO; apply oc; rfl; exact yd_nen rfl hu
    refine go ?_; intros
    refine ce (fun w s => within_c _ _ _ _) ?_
    cases g1 : btw (-999999) v 999999
    · refine go ?_; intros
      rw [show resPI s = (0, false) by unfold resPI; rw [h]; simp [g1]]
      refine ret () trivial rfl
    refine go ?_; intros
    refine cb (fun w st => itoa_c v (by omega) (by omega) FT w (st.get (p := EnvP FT) (by simp))) ?_
    refine go ?_; intros
    by_cases g2 : bz (Lib.itoa v) = s
    · rw [decide_eq_false (by simpa using g2)]
      refine go ?_; intros
      rw [show resPI s = (v, true) by unfold resPI; rw [h]; simp [g1, g2]]
      refine ret () trivial rfl
    · rw [decide_eq_true g2]
      refine go ?_; intros
      rw [show resPI s = (0, false) by unfold resPI; rw [h]; simp [g2]]
      refine ret () trivial rfl
  | Lib.NumEnd.syntax =>
    rw [bad (by simp [h])]
    refine cx (fun v => ∃ n u p, v = .tuple #[.int .i64 n, .iface u p]) (fun w st => ?_) ?_
    · obtain ⟨tp, p, hv⟩ := (EnvP.env (st.get (p := EnvP FT) (by simp))).2.2.1
      refine (Tryz.strconv_Atoi_syntax_var s (by omega) h tp p w hv).mono ?_
      rintro e w' ⟨N, rfl, -, -, hB⟩
      exact ⟨_, ⟨_, _, _, rfl⟩, rfl, hB⟩
    rintro _ ⟨n, u, p, rfl⟩
    refine go ?_; intros
    apply wO; apply oc; rfl; exact yd_nei rfl hu
    refine go ?_; intros
    refine ret () trivial rfl
  | Lib.NumEnd.range =>
    rw [bad (by simp [h])]
    refine cx (fun v => ∃ n u p, v = .tuple #[.int .i64 n, .iface u p]) (fun w st => ?_) ?_
    · obtain ⟨tp, p, hv⟩ := (EnvP.env (st.get (p := EnvP FT) (by simp))).2.2.2
      refine (Tryz.strconv_Atoi_range_var s (by omega) h tp p w hv).mono ?_
      rintro e w' ⟨N, rfl, -, -, hB⟩
      exact ⟨_, ⟨_, _, _, rfl⟩, rfl, hB⟩
    rintro _ ⟨n, u, p, rfl⟩
    refine go ?_; intros
    apply wO; apply oc; rfl; exact yd_nei rfl hu
    refine go ?_; intros
    refine ret () trivial rfl
end Go.Proofs.YtgogcgkocjpgoaaGreatDoor
/- A number comes back out of its text. -/
namespace Go.Proofs.YtgogcgkocjpgoaaGreatDoor
open Go.RowKit
theorem resPI_back (u : Nat) (h : u ≤ 999999) : resPI (bz (Lib.decDigits u)) = ((u : Int), true) := by
  unfold resPI
  rw [bz_list, atoi_back u (by omega)]
  have e : Lib.itoa (u : Int) = Lib.decDigits u := by unfold Lib.itoa; rw [if_neg (by omega)]; simp
  simp only [e]
  rw [show btw (-999999) (u : Int) 999999 = true by unfold btw; rw [decide_eq_true (by omega), decide_eq_true (by omega)]; rfl]
  simp
end Go.Proofs.YtgogcgkocjpgoaaGreatDoor
/- Deliveries: their sentences, and that they come back out of them. Plain. -/
namespace Go.Proofs.YtgogcgkocjpgoaaGreatDoor
open Go.RowKit
def decI (n : Int) : Bs := Lib.decDigits n.toNat
def jnB (W : List Bs) : Bs := (W.map fun w => 32 :: w).flatten
def dig (l : Bs) : Prop := ∀ c ∈ l, 48 ≤ c.toNat ∧ c.toNat ≤ 57
theorem ne_of (b : UInt8) {l : Bs} (hb : b.toNat < 48 ∨ 57 < b.toNat) (h : dig l) : ∀ c ∈ l, c ≠ b := fun c hc e => by have := h c hc; subst e; omega
def atW (ws : List Bs) (i : Nat) : Bs := ws.getD i []
theorem dec_len {n : Int} (h : n ≤ 1000000) : (decI n).length ≤ 7 := digit_len 6 _ (by omega)
end Go.Proofs.YtgogcgkocjpgoaaGreatDoor
/- Numbers with their sign: read back out of their texts; plain. -/
namespace Go.Proofs.YtgogcgkocjpgoaaGreatDoor
open Go.RowKit
theorem decNat_dec {u : Nat} (h : u < 10000000) : Lib.decNat (Lib.decDigits u) = some u := by
  have hb := dec_back 6 u (by omega)
  have hp := digit_pos u
  unfold Lib.decNat
  rw [if_neg (by intro e; rw [List.isEmpty_iff] at e; rw [e] at hp; simp at hp), hb]
theorem itoa_neg {v : Int} (h : v < 0) : Lib.itoa v = 45 :: Lib.decDigits v.natAbs := by unfold Lib.itoa; rw [if_pos h]
theorem itoa_nat {v : Int} (h : 0 ≤ v) : Lib.itoa v = Lib.decDigits v.natAbs := by unfold Lib.itoa; rw [if_neg (by omega), show v.toNat = v.natAbs by omega]
theorem resPI_itoa {v : Int} (h0 : -999999 ≤ v) (h1 : v ≤ 999999) : resPI (bz (Lib.itoa v)) = (v, true) := by
  by_cases hn : v < 0
  · have hl := digit_len 5 v.natAbs (by omega)
    have ha : Lib.atoiAll (Lib.itoa v) = .ok v := by
      rw [itoa_neg hn, Lib.atoiAll_short _ (by simp; omega)]
      have : Lib.atoi (45 :: Lib.decDigits v.natAbs) = some v := by
        rw [Lib.atoi, if_pos (by rfl), decNat_dec (by omega)]
        show some (-((v.natAbs : Nat) : Int)) = some v
        congr 1; omega
      rw [this]; rfl
    unfold resPI
    rw [bz_list, ha]
    show (if btw (-999999) v 999999 && decide (bz (Lib.itoa v) = bz (Lib.itoa v)) then (v, true) else (0, false)) = (v, true)
    rw [decide_eq_true rfl, show btw (-999999) v 999999 = true by unfold btw; rw [decide_eq_true h0, decide_eq_true h1]; rfl]; rfl
  · rw [itoa_nat (by omega), resPI_back v.natAbs (by omega)]
    congr 1; omega
theorem resPI_cases (s : ByteArray) : resPI s = (0, false) ∨ ∃ v : Int, -999999 ≤ v ∧ v ≤ 999999 ∧ s = bz (Lib.itoa v) := by
  unfold resPI
  split
  · rename_i v _
    cases h : (btw (-999999) v 999999 && decide (bz (Lib.itoa v) = s))
    · exact .inl rfl
    · unfold btw at h
      simp only [Bool.and_eq_true, decide_eq_true_eq] at h
      exact .inr ⟨v, h.1.1, h.1.2, h.2.symm⟩
  · exact .inl rfl
/-- the text without its sign -/
def unS (l : Bs) : Bs := if 1 < l.length ∧ l.head? = some 45 then l.drop 1 else l
def dval (l : Bs) : Nat := l.foldl (fun a c => 10 * a + (c.toNat - 48)) 0
theorem dval_app (l : Bs) (c : UInt8) : dval (l ++ [c]) = 10 * dval l + (c.toNat - 48) := by unfold dval; rw [List.foldl_append]; rfl
theorem dval_lt : ∀ (n : Nat) (l : Bs), l.length = n → (∀ c ∈ l, 48 ≤ c.toNat ∧ c.toNat ≤ 57) → dval l < 10 ^ n
  | 0, l, h, _ => by rw [List.length_eq_zero_iff.1 h]; decide
  | n + 1, l, h, hd => by
    have hne : l ≠ [] := by intro e; rw [e] at h; simp at h
    have e := List.dropLast_concat_getLast hne
    have ih := dval_lt n l.dropLast (by simp; omega) fun c hc => hd c (List.dropLast_subset _ hc)
    have hc := hd _ (List.getLast_mem hne)
    rw [← e, dval_app, Nat.pow_succ]
    omega
theorem digU : ∀ d : Nat, d < 10 → (UInt8.ofNat (48 + d)).toNat = 48 + d := by decide
theorem dval_dec : ∀ (k u : Nat), u < 10 ^ (k + 1) → dval (Lib.decDigits u) = u
  | 0, u, h => by
    have h3 : u < 10 := by simpa using h
    rw [Lib.decDigits, dif_pos h3]
    unfold dval
    simp only [List.foldl_cons, List.foldl_nil]
    rw [digU u h3]; omega
  | k + 1, u, h => by
    by_cases h3 : u < 10
    · rw [Lib.decDigits, dif_pos h3]
      unfold dval
      simp only [List.foldl_cons, List.foldl_nil]
      rw [digU u h3]; omega
    · rw [Lib.decDigits, dif_neg h3, dval_app, dval_dec k (u / 10) (by rw [Nat.pow_succ] at h; omega), digU _ (by omega)]
      omega
theorem unS_itoa {v : Int} (h0 : -999999 ≤ v) (h1 : v ≤ 999999) : unS (Lib.itoa v) = Lib.decDigits v.natAbs ∧ ((unS (Lib.itoa v)).length < (Lib.itoa v).length ↔ v < 0) := by
  have hp := digit_pos v.natAbs
  by_cases hn : v < 0
  · rw [itoa_neg hn]
    unfold unS
    rw [if_pos ⟨by simp; omega, rfl⟩]
    exact ⟨rfl, by simp [hn]⟩
  · rw [itoa_nat (by omega)]
    have : ¬ (1 < (Lib.decDigits v.natAbs).length ∧ (Lib.decDigits v.natAbs).head? = some 45) := by
      rintro ⟨-, h⟩
      have := digit_mem _ 45 (List.mem_of_mem_head? h)
      revert this; decide
    unfold unS
    rw [if_neg this]
    exact ⟨rfl, by simp; omega⟩
/-- what a good text is like -/
theorem read_good {s : ByteArray} (h : resPI s ≠ (0, false)) : ∃ v : Int, -999999 ≤ v ∧ v ≤ 999999 ∧ s = bz (Lib.itoa v) ∧ 1 ≤ (unS s.data.toList).length ∧ (unS s.data.toList).length ≤ 6 ∧ (∀ c ∈ unS s.data.toList, 48 ≤ c.toNat ∧ c.toNat ≤ 57) ∧ dval (unS s.data.toList) = v.natAbs ∧ ((unS s.data.toList).length < s.size ↔ v < 0) := by
  rcases resPI_cases s with h2 | ⟨v, h0, h1, rfl⟩
  · exact absurd h2 h
  · obtain ⟨e, e2⟩ := unS_itoa h0 h1
    have hl := digit_len 5 v.natAbs (by omega)
    rw [bz_list, bz_size]
    refine ⟨v, h0, h1, rfl, ?_, ?_, ?_, ?_, e2⟩
    · rw [e]; exact digit_pos _
    · rw [e]; exact hl
    · rw [e]; exact digit_mem _
    · rw [e]; exact dval_dec 5 _ (by omega)
end Go.Proofs.YtgogcgkocjpgoaaGreatDoor
/- What the types of this program are. -/
namespace Go.Proofs.YtgogcgkocjpgoaaGreatDoor
open Go.RowKit
instance : OneC Tryz.prog 3 := ⟨⟨_, Tryz.underlying3, rfl⟩, by kernel_rfl⟩
instance : IntC Tryz.prog 3 .i64 := ⟨Tryz.underlying3⟩
instance : ZC Tryz.prog 3 [.int .i64 0] := ⟨⟨.int .i64 0, by kernel_rfl, rfl⟩⟩
instance : ElT Tryz.prog 3 (.int .i64 0) 1 8 := ⟨by kernel_rfl, rfl⟩
instance : OneC Tryz.prog 5 := ⟨⟨_, Tryz.underlying5, rfl⟩, by kernel_rfl⟩
instance : IntC Tryz.prog 5 .u8 := ⟨Tryz.underlying5⟩
instance : ZC Tryz.prog 5 [.int .u8 0] := ⟨⟨.int .u8 0, by kernel_rfl, rfl⟩⟩
instance : ElT Tryz.prog 5 (.int .u8 0) 1 1 := ⟨by kernel_rfl, rfl⟩
instance : OneC Tryz.prog 121 := ⟨⟨_, Tryz.underlying121, rfl⟩, by kernel_rfl⟩
instance : IntC Tryz.prog 121 .u64 := ⟨Tryz.underlying121⟩
instance : ZC Tryz.prog 121 [.int .u64 0] := ⟨⟨.int .u64 0, by kernel_rfl, rfl⟩⟩
instance : ElT Tryz.prog 121 (.int .u64 0) 1 8 := ⟨by kernel_rfl, rfl⟩
instance : OneC Tryz.prog 248 := ⟨⟨_, Tryz.underlying248, rfl⟩, by kernel_rfl⟩
instance : IntC Tryz.prog 248 .u64 := ⟨Tryz.underlying248⟩
instance : ZC Tryz.prog 248 [.int .u64 0] := ⟨⟨.int .u64 0, by kernel_rfl, rfl⟩⟩
instance : ElT Tryz.prog 248 (.int .u64 0) 1 8 := ⟨by kernel_rfl, rfl⟩
instance : OneC Tryz.prog 4 := ⟨⟨_, Tryz.underlying4, rfl⟩, by kernel_rfl⟩
instance : BoolC Tryz.prog 4 := ⟨Tryz.underlying4⟩
instance : ZC Tryz.prog 4 [.bool false] := ⟨⟨.bool false, by kernel_rfl, rfl⟩⟩
instance : ElT Tryz.prog 4 (.bool false) 1 1 := ⟨by kernel_rfl, rfl⟩
instance : OneC Tryz.prog 9 := ⟨⟨_, Tryz.underlying9, rfl⟩, by kernel_rfl⟩
instance : StrC Tryz.prog 9 := ⟨Tryz.underlying9⟩
instance : ZC Tryz.prog 9 [.string ⟨#[]⟩] := ⟨⟨.string ⟨#[]⟩, by kernel_rfl, rfl⟩⟩
instance : ElT Tryz.prog 9 (.string ⟨#[]⟩) 1 16 := ⟨by kernel_rfl, rfl⟩
instance : OneC Tryz.prog 21 := ⟨⟨_, Tryz.underlying21, rfl⟩, by kernel_rfl⟩
instance : IntC Tryz.prog 21 .i32 := ⟨Tryz.underlying21⟩
instance : ZC Tryz.prog 21 [.int .i32 0] := ⟨⟨.int .i32 0, by kernel_rfl, rfl⟩⟩
instance : ElT Tryz.prog 21 (.int .i32 0) 1 4 := ⟨by kernel_rfl, rfl⟩
instance : AggC Tryz.prog 26 2 := ⟨⟨_, Tryz.underlying26, rfl⟩, by kernel_rfl⟩
instance : FldC Tryz.prog 26 0 0 3 1 := ⟨⟨_, _, Tryz.underlying26, rfl, rfl, rfl⟩, by kernel_rfl, by decide⟩
instance : FldC Tryz.prog 26 1 1 24 1 := ⟨⟨_, _, Tryz.underlying26, rfl, rfl, rfl⟩, by kernel_rfl, by decide⟩
instance : ZC Tryz.prog 26 [.int .i64 0, .slice none 0 0] := ⟨⟨.agg #[.int .i64 0, .slice none 0 0], by kernel_rfl, rfl⟩⟩
instance : ElT Tryz.prog 26 (.agg #[.int .i64 0, .slice none 0 0]) 2 32 := ⟨by kernel_rfl, rfl⟩
instance : BldC Tryz.prog 26 [(0, 1), (1, 1)] [.int .i64 0, .slice none 0 0] := ⟨fun parts => by kernel_rfl⟩
instance : AggC Tryz.prog 39 2 := ⟨⟨_, Tryz.underlying39, rfl⟩, by kernel_rfl⟩
instance : FldC Tryz.prog 39 0 0 3 1 := ⟨⟨_, _, Tryz.underlying39, rfl, rfl, rfl⟩, by kernel_rfl, by decide⟩
instance : FldC Tryz.prog 39 1 1 37 1 := ⟨⟨_, _, Tryz.underlying39, rfl, rfl, rfl⟩, by kernel_rfl, by decide⟩
instance : ZC Tryz.prog 39 [.int .i64 0, .slice none 0 0] := ⟨⟨.agg #[.int .i64 0, .slice none 0 0], by kernel_rfl, rfl⟩⟩
instance : ElT Tryz.prog 39 (.agg #[.int .i64 0, .slice none 0 0]) 2 32 := ⟨by kernel_rfl, rfl⟩
instance : BldC Tryz.prog 39 [(0, 1), (1, 1)] [.int .i64 0, .slice none 0 0] := ⟨fun parts => by kernel_rfl⟩
instance : AggC Tryz.prog 42 5 := ⟨⟨_, Tryz.underlying42, rfl⟩, by kernel_rfl⟩
instance : FldC Tryz.prog 42 0 0 4 1 := ⟨⟨_, _, Tryz.underlying42, rfl, rfl, rfl⟩, by kernel_rfl, by decide⟩
instance : FldC Tryz.prog 42 1 1 3 1 := ⟨⟨_, _, Tryz.underlying42, rfl, rfl, rfl⟩, by kernel_rfl, by decide⟩
instance : FldC Tryz.prog 42 2 2 39 2 := ⟨⟨_, _, Tryz.underlying42, rfl, rfl, rfl⟩, by kernel_rfl, by decide⟩
instance : FldC Tryz.prog 42 3 4 40 1 := ⟨⟨_, _, Tryz.underlying42, rfl, rfl, rfl⟩, by kernel_rfl, by decide⟩
instance : ZC Tryz.prog 42 [.bool false, .int .i64 0, .int .i64 0, .slice none 0 0, .slice none 0 0] := ⟨⟨.agg #[.bool false, .int .i64 0, .int .i64 0, .slice none 0 0, .slice none 0 0], by kernel_rfl, rfl⟩⟩
instance : ElT Tryz.prog 42 (.agg #[.bool false, .int .i64 0, .int .i64 0, .slice none 0 0, .slice none 0 0]) 5 72 := ⟨by kernel_rfl, rfl⟩
instance : BldC Tryz.prog 42 [(0, 1), (1, 1), (2, 2), (4, 1)] [.bool false, .int .i64 0, .int .i64 0, .slice none 0 0, .slice none 0 0] := ⟨fun parts => by kernel_rfl⟩
instance : AggC Tryz.prog 46 2 := ⟨⟨_, Tryz.underlying46, rfl⟩, by kernel_rfl⟩
instance : FldC Tryz.prog 46 0 0 3 1 := ⟨⟨_, _, Tryz.underlying46, rfl, rfl, rfl⟩, by kernel_rfl, by decide⟩
instance : FldC Tryz.prog 46 1 1 44 1 := ⟨⟨_, _, Tryz.underlying46, rfl, rfl, rfl⟩, by kernel_rfl, by decide⟩
instance : ZC Tryz.prog 46 [.int .i64 0, .slice none 0 0] := ⟨⟨.agg #[.int .i64 0, .slice none 0 0], by kernel_rfl, rfl⟩⟩
instance : ElT Tryz.prog 46 (.agg #[.int .i64 0, .slice none 0 0]) 2 32 := ⟨by kernel_rfl, rfl⟩
instance : BldC Tryz.prog 46 [(0, 1), (1, 1)] [.int .i64 0, .slice none 0 0] := ⟨fun parts => by kernel_rfl⟩
instance : AggC Tryz.prog 49 5 := ⟨⟨_, Tryz.underlying49, rfl⟩, by kernel_rfl⟩
instance : FldC Tryz.prog 49 0 0 4 1 := ⟨⟨_, _, Tryz.underlying49, rfl, rfl, rfl⟩, by kernel_rfl, by decide⟩
instance : FldC Tryz.prog 49 1 1 3 1 := ⟨⟨_, _, Tryz.underlying49, rfl, rfl, rfl⟩, by kernel_rfl, by decide⟩
instance : FldC Tryz.prog 49 2 2 46 2 := ⟨⟨_, _, Tryz.underlying49, rfl, rfl, rfl⟩, by kernel_rfl, by decide⟩
instance : FldC Tryz.prog 49 3 4 47 1 := ⟨⟨_, _, Tryz.underlying49, rfl, rfl, rfl⟩, by kernel_rfl, by decide⟩
instance : ZC Tryz.prog 49 [.bool false, .int .i64 0, .int .i64 0, .slice none 0 0, .slice none 0 0] := ⟨⟨.agg #[.bool false, .int .i64 0, .int .i64 0, .slice none 0 0, .slice none 0 0], by kernel_rfl, rfl⟩⟩
instance : ElT Tryz.prog 49 (.agg #[.bool false, .int .i64 0, .int .i64 0, .slice none 0 0, .slice none 0 0]) 5 72 := ⟨by kernel_rfl, rfl⟩
instance : BldC Tryz.prog 49 [(0, 1), (1, 1), (2, 2), (4, 1)] [.bool false, .int .i64 0, .int .i64 0, .slice none 0 0, .slice none 0 0] := ⟨fun parts => by kernel_rfl⟩
instance : AggC Tryz.prog 63 5 := ⟨⟨_, Tryz.underlying63, rfl⟩, by kernel_rfl⟩
instance : FldC Tryz.prog 63 0 0 3 1 := ⟨⟨_, _, Tryz.underlying63, rfl, rfl, rfl⟩, by kernel_rfl, by decide⟩
instance : FldC Tryz.prog 63 1 1 3 1 := ⟨⟨_, _, Tryz.underlying63, rfl, rfl, rfl⟩, by kernel_rfl, by decide⟩
instance : FldC Tryz.prog 63 2 2 3 1 := ⟨⟨_, _, Tryz.underlying63, rfl, rfl, rfl⟩, by kernel_rfl, by decide⟩
instance : FldC Tryz.prog 63 3 3 3 1 := ⟨⟨_, _, Tryz.underlying63, rfl, rfl, rfl⟩, by kernel_rfl, by decide⟩
instance : FldC Tryz.prog 63 4 4 9 1 := ⟨⟨_, _, Tryz.underlying63, rfl, rfl, rfl⟩, by kernel_rfl, by decide⟩
instance : ZC Tryz.prog 63 [.int .i64 0, .int .i64 0, .int .i64 0, .int .i64 0, .string ⟨#[]⟩] := ⟨⟨.agg #[.int .i64 0, .int .i64 0, .int .i64 0, .int .i64 0, .string ⟨#[]⟩], by kernel_rfl, rfl⟩⟩
instance : ElT Tryz.prog 63 (.agg #[.int .i64 0, .int .i64 0, .int .i64 0, .int .i64 0, .string ⟨#[]⟩]) 5 48 := ⟨by kernel_rfl, rfl⟩
instance : BldC Tryz.prog 63 [(0, 1), (1, 1), (2, 1), (3, 1), (4, 1)] [.int .i64 0, .int .i64 0, .int .i64 0, .int .i64 0, .string ⟨#[]⟩] := ⟨fun parts => by kernel_rfl⟩
instance : AggC Tryz.prog 67 5 := ⟨⟨_, Tryz.underlying67, rfl⟩, by kernel_rfl⟩
instance : FldC Tryz.prog 67 0 0 3 1 := ⟨⟨_, _, Tryz.underlying67, rfl, rfl, rfl⟩, by kernel_rfl, by decide⟩
instance : FldC Tryz.prog 67 1 1 3 1 := ⟨⟨_, _, Tryz.underlying67, rfl, rfl, rfl⟩, by kernel_rfl, by decide⟩
instance : FldC Tryz.prog 67 2 2 3 1 := ⟨⟨_, _, Tryz.underlying67, rfl, rfl, rfl⟩, by kernel_rfl, by decide⟩
instance : FldC Tryz.prog 67 3 3 3 1 := ⟨⟨_, _, Tryz.underlying67, rfl, rfl, rfl⟩, by kernel_rfl, by decide⟩
instance : FldC Tryz.prog 67 4 4 9 1 := ⟨⟨_, _, Tryz.underlying67, rfl, rfl, rfl⟩, by kernel_rfl, by decide⟩
instance : ZC Tryz.prog 67 [.int .i64 0, .int .i64 0, .int .i64 0, .int .i64 0, .string ⟨#[]⟩] := ⟨⟨.agg #[.int .i64 0, .int .i64 0, .int .i64 0, .int .i64 0, .string ⟨#[]⟩], by kernel_rfl, rfl⟩⟩
instance : ElT Tryz.prog 67 (.agg #[.int .i64 0, .int .i64 0, .int .i64 0, .int .i64 0, .string ⟨#[]⟩]) 5 48 := ⟨by kernel_rfl, rfl⟩
instance : BldC Tryz.prog 67 [(0, 1), (1, 1), (2, 1), (3, 1), (4, 1)] [.int .i64 0, .int .i64 0, .int .i64 0, .int .i64 0, .string ⟨#[]⟩] := ⟨fun parts => by kernel_rfl⟩
instance : AggC Tryz.prog 98 4 := ⟨⟨_, Tryz.underlying98, rfl⟩, by kernel_rfl⟩
instance : FldC Tryz.prog 98 0 0 3 1 := ⟨⟨_, _, Tryz.underlying98, rfl, rfl, rfl⟩, by kernel_rfl, by decide⟩
instance : FldC Tryz.prog 98 1 1 3 1 := ⟨⟨_, _, Tryz.underlying98, rfl, rfl, rfl⟩, by kernel_rfl, by decide⟩
instance : FldC Tryz.prog 98 2 2 3 1 := ⟨⟨_, _, Tryz.underlying98, rfl, rfl, rfl⟩, by kernel_rfl, by decide⟩
instance : FldC Tryz.prog 98 3 3 3 1 := ⟨⟨_, _, Tryz.underlying98, rfl, rfl, rfl⟩, by kernel_rfl, by decide⟩
instance : ZC Tryz.prog 98 [.int .i64 0, .int .i64 0, .int .i64 0, .int .i64 0] := ⟨⟨.agg #[.int .i64 0, .int .i64 0, .int .i64 0, .int .i64 0], by kernel_rfl, rfl⟩⟩
instance : ElT Tryz.prog 98 (.agg #[.int .i64 0, .int .i64 0, .int .i64 0, .int .i64 0]) 4 32 := ⟨by kernel_rfl, rfl⟩
instance : BldC Tryz.prog 98 [(0, 1), (1, 1), (2, 1), (3, 1)] [.int .i64 0, .int .i64 0, .int .i64 0, .int .i64 0] := ⟨fun parts => by kernel_rfl⟩
instance : AggC Tryz.prog 115 3 := ⟨⟨_, Tryz.underlying115, rfl⟩, by kernel_rfl⟩
instance : FldC Tryz.prog 115 0 0 3 1 := ⟨⟨_, _, Tryz.underlying115, rfl, rfl, rfl⟩, by kernel_rfl, by decide⟩
instance : FldC Tryz.prog 115 1 1 77 1 := ⟨⟨_, _, Tryz.underlying115, rfl, rfl, rfl⟩, by kernel_rfl, by decide⟩
instance : FldC Tryz.prog 115 2 2 3 1 := ⟨⟨_, _, Tryz.underlying115, rfl, rfl, rfl⟩, by kernel_rfl, by decide⟩
instance : ZC Tryz.prog 115 [.int .i64 0, .slice none 0 0, .int .i64 0] := ⟨⟨.agg #[.int .i64 0, .slice none 0 0, .int .i64 0], by kernel_rfl, rfl⟩⟩
instance : ElT Tryz.prog 115 (.agg #[.int .i64 0, .slice none 0 0, .int .i64 0]) 3 40 := ⟨by kernel_rfl, rfl⟩
instance : BldC Tryz.prog 115 [(0, 1), (1, 1), (2, 1)] [.int .i64 0, .slice none 0 0, .int .i64 0] := ⟨fun parts => by kernel_rfl⟩
instance : AggC Tryz.prog 123 3 := ⟨⟨_, Tryz.underlying123, rfl⟩, by kernel_rfl⟩
instance : FldC Tryz.prog 123 0 0 22 1 := ⟨⟨_, _, Tryz.underlying123, rfl, rfl, rfl⟩, by kernel_rfl, by decide⟩
instance : FldC Tryz.prog 123 1 1 3 1 := ⟨⟨_, _, Tryz.underlying123, rfl, rfl, rfl⟩, by kernel_rfl, by decide⟩
instance : FldC Tryz.prog 123 2 2 121 1 := ⟨⟨_, _, Tryz.underlying123, rfl, rfl, rfl⟩, by kernel_rfl, by decide⟩
instance : ZC Tryz.prog 123 [.slice none 0 0, .int .i64 0, .int .u64 0] := ⟨⟨.agg #[.slice none 0 0, .int .i64 0, .int .u64 0], by kernel_rfl, rfl⟩⟩
instance : ElT Tryz.prog 123 (.agg #[.slice none 0 0, .int .i64 0, .int .u64 0]) 3 40 := ⟨by kernel_rfl, rfl⟩
instance : BldC Tryz.prog 123 [(0, 1), (1, 1), (2, 1)] [.slice none 0 0, .int .i64 0, .int .u64 0] := ⟨fun parts => by kernel_rfl⟩
instance : AggC Tryz.prog 152 4 := ⟨⟨_, Tryz.underlying152, rfl⟩, by kernel_rfl⟩
instance : FldC Tryz.prog 152 0 0 3 1 := ⟨⟨_, _, Tryz.underlying152, rfl, rfl, rfl⟩, by kernel_rfl, by decide⟩
instance : FldC Tryz.prog 152 1 1 3 1 := ⟨⟨_, _, Tryz.underlying152, rfl, rfl, rfl⟩, by kernel_rfl, by decide⟩
instance : FldC Tryz.prog 152 2 2 3 1 := ⟨⟨_, _, Tryz.underlying152, rfl, rfl, rfl⟩, by kernel_rfl, by decide⟩
instance : FldC Tryz.prog 152 3 3 3 1 := ⟨⟨_, _, Tryz.underlying152, rfl, rfl, rfl⟩, by kernel_rfl, by decide⟩
instance : ZC Tryz.prog 152 [.int .i64 0, .int .i64 0, .int .i64 0, .int .i64 0] := ⟨⟨.agg #[.int .i64 0, .int .i64 0, .int .i64 0, .int .i64 0], by kernel_rfl, rfl⟩⟩
instance : ElT Tryz.prog 152 (.agg #[.int .i64 0, .int .i64 0, .int .i64 0, .int .i64 0]) 4 32 := ⟨by kernel_rfl, rfl⟩
instance : BldC Tryz.prog 152 [(0, 1), (1, 1), (2, 1), (3, 1)] [.int .i64 0, .int .i64 0, .int .i64 0, .int .i64 0] := ⟨fun parts => by kernel_rfl⟩
instance : AggC Tryz.prog 196 4 := ⟨⟨_, Tryz.underlying196, rfl⟩, by kernel_rfl⟩
instance : FldC Tryz.prog 196 0 0 3 1 := ⟨⟨_, _, Tryz.underlying196, rfl, rfl, rfl⟩, by kernel_rfl, by decide⟩
instance : FldC Tryz.prog 196 1 1 3 1 := ⟨⟨_, _, Tryz.underlying196, rfl, rfl, rfl⟩, by kernel_rfl, by decide⟩
instance : FldC Tryz.prog 196 2 2 3 1 := ⟨⟨_, _, Tryz.underlying196, rfl, rfl, rfl⟩, by kernel_rfl, by decide⟩
instance : FldC Tryz.prog 196 3 3 3 1 := ⟨⟨_, _, Tryz.underlying196, rfl, rfl, rfl⟩, by kernel_rfl, by decide⟩
instance : ZC Tryz.prog 196 [.int .i64 0, .int .i64 0, .int .i64 0, .int .i64 0] := ⟨⟨.agg #[.int .i64 0, .int .i64 0, .int .i64 0, .int .i64 0], by kernel_rfl, rfl⟩⟩
instance : ElT Tryz.prog 196 (.agg #[.int .i64 0, .int .i64 0, .int .i64 0, .int .i64 0]) 4 32 := ⟨by kernel_rfl, rfl⟩
instance : BldC Tryz.prog 196 [(0, 1), (1, 1), (2, 1), (3, 1)] [.int .i64 0, .int .i64 0, .int .i64 0, .int .i64 0] := ⟨fun parts => by kernel_rfl⟩
instance : AggC Tryz.prog 213 2 := ⟨⟨_, Tryz.underlying213, rfl⟩, by kernel_rfl⟩
instance : FldC Tryz.prog 213 0 0 4 1 := ⟨⟨_, _, Tryz.underlying213, rfl, rfl, rfl⟩, by kernel_rfl, by decide⟩
instance : FldC Tryz.prog 213 1 1 9 1 := ⟨⟨_, _, Tryz.underlying213, rfl, rfl, rfl⟩, by kernel_rfl, by decide⟩
instance : ZC Tryz.prog 213 [.bool false, .string ⟨#[]⟩] := ⟨⟨.agg #[.bool false, .string ⟨#[]⟩], by kernel_rfl, rfl⟩⟩
instance : ElT Tryz.prog 213 (.agg #[.bool false, .string ⟨#[]⟩]) 2 24 := ⟨by kernel_rfl, rfl⟩
instance : BldC Tryz.prog 213 [(0, 1), (1, 1)] [.bool false, .string ⟨#[]⟩] := ⟨fun parts => by kernel_rfl⟩
instance : AggC Tryz.prog 234 2 := ⟨⟨_, Tryz.underlying234, rfl⟩, by kernel_rfl⟩
instance : FldC Tryz.prog 234 0 0 4 1 := ⟨⟨_, _, Tryz.underlying234, rfl, rfl, rfl⟩, by kernel_rfl, by decide⟩
instance : FldC Tryz.prog 234 1 1 9 1 := ⟨⟨_, _, Tryz.underlying234, rfl, rfl, rfl⟩, by kernel_rfl, by decide⟩
instance : ZC Tryz.prog 234 [.bool false, .string ⟨#[]⟩] := ⟨⟨.agg #[.bool false, .string ⟨#[]⟩], by kernel_rfl, rfl⟩⟩
instance : ElT Tryz.prog 234 (.agg #[.bool false, .string ⟨#[]⟩]) 2 24 := ⟨by kernel_rfl, rfl⟩
instance : BldC Tryz.prog 234 [(0, 1), (1, 1)] [.bool false, .string ⟨#[]⟩] := ⟨fun parts => by kernel_rfl⟩
instance : OneC Tryz.prog 22 := ⟨⟨_, Tryz.underlying22, rfl⟩, by kernel_rfl⟩
instance : SlC Tryz.prog 22 5 1 := ⟨Tryz.underlying22, by kernel_rfl⟩
instance : ZC Tryz.prog 22 [.slice none 0 0] := ⟨⟨.slice none 0 0, by kernel_rfl, rfl⟩⟩
instance : ElT Tryz.prog 22 (.slice none 0 0) 1 24 := ⟨by kernel_rfl, rfl⟩
instance : OneC Tryz.prog 24 := ⟨⟨_, Tryz.underlying24, rfl⟩, by kernel_rfl⟩
instance : SlC Tryz.prog 24 115 3 := ⟨Tryz.underlying24, by kernel_rfl⟩
instance : ZC Tryz.prog 24 [.slice none 0 0] := ⟨⟨.slice none 0 0, by kernel_rfl, rfl⟩⟩
instance : ElT Tryz.prog 24 (.slice none 0 0) 1 24 := ⟨by kernel_rfl, rfl⟩
instance : OneC Tryz.prog 37 := ⟨⟨_, Tryz.underlying37, rfl⟩, by kernel_rfl⟩
instance : SlC Tryz.prog 37 234 2 := ⟨Tryz.underlying37, by kernel_rfl⟩
instance : ZC Tryz.prog 37 [.slice none 0 0] := ⟨⟨.slice none 0 0, by kernel_rfl, rfl⟩⟩
instance : ElT Tryz.prog 37 (.slice none 0 0) 1 24 := ⟨by kernel_rfl, rfl⟩
instance : OneC Tryz.prog 40 := ⟨⟨_, Tryz.underlying40, rfl⟩, by kernel_rfl⟩
instance : SlC Tryz.prog 40 196 4 := ⟨Tryz.underlying40, by kernel_rfl⟩
instance : ZC Tryz.prog 40 [.slice none 0 0] := ⟨⟨.slice none 0 0, by kernel_rfl, rfl⟩⟩
instance : ElT Tryz.prog 40 (.slice none 0 0) 1 24 := ⟨by kernel_rfl, rfl⟩
instance : OneC Tryz.prog 44 := ⟨⟨_, Tryz.underlying44, rfl⟩, by kernel_rfl⟩
instance : SlC Tryz.prog 44 213 2 := ⟨Tryz.underlying44, by kernel_rfl⟩
instance : ZC Tryz.prog 44 [.slice none 0 0] := ⟨⟨.slice none 0 0, by kernel_rfl, rfl⟩⟩
instance : ElT Tryz.prog 44 (.slice none 0 0) 1 24 := ⟨by kernel_rfl, rfl⟩
instance : OneC Tryz.prog 47 := ⟨⟨_, Tryz.underlying47, rfl⟩, by kernel_rfl⟩
instance : SlC Tryz.prog 47 152 4 := ⟨Tryz.underlying47, by kernel_rfl⟩
instance : ZC Tryz.prog 47 [.slice none 0 0] := ⟨⟨.slice none 0 0, by kernel_rfl, rfl⟩⟩
instance : ElT Tryz.prog 47 (.slice none 0 0) 1 24 := ⟨by kernel_rfl, rfl⟩
instance : OneC Tryz.prog 50 := ⟨⟨_, Tryz.underlying50, rfl⟩, by kernel_rfl⟩
instance : SlC Tryz.prog 50 67 5 := ⟨Tryz.underlying50, by kernel_rfl⟩
instance : ZC Tryz.prog 50 [.slice none 0 0] := ⟨⟨.slice none 0 0, by kernel_rfl, rfl⟩⟩
instance : ElT Tryz.prog 50 (.slice none 0 0) 1 24 := ⟨by kernel_rfl, rfl⟩
instance : OneC Tryz.prog 51 := ⟨⟨_, Tryz.underlying51, rfl⟩, by kernel_rfl⟩
instance : SlC Tryz.prog 51 9 1 := ⟨Tryz.underlying51, by kernel_rfl⟩
instance : ZC Tryz.prog 51 [.slice none 0 0] := ⟨⟨.slice none 0 0, by kernel_rfl, rfl⟩⟩
instance : ElT Tryz.prog 51 (.slice none 0 0) 1 24 := ⟨by kernel_rfl, rfl⟩
instance : OneC Tryz.prog 70 := ⟨⟨_, Tryz.underlying70, rfl⟩, by kernel_rfl⟩
instance : SlC Tryz.prog 70 63 5 := ⟨Tryz.underlying70, by kernel_rfl⟩
instance : ZC Tryz.prog 70 [.slice none 0 0] := ⟨⟨.slice none 0 0, by kernel_rfl, rfl⟩⟩
instance : ElT Tryz.prog 70 (.slice none 0 0) 1 24 := ⟨by kernel_rfl, rfl⟩
instance : OneC Tryz.prog 77 := ⟨⟨_, Tryz.underlying77, rfl⟩, by kernel_rfl⟩
instance : SlC Tryz.prog 77 3 1 := ⟨Tryz.underlying77, by kernel_rfl⟩
instance : ZC Tryz.prog 77 [.slice none 0 0] := ⟨⟨.slice none 0 0, by kernel_rfl, rfl⟩⟩
instance : ElT Tryz.prog 77 (.slice none 0 0) 1 24 := ⟨by kernel_rfl, rfl⟩
instance : OneC Tryz.prog 104 := ⟨⟨_, Tryz.underlying104, rfl⟩, by kernel_rfl⟩
instance : SlC Tryz.prog 104 98 4 := ⟨Tryz.underlying104, by kernel_rfl⟩
instance : ZC Tryz.prog 104 [.slice none 0 0] := ⟨⟨.slice none 0 0, by kernel_rfl, rfl⟩⟩
instance : ElT Tryz.prog 104 (.slice none 0 0) 1 24 := ⟨by kernel_rfl, rfl⟩
instance : OneC Tryz.prog 120 := ⟨⟨_, Tryz.underlying120, rfl⟩, by kernel_rfl⟩
instance : OneC Tryz.prog 185 := ⟨⟨_, Tryz.underlying185, rfl⟩, by kernel_rfl⟩
instance : OneC Tryz.prog 199 := ⟨⟨_, Tryz.underlying199, rfl⟩, by kernel_rfl⟩
instance : OneC Tryz.prog 238 := ⟨⟨_, Tryz.underlying238, rfl⟩, by kernel_rfl⟩
end Go.Proofs.YtgogcgkocjpgoaaGreatDoor
/- The type Entry of the exact laws: how it reads, how it is owned; the walks of its size, copy, equality, mark and held. Written by wip/gentypes.py. -/
namespace Go.Proofs.YtgogcgkocjpgoaaGreatDoor
open Go.RowKit
structure Entry where
  number : Int
  faces : List Int
  untl : Int
/-- read -/
def EEntry : Elem Entry where
  sz := 3
  rep w cs x F := ∃ v1, cs = [.int .i64 x.number, v1, .int .i64 x.untl] ∧ Sl EInt w v1 x.faces F
  len h := by obtain ⟨v1, rfl, h1⟩ := h; rfl
  lt h := by obtain ⟨v1, rfl, h1⟩ := h; exact h1.lt (by decide)
  frame h hF := by obtain ⟨v1, rfl, h1⟩ := h; exact ⟨v1, rfl, h1.frame hF⟩
theorem one_EEntry : One EEntry := fun h u hu => by
  obtain ⟨v1, rfl, h1⟩ := h
  simp only [List.mem_cons, List.not_mem_nil, or_false] at hu
  rcases hu with rfl | rfl | rfl
  · rfl
  · exact h1.one
  · rfl
theorem info_Entry : (Tryz.prog.info? 115).map (fun i => (i.zero, i.size, i.bytes)) = some (some (.agg #[.int .i64 0, .slice none 0 0, .int .i64 0]), 3, 40) := by kernel_rfl
/-- owned -/
def OEntry : Elem Entry where
  sz := 3
  rep w cs x F := ∃ v1, cs = [.int .i64 x.number, v1, .int .i64 x.untl] ∧ Ow EInt 3 w v1 x.faces F
  len h := by obtain ⟨v1, rfl, h1⟩ := h; rfl
  lt h := by obtain ⟨v1, rfl, h1⟩ := h; exact h1.lt
  frame h hF := by obtain ⟨v1, rfl, h1⟩ := h; exact ⟨v1, rfl, h1.frame hF⟩
theorem one_OEntry : One OEntry := fun h u hu => by
  obtain ⟨v1, rfl, h1⟩ := h
  simp only [List.mem_cons, List.not_mem_nil, or_false] at hu
  rcases hu with rfl | rfl | rfl
  · rfl
  · exact h1.one
  · rfl
theorem weak_Entry : Weak OEntry EEntry := ⟨rfl, fun h => by
  obtain ⟨v1, rfl, h1⟩ := h
  obtain ⟨G1, g1, k1⟩ := h1.sl (Weak.refl _)
  exact ⟨G1, g1, v1, rfl, k1⟩⟩
end Go.Proofs.YtgogcgkocjpgoaaGreatDoor
/- The type Element of the exact laws: how it reads, how it is owned; the walks of its size, copy, equality, mark and held. Written by wip/gentypes.py. -/
namespace Go.Proofs.YtgogcgkocjpgoaaGreatDoor
open Go.RowKit
structure Element where
  clock : Int
  entries : List Entry
/-- read -/
def EElement : Elem Element where
  sz := 2
  rep w cs x F := ∃ v1, cs = [.int .i64 x.clock, v1] ∧ Sl EEntry w v1 x.entries F
  len h := by obtain ⟨v1, rfl, h1⟩ := h; rfl
  lt h := by obtain ⟨v1, rfl, h1⟩ := h; exact h1.lt (by decide)
  frame h hF := by obtain ⟨v1, rfl, h1⟩ := h; exact ⟨v1, rfl, h1.frame hF⟩
/-- owned -/
def OElement : Elem Element where
  sz := 2
  rep w cs x F := ∃ v1, cs = [.int .i64 x.clock, v1] ∧ Ow OEntry 115 w v1 x.entries F
  len h := by obtain ⟨v1, rfl, h1⟩ := h; rfl
  lt h := by obtain ⟨v1, rfl, h1⟩ := h; exact h1.lt
  frame h hF := by obtain ⟨v1, rfl, h1⟩ := h; exact ⟨v1, rfl, h1.frame hF⟩
theorem weak_Element : Weak OElement EElement := ⟨rfl, fun h => by
  obtain ⟨v1, rfl, h1⟩ := h
  obtain ⟨G1, g1, k1⟩ := h1.sl weak_Entry
  exact ⟨G1, g1, v1, rfl, k1⟩⟩
end Go.Proofs.YtgogcgkocjpgoaaGreatDoor
/- Structs of type Element in a walk's state: opened, closed. -/
namespace Go.Proofs.YtgogcgkocjpgoaaGreatDoor
open Go.RowKit
section
variable {c : Cx} {fr : Fr} {H : List Pc} {Φ : Gl}
theorem openElement {v : Value} {x : Element} {F : List Nat} (h : ∀ (a1 : Option Addr) (c1 : Nat) (F1 : List Nat), v = .agg #[.int .i64 x.clock, .slice a1 x.entries.length c1] → x.entries.length ≤ maxLen → T c fr (.sl EEntry (.slice a1 x.entries.length c1) x.entries F1 :: H) Φ) (hm : .isv EElement v x F ∈ H := by (repeat (first | exact .head _ | apply List.Mem.tail)); first | done | fail) : T c fr H Φ := .mk fun a w s g => by
  obtain ⟨cs, rfl, v1, rfl, h1⟩ := s.get hm
  obtain ⟨a1, c1, rfl⟩ := h1.slice; have l1 := h1.len
  have t1 := s.ro (p := .sl EEntry (.slice a1 x.entries.length c1) x.entries F) hm rfl rfl ⟨by decide, h1⟩ fun b hb => hb
  exact (h a1 c1 F rfl  l1).h a w t1 g
theorem closeElement (x : Element) {a1 : Option Addr} {c1 : Nat} {F1 : List Nat}  (h : T c fr (.isv EElement (.agg #[.int .i64 x.clock, .slice a1 x.entries.length c1]) x (F1) :: H) Φ) (m1 : .sl EEntry (.slice a1 x.entries.length c1) x.entries F1 ∈ H := by (repeat (first | exact .head _ | apply List.Mem.tail)); first | done | fail) : T c fr H Φ := .mk fun a w s g => by
  have hP : IsV EElement w (.agg #[.int .i64 x.clock, .slice a1 x.entries.length c1]) x (F1) := ⟨_, rfl, _, rfl, (s.get m1).2⟩
  refine h.h a w (s.add (N := [.isv EElement (.agg #[.int .i64 x.clock, .slice a1 x.entries.length c1]) x (F1)]) (Below.refl _ _) (by intro q hq; simp at hq; subst hq; exact hP) ⟨by simp, trivial⟩ fun q hq b hb => ?_) g
  simp at hq; subst hq
  simp only [Pc.F, List.mem_append] at hb
  exact .inr ⟨rfl, _, m1, rfl, hb⟩
theorem openOElement {v : Value} {x : Element} {F : List Nat} {S : List Pc} (h : ∀ (a1 : Option Addr) (c1 : Nat) (F1 : List Nat), v = .agg #[.int .i64 x.clock, .slice a1 x.entries.length c1] → x.entries.length ≤ maxLen → T c fr (.ow OEntry 115 (.slice a1 x.entries.length c1) x.entries F1 :: S) Φ) (hp : Pick H (.own OElement v x F) S := by (repeat (first | exact .here | apply Pick.there)); first | done | fail) : T c fr H Φ := .mk fun a w s g => by
  have z1 := s.pick hp
  obtain ⟨hn, cs, rfl, v1, rfl, h1⟩ := z1.on (.own OElement v x F) (by simp)
  obtain ⟨a1, c1, rfl⟩ := h1.slice; have l1 := h1.len
  refine (h a1 c1 F rfl  l1).h a w (St.turn (M := [.own OElement (.agg #[.int .i64 x.clock, .slice a1 x.entries.length c1]) x _]) (N := [.ow OEntry 115 (.slice a1 x.entries.length c1) x.entries F]) z1 (Keep.refl _ w) ?_ ?_ ?_) g
  · intro q hq; simp at hq; subst hq; exact ⟨hn, h1⟩
  · exact ⟨by simp, trivial⟩
  · intro q hq b hb; simp at hq; subst hq; exact .inr (.inl ⟨_, List.mem_singleton.2 rfl, rfl, hb⟩)
theorem closeOElement (x : Element) {a1 : Option Addr} {c1 : Nat} {F1 : List Nat} {S1 : List Pc}  (h : T c fr (.own OElement (.agg #[.int .i64 x.clock, .slice a1 x.entries.length c1]) x (F1) :: S1) Φ) (m1 : Pick H (.ow OEntry 115 (.slice a1 x.entries.length c1) x.entries F1) S1 := by (repeat (first | exact .here | apply Pick.there)); first | done | fail)  : T c fr H Φ := .mk fun a w s g => by
  have z1 : St c.G c.D c.w0 ([.ow OEntry 115 (.slice a1 x.entries.length c1) x.entries F1] ++ S1) w := by simpa using (show Picks H [.ow OEntry 115 (.slice a1 x.entries.length c1) x.entries F1] S1 from Picks.cons m1 (Picks.nil)).st (X := []) (by simpa using s)
  obtain ⟨n1, k1⟩ := z1.on (.ow OEntry 115 (.slice a1 x.entries.length c1) x.entries F1) (by simp)
  have hN := n1
  refine h.h a w (St.turn (M := [.ow OEntry 115 (.slice a1 x.entries.length c1) x.entries F1]) (N := [.own OElement (.agg #[.int .i64 x.clock, .slice a1 x.entries.length c1]) x (F1)]) z1 (Keep.refl _ w) (by intro q hq; simp at hq; subst hq; exact ⟨hN, _, rfl, _, rfl, k1⟩) ⟨by simp, trivial⟩ fun q hq b hb => ?_) g
  simp at hq; subst hq
  simp only [Pc.F, List.mem_append] at hb
  exact .inr (.inl ⟨_, List.mem_singleton.2 rfl, rfl, hb⟩)
end
end Go.Proofs.YtgogcgkocjpgoaaGreatDoor
/- Structs of type Entry in a walk's state: opened, closed. -/
namespace Go.Proofs.YtgogcgkocjpgoaaGreatDoor
open Go.RowKit
section
variable {c : Cx} {fr : Fr} {H : List Pc} {Φ : Gl}
theorem closeEntry (x : Entry) {a1 : Option Addr} {c1 : Nat} {F1 : List Nat}  (h : T c fr (.isv EEntry (.agg #[.int .i64 x.number, .slice a1 x.faces.length c1, .int .i64 x.untl]) x (F1) :: H) Φ) (m1 : .sl EInt (.slice a1 x.faces.length c1) x.faces F1 ∈ H := by (repeat (first | exact .head _ | apply List.Mem.tail)); first | done | fail) : T c fr H Φ := .mk fun a w s g => by
  have hP : IsV EEntry w (.agg #[.int .i64 x.number, .slice a1 x.faces.length c1, .int .i64 x.untl]) x (F1) := ⟨_, rfl, _, rfl, (s.get m1).2⟩
  refine h.h a w (s.add (N := [.isv EEntry (.agg #[.int .i64 x.number, .slice a1 x.faces.length c1, .int .i64 x.untl]) x (F1)]) (Below.refl _ _) (by intro q hq; simp at hq; subst hq; exact hP) ⟨by simp, trivial⟩ fun q hq b hb => ?_) g
  simp at hq; subst hq
  simp only [Pc.F, List.mem_append] at hb
  exact .inr ⟨rfl, _, m1, rfl, hb⟩
theorem openOEntry {v : Value} {x : Entry} {F : List Nat} {S : List Pc} (h : ∀ (a1 : Option Addr) (c1 : Nat) (F1 : List Nat), v = .agg #[.int .i64 x.number, .slice a1 x.faces.length c1, .int .i64 x.untl] → x.faces.length ≤ maxLen → T c fr (.ow EInt 3 (.slice a1 x.faces.length c1) x.faces F1 :: S) Φ) (hp : Pick H (.own OEntry v x F) S := by (repeat (first | exact .here | apply Pick.there)); first | done | fail) : T c fr H Φ := .mk fun a w s g => by
  have z1 := s.pick hp
  obtain ⟨hn, cs, rfl, v1, rfl, h1⟩ := z1.on (.own OEntry v x F) (by simp)
  obtain ⟨a1, c1, rfl⟩ := h1.slice; have l1 := h1.len
  refine (h a1 c1 F rfl  l1).h a w (St.turn (M := [.own OEntry (.agg #[.int .i64 x.number, .slice a1 x.faces.length c1, .int .i64 x.untl]) x _]) (N := [.ow EInt 3 (.slice a1 x.faces.length c1) x.faces F]) z1 (Keep.refl _ w) ?_ ?_ ?_) g
  · intro q hq; simp at hq; subst hq; exact ⟨hn, h1⟩
  · exact ⟨by simp, trivial⟩
  · intro q hq b hb; simp at hq; subst hq; exact .inr (.inl ⟨_, List.mem_singleton.2 rfl, rfl, hb⟩)
theorem closeOEntry (x : Entry) {a1 : Option Addr} {c1 : Nat} {F1 : List Nat} {S1 : List Pc}  (h : T c fr (.own OEntry (.agg #[.int .i64 x.number, .slice a1 x.faces.length c1, .int .i64 x.untl]) x (F1) :: S1) Φ) (m1 : Pick H (.ow EInt 3 (.slice a1 x.faces.length c1) x.faces F1) S1 := by (repeat (first | exact .here | apply Pick.there)); first | done | fail)  : T c fr H Φ := .mk fun a w s g => by
  have z1 : St c.G c.D c.w0 ([.ow EInt 3 (.slice a1 x.faces.length c1) x.faces F1] ++ S1) w := by simpa using (show Picks H [.ow EInt 3 (.slice a1 x.faces.length c1) x.faces F1] S1 from Picks.cons m1 (Picks.nil)).st (X := []) (by simpa using s)
  obtain ⟨n1, k1⟩ := z1.on (.ow EInt 3 (.slice a1 x.faces.length c1) x.faces F1) (by simp)
  have hN := n1
  refine h.h a w (St.turn (M := [.ow EInt 3 (.slice a1 x.faces.length c1) x.faces F1]) (N := [.own OEntry (.agg #[.int .i64 x.number, .slice a1 x.faces.length c1, .int .i64 x.untl]) x (F1)]) z1 (Keep.refl _ w) (by intro q hq; simp at hq; subst hq; exact ⟨hN, _, rfl, _, rfl, k1⟩) ⟨by simp, trivial⟩ fun q hq b hb => ?_) g
  simp at hq; subst hq
  simp only [Pc.F, List.mem_append] at hb
  exact .inr (.inl ⟨_, List.mem_singleton.2 rfl, rfl, hb⟩)
theorem atEntry {a : Option Addr} {n cp : Nat} {xs : List Entry} {F : List Nat} (i : Nat) (h : ∀ (hi : i < xs.length) (b o : Nat) (a1 : Option Addr) (c1 : Nat) (F1 : List Nat), a = some ⟨b, o, none⟩ → xs[i].faces.length ≤ maxLen → T c fr (.cel b (o + i * 3) [.int .i64 xs[i].number, .slice a1 xs[i].faces.length c1, .int .i64 xs[i].untl] :: .sl EInt (.slice a1 xs[i].faces.length c1) xs[i].faces F1 :: H) Φ) (hm : .sl EEntry (.slice a n cp) xs F ∈ H := by (repeat (first | exact .head _ | apply List.Mem.tail)); first | done | fail) (hi : i < xs.length := by omega) : T c fr H Φ := .mk fun ac w s g => by
  obtain ⟨b, o, cs, G, ha, hrep, hG, hb, hne, hr⟩ := sl_at (s.get hm) i hi
  obtain ⟨v1, rfl, h1⟩ := hrep
  obtain ⟨a1, c1, rfl⟩ := h1.slice; have l1 := h1.len
  have t1 := s.ro (p := .sl EInt (.slice a1 xs[i].faces.length c1) xs[i].faces G) hm rfl rfl ⟨by decide, h1⟩ (by intro b hb; simp only [Pc.F] at hb ⊢; exact hG b (by simp [hb]))
  exact (h hi b o a1 c1 G ha  l1).h ac w (t1.ro (List.mem_cons_of_mem _ hm) rfl rfl ⟨hne, hr⟩ (by intro x hx; simp [Pc.F] at hx; subst hx; exact hb)) g
end
end Go.Proofs.YtgogcgkocjpgoaaGreatDoor
/- Slices whose elements have blocks of their own: their cells and what stands behind them, told apart. Plain: no program in sight. -/
namespace Go.Proofs.YtgogcgkocjpgoaaGreatDoor
open Go.RowKit
theorem lenE {p : Prop} (h : p := by first | omega | (simp only [List.length_append, List.length_take, List.length_drop, List.length_cons, List.length_nil, List.length_set, List.length_replicate]; omega)) : p := h
/-- m cells, whatever they hold -/
def EC (m : Nat) : Elem (List Value) where
  sz := m
  rep _ cs x F := cs = x ∧ (x.length = m ∧ ∀ u ∈ x, u.oneCell' = true) ∧ F = []
  len h := by obtain ⟨rfl, ⟨h, _⟩, _⟩ := h; exact h
  lt h := by obtain ⟨_, _, rfl⟩ := h; simp
  frame h _ := h
theorem scal_EC (m : Nat) : Scal (EC m) := fun h => h.2.2
theorem one_EC (m : Nat) : One (EC m) := fun h => by obtain ⟨rfl, ⟨_, h⟩, _⟩ := h; exact h
theorem flat_ec {α : Type} {E : Elem α} {w w' : World} (one : One E) : ∀ {xs : List α} {cs : List Value} {G : List Nat}, Flat E w cs xs G → ∃ ys : List (List Value), ys.length = xs.length ∧ cs = ys.flatten ∧ (∀ y ∈ ys, y.length = E.sz) ∧ Flat (EC E.sz) w' cs ys []
  | [], _, _, h => ⟨[], rfl, h.1, by simp, h.1, rfl⟩
  | x :: r, _, _, h => by
    obtain ⟨c1, c2, F1, F2, rfl, rfl, h1, h2⟩ := h
    obtain ⟨ys, e1, rfl, e2, h3⟩ := flat_ec (w' := w') one h2
    refine ⟨c1 :: ys, by simp [e1], by simp, fun z hz => ?_, c1, ys.flatten, [], [], rfl, rfl, ⟨rfl, ⟨E.len h1, one h1⟩, rfl⟩, h3⟩
    rcases List.mem_cons.1 hz with rfl | hz
    · exact E.len h1
    · exact e2 z hz
theorem sep_nd : ∀ {N : List Pc}, (fp N).Nodup → Sep N
  | [], _ => trivial
  | p :: N, h => ⟨fun q hq _ b hb hqb => nodup_apt h hb (mem_fp.2 ⟨q, hq, hqb⟩), sep_nd (List.nodup_append.1 h).2.1⟩
theorem St.swap {G D w0 H M N R w} (s : St G D w0 H w) (hM : Picks H M R) (hm : ∀ p ∈ M, p.mu = true) (hN : Hol N w) (hnd : (fp M).Nodup → (fp N).Nodup) (hF : ∀ b ∈ fp N, b ∈ fp M) : St G D w0 (N ++ R) w :=
  have s1 : St G D w0 (M ++ R) w := by simpa using hM.st (X := []) (by simpa using s)
  have sM : Sep M := by
    have : ∀ (M : List Pc), Sep (M ++ R) → Sep M := by
      intro M
      induction M with
      | nil => intro _; trivial
      | cons p M ih => intro h; exact ⟨fun q hq => h.1 q (by simp [hq]), ih h.2⟩
    exact this M s1.sep
  have hn : (fp M).Nodup := fp_nd (by simpa using hm) (fun p hp => s1.on p (by simp [hp])) sM
  St.turn (M := M) (N := N) s1 (Keep.refl _ w) hN (sep_nd (hnd hn)) fun p hp b hb => by
    obtain ⟨q, hq, hqb⟩ := mem_fp.1 (hF b (mem_fp.2 ⟨p, hp, hb⟩))
    exact .inr (.inl ⟨q, hq, hm q hq, hqb⟩)
section
variable {c : Cx} {fr : Fr} {H : List Pc} {Φ : Gl}
/-- one element of an owned slice that has blocks of its own: its cells, what stands behind it; what stands behind the others -/
def HoleO {α : Type} (E : Elem α) (t : TypeId) (g : Nat) (v : Value) (xs : List α) (i : Nat) (A B c1 c2 : List Value) : Prop :=
  ∀ w cs y G1 Gi G2, Row w g t (A ++ cs ++ B) → Flat E w c1 (xs.take i) G1 → E.rep w cs y Gi → Flat E w c2 (xs.drop (i + 1)) G2 → Ow E t w v (xs.set i y) (g :: (G1 ++ Gi ++ G2))
theorem focO {α : Type} {E : Elem α} {t : TypeId} {a : Option Addr} {n cp m : Nat} {xs : List α} {F : List Nat} {S : List Pc} (i : Nat)
    (h : ∀ (_ : i < xs.length) g A cs B c1 c2 G1 Gi G2, a = some ⟨g, 0, none⟩ → n = xs.length → n ≤ cp → HoleO E t g (.slice (some ⟨g, 0, none⟩) n cp) xs i A B c1 c2 → T c fr (.row g t (0 + i * m) A cs B :: .own E (.agg cs.toArray) xs[i] Gi :: .flat E c1 (xs.take i) G1 :: .flat E c2 (xs.drop (i + 1)) G2 :: S) Φ)
    (hm : E.sz = m) (hi : i < xs.length) (hp : Pick H (.ow E t (.slice a n cp) xs F) S := by (repeat (first | exact .here | apply Pick.there)); first | done | fail) : T c fr H Φ := .mk fun ac w s ag => by
  subst hm
  have s1 := s.pick hp
  obtain ⟨hnd, ho⟩ := s1.on (.ow E t (.slice a n cp) xs F) (by simp)
  rcases ho with ⟨-, rfl, -⟩ | ⟨g, cap, cs0, rest, G, h1, h2, h3, h4, h5, h6, rfl⟩
  · simp at hi
  cases h1
  obtain ⟨A, cs, B, G1, Gi, G2, rfl, rfl, hA, hc, f1, f2, f3⟩ := h6.focus i hi
  refine (h hi g A cs (B ++ rest) A B G1 Gi G2 rfl rfl h3 ?_).h ac w (s1.swap (M := [_]) (N := [.row g t (0 + i * E.sz) A cs (B ++ rest), .own E (.agg cs.toArray) xs[i] Gi, .flat E A (xs.take i) G1, .flat E B (xs.drop (i + 1)) G2]) (.cons .here .nil) (by intro p hp; simp at hp; subst hp; rfl) ?_ (fun hn => ?_) (fun b hb => ?_)) ag
  · intro w' cs' y G1' Gi' G2' hr k1 k2 k3
    have := Flat.build hi k1 k2 k3
    have hl := this.len
    exact .inr ⟨g, cp, A ++ cs' ++ B, rest, G1' ++ Gi' ++ G2', by simp, by simpa using hr, by simpa using h3, h4, by
      have e1 := E.len k2
      simp only [List.length_append] at h5 ⊢
      omega, this, rfl⟩
  · have hn1 := List.nodup_append.1 (List.nodup_cons.1 hnd).2
    have hn2 := List.nodup_append.1 hn1.1
    intro p hp
    simp only [List.mem_cons, List.not_mem_nil, or_false] at hp
    rcases hp with rfl | rfl | rfl | rfl
    · exact ⟨by omega, by simpa using h2⟩
    · exact ⟨hn2.2.1, _, rfl, f2⟩
    · exact ⟨hn2.1, f1⟩
    · exact ⟨hn1.2.1, f3⟩
  · have : (g :: (G1 ++ Gi ++ G2)).Perm ([g] ++ (Gi ++ (G1 ++ (G2 ++ [])))) := by
      simp only [List.singleton_append, List.append_nil, List.append_assoc]
      refine List.Perm.cons _ ?_
      rw [← List.append_assoc, ← List.append_assoc]
      exact (List.perm_append_comm).append_right _
    exact this.nodup_iff.1 (by simpa [fp, Pc.F] using hn)
  · simp only [fp, Pc.F, List.append_nil, List.mem_append, List.mem_cons, List.not_mem_nil, or_false] at hb ⊢
    grind
theorem unfO {α : Type} {E : Elem α} {t : TypeId} {g o i : Nat} {u v : Value} {xs : List α} {A cs B c1 c2 : List Value} {x1 x2 : List α} {G1 Gi G2 : List Nat} {S1 S2 S3 S4 : List Pc} (y : α) (hh : HoleO E t g u xs i A B c1 c2) (hv : v = .agg cs.toArray) (h : ∀ F', T c fr (.ow E t u (xs.set i y) F' :: S4) Φ) (e1 : x1 = xs.take i := by rfl) (e2 : x2 = xs.drop (i + 1) := by rfl)
    (hp1 : Pick H (.row g t o A cs B) S1 := by (repeat (first | exact .here | apply Pick.there)); first | done | fail) (hp2 : Pick S1 (.own E v y Gi) S2 := by (repeat (first | exact .here | apply Pick.there)); first | done | fail) (hp3 : Pick S2 (.flat E c1 x1 G1) S3 := by (repeat (first | exact .here | apply Pick.there)); first | done | fail) (hp4 : Pick S3 (.flat E c2 x2 G2) S4 := by (repeat (first | exact .here | apply Pick.there)); first | done | fail) : T c fr H Φ := .mk fun ac w s ag => by
  subst hv e1 e2
  have hP : Picks H [.row g t o A cs B, .own E (.agg cs.toArray) y Gi, .flat E c1 (xs.take i) G1, .flat E c2 (xs.drop (i + 1)) G2] S4 := .cons hp1 (.cons hp2 (.cons hp3 (.cons hp4 .nil)))
  have s1 : St c.G c.D c.w0 ([.row g t o A cs B, .own E (.agg cs.toArray) y Gi, .flat E c1 (xs.take i) G1, .flat E c2 (xs.drop (i + 1)) G2] ++ S4) w := by simpa using hP.st (X := []) (by simpa using s)
  obtain ⟨-, r⟩ := s1.on (.row g t o A cs B) (by simp)
  obtain ⟨-, cs', e, hr⟩ := s1.on (.own E (.agg cs.toArray) y Gi) (by simp)
  obtain rfl : cs = cs' := by simpa using e
  have f1 := (s1.on (.flat E c1 (xs.take i) G1) (by simp)).2
  have f3 := (s1.on (.flat E c2 (xs.drop (i + 1)) G2) (by simp)).2
  have hO := hh w cs y G1 Gi G2 r f1 hr f3
  have hpm : (g :: (G1 ++ Gi ++ G2)).Perm ([g] ++ (Gi ++ (G1 ++ (G2 ++ [])))) := by
    simp only [List.singleton_append, List.append_nil, List.append_assoc]
    refine List.Perm.cons _ ?_
    rw [← List.append_assoc, ← List.append_assoc]
    exact (List.perm_append_comm).append_right _
  have hmM : ∀ p ∈ [Pc.row g t o A cs B, .own E (.agg cs.toArray) y Gi, .flat E c1 (xs.take i) G1, .flat E c2 (xs.drop (i + 1)) G2], p.mu = true := by intro p hp; simp only [List.mem_cons, List.not_mem_nil, or_false] at hp; rcases hp with rfl | rfl | rfl | rfl <;> rfl
  have hndM : (fp [Pc.row g t o A cs B, .own E (.agg cs.toArray) y Gi, .flat E c1 (xs.take i) G1, .flat E c2 (xs.drop (i + 1)) G2]).Nodup := fp_nd (by simpa using hmM) (fun p hp => s1.on p (List.mem_append_left _ hp)) (by
    have sp := s1.sep
    exact ⟨fun q hq => sp.1 q (List.mem_append_left _ hq), fun q hq => sp.2.1 q (List.mem_append_left _ hq), fun q hq => sp.2.2.1 q (List.mem_append_left _ hq), fun q hq => sp.2.2.2.1 q (List.mem_append_left _ hq), trivial⟩)
  have hnd : (g :: (G1 ++ Gi ++ G2)).Nodup := hpm.nodup_iff.2 (by simpa [fp, Pc.F] using hndM)
  refine (h (g :: (G1 ++ Gi ++ G2))).h ac w (s.swap hP hmM (N := [.ow E t u (xs.set i y) (g :: (G1 ++ Gi ++ G2))]) (by intro p hp; rw [List.mem_singleton] at hp; subst hp; exact ⟨hnd, hO⟩) (fun _ => by simpa [fp, Pc.F] using hnd) (fun b hb => ?_)) ag
  simp only [fp, Pc.F, List.append_nil, List.mem_append, List.mem_cons, List.not_mem_nil, or_false] at hb ⊢
  grind
/-- a row of our own with what stands behind it is appended -/
theorem ap1o {α : Type} {E : Elem α} {t e m b : Nat} {z : Value} [hS : SlC c.P t e m] [hE : ElT c.P e z m b] {xs : List α} {F Fy : List Nat} {g tt : Nat} {cs : List Value} {u : Value} {R R2 S : List Pc} {d : Nat} {ty : TypeId} {v : Value} {x y : Operand} (one : One E) (ey : α) (hu : u = .agg cs.toArray)
    (h : ∀ a' c' F', T c ((d, .slice a' (xs ++ [ey]).length c') :: fr) (.ow E e (.slice a' (xs ++ [ey]).length c') (xs ++ [ey]) F' :: S) Φ)
    (hx : ev fr x = some v := by rfl) (hy : ev fr y = some (.slice (some ⟨g, 0, none⟩) 1 1) := by rfl) (hp : Pick H (.ow E e v xs F) R := by (repeat (first | exact .here | apply Pick.there)); first | done | fail) (hp2 : Pick R (.row g tt 0 [] cs []) R2 := by (repeat (first | exact .here | apply Pick.there)); first | done | fail) (hp3 : Pick R2 (.own E u ey Fy) S := by (repeat (first | exact .here | apply Pick.there)); first | done | fail) (hz : 0 < E.sz := by decide) (hm : E.sz = m := by rfl)
    (h63 : xs.length + 1 ≤ 9223372036854775807 := by omega) (hby : (xs.length + 1) * b ≤ 140737488355328 := by omega) (hd : Nat.blt d c.n = true := by rfl) :
    On c fr H (some d) (.call { callee := .builtin .append, args := #[x, y], argTypes := #[t, t] }) ty Φ := ⟨fun _ _ _ => by
  subst hu
  refine ap (ys := [ey]) (Fy := Fy) (S := S) one hz hm hp hx hy rfl (fun w s => ?_) (fun w v' F' s hF w' hk hv => ?_) (by unfold maxLen; exact h63) hby h hd
  · have hro := s.on (.row g tt 0 [] cs []) (by simp [hp2.mem])
    have how := s.on (.own E (.agg cs.toArray) ey Fy) (by simp [hp2.sub _ hp3.mem])
    obtain ⟨hnd, cs', e1, hrep⟩ := how
    obtain rfl : cs = cs' := by simpa using e1
    refine ⟨cs, Flat.one hrep, .inr ⟨_, rfl, fun j u hu => ?_⟩, fun b hb hbF => ?_, hnd⟩
    · have hr := hro.2
      have := hr.cell j
      simp only [List.nil_append, List.append_nil] at this
      rw [hu] at this
      unfold Addr.add
      split
      · rename_i e; subst e; exact this
      · simpa using this
    · exact s.sep.1 (.own E (.agg cs.toArray) ey Fy) (hp2.sub _ hp3.mem) rfl b hbF hb
  · have hP : Picks (.ow E e v xs F :: R) [.ow E e v xs F, .own E (.agg cs.toArray) ey Fy, .row g tt 0 [] cs []] S := .cons .here (by
      have : ∀ {R R2 S : List Pc} {p q : Pc}, Pick R p R2 → Pick R2 q S → Picks R [q, p] S := by
        intro R R2 S p q h1
        induction h1 generalizing S with
        | here => intro h2; exact .cons (.there h2) (.cons .here .nil)
        | @there x p R R' h ih =>
          intro h2
          cases h2 with
          | here => exact .cons .here (.cons h .nil)
          | there h3 =>
            cases ih h3 with
            | cons a1 a2 =>
              cases a2 with
              | cons b1 b2 => cases b2; exact .cons (.there a1) (.cons (.there b1) .nil)
      exact this hp2 hp3)
    have s1 : St c.G c.D c.w0 ([.ow E e v xs F, .own E (.agg cs.toArray) ey Fy] ++ S) w := by
      have s0 : St c.G c.D c.w0 ([.ow E e v xs F, .own E (.agg cs.toArray) ey Fy, .row g tt 0 [] cs []] ++ S) w := by simpa using hP.st (X := []) (by simpa using s)
      have sp := s0.sep
      have hm3 : ∀ q, q ∈ [Pc.ow E e v xs F, .own E (.agg cs.toArray) ey Fy] ++ S → q ∈ [Pc.ow E e v xs F, .own E (.agg cs.toArray) ey Fy, .row g tt 0 [] cs []] ++ S := fun q hq => by
        simp only [List.cons_append, List.nil_append, List.mem_cons] at hq ⊢
        rcases hq with h | h | h
        · exact .inl h
        · exact .inr (.inl h)
        · exact .inr (.inr (.inr h))
      exact ⟨s0.keep, fun q hq => s0.on q (hm3 q hq), ⟨fun q hq => sp.1 q (by
        rcases List.mem_cons.1 hq with h | h
        · simp [h]
        · exact List.mem_cons_of_mem _ (List.mem_cons_of_mem _ h)), fun q hq => sp.2.1 q (List.mem_cons_of_mem _ hq), sp.2.2.2⟩, fun q hq => s0.mine q (hm3 q hq)⟩
    refine St.turn (M := [.ow E e v xs F, .own E (.agg cs.toArray) ey Fy]) (N := [.ow E e v' (xs ++ [ey]) F']) s1 (hk.mono (fun b hb _ => by simp [List.filter, Pc.mu, fp, Pc.F, hb])) (by intro q hq; simp at hq; subst hq; exact hv) ⟨by simp, trivial⟩ ?_
    intro q hq b hb
    simp only [List.mem_cons, List.not_mem_nil, or_false] at hq; subst hq
    rcases hF b hb with h | h | h
    · exact .inr (.inl ⟨.ow E e v xs F, by simp, rfl, h⟩)
    · exact .inr (.inl ⟨.own E (.agg cs.toArray) ey Fy, by simp, rfl, h⟩)
    · exact .inl (by omega)⟩
/-- the first k of a slice that reads, beside it -/
theorem t_stk {α : Type} {E : Elem α} {a : Option Addr} {n cp : Nat} {xs : List α} {F : List Nat} (k : Nat) (hk : k ≤ xs.length) (h : ∀ F', n ≤ cp → cp ≤ 9223372036854775807 → T c fr (.sl E (.slice a k cp) (xs.take k) F' :: H) Φ) (hm : .sl E (.slice a n cp) xs F ∈ H := by (repeat (first | exact .head _ | apply List.Mem.tail)); first | done | fail) : T c fr H Φ := .mk fun ac w s g => by
  obtain ⟨hz, hs⟩ := s.get hm
  obtain ⟨rfl, hnc, hmx⟩ := hs.caps
  obtain ⟨F', hF, h2⟩ := hs.takeS k hk
  exact (h F' hnc (by unfold maxLen at hmx; omega)).h ac w (s.ro hm rfl rfl ⟨hz, h2⟩ hF) g
/-! the same for slices that read -/
/-- n elements, one behind the other -/
def EA {α : Type} (E : Elem α) (n : Nat) : Elem (List α) where
  sz := n * E.sz
  rep w cs xs F := xs.length = n ∧ Flat E w cs xs F
  len h := by obtain ⟨rfl, h⟩ := h; exact h.len
  lt h := h.2.lt
  frame h hF := ⟨h.1, h.2.frame hF⟩
theorem t_shalR {α : Type} {E : Elem α} (one : One E) {a : Option Addr} {n cp : Nat} {xs : List α} {F : List Nat} {m : Nat} (hm : E.sz = m)
    (h : ∀ (ys : List (List Value)) F1 F2, ys.length = xs.length → (∀ y ∈ ys, y.length = m) → T c fr (.sl (EC m) (.slice a n cp) ys F1 :: .isv (EA E xs.length) (.agg ys.flatten.toArray) xs F2 :: H) Φ) (hp : .sl E (.slice a n cp) xs F ∈ H := by (repeat (first | exact .head _ | apply List.Mem.tail)); first | done | fail) : T c fr H Φ := .mk fun ac w s g => by
  subst hm
  obtain ⟨hz, a', cap, hv, hl, hh⟩ := s.get hp
  cases hv
  rcases hh with ⟨rfl, rfl, h0⟩ | ⟨b, off, F', rfl, hne, rfl, hc⟩
  · refine (h [] [] [] rfl (by simp)).h ac w (s.add (N := [.sl (EC E.sz) (.slice a 0 cp) [] [], .isv (EA E 0) (.agg #[]) [] []]) (Below.refl _ _) ?_ ?_ ?_) g
    · intro p hp
      simp only [List.mem_cons, List.not_mem_nil, or_false] at hp
      rcases hp with rfl | rfl
      · exact ⟨hz, a, cp, rfl, hl, .inl ⟨rfl, rfl, h0⟩⟩
      · exact ⟨[], rfl, rfl, rfl, rfl⟩
    · exact ⟨fun q _ hm => by simp at *; subst_vars; simp [Pc.mu] at hm, fun q hq => by simp at hq, trivial⟩
    · intro p hp b hb
      simp only [List.mem_cons, List.not_mem_nil, or_false] at hp
      rcases hp with rfl | rfl <;> simp [Pc.F] at hb
  · have key : ∀ (xs : List α) (off : Nat) (G : List Nat), Cells E w b off xs G → ∃ cs, Flat E w cs xs G ∧ ∀ j u, cs[j]? = some u → w.cell? ⟨b, off + j, none⟩ = some u := by
      intro xs
      induction xs with
      | nil => intro off G h; exact ⟨[], ⟨rfl, h⟩, by simp⟩
      | cons x r ih =>
        intro off G h
        obtain ⟨c1, F1, F2, rfl, h1, h2, h3⟩ := h
        obtain ⟨c2, f2, k2⟩ := ih _ _ h3
        have hl1 := E.len h1
        refine ⟨c1 ++ c2, ⟨c1, c2, F1, F2, rfl, rfl, h1, f2⟩, fun j u hu => ?_⟩
        by_cases hj : j < c1.length
        · rw [List.getElem?_append_left hj] at hu
          rw [h2 j (by omega)]; exact hu
        · rw [List.getElem?_append_right (by omega)] at hu
          have := k2 _ _ hu
          rwa [show off + E.sz + (j - c1.length) = off + j by omega] at this
    obtain ⟨cs, f1, k1⟩ := key xs off F' hc
    obtain ⟨ys, e1, rfl, e2, f2⟩ := flat_ec (w' := w) one f1
    have hys : ys ≠ [] := by rintro rfl; exact hne (List.eq_nil_of_length_eq_zero e1.symm)
    refine (h ys [b] F' e1 e2).h ac w (s.add (N := [.sl (EC E.sz) (.slice (some ⟨b, off, none⟩) xs.length cp) ys [b], .isv (EA E xs.length) (.agg ys.flatten.toArray) xs F']) (Below.refl _ _) ?_ ?_ ?_) g
    · intro p hp
      simp only [List.mem_cons, List.not_mem_nil, or_false] at hp
      rcases hp with rfl | rfl
      · refine ⟨hz, _, cp, by rw [e1], by rw [e1]; exact hl, .inr ⟨b, off, [], rfl, hys, rfl, f2.cells (fun j u hu => k1 j u hu)⟩⟩
      · exact ⟨_, rfl, rfl, f1⟩
    · exact ⟨fun q hq hm => by simp only [List.mem_cons, List.not_mem_nil, or_false] at hq; subst hq; simp [Pc.mu] at hm, fun q hq => by simp at hq, trivial⟩
    · intro p hq z hb
      simp only [List.mem_cons, List.not_mem_nil, or_false] at hq
      rcases hq with rfl | rfl
      · exact .inr ⟨rfl, _, hp, rfl, by simp only [Pc.F, List.mem_cons, List.not_mem_nil, or_false] at hb ⊢; exact .inl hb⟩
      · exact .inr ⟨rfl, _, hp, rfl, by simp only [Pc.F, List.mem_cons] at hb ⊢; exact .inr hb⟩
theorem t_deepR {α : Type} {E : Elem α} {a : Option Addr} {n cp m k : Nat} {ys : List (List Value)} {v : Value} {xs : List α} {F G : List Nat} (hm : E.sz = m) (hl : ys.length = xs.length) (hv : v = .agg ys.flatten.toArray)
    (h : ∀ F', T c fr (.sl E (.slice a n cp) xs F' :: H) Φ) (hp : .sl (EC m) (.slice a n cp) ys F ∈ H := by (repeat (first | exact .head _ | apply List.Mem.tail)); first | done | fail) (hp2 : .isv (EA E k) v xs G ∈ H := by (repeat (first | exact .head _ | apply List.Mem.tail)); first | done | fail) : T c fr H Φ := .mk fun ac w s g => by
  subst hm hv
  obtain ⟨hz, a', cap, hv, hlc, hh⟩ := s.get hp
  cases hv
  obtain ⟨cs, e, -, hf⟩ := s.get hp2
  obtain rfl : ys.flatten = cs := by simpa using e
  rcases hh with ⟨rfl, rfl, h0⟩ | ⟨b, off, F', rfl, hne, rfl, hc⟩
  · have : xs = [] := List.eq_nil_of_length_eq_zero hl.symm
    subst this
    refine (h []).h ac w (s.add (N := [.sl E (.slice a 0 cp) [] []]) (Below.refl _ _) (by intro p hp; simp only [List.mem_cons, List.not_mem_nil, or_false] at hp; subst hp; exact ⟨hz, a, cp, rfl, hlc, .inl ⟨rfl, rfl, h0⟩⟩) ⟨by simp, trivial⟩ (by intro p hp b hb; simp only [List.mem_cons, List.not_mem_nil, or_false] at hp; subst hp; simp [Pc.F] at hb)) g
  · have hxs : xs ≠ [] := by rintro rfl; exact hne (List.eq_nil_of_length_eq_zero hl)
    have key : ∀ (ys : List (List Value)) (off : Nat) (G : List Nat), Cells (EC E.sz) w b off ys G → ∀ j u, ys.flatten[j]? = some u → w.cell? ⟨b, off + j, none⟩ = some u := by
      intro ys
      induction ys with
      | nil => intro off G _ j u hu; simp at hu
      | cons y r ih =>
        intro off G h j u hu
        obtain ⟨c1, F1, F2, rfl, ⟨rfl, ⟨hy, -⟩, -⟩, h2, h3⟩ := h
        rw [List.flatten_cons] at hu
        by_cases hj : j < c1.length
        · rw [List.getElem?_append_left hj] at hu
          rw [h2 j (by show j < E.sz; omega)]; exact hu
        · rw [List.getElem?_append_right (by omega)] at hu
          have := ih _ _ h3 _ _ hu
          rwa [show off + (EC E.sz).sz + (j - c1.length) = off + j by show off + E.sz + (j - c1.length) = off + j; omega] at this
    refine (h (b :: G)).h ac w (s.add (N := [.sl E (.slice (some ⟨b, off, none⟩) ys.length cp) xs (b :: G)]) (Below.refl _ _) (by
      intro p hp
      simp only [List.mem_cons, List.not_mem_nil, or_false] at hp; subst hp
      exact ⟨hz, _, cp, by rw [hl], by rw [← hl]; exact hlc, .inr ⟨b, off, G, rfl, hxs, rfl, hf.cells (fun j u hu => key ys off F' hc j u hu)⟩⟩) ⟨by simp, trivial⟩ (by
      intro p hq z hb
      simp only [List.mem_cons, List.not_mem_nil, or_false] at hq; subst hq
      simp only [Pc.F, List.mem_cons] at hb
      rcases hb with rfl | hb
      · exact .inr ⟨rfl, _, hp, rfl, by simp [Pc.F]⟩
      · exact .inr ⟨rfl, _, hp2, rfl, hb⟩)) g
theorem t_ea1 {α : Type} {E : Elem α} {v : Value} {x : α} {F : List Nat} (h : T c fr (.isv (EA E 1) v [x] F :: H) Φ) (hp : .isv E v x F ∈ H := by (repeat (first | exact .head _ | apply List.Mem.tail)); first | done | fail) : T c fr H Φ := .mk fun ac w s g => by
  obtain ⟨cs, e, hr⟩ := s.get hp
  exact h.h ac w (s.ro hp rfl rfl ⟨cs, e, rfl, Flat.one hr⟩ (fun b hb => hb)) g
theorem t_ea {α : Type} {E : Elem α} {k1 k2 : Nat} {c1 c2 : List Value} {v1 v2 : Value} {x1 x2 : List α} {F1 F2 : List Nat} (e1 : v1 = .agg c1.toArray) (e2 : v2 = .agg c2.toArray) (h : T c fr (.isv (EA E (k1 + k2)) (.agg (c1 ++ c2).toArray) (x1 ++ x2) (F1 ++ F2) :: H) Φ) (hp : .isv (EA E k1) v1 x1 F1 ∈ H := by (repeat (first | exact .head _ | apply List.Mem.tail)); first | done | fail) (hp2 : .isv (EA E k2) v2 x2 F2 ∈ H := by (repeat (first | exact .head _ | apply List.Mem.tail)); first | done | fail) : T c fr H Φ := .mk fun ac w s g => by
  subst e1 e2
  obtain ⟨cs, e, hl, hf⟩ := s.get hp
  obtain ⟨cs2, e2, hl2, hf2⟩ := s.get hp2
  obtain rfl : c1 = cs := by simpa using e
  obtain rfl : c2 = cs2 := by simpa using e2
  refine h.h ac w (s.add (N := [.isv (EA E (k1 + k2)) (.agg (c1 ++ c2).toArray) (x1 ++ x2) (F1 ++ F2)]) (Below.refl _ _) (by intro p hp; rw [List.mem_singleton] at hp; subst hp; exact ⟨_, rfl, by simp [hl, hl2], hf.append hf2⟩) ⟨by simp, trivial⟩ (by
    intro p hq z hb
    rw [List.mem_singleton] at hq; subst hq
    rcases List.mem_append.1 hb with hb | hb
    · exact .inr ⟨rfl, _, hp, rfl, hb⟩
    · exact .inr ⟨rfl, _, hp2, rfl, hb⟩)) g
theorem flat_ec1 {m : Nat} {cs : List Value} (hm : cs.length = m) (h1 : ∀ u ∈ cs, u.oneCell' = true) (w : World) : Flat (EC m) w cs [cs] [] := Flat.one ⟨rfl, ⟨hm, h1⟩, rfl⟩
theorem t_weakI {α : Type} {O R : Elem α} (hW : Weak O R) {v : Value} {x : α} {F : List Nat} {S : List Pc} (h : ∀ F', T c fr (.isv R v x F' :: S) Φ) (hp : Pick H (.own O v x F) S := by (repeat (first | exact .here | apply Pick.there)); first | done | fail) : T c fr H Φ := .mk fun a w s g => by
  have s1 := s.pick hp
  obtain ⟨-, ho⟩ := s1.on (.own O v x F) (by simp)
  obtain ⟨F', hF, hs⟩ := IsV.weak hW ho
  exact (h F').h a w (s1.conv rfl hs hF) g
end
end Go.Proofs.YtgogcgkocjpgoaaGreatDoor
/- Walks of the small functions on elements: serials, clocks, faces. -/
namespace Go.Proofs.YtgogcgkocjpgoaaGreatDoor
open Go.RowKit

def isSer (x : Int) : Bool := btw 0 x 65535
def isClk (x : Int) : Bool := btw 0 x 9999
def isFac (x : Int) : Bool := btw 1 x 7
theorem IsSerial_c (x : Int) (w : World) : Calls Tryz.prog 130 #[.int .i64 x] w fun e w' => e = .returned (.bool (isSer x)) ∧ w = w' := by
  go_enter Tryz.func130, Tryz.ntmps130
  go_wp2_with (go_at_call 151; refine (within_c _ _ _ _).mono ?_; rintro e w' ⟨rfl, rfl⟩)
  go_ret
  exact ⟨rfl, rfl⟩
theorem l2Good_c (x : Int) (w : World) : Calls Tryz.prog 141 #[.int .i64 x] w fun e w' => e = .returned (.bool (isSer x)) ∧ w = w' := by
  go_enter Tryz.func141, Tryz.ntmps141
  go_wp2_with (go_at_call 177; refine (l1In_c _ _ _ _).mono ?_; rintro e w' ⟨rfl, rfl⟩)
  go_ret
  exact ⟨rfl, rfl⟩
theorem isClock_c (x : Int) (w : World) : Calls Tryz.prog 132 #[.int .i64 x] w fun e w' => e = .returned (.bool (isClk x)) ∧ w = w' := by
  go_enter Tryz.func132, Tryz.ntmps132
  go_wp2_with (go_at_call 151; refine (within_c _ _ _ _).mono ?_; rintro e w' ⟨rfl, rfl⟩)
  go_ret
  exact ⟨rfl, rfl⟩
theorem l11Clock_c (x : Int) (w : World) : Calls Tryz.prog 147 #[.int .i64 x] w fun e w' => e = .returned (.bool (isClk x)) ∧ w = w' := by
  go_enter Tryz.func147, Tryz.ntmps147
  go_wp2_with (go_at_call 177; refine (l1In_c _ _ _ _).mono ?_; rintro e w' ⟨rfl, rfl⟩)
  go_ret
  exact ⟨rfl, rfl⟩
theorem isFace_c (x : Int) (w : World) : Calls Tryz.prog 157 #[.int .i64 x] w fun e w' => e = .returned (.bool (isFac x)) ∧ w = w' := by
  go_enter Tryz.func157, Tryz.ntmps157
  go_wp2_with (go_at_call 151; refine (within_c _ _ _ _).mono ?_; rintro e w' ⟨rfl, rfl⟩)
  go_ret
  exact ⟨rfl, rfl⟩

/-- number i of a list is within bounds, and greater than the one before it -/
def risAt (lo hi : Int) (zs : List Int) (i : Nat) : Bool := btw lo (zs.getD i 0) hi && (i == 0 || decide (zs.getD (i - 1) 0 < zs.getD i 0))
def rising (lo hi : Int) (zs : List Int) : Bool := allUpTo (risAt lo hi zs) zs.length
theorem risAt_zero {lo hi : Int} {zs : List Int} (h : 0 < zs.length) : risAt lo hi zs 0 = btw lo zs[0] hi := by simp [risAt, h]
theorem risAt_succ {lo hi : Int} {zs : List Int} {m : Nat} (h : m + 1 < zs.length) : risAt lo hi zs (m + 1) = (btw lo zs[m + 1] hi && decide (zs[m]'(by omega) < zs[m + 1])) := by
  simp [risAt, h, show m < zs.length by omega]
set_option maxHeartbeats 800000 in
theorem areFaces_c (v : Value) (zs : List Int) (F : List Nat) (w : World) (h : Sl EInt w v zs F) :
    Calls Tryz.prog 168 #[v] w fun e w' => e = .returned (.bool (rising 1 7 zs)) ∧ w = w' := by
  obtain ⟨a, cap, rfl⟩ := h.slice
  obtain ⟨-, hl, hc⟩ := h.int
  unfold maxLen at hl
  go_enter Tryz.func168, Tryz.ntmps168
  go_wp2
  go_loop [3, 4, 7] (fun _ _ i => ∃ k : Nat, k ≤ zs.length ∧ i = .int .i64 k ∧ Hid (∀ j, j < k → risAt 1 7 zs j = true)) (fun _ _ i => zs.length - (intOf i).toNat)
  case atStart => exact ⟨0, Nat.zero_le _, rfl, fun j hj => by omega⟩
  case round =>
    obtain ⟨k, hk, rfl, hz⟩ := hrel
    by_cases hlt : k < zs.length
    · obtain ⟨b, off, rfl, c0⟩ := hc k hlt
      rcases k with _ | m
      · have hr := Lib.hid (risAt_zero (lo := 1) (hi := 7) hlt)
        clear hc
        simp only [Nat.add_zero] at c0
        go_wp2_with (go_at_call 157; refine (isFace_c _ _).mono ?_; rintro e w' ⟨rfl, rfl⟩)
        · have t : btw 1 zs[0] 7 = true := by assumption
          exact ⟨⟨1, by omega, by go_num, upto_snoc hz.out (by rw [hr.out, t])⟩, by simp [intOf]; omega⟩
        · have t : ¬ btw 1 zs[0] 7 = true := by assumption
          go_ret
          exact ⟨ret_bool (allUpTo_no hlt (by rw [hr.out]; simpa using t)).symm, rfl⟩
      · obtain ⟨b', off', hb', c1⟩ := hc m (by omega)
        cases hb'
        have hr := Lib.hid (risAt_succ (lo := 1) (hi := 7) hlt)
        clear hc
        go_wp2_with (go_at_call 157; refine (isFace_c _ _).mono ?_; rintro e w' ⟨rfl, rfl⟩)
        · have t : zs[m + 1] ≤ zs[m] := by assumption
          go_ret
          exact ⟨ret_bool (allUpTo_no hlt (by rw [hr.out]; simp; omega)).symm, rfl⟩
        · have t : btw 1 zs[m + 1] 7 = true := by assumption
          have t2 : zs[m] < zs[m + 1] := by assumption
          exact ⟨⟨m + 2, by omega, by go_num, upto_snoc hz.out (by rw [hr.out, t]; simp; omega)⟩, by simp [intOf]; omega⟩
        · have t : ¬ btw 1 zs[m + 1] 7 = true := by assumption
          go_ret
          exact ⟨ret_bool (allUpTo_no hlt (by rw [hr.out]; simp [t])).symm, rfl⟩
    · go_wp2
      go_ret
      exact ⟨ret_bool (allUpTo_yes (fun i hi => hz.out i (by omega))).symm, rfl⟩
set_option maxHeartbeats 800000 in
theorem l1Rising_c (v : Value) (zs : List Int) (F : List Nat) (lo hi : Int) (w : World) (h : Sl EInt w v zs F) :
    Calls Tryz.prog 245 #[v, .int .i64 lo, .int .i64 hi] w fun e w' => e = .returned (.bool (rising lo hi zs)) ∧ Below w.heap.size w w' := by
  obtain ⟨a, cap, rfl⟩ := h.slice
  obtain ⟨-, hl, -⟩ := h.int
  unfold maxLen at hl
  go_enter Tryz.func245, Tryz.ntmps245
  go_wp2
  go_loopw [7] (fun i wr => ∃ k : Nat, k ≤ zs.length ∧ i = .int .i64 k ∧ Hid (∀ j, j < k → risAt lo hi zs j = true) ∧ Below w.heap.size w wr) (fun i _ => zs.length - (intOf i).toNat)
  case atStart => exact ⟨0, Nat.zero_le _, rfl, fun j hj => by omega, Below.refl _ _⟩
  case round =>
    obtain ⟨k, hk, rfl, hz, hB⟩ := hrel
    have hc := (h.below (by decide) hB).int.2.2
    by_cases hlt : k < zs.length
    · obtain ⟨b, off, rfl, c0⟩ := hc k hlt
      rcases k with _ | m
      · have hr := Lib.hid (risAt_zero (lo := lo) (hi := hi) hlt)
        clear hc
        simp only [Nat.add_zero] at c0
        cases t : btw lo zs[0] hi
        · go_wp2_with fail
          go_quiet ((go_at_call 177; exact quiet_eq (l1In_c _ _ _ _)))
          go_wp2_with fail
          go_ret
          exact ⟨ret_bool (allUpTo_no hlt (by rw [hr.out, t])).symm, belowDrewN hB _⟩
        · go_wp2_with fail
          go_quiet ((go_at_call 177; exact quiet_eq (l1In_c _ _ _ _)))
          go_wp2_with fail
          exact ⟨⟨1, by omega, by go_num, upto_snoc hz.out (by rw [hr.out, t]), belowDrewN hB _⟩, by simp [intOf]; omega⟩
      · obtain ⟨b', off', hb', c1⟩ := hc m (by omega)
        cases hb'
        have hr := Lib.hid (risAt_succ (lo := lo) (hi := hi) hlt)
        clear hc
        cases t : btw lo zs[m + 1] hi
        · go_wp2_with fail
          go_quiet ((go_at_call 177; exact quiet_eq (l1In_c _ _ _ _)))
          go_wp2_with fail
          go_ret
          exact ⟨ret_bool (allUpTo_no hlt (by rw [hr.out, t]; rfl)).symm, belowDrewN hB _⟩
        · by_cases t2 : zs[m] < zs[m + 1]
          · go_wp2_with fail
            go_quiet ((go_at_call 177; exact quiet_eq (l1In_c _ _ _ _)))
            go_wp2_with fail
            exact ⟨⟨m + 2, by omega, by go_num, upto_snoc hz.out (by rw [hr.out, t]; simpa using t2), belowDrewN hB _⟩, by simp [intOf]; omega⟩
          · have t3 : zs[m + 1] ≤ zs[m] := by omega
            go_wp2_with fail
            go_quiet ((go_at_call 177; exact quiet_eq (l1In_c _ _ _ _)))
            go_wp2_with fail
            go_ret
            exact ⟨ret_bool (allUpTo_no hlt (by rw [hr.out]; simp; omega)).symm, belowDrewN hB _⟩
    · go_wp2
      go_ret
      exact ⟨ret_bool (allUpTo_yes (fun i hi => hz.out i (by omega))).symm, hB⟩
theorem l14Faces_c (v : Value) (zs : List Int) (F : List Nat) (w : World) (h : Sl EInt w v zs F) :
    Calls Tryz.prog 176 #[v] w fun e w' => e = .returned (.bool (rising 1 7 zs)) ∧ Below w.heap.size w w' := by
  go_enter Tryz.func176, Tryz.ntmps176
  go_wp2_with (go_at_call 245; refine (l1Rising_c _ zs F _ _ _ h).mono ?_; rintro e w' ⟨rfl, hb1⟩)
  go_ret
  exact ⟨rfl, hb1⟩
end Go.Proofs.YtgogcgkocjpgoaaGreatDoor
/- Walks of Go's generic library functions on slices of impl.Entry. Written by wip/genlib.py. -/
namespace Go.Proofs.YtgogcgkocjpgoaaGreatDoor
open Go.RowKit
set_option maxRecDepth 100000 in
set_option maxHeartbeats 800000 in
theorem IndexFunc_Entry (fid : FuncId) (hbd : Body Tryz.prog fid) (caps : Array Value) (v : Value) (xs : List Entry) (F : List Nat) (p : Entry → Bool) (w : World) (h : Sl EEntry w v xs F)
    (hp : ∀ (k : Nat) (hk : k < xs.length) (wr : World) (u : Value) (G : List Nat), Below w.heap.size w wr → IsV EEntry wr u xs[k] G → Calls Tryz.prog fid (#[u] ++ caps) wr fun e w' => e = .returned (.bool (p xs[k])) ∧ Below wr.heap.size wr w') :
    Calls Tryz.prog 238 #[v, .func (.func fid) #[] caps] w fun e w' => e = .returned (.int .i64 (fidx p xs)) ∧ Below w.heap.size w w' := by
  obtain ⟨a, cap, rfl⟩ := h.slice
  have hl := h.len
  unfold maxLen at hl
  go_enter Tryz.func238, Tryz.ntmps238
  go_wp2
  go_loopw [5, 8] (fun _ i wr => ∃ k : Nat, k ≤ xs.length ∧ i = .int .i64 k ∧ Hid (∀ j, j < k → ∀ hj : j < xs.length, p xs[j] = false) ∧ Below w.heap.size w wr) (fun _ i _ => xs.length - (intOf i).toNat)
  case atStart => exact ⟨0, Nat.zero_le _, rfl, fun j hj => by omega, Below.refl _ _⟩
  case round =>
    obtain ⟨k, hk, rfl, hz, hB⟩ := hrel
    by_cases hlt : k < xs.length
    · have hz0 := hz; clear hz
      obtain ⟨b, off, _, F1, rfl, hx, -, ja⟩ := (h.below (by decide) hB).at k hlt
      obtain ⟨v1, rfl, h1⟩ := id hx
      have a0 := ja 0 (by decide)
      have a1 := ja 1 (by decide)
      have a2 := ja 2 (by decide)
      simp only [show EEntry.sz = 3 from rfl, Nat.mul_one, Nat.add_zero, List.getElem?_cons_zero, List.getElem?_cons_succ] at a0 a1 a2
      clear ja
      have hr := hp k hlt wr _ F1 hB ⟨_, rfl, hx⟩
      have hp := Lib.hid hp
      cases hpk : p xs[k]
      all_goals
        rw [hpk] at hr
        have hpk := Lib.hid hpk
        have hr := Lib.hid hr
        go_wp2_with fail
        refine hbd.upon hr.out ?_
        rintro e w1 ⟨rfl, hb1⟩
        refine ⟨_, rfl, ?_⟩
        have hB := tr hB hb1 (Nat.le_refl _)
        clear hb1
        go_wp2_with fail
      · exact ⟨⟨k + 1, by omega, by go_num, fun j hj hl => by rcases Nat.lt_or_eq_of_le (Nat.le_of_lt_succ hj) with h | h; exact hz0.out j h hl; subst h; exact hpk.out, hB⟩, by simp [intOf]; omega⟩
      · go_ret
        exact ⟨ret_int (fidx_hit hlt hz0.out hpk.out).symm, hB⟩
    · go_wp2
      go_ret
      exact ⟨ret_int (fidx_none (fun j hj => hz.out j (by omega) hj)).symm, hB⟩
set_option maxRecDepth 100000 in
theorem ContainsFunc_Entry (fid : FuncId) (hbd : Body Tryz.prog fid) (caps : Array Value) (v : Value) (xs : List Entry) (F : List Nat) (p : Entry → Bool) (w : World) (h : Sl EEntry w v xs F)
    (hp : ∀ (k : Nat) (hk : k < xs.length) (wr : World) (u : Value) (G : List Nat), Below w.heap.size w wr → IsV EEntry wr u xs[k] G → Calls Tryz.prog fid (#[u] ++ caps) wr fun e w' => e = .returned (.bool (p xs[k])) ∧ Below wr.heap.size wr w') :
    Calls Tryz.prog 169 #[v, .func (.func fid) #[] caps] w fun e w' => e = .returned (.bool (xs.any p)) ∧ Below w.heap.size w w' := by
  have hp := Lib.hid hp
  go_enter Tryz.func169, Tryz.ntmps169
  go_wp2_with fail
  refine (IndexFunc_Entry fid hbd caps v xs F p _ h hp.out).mono ?_
  rintro e w1 ⟨rfl, hb1⟩
  go_wp2_with fail
  go_ret
  exact ⟨ret_bool (fidx_any p xs), hb1⟩
set_option maxRecDepth 100000 in
theorem Clone_Entry (v : Value) (xs : List Entry) (F : List Nat) (w : World) (h : Sl EEntry w v xs F) (hm : xs.length ≤ 4294967296) :
    Calls Tryz.prog 179 #[v] w fun e w' => ∃ v' F', e = .returned v' ∧ Ow EEntry 115 w' v' xs F' ∧ Hd F' ∧ (∀ b, v'.ownBlock = some b → w.heap.size ≤ b) ∧ (∀ b ∈ F', v'.ownBlock = some b ∨ b ∈ F) ∧ Below w.heap.size w w' := by
  obtain ⟨ao, c, news, Fy, rfl, hl, hfy, hFy, hsrc⟩ := h.src
  have hFl := hfy.lt
  have he := fun w (a : Option Addr) (n c : Nat) => Lib.run_eql_slice_nil (P := Tryz.prog) w 24 _ a n c 0 0 Tryz.underlying24
  go_enter Tryz.func179, Tryz.ntmps179
  rcases hsrc with ⟨rfl, rfl, rfl⟩ | ⟨ad, rfl, hn⟩
  · go_wp2
    go_ret
    exact ⟨.slice none 0 0, [], rfl, .inl ⟨rfl, rfl, rfl⟩, Hd.nil, (fun b e => by simp [Value.ownBlock] at e), by simp, Below.refl _ _⟩
  · go_wp2_with (at_builtin; refine wpList_apd one_EEntry (by decide) (by rfl) _ _ _ (by rfl) 115 (.agg #[.int .i64 0, .slice none 0 0, .int .i64 0]) 40 Tryz.underlying24 info_Entry rfl (.slice (some ⟨w.heap.size, 0, none⟩) 0 0) [] [w.heap.size] (by rfl) (Ow.empty (Row.made _ _ _)) (Hd.one _) (some ad) xs c (by rfl) news Fy (hfy.frame fun b hb => Below.heap_alloc _ _ _ (hFl b hb)) (.inr ⟨ad, rfl, fun j u hu => kc ((Below.refl _ _).alloc (Nat.le_refl _) _) (hn j u hu)⟩) (fun b hb e => by have := hFl b hb; simp [Value.ownBlock] at e; omega) (by simpa using hl) (by unfold maxLen at hl; simp; omega) ?_)
    intro v2 w2 F2 hA
    go_wp2_with fail
    go_ret
    have hB : Below w.heap.size w w2 := ((Below.refl _ _).alloc (Nat.le_refl _) _).trans (hA.keep.below (by simp) (by simp))
    have hs : ∀ b, v2.ownBlock = some b → w.heap.size ≤ b := fun b hb => by rcases hA.same with e | e <;> rw [e] at hb <;> simp [Value.ownBlock] at hb <;> omega
    refine ⟨v2, F2, rfl, by simpa using hA.ow, hA.hd, hs, fun b hb => ?_, hB⟩
    rw [hA.form [] (by simp [Value.ownBlock])] at hb
    simp at hb
    rcases hb with hb | hb
    · exact .inl hb
    · exact .inr (hFy b hb)
set_option maxRecDepth 100000 in
set_option maxHeartbeats 1600000 in
theorem DeleteFunc_Entry (fid : FuncId) (hbd : Body Tryz.prog fid) (caps : Array Value) (v : Value) (xs : List Entry) (F : List Nat) (p : Entry → Bool) (w : World) (h : Ow OEntry 115 w v xs F) (hn : F.Nodup)
    (hp : ∀ (k : Nat) (hk : k < xs.length) (wr : World) (u : Value) (G : List Nat), Keep F w wr → IsV EEntry wr u xs[k] G → Calls Tryz.prog fid (#[u] ++ caps) wr fun e w' => e = .returned (.bool (p xs[k])) ∧ Below wr.heap.size wr w') :
    Calls Tryz.prog 181 #[v, .func (.func fid) #[] caps] w fun e w' => ∃ v' F', e = .returned v' ∧ Ow OEntry 115 w' v' (xs.filter fun x => !p x) F' ∧ F'.Nodup ∧ (∀ b ∈ F', b ∈ F) ∧ Keep F w w' := by
  obtain ⟨F1, hF1, hs⟩ := h.sl weak_Entry
  obtain ⟨a, cap, rfl⟩ := h.slice
  have hl := h.len
  unfold maxLen at hl
  have hp := Lib.hid hp
  go_enter Tryz.func181, Tryz.ntmps181
  go_wp2_with fail
  refine (IndexFunc_Entry fid hbd caps _ xs F1 p _ hs (fun k hk wr u G hb hu => hp.out k hk wr u G (Keep.ofBelow hb) hu)).mono ?_
  rintro e w1 ⟨rfl, hb1⟩
  have hK1 := Keep.ofBelow (F := F) hb1
  by_cases hany : xs.any p = true
  · obtain ⟨k0, hk0, hfx, hpk, hfl⟩ := fidx_some hany
    rw [hfx]
    obtain ⟨g, rfl, -, hg0⟩ := Gap.start (h.below hb1) hn (ys := xs.take k0) (zs := xs[k0] :: xs.drop (k0 + 1)) (by simp) (by omega)
    obtain ⟨F0, hg0, hF0⟩ := hg0.skip
    have hG0 := Lib.hid hg0
    clear hg0
    have hk1 : ((k0 : Int) == -1) = false := by simp
    go_wp2_with fail
    go_loopw [5, 6, 7] (fun i j _ wr => ∃ (q m : Nat) (F1 : List Nat), q ≤ xs.length ∧ 0 < m ∧ ((xs.take q).filter fun x => !p x).length + m = q ∧ i = .int .i64 ((xs.take q).filter fun x => !p x).length ∧ j = .int .i64 q ∧ Hid (Gap OEntry 115 wr g xs.length cap ((xs.take q).filter fun x => !p x) m (xs.drop q) F1) ∧ (∀ b ∈ F1, b ∈ F) ∧ Keep F w wr) (fun _ j _ _ => xs.length - (intOf j).toNat)
    case atStart => exact ⟨k0 + 1, 1, F0, hk0, by omega, by rw [filter_take_no hk0 (by simp [hpk]), hfl]; simp; omega, by rw [filter_take_no hk0 (by simp [hpk]), hfl]; simp; omega, by go_num, by rw [filter_take_no hk0 (by simp [hpk]), hfl]; exact hG0, hF0, hK1⟩
    case round =>
      obtain ⟨q, m, F1, hq, hm, hlen, rfl, rfl, hG, hF1, hK⟩ := hrel
      obtain ⟨-, hcap, -⟩ := hG.out.caps
      generalize hys : ((xs.take q).filter fun x => !p x) = ys at *
      by_cases hlt : q < xs.length
      · rw [List.drop_eq_getElem_cons hlt] at hG
        obtain ⟨c, Fx, hx, hFx, hcell⟩ := hG.out.first
        obtain ⟨Fx2, -, hxe⟩ := weak_Entry.rep hx
        obtain ⟨v1, rfl, h1⟩ := id hx
        obtain ⟨d1, p1, rfl⟩ := h1.slice
        have a0 := hcell 0 (by decide)
        have a1 := hcell 1 (by decide)
        have a2 := hcell 2 (by decide)
        simp only [hlen, show OEntry.sz = 3 from rfl, Nat.mul_one, Nat.add_zero, List.getElem?_cons_zero, List.getElem?_cons_succ] at a0 a1 a2
        have hr := fun A => hp.out q hlt (wr.alloc A) _ Fx2 (hK.alloc A) ⟨_, rfl, EEntry.below hxe ((Below.refl wr.heap.size wr).alloc (Nat.le_refl _) A)⟩
        cases hpq : p xs[q]
        · obtain ⟨st, c2, Fx3, hx3, -, hcell2, back⟩ := hG.out.move hm
          simp only [hpq] at hr
          obtain rfl := same_cells (OEntry.len hx) (OEntry.len hx3) hcell hcell2
          have st := st
          obtain ⟨⟨x0, z0⟩, g0⟩ := st 0 (by decide)
          obtain ⟨⟨x1, z1⟩, g1⟩ := st 1 (by decide)
          obtain ⟨⟨x2, z2⟩, g2⟩ := st 2 (by decide)
          simp only [show OEntry.sz = 3 from rfl, Nat.mul_one, Nat.add_zero] at z0 g0 z1 g1 z2 g2
          have hr := Lib.hid hr; have hbk := Lib.hid back; have hpq := Lib.hid hpq; have hys := Lib.hid hys; have hlen := Lib.hid hlen
          have hyl : ys.length < xs.length := by have := hlen.out; omega
          clear hx hxe hcell hcell2 hx3 back st hfx hpk hfl
          go_wp2_with fail
          refine hbd.upon (hr.out _) ?_
          rintro e w2 ⟨rfl, hb2⟩
          refine ⟨_, rfl, ?_⟩
          have b2 := (Row.below (g := wr.heap.size) (t := 115) (cs := [.int .i64 xs[q].number, .slice d1 xs[q].faces.length p1, .int .i64 xs[q].untl]) (by simp [row_alloc]) hb2).cells
          have hbb := tr ((Below.refl wr.heap.size wr).alloc (Nat.le_refl _) _) hb2 (Nat.le_refl _)
          clear hb2
          have g0 := (kf hbb z0).trans g0; have z0 := kc hbb z0
          have g1 := (kf hbb z1).trans g1; have z1 := kc hbb z1
          have g2 := (kf hbb z2).trans g2; have z2 := kc hbb z2
          obtain ⟨F2, hg2, hF2⟩ := hbk.out w2 hbb
          simp only [putCells, show OEntry.sz = 3 from rfl, Nat.mul_one] at hg2
          have hg2 := Lib.hid hg2
          have hgF : g ∈ F := hF1 g hG.out.caps.2.2.2.2.1
          go_wp2_with fail
          exact ⟨⟨q + 1, m, F2, by omega, hm, by rw [filter_take_yes hlt (by simp [hpq.out]), hys.out]; have := hlen.out; simp; omega, by rw [filter_take_yes hlt (by simp [hpq.out]), hys.out, List.length_append]; go_num, by go_num, by rw [filter_take_yes hlt (by simp [hpq.out]), hys.out]; exact hg2.out, fun b hb => hF1 b (hF2 b hb), by (repeat (refine Keep.setCell ?_ hgF _)); exact hK.trans (Keep.ofBelow hbb)⟩, by simp [intOf]; omega⟩
        · obtain ⟨F2, hg2, hF2⟩ := hG.out.skip
          simp only [hpq] at hr
          have hr := Lib.hid hr; have hg2 := Lib.hid hg2; have hpq := Lib.hid hpq; have hys := Lib.hid hys; have hlen := Lib.hid hlen
          clear hx hxe hcell hfx hpk hfl
          go_wp2_with fail
          refine hbd.upon (hr.out _) ?_
          rintro e w2 ⟨rfl, hb2⟩
          refine ⟨_, rfl, ?_⟩
          have hbb := tr ((Below.refl wr.heap.size wr).alloc (Nat.le_refl _) _) hb2 (Nat.le_refl _)
          clear hb2
          go_wp2_with fail
          exact ⟨⟨q + 1, m + 1, F2, by omega, by omega, by rw [filter_take_no hlt (by simp [hpq.out]), hys.out]; have := hlen.out; omega, by rw [filter_take_no hlt (by simp [hpq.out]), hys.out], by go_num, by rw [filter_take_no hlt (by simp [hpq.out]), hys.out]; exact hg2.out.below hbb, fun b hb => hF1 b (hF2 b hb), hK.trans (Keep.ofBelow hbb)⟩, by simp [intOf]; omega⟩
      · have hqe : q = xs.length := by omega
        subst hqe
        simp only [List.drop_length, List.take_length] at hG hys
        obtain ⟨hc, F2, ho2, hn2, hF2⟩ := hG.out.done (z := #[.int .i64 0, .slice none 0 0, .int .i64 0]) rfl
        have hmm : xs.length - ys.length = m := by omega
        have hcl := fun ty => run_clear_rows (P := Tryz.prog) wr 24 115 ty (.agg #[.int .i64 0, .slice none 0 0, .int .i64 0]) Tryz.underlying24 (zeroValue_of info_Entry) (by simp [Value.cells, Value.oneCell']) g (ys.length * 3) m (cap - ys.length) hm (fun j hj => (hc j hj).1) (fun j hj => (hc j hj).2)
        have hyl : ys.length < xs.length := by omega
        have hgF : g ∈ F := hF1 g hG.out.caps.2.2.2.2.1
        have hO := Lib.hid ho2; have hlen := Lib.hid hlen; have hys := Lib.hid hys
        clear ho2 hc hfx hpk hfl
        go_wp2_with fail
        go_ret
        refine ⟨_, F2, rfl, by rw [hys.out]; exact hO.out, hn2, fun b hb => hF1 b (hF2 b hb), hK.trans ?_⟩
        rw [← putCells_eq wr]; exact (putCells_keep _ _ _).mono (fun b hb _ => by simp at hb; subst hb; exact hgF)
  · obtain ⟨hfx, hfl⟩ := fidx_all hany
    rw [hfx]
    go_wp2_with fail
    go_ret
    exact ⟨_, F, rfl, by rw [hfl]; exact h.below hb1, hn, fun b hb => hb, hK1⟩
end Go.Proofs.YtgogcgkocjpgoaaGreatDoor
/- Walks: an element is valid. -/
namespace Go.Proofs.YtgogcgkocjpgoaaGreatDoor
open Go.RowKit

def okEntry (c : Int) (x : Entry) : Bool := isSer x.number && (decide (0 < x.faces.length) && (rising 1 7 x.faces && btw (c + 1) x.untl (c + 6)))
/-- entry i is valid, and no earlier one has its number -/
def entAt (c : Int) (es : List Entry) (i : Nat) : Bool := match es[i]? with
  | none => true
  | some x => okEntry c x && !((es.take i).any fun o => o.number == x.number)
theorem entAt_of {c : Int} {es : List Entry} {i : Nat} (h : i < es.length) : entAt c es i = (okEntry c es[i] && !((es.take i).any fun o => o.number == es[i].number)) := by
  simp [entAt, h]
def goodElement (e : Element) : Bool := isClk e.clock && decide (e.entries.length ≤ 5) && allUpTo (entAt e.clock e.entries) e.entries.length
theorem isClk_iff {c : Int} : isClk c = true ↔ 0 ≤ c ∧ c ≤ 9999 := by unfold isClk btw; simp

theorem any_take {es : List Entry} {m k : Nat} {p : Entry → Bool} (h : m < es.length) (hk : m < k) (hp : p es[m] = true) : (es.take k).any p = true := by
  rw [List.any_eq_true]; exact ⟨es[m], List.mem_take_iff_getElem.2 ⟨m, by omega, rfl⟩, hp⟩
theorem any_take_no {es : List Entry} {k : Nat} {n : Int} (h : ∀ q, q < k → ∀ hq : q < es.length, es[q].number ≠ n) : ((es.take k).any fun o => o.number == n) = false := by
  rw [List.any_eq_false]; intro x hx
  obtain ⟨i, hi, rfl⟩ := List.mem_take_iff_getElem.1 hx
  simpa using h i (by omega) (by omega)
theorem wrap_clk {c d : Int} (h : isClk c = true) (h1 : 0 ≤ d) (h2 : d ≤ 100) : wrap64 (c + d) = c + d := by
  have := isClk_iff.1 h; unfold wrap64; omega
theorem good_no {e : Element} {k : Nat} (hk : k < e.entries.length) (h : isClk e.clock = true → entAt e.clock e.entries k = false) : goodElement e = false := by
  unfold goodElement
  cases hc : isClk e.clock
  · rfl
  · rw [allUpTo_no hk (h hc)]; simp
theorem IsValidElement_1_c (x : Entry) (num : Int) (b : Nat) (G : List Nat) (u : Value) (w : World) (h : IsV EEntry w u x G) (hc : w.cell? ⟨b, 0, none⟩ = some (.int .i64 num)) :
    Calls Tryz.prog 170 #[u, .pointer (some ⟨b, 0, none⟩)] w fun e w' => e = .returned (.bool (x.number == num)) ∧ Below w.heap.size w w' := by
  obtain ⟨_, rfl, v1, rfl, -⟩ := h
  have hc1 := fun o : Obj => kc ((Below.refl w.heap.size w).alloc (Nat.le_refl _) o) hc
  go_enter Tryz.func170, Tryz.ntmps170
  go_wp2
  go_ret
  exact ⟨ret_bool rfl, (Below.refl _ _).alloc (Nat.le_refl _) _⟩
set_option maxHeartbeats 1600000 in
theorem IsValidElement_c (v : Value) (e : Element) (F : List Nat) (w : World) (h : IsV EElement w v e F) :
    Calls Tryz.prog 84 #[v] w fun e' w' => e' = .returned (.bool (goodElement e)) ∧ Below w.heap.size w w' := by
  obtain ⟨_, rfl, v1, rfl, h1⟩ := h
  obtain ⟨a, cap, rfl⟩ := h1.slice
  have hl := h1.len
  unfold maxLen at hl
  have hB0 : ∀ A : Obj, Below w.heap.size w (w.alloc A) := fun A => (Below.refl _ _).alloc (Nat.le_refl _) _
  go_enter Tryz.func84, Tryz.ntmps84
  go_wp2
  go_loopw [3, 4, 8] (fun _ _ i wr => ∃ k : Nat, k ≤ e.entries.length ∧ i = .int .i64 k ∧ Hid (isClk e.clock = true → ∀ j, j < k → entAt e.clock e.entries j = true) ∧ Row wr w.heap.size 26 [.int .i64 e.clock, .slice a e.entries.length cap] ∧ Below w.heap.size w wr) (fun _ _ i _ => e.entries.length - (intOf i).toNat)
  case atStart => exact ⟨0, Nat.zero_le _, rfl, fun _ j hj => by omega, by simp [row_alloc], hB0 _⟩
  case round =>
    obtain ⟨k, hk, rfl, hz, hr, hB⟩ := hrel
    have c0 := hr.cells
    by_cases hlt : k < e.entries.length
    · have hz0 := hz; clear hz
      obtain ⟨b, off, _, F1, rfl, hx, -, ja⟩ := (h1.below (by decide) hB).at k hlt
      obtain ⟨u1, rfl, hf⟩ := id hx
      obtain ⟨fa, fc, rfl⟩ := hf.slice
      have a0 := ja 0 (by decide)
      have a1 := ja 1 (by decide)
      have a2 := ja 2 (by decide)
      simp only [show EEntry.sz = 3 from rfl, Nat.mul_one, Nat.add_zero, List.getElem?_cons_zero, List.getElem?_cons_succ] at a0 a1 a2
      clear ja
      have d0 := fun A => (hr.alloc A).cells
      have hf1 := fun A : Obj => hf.below (by decide) ((Below.refl wr.heap.size wr).alloc (Nat.le_refl _) A)
      have hB1 := fun A : Obj => tr hB ((Below.refl wr.heap.size wr).alloc (Nat.le_refl _) A) (Nat.le_refl _)
      have hcp := h1.caps
      by_cases hfe : e.entries[k].faces = []
      · have hE : ((e.entries[k].faces.length : Int) == 0) = true := by simp [hfe]
        have hno := Lib.hid (good_no hlt (fun _ => by rw [entAt_of hlt]; simp [okEntry, hfe]))
        go_wp2_with (first
          | (go_at_call 130; refine (IsSerial_c _ _).mono ?_; rintro e' w' ⟨rfl, rfl⟩)
          | (go_at_call 168; refine (areFaces_c _ _ _ _ (hf1 _)).mono ?_; rintro e' w' ⟨rfl, rfl⟩)
          | (go_at_call 151; refine (within_c _ _ _ _).mono ?_; rintro e' w' ⟨rfl, rfl⟩))
        all_goals go_ret
        all_goals exact ⟨ret_bool hno.out.symm, hB1 _⟩
      · have hE : ((e.entries[k].faces.length : Int) == 0) = false := by simp [hfe]
        have hfe := Lib.hid hfe
        go_wp2_with (first
          | (go_at_call 130; refine (IsSerial_c _ _).mono ?_; rintro e' w' ⟨rfl, rfl⟩)
          | (go_at_call 168; refine (areFaces_c _ _ _ _ (hf1 _)).mono ?_; rintro e' w' ⟨rfl, rfl⟩)
          | (go_at_call 151; refine (within_c _ _ _ _).mono ?_; rintro e' w' ⟨rfl, rfl⟩))
        · have t : (!btw (wrap64 (e.clock + 1)) e.entries[k].untl (wrap64 (e.clock + 6))) = true := by assumption
          go_ret
          refine ⟨ret_bool (good_no hlt fun hc => ?_).symm, hB1 _⟩
          rw [wrap_clk hc (by omega) (by omega), wrap_clk hc (by omega) (by omega)] at t
          rw [entAt_of hlt]; simp only [okEntry]; simp at t; simp [t]
        · have t1 : isSer e.entries[k].number = true := by assumption
          have t2 : rising 1 7 e.entries[k].faces = true := by assumption
          have t : (!btw (wrap64 (e.clock + 1)) e.entries[k].untl (wrap64 (e.clock + 6))) = false := by assumption
          obtain ⟨G, -, hs⟩ := h1.takeS k hk
          refine (ContainsFunc_Entry _ (.mk' Tryz.func170 rfl rfl) _ _ _ _ (fun o => o.number == e.entries[k].number) _ (hs.below (by decide) (hB1 _)) ?_).mono ?_
          · intro j hj w2 u G2 hb2 hu
            exact IsValidElement_1_c _ _ _ _ _ _ hu (kc hb2 (by simp))
          rintro e' w2 ⟨rfl, hb2⟩
          have hr2 := (hr.alloc _).below hb2
          have hB2 := tr (hB1 _) hb2 (Nat.le_refl _)
          have hc2 := hr2.cells
          have hAt := Lib.hid (entAt_of (c := e.clock) hlt)
          cases hany : (e.entries.take k).any fun o => o.number == e.entries[k].number
          · rw [hany] at hAt
            have hany := Lib.hid hany
            go_wp2_with fail
            refine ⟨⟨k + 1, by omega, by go_num, fun hc => upto_snoc (hz0.out hc) ?_, hr2, hB2⟩, by simp [intOf]; omega⟩
            rw [wrap_clk hc (by omega) (by omega), wrap_clk hc (by omega) (by omega)] at t
            rw [hAt.out]; simp only [okEntry, t1, t2]; simp at t; simp [t, List.length_pos_iff, hfe.out]
          · rw [hany] at hAt
            have hany := Lib.hid hany
            go_wp2_with fail
            go_ret
            exact ⟨ret_bool (good_no hlt fun _ => by rw [hAt.out]; simp).symm, hB2⟩
        · have t : ¬rising 1 7 e.entries[k].faces = true := by assumption
          go_ret
          refine ⟨ret_bool (good_no hlt fun hc => ?_).symm, hB1 _⟩
          rw [entAt_of hlt]; simp [okEntry, t]
        · have t : ¬isSer e.entries[k].number = true := by assumption
          go_ret
          refine ⟨ret_bool (good_no hlt fun hc => ?_).symm, hB1 _⟩
          rw [entAt_of hlt]; simp [okEntry, t]
    · have hk : k = e.entries.length := by omega
      subst hk
      have hz0 := hz; clear hz
      cases hck : isClk e.clock
      · have hn := Lib.hid (show goodElement e = false by unfold goodElement; rw [hck]; rfl)
        have hck := Lib.hid hck
        go_wp2_with (go_at_call 132; refine (isClock_c _ _).mono ?_; rintro e' w' ⟨rfl, rfl⟩; rw [hck.out])
        go_ret
        exact ⟨ret_bool hn.out.symm, hB⟩
      · have hn := Lib.hid (show goodElement e = decide ((e.entries.length : Int) ≤ 5) by unfold goodElement; rw [hck, allUpTo_yes (hz0.out hck)]; simp; omega)
        have hck := Lib.hid hck
        go_wp2_with (go_at_call 132; refine (isClock_c _ _).mono ?_; rintro e' w' ⟨rfl, rfl⟩; rw [hck.out])
        go_ret
        exact ⟨ret_bool hn.out.symm, hB⟩
set_option maxHeartbeats 1600000 in
theorem l14Good_c (v : Value) (e : Element) (F : List Nat) (w : World) (h : IsV EElement w v e F) :
    Calls Tryz.prog 89 #[v] w fun e' w' => e' = .returned (.bool (goodElement e)) ∧ Below w.heap.size w w' := by
  obtain ⟨_, rfl, v1, rfl, h1⟩ := h
  obtain ⟨a, cap, rfl⟩ := h1.slice
  have hl := h1.len
  unfold maxLen at hl
  have hB0 : ∀ A : Obj, Below w.heap.size w (w.alloc A) := fun A => (Below.refl _ _).alloc (Nat.le_refl _) _
  go_enter Tryz.func89, Tryz.ntmps89
  cases hck : isClk e.clock
  · have hn := Lib.hid (show goodElement e = false by unfold goodElement; rw [hck]; rfl)
    have hck := Lib.hid hck
    go_wp2_with (go_at_call 147; refine (l11Clock_c _ _).mono ?_; rintro e' w' ⟨rfl, rfl⟩; rw [hck.out])
    go_ret
    exact ⟨ret_bool hn.out.symm, hB0 _⟩
  by_cases h5 : ¬ (e.entries.length : Int) ≤ 5
  · have hn := Lib.hid (show goodElement e = false by unfold goodElement; rw [hck, decide_eq_false (by omega)]; rfl)
    have hck := Lib.hid hck
    go_wp2_with (go_at_call 147; refine (l11Clock_c _ _).mono ?_; rintro e' w' ⟨rfl, rfl⟩; rw [hck.out])
    go_ret
    exact ⟨ret_bool hn.out.symm, hB0 _⟩
  have h5 : (e.entries.length : Int) ≤ 5 := by omega
  have hcb := isClk_iff.1 hck
  have hgood := Lib.hid (show goodElement e = allUpTo (entAt e.clock e.entries) e.entries.length by unfold goodElement; rw [hck, decide_eq_true (by omega)]; rfl)
  have hck := Lib.hid hck
  go_wp2_with (go_at_call 147; refine (l11Clock_c _ _).mono ?_; rintro e' w' ⟨rfl, rfl⟩; rw [hck.out])
  go_loopw [3, 4, 5] (fun i _ _ wr => ∃ k : Nat, k ≤ e.entries.length ∧ i = .int .i64 k ∧ Hid (∀ j, j < k → entAt e.clock e.entries j = true) ∧ Row wr w.heap.size 26 [.int .i64 e.clock, .slice a e.entries.length cap] ∧ Below w.heap.size w wr) (fun i _ _ _ => e.entries.length - (intOf i).toNat)
  case atStart => exact ⟨0, Nat.zero_le _, rfl, fun j hj => by omega, by simp [row_alloc], hB0 _⟩
  case round =>
    obtain ⟨k, hk, rfl, hz, hr, hB⟩ := hrel
    have c0 := hr.cells
    by_cases hlt : k < e.entries.length
    · have hz0 := hz; clear hz
      obtain ⟨b, off, _, F1, rfl, hx, -, ja⟩ := (h1.below (by decide) hB).at k hlt
      obtain ⟨u1, rfl, hf⟩ := id hx
      obtain ⟨fa, fc, rfl⟩ := hf.slice
      have a0 := ja 0 (by decide)
      have a1 := ja 1 (by decide)
      have a2 := ja 2 (by decide)
      simp only [show EEntry.sz = 3 from rfl, Nat.add_zero, List.getElem?_cons_zero, List.getElem?_cons_succ] at a0 a1 a2
      clear ja
      have d0 := fun A => (hr.alloc A).cells
      have hf1 := fun A : Obj => hf.below (by decide) ((Below.refl wr.heap.size wr).alloc (Nat.le_refl _) A)
      have hB1 := fun A : Obj => tr hB ((Below.refl wr.heap.size wr).alloc (Nat.le_refl _) A) (Nat.le_refl _)
      by_cases hfe : e.entries[k].faces = []
      · have hE : ((e.entries[k].faces.length : Int) == 0) = true := by simp [hfe]
        have hno := Lib.hid (good_no hlt (fun _ => by rw [entAt_of hlt]; simp [okEntry, hfe]))
        go_wp2_with (go_at_call 141; refine (l2Good_c _ _).mono ?_; rintro e' w' ⟨rfl, rfl⟩)
        all_goals go_ret
        all_goals exact ⟨ret_bool hno.out.symm, hB1 _⟩
      · have hE : ((e.entries[k].faces.length : Int) == 0) = false := by simp [hfe]
        have hfe := Lib.hid hfe
        go_wp2_with (go_at_call 141; refine (l2Good_c _ _).mono ?_; rintro e' w' ⟨rfl, rfl⟩)
        · have t1 : isSer e.entries[k].number = true := by assumption
          refine (l14Faces_c _ _ _ _ (hf1 _)).mono ?_
          rintro e' w2 ⟨rfl, hb2⟩
          have hr2 := (hr.alloc _).below hb2
          have q2 := Row.below (g := wr.heap.size) (t := 115) (cs := [.int .i64 e.entries[k].number, .slice fa e.entries[k].faces.length fc, .int .i64 e.entries[k].untl]) (by simp [row_alloc]) hb2
          have hB2 := tr (hB1 _) hb2 (Nat.le_refl _)
          have c2 := hr2.cells; have d2 := q2.cells
          clear hb2
          cases t2 : rising 1 7 e.entries[k].faces
          · have hno := Lib.hid (good_no hlt (fun _ => by rw [entAt_of hlt]; simp [okEntry, t2]))
            go_wp2_with fail
            go_ret
            exact ⟨ret_bool hno.out.symm, hB2⟩
          cases t3 : btw (e.clock + 1) e.entries[k].untl (e.clock + 6)
          · have hno := Lib.hid (good_no hlt (fun _ => by rw [entAt_of hlt]; simp [okEntry, t3]))
            have t3 := Lib.hid t3
            go_wp2_with (go_at_call 177; refine (l1In_c _ _ _ _).mono ?_; rintro e' w' ⟨rfl, rfl⟩; rw [t3.out])
            go_ret
            exact ⟨ret_bool hno.out.symm, hB2⟩
          have hAt := Lib.hid (show entAt e.clock e.entries k = !((e.entries.take k).any fun o => o.number == e.entries[k].number) by rw [entAt_of hlt]; simp [okEntry, t1, t2, t3, List.length_pos_iff, hfe.out])
          have t3 := Lib.hid t3
          clear t1 t2 hE hf1 hx
          go_wp2_with (go_at_call 177; refine (l1In_c _ _ _ _).mono ?_; rintro e' w' ⟨rfl, rfl⟩; rw [t3.out])
          go_loopw [5] (fun j wr2 => ∃ m : Nat, m ≤ k ∧ j = .int .i64 m ∧ Hid (∀ q, q < m → ∀ hq : q < e.entries.length, e.entries[q].number ≠ e.entries[k].number) ∧ Row wr2 w.heap.size 26 [.int .i64 e.clock, .slice (some ⟨b, off, none⟩) e.entries.length cap] ∧ Row wr2 wr.heap.size 115 [.int .i64 e.entries[k].number, .slice fa e.entries[k].faces.length fc, .int .i64 e.entries[k].untl] ∧ Below w.heap.size w wr2) (fun j _ => k - (intOf j).toNat)
          case atStart => exact ⟨0, Nat.zero_le _, rfl, fun q hq => by omega, hr2, q2, hB2⟩
          case round =>
            obtain ⟨m, hm, rfl, hy, hr3, q3, hB3⟩ := hrel
            rename_i wr2
            have c3 := hr3.cells; have d3 := q3.cells
            by_cases hlm : m < k
            · have hy0 := hy; clear hy
              obtain ⟨bb, oo, _, F2, he, hx2, -, jb⟩ := (h1.below (by decide) hB3).at m (by omega)
              cases he
              obtain ⟨u2, rfl, -⟩ := hx2
              have b0 := jb 0 (by decide)
              simp only [show EEntry.sz = 3 from rfl, Nat.add_zero, List.getElem?_cons_zero] at b0
              clear jb
              have hmi : m < e.entries.length := by omega
              by_cases hnum : e.entries[m].number = e.entries[k].number
              · have hno := Lib.hid (good_no hlt fun _ => by rw [hAt.out, any_take hmi hlm (by simpa using hnum)]; rfl)
                have hEq : (e.entries[m].number == e.entries[k].number) = true := by simpa using hnum
                go_wp2_with fail
                go_quiet (fail)
                go_wp2_with fail
                go_ret
                exact ⟨ret_bool hno.out.symm, belowDrewN hB3 _⟩
              · have hEq : (e.entries[m].number == e.entries[k].number) = false := by simpa using hnum
                have hnum := Lib.hid hnum
                go_wp2_with fail
                go_quiet (fail)
                go_wp2_with fail
                exact ⟨⟨m + 1, by omega, by go_num, fun q hq hql => by rcases Nat.lt_or_eq_of_le (Nat.le_of_lt_succ hq) with h | h; exact hy0.out q h hql; subst h; exact hnum.out, hr3, q3, belowDrewN hB3 _⟩, by simp [intOf]; omega⟩
            · have hmk : m = k := by omega
              subst hmk
              have hat : entAt e.clock e.entries m = true := by
                rw [hAt.out, any_take_no hy.out]; rfl
              have hat := Lib.hid hat
              have hy0 := hy; clear hy
              go_wp2_with fail
              exact ⟨⟨m + 1, by omega, by go_num, upto_snoc hz0.out hat.out, hr3, hB3⟩, by simp [intOf]; omega⟩
        · have t : ¬isSer e.entries[k].number = true := by assumption
          go_ret
          refine ⟨ret_bool (good_no hlt fun hc => ?_).symm, hB1 _⟩
          rw [entAt_of hlt]; simp [okEntry, t]
    · have hk : k = e.entries.length := by omega
      subst hk
      have hn := Lib.hid (show goodElement e = true by rw [hgood.out, allUpTo_yes hz.out])
      have hz0 := hz; clear hz
      go_wp2_with fail
      go_ret
      exact ⟨ret_bool hn.out.symm, hB⟩
end Go.Proofs.YtgogcgkocjpgoaaGreatDoor
/- Walks of Go's generic library functions on slices of int. Written by wip/genlib.py. -/
namespace Go.Proofs.YtgogcgkocjpgoaaGreatDoor
open Go.RowKit
set_option maxRecDepth 100000 in
theorem Clone_Int (v : Value) (xs : List Int) (F : List Nat) (w : World) (h : Sl EInt w v xs F) (hm : xs.length ≤ 4294967296) :
    Calls Tryz.prog 180 #[v] w (RetNew EInt 3 xs w) := by
  obtain ⟨ao, c, news, Fy, rfl, hl, hfy, hFy, hsrc⟩ := h.src
  have hFl := hfy.lt
  have he := fun w (a : Option Addr) (n c : Nat) => Lib.run_eql_slice_nil (P := Tryz.prog) w 77 _ a n c 0 0 Tryz.underlying77
  go_enter Tryz.func180, Tryz.ntmps180
  rcases hsrc with ⟨rfl, rfl, rfl⟩ | ⟨ad, rfl, hn⟩
  · go_wp2
    go_ret
    exact ⟨.slice none 0 0, [], rfl, .inl ⟨rfl, rfl, rfl⟩, by simp, by simp, Below.refl _ _⟩
  · go_wp2_with (at_builtin; refine wpList_apd one_EInt (by decide) (by rfl) _ _ _ (by rfl) 3 (.int .i64 0) 8 Tryz.underlying77 info_int rfl (.slice (some ⟨w.heap.size, 0, none⟩) 0 0) [] [w.heap.size] (by rfl) (Ow.empty (Row.made _ _ _)) (Hd.one _) (some ad) xs c (by rfl) news Fy (hfy.frame fun b hb => Below.heap_alloc _ _ _ (hFl b hb)) (.inr ⟨ad, rfl, fun j u hu => kc ((Below.refl _ _).alloc (Nat.le_refl _) _) (hn j u hu)⟩) (fun b hb e => by have := hFl b hb; simp [Value.ownBlock] at e; omega) (by simpa using hl) (by unfold maxLen at hl; simp; omega) ?_)
    intro v2 w2 F2 hA
    go_wp2_with fail
    go_ret
    have hB : Below w.heap.size w w2 := ((Below.refl _ _).alloc (Nat.le_refl _) _).trans (hA.keep.below (by simp) (by simp))
    have hs : ∀ b, v2.ownBlock = some b → w.heap.size ≤ b := fun b hb => by rcases hA.same with e | e <;> rw [e] at hb <;> simp [Value.ownBlock] at hb <;> omega
    refine ⟨v2, F2, rfl, by simpa using hA.ow, hA.ow.scal scal_EInt ▸ ?_, fun b hb => ?_, hB⟩
    · cases v2.ownBlock <;> simp
    · rw [hA.ow.scal scal_EInt] at hb; exact hs b (by simpa using hb)

end Go.Proofs.YtgogcgkocjpgoaaGreatDoor
/- Walks of the reference's small functions on slices of numbers. -/
namespace Go.Proofs.YtgogcgkocjpgoaaGreatDoor
open Go.RowKit
theorem l1Own_c (v : Value) (xs : List Int) (F : List Nat) (w : World) (h : Sl EInt w v xs F) (hm : xs.length ≤ 4294967296) :
    Calls Tryz.prog 248 #[v] w (RetNew EInt 3 xs w) := by
  obtain ⟨ao, c, news, Fy, rfl, hl, hfy, hFy, hsrc⟩ := h.src
  have hFl := hfy.lt
  have hsrc2 : (ao = none ∧ c = 0 ∧ xs = []) ∨ ∃ ad, ao = some ad ∧ ∀ j u, news[j]? = some u → (w.alloc (.cells #[] 3)).cell? (ad.add j) = some u := by
    rcases hsrc with h | ⟨ad, h1, h2⟩
    · exact .inl h
    · exact .inr ⟨ad, h1, fun j u hu => kc ((Below.refl _ _).alloc (Nat.le_refl _) _) (h2 j u hu)⟩
  go_enter Tryz.func248, Tryz.ntmps248
  go_wp2_with (at_builtin; refine wpList_apd one_EInt (by decide) (by rfl) _ _ _ (by rfl) 3 (.int .i64 0) 8 Tryz.underlying77 info_int rfl (.slice (some ⟨w.heap.size, 0, none⟩) 0 0) [] [w.heap.size] (by rfl) (Ow.empty (Row.made _ _ _)) (Hd.one _) ao xs c (by rfl) news Fy (hfy.frame fun b hb => Below.heap_alloc _ _ _ (hFl b hb)) hsrc2 (fun b hb e => by have := hFl b hb; simp [Value.ownBlock] at e; omega) (by simpa using hl) (by unfold maxLen at hl; simp; omega) ?_)
  intro v2 w2 F2 hA
  go_wp2_with fail
  go_ret
  have hB : Below w.heap.size w w2 := ((Below.refl _ _).alloc (Nat.le_refl _) _).trans (hA.keep.below (by simp) (by simp))
  have hs : ∀ b, v2.ownBlock = some b → w.heap.size ≤ b := fun b hb => by rcases hA.same with e | e <;> rw [e] at hb <;> simp [Value.ownBlock] at hb <;> omega
  refine ⟨v2, F2, rfl, by simpa using hA.ow, hA.ow.scal scal_EInt ▸ ?_, fun b hb => ?_, hB⟩
  · cases v2.ownBlock <;> simp
  · rw [hA.ow.scal scal_EInt] at hb; exact hs b (by simpa using hb)
end Go.Proofs.YtgogcgkocjpgoaaGreatDoor
/- Walks: copies of an element. -/
namespace Go.Proofs.YtgogcgkocjpgoaaGreatDoor
open Go.RowKit
set_option maxHeartbeats 1600000 in
theorem Element_clone_c (v : Value) (e : Element) (F : List Nat) (w : World) (h : IsV EElement w v e F) (hm : e.entries.length ≤ 4294967296) (hm2 : ∀ x ∈ e.entries, x.faces.length ≤ 4294967296) :
    Calls Tryz.prog 92 #[v] w (RetV OElement e w) := by
  obtain ⟨_, rfl, v1, rfl, h1⟩ := h
  obtain ⟨a, cap, rfl⟩ := h1.slice
  have hl := h1.len
  unfold maxLen at hl
  have hB0 : ∀ A B : Obj, Below w.heap.size w ((w.alloc A).alloc B) := fun A B => ((Below.refl _ _).alloc (Nat.le_refl _) _).alloc (by simp) _
  have hFl := h1.lt (by decide)
  go_enter Tryz.func92, Tryz.ntmps92
  go_wp2_with fail
  refine (Clone_Entry _ e.entries F _ (h1.below (by decide) (hB0 _ _)) hm).mono ?_
  rintro e' w1 ⟨v2, F2, rfl, ho, hd, hs, hF2, hb1⟩
  obtain ⟨a2, cap2, rfl⟩ := ho.slice
  have r0 := Row.below (g := w.heap.size) (t := 26) (cs := [.int .i64 e.clock, .slice a e.entries.length cap]) (by simp [row_alloc] <;> omega) hb1
  have r1 := Row.below (g := w.heap.size + 1) (t := 26) (cs := [.int .i64 0, .slice none 0 0]) (by simp [row_alloc] <;> omega) hb1
  have hB := tr (hB0 _ _) hb1 (Nat.le_refl _)
  have hm1 := Lib.hid (Mix.start (O := OEntry) (R := EEntry) (B1 := w.heap.size) (B0 := w.heap.size + 2) rfl ho (by simpa using hs) (fun b hb => (hF2 b hb).imp id fun hb => hFl b hb) hd)
  have c0 := r0.cells; have f0 := r0.frozens
  have f1 := r1.frozens; have c1 := r1.cells
  clear hb1 ho hs hd hF2
  go_wp2_with fail
  have R0 := r0.set 1 (.slice a2 e.entries.length cap2)
  have R1 := r1.setOther (p := ⟨w.heap.size, 1, none⟩) (by simp) (.slice a2 e.entries.length cap2)
  have M1 := Lib.hid (hm1.out.setFar (p := ⟨w.heap.size, 1, none⟩) (Nat.le_refl _) (by simp) (.slice a2 e.entries.length cap2))
  clear hm1
  go_loopw [3, 11] (fun _ i wr => ∃ k : Nat, k ≤ e.entries.length ∧ i = .int .i64 k ∧ Hid (Mix OEntry EEntry 115 w.heap.size (w.heap.size + 2) wr (.slice a2 e.entries.length cap2) e.entries k) ∧ Row wr w.heap.size 26 [.int .i64 e.clock, .slice a2 e.entries.length cap2] ∧ Row wr (w.heap.size + 1) 26 [.int .i64 0, .slice none 0 0] ∧ Below w.heap.size w wr) (fun _ i _ => e.entries.length - (intOf i).toNat)
  case atStart => exact ⟨0, Nat.zero_le _, rfl, M1, by simpa using R0, R1, hB.setCell (Nat.le_refl _) _⟩
  case round =>
    obtain ⟨k, hk, rfl, hM, hr, hr1, hB⟩ := hrel
    have c0 := hr.cells; have f0 := hr.frozens
    have hsz := hr1.lt
    by_cases hlt : k < e.entries.length
    · obtain ⟨g, cap3, A, c, B, Fk, hv, hg, hrow, hA, hcl, hx, -, back⟩ := hM.out.at rfl hlt (by omega) (by omega)
      cases hv
      obtain ⟨u1, rfl, hf⟩ := id hx
      obtain ⟨fa, fc, rfl⟩ := hf.slice
      have a1 := hrow.cellMid (p := k * 3 + 1) (j := 1) (by rw [hA]; rfl) (by simp)
      simp only [List.getElem?_cons_zero, List.getElem?_cons_succ] at a1
      have hne : ¬ g = w.heap.size := by omega
      have hne2 : ¬ w.heap.size = g := by omega
      have hbk := Lib.hid back
      clear back
      have hfl := hm2 e.entries[k] (List.getElem_mem _)
      go_wp2_with fail
      go_region_law (first | (go_simp; go_at_call 180; refine (Clone_Int _ e.entries[k].faces Fk wr.drew (hf.frame fun _ _ => rfl) hfl).mono ?_; rintro e' w2 ⟨v3, F3, rfl, o3, n3, g3, hb2⟩; obtain ⟨d3, p3, rfl⟩ := o3.slice; have z3 := kc hb2 (show wr.drew.cell? ⟨w.heap.size, 1, none⟩ = some (.slice (some ⟨g, 0, none⟩) e.entries.length cap2) by simpa using c0 1); have z1 := kc hb2 (by simpa using a1); have zf := ((show Row wr.drew g 115 _ from hrow).below hb2).frozens (k * 3 + 1)))
      all_goals
        have hr2 := ((show Row wr.drew w.heap.size 26 _ from hr).below hb2).setOther (p := ⟨g, k * 3 + 1, none⟩) hne (.slice d3 e.entries[k].faces.length p3)
        have hr3 := ((show Row wr.drew (w.heap.size + 1) 26 _ from hr1).below hb2).setOther (p := ⟨g, k * 3 + 1, none⟩) (by simp; omega) (.slice d3 e.entries[k].faces.length p3)
        have hro := ((show Row wr.drew g 115 _ from hrow).below hb2).setMid (p := k * 3 + 1) (j := 1) (by rw [hA]; rfl) (by simp) (.slice d3 e.entries[k].faces.length p3)
        have hg3 : ∀ b ∈ F3, wr.heap.size ≤ b := g3
        have hgs := hrow.lt
        have hMk := Lib.hid (hbk.out _ _ F3 hro ⟨_, rfl, o3.setFar (fun hm => by have := hg3 _ hm; simp at this; omega) _⟩ n3 hg3 (fun b hb hbg => (Below.heap_setCell _ _ _ _ hbg).trans (hb2.block b hb)))
        have hB3 : Below w.heap.size w (w2.setCell ⟨g, k * 3 + 1, none⟩ (.slice d3 e.entries[k].faces.length p3)) := (tr (belowDrewN hB 1) hb2 (Nat.le_refl _)).setCell (by simp; omega) _
        go_wp2_with fail
        exact ⟨⟨k + 1, by omega, by go_num, hMk, hr2, hr3, hB3⟩, by simp [intOf]; omega⟩
    · have hk : k = e.entries.length := by omega
      subst hk
      obtain ⟨F4, o4, n4, g4⟩ := hM.out.done
      have O4 := Lib.hid o4
      clear hM o4
      have d1 := hr1.cells; have fd := hr1.frozens
      go_wp2_with fail
      refine bodyPost_ret (v := .agg #[.int .i64 e.clock, .slice a2 e.entries.length cap2]) ?_ rfl ?_
      · simp [results, Tryz.results92, go_sem, c0, d1, fd]
      · refine ⟨_, F4, rfl, ⟨_, rfl, _, rfl, ?_⟩, n4, fun b hb => by have := g4 b hb; omega, ?_⟩
        · repeat refine Ow.setFar ?_ (fun hm => by have := g4 _ hm; simp at this <;> omega) _
          exact O4.out
        · repeat refine Below.setCell ?_ (by simp <;> omega) _
          exact hB
end Go.Proofs.YtgogcgkocjpgoaaGreatDoor
/- Walks: the reference's copy of an element. -/
namespace Go.Proofs.YtgogcgkocjpgoaaGreatDoor
open Go.RowKit
set_option maxHeartbeats 1600000 in
theorem l14Own_c (v : Value) (e : Element) (F : List Nat) (w : World) (h : IsV EElement w v e F) (hm : e.entries.length ≤ 4294967296) (hm2 : ∀ x ∈ e.entries, x.faces.length ≤ 4294967296) :
    Calls Tryz.prog 187 #[v] w (RetV OElement e w) := by
  obtain ⟨_, rfl, v1, rfl, h1⟩ := h
  obtain ⟨a, cap, rfl⟩ := h1.slice
  have hl := h1.len
  unfold maxLen at hl
  have hB0 : ∀ A B C : Obj, Below w.heap.size w (((w.alloc A).alloc B).alloc C) := fun A B C => (((Below.refl _ _).alloc (Nat.le_refl _) _).alloc (by simp) _).alloc (by simp <;> omega) _
  go_enter Tryz.func187, Tryz.ntmps187
  go_wp2_with fail
  go_loopw [4, 5] (fun i _ wr => ∃ k : Nat, k ≤ e.entries.length ∧ i = .int .i64 k ∧ ∃ oa oc F, Hid (Ow OEntry 115 wr (.slice oa k oc) (e.entries.take k) F) ∧ F.Nodup ∧ (∀ b ∈ F, w.heap.size + 1 + 1 < b) ∧
    Row wr w.heap.size 26 [.int .i64 e.clock, .slice a e.entries.length cap] ∧ Row wr (w.heap.size + 1) 26 [.int .i64 0, .slice none 0 0] ∧ Row wr (w.heap.size + 1 + 1) 26 [.int .i64 e.clock, .slice oa k oc] ∧ Below w.heap.size w wr) (fun i _ _ => e.entries.length - (intOf i).toNat)
  case atStart => exact ⟨0, Nat.zero_le _, rfl, none, 0, [], Lib.hid (.inl ⟨rfl, by simp, rfl⟩), by simp, by simp, by simp [row_alloc] <;> omega, by simp [row_alloc] <;> omega, by simp [row_alloc] <;> omega, hB0 _ _ _⟩
  case round =>
    obtain ⟨k, hk, rfl, oa, oc, F2, ho, hn2, hF2, hr, hr1, hr2, hB⟩ := hrel
    have c0 := hr.cells
    have hsz := hr2.lt
    by_cases hlt : k < e.entries.length
    · obtain ⟨b, off, _, F1, rfl, hx, -, ja⟩ := (h1.below (by decide) hB).at k hlt
      obtain ⟨u1, rfl, hf⟩ := id hx
      obtain ⟨fa, fc, rfl⟩ := hf.slice
      have a0 := ja 0 (by decide)
      have a1 := ja 1 (by decide)
      have a2 := ja 2 (by decide)
      simp only [show EEntry.sz = 3 from rfl, Nat.add_zero, List.getElem?_cons_zero, List.getElem?_cons_succ] at a0 a1 a2
      clear ja
      have hfl := hm2 e.entries[k] (List.getElem_mem _)
      have hAl := fun A : Obj => (Below.refl wr.heap.size wr).alloc (Nat.le_refl _) A
      have hB1 := fun A : Obj => tr hB (hAl A) (Nat.le_refl _)
      have hlF := ho.out.lt
      go_wp2_with fail
      have H0 := hr.alloc (.cells #[.int .i64 e.entries[k].number, .slice fa e.entries[k].faces.length fc, .int .i64 e.entries[k].untl] 115)
      have H1 := hr1.alloc (.cells #[.int .i64 e.entries[k].number, .slice fa e.entries[k].faces.length fc, .int .i64 e.entries[k].untl] 115)
      have H2 := hr2.alloc (.cells #[.int .i64 e.entries[k].number, .slice fa e.entries[k].faces.length fc, .int .i64 e.entries[k].untl] 115)
      have Q := Row.made wr 115 [.int .i64 e.entries[k].number, .slice fa e.entries[k].faces.length fc, .int .i64 e.entries[k].untl]
      have O1 := Lib.hid (ho.out.below (hAl (.cells #[.int .i64 e.entries[k].number, .slice fa e.entries[k].faces.length fc, .int .i64 e.entries[k].untl] 115)))
      have hf1 := hf.below (by decide) (hAl (.cells #[.int .i64 e.entries[k].number, .slice fa e.entries[k].faces.length fc, .int .i64 e.entries[k].untl] 115))
      have hB2 := hB1 (.cells #[.int .i64 e.entries[k].number, .slice fa e.entries[k].faces.length fc, .int .i64 e.entries[k].untl] 115)
      have hs1 : wr.heap.size < (wr.alloc (.cells #[.int .i64 e.entries[k].number, .slice fa e.entries[k].faces.length fc, .int .i64 e.entries[k].untl] 115)).heap.size := by simp
      generalize wr.alloc (.cells #[.int .i64 e.entries[k].number, .slice fa e.entries[k].faces.length fc, .int .i64 e.entries[k].untl] 115) = w1 at *
      have q0 := Q.cells; have t1 := H2.cells 1
      simp only [List.getElem?_cons_zero, List.getElem?_cons_succ] at t1
      have hown := O1.out.own_mem
      have hne : ¬ wr.heap.size = w.heap.size + 1 + 1 := by omega
      have hne2 : ¬ w.heap.size + 1 + 1 = wr.heap.size := by omega
      have htl : (e.entries.take k).length = k := by simp; omega
      have hks : k + 1 ≤ 4294967296 := by omega
      clear hr hr1 hr2 hx hf ho hAl hB1 c0 a0 a1 a2
      have hS0 : (fun w' => w'.cell? ⟨wr.heap.size, 0, none⟩ = some (.int .i64 e.entries[k].number) ∧ w'.cell? ⟨wr.heap.size, 1, none⟩ = some (.slice fa e.entries[k].faces.length fc) ∧ w'.cell? ⟨wr.heap.size, 2, none⟩ = some (.int .i64 e.entries[k].untl) ∧ w'.cell? ⟨w.heap.size + 1 + 1, 1, none⟩ = some (.slice oa k oc)) w1.drew := ⟨by simpa using q0 0, by simpa using q0 1, by simpa using q0 2, t1⟩
      refine AnyX.start (S := (fun w' => w'.cell? ⟨wr.heap.size, 0, none⟩ = some (.int .i64 e.entries[k].number) ∧ w'.cell? ⟨wr.heap.size, 1, none⟩ = some (.slice fa e.entries[k].faces.length fc) ∧ w'.cell? ⟨wr.heap.size, 2, none⟩ = some (.int .i64 e.entries[k].untl) ∧ w'.cell? ⟨w.heap.size + 1 + 1, 1, none⟩ = some (.slice oa k oc))) (X := fun i => i == 13) (by kernel_rfl) ?_
      refine AnyX.take (i := 0) (oi := _) (v := ?_) rfl (by kernel_rfl) (by kernel_rfl) (by kernel_rfl) (by kernel_rfl) (by kernel_rfl) (fun _ _ _ h => h) (Or.inl ⟨by rfl, ?_⟩) (by assumption) ?_
      rotate_left
      · (intro wS hSw; (try dsimp only at hSw); go_simp; try with_reducible rfl)
      try simp only [Act.put, List.setIfInBounds_toArray, List.set_cons_zero, List.set_cons_succ]
      refine AnyX.take (i := 1) (oi := _) (v := ?_) rfl (by kernel_rfl) (by kernel_rfl) (by kernel_rfl) (by kernel_rfl) (by kernel_rfl) (fun _ _ _ h => h) (Or.inl ⟨by rfl, ?_⟩) (by assumption) ?_
      rotate_left
      · (intro wS hSw; (try dsimp only at hSw); go_simp; try with_reducible rfl)
      try simp only [Act.put, List.setIfInBounds_toArray, List.set_cons_zero, List.set_cons_succ]
      refine AnyX.take (i := 2) (oi := _) (v := ?_) rfl (by kernel_rfl) (by kernel_rfl) (by kernel_rfl) (by kernel_rfl) (by kernel_rfl) (fun _ _ _ h => h) (Or.inl ⟨by rfl, ?_⟩) (by assumption) ?_
      rotate_left
      · (intro wS hSw; (try dsimp only at hSw); go_simp; try with_reducible rfl)
      try simp only [Act.put, List.setIfInBounds_toArray, List.set_cons_zero, List.set_cons_succ]
      refine AnyX.take (i := 3) (oi := _) (v := ?_) rfl (by kernel_rfl) (by kernel_rfl) (by kernel_rfl) (by kernel_rfl) (by kernel_rfl) (fun _ _ _ h => h) (Or.inl ⟨by rfl, ?_⟩) (by assumption) ?_
      rotate_left
      · (intro wS hSw; (try dsimp only at hSw); go_simp; try with_reducible rfl)
      try simp only [Act.put, List.setIfInBounds_toArray, List.set_cons_zero, List.set_cons_succ]
      refine AnyX.take (i := 4) (oi := _) (v := ?_) rfl (by kernel_rfl) (by kernel_rfl) (by kernel_rfl) (by kernel_rfl) (by kernel_rfl) (fun _ _ _ h => h) (Or.inl ⟨by rfl, ?_⟩) (by assumption) ?_
      rotate_left
      · (intro wS hSw; (try dsimp only at hSw); go_simp; try with_reducible rfl)
      try simp only [Act.put, List.setIfInBounds_toArray, List.set_cons_zero, List.set_cons_succ]
      refine AnyX.take (i := 5) (oi := _) (v := ?_) rfl (by kernel_rfl) (by kernel_rfl) (by kernel_rfl) (by kernel_rfl) (by kernel_rfl) (fun _ _ _ h => h) (Or.inl ⟨by rfl, ?_⟩) (by assumption) ?_
      rotate_left
      · (intro wS hSw; (try dsimp only at hSw); go_simp; try with_reducible rfl)
      try simp only [Act.put, List.setIfInBounds_toArray, List.set_cons_zero, List.set_cons_succ]
      refine AnyX.take (i := 7) (oi := _) (v := ?_) rfl (by kernel_rfl) (by kernel_rfl) (by kernel_rfl) (by kernel_rfl) (by kernel_rfl) (fun _ _ _ h => h) (Or.inl ⟨by rfl, ?_⟩) (by assumption) ?_
      rotate_left
      · (intro wS hSw; (try dsimp only at hSw); go_simp; try with_reducible rfl)
      try simp only [Act.put, List.setIfInBounds_toArray, List.set_cons_zero, List.set_cons_succ]
      refine AnyX.take (i := 8) (oi := _) (v := ?_) rfl (by kernel_rfl) (by kernel_rfl) (by kernel_rfl) (by kernel_rfl) (by kernel_rfl) (fun _ _ _ h => h) (Or.inl ⟨by rfl, ?_⟩) (by assumption) ?_
      rotate_left
      · (intro wS hSw; (try dsimp only at hSw); go_simp; try with_reducible rfl)
      try simp only [Act.put, List.setIfInBounds_toArray, List.set_cons_zero, List.set_cons_succ]
      refine AnyX.only (i := 6) (o := _) (by kernel_rfl) rfl (fun K hK => ?_)
      go_simp
      go_at_call 248; refine (l1Own_c _ e.entries[k].faces F1 w1.drew (hf1.frame fun _ _ => rfl) hfl).mono ?_; rintro e' w2 ⟨v3, F3, rfl, o3, n3, g3, hb2⟩; obtain ⟨d3, p3, rfl⟩ := o3.slice; have H2b := (show Row w1.drew (w.heap.size + 1 + 1) 26 _ from H2).below hb2; have t2 := H2b.cells 1; have t3 := fun A => (H2b.alloc A).cells 1; have Q2 := (show Row w1.drew wr.heap.size 115 _ from Q).below hb2; simp only [List.getElem?_cons_zero, List.getElem?_cons_succ] at t2 t3
      refine hK.out _ _ (fun _ => ?_) ?_
      · exact ⟨kc hb2 (by simpa using q0 0), kc hb2 (by simpa using q0 1), kc hb2 (by simpa using q0 2), t2⟩
      clear hK K
      try simp only [Act.put, List.setIfInBounds_toArray, List.set_cons_zero, List.set_cons_succ]
      have hS2 : (fun w' => w'.cell? ⟨wr.heap.size, 0, none⟩ = some (.int .i64 e.entries[k].number) ∧ w'.cell? ⟨wr.heap.size, 1, none⟩ = some (.slice fa e.entries[k].faces.length fc) ∧ w'.cell? ⟨wr.heap.size, 2, none⟩ = some (.int .i64 e.entries[k].untl) ∧ w'.cell? ⟨w.heap.size + 1 + 1, 1, none⟩ = some (.slice oa k oc)) w2 := ⟨kc hb2 (by simpa using q0 0), kc hb2 (by simpa using q0 1), kc hb2 (by simpa using q0 2), t2⟩
      have q6 := fun A => (Q2.alloc A).cells
      refine AnyX.take (i := 9) (oi := _) (v := ?_) rfl (by kernel_rfl) (by kernel_rfl) (by kernel_rfl) (by kernel_rfl) (by kernel_rfl) (fun _ _ _ h => h) (Or.inl ⟨by rfl, ?_⟩) (by assumption) ?_
      rotate_left
      · (intro wS hSw; (try dsimp only at hSw); go_simp; try with_reducible rfl)
      try simp only [Act.put, List.setIfInBounds_toArray, List.set_cons_zero, List.set_cons_succ]
      refine AnyX.only (i := 10) (o := _) (by kernel_rfl) rfl (fun K hK => ?_)
      go_simp
      refine hK.out _ _ (fun _ => ?_) ?_
      · exact ⟨by simpa using q6 _ 0, by simpa using q6 _ 1, by simpa using q6 _ 2, t3 _⟩
      clear hK K
      try simp only [Act.put, List.setIfInBounds_toArray, List.set_cons_zero, List.set_cons_succ]
      refine AnyX.only (i := 11) (o := _) (by kernel_rfl) rfl (fun K hK => ?_)
      refine step_apd one_OEntry (by decide) (by rfl) _ _ _ (by rfl) 115 (.agg #[.int .i64 0, .slice none 0 0, .int .i64 0]) 40 Tryz.underlying24 info_Entry rfl (.slice oa k oc) (e.entries.take k) F2 (by rfl) ((O1.out.frame (w' := w1.drew) fun _ _ => rfl).below (hb2.alloc hb2.size _)) (Hd.of hn2) (some ⟨w2.heap.size, 0, none⟩) [e.entries[k]] 1 (by rfl) [.int .i64 e.entries[k].number, .slice d3 e.entries[k].faces.length p3, .int .i64 e.entries[k].untl] F3 (Flat.one ⟨_, rfl, o3.below ((Below.refl _ _).alloc (Nat.le_refl _) _)⟩) (.inr ⟨_, rfl, World.news_of_block (heap_alloc_new w2 _)⟩) (fun b hb he => by have h1 := hown b he; have h2 := O1.out.lt b h1; have h3 := g3 b hb; exact Nat.lt_irrefl _ (Nat.lt_of_lt_of_le h2 h3)) (by unfold maxLen; rw [htl]; simp; omega) (by rw [htl]; simp; omega) ?_
      intro v4 w4 F4 hA; obtain ⟨oa2, oc2, rfl⟩ := hA.val; rw [htl];  have H4 := (H2b.alloc (.cells #[.int .i64 e.entries[k].number, .slice d3 e.entries[k].faces.length p3, .int .i64 e.entries[k].untl] 115)).keepK hA.keep (fun hm => Nat.lt_irrefl _ (hF2 _ hm)); have q4 := ((Q2.alloc (.cells #[.int .i64 e.entries[k].number, .slice d3 e.entries[k].faces.length p3, .int .i64 e.entries[k].untl] 115)).keepK hA.keep (fun hm => by have := hlF _ hm; omega)).cells; have t4 := H4.cells 1; have f4 := H4.frozens 1; simp only [List.getElem?_cons_zero, List.getElem?_cons_succ] at t4
      refine hK.out _ _ (fun _ => ?_) ?_
      · exact ⟨by simpa using q4 0, by simpa using q4 1, by simpa using q4 2, t4⟩
      clear hK K
      try simp only [Act.put, List.setIfInBounds_toArray, List.set_cons_zero, List.set_cons_succ]
      have hS4 : (fun w' => w'.cell? ⟨wr.heap.size, 0, none⟩ = some (.int .i64 e.entries[k].number) ∧ w'.cell? ⟨wr.heap.size, 1, none⟩ = some (.slice fa e.entries[k].faces.length fc) ∧ w'.cell? ⟨wr.heap.size, 2, none⟩ = some (.int .i64 e.entries[k].untl) ∧ w'.cell? ⟨w.heap.size + 1 + 1, 1, none⟩ = some (.slice oa k oc)) w4 := ⟨by simpa using q4 0, by simpa using q4 1, by simpa using q4 2, t4⟩
      refine AnyX.take (i := 12) (oi := _) (v := ?_) rfl (by kernel_rfl) (by kernel_rfl) (by kernel_rfl) (by kernel_rfl) (by kernel_rfl) (fun _ _ _ h => h) (Or.inl ⟨by rfl, ?_⟩) (by assumption) ?_
      rotate_left
      · (intro wS hSw; (try dsimp only at hSw); go_simp; try with_reducible rfl)
      try simp only [Act.put, List.setIfInBounds_toArray, List.set_cons_zero, List.set_cons_succ]
      refine AnyX.only (i := 13) (o := _) (by kernel_rfl) rfl (fun K hK => ?_)
      go_simp
      refine hK.out _ _ (fun h => by cases h) ?_
      clear hK K
      try simp only [Act.put, List.setIfInBounds_toArray, List.set_cons_zero, List.set_cons_succ]
      refine AnyX.done (by kernel_rfl) ?_ _
      have hz2 : w1.heap.size ≤ w2.heap.size := hb2.size
      have hO4 := hA.ow
      rw [htl, ← List.take_succ_eq_append_getElem hlt] at hO4
      have hF4 : ∀ b ∈ F4, w.heap.size + 1 + 1 < b := fun b hb => by
        rcases hA.mem b hb with h | h | h
        · exact hF2 b h
        · have h3 : w1.heap.size ≤ b := g3 b h; omega
        · simp at h; omega
      have hO5 := Lib.hid (hO4.setFar (p := ⟨w.heap.size + 1 + 1, 1, none⟩) (fun hm => Nat.lt_irrefl _ (hF4 _ hm)) (.slice oa2 (k + 1) oc2))
      have hn4 := hA.nodup hn2 n3 (fun b hb hm => by have h2 := O1.out.lt b hm; have h3 := g3 b hb; exact Nat.lt_irrefl _ (Nat.lt_of_lt_of_le h2 h3))
      have G0 := (((show Row w1.drew w.heap.size 26 _ from H0).below hb2).alloc (.cells #[.int .i64 e.entries[k].number, .slice d3 e.entries[k].faces.length p3, .int .i64 e.entries[k].untl] 115)).keepK hA.keep (fun hm => by have := hF2 _ hm; omega)
      have G1 := (((show Row w1.drew (w.heap.size + 1) 26 _ from H1).below hb2).alloc (.cells #[.int .i64 e.entries[k].number, .slice d3 e.entries[k].faces.length p3, .int .i64 e.entries[k].untl] 115)).keepK hA.keep (fun hm => by have := hF2 _ hm; omega)
      have L0 := G0.setOther (p := ⟨w.heap.size + 1 + 1, 1, none⟩) (by simp; omega) (.slice oa2 (k + 1) oc2)
      have L1 := G1.setOther (p := ⟨w.heap.size + 1 + 1, 1, none⟩) (by simp) (.slice oa2 (k + 1) oc2)
      have L2 := H4.set 1 (.slice oa2 (k + 1) oc2)
      have hB5 : Below w.heap.size w (w4.setCell ⟨w.heap.size + 1 + 1, 1, none⟩ (.slice oa2 (k + 1) oc2)) :=
        Below.setCell (((tr (belowDrewN hB2 1) hb2 (Nat.le_refl _)).alloc (by omega) _).trans (hA.keep.below (by simp; omega) (fun b hb => by have := hF2 b hb; omega))) (by simp <;> omega) _
      clear hA hO4 G0 G1 H4
      go_wp2_with fail
      exact ⟨⟨k + 1, by omega, by go_num, oa2, oc2, F4, hO5, hn4, hF4, L0, L1, by simpa using L2, hB5⟩, by simp [intOf]; omega⟩
    · have hk : k = e.entries.length := by omega
      subst hk
      have hO := Lib.hid (show Ow OEntry 115 wr (.slice oa e.entries.length oc) e.entries F2 by simpa using ho.out)
      clear ho
      have c1 := hr1.cells; have c2 := hr2.cells; have f1 := hr1.frozens
      go_wp2_with fail
      refine bodyPost_ret (v := .agg #[.int .i64 e.clock, .slice oa e.entries.length oc]) ?_ rfl ?_
      · simp [results, Tryz.results187, go_sem, c1, c2, f1]
      · refine ⟨_, F2, rfl, ⟨_, rfl, _, rfl, ?_⟩, hn2, fun b hb => by have := hF2 b hb; omega, ?_⟩
        · repeat refine Ow.setFar ?_ (fun hm => by have := hF2 _ hm; simp at this <;> omega) _
          exact hO.out
        · repeat refine Below.setCell ?_ (by simp <;> omega) _
          exact hB
end Go.Proofs.YtgogcgkocjpgoaaGreatDoor
/- Walks: a tick of an element. -/
namespace Go.Proofs.YtgogcgkocjpgoaaGreatDoor
open Go.RowKit
theorem Element_tick_1_c (x : Entry) (c : Int) (b pb : Nat) (G : List Nat) (u : Value) (w : World) (h : IsV EEntry w u x G) (hb : w.cell? ⟨b, 0, none⟩ = some (.pointer (some ⟨pb, 0, none⟩))) (hc : w.cell? ⟨pb, 0, none⟩ = some (.int .i64 c)) :
    Calls Tryz.prog 182 #[u, .pointer (some ⟨b, 0, none⟩)] w fun e w' => e = .returned (.bool (decide (x.untl ≤ c))) ∧ Below w.heap.size w w' := by
  obtain ⟨_, rfl, v1, rfl, h1⟩ := h
  obtain ⟨a1, p1, rfl⟩ := h1.slice
  have hbl := World.block_lt_of_cell? w _ hb
  have hpl := World.block_lt_of_cell? w _ hc
  simp only at hbl hpl
  have hA := fun A : Obj => (Below.refl w.heap.size w).alloc (Nat.le_refl _) A
  have hb1 := kc (hA (.cells #[.int .i64 x.number, .slice a1 x.faces.length p1, .int .i64 x.untl] 115)) hb
  have hc1 := kc (hA (.cells #[.int .i64 x.number, .slice a1 x.faces.length p1, .int .i64 x.untl] 115)) hc
  have hB := hA (.cells #[.int .i64 x.number, .slice a1 x.faces.length p1, .int .i64 x.untl] 115)
  have q0 := (Row.made w 115 [.int .i64 x.number, .slice a1 x.faces.length p1, .int .i64 x.untl]).cells
  go_enter Tryz.func182, Tryz.ntmps182
  go_wp2_with fail
  generalize w.alloc (.cells #[.int .i64 x.number, .slice a1 x.faces.length p1, .int .i64 x.untl] 115) = w1 at *
  go_quiet (fail)
  go_wp2_with fail
  go_ret
  exact ⟨rfl, belowDrewN hB _⟩
/-- an element a tick later -/
def tickElement (e : Element) : Element := ⟨e.clock + 1, e.entries.filter fun x => !decide (x.untl ≤ e.clock + 1)⟩
set_option maxHeartbeats 1600000 in
theorem Element_tick_c (e : Element) (pb : Nat) (v1 : Value) (F : List Nat) (w : World) (hr : Row w pb 26 [.int .i64 e.clock, v1]) (ho : Ow OEntry 115 w v1 e.entries F) (hn : F.Nodup) (hpb : pb ∉ F) (hc : isClk e.clock = true) :
    Calls Tryz.prog 93 #[.pointer (some ⟨pb, 0, none⟩)] w fun e' w' => (∃ u, e' = .returned u) ∧ ∃ v2 F2, Row w' pb 26 [.int .i64 (tickElement e).clock, v2] ∧ Ow OEntry 115 w' v2 (tickElement e).entries F2 ∧ F2.Nodup ∧ (∀ b ∈ F2, b ∈ F) ∧ Keep (pb :: F) w w' := by
  obtain ⟨a, cap, rfl⟩ := ho.slice
  have hcb := isClk_iff.1 hc
  have hpl := hr.lt
  have hFl := ho.lt
  have c0 := hr.cells; have f0 := hr.frozens
  have hne : ¬ w.heap.size = pb := by omega
  have hne2 : ¬ pb = w.heap.size := by omega
  have hbF : w.heap.size ∉ F := fun hm => Nat.lt_irrefl _ (hFl _ hm)
  have d0 := fun A => (hr.alloc A).cells
  have e0 := fun A => (hr.alloc A).frozens
  have hS : (w.setCell ⟨pb, 0, none⟩ (.int .i64 (e.clock + 1))).heap.size = w.heap.size := by simp [World.setCell]
  have R := (hr.set 0 (.int .i64 (e.clock + 1))).alloc (.cells #[.pointer (some ⟨pb, 0, none⟩)] 185)
  have O := (ho.setFar (p := ⟨pb, 0, none⟩) hpb (.int .i64 (e.clock + 1))).below ((Below.refl _ _).alloc (Nat.le_refl _) (.cells #[.pointer (some ⟨pb, 0, none⟩)] 185))
  have B := Row.made (w.setCell ⟨pb, 0, none⟩ (.int .i64 (e.clock + 1))) 185 [.pointer (some ⟨pb, 0, none⟩)]
  rw [hS] at B
  have K := ((Keep.refl (pb :: F) w).setCell (p := ⟨pb, 0, none⟩) (by simp) (.int .i64 (e.clock + 1))).alloc (.cells #[.pointer (some ⟨pb, 0, none⟩)] 185)
  go_enter Tryz.func93, Tryz.ntmps93
  go_wp2_with fail
  clear d0 e0 c0 f0
  generalize (w.setCell ⟨pb, 0, none⟩ (.int .i64 (e.clock + 1))).alloc (.cells #[.pointer (some ⟨pb, 0, none⟩)] 185) = w1 at *
  have r0 : w1.drew.cell? ⟨pb, 0, none⟩ = some (.int .i64 (e.clock + 1)) := by simpa using R.cells 0
  have r1 : w1.drew.cell? ⟨pb, 1, none⟩ = some (.slice a e.entries.length cap) := by simpa using R.cells 1
  have b0 : w1.drew.cell? ⟨w.heap.size, 0, none⟩ = some (.pointer (some ⟨pb, 0, none⟩)) := by simpa using B.cells 0
  have hcall := Lib.hid (DeleteFunc_Entry _ (.mk' Tryz.func182 rfl rfl) #[.pointer (some ⟨w.heap.size, 0, none⟩)] _ e.entries F (fun x => decide (x.untl ≤ e.clock + 1)) w1.drew (O.frame fun _ _ => rfl) hn
    (fun k hk wr u G hK hu => Element_tick_1_c _ (e.clock + 1) w.heap.size pb G u wr hu (hK.cell hbF b0) (hK.cell hpb r0)))
  clear hr ho
  go_region_law (first | (go_simp; go_at_call 181; refine hcall.out.mono ?_; rintro e' w2 ⟨v2, F2, rfl, o2, n2, s2, k2⟩; obtain ⟨a2, p2, rfl⟩ := o2.slice; have z0 := k2.cell hbF b0; have z1 := k2.cell hpb r1; have R2 := (show Row w1.drew pb 26 _ from R).keepK k2 hpb; have z2 := R2.frozens 1))
  all_goals
    have R3 := R2.set 1 (.slice a2 (e.entries.filter fun x => !decide (x.untl ≤ e.clock + 1)).length p2)
    have O3 := Lib.hid (o2.setFar (p := ⟨pb, 1, none⟩) (fun hm => hpb (s2 _ hm)) (.slice a2 (e.entries.filter fun x => !decide (x.untl ≤ e.clock + 1)).length p2))
    have K3 : Keep (pb :: F) w (w2.setCell ⟨pb, 1, none⟩ (.slice a2 (e.entries.filter fun x => !decide (x.untl ≤ e.clock + 1)).length p2)) :=
      Keep.setCell ((K.drewN 1).trans (k2.mono fun b hb _ => by simp [hb])) (by simp) _
    clear o2 R2
    go_wp2_with fail
    go_end0
    exact ⟨⟨_, rfl⟩, _, F2, by simpa [tickElement] using R3, O3.out, n2, s2, K3⟩
theorem Sl.headIn {α : Type} {E : Elem α} {w : World} {b off n cap : Nat} {xs : List α} {F} (h : Sl E w (.slice (some ⟨b, off, none⟩) n cap) xs F) (k : Nat) (hk : k < xs.length) : b ∈ F := by
  obtain ⟨a', cap', hv, hl, h⟩ := h
  cases hv
  rcases h with ⟨rfl, _⟩ | ⟨b, off, F', he, _, rfl, hc⟩
  · simp at hk
  · cases he; simp
set_option maxHeartbeats 1600000 in
theorem l14Tick_c (v : Value) (e : Element) (F : List Nat) (w : World) (h : IsV EElement w v e F) (hc : isClk e.clock = true) (hm : e.entries.length ≤ 4294967296) (hm2 : ∀ x ∈ e.entries, x.faces.length ≤ 4294967296) :
    Calls Tryz.prog 99 #[v] w (RetR EElement (tickElement e) w) := by
  have hcb := isClk_iff.1 hc
  have hm2 := Lib.hid hm2
  have h0 := h
  obtain ⟨_, rfl, v1, rfl, h1⟩ := h
  obtain ⟨a, cap, rfl⟩ := h1.slice
  have hB0 : ∀ A B : Obj, Below w.heap.size w ((w.alloc A).alloc B) := fun A B => ((Below.refl _ _).alloc (Nat.le_refl _) _).alloc (by simp) _
  go_enter Tryz.func99, Tryz.ntmps99
  go_wp2_with fail
  refine (l14Own_c _ e F _ (h0.below (hB0 _ _)) hm hm2.out).mono ?_
  rintro e' w1 ⟨_, Fo, rfl, ⟨_, rfl, v2, rfl, ho⟩, hn, hFo, hb1⟩
  obtain ⟨a2, cap2, rfl⟩ := ho.slice
  have r0 := Row.below (g := w.heap.size) (t := 26) (cs := [.int .i64 e.clock, .slice a e.entries.length cap]) (by simp [row_alloc] <;> omega) hb1
  have r1 := Row.below (g := w.heap.size + 1) (t := 26) (cs := [.int .i64 0, .slice none 0 0]) (by simp [row_alloc] <;> omega) hb1
  obtain ⟨Fr, hFr, hs⟩ := ho.sl weak_Entry
  have hFl := ho.lt
  have hB := tr (hB0 _ _) hb1 (Nat.le_refl _)
  have d0 := fun A => (r0.alloc A).cells
  have c0 := r0.cells
  clear hb1
  go_wp2_with fail
  go_loopw [5] (fun i wr => ∃ k : Nat, k ≤ e.entries.length ∧ i = .int .i64 k ∧ ∃ oa oc F, Hid (Ow EEntry 115 wr (.slice oa ((e.entries.take k).filter fun x => !decide (x.untl ≤ e.clock + 1)).length oc) ((e.entries.take k).filter fun x => !decide (x.untl ≤ e.clock + 1)) F) ∧ Hd F ∧ (∀ b, oa = some b → w1.heap.size + 1 + 1 ≤ b.block) ∧ (∀ c ∈ F, w.heap.size + 2 ≤ c ∧ c ≠ w1.heap.size ∧ c ≠ w1.heap.size + 1) ∧
    Row wr (w.heap.size + 1) 26 [.int .i64 0, .slice none 0 0] ∧ Row wr w1.heap.size 26 [.int .i64 e.clock, .slice a2 e.entries.length cap2] ∧ Row wr (w1.heap.size + 1) 26 [.int .i64 (e.clock + 1), .slice oa ((e.entries.take k).filter fun x => !decide (x.untl ≤ e.clock + 1)).length oc] ∧ Below w1.heap.size w1 wr) (fun i _ => e.entries.length - (intOf i).toNat)
  case atStart => exact ⟨0, Nat.zero_le _, rfl, none, 0, [], Lib.hid (.inl ⟨rfl, by simp, rfl⟩), Hd.nil, by simp, by simp, (r1.alloc _).alloc _, by simp [row_alloc], by simp [row_alloc], ((Below.refl _ _).alloc (Nat.le_refl _) _).alloc (by simp) _⟩
  case round =>
    obtain ⟨k, hk, rfl, oa, oc, F2, hO, hd2, hoa, hF2, hr1, hr2, hr3, hB2⟩ := hrel
    have c1 := hr2.cells; have c2 := hr3.cells; have c4 := hr1.cells; have f4 := hr1.frozens
    by_cases hlt : k < e.entries.length
    · obtain ⟨b, off, _, F1, rfl, hx, hFx, ja⟩ := (hs.below (by decide) hB2).at k hlt
      obtain ⟨u1, rfl, hf⟩ := id hx
      obtain ⟨fa, fc, rfl⟩ := hf.slice
      have a0 := ja 0 (by decide)
      have a1 := ja 1 (by decide)
      have a2 := ja 2 (by decide)
      simp only [show EEntry.sz = 3 from rfl, Nat.add_zero, List.getElem?_cons_zero, List.getElem?_cons_succ] at a0 a1 a2
      clear ja
      by_cases hq : e.entries[k].untl > e.clock + 1
      · have hqf := Lib.hid (filter_take_yes (q := fun x : Entry => !decide (x.untl ≤ e.clock + 1)) hlt (by simp; omega))
        generalize hys : ((e.entries.take k).filter fun x => !decide (x.untl ≤ e.clock + 1)) = ys at *
        have hys := Lib.hid hys
        go_wp2_with fail
        go_quiet (fail)
        go_wp2_with fail
        have D1 := show Row (wr.drewN nq) _ _ _ from hr1
        have D2 := show Row (wr.drewN nq) _ _ _ from hr2
        have D3 := show Row (wr.drewN nq) _ _ _ from hr3
        have DO := Lib.hid (show Ow EEntry 115 (wr.drewN nq) _ _ _ from hO.out.frame fun _ _ => rfl)
        have DX : EEntry.rep (wr.drewN nq) _ _ _ := EEntry.frame hx fun _ _ => rfl
        have DB := belowDrewN hB2 nq
        have b0 : (wr.drewN nq).cell? ⟨b, off + k * 3, none⟩ = _ := a0
        have b1 : (wr.drewN nq).cell? ⟨b, off + k * 3 + 1, none⟩ = _ := a1
        have b2 : (wr.drewN nq).cell? ⟨b, off + k * 3 + 2, none⟩ = _ := a2
        clear hr1 hr2 hr3 hO hx hf hB2 a0 a1 a2 c1 c2 c4 f4
        generalize wr.drewN nq = w2 at *
        have hbb := World.block_lt_of_cell? w2 _ b0
        simp only at hbb
        have DBs := DB.size
        have t3 := fun A => (D3.alloc A).cells 1; have t0 := D3.cells 1
        have o0 := D2.cells 1
        simp only [List.getElem?_cons_zero, List.getElem?_cons_succ] at t3 t0 o0
        have hyl : ys.length ≤ 4294967295 := by have := congrArg List.length hys.out; have := List.length_filter_le (fun x : Entry => !decide (x.untl ≤ e.clock + 1)) (e.entries.take k); simp at this; omega
        have hA := (Below.refl w2.heap.size w2).alloc (Nat.le_refl _) (.cells #[.int .i64 e.entries[k].number, .slice fa e.entries[k].faces.length fc, .int .i64 e.entries[k].untl] 115)
        have DOd := Lib.hid ((DO.out.below hA).frame (w' := (w2.alloc (.cells #[.int .i64 e.entries[k].number, .slice fa e.entries[k].faces.length fc, .int .i64 e.entries[k].untl] 115)).drew) fun _ _ => rfl)
        have DXd := EEntry.frame (w' := (w2.alloc (.cells #[.int .i64 e.entries[k].number, .slice fa e.entries[k].faces.length fc, .int .i64 e.entries[k].untl] 115)).drew) (EEntry.below DX hA) fun _ _ => rfl
        have E0' := kc hA o0; have E0 : (w2.alloc (.cells #[.int .i64 e.entries[k].number, .slice fa e.entries[k].faces.length fc, .int .i64 e.entries[k].untl] 115)).drew.cell? _ = _ := E0'
        have E1' := kc hA b0; have E1 : (w2.alloc (.cells #[.int .i64 e.entries[k].number, .slice fa e.entries[k].faces.length fc, .int .i64 e.entries[k].untl] 115)).drew.cell? _ = _ := E1'
        have E2' := kc hA b1; have E2 : (w2.alloc (.cells #[.int .i64 e.entries[k].number, .slice fa e.entries[k].faces.length fc, .int .i64 e.entries[k].untl] 115)).drew.cell? _ = _ := E2'
        have E3' := kc hA b2; have E3 : (w2.alloc (.cells #[.int .i64 e.entries[k].number, .slice fa e.entries[k].faces.length fc, .int .i64 e.entries[k].untl] 115)).drew.cell? _ = _ := E3'
        have nob : ∀ c ∈ (Value.slice oa ys.length oc).ownBlock.toList, w1.heap.size + 1 + 1 ≤ c := fun c hc => by
          cases oa with
          | none => simp [Value.ownBlock] at hc
          | some b => simp [Value.ownBlock] at hc; subst hc; exact hoa b rfl
        have D3a := show Row (w2.alloc (.cells #[.int .i64 e.entries[k].number, .slice fa e.entries[k].faces.length fc, .int .i64 e.entries[k].untl] 115)).drew _ _ _ from D3.alloc (.cells #[.int .i64 e.entries[k].number, .slice fa e.entries[k].faces.length fc, .int .i64 e.entries[k].untl] 115)
        have hFs : ∀ c ∈ F1, c < w1.heap.size := fun c hc => hs.lt (by decide) c (hFx c hc)
        have hbw : b < w1.heap.size := hs.lt (by decide) b (hs.headIn k hlt)
        have hn1 : ¬ b = w1.heap.size + 1 := by omega
        have hn2 : ¬ w1.heap.size + 1 = b := by omega
        go_region_law (first | ((refine step_apd one_EEntry (by decide) (by rfl) _ _ _ (by rfl) 115 (.agg #[.int .i64 0, .slice none 0 0, .int .i64 0]) 40 Tryz.underlying24 info_Entry rfl (.slice oa ys.length oc) ys F2 (by rfl) DOd.out hd2 (some ⟨w2.heap.size, 0, none⟩) [e.entries[k]] 1 (by rfl) [.int .i64 e.entries[k].number, .slice fa e.entries[k].faces.length fc, .int .i64 e.entries[k].untl] F1 (Flat.one DXd) (.inr ⟨_, rfl, World.news_of_block (w := (w2.alloc (.cells #[.int .i64 e.entries[k].number, .slice fa e.entries[k].faces.length fc, .int .i64 e.entries[k].untl] 115)).drew) (heap_alloc_new w2 _)⟩) (fun c hc he => by have h1 := nob c (by rw [he]; simp); have h2 := hFs c hc; omega) (by unfold maxLen; simp; omega) (by simp; omega) ?_); intro v4 w4 F4 hA4; obtain ⟨oa2, oc2, rfl⟩ := hA4.val; have D4 := D3a.keepK hA4.keep1 (fun hm => by have := nob _ hm; omega); have t4 := D4.cells 1; have f4 := D4.frozens 1; simp only [List.getElem?_cons_zero, List.getElem?_cons_succ] at t4))
        all_goals
          have hn4 : w1.heap.size + 1 ∉ F4 := fun hm => by
            rcases hA4.mem _ hm with h | h | h
            · exact (hF2 _ h).2.2 rfl
            · have := hFs _ h; omega
            · have := D3.lt; simp at h; omega
          have P1 := Lib.hid (hA4.ow.setFar (p := ⟨w1.heap.size + 1, 1, none⟩) hn4 (.slice oa2 (ys.length + 1) oc2))
          have L1 := ((show Row (w2.alloc (.cells #[.int .i64 e.entries[k].number, .slice fa e.entries[k].faces.length fc, .int .i64 e.entries[k].untl] 115)).drew _ _ _ from D1.alloc (.cells #[.int .i64 e.entries[k].number, .slice fa e.entries[k].faces.length fc, .int .i64 e.entries[k].untl] 115)).keepK hA4.keep1 (fun hm => by have := nob _ hm; have := r1.lt; omega)).setOther (p := ⟨w1.heap.size + 1, 1, none⟩) (by have := r1.lt; simp; omega) (.slice oa2 (ys.length + 1) oc2)
          have L2 := ((show Row (w2.alloc (.cells #[.int .i64 e.entries[k].number, .slice fa e.entries[k].faces.length fc, .int .i64 e.entries[k].untl] 115)).drew _ _ _ from D2.alloc (.cells #[.int .i64 e.entries[k].number, .slice fa e.entries[k].faces.length fc, .int .i64 e.entries[k].untl] 115)).keepK hA4.keep1 (fun hm => by have := nob _ hm; omega)).setOther (p := ⟨w1.heap.size + 1, 1, none⟩) (by simp) (.slice oa2 (ys.length + 1) oc2)
          have L3 := D4.set 1 (.slice oa2 (ys.length + 1) oc2)
          have hoa2 : ∀ b, oa2 = some b → w1.heap.size + 1 + 1 ≤ b.block := fun c hc => by
            subst hc
            rcases hA4.same with h | h
            · simp only [Value.ownBlock] at h; exact nob _ (by cases oa <;> simp_all [Value.ownBlock])
            · simp [Value.ownBlock] at h; have := D3.lt; omega
          have hF4 : ∀ c ∈ F4, w.heap.size + 2 ≤ c ∧ c ≠ w1.heap.size ∧ c ≠ w1.heap.size + 1 := fun c hc => by
            have hs3 := D3.lt
            have hsw := r1.lt
            rcases hA4.mem _ hc with h | h | h
            · exact hF2 _ h
            · have h1 := hFs _ h; have h2 : w.heap.size + 2 ≤ c := (by simpa using hFo c (hFr c (hFx c h))); exact ⟨h2, by omega, by omega⟩
            · simp at h; exact ⟨by omega, by omega, by omega⟩
          have hB5 : Below w1.heap.size w1 (w4.setCell ⟨w1.heap.size + 1, 1, none⟩ (.slice oa2 (ys.length + 1) oc2)) :=
            Below.setCell ((belowDrewN (tr DB hA (Nat.le_refl _)) 1).trans (hA4.keep1.below (by simp; omega) (fun b hb => by have := nob b hb; omega))) (by simp) _
          have hd4 := hA4.hd
          clear hA4 D1 D2 D3 D4
          go_wp2_with fail
          exact ⟨⟨k + 1, by omega, by go_num, oa2, oc2, F4, by rw [hqf.out, List.length_append]; exact P1, hd4, hoa2, hF4, L1, L2, by rw [hqf.out, List.length_append]; exact L3, hB5⟩, by simp [intOf]; omega⟩
      · have hqf := Lib.hid (filter_take_no (q := fun x : Entry => !decide (x.untl ≤ e.clock + 1)) hlt (by simp; omega))
        generalize hys : ((e.entries.take k).filter fun x => !decide (x.untl ≤ e.clock + 1)) = ys at *
        have hys := Lib.hid hys
        go_wp2_with fail
        go_quiet (fail)
        go_wp2_with fail
        refine ⟨⟨k + 1, by omega, by go_num, oa, oc, F2, ?_, hd2, hoa, hF2, hr1, hr2, ?_, belowDrewN hB2 _⟩, by simp [intOf]; omega⟩
        · rw [hqf.out]; exact Lib.hid (hO.out.frame fun _ _ => rfl)
        · rw [hqf.out]; exact hr3
    · have hk : k = e.entries.length := by omega
      subst hk
      simp only [List.take_length] at hO hr3 c2
      obtain ⟨F3, hF3, hs3⟩ := hO.out.read
      have hB3 := tr hB hB2 (Nat.le_refl _)
      go_wp2_with fail
      refine bodyPost_ret (v := .agg #[.int .i64 (e.clock + 1), .slice oa (e.entries.filter fun x => !decide (x.untl ≤ e.clock + 1)).length oc]) ?_ rfl ?_
      · simp [results, Tryz.results99, go_sem, c4, c2, f4]
      · refine ⟨_, F3, rfl, ⟨_, rfl, _, rfl, ?_⟩, fun b hb => by have := (hF2 b (hF3 b hb)).1; omega, ?_⟩
        · refine hs3.frame fun b hb => ?_
          have h2 := (hF2 b (hF3 b hb)).1
          rw [Below.heap_setCell _ _ _ _ (by simp; omega), Below.heap_setCell _ _ _ _ (by simp; omega)]
        · repeat refine Below.setCell ?_ (by simp <;> omega) _
          exact hB3
end Go.Proofs.YtgogcgkocjpgoaaGreatDoor
/- Walks: TickElement, the program's and the reference's. -/
namespace Go.Proofs.YtgogcgkocjpgoaaGreatDoor
open Go.RowKit
theorem rising_len {lo hi : Int} {zs : List Int} (h : rising lo hi zs = true) : (zs.length : Int) ≤ hi - lo + 1 ∨ zs = [] := by
  by_cases h0 : zs = []
  · exact .inr h0
  · left
    have key : ∀ i (hi' : i < zs.length), lo + i ≤ zs[i] ∧ zs[i] ≤ hi := by
      intro i
      induction i with
      | zero =>
        intro hi'
        have := allUpTo_get h 0 hi'
        rw [risAt_zero hi'] at this
        simp [btw] at this
        simpa using this
      | succ i ih =>
        intro hi'
        have := allUpTo_get h (i + 1) hi'
        rw [risAt_succ hi'] at this
        have := ih (by omega)
        simp [btw] at *
        omega
    have hp := List.length_pos_iff.2 h0
    have := key (zs.length - 1) (by omega)
    omega
theorem good_room {e : Element} (h : goodElement e = true) : isClk e.clock = true ∧ e.entries.length ≤ 5 ∧ ∀ x ∈ e.entries, x.faces.length ≤ 7 := by
  unfold goodElement at h
  simp only [Bool.and_eq_true, decide_eq_true_eq] at h
  refine ⟨h.1.1, h.1.2, fun x hx => ?_⟩
  obtain ⟨i, hi, rfl⟩ := List.getElem_of_mem hx
  have := allUpTo_get h.2 i hi
  rw [entAt_of hi] at this
  simp [okEntry] at this
  rcases rising_len this.1.2.2.1 with h | h
  · omega
  · rw [h]; simp
def okTick (e : Element) : Bool := goodElement e && !(e.clock == 9999)
def resTick (e : Element) : Element := if okTick e then tickElement e else ⟨0, []⟩
set_option maxHeartbeats 800000 in
theorem TickElement_c (v : Value) (e : Element) (F : List Nat) (w : World) (h : IsV EElement w v e F) :
    Calls Tryz.prog 16 #[v] w fun e' w' => ∃ u F', e' = .returned (.tuple #[u, .bool (okTick e)]) ∧ IsV OElement w' u (resTick e) F' ∧ F'.Nodup ∧ (∀ b ∈ F', w.heap.size ≤ b) ∧ Below w.heap.size w w' := by
  have h0 := h
  obtain ⟨_, rfl, v1, rfl, h1⟩ := h
  obtain ⟨a, cap, rfl⟩ := h1.slice
  have hB0 : ∀ A B : Obj, Below w.heap.size w ((w.alloc A).alloc B) := fun A B => ((Below.refl _ _).alloc (Nat.le_refl _) _).alloc (by simp) _
  go_enter Tryz.func16, Tryz.ntmps16
  go_wp2_with fail
  refine (IsValidElement_c _ e F _ (h0.below (hB0 _ _))).mono ?_
  rintro e' w1 ⟨rfl, hb1⟩
  have r0 := Row.below (g := w.heap.size) (t := 26) (cs := [.int .i64 e.clock, .slice a e.entries.length cap]) (by simp [row_alloc] <;> omega) hb1
  have r1 := Row.below (g := w.heap.size + 1) (t := 26) (cs := [.int .i64 0, .slice none 0 0]) (by simp [row_alloc] <;> omega) hb1
  have hB := tr (hB0 _ _) hb1 (Nat.le_refl _)
  have h2 := h0.below (hB0 (.cells #[.int .i64 e.clock, .slice a e.entries.length cap] 26) (.cells #[.int .i64 0, .slice none 0 0] 26))
  have h2 := h2.below hb1
  have c0 := r0.cells; have c1 := r1.cells; have f1 := r1.frozens
  clear hb1
  cases hg : goodElement e
  · have hr : okTick e = false := by simp [okTick, hg]
    have hs : resTick e = ⟨0, []⟩ := by simp [resTick, hr]
    have hr := Lib.hid hr; have hs := Lib.hid hs
    go_wp2_with fail
    refine bodyPost_ret (v := .tuple #[.agg #[.int .i64 0, .slice none 0 0], .bool false]) ?_ rfl ?_
    · simp [results, Tryz.results16, go_sem, c0, c1, f1]
    · refine ⟨_, [], by rw [hr.out], by rw [hs.out]; exact ⟨_, rfl, _, rfl, .inl ⟨rfl, rfl, rfl⟩⟩, by simp, by simp, ?_⟩
      repeat refine Below.setCell ?_ (by simp <;> omega) _
      exact hB
  · obtain ⟨hck, hl5, hf7⟩ := good_room hg
    have hcb := isClk_iff.1 hck
    cases hq : (e.clock == 9999)
    · have hr : okTick e = true := by simp [okTick, hg, hq]
      have hs : resTick e = tickElement e := by simp [resTick, hr]
      have hr := Lib.hid hr; have hs := Lib.hid hs
      go_wp2_with fail
      refine (Element_clone_c _ e F _ h2 (by omega) (fun x hx => Nat.le_trans (hf7 x hx) (by decide))).mono ?_
      rintro e' w2 ⟨_, F2, rfl, ⟨_, rfl, v2, rfl, ho2⟩, hn2, hF2, hb2⟩
      obtain ⟨a2, p2, rfl⟩ := ho2.slice
      have q1 := r1.below hb2
      have hB2 := tr hB hb2 (Nat.le_refl _)
      have hsz := r1.lt
      have hF2l := ho2.lt
      have hs2 := hb2.size
      clear hb2
      go_wp2_with fail
      refine (Element_tick_c e w2.heap.size _ F2 _ (Row.made w2 26 [.int .i64 e.clock, .slice a2 e.entries.length p2]) (ho2.below ((Below.refl _ _).alloc (Nat.le_refl _) _)) hn2 (fun hm => Nat.lt_irrefl _ (hF2l _ hm)) hck).mono ?_
      rintro e' w3 ⟨⟨u, rfl⟩, v3, F3, hr3, ho3, hn3, hF3, hk3⟩
      obtain ⟨a3, p3, rfl⟩ := ho3.slice
      have q2 := (q1.alloc _).keepK hk3 (fun hm => by simp at hm; rcases hm with hm | hm; omega; have := hF2 _ hm; omega)
      have hB3 := (hB2.alloc (Nat.le_trans (by have := hB2.size; omega) (Nat.le_refl _)) _).trans (hk3.below (by have := hB2.size; simp; omega) (fun b hb => by simp at hb; rcases hb with hb | hb; (have := hB2.size; omega); (have := hF2 _ hb; have := hB.size; omega)))
      have d1 := q2.cells; have g1 := q2.frozens; have d3 := hr3.cells
      clear hk3
      go_wp2_with fail
      refine bodyPost_ret (v := .tuple #[.agg #[.int .i64 (tickElement e).clock, .slice a3 (tickElement e).entries.length p3], .bool true]) ?_ rfl ?_
      · simp [results, Tryz.results16, go_sem, d1, g1]
      · refine ⟨_, F3, by rw [hr.out], ?_, hn3, fun b hb => ?_, ?_⟩
        · rw [hs.out]
          refine ⟨_, rfl, _, rfl, ?_⟩
          repeat refine Ow.setFar ?_ (fun hm => by have := hF2 _ (hF3 _ hm); simp at this <;> omega) _
          exact ho3
        · have := hF2 _ (hF3 _ hb); have := hB.size; omega
        · repeat refine Below.setCell ?_ (by simp <;> omega) _
          exact hB3
    · have hr : okTick e = false := by simp [okTick, hg, hq]
      have hs : resTick e = ⟨0, []⟩ := by simp [resTick, hr]
      have hr := Lib.hid hr; have hs := Lib.hid hs
      go_wp2_with fail
      refine bodyPost_ret (v := .tuple #[.agg #[.int .i64 0, .slice none 0 0], .bool false]) ?_ rfl ?_
      · simp [results, Tryz.results16, go_sem, c0, c1, f1]
      · refine ⟨_, [], by rw [hr.out], by rw [hs.out]; exact ⟨_, rfl, _, rfl, .inl ⟨rfl, rfl, rfl⟩⟩, by simp, by simp, ?_⟩
        repeat refine Below.setCell ?_ (by simp <;> omega) _
        exact hB
end Go.Proofs.YtgogcgkocjpgoaaGreatDoor
/- Elements: what requests and repairs bring; plain laws. -/
namespace Go.Proofs.YtgogcgkocjpgoaaGreatDoor
open Go.RowKit
/-- the place of a number in a rising list -/
def placeI (l : List Int) (n : Int) : Nat := (l.takeWhile fun x => decide (x < n)).length
/-- a number put to its place, once -/
def putI (l : List Int) (n : Int) : List Int := if l[placeI l n]? = some n then l else l.take (placeI l n) ++ n :: l.drop (placeI l n)
/-- where the entry for a serial stands -/
def atE (e : Element) (n : Int) : Nat := e.entries.findIdx fun x => x.number == n
def reqE (e : Element) (n f : Int) : Element := match e.entries[atE e n]? with
  | some x => ⟨e.clock, e.entries.set (atE e n) ⟨x.number, putI x.faces f, x.untl⟩⟩
  | none => if e.entries.length < 5 then ⟨e.clock, e.entries ++ [⟨n, [f], e.clock + 6⟩]⟩ else e
def fwdE (e : Element) (n : Int) : Bool := !e.entries.any fun x => x.number == n
/-- there is an entry, or there is none -/
theorem findE_or (e : Element) (n : Int) : (∃ (h : atE e n < e.entries.length), fidx (fun x => x.number == n) e.entries = (atE e n : Nat) ∧ e.entries[atE e n].number = n ∧ fwdE e n = false) ∨ (fidx (fun x => x.number == n) e.entries = -1 ∧ e.entries[atE e n]? = none ∧ fwdE e n = true ∧ ∀ x ∈ e.entries, x.number ≠ n) := by
  cases h : e.entries.any fun x => x.number == n
  · right
    have h' := List.any_eq_false.1 h
    refine ⟨by unfold fidx; rw [h]; rfl, ?_, by simp [fwdE, h], fun x hx => by have := h' x hx; simpa using this⟩
    have : atE e n = e.entries.length := List.findIdx_eq_length.2 (fun x hx => by have := h' x hx; simpa using this)
    rw [this]; simp
  · left
    have h2 : atE e n < e.entries.length := by
      obtain ⟨x, hx, hp⟩ := List.any_eq_true.1 h
      exact List.findIdx_lt_length_of_exists ⟨x, hx, hp⟩
    refine ⟨h2, by unfold fidx; rw [h]; rfl, ?_, by simp [fwdE, h]⟩
    have : (e.entries[atE e n].number == n) = true := List.findIdx_getElem (p := fun x : Entry => x.number == n) (xs := e.entries) (w := h2)
    simpa using this
theorem rising_pw {lo hi : Int} {zs : List Int} (h : rising lo hi zs = true) : zs.Pairwise (· < ·) ∧ ∀ z ∈ zs, lo ≤ z ∧ z ≤ hi := by
  have hb : ∀ i (hi' : i < zs.length), lo ≤ zs[i] ∧ zs[i] ≤ hi := fun i hi' => by
    have := allUpTo_get h i hi'
    unfold risAt btw at this
    simp only [Bool.and_eq_true, decide_eq_true_eq] at this
    rw [List.getD_eq_getElem?_getD, List.getElem?_eq_getElem hi'] at this
    simpa using this.1
  refine ⟨?_, fun z hz => by obtain ⟨i, hi', rfl⟩ := List.getElem_of_mem hz; exact hb i hi'⟩
  have step : ∀ i (hi : i + 1 < zs.length), zs[i] < zs[i + 1] := fun i hi' => by
    have := allUpTo_get h (i + 1) hi'
    rw [risAt_succ hi'] at this
    simp only [Bool.and_eq_true, decide_eq_true_eq] at this
    exact this.2
  refine List.pairwise_iff_getElem.2 fun i j hi' hj hij => ?_
  obtain ⟨d, rfl⟩ : ∃ d, j = i + 1 + d := ⟨j - i - 1, by omega⟩
  clear hij
  induction d with
  | zero => exact step i hj
  | succ d ih => exact Int.lt_trans (ih (by omega)) (step (i + 1 + d) hj)
theorem pw_rising {lo hi : Int} {zs : List Int} (h1 : zs.Pairwise (· < ·)) (h2 : ∀ z ∈ zs, lo ≤ z ∧ z ≤ hi) : rising lo hi zs = true := by
  unfold rising
  refine allUpTo_yes fun i hi' => ?_
  have hb := h2 zs[i] (List.getElem_mem hi')
  cases i with
  | zero => rw [risAt_zero hi']; simp [btw, hb]
  | succ i =>
    rw [risAt_succ hi']
    have := List.pairwise_iff_getElem.1 h1 i (i + 1) (by omega) hi' (by omega)
    simp [btw, hb, this]
end Go.Proofs.YtgogcgkocjpgoaaGreatDoor
/- Elements: finding, lists of numbers. -/
namespace Go.Proofs.YtgogcgkocjpgoaaGreatDoor
open Go.RowKit
theorem l14Find_f (e : Element) (n : Int) (v : Value) (F : List Nat) : Fn Tryz.prog 246 [v, .int .i64 n] [.isv EElement v e F] [] (fun (_ : Unit) => True) (fun _ => .int .i64 (fidx (fun x => x.number == n) e.entries)) (fun _ => []) := by
  refine enter Tryz.func246 rfl Tryz.ntmps246 fun w0 => ?_
  refine openElement ?_
  rintro a1 c1 F1 rfl l1
  unfold maxLen at l1
  refine go ?_; intros
  refine c_loopR [1, 2, 4] (fun k : Nat => [(5, .int .i64 (k : Nat))]) (fun k => k ≤ e.entries.length ∧ ∀ j (_ : j < k) (hj : j < e.entries.length), (e.entries[j].number == n) = false) (fun k => e.entries.length - k) 0 ⟨Nat.zero_le _, fun j h => by omega⟩ fun k hk => ?_
  obtain ⟨hk1, hk2⟩ := hk
  refine go ?_; intros
  refine c_if rfl (fun h1 => ?_) (fun h1 => ?_)
  · have hh : k < e.entries.length := by omega
    refine go ?_; intros
    refine atEntry (xs := e.entries) k ?_
    rintro hi b o a3 c3 F3 e1 l3
    rw [e1]
    refine go ?_; intros
    refine c_if rfl (fun h2 => ?_) (fun h2 => ?_)
    · refine go ?_; intros
      refine ret () trivial ?_
      rw [fidx_hit hh hk2 (by simpa using h2)]; rfl
    · refine go ?_; intros
      refine n_lp (k + 1) ⟨hh, fun j hj hl => ?_⟩ (by omega)
      rcases Nat.lt_or_eq_of_le (Nat.lt_succ_iff.1 hj) with h | rfl
      · exact hk2 j h hl
      · simpa using h2
  · obtain rfl : k = e.entries.length := by omega
    refine go ?_; intros
    refine ret () trivial ?_
    rw [fidx_none (fun j hj => hk2 j hj hj)]; rfl
end Go.Proofs.YtgogcgkocjpgoaaGreatDoor
/- The first elements that satisfy a test: how many; plain. -/
namespace Go.Proofs.YtgogcgkocjpgoaaGreatDoor
theorem tw_len {α : Type} {p : α → Bool} : ∀ {xs : List α} {k : Nat}, k ≤ xs.length → (∀ j (_ : j < k) (h : j < xs.length), p xs[j] = true) → (∀ h : k < xs.length, p xs[k] = false) → (xs.takeWhile p).length = k
  | [], k, hk, _, _ => by simp at hk; simp [hk]
  | x :: r, 0, _, _, h2 => by have := h2 (by simp); simp at this; simp [this]
  | x :: r, k + 1, hk, h1, h2 => by
    have hx : p x = true := h1 0 (by omega) (by simp)
    rw [List.takeWhile_cons_of_pos hx, List.length_cons, tw_len (xs := r) (k := k) (by simpa using hk) (fun j hj h => by have := h1 (j + 1) (by omega) (by simpa using h); simpa using this) (fun h => by have := h2 (by simpa using h); simpa using this)]
end Go.Proofs.YtgogcgkocjpgoaaGreatDoor
/- Lists of numbers: searching, inserting, what is there. -/
namespace Go.Proofs.YtgogcgkocjpgoaaGreatDoor
open Go.RowKit

theorem placeI_eq {l : List Int} {n : Int} {k : Nat} (h1 : k ≤ l.length) (h2 : ∀ j (_ : j < k) (h : j < l.length), l[j] < n) (h3 : ∀ h : k < l.length, ¬ l[k] < n) : placeI l n = k := tw_len h1 (fun j hj h => by simpa using h2 j hj h) (fun h => by simpa using h3 h)
end Go.Proofs.YtgogcgkocjpgoaaGreatDoor
/- Elements: a number put to its place. -/
namespace Go.Proofs.YtgogcgkocjpgoaaGreatDoor
open Go.RowKit
theorem rep_i (n : Int) (w : World) : Flat EInt w [.int .i64 n] [n] [] := ⟨_, [], [], [], by simp, by simp, ⟨rfl, rfl⟩, rfl, rfl⟩
structure PutS where
  a : Option Addr
  c : Nat
  F : List Nat
set_option maxRecDepth 100000 in
theorem l1Put_f (l : List Int) (n : Int) (a : Option Addr) (c : Nat) (F : List Nat) (hl : l.length ≤ 1000000) : Fn Tryz.prog 247 [.slice a l.length c, .int .i64 n] [] [.ow EInt 3 (.slice a l.length c) l F] (fun (_ : PutS) => True) (fun s => .slice s.a (putI l n).length s.c) (fun s => [.ow EInt 3 (.slice s.a (putI l n).length s.c) (putI l n) s.F]) := by
  refine enter Tryz.func247 rfl Tryz.ntmps247 fun w0 => ?_
  refine go ?_; intros
  refine c_loopR [0, 1, 4] (fun k : Nat => [(5, .int .i64 (k : Nat))]) (fun k => k ≤ l.length ∧ ∀ j (_ : j < k) (hj : j < l.length), l[j] < n) (fun k => l.length - k) 0 ⟨Nat.zero_le _, fun j h => by omega⟩ fun k hk => ?_
  obtain ⟨hk1, hk2⟩ := hk
  refine go ?_; intros
  refine wg_if rfl rfl (fun h1 => ?_) (fun h1 => ?_)
  · have hh : k < l.length := by omega
    refine go ?_; intros
    refine focF (m := 1) scal_EInt k ?_ (by repeat (first | exact .here | apply Pick.there)) rfl hh
    rintro _ g A cs B rfl rfl hr hH
    obtain ⟨rfl, -⟩ := hr w0
    refine go ?_; intros
    refine unfF l[k] hH hr ?_
    rw [List.set_getElem_self]
    refine c_if rfl (fun h2 => ?_) (fun h2 => ?_)
    · refine go ?_; intros
      refine n_lp (k + 1) ⟨hh, fun j hj hl => ?_⟩ (by omega)
      rcases Nat.lt_or_eq_of_le (Nat.lt_succ_iff.1 hj) with h | rfl
      · exact hk2 j h hl
      · exact h2
    · have hp : placeI l n = k := placeI_eq hk1 hk2 (fun _ => h2)
      refine go ?_; intros
      refine wg_if rfl rfl (fun h4 => ?_) (fun h4 => absurd h1 h4)
      refine go ?_; intros
      refine focF (m := 1) scal_EInt k ?_ (by repeat (first | exact .here | apply Pick.there)) rfl hh
      rintro _ g A cs B e1 - hr hH
      cases e1
      obtain ⟨rfl, -⟩ := hr w0
      refine go ?_; intros
      refine unfF l[k] hH hr ?_
      rw [List.set_getElem_self]
      refine c_if rfl (fun h3 => ?_) (fun h3 => ?_)
      · have e : putI l n = l := by unfold putI; rw [hp, List.getElem?_eq_getElem hh, if_pos (by rw [h3])]
        rw [e]
        refine go ?_; intros
        refine ret ⟨_, _, _⟩ trivial rfl
      · have e : putI l n = l.take k ++ [n] ++ l.drop k := by unfold putI; rw [hp, List.getElem?_eq_getElem hh, if_neg (by simpa using h3)]; simp
        refine go ?_; intros
        refine t_read fun F5 => ?_
        refine t_stk k (by omega) fun F6 hc1 hc2 => ?_
        refine d_start [] [] ?_
        refine dt 1 ?_
        refine dt 2 ?_
        refine dt 3 ?_ (hy := yd_slt (i := k) rfl rfl rfl (by omega) (by omega))
        refine dt 5 ?_
        refine dt 8 ?_
        refine dt 9 ?_
        refine dsld 10 k fun a6 c6 F6 => ?_
        refine dO2 0 6 (by kernel_rfl) (by rw [List.getElem?_toArray]; rfl) (by rw [List.getElem?_toArray]; rfl) ?_ ?_
        · apply o_bs0; rfl; intro _
          refine t_emp EInt ?_
          refine dk ?_
          refine dO2 4 6 (by kernel_rfl) (by rw [List.getElem?_toArray]; rfl) (by rw [List.getElem?_toArray]; rfl) ?_ ?_
          · refine aps one_EInt scal_EInt (fun a2 c2 F2 => ?_) (hn := by rw [List.length_take]; omega) (h63 := by exact lenE) (hby := by exact lenE)
            refine dk ?_
            refine dO 6 (by kernel_rfl) (by rw [List.getElem?_toArray]; rfl) ?_
            apply o_bs; rfl; rfl; rfl; rfl; exact rptE; exact filE; intro _
            refine dk ?_
            refine dO 7 (by kernel_rfl) (by rw [List.getElem?_toArray]; rfl) ?_
            refine ap1 (rep_i n) one_EInt (fun a3 c3 F3 => ?_) (h63 := by exact lenE) (hby := by exact lenE)
            refine dk ?_
            refine dO 11 (by kernel_rfl) (by rw [List.getElem?_toArray]; rfl) ?_
            refine aps one_EInt scal_EInt (fun a4 c4 F4 => ?_) (h63 := by exact lenE) (hby := by exact lenE)
            refine dk ?_
            refine dt 12 ?_
            refine dd ?_
            rw [e]
            refine go ?_; intros
            refine ret ⟨_, _, _⟩ trivial rfl
          · apply o_bs; rfl; rfl; rfl; rfl; exact rptE; exact filE; intro _
            refine dk ?_
            refine dO 4 (by kernel_rfl) (by rw [List.getElem?_toArray]; rfl) ?_
            refine aps one_EInt scal_EInt (fun a2 c2 F2 => ?_) (hn := by rw [List.length_take]; omega) (h63 := by exact lenE) (hby := by exact lenE)
            refine dk ?_
            refine dO 7 (by kernel_rfl) (by rw [List.getElem?_toArray]; rfl) ?_
            refine ap1 (rep_i n) one_EInt (fun a3 c3 F3 => ?_) (h63 := by exact lenE) (hby := by exact lenE)
            refine dk ?_
            refine dO 11 (by kernel_rfl) (by rw [List.getElem?_toArray]; rfl) ?_
            refine aps one_EInt scal_EInt (fun a4 c4 F4 => ?_) (h63 := by exact lenE) (hby := by exact lenE)
            refine dk ?_
            refine dt 12 ?_
            refine dd ?_
            rw [e]
            refine go ?_; intros
            refine ret ⟨_, _, _⟩ trivial rfl
        · apply o_bs; rfl; rfl; rfl; rfl; exact rptE; exact filE; intro _
          refine dk ?_
          refine dO 0 (by kernel_rfl) (by rw [List.getElem?_toArray]; rfl) ?_
          apply o_bs0; rfl; intro _
          refine t_emp EInt ?_
          refine dk ?_
          refine dO 4 (by kernel_rfl) (by rw [List.getElem?_toArray]; rfl) ?_
          refine aps one_EInt scal_EInt (fun a2 c2 F2 => ?_) (hn := by rw [List.length_take]; omega) (h63 := by exact lenE) (hby := by exact lenE)
          refine dk ?_
          refine dO 7 (by kernel_rfl) (by rw [List.getElem?_toArray]; rfl) ?_
          refine ap1 (rep_i n) one_EInt (fun a3 c3 F3 => ?_) (h63 := by exact lenE) (hby := by exact lenE)
          refine dk ?_
          refine dO 11 (by kernel_rfl) (by rw [List.getElem?_toArray]; rfl) ?_
          refine aps one_EInt scal_EInt (fun a4 c4 F4 => ?_) (h63 := by exact lenE) (hby := by exact lenE)
          refine dk ?_
          refine dt 12 ?_
          refine dd ?_
          rw [e]
          refine go ?_; intros
          refine ret ⟨_, _, _⟩ trivial rfl
  · have hp : placeI l n = k := placeI_eq hk1 hk2 (fun h => by omega)
    have e : putI l n = l.take k ++ [n] ++ l.drop k := by unfold putI; rw [hp, List.getElem?_eq_none (by omega)]; simp
    refine go ?_; intros
    refine wg_if rfl rfl (fun h4 => absurd h4 h1) (fun h4 => ?_)
    refine go ?_; intros
    refine t_read fun F5 => ?_
    refine t_stk k (by omega) fun F6 hc1 hc2 => ?_
    refine d_start [] [] ?_
    refine dt 1 ?_
    refine dt 2 ?_
    refine dt 3 ?_ (hy := yd_slt (i := k) rfl rfl rfl (by omega) (by omega))
    refine dt 5 ?_
    refine dt 8 ?_
    refine dt 9 ?_
    refine dsld 10 k fun a6 c6 F6 => ?_
    refine dO2 0 6 (by kernel_rfl) (by rw [List.getElem?_toArray]; rfl) (by rw [List.getElem?_toArray]; rfl) ?_ ?_
    · apply o_bs0; rfl; intro _
      refine t_emp EInt ?_
      refine dk ?_
      refine dO2 4 6 (by kernel_rfl) (by rw [List.getElem?_toArray]; rfl) (by rw [List.getElem?_toArray]; rfl) ?_ ?_
      · refine aps one_EInt scal_EInt (fun a2 c2 F2 => ?_) (hn := by rw [List.length_take]; omega) (h63 := by exact lenE) (hby := by exact lenE)
        refine dk ?_
        refine dO 6 (by kernel_rfl) (by rw [List.getElem?_toArray]; rfl) ?_
        apply o_bs; rfl; rfl; rfl; rfl; exact rptE; exact filE; intro _
        refine dk ?_
        refine dO 7 (by kernel_rfl) (by rw [List.getElem?_toArray]; rfl) ?_
        refine ap1 (rep_i n) one_EInt (fun a3 c3 F3 => ?_) (h63 := by exact lenE) (hby := by exact lenE)
        refine dk ?_
        refine dO 11 (by kernel_rfl) (by rw [List.getElem?_toArray]; rfl) ?_
        refine aps one_EInt scal_EInt (fun a4 c4 F4 => ?_) (h63 := by exact lenE) (hby := by exact lenE)
        refine dk ?_
        refine dt 12 ?_
        refine dd ?_
        rw [e]
        refine go ?_; intros
        refine ret ⟨_, _, _⟩ trivial rfl
      · apply o_bs; rfl; rfl; rfl; rfl; exact rptE; exact filE; intro _
        refine dk ?_
        refine dO 4 (by kernel_rfl) (by rw [List.getElem?_toArray]; rfl) ?_
        refine aps one_EInt scal_EInt (fun a2 c2 F2 => ?_) (hn := by rw [List.length_take]; omega) (h63 := by exact lenE) (hby := by exact lenE)
        refine dk ?_
        refine dO 7 (by kernel_rfl) (by rw [List.getElem?_toArray]; rfl) ?_
        refine ap1 (rep_i n) one_EInt (fun a3 c3 F3 => ?_) (h63 := by exact lenE) (hby := by exact lenE)
        refine dk ?_
        refine dO 11 (by kernel_rfl) (by rw [List.getElem?_toArray]; rfl) ?_
        refine aps one_EInt scal_EInt (fun a4 c4 F4 => ?_) (h63 := by exact lenE) (hby := by exact lenE)
        refine dk ?_
        refine dt 12 ?_
        refine dd ?_
        rw [e]
        refine go ?_; intros
        refine ret ⟨_, _, _⟩ trivial rfl
    · apply o_bs; rfl; rfl; rfl; rfl; exact rptE; exact filE; intro _
      refine dk ?_
      refine dO 0 (by kernel_rfl) (by rw [List.getElem?_toArray]; rfl) ?_
      apply o_bs0; rfl; intro _
      refine t_emp EInt ?_
      refine dk ?_
      refine dO 4 (by kernel_rfl) (by rw [List.getElem?_toArray]; rfl) ?_
      refine aps one_EInt scal_EInt (fun a2 c2 F2 => ?_) (hn := by rw [List.length_take]; omega) (h63 := by exact lenE) (hby := by exact lenE)
      refine dk ?_
      refine dO 7 (by kernel_rfl) (by rw [List.getElem?_toArray]; rfl) ?_
      refine ap1 (rep_i n) one_EInt (fun a3 c3 F3 => ?_) (h63 := by exact lenE) (hby := by exact lenE)
      refine dk ?_
      refine dO 11 (by kernel_rfl) (by rw [List.getElem?_toArray]; rfl) ?_
      refine aps one_EInt scal_EInt (fun a4 c4 F4 => ?_) (h63 := by exact lenE) (hby := by exact lenE)
      refine dk ?_
      refine dt 12 ?_
      refine dd ?_
      rw [e]
      refine go ?_; intros
      refine ret ⟨_, _, _⟩ trivial rfl
end Go.Proofs.YtgogcgkocjpgoaaGreatDoor
/- Elements: requests and repairs of the reference. -/
namespace Go.Proofs.YtgogcgkocjpgoaaGreatDoor
open Go.RowKit
/-- an owned element, its value aS it stands -/
theorem clOE {c : Cx} {fr : Fr} {H S : List Pc} {Φ : Gl} (x : Element) {a : Option Addr} {n cp : Nat} {F : List Nat} (hn : n = x.entries.length) (h : T c fr (.own OElement (.agg #[.int .i64 x.clock, .slice a n cp]) x F :: S) Φ) (hp : Pick H (.ow OEntry 115 (.slice a n cp) x.entries F) S := by (repeat (first | exact .here | apply Pick.there)); first | done | fail) : T c fr H Φ := by
  subst hn; exact closeOElement x h hp
theorem reqE_yes {e : Element} {n f : Int} (h : atE e n < e.entries.length) : reqE e n f = ⟨e.clock, e.entries.set (atE e n) ⟨e.entries[atE e n].number, putI e.entries[atE e n].faces f, e.entries[atE e n].untl⟩⟩ := by unfold reqE; rw [List.getElem?_eq_getElem h]
theorem reqE_new {e : Element} {n f : Int} (h : e.entries[atE e n]? = none) (hl : e.entries.length < 5) : reqE e n f = ⟨e.clock, e.entries ++ [⟨n, [f], e.clock + 6⟩]⟩ := by unfold reqE; rw [h]; simp [hl]
theorem reqE_full {e : Element} {n f : Int} (h : e.entries[atE e n]? = none) (hl : ¬ e.entries.length < 5) : reqE e n f = e := by unfold reqE; rw [h]; simp [hl]
set_option maxRecDepth 100000 in
theorem l14Request_f (e : Element) (n f : Int) (v : Value) (F : List Nat) (hl : e.entries.length ≤ 1000000) (hf : ∀ x ∈ e.entries, x.faces.length ≤ 1000000) (hc0 : -1000000 ≤ e.clock) (hc1 : e.clock ≤ 1000000) : Fn Tryz.prog 184 [v, .int .i64 n, .int .i64 f] [.isv EElement v e F] [] (fun (_ : Value × List Nat) => True) (fun s => .tuple #[s.1, .bool (fwdE e n)]) (fun s => [.own OElement s.1 (reqE e n f) s.2]) := by
  refine enter Tryz.func184 rfl Tryz.ntmps184 fun w0 => ?_
  refine openElement ?_
  rintro a1 c1 F1 rfl l1
  refine go ?_; intros
  refine cv (fun w st => l14Own_c _ e _ w (st.get (p := .isv EElement (.agg #[.int .i64 e.clock, .slice a1 e.entries.length c1]) e F) (by simp)) (by omega) (fun x hx => Nat.le_trans (hf x hx) (by decide))) fun u FU => ?_
  refine openOElement ?_
  rintro a2 c2 F2 rfl l2
  refine go ?_; intros
  refine cf (l14Find_f e n _ F) fun _ _ => ?_
  refine t_app ?_
  rcases findE_or e n with ⟨h, e1, e2, e3⟩ | ⟨e1, e2, e3, e4⟩
  · rw [e1, e3, reqE_yes h]
    have hfx := hf e.entries[atE e n] (List.getElem_mem h)
    refine go ?_; intros
    refine focO (m := 3) (atE e n) ?_ rfl h
    rintro _ g A cs B k1 k2 G1 Gi G2 rfl - hc hH
    refine openOEntry ?_
    rintro a5 c5 F5 ev l5
    obtain rfl : cs = [.int .i64 e.entries[atE e n].number, .slice a5 e.entries[atE e n].faces.length c5, .int .i64 e.entries[atE e n].untl] := by simpa using ev
    refine go ?_; intros
    refine cf (l1Put_f _ f a5 c5 F5 hfx) fun z _ => ?_
    refine t_app ?_
    refine go ?_; intros
    refine closeOEntry ⟨e.entries[atE e n].number, putI e.entries[atE e n].faces f, e.entries[atE e n].untl⟩ ?_
    refine unfO _ hH rfl fun F6 => ?_
    refine clOE ⟨e.clock, _⟩ List.length_set.symm ?_
    refine ret (_, _) trivial rfl
  · rw [e1, e3]
    refine go ?_; intros
    refine c_if rfl (fun h5 => ?_) (fun h5 => ?_)
    · rw [reqE_new e2 (by omega)]
      refine go ?_; intros
      refine t_row (E := EInt) (xs := [f]) (rep_i f) ?_ (by simp)
      refine closeOEntry ⟨n, [f], e.clock + 6⟩ ?_
      apply wO
      refine ap1o one_OEntry ⟨n, [f], e.clock + 6⟩ rfl fun a3 c3 F3 => ?_
      refine go ?_; intros
      refine clOE ⟨e.clock, _⟩ rfl ?_
      refine ret (_, _) trivial rfl
    · rw [reqE_full e2 (by omega)]
      refine go ?_; intros
      refine clOE e rfl ?_
      refine ret (_, _) trivial rfl
end Go.Proofs.YtgogcgkocjpgoaaGreatDoor
/- Deleting in place: parts of a slice, a part put down further ahead in its own row. -/
namespace Go.Proofs.YtgogcgkocjpgoaaGreatDoor
open Go.RowKit
section
variable {P : Program} {n : Nat} {fr : Fr} {H : List Pc} {ty : TypeId} {x y z u : Operand}
end
section
variable {c : Cx} {fr : Fr} {H : List Pc} {k : List It} {Φ : Gl} {d : Nat} {ty : TypeId} {x y z u : Operand}
end
end Go.Proofs.YtgogcgkocjpgoaaGreatDoor
/- Deleting one entry, by its cells. -/
namespace Go.Proofs.YtgogcgkocjpgoaaGreatDoor
open Go.RowKit
end Go.Proofs.YtgogcgkocjpgoaaGreatDoor
/- Deleting out of lists of integers, by the engine. -/
namespace Go.Proofs.YtgogcgkocjpgoaaGreatDoor
open Go.RowKit
structure DfInt where
  i : Nat
  j : Nat
  zs : List Int
end Go.Proofs.YtgogcgkocjpgoaaGreatDoor
/- A row of our own that is only read from here on. -/
namespace Go.Proofs.YtgogcgkocjpgoaaGreatDoor
open Go.RowKit
end Go.Proofs.YtgogcgkocjpgoaaGreatDoor
/- Elements: requests and repairs in place. -/
namespace Go.Proofs.YtgogcgkocjpgoaaGreatDoor
open Go.RowKit
end Go.Proofs.YtgogcgkocjpgoaaGreatDoor
/- TakeRequest and TakeRepair, the program's and the reference's. -/
namespace Go.Proofs.YtgogcgkocjpgoaaGreatDoor
open Go.RowKit
end Go.Proofs.YtgogcgkocjpgoaaGreatDoor
/- Lists of numbers, compared by the laws. -/
namespace Go.Proofs.YtgogcgkocjpgoaaGreatDoor
open Go.RowKit
set_option maxRecDepth 100000 in
theorem vInts_f (v v2 : Value) (xs : List Int) (F F2 : List Nat) : Fn Tryz.prog 91 [v, v2] [.sl EInt v xs F, .sl EInt v2 xs F2] [] (fun (_ : Unit) => True) (fun _ => .bool true) (fun _ => []) := by
  refine enter Tryz.func91 rfl Tryz.ntmps91 fun w0 => ?_
  refine t_sl (v := v) (xs := xs) (F := F) ?_
  rintro a c rfl l1 l2
  refine t_sl (v := v2) (xs := xs) (F := F2) ?_
  rintro a2 c2 rfl l3 l4
  refine go ?_; intros
  refine c_if rfl (fun h => ?_) (fun h => ?_)
  · exact absurd rfl h
  refine go ?_; intros
  refine c_loopR [0, 1, 4] (fun k : Nat => [(5, .int .i64 k)]) (fun k => k ≤ xs.length) (fun k => xs.length - k) 0 (Nat.zero_le _) fun k hk => ?_
  refine go ?_; intros
  refine c_if rfl (fun h3 => ?_) (fun h3 => ?_)
  · have hk3 : k < xs.length := by omega
    refine at_int (a := a) (xs := xs) k ?_
    rintro hi b o e
    rw [e]
    refine at_int (a := a2) (xs := xs) k ?_
    rintro hi2 b2 o2 e2
    rw [e2]
    refine goN ?_; intros
    refine d_start [0, 1] [] ?_
    refine dt 0 ?_
    refine dt 1 ?_
    refine dt 2 ?_
    refine dt 3 ?_
    refine dt 4 ?_
    refine dt 5 ?_
    refine dt 6 ?_
    refine dt 7 ?_
    refine dt 8 ?_
    refine dd ?_
    refine go ?_; intros
    refine c_if rfl (fun h4 => ?_) (fun h4 => ?_)
    · exact absurd rfl h4
    refine go ?_; intros
    refine n_lp (k + 1) hk3 (by omega)
  · refine go ?_; intros
    refine ret () trivial rfl
end Go.Proofs.YtgogcgkocjpgoaaGreatDoor
/- Elements: compared, looked at. -/
namespace Go.Proofs.YtgogcgkocjpgoaaGreatDoor
open Go.RowKit
set_option maxRecDepth 100000 in
theorem vElement_f (v v2 : Value) (e : Element) (F F2 : List Nat) : Fn Tryz.prog 15 [v, v2] [.isv EElement v e F, .isv EElement v2 e F2] [] (fun (_ : Unit) => True) (fun _ => .bool true) (fun _ => []) := by
  refine enter Tryz.func15 rfl Tryz.ntmps15 fun w0 => ?_
  refine openElement (v := v) (x := e) (F := F) ?_
  rintro a1 c1 F3 rfl l1
  unfold maxLen at l1
  refine openElement (v := v2) (x := e) (F := F2) ?_
  rintro a2 c2 F4 rfl l2
  refine go ?_; intros
  refine wg_if rfl rfl (fun h1 => ?_) (fun h1 => ?_)
  · exact absurd rfl h1
  refine go ?_; intros
  refine c_if rfl (fun h2 => ?_) (fun h2 => ?_)
  · exact absurd rfl h2
  refine go ?_; intros
  refine c_loopR [2, 3, 4] (fun k : Nat => [(5, .int .i64 (k : Nat))]) (fun k => k ≤ e.entries.length) (fun k => e.entries.length - k) 0 (Nat.zero_le _) fun k hk => ?_
  refine go ?_; intros
  refine c_if rfl (fun h3 => ?_) (fun h3 => ?_)
  · have hk3 : k < e.entries.length := by omega
    refine atEntry (a := a1) (xs := e.entries) k ?_
    rintro hi b o a5 c5 F5 e6 l5
    rw [e6]
    refine atEntry (a := a2) (xs := e.entries) k ?_
    rintro hi2 b2 o2 a7 c7 F7 e8 l7
    rw [e8]
    refine go ?_; intros
    refine d_start [0, 2, 4, 5] [] ?_
    refine dt 0 ?_
    refine dt 1 ?_
    refine dt 2 ?_
    refine dt 3 ?_
    refine dt 4 ?_
    refine dt 5 ?_
    refine dt 6 ?_
    refine dt 7 ?_
    refine dt 8 ?_
    refine dt 9 ?_
    refine dO2 10 11 (by kernel_rfl) (by rw [List.getElem?_toArray]; rfl) (by rw [List.getElem?_toArray]; rfl) ?_ ?_
    · apply o_alloc; rfl; intro _
      refine dk ?_
      refine dO 11 (by kernel_rfl) (by rw [List.getElem?_toArray]; rfl) ?_
      apply o_alloc; rfl; intro _
      refine dk ?_
      refine dO 12 (by kernel_rfl) (by rw [List.getElem?_toArray]; rfl) ?_
      apply o_st; rfl; rfl; rfl; (first | exact AggC.s | exact OneC.s); rfl; exact rplE; exact putE; rfl
      refine dk ?_
      refine dO 13 (by kernel_rfl) (by rw [List.getElem?_toArray]; rfl) ?_
      apply o_st; rfl; rfl; rfl; (first | exact AggC.s | exact OneC.s); rfl; exact rplE; exact putE; rfl
      refine dk ?_
      refine dd ?_
      refine go ?_; intros
      refine wg_if rfl rfl (fun h4 => ?_) (fun h4 => ?_)
      · exact absurd rfl h4
      refine go ?_; intros
      refine wg_if rfl rfl (fun h5 => ?_) (fun h5 => ?_)
      · exact absurd rfl h5
      refine go ?_; intros
      refine cf (vInts_f _ _ e.entries[k].faces F5 F7) fun _ _ => ?_
      refine t_app ?_
      refine go ?_; intros
      refine n_lp (k + 1) (by omega) (by omega)
    · apply o_alloc; rfl; intro _
      refine dk ?_
      refine dO 10 (by kernel_rfl) (by rw [List.getElem?_toArray]; rfl) ?_
      apply o_alloc; rfl; intro _
      refine dk ?_
      refine dO 12 (by kernel_rfl) (by rw [List.getElem?_toArray]; rfl) ?_
      apply o_st; rfl; rfl; rfl; (first | exact AggC.s | exact OneC.s); rfl; exact rplE; exact putE; rfl
      refine dk ?_
      refine dO 13 (by kernel_rfl) (by rw [List.getElem?_toArray]; rfl) ?_
      apply o_st; rfl; rfl; rfl; (first | exact AggC.s | exact OneC.s); rfl; exact rplE; exact putE; rfl
      refine dk ?_
      refine dd ?_
      refine go ?_; intros
      refine wg_if rfl rfl (fun h4 => ?_) (fun h4 => ?_)
      · exact absurd rfl h4
      refine go ?_; intros
      refine wg_if rfl rfl (fun h5 => ?_) (fun h5 => ?_)
      · exact absurd rfl h5
      refine go ?_; intros
      refine cf (vInts_f _ _ e.entries[k].faces F5 F7) fun _ _ => ?_
      refine t_app ?_
      refine go ?_; intros
      refine n_lp (k + 1) (by omega) (by omega)
  · refine go ?_; intros
    refine ret () trivial rfl
end Go.Proofs.YtgogcgkocjpgoaaGreatDoor
/- A bound on marks. -/
namespace Go.Proofs.YtgogcgkocjpgoaaGreatDoor
end Go.Proofs.YtgogcgkocjpgoaaGreatDoor
/- Elements: bounds on marks; plain. -/
namespace Go.Proofs.YtgogcgkocjpgoaaGreatDoor
open Go.RowKit
theorem isv_weak {α : Type} {O R : Elem α} (hW : Weak O R) {w : World} {v : Value} {x : α} {F : List Nat} (h : IsV O w v x F) : ∃ F', (∀ b ∈ F', b ∈ F) ∧ IsV R w v x F' := by
  obtain ⟨cs, hv, h⟩ := h
  obtain ⟨F', h1, h2⟩ := hW.rep h
  exact ⟨F', h1, cs, hv, h2⟩
theorem putI_len (l : List Int) (n : Int) : (putI l n).length ≤ l.length + 1 := by
  unfold putI
  split
  · omega
  · simp only [List.length_append, List.length_take, List.length_cons, List.length_drop]; omega
end Go.Proofs.YtgogcgkocjpgoaaGreatDoor
/- Elements: that they stay valid, what stands in them behind a request and a repair; plain laws. -/
namespace Go.Proofs.YtgogcgkocjpgoaaGreatDoor
open Go.RowKit
theorem goodE_iff {e : Element} : goodElement e = true ↔ isClk e.clock = true ∧ e.entries.length ≤ 5 ∧ (∀ x ∈ e.entries, okEntry e.clock x = true) ∧ e.entries.Pairwise fun a b => a.number ≠ b.number := by
  unfold goodElement
  simp only [Bool.and_eq_true, decide_eq_true_eq]
  constructor
  · rintro ⟨⟨h1, h2⟩, h3⟩
    refine ⟨h1, h2, fun x hx => ?_, List.pairwise_iff_getElem.2 fun i j hi hj hij => ?_⟩
    · obtain ⟨i, hi, rfl⟩ := List.getElem_of_mem hx
      have := allUpTo_get h3 i hi
      rw [entAt_of hi, Bool.and_eq_true] at this
      exact this.1
    · have := allUpTo_get h3 j hj
      rw [entAt_of hj, Bool.and_eq_true, Bool.not_eq_true', List.any_eq_false] at this
      have := this.2 e.entries[i] (List.mem_take_iff_getElem.2 ⟨i, by omega, rfl⟩)
      simpa using this
  · rintro ⟨h1, h2, h3, h4⟩
    refine ⟨⟨h1, h2⟩, allUpTo_yes fun i hi => ?_⟩
    rw [entAt_of hi, h3 _ (List.getElem_mem hi), Bool.true_and, Bool.not_eq_true', List.any_eq_false]
    intro x hx
    obtain ⟨j, hj, rfl⟩ := List.mem_take_iff_getElem.1 hx
    have := List.pairwise_iff_getElem.1 h4 j i (by omega) hi (by omega)
    simpa using this
theorem okEntry_iff {c : Int} {x : Entry} : okEntry c x = true ↔ isSer x.number = true ∧ 0 < x.faces.length ∧ (x.faces.Pairwise (· < ·) ∧ ∀ z ∈ x.faces, 1 ≤ z ∧ z ≤ 7) ∧ c + 1 ≤ x.untl ∧ x.untl ≤ c + 6 := by
  unfold okEntry btw
  simp only [Bool.and_eq_true, decide_eq_true_eq]
  exact ⟨fun ⟨a, b, c, d⟩ => ⟨a, b, rising_pw c, d⟩, fun ⟨a, b, c, d⟩ => ⟨a, b, pw_rising c.1 c.2, d⟩⟩
end Go.Proofs.YtgogcgkocjpgoaaGreatDoor
/- Elements: their texts, and that they come back out of them; what ticks leave. Plain. -/
namespace Go.Proofs.YtgogcgkocjpgoaaGreatDoor
open Go.RowKit
theorem idxS_at (b : UInt8) (r : Bs) : ∀ x : Bs, (∀ c ∈ x, c ≠ b) → Lib.index (x ++ b :: 32 :: r) [b, 32] = x.length
  | [], _ => by simp [Lib.index]
  | c :: x, h => by
    have ih := idxS_at b r x (fun d hd => h d (by simp [hd]))
    have hc : ¬ b = c := fun e => h c (by simp) e.symm
    rw [List.cons_append, Lib.index, if_neg (by simp [hc]), ih, if_neg (by simp <;> omega)]
    simp
theorem idxS_no (b : UInt8) : ∀ x : Bs, (∀ c ∈ x, c ≠ b) → Lib.index x [b, 32] = -1
  | [], _ => by simp [Lib.index]
  | c :: x, h => by
    have ih := idxS_no b x (fun d hd => h d (by simp [hd]))
    have hc : ¬ b = c := fun e => h c (by simp) e.symm
    rw [Lib.index, if_neg (by simp [hc]), ih]; rfl
def jnS (b : UInt8) (W : List Bs) : Bs := (W.map fun w => b :: 32 :: w).flatten
theorem splitS2 (b : UInt8) : ∀ (W : List Bs) (u : Bs), (∀ c ∈ u, c ≠ b) → (∀ w ∈ W, ∀ c ∈ w, c ≠ b) → Lib.splitB ⟨#[b, 32]⟩ 0 (Lib.countB (bz (u ++ jnS b W)) ⟨#[b, 32]⟩) (bz (u ++ jnS b W)) = (u :: W).map bz
  | [], u, hu, _ => by
    have hi : Lib.indexB (bz (u ++ jnS b [])) ⟨#[b, 32]⟩ = -1 := by
      unfold Lib.indexB
      rw [bz_list, show jnS b [] = [] from rfl, List.append_nil]
      exact idxS_no b u hu
    rw [Lib.countB_miss _ _ hi, Lib.splitB_zero, show jnS b [] = [] from rfl, List.append_nil]; rfl
  | w :: W, u, hu, hW => by
    have e : u ++ jnS b (w :: W) = u ++ b :: 32 :: (w ++ jnS b W) := by simp [jnS]
    have hi : Lib.indexB (bz (u ++ jnS b (w :: W))) ⟨#[b, 32]⟩ = (u.length : Int) := by
      unfold Lib.indexB
      rw [bz_list, e]
      exact idxS_at b (w ++ jnS b W) u hu
    have e1 : (bz (u ++ jnS b (w :: W))).extract 0 (u.length + 0) = bz u := by
      rw [← bz_of (ByteArray.extract _ _ _), Lib.extract_from_zero, bz_list, Nat.add_zero, List.take_left]
    have e2 : (bz (u ++ jnS b (w :: W))).extract (u.length + (⟨#[b, 32]⟩ : ByteArray).size) (bz (u ++ jnS b (w :: W))).size = bz (w ++ jnS b W) := by
      rw [← bz_of (ByteArray.extract _ _ _)]
      congr 1
      rw [Lib.extract_data, bz_list, e, bz_size, show (⟨#[b, 32]⟩ : ByteArray).size = 2 from rfl, show u ++ b :: 32 :: (w ++ jnS b W) = (u ++ [b, 32]) ++ (w ++ jnS b W) by simp, List.drop_left' (by simp)]
      exact List.take_of_length_le (by simp; omega)
    rw [Lib.countB_hit _ _ _ (by simp [ByteArray.size]) hi, e2, Nat.add_comm, Lib.splitB_hit _ _ _ _ _ hi, e1, e2, splitS2 b W w (hW w (by simp)) (fun v hv => hW v (by simp [hv]))]
    rfl
/-- faces aS digits -/
def facB (l : List Int) : Bs := (l.map Lib.itoa).flatten
def fcB (l : Bs) : List Int := l.map fun c => (c.toNat : Int) - 48
def entB (x : Entry) : Bs := Lib.itoa x.number ++ jnB [[102, 111, 114], facB x.faces, [117, 110, 116, 105, 108], Lib.itoa x.untl]
def tailE (l : List Entry) : Bs := jnS 59 (l.map entB)
def elB (e : Element) : Bs := Lib.itoa e.clock ++ tailE e.entries
/-- the text -/
def elT (e : Element) : ByteArray := bz (elB e)
theorem itoa_dig {n : Int} (h : 0 ≤ n) : dig (Lib.itoa n) := by rw [itoa_nat h]; exact digit_mem _
theorem itoa_one {n : Int} (h0 : 0 ≤ n) (h1 : n ≤ 9) : Lib.itoa n = [UInt8.ofNat (48 + n.toNat)] := by
  rw [itoa_nat h0, Lib.decDigits, dif_pos (by omega), show n.natAbs = n.toNat by omega]
theorem facB_cons (f : Int) (l : List Int) : facB (f :: l) = Lib.itoa f ++ facB l := by unfold facB; simp
theorem facB_back : ∀ {l : List Int}, (∀ f ∈ l, 1 ≤ f ∧ f ≤ 7) → fcB (facB l) = l ∧ dig (facB l) ∧ (facB l).length = l.length
  | [], _ => ⟨rfl, (by intro c h; cases h), rfl⟩
  | f :: l, h => by
    obtain ⟨a, b, c⟩ := facB_back (l := l) fun g hg => h g (by simp [hg])
    have hf := h f (by simp)
    have hd := digU f.toNat (by omega)
    rw [facB_cons, itoa_one (by omega) (by omega)]
    have hf2 : ((48 + f.toNat : Nat) : Int) - 48 = f := by omega
    refine ⟨?_, ?_, ?_⟩
    · show ((((UInt8.ofNat (48 + f.toNat)).toNat : Nat) : Int) - 48) :: fcB (facB l) = f :: l
      rw [a, hd, hf2]
    · intro d hm
      rcases List.mem_cons.1 hm with rfl | hm
      · rw [hd]; omega
      · exact b d hm
    · simp [c]
structure GoodX (c : Int) (x : Entry) : Prop where
  n0 : 0 ≤ x.number
  n1 : x.number ≤ 65535
  f : ∀ f ∈ x.faces, 1 ≤ f ∧ f ≤ 7
  p : 0 < x.faces.length
  l : x.faces.length ≤ 7
  u0 : c + 1 ≤ x.untl
  u1 : x.untl ≤ c + 6
theorem goodX {e : Element} (h : goodElement e = true) {x : Entry} (hx : x ∈ e.entries) : GoodX e.clock x := by
  have h2 := okEntry_iff.1 ((goodE_iff.1 h).2.2.1 x hx)
  obtain ⟨h3, h4, ⟨h5, h6⟩, h7, h8⟩ := h2
  unfold isSer btw at h3
  simp only [Bool.and_eq_true, decide_eq_true_eq] at h3
  exact ⟨h3.1, h3.2, h6, h4, (good_room h).2.2 x hx, h7, h8⟩
theorem goodC {e : Element} (h : goodElement e = true) : 0 ≤ e.clock ∧ e.clock ≤ 9999 := isClk_iff.1 (goodE_iff.1 h).1
theorem lit_ne {b : UInt8} (hb : b = 32 ∨ b = 59) {l : Bs} (h : 32 ∉ l ∧ 59 ∉ l) : ∀ c ∈ l, c ≠ b := fun c hc e => by
  subst e
  rcases hb with rfl | rfl
  · exact h.1 hc
  · exact h.2 hc
theorem dig_ne {b : UInt8} (hb : b = 32 ∨ b = 59) {l : Bs} (h : dig l) : ∀ c ∈ l, c ≠ b := ne_of b (by rcases hb with rfl | rfl <;> decide) h
theorem entW_ne {c0 : Int} {x : Entry} (hc : 0 ≤ c0) (g : GoodX c0 x) {b : UInt8} (hb : b = 32 ∨ b = 59) : ∀ w ∈ [[102, 111, 114], facB x.faces, [117, 110, 116, 105, 108], Lib.itoa x.untl], ∀ c ∈ w, c ≠ b := by
  have := g.u0
  intro w hw
  simp only [List.mem_cons, List.not_mem_nil, or_false] at hw
  rcases hw with rfl | rfl | rfl | rfl
  · exact lit_ne hb (by decide)
  · exact dig_ne hb (facB_back g.f).2.1
  · exact lit_ne hb (by decide)
  · exact dig_ne hb (itoa_dig (by omega))
theorem split_ent {c0 : Int} {x : Entry} (hc : 0 ≤ c0) (g : GoodX c0 x) : splitL 32 (entB x) = [Lib.itoa x.number, [102, 111, 114], facB x.faces, [117, 110, 116, 105, 108], Lib.itoa x.untl] :=
  splitL_join 32 _ _ (dig_ne (.inl rfl) (itoa_dig g.n0)) (entW_ne hc g (.inl rfl))
theorem split_ent1 {c0 : Int} {x : Entry} (hc : 0 ≤ c0) (g : GoodX c0 x) : splitL 32 (32 :: entB x) = [[], Lib.itoa x.number, [102, 111, 114], facB x.faces, [117, 110, 116, 105, 108], Lib.itoa x.untl] := by
  have := splitL_at (b := 32) (x := []) (entB x) (by intro c h; cases h)
  rw [List.nil_append, split_ent hc g] at this
  exact this
theorem entB_ne {c0 : Int} {x : Entry} (hc : 0 ≤ c0) (g : GoodX c0 x) : ∀ c ∈ entB x, c ≠ 59 := by
  intro c h
  unfold entB jnB at h
  rcases List.mem_append.1 h with h | h
  · exact dig_ne (.inr rfl) (itoa_dig g.n0) c h
  · obtain ⟨w, hw, h⟩ := List.mem_flatten.1 h
    obtain ⟨u, hu, rfl⟩ := List.mem_map.1 hw
    rcases List.mem_cons.1 h with rfl | h
    · decide
    · exact entW_ne hc g (.inr rfl) u hu c h
theorem itoa_len {n : Int} {k : Nat} (h0 : 0 ≤ n) (h1 : n.natAbs < 10 ^ (k + 1)) : (Lib.itoa n).length ≤ k + 1 := by rw [itoa_nat h0]; exact digit_len k _ h1
theorem entB_len {c0 : Int} {x : Entry} (hc : 0 ≤ c0) (hc1 : c0 ≤ 9999) (g : GoodX c0 x) : (entB x).length ≤ 29 := by
  have h1 := itoa_len (n := x.number) (k := 4) g.n0 (by have := g.n0; have := g.n1; omega)
  have h2 := itoa_len (n := x.untl) (k := 4) (by have := g.u0; omega) (by have := g.u0; have := g.u1; omega)
  have h3 := (facB_back g.f).2.2
  have h4 := g.l
  unfold entB jnB
  simp only [List.map_cons, List.map_nil, List.flatten_cons, List.flatten_nil, List.length_append, List.length_cons, List.length_nil]
  omega
theorem jnS_len {b : UInt8} {k : Nat} : ∀ {W : List Bs}, (∀ w ∈ W, w.length ≤ k) → (jnS b W).length ≤ (k + 2) * W.length
  | [], _ => by simp [jnS]
  | w :: W, h => by
    have ih := jnS_len (b := b) (k := k) (W := W) fun v hv => h v (by simp [hv])
    have := h w (by simp)
    unfold jnS at ih ⊢
    simp only [List.map_cons, List.flatten_cons, List.length_append, List.length_cons]
    rw [Nat.mul_succ]; omega
theorem tailE_len {e : Element} (hg : goodElement e = true) (k : Nat) : (tailE (e.entries.take k)).length ≤ 155 := by
  have hc := goodC hg
  have h5 := (good_room hg).2.1
  have := jnS_len (b := 59) (k := 29) (W := (e.entries.take k).map entB) (by
    intro w hw
    obtain ⟨x, hx, rfl⟩ := List.mem_map.1 hw
    exact entB_len hc.1 hc.2 (goodX hg (List.mem_of_mem_take hx)))
  unfold tailE
  rw [List.length_map, List.length_take] at this
  have h6 : (29 + 2) * min k e.entries.length ≤ 31 * 5 := Nat.mul_le_mul (Nat.le_refl _) (by omega)
  omega
theorem clk_len {e : Element} (hg : goodElement e = true) : (Lib.itoa e.clock).length ≤ 4 := itoa_len (k := 3) (goodC hg).1 (by have := goodC hg; omega)
theorem elT_size {e : Element} (hg : goodElement e = true) : (elT e).size ≤ 159 := by
  have h1 := tailE_len hg e.entries.length
  have h2 := clk_len hg
  rw [List.take_length] at h1
  unfold elT elB
  rw [bz_size, List.length_append]; omega
/-- how the program reads a part -/
def peI (t : Bs) : Entry × Bool :=
  let ws := splitL 32 t
  if decide (ws.length = 5) && (resPI (bz (atW ws 0))).2 && (resPI (bz (atW ws 4))).2 then (⟨(resPI (bz (atW ws 0))).1, fcB (atW ws 2), (resPI (bz (atW ws 4))).1⟩, true) else (⟨0, [], 0⟩, false)
/-- how the reference reads it -/
def six (t : Bs) : Bool := decide ((splitL 32 t).length = 6)
def peS (t : Bs) : Entry × Bool := (⟨(resPI (bz (atW (splitL 32 t) 1))).1, fcB (atW (splitL 32 t) 3), (resPI (bz (atW (splitL 32 t) 5))).1⟩, (resPI (bz (atW (splitL 32 t) 1))).2 && (resPI (bz (atW (splitL 32 t) 5))).2)
def ptI (s : ByteArray) : List Bs := (Lib.splitB ⟨#[59, 32]⟩ 0 (Lib.countB s ⟨#[59, 32]⟩) s).map fun t => t.data.toList
def ptS (s : ByteArray) : List Bs := splitL 59 s.data.toList
def restS (s : ByteArray) : List Bs := if 200 < s.size then [] else (ptS s).drop 1
def elI (s : ByteArray) : Element := ⟨(resPI (bz (atW (ptI s) 0))).1, ((ptI s).drop 1).map fun t => (peI t).1⟩
def elS (s : ByteArray) : Element := ⟨(resPI (bz (atW (ptS s) 0))).1, (restS s).map fun t => (peS t).1⟩
def okPEI (s : ByteArray) : Bool := (resPI (bz (atW (ptI s) 0))).2 && ((ptI s).drop 1).all (fun t => (peI t).2) && goodElement (elI s) && decide (elT (elI s) = s)
def okPES (s : ByteArray) : Bool := (restS s).all six && ((resPI (bz (atW (ptS s) 0))).2 && (restS s).all (fun t => (peS t).2)) && goodElement (elS s) && decide (elT (elS s) = s)
def resPE (s : ByteArray) : Element × Bool := if okPEI s then (elI s, true) else (⟨0, []⟩, false)
theorem peI_back {c0 : Int} {x : Entry} (hc : 0 ≤ c0) (hc1 : c0 ≤ 9999) (g : GoodX c0 x) : peI (entB x) = (x, true) := by
  unfold peI
  rw [split_ent hc g]
  have h1 := resPI_itoa (v := x.number) (by have := g.n0; omega) (by have := g.n1; omega)
  have h2 := resPI_itoa (v := x.untl) (by have := g.u0; omega) (by have := g.u1; omega)
  show (if true && (resPI (bz (Lib.itoa x.number))).2 && (resPI (bz (Lib.itoa x.untl))).2 then ((⟨(resPI (bz (Lib.itoa x.number))).1, fcB (facB x.faces), (resPI (bz (Lib.itoa x.untl))).1⟩ : Entry), true) else (⟨0, [], 0⟩, false)) = (x, true)
  rw [h1, h2, (facB_back g.f).1]; rfl
theorem peS_back {c0 : Int} {x : Entry} (hc : 0 ≤ c0) (hc1 : c0 ≤ 9999) (g : GoodX c0 x) : peS (32 :: entB x) = (x, true) ∧ six (32 :: entB x) = true := by
  have h1 := resPI_itoa (v := x.number) (by have := g.n0; omega) (by have := g.n1; omega)
  have h2 := resPI_itoa (v := x.untl) (by have := g.u0; omega) (by have := g.u1; omega)
  unfold peS six
  rw [split_ent1 hc g]
  refine ⟨?_, rfl⟩
  show ((⟨(resPI (bz (Lib.itoa x.number))).1, fcB (facB x.faces), (resPI (bz (Lib.itoa x.untl))).1⟩ : Entry), (resPI (bz (Lib.itoa x.number))).2 && (resPI (bz (Lib.itoa x.untl))).2) = (x, true)
  rw [h1, h2, (facB_back g.f).1]; rfl
theorem ptI_el {e : Element} (hg : goodElement e = true) : ptI (elT e) = Lib.itoa e.clock :: e.entries.map entB := by
  unfold ptI elT elB tailE
  rw [splitS2 59 _ _ (dig_ne (.inr rfl) (itoa_dig (goodC hg).1)) (by
    intro w hw
    obtain ⟨x, hx, rfl⟩ := List.mem_map.1 hw
    exact entB_ne (goodC hg).1 (goodX hg hx))]
  simp [bz_list]
theorem ptS_el {e : Element} (hg : goodElement e = true) : ptS (elT e) = Lib.itoa e.clock :: e.entries.map fun x => 32 :: entB x := by
  unfold ptS elT elB tailE
  rw [bz_list]
  have : jnS 59 (e.entries.map entB) = ((e.entries.map fun x => 32 :: entB x).map fun w => 59 :: w).flatten := by unfold jnS; simp [List.map_map, Function.comp_def]
  rw [this]
  refine splitL_join 59 _ _ (dig_ne (.inr rfl) (itoa_dig (goodC hg).1)) fun w hw => ?_
  obtain ⟨x, hx, rfl⟩ := List.mem_map.1 hw
  intro c hc
  rcases List.mem_cons.1 hc with rfl | hc
  · decide
  · exact entB_ne (goodC hg).1 (goodX hg hx) c hc
theorem map_back {α β : Type} {f : α → β} {g : β → α} : ∀ {l : List α}, (∀ x ∈ l, g (f x) = x) → (l.map f).map g = l
  | [], _ => rfl
  | x :: l, h => by
    simp only [List.map_cons]
    rw [h x (by simp), map_back fun y hy => h y (by simp [hy])]
theorem okPEI_el {e : Element} (hg : goodElement e = true) : okPEI (elT e) = true ∧ elI (elT e) = e := by
  have hc := goodC hg
  have hr := resPI_itoa (v := e.clock) (by omega) (by omega)
  have he : elI (elT e) = e := by
    unfold elI
    rw [ptI_el hg]
    show (⟨(resPI (bz (Lib.itoa e.clock))).1, (e.entries.map entB).map fun t => (peI t).1⟩ : Element) = e
    rw [hr, map_back fun x hx => by rw [peI_back hc.1 hc.2 (goodX hg hx)]]
  refine ⟨?_, he⟩
  unfold okPEI
  rw [he, hg, decide_eq_true rfl, ptI_el hg]
  show ((resPI (bz (Lib.itoa e.clock))).2 && (e.entries.map entB).all (fun t => (peI t).2) && true && true) = true
  rw [hr, List.all_map, List.all_eq_true.2 fun x hx => by show (peI (entB x)).2 = true; rw [peI_back hc.1 hc.2 (goodX hg hx)]]; rfl
theorem okPES_el {e : Element} (hg : goodElement e = true) : okPES (elT e) = true ∧ elS (elT e) = e := by
  have hc := goodC hg
  have hr := resPI_itoa (v := e.clock) (by omega) (by omega)
  have hs := elT_size hg
  have hre : restS (elT e) = e.entries.map fun x => 32 :: entB x := by
    unfold restS
    rw [if_neg (by omega), ptS_el hg]; rfl
  have he : elS (elT e) = e := by
    unfold elS
    rw [hre, ptS_el hg]
    show (⟨(resPI (bz (Lib.itoa e.clock))).1, (e.entries.map fun x => 32 :: entB x).map fun t => (peS t).1⟩ : Element) = e
    rw [hr, map_back fun x hx => by rw [(peS_back hc.1 hc.2 (goodX hg hx)).1]]
  refine ⟨?_, he⟩
  unfold okPES
  rw [he, hg, decide_eq_true rfl, hre, ptS_el hg]
  show ((e.entries.map fun x => 32 :: entB x).all six && ((resPI (bz (Lib.itoa e.clock))).2 && (e.entries.map fun x => 32 :: entB x).all (fun t => (peS t).2)) && true && true) = true
  rw [hr, List.all_map, List.all_map, List.all_eq_true.2 fun x hx => by show six (32 :: entB x) = true; exact (peS_back hc.1 hc.2 (goodX hg hx)).2, List.all_eq_true.2 fun x hx => by show (peS (32 :: entB x)).2 = true; rw [(peS_back hc.1 hc.2 (goodX hg hx)).1]]; rfl
/-- the reference's answer is the program's -/
theorem resPE_S (s : ByteArray) : (if okPES s then (elS s, true) else ((⟨0, []⟩ : Element), false)) = resPE s := by
  unfold resPE
  cases h : okPES s
  · cases h2 : okPEI s
    · rfl
    · unfold okPEI at h2
      simp only [Bool.and_eq_true, decide_eq_true_eq] at h2
      obtain ⟨⟨-, hg⟩, e⟩ := h2
      rw [← e, (okPES_el hg).1] at h
      cases h
  · have h0 := h
    unfold okPES at h
    simp only [Bool.and_eq_true, decide_eq_true_eq] at h
    obtain ⟨⟨-, hg⟩, e⟩ := h
    have h2 := okPEI_el hg
    rw [e] at h2
    rw [h2.1, h2.2]
theorem resPE_back {e : Element} (hg : goodElement e = true) : resPE (elT e) = (e, true) := by
  unfold resPE
  rw [(okPEI_el hg).1, (okPEI_el hg).2]; rfl
/-- what is read is valid, and has this text -/
theorem resPE_text {s : ByteArray} (h : (resPE s).2 = true) : goodElement (resPE s).1 = true ∧ elT (resPE s).1 = s := by
  unfold resPE at h ⊢
  cases h2 : okPEI s
  · rw [h2] at h; cases h
  · unfold okPEI at h2
    simp only [Bool.and_eq_true, decide_eq_true_eq] at h2
    exact ⟨h2.1.2, h2.2⟩
def resET (e : Element) : ByteArray × Bool := if goodElement e then (elT e, true) else (⟨#[]⟩, false)
def resOld (e : Element) : Int × Int × Bool := match e.entries with
  | [] => (0, 0, false)
  | x :: _ => if goodElement e then (x.number, x.untl - e.clock, true) else (0, 0, false)
/-- a tick leaves a valid element valid -/
theorem good_tickE {e : Element} (h : goodElement e = true) (hc : e.clock < 9999) : goodElement (tickElement e) = true := by
  obtain ⟨h1, h2, h3, h4⟩ := goodE_iff.1 h
  have h5 := isClk_iff.1 h1
  unfold tickElement
  refine goodE_iff.2 ⟨isClk_iff.2 ⟨by show 0 ≤ e.clock + 1; omega, by show e.clock + 1 ≤ 9999; omega⟩, Nat.le_trans (List.length_filter_le _ _) h2, fun x hx => ?_, h4.filter _⟩
  obtain ⟨hx1, hx2⟩ := List.mem_filter.1 hx
  obtain ⟨a, b, c, d, f⟩ := okEntry_iff.1 (h3 x hx1)
  simp only [Bool.not_eq_true', decide_eq_false_iff_not] at hx2
  exact okEntry_iff.2 ⟨a, b, c, by show e.clock + 1 + 1 ≤ x.untl; omega, by show x.untl ≤ e.clock + 1 + 6; omega⟩
/-- an element k ticks later -/
structure Aged (e : Element) (k : Nat) (y : Element) : Prop where
  g : goodElement y = true
  c : y.clock = e.clock + (k : Int)
  u : ∀ x ∈ y.entries, x.untl ≤ e.clock + 6
theorem aged_zero {e : Element} (h : goodElement e = true) : Aged e 0 e := ⟨h, by omega, fun _ hx => (goodX h hx).u1⟩
theorem aged_succ {e y : Element} {k : Nat} (h : Aged e k y) (hk : e.clock + (k : Int) < 9999) : Aged e (k + 1) (tickElement y) := by
  refine ⟨good_tickE h.g (by rw [h.c]; exact hk), by show y.clock + 1 = _; rw [h.c]; omega, fun x hx => h.u x (List.mem_filter.1 hx).1⟩
theorem aged_six {e y : Element} (h : Aged e 6 y) : y.entries = [] := by
  refine List.eq_nil_iff_forall_not_mem.2 fun x hx => ?_
  have h1 := (goodX h.g hx).u0
  have h2 := h.u x hx
  have h3 := h.c
  omega
end Go.Proofs.YtgogcgkocjpgoaaGreatDoor
/- Structs of type Delivery in a walk's state: opened, closed. -/
namespace Go.Proofs.YtgogcgkocjpgoaaGreatDoor
open Go.RowKit
section
variable {c : Cx} {fr : Fr} {H : List Pc} {Φ : Gl}
end
end Go.Proofs.YtgogcgkocjpgoaaGreatDoor
/- A call that reads what is owned, and gives new pieces. -/
namespace Go.Proofs.YtgogcgkocjpgoaaGreatDoor
open Go.RowKit
theorem sep_roA : ∀ (A : List Pc), A.all (fun p => !p.mu) = true → Sep A
  | [], _ => trivial
  | p :: A, h => by
    simp only [List.all_cons, Bool.and_eq_true, Bool.not_eq_true'] at h
    exact ⟨fun q hq hm => by
      have hq' := List.all_eq_true.1 h.2 q hq
      simp only [Bool.not_eq_true'] at hq'
      rw [h.1, hq'] at hm; simp at hm, sep_roA A h.2⟩
section
variable {c : Cx} {fr : Fr} {H : List Pc} {d : Nat} {Φ : Gl}
theorem cfr {f : Nat} {vs : List Value} {σ : Type} {C : σ → Prop} {vv : σ → Value} {N : σ → List Pc} (hf : ∀ w, St c.G c.D c.w0 H w → ∃ A, Hol A w ∧ A.all (fun p => !p.mu) = true ∧ Fn c.P f vs A [] C vv N)
    (h : ∀ s, C s → T c ((d, vv s) :: fr) (N s ++ H) Φ) (hN : ∀ s, (N s).all (·.mu) = true := by intro s; rfl) : Cl c fr H d f vs Φ :=
  cl_of (R := fun w e w' => ∃ s, C s ∧ e = .returned (vv s) ∧ Hol (N s) w' ∧ Sep (N s) ∧ Keep [] w w' ∧ ∀ p ∈ N s, ∀ b ∈ p.F, w.heap.size ≤ b)
    (fun w s => by
      obtain ⟨A, hA, hm, hF⟩ := hf w s
      refine (hF w (by simpa using hA) (by simpa using sep_roA A hm)).mono fun e w' ⟨z, hz, he, h1, h2, h3, h4⟩ => ⟨z, hz, he, h1, h2, h3, fun p hp b hb => ?_⟩
      rcases h4 p hp b hb with h | ⟨q, hq, -⟩ | ⟨hp', -⟩
      · exact h
      · cases hq
      · have := List.all_eq_true.1 (hN z) p hp
        rw [hp'] at this; cases this)
    (fun w e w' s ⟨z, hz, he, h1, h2, h3, h4⟩ => ⟨_, he, fun a g => (h z hz).h a w' (St.turn (M := []) (R := H) (N := N z) s h3 h1 h2 fun p hp b hb => .inl (h4 p hp b hb)) g⟩)
end
end Go.Proofs.YtgogcgkocjpgoaaGreatDoor
/- Deliveries: checked, written as sentences; the program and the reference. -/
namespace Go.Proofs.YtgogcgkocjpgoaaGreatDoor
open Go.RowKit
theorem itoa_dec {n : Int} (h : 0 ≤ n) : Lib.itoa n = decI n := by unfold Lib.itoa decI; rw [if_neg (by omega)]
theorem num7_c (n : Int) (h0 : 0 ≤ n) (h1 : n ≤ 1000000) (w : World) : Calls Tryz.prog 178 #[.int .i64 n] w fun e w2 => e = .returned (.string (bz (decI n))) ∧ Below w.heap.size w w2 := by
  obtain ⟨k, rfl⟩ : ∃ k : Nat, n = k := ⟨n.toNat, by omega⟩
  refine (l1Num_c 6 k w (by omega) (by omega)).mono ?_
  rintro e w2 ⟨rfl, j, rfl⟩
  exact ⟨rfl, belowDrewN (Below.refl _ _) j⟩
end Go.Proofs.YtgogcgkocjpgoaaGreatDoor
/- Words read as numbers, texts split: the program and the reference. -/
namespace Go.Proofs.YtgogcgkocjpgoaaGreatDoor
open Go.RowKit
structure SplS where
  o : List Bs
  f : Nat
  k : Nat
  a : Option Addr
  c : Nat
  F : List Nat
structure SplOk (b : UInt8) (s : ByteArray) (z : SplS) : Prop where
  k : z.k ≤ s.size
  f : z.f ≤ z.k
  l : z.o.length ≤ z.f
  e : splitL b s.data.toList = z.o ++ splitL b (s.data.toList.drop z.f)
  n : ∀ x ∈ (s.data.toList.drop z.f).take (z.k - z.f), x ≠ b
set_option maxRecDepth 100000 in
theorem l1Split_f (s : ByteArray) (b : UInt8) (hs : s.size ≤ 16777216) : Fn Tryz.prog 97 [.string s, .int .u8 (b.toNat : Int)] [] [] (fun (_ : Option Addr × Nat × List Nat) => True) (fun z => .slice z.1 ((splitL b s.data.toList).map bz).length z.2.1) (fun z => [.ow EStr 9 (.slice z.1 ((splitL b s.data.toList).map bz).length z.2.1) ((splitL b s.data.toList).map bz) z.2.2]) := by
  refine enter Tryz.func97 rfl Tryz.ntmps97 fun w0 => ?_
  refine go ?_; intros
  refine t_emp EStr ?_
  refine go ?_; intros
  refine c_loopS [0, 1, 4] (fun z : SplS => [(5, .slice z.a (z.o.map bz).length z.c), (6, .int .i64 (z.f : Nat)), (7, .int .i64 (z.k : Nat))]) (fun z => [.ow EStr 9 (.slice z.a (z.o.map bz).length z.c) (z.o.map bz) z.F]) (SplOk b s) (fun z => s.size - z.k) ⟨[], 0, 0, _, _, _⟩ ⟨Nat.zero_le _, Nat.le_refl _, Nat.le_refl _, rfl, by simp⟩ fun z hz => ?_
  obtain ⟨z1, z2, z3, z4, z5⟩ := hz
  have hml : (z.o.map bz).length = z.o.length := List.length_map ..
  refine go ?_; intros
  refine c_if rfl (fun h1 => ?_) (fun h1 => ?_)
  · have hk : z.k < s.size := by omega
    have hkl : z.k < s.data.toList.length := by rw [size_list]; exact hk
    refine go ?_; intros
    refine c_if rfl (fun h2 => ?_) (fun h2 => ?_)
    · have hb : s[z.k] = b := UInt8.toNat_inj.1 (by have : ((s[z.k]).toNat : Int) = (b.toNat : Int) := h2; omega)
      have h3 := drop_split (l := s.data.toList) z2 hkl
      rw [ba_get s z.k hk, hb] at h3
      have h4 : splitL b (s.data.toList.drop z.f) = (s.data.toList.drop z.f).take (z.k - z.f) :: splitL b (s.data.toList.drop (z.k + 1)) := by rw [h3, splitL_at _ z5, ← h3]
      have hx : (s.extract z.f z.k).size ≤ maxLen := by unfold maxLen; simp; omega
      refine goN ?_; intros
      apply wO; apply oc; rfl; exact yd_slb rfl rfl rfl (by omega) (by omega) (by omega)
      refine goN ?_; intros
      rw [show s.extract ((z.f : Nat) : Int).toNat ((z.k : Nat) : Int).toNat = s.extract z.f z.k from rfl]
      apply wO
      refine ap1 (rep_s hx) one_EStr fun a9 c9 F9 => ?_
      refine go ?_; intros
      have e9 : z.o.map bz ++ [s.extract z.f z.k] = (z.o ++ [(s.data.toList.drop z.f).take (z.k - z.f)]).map bz := by rw [List.map_append, ext_z s z.f z.k]; rfl
      rw [e9]
      refine n_lp ⟨z.o ++ [(s.data.toList.drop z.f).take (z.k - z.f)], z.k + 1, z.k + 1, a9, c9, F9⟩ ⟨by show z.k + 1 ≤ s.size; omega, Nat.le_refl _, by show (z.o ++ [_]).length ≤ z.k + 1; simp; omega, by show _ = (z.o ++ [_]) ++ splitL b (s.data.toList.drop (z.k + 1)); rw [z4, h4]; simp, by show ∀ x ∈ (s.data.toList.drop (z.k + 1)).take (z.k + 1 - (z.k + 1)), x ≠ b; simp⟩ (by show s.size - (z.k + 1) < s.size - z.k; omega)
    · refine go ?_; intros
      refine n_lp ⟨z.o, z.f, z.k + 1, z.a, z.c, z.F⟩ ⟨by show z.k + 1 ≤ s.size; omega, by show z.f ≤ z.k + 1; omega, z3, z4, by
        show ∀ x ∈ (s.data.toList.drop z.f).take (z.k + 1 - z.f), x ≠ b
        rw [take_more z2 hkl, ba_get s z.k hk]
        intro x hx
        rcases List.mem_append.1 hx with hx | hx
        · exact z5 x hx
        · rw [List.mem_singleton] at hx
          subst hx
          intro e
          exact h2 (by show ((s[z.k]).toNat : Int) = (b.toNat : Int); rw [e])⟩ (by show s.size - (z.k + 1) < s.size - z.k; omega)
  · have hke : z.k = s.size := by omega
    have h4 : splitL b s.data.toList = z.o ++ [s.data.toList.drop z.f] := by
      rw [z4, splitL_no]
      rw [List.take_of_length_le (by simp; omega)] at z5
      exact z5
    have hx : (s.extract z.f s.size).size ≤ maxLen := by unfold maxLen; simp; omega
    refine goN ?_; intros
    apply wO; apply oc; rfl; exact yd_sll rfl rfl (by omega) (by omega)
    refine goN ?_; intros
    rw [show s.extract ((z.f : Nat) : Int).toNat s.size = s.extract z.f s.size from rfl]
    apply wO
    refine ap1 (rep_s hx) one_EStr fun a9 c9 F9 => ?_
    refine go ?_; intros
    have e9 : z.o.map bz ++ [s.extract z.f s.size] = (splitL b s.data.toList).map bz := by rw [h4, List.map_append, ext_end s z.f]; rfl
    rw [e9]
    refine ret (a9, c9, F9) trivial rfl
end Go.Proofs.YtgogcgkocjpgoaaGreatDoor
