/- Part 2 of the proof: 22 texts, one behind the other. -/
import Derived.Lib.Overlaps
import Derived.Lib.AppendZerosOnto
import Derived.Laws.IdiomCopy
import Derived.Test.YtidephmobajikaaGreatDoorShelf
import Derived.Test.YtidephmobajikaaGreatDoorProg
import Derived.Test.YtidephmobajikaaGreatDoorM1
/- A string as a row of one. -/
namespace Go.Proofs.YtidephmobajikaaGreatDoor
open Go.RowKit
theorem rep_s {s : ByteArray} (h : s.size ≤ maxLen) (w : World) : Flat EStr w [.string s] [s] [] := ⟨_, [], [], [], by simp, by simp, ⟨rfl, h, rfl⟩, rfl, rfl⟩
theorem t_sl {c : Cx} {fr : Fr} {H : List Pc} {Φ : Gl} {α : Type} {E : Elem α} {v : Value} {xs : List α} {F : List Nat} (h : ∀ a cp, v = .slice a xs.length cp → xs.length ≤ cp → cp ≤ 9223372036854775807 → T c fr H Φ) (hm : .sl E v xs F ∈ H := by first | exact .head _ | exact .tail _ (.head _) | exact .tail _ (.tail _ (.head _)) | exact .tail _ (.tail _ (.tail _ (.head _))) | exact .tail _ (.tail _ (.tail _ (.tail _ (.head _)))) | exact .tail _ (.tail _ (.tail _ (.tail _ (.tail _ (.head _))))) | exact .tail _ (.tail _ (.tail _ (.tail _ (.tail _ (.tail _ (.head _)))))) | exact .tail _ (.tail _ (.tail _ (.tail _ (.tail _ (.tail _ (.tail _ (.head _))))))) | exact .tail _ (.tail _ (.tail _ (.tail _ (.tail _ (.tail _ (.tail _ (.tail _ (.head _)))))))) | exact .tail _ (.tail _ (.tail _ (.tail _ (.tail _ (.tail _ (.tail _ (.tail _ (.tail _ (.head _))))))))) | exact .tail _ (.tail _ (.tail _ (.tail _ (.tail _ (.tail _ (.tail _ (.tail _ (.tail _ (.tail _ (.head _)))))))))) | exact .tail _ (.tail _ (.tail _ (.tail _ (.tail _ (.tail _ (.tail _ (.tail _ (.tail _ (.tail _ (.tail _ (.head _))))))))))) | exact .tail _ (.tail _ (.tail _ (.tail _ (.tail _ (.tail _ (.tail _ (.tail _ (.tail _ (.tail _ (.tail _ (.tail _ (.head _)))))))))))) | exact .tail _ (.tail _ (.tail _ (.tail _ (.tail _ (.tail _ (.tail _ (.tail _ (.tail _ (.tail _ (.tail _ (.tail _ (.tail _ (.head _)))))))))))))) : T c fr H Φ := .mk fun ac w s g => by
  obtain ⟨-, hs⟩ := s.get hm
  obtain ⟨a, cp, rfl⟩ := hs.slice
  obtain ⟨-, h2, h3⟩ := hs.caps
  exact (h a cp rfl h2 (by unfold maxLen at h3; omega)).h ac w s g
/-- a row of our own is an owned slice -/
theorem t_row {c : Cx} {fr : Fr} {H : List Pc} {Φ : Gl} {α : Type} {E : Elem α} {t g : Nat} {cs : List Value} {xs : List α} {S : List Pc} (hfl : ∀ w, Flat E w cs xs []) (h : T c fr (.ow E t (.slice (some ⟨g, 0, none⟩) xs.length xs.length) xs [g] :: S) Φ) (hl : xs.length ≤ 1000000) (hp : Pick H (.row g t 0 [] cs []) S := by first | exact .here | exact .there .here | exact .there (.there .here) | exact .there (.there (.there .here)) | exact .there (.there (.there (.there .here))) | exact .there (.there (.there (.there (.there .here)))) | exact .there (.there (.there (.there (.there (.there .here))))) | exact .there (.there (.there (.there (.there (.there (.there .here)))))) | exact .there (.there (.there (.there (.there (.there (.there (.there .here))))))) | exact .there (.there (.there (.there (.there (.there (.there (.there (.there .here)))))))) | exact .there (.there (.there (.there (.there (.there (.there (.there (.there (.there .here))))))))) | exact .there (.there (.there (.there (.there (.there (.there (.there (.there (.there (.there .here)))))))))) | exact .there (.there (.there (.there (.there (.there (.there (.there (.there (.there (.there (.there .here))))))))))) | exact .there (.there (.there (.there (.there (.there (.there (.there (.there (.there (.there (.there (.there .here))))))))))))) : T c fr H Φ := .mk fun a w s g' => by
  have s1 := s.pick hp
  have hr := (s1.on (.row g t 0 [] cs []) (by simp)).2
  have hlen := (hfl w).len
  refine h.h a w (s1.conv rfl ⟨by simp, .inr ⟨g, xs.length, cs, [], [], rfl, by simpa using hr, Nat.le_refl _, by unfold maxLen; omega, by simpa using hlen, hfl w, rfl⟩⟩ (by simp [Pc.F])) g'
/-- out of a contract that makes a value -/
theorem fn_made {P : Program} {f : FuncId} {args : List Value} {A : List Pc} {σ : Type} {C : σ → Prop} {v : σ → Value} {N : σ → Pc}
    (h : ∀ w, Hol A w → Calls P f args.toArray w fun e w' => ∃ s, C s ∧ e = .returned (v s) ∧ (N s).P w' ∧ (∀ b ∈ (N s).F, w.heap.size ≤ b) ∧ Below w.heap.size w w') : Fn P f args A [] C v (fun s => [N s]) := fun w hA _ => by
  refine (h w (by simpa using hA)).mono ?_
  rintro e w' ⟨s, hC, he, hN, hF, hB⟩
  refine ⟨s, hC, he, hol1 hN, ⟨by simp, trivial⟩, Keep.ofBelow hB, fun p hp b hb => ?_⟩
  simp at hp
  subst hp
  exact .inl (hF b hb)
end Go.Proofs.YtidephmobajikaaGreatDoor
/- More operations: parts of texts, slices made, functions called by their value; a part of a slice that reads. -/
namespace Go.Proofs.YtidephmobajikaaGreatDoor
open Go.RowKit
section
variable {P : Program} {n : Nat} {fr : Fr} {H : List Pc} {ty : TypeId} {x y z : Operand}
end
section
variable {c : Cx} {fr : Fr} {H : List Pc} {k : List It} {Φ : Gl} {ops : Array Oper} {rest : List Oper} {d : Nat} {o : Op} {ty : TypeId} {v u : Value} {x y : Operand}
/-- a part of a slice that reads -/
theorem t_rtake {α : Type} {E : Elem α} {a : Option Addr} {n cp : Nat} {xs : List α} {F : List Nat} (k : Nat) (h : ∀ F', T c fr (.sl E (.slice a (xs.take k).length cp) (xs.take k) F' :: H) Φ) (hk : k ≤ xs.length) (hm : .sl E (.slice a n cp) xs F ∈ H := by first | exact .head _ | exact .tail _ (.head _) | exact .tail _ (.tail _ (.head _)) | exact .tail _ (.tail _ (.tail _ (.head _))) | exact .tail _ (.tail _ (.tail _ (.tail _ (.head _)))) | exact .tail _ (.tail _ (.tail _ (.tail _ (.tail _ (.head _))))) | exact .tail _ (.tail _ (.tail _ (.tail _ (.tail _ (.tail _ (.head _)))))) | exact .tail _ (.tail _ (.tail _ (.tail _ (.tail _ (.tail _ (.tail _ (.head _))))))) | exact .tail _ (.tail _ (.tail _ (.tail _ (.tail _ (.tail _ (.tail _ (.tail _ (.head _)))))))) | exact .tail _ (.tail _ (.tail _ (.tail _ (.tail _ (.tail _ (.tail _ (.tail _ (.tail _ (.head _))))))))) | exact .tail _ (.tail _ (.tail _ (.tail _ (.tail _ (.tail _ (.tail _ (.tail _ (.tail _ (.tail _ (.head _)))))))))) | exact .tail _ (.tail _ (.tail _ (.tail _ (.tail _ (.tail _ (.tail _ (.tail _ (.tail _ (.tail _ (.tail _ (.head _))))))))))) | exact .tail _ (.tail _ (.tail _ (.tail _ (.tail _ (.tail _ (.tail _ (.tail _ (.tail _ (.tail _ (.tail _ (.tail _ (.head _)))))))))))) | exact .tail _ (.tail _ (.tail _ (.tail _ (.tail _ (.tail _ (.tail _ (.tail _ (.tail _ (.tail _ (.tail _ (.tail _ (.tail _ (.head _)))))))))))))) : T c fr H Φ := .mk fun ac w s g => by
  obtain ⟨hz, hs⟩ := s.get hm
  obtain ⟨F', hF, h2⟩ := hs.takeS k hk
  have hl : (xs.take k).length = k := by simp [Nat.min_eq_left hk]
  have h' := h F'
  rw [hl] at h'
  exact h'.h _ w (s.ro hm rfl rfl ⟨hz, h2⟩ hF) g
end
end Go.Proofs.YtidephmobajikaaGreatDoor
/- Rows written as wholes: an owned slice as its row and back, copying, appending that grows, functions that are entries of the model, parts of a slice as values. -/
namespace Go.Proofs.YtidephmobajikaaGreatDoor
open Go.RowKit
theorem Flat.all {α : Type} {E : Elem α} {w : World} {cs : List Value} {xs : List α} (h : Flat E w cs xs []) (w' : World) : Flat E w' cs xs [] := h.frame (by simp)
section
variable {P : Program} {n : Nat} {fr : Fr} {H : List Pc} {ty : TypeId} {x y z : Operand}
end
section
variable {c : Cx} {fr : Fr} {H k' : List Pc} {k : List It} {Φ : Gl} {d : Nat} {o : Op} {ty : TypeId} {v u : Value} {x y : Operand}
end
end Go.Proofs.YtidephmobajikaaGreatDoor
/- The type Hold of the exact laws: how it reads, how it is owned; the walks of its size, copy, equality, mark and held. Written by wip/gentypes.py. -/
namespace Go.Proofs.YtidephmobajikaaGreatDoor
open Go.RowKit
structure Hold where
  number : Int
  untl : Int
/-- read -/
def EHold : Elem Hold where
  sz := 2
  rep _ cs x F := cs = [.int .i64 x.number, .int .i64 x.untl] ∧ F = []
  len h := by obtain ⟨rfl, rfl⟩ := h; rfl
  lt h := by obtain ⟨rfl, rfl⟩ := h; simp
  frame h _ := h
theorem one_EHold : One EHold := fun h u hu => by
  obtain ⟨rfl, rfl⟩ := h
  simp only [List.mem_cons, List.not_mem_nil, or_false] at hu
  rcases hu with rfl | rfl
  · rfl
  · rfl
theorem scal_EHold : Scal EHold := fun h => by obtain ⟨rfl, rfl⟩ := h; rfl
theorem info_Hold : (Tryz.prog.info? 131).map (fun i => (i.zero, i.size, i.bytes)) = some (some (.agg #[.int .i64 0, .int .i64 0]), 2, 16) := by kernel_rfl
end Go.Proofs.YtidephmobajikaaGreatDoor
/- Structs of type Hold in a walk's state: opened, closed. -/
namespace Go.Proofs.YtidephmobajikaaGreatDoor
open Go.RowKit
section
variable {c : Cx} {fr : Fr} {H : List Pc} {Φ : Gl}
theorem openHold {v : Value} {x : Hold} {F : List Nat} (h : ∀ (_ : Unit), v = .agg #[.int .i64 x.number, .int .i64 x.untl] → T c fr (H) Φ) (hm : .isv EHold v x F ∈ H := by first | exact .head _ | exact .tail _ (.head _) | exact .tail _ (.tail _ (.head _)) | exact .tail _ (.tail _ (.tail _ (.head _))) | exact .tail _ (.tail _ (.tail _ (.tail _ (.head _)))) | exact .tail _ (.tail _ (.tail _ (.tail _ (.tail _ (.head _))))) | exact .tail _ (.tail _ (.tail _ (.tail _ (.tail _ (.tail _ (.head _)))))) | exact .tail _ (.tail _ (.tail _ (.tail _ (.tail _ (.tail _ (.tail _ (.head _))))))) | exact .tail _ (.tail _ (.tail _ (.tail _ (.tail _ (.tail _ (.tail _ (.tail _ (.head _)))))))) | exact .tail _ (.tail _ (.tail _ (.tail _ (.tail _ (.tail _ (.tail _ (.tail _ (.tail _ (.head _))))))))) | exact .tail _ (.tail _ (.tail _ (.tail _ (.tail _ (.tail _ (.tail _ (.tail _ (.tail _ (.tail _ (.head _)))))))))) | exact .tail _ (.tail _ (.tail _ (.tail _ (.tail _ (.tail _ (.tail _ (.tail _ (.tail _ (.tail _ (.tail _ (.head _))))))))))) | exact .tail _ (.tail _ (.tail _ (.tail _ (.tail _ (.tail _ (.tail _ (.tail _ (.tail _ (.tail _ (.tail _ (.tail _ (.head _)))))))))))) | exact .tail _ (.tail _ (.tail _ (.tail _ (.tail _ (.tail _ (.tail _ (.tail _ (.tail _ (.tail _ (.tail _ (.tail _ (.tail _ (.head _)))))))))))))) : T c fr H Φ := .mk fun a w s g => by
  obtain ⟨cs, rfl, rfl, rfl⟩ := s.get hm
  exact (h () rfl  ).h a w s g
theorem atHold {a : Option Addr} {n cp : Nat} {xs : List Hold} {F : List Nat} (i : Nat) (h : ∀ (hi : i < xs.length) (b o : Nat), a = some ⟨b, o, none⟩ → T c fr (.cel b (o + i * 2) [.int .i64 xs[i].number, .int .i64 xs[i].untl] :: H) Φ) (hm : .sl EHold (.slice a n cp) xs F ∈ H := by first | exact .head _ | exact .tail _ (.head _) | exact .tail _ (.tail _ (.head _)) | exact .tail _ (.tail _ (.tail _ (.head _))) | exact .tail _ (.tail _ (.tail _ (.tail _ (.head _)))) | exact .tail _ (.tail _ (.tail _ (.tail _ (.tail _ (.head _))))) | exact .tail _ (.tail _ (.tail _ (.tail _ (.tail _ (.tail _ (.head _)))))) | exact .tail _ (.tail _ (.tail _ (.tail _ (.tail _ (.tail _ (.tail _ (.head _))))))) | exact .tail _ (.tail _ (.tail _ (.tail _ (.tail _ (.tail _ (.tail _ (.tail _ (.head _)))))))) | exact .tail _ (.tail _ (.tail _ (.tail _ (.tail _ (.tail _ (.tail _ (.tail _ (.tail _ (.head _))))))))) | exact .tail _ (.tail _ (.tail _ (.tail _ (.tail _ (.tail _ (.tail _ (.tail _ (.tail _ (.tail _ (.head _)))))))))) | exact .tail _ (.tail _ (.tail _ (.tail _ (.tail _ (.tail _ (.tail _ (.tail _ (.tail _ (.tail _ (.tail _ (.head _))))))))))) | exact .tail _ (.tail _ (.tail _ (.tail _ (.tail _ (.tail _ (.tail _ (.tail _ (.tail _ (.tail _ (.tail _ (.tail _ (.head _)))))))))))) | exact .tail _ (.tail _ (.tail _ (.tail _ (.tail _ (.tail _ (.tail _ (.tail _ (.tail _ (.tail _ (.tail _ (.tail _ (.tail _ (.head _)))))))))))))) (hi : i < xs.length := by omega) : T c fr H Φ := .mk fun ac w s g => by
  obtain ⟨b, o, cs, G, ha, hrep, hG, hb, hne, hr⟩ := sl_at (s.get hm) i hi
  obtain ⟨rfl, rfl⟩ := hrep
  exact (h hi b o  ha  ).h ac w (s.ro hm rfl rfl ⟨hne, hr⟩ (by intro x hx; simp [Pc.F] at hx; subst hx; exact hb)) g
end
end Go.Proofs.YtidephmobajikaaGreatDoor
/- Walks of the small functions on elements: serials, clocks, faces. -/
namespace Go.Proofs.YtidephmobajikaaGreatDoor
open Go.RowKit

def isSer (x : Int) : Bool := btw 0 x 65535
def isClk (x : Int) : Bool := btw 0 x 9999
theorem IsSerial_c (x : Int) (w : World) : Calls Tryz.prog 69 #[.int .i64 x] w fun e w' => e = .returned (.bool (isSer x)) ∧ w = w' := by
  go_enter Tryz.func69, Tryz.ntmps69
  go_wp2_with (go_at_call 102; refine (within_c _ _ _ _).mono ?_; rintro e w' ⟨rfl, rfl⟩)
  go_ret
  exact ⟨rfl, rfl⟩
theorem l2Good_c (x : Int) (w : World) : Calls Tryz.prog 66 #[.int .i64 x] w fun e w' => e = .returned (.bool (isSer x)) ∧ w = w' := by
  go_enter Tryz.func66, Tryz.ntmps66
  go_wp2_with (go_at_call 135; refine (l1In_c _ _ _ _).mono ?_; rintro e w' ⟨rfl, rfl⟩)
  go_ret
  exact ⟨rfl, rfl⟩
theorem isClock_c (x : Int) (w : World) : Calls Tryz.prog 101 #[.int .i64 x] w fun e w' => e = .returned (.bool (isClk x)) ∧ w = w' := by
  go_enter Tryz.func101, Tryz.ntmps101
  go_wp2_with (go_at_call 102; refine (within_c _ _ _ _).mono ?_; rintro e w' ⟨rfl, rfl⟩)
  go_ret
  exact ⟨rfl, rfl⟩
theorem l11Clock_c (x : Int) (w : World) : Calls Tryz.prog 159 #[.int .i64 x] w fun e w' => e = .returned (.bool (isClk x)) ∧ w = w' := by
  go_enter Tryz.func159, Tryz.ntmps159
  go_wp2_with (go_at_call 135; refine (l1In_c _ _ _ _).mono ?_; rintro e w' ⟨rfl, rfl⟩)
  go_ret
  exact ⟨rfl, rfl⟩

end Go.Proofs.YtidephmobajikaaGreatDoor
/- Walks: serials: what lies behind, gaps, what is before what. -/
namespace Go.Proofs.YtidephmobajikaaGreatDoor
open Go.RowKit

theorem isSer_iff {x : Int} : isSer x = true ↔ 0 ≤ x ∧ x ≤ 65535 := by unfold isSer btw; simp
/-- the serial n steps behind x -/
def aft (x n : Int) : Int := (x + n) % 65536
/-- the gap from a to b -/
def gp (a b : Int) : Int := (b - a) % 65536
theorem gp_bd (a b : Int) : 0 ≤ gp a b ∧ gp a b ≤ 65535 := by unfold gp; omega
theorem aft_bd (a b : Int) : 0 ≤ aft a b ∧ aft a b ≤ 65535 := by unfold aft; omega
theorem tmod_twice (z : Int) : ((z.tmod 65536) + 65536).tmod 65536 = z % 65536 := by
  rw [Int.tmod_eq_emod (a := z.tmod 65536 + 65536), Int.tmod_eq_emod]
  split <;> split <;> omega
theorem tmod_bd (z : Int) : -65535 ≤ z.tmod 65536 ∧ z.tmod 65536 ≤ 65535 := by
  rw [Int.tmod_eq_emod]
  split <;> omega
theorem after_c (x n : Int) (w : World) (h0 : -4611686018427387904 ≤ x + n) (h1 : x + n ≤ 4611686018427387904) :
    Calls Tryz.prog 144 #[.int .i64 x, .int .i64 n] w fun e w' => e = .returned (.int .i64 (aft x n)) ∧ w = w' := by
  have hb := tmod_bd (x + n)
  have hb1 := hb.1
  have hb2 := hb.2
  clear hb
  by_cases hz : 0 ≤ x + n
  · go_enter Tryz.func144, Tryz.ntmps144
    go_wp2
    go_ret
    exact ⟨ret_int (by unfold aft; omega), rfl⟩
  · have ht := tmod_twice (x + n)
    have ht := Lib.hid ht
    go_enter Tryz.func144, Tryz.ntmps144
    go_wp2
    go_ret
    refine ⟨ret_int ?_, rfl⟩
    have := ht.out
    rw [Int.tmod_eq_emod (a := (x + n).tmod 65536 + 65536)] at this
    unfold aft
    split at this <;> omega
theorem gap_c (a b : Int) (w : World) (h0 : -4611686018427387904 ≤ b - a) (h1 : b - a ≤ 4611686018427387904) (ha : -4611686018427387904 ≤ a) (ha' : a ≤ 4611686018427387904) :
    Calls Tryz.prog 80 #[.int .i64 a, .int .i64 b] w fun e w' => e = .returned (.int .i64 (gp a b)) ∧ w = w' := by
  go_enter Tryz.func80, Tryz.ntmps80
  go_wp2_with fail
  refine (after_c b (-a) _ (by omega) (by omega)).mono ?_
  rintro e w' ⟨rfl, rfl⟩
  go_wp2_with fail
  go_ret
  exact ⟨ret_int (by unfold aft gp; omega), rfl⟩
theorem l2After_c (x n : Int) (w : World) (h0 : -131072 ≤ x + n) (h1 : x + n ≤ 4611686018427387904) :
    Calls Tryz.prog 134 #[.int .i64 x, .int .i64 n] w fun e w' => e = .returned (.int .i64 (aft x n)) ∧ w = w' := by
  have h2 : 0 ≤ x + n + 131072 := by omega
  go_enter Tryz.func134, Tryz.ntmps134
  go_wp2
  go_ret
  exact ⟨ret_int (by unfold aft; omega), rfl⟩
theorem l2Gap_c (a b : Int) (w : World) (h0 : -65536 ≤ b - a) (h1 : b - a ≤ 4611686018427387904) :
    Calls Tryz.prog 82 #[.int .i64 a, .int .i64 b] w fun e w' => e = .returned (.int .i64 (gp a b)) ∧ w = w' := by
  have h2 : 0 ≤ b - a + 65536 := by omega
  go_enter Tryz.func82, Tryz.ntmps82
  go_wp2
  go_ret
  exact ⟨ret_int (by unfold gp; omega), rfl⟩
end Go.Proofs.YtidephmobajikaaGreatDoor
/- Walks: items: texts of at most eight small letters. -/
namespace Go.Proofs.YtidephmobajikaaGreatDoor
open Go.RowKit Go.Shelf

def low (b : UInt8) : Bool := btw 97 b.toNat 122
def lows (l : List UInt8) : Bool := l.all low
def itm (s : ByteArray) : Bool := decide ((s.size : Int) ≤ 8) && lows s.data.toList
def abc : List UInt8 := [97, 98, 99, 100, 101, 102, 103, 104, 105, 106, 107, 108, 109, 110, 111, 112, 113, 114, 115, 116, 117, 118, 119, 120, 121, 122]
theorem abc_low (b : UInt8) : abc.contains b = low b := by
  have h : ∀ n : Fin 256, abc.contains (UInt8.ofNat n.val) = low (UInt8.ofNat n.val) := by decide +kernel
  have := h ⟨b.toNat, b.toNat_lt⟩
  simpa using this
theorem dropWhile_nil {α : Type} (p : α → Bool) (l : List α) : l.dropWhile p = [] ↔ l.all p = true := by
  induction l with
  | nil => simp
  | cons x r ih => rw [List.dropWhile_cons]; cases h : p x <;> simp [h, ih]
theorem all_dropWhile {α : Type} (p : α → Bool) (l : List α) : (l.dropWhile p).all p = l.all p := by
  induction l with
  | nil => simp
  | cons x r ih => rw [List.dropWhile_cons]; cases h : p x <;> simp [h, ih]
theorem trimS_nil (l cs : List UInt8) : (Lib.trimS l cs = []) ↔ l.all (cs.contains ·) = true := by
  unfold Lib.trimS Lib.trimLeftS Lib.trimRightS
  rw [dropWhile_nil, List.all_reverse, all_dropWhile, List.all_reverse]
theorem trim_abc (l : List UInt8) : (Lib.trimS l abc == []) = lows l := by
  rw [Bool.eq_iff_iff, beq_iff_eq, trimS_nil]
  unfold lows
  rw [show (fun b => abc.contains b) = low from funext abc_low]
set_option maxHeartbeats 400000 in
theorem isItem_c (s : ByteArray) (w : World) (hs : s.size ≤ maxLen) :
    Calls Tryz.prog 70 #[.string s] w fun e w' => e = .returned (.bool (itm s)) ∧ Below w.heap.size w w' := by
  unfold maxLen at hs
  have hc := fun w => Any.strings_Trim_laid Tryz.lays160 (by kernel_rfl) s ⟨abc.toArray⟩ w hs (by decide) (ascii_of_all (by decide))
  change ∀ w, Calls Tryz.prog 136 #[.string s, .string ⟨abc.toArray⟩] w (fun e w' => e = .returned (.string ⟨(Lib.trimS s.data.toList abc).toArray⟩) ∧ Below w.heap.size w w') at hc
  have ht := trim_abc s.data.toList
  replace hc := Lib.hid hc
  by_cases h8 : s.size ≤ 8
  · generalize Lib.trimS s.data.toList abc = t at *
    have hi : itm s = (t == []) := by unfold itm; rw [ht, decide_eq_true (by omega)]; rfl
    replace hi := Lib.hid hi
    clear ht
    cases t with
    | nil =>
      go_enter Tryz.func70, Tryz.ntmps70
      go_wp2_with fail
      refine (hc.out _).mono ?_
      rintro e w1 ⟨rfl, hb⟩
      go_wp2_with fail
      go_ret
      exact ⟨ret_bool hi.out.symm, hb⟩
    | cons a r =>
      go_enter Tryz.func70, Tryz.ntmps70
      go_wp2_with fail
      refine (hc.out _).mono ?_
      rintro e w1 ⟨rfl, hb⟩
      go_wp2_with fail
      go_ret
      exact ⟨ret_bool hi.out.symm, hb⟩
  · have hi : itm s = false := by unfold itm; rw [decide_eq_false (by omega)]; rfl
    replace hi := Lib.hid hi
    go_enter Tryz.func70, Tryz.ntmps70
    go_wp2_with fail
    go_ret
    exact ⟨ret_bool hi.out.symm, Below.refl _ _⟩
theorem lows_drop (s : ByteArray) (k : Nat) (h : k < s.size) : lows (s.data.toList.drop k) = (low s[k] && lows (s.data.toList.drop (k + 1))) := by rw [drop_at s k h]; rfl
set_option maxHeartbeats 400000 in
theorem l4Letters_c (s : ByteArray) (n : Int) (w : World) (hs : s.size ≤ maxLen) :
    Calls Tryz.prog 74 #[.string s, .int .i64 n] w fun e w' => e = .returned (.bool (decide ((s.size : Int) ≤ n) && lows s.data.toList)) ∧ w = w' := by
  unfold maxLen at hs
  go_enter Tryz.func74, Tryz.ntmps74
  go_wp2
  go_loop [5] (fun i => ∃ k : Nat, k ≤ s.size ∧ i = .int .i64 k ∧ Hid (lows s.data.toList = lows (s.data.toList.drop k))) (fun i => s.size - (intOf i).toNat)
  case atStart => exact ⟨0, Nat.zero_le _, rfl, rfl⟩
  case round =>
    obtain ⟨k, hk, rfl, hz⟩ := hrel
    by_cases hlt : k < s.size
    · have hz := Lib.hid (hz.out.trans (lows_drop s k hlt))
      have hb : (s[k].toNat : Int) ≤ 255 := by have := s[k].toNat_lt; omega
      cases hl : low s[k]
      · have hl1 : low s[k] = false := hl
        unfold low btw at hl
        by_cases h1 : (s[k].toNat : Int) < 97
        · clear hl
          go_wp2
          go_ret
          exact ⟨ret_bool (by rw [hz.out, hl1]; simp), rfl⟩
        · have h2 : (122 : Int) < s[k].toNat := by simp at hl; omega
          clear hl
          go_wp2
          go_ret
          exact ⟨ret_bool (by rw [hz.out, hl1]; simp), rfl⟩
      · have hl1 : low s[k] = true := hl
        unfold low btw at hl
        simp only [Bool.and_eq_true, decide_eq_true_eq] at hl
        have h1 : ¬ (s[k].toNat : Int) < 97 := by omega
        have h2 : ¬ (122 : Int) < s[k].toNat := by omega
        clear hl
        replace hl1 := Lib.hid hl1
        go_wp2
        go_round
        case rel => exact ⟨k + 1, by omega, by go_num, by refine Lib.hid ?_; rw [hz.out, hl1.out]; rfl⟩
        case measure => simp [intOf]; omega
    · go_wp2
      go_ret
      exact ⟨ret_bool (by rw [hz.out, drop_end s k hlt]; simp [lows]), rfl⟩
end Go.Proofs.YtidephmobajikaaGreatDoor
/- The type SendWindow of the exact laws: how it reads, how it is owned; the walks of its size, copy, equality, mark and held. Written by wip/gentypes.py. -/
namespace Go.Proofs.YtidephmobajikaaGreatDoor
open Go.RowKit
structure SendWindow where
  trail : Int
  size : Int
  items : List ByteArray
/-- read -/
def ESendWindow : Elem SendWindow where
  sz := 3
  rep w cs x F := ∃ v1, cs = [.int .i64 x.trail, .int .i64 x.size, v1] ∧ Sl EStr w v1 x.items F
  len h := by obtain ⟨v1, rfl, h1⟩ := h; rfl
  lt h := by obtain ⟨v1, rfl, h1⟩ := h; exact h1.lt (by decide)
  frame h hF := by obtain ⟨v1, rfl, h1⟩ := h; exact ⟨v1, rfl, h1.frame hF⟩
/-- owned -/
def OSendWindow : Elem SendWindow where
  sz := 3
  rep w cs x F := ∃ v1, cs = [.int .i64 x.trail, .int .i64 x.size, v1] ∧ Ow EStr 9 w v1 x.items F
  len h := by obtain ⟨v1, rfl, h1⟩ := h; rfl
  lt h := by obtain ⟨v1, rfl, h1⟩ := h; exact h1.lt
  frame h hF := by obtain ⟨v1, rfl, h1⟩ := h; exact ⟨v1, rfl, h1.frame hF⟩
end Go.Proofs.YtidephmobajikaaGreatDoor
/- Walks of Go's generic library functions on slices of string. Written by wip/genlib.py. -/
namespace Go.Proofs.YtidephmobajikaaGreatDoor
open Go.RowKit
set_option maxHeartbeats 800000 in
set_option maxRecDepth 100000 in
theorem IndexFunc_String (fid : FuncId) (hbd : Body Tryz.prog fid) (caps : Array Value) (v : Value) (xs : List ByteArray) (F : List Nat) (p : ByteArray → Bool) (w : World) (h : Sl EStr w v xs F)
    (hp : ∀ (k : Nat) (hk : k < xs.length) (wr : World) (u : Value) (G : List Nat), Below w.heap.size w wr → IsC EStr wr u xs[k] G → Calls Tryz.prog fid (#[u] ++ caps) wr fun e w' => e = .returned (.bool (p xs[k])) ∧ Below wr.heap.size wr w') :
    Calls Tryz.prog 223 #[v, .func (.func fid) #[] caps] w fun e w' => e = .returned (.int .i64 (fidx p xs)) ∧ Below w.heap.size w w' := by
  obtain ⟨a, cap, rfl⟩ := h.slice
  have hl := h.len
  unfold maxLen at hl
  go_enter Tryz.func223, Tryz.ntmps223
  go_wp2
  go_loopw [5, 8] (fun _ i wr => ∃ k : Nat, k ≤ xs.length ∧ i = .int .i64 k ∧ Hid (∀ j, j < k → ∀ hj : j < xs.length, p xs[j] = false) ∧ Below w.heap.size w wr) (fun _ i _ => xs.length - (intOf i).toNat)
  case atStart => exact ⟨0, Nat.zero_le _, rfl, fun j hj => by omega, Below.refl _ _⟩
  case round =>
    obtain ⟨k, hk, rfl, hz, hB⟩ := hrel
    by_cases hlt : k < xs.length
    · have hz0 := hz; clear hz
      obtain ⟨b, off, _, F1, rfl, hx, -, ja⟩ := (h.below (by decide) hB).at k hlt
      obtain ⟨rfl, -, -⟩ := id hx
      have a0 := ja 0 (by decide)
      simp only [show EStr.sz = 1 from rfl, Nat.mul_one, Nat.add_zero, List.getElem?_cons_zero, List.getElem?_cons_succ] at a0
      clear ja
      have hr := hp k hlt wr _ F1 hB ⟨_, rfl, hx⟩
      have hp := Lib.hid hp
      cases hpk : p xs[k]
      all_goals
        rw [hpk] at hr
        have hpk := Lib.hid hpk
        have hr := Lib.hid hr
        go_wp2_with fail
        refine hbd.upon hr.out ?_
        rintro e w1 ⟨rfl, hb1⟩
        refine ⟨_, rfl, ?_⟩
        have hB := tr hB hb1 (Nat.le_refl _)
        clear hb1
        go_wp2_with fail
      · exact ⟨⟨k + 1, by omega, by go_num, fun j hj hl => by rcases Nat.lt_or_eq_of_le (Nat.le_of_lt_succ hj) with h | h; exact hz0.out j h hl; subst h; exact hpk.out, hB⟩, by simp [intOf]; omega⟩
      · go_ret
        exact ⟨ret_int (fidx_hit hlt hz0.out hpk.out).symm, hB⟩
    · go_wp2
      go_ret
      exact ⟨ret_int (fidx_none (fun j hj => hz.out j (by omega) hj)).symm, hB⟩
theorem ContainsFunc_String (fid : FuncId) (hbd : Body Tryz.prog fid) (caps : Array Value) (v : Value) (xs : List ByteArray) (F : List Nat) (p : ByteArray → Bool) (w : World) (h : Sl EStr w v xs F)
    (hp : ∀ (k : Nat) (hk : k < xs.length) (wr : World) (u : Value) (G : List Nat), Below w.heap.size w wr → IsC EStr wr u xs[k] G → Calls Tryz.prog fid (#[u] ++ caps) wr fun e w' => e = .returned (.bool (p xs[k])) ∧ Below wr.heap.size wr w') :
    Calls Tryz.prog 201 #[v, .func (.func fid) #[] caps] w fun e w' => e = .returned (.bool (xs.any p)) ∧ Below w.heap.size w w' := by
  have hp := Lib.hid hp
  go_enter Tryz.func201, Tryz.ntmps201
  go_wp2_with fail
  refine (IndexFunc_String fid hbd caps v xs F p _ h hp.out).mono ?_
  rintro e w1 ⟨rfl, hb1⟩
  go_wp2_with fail
  go_ret
  exact ⟨ret_bool (fidx_any p xs), hb1⟩
theorem Clone_String (v : Value) (xs : List ByteArray) (F : List Nat) (w : World) (h : Sl EStr w v xs F) (hm : xs.length ≤ 4294967296) :
    Calls Tryz.prog 200 #[v] w (RetNew EStr 9 xs w) := by
  obtain ⟨ao, c, news, Fy, rfl, hl, hfy, hFy, hsrc⟩ := h.src
  have hFl := hfy.lt
  have he := fun w (a : Option Addr) (n c : Nat) => Lib.run_eql_slice_nil (P := Tryz.prog) w 29 _ a n c 0 0 Tryz.underlying29
  go_enter Tryz.func200, Tryz.ntmps200
  rcases hsrc with ⟨rfl, rfl, rfl⟩ | ⟨ad, rfl, hn⟩
  · go_wp2
    go_ret
    exact ⟨.slice none 0 0, [], rfl, .inl ⟨rfl, rfl, rfl⟩, by simp, by simp, Below.refl _ _⟩
  · go_wp2_with (at_builtin; refine wpList_apd one_EStr (by decide) (by rfl) _ _ _ (by rfl) 9 (.string ⟨#[]⟩) 16 Tryz.underlying29 info_string rfl (.slice (some ⟨w.heap.size, 0, none⟩) 0 0) [] [w.heap.size] (by rfl) (Ow.empty (Row.made _ _ _)) (Hd.one _) (some ad) xs c (by rfl) news Fy (hfy.frame fun b hb => Below.heap_alloc _ _ _ (hFl b hb)) (.inr ⟨ad, rfl, fun j u hu => kc ((Below.refl _ _).alloc (Nat.le_refl _) _) (hn j u hu)⟩) (fun b hb e => by have := hFl b hb; simp [Value.ownBlock] at e; omega) (by simpa using hl) (by unfold maxLen at hl; simp; omega) ?_)
    intro v2 w2 F2 hA
    go_wp2_with fail
    go_ret
    have hB : Below w.heap.size w w2 := ((Below.refl _ _).alloc (Nat.le_refl _) _).trans (hA.keep.below (by simp) (by simp))
    have hs : ∀ b, v2.ownBlock = some b → w.heap.size ≤ b := fun b hb => by rcases hA.same with e | e <;> rw [e] at hb <;> simp [Value.ownBlock] at hb <;> omega
    refine ⟨v2, F2, rfl, by simpa using hA.ow, hA.ow.scal scal_EStr ▸ ?_, fun b hb => ?_, hB⟩
    · cases v2.ownBlock <;> simp
    · rw [hA.ow.scal scal_EStr] at hb; exact hs b (by simpa using hb)

end Go.Proofs.YtidephmobajikaaGreatDoor
/- Walks: the window of a source. -/
namespace Go.Proofs.YtidephmobajikaaGreatDoor
open Go.RowKit

def goodWin (x : SendWindow) : Bool := isSer x.trail && btw 1 x.size 6 && decide ((x.items.length : Int) ≤ x.size) && x.items.all itm
theorem goodWin_iff {x : SendWindow} : goodWin x = true ↔ (0 ≤ x.trail ∧ x.trail ≤ 65535) ∧ (1 ≤ x.size ∧ x.size ≤ 6) ∧ (x.items.length : Int) ≤ x.size ∧ x.items.all itm = true := by
  unfold goodWin
  simp only [Bool.and_eq_true, isSer_iff, btw, decide_eq_true_eq, and_assoc]
theorem areItems_1_c (s : ByteArray) (w : World) (hs : s.size ≤ maxLen) :
    Calls Tryz.prog 202 #[.string s] w fun e w' => e = .returned (.bool (!itm s)) ∧ Below w.heap.size w w' := by
  go_enter Tryz.func202, Tryz.ntmps202
  go_wp2_with fail
  refine (isItem_c s _ hs).mono ?_
  rintro e w1 ⟨rfl, hb⟩
  go_wp2_with fail
  go_ret
  exact ⟨rfl, hb⟩
theorem areItems_c (v : Value) (xs : List ByteArray) (F : List Nat) (w : World) (h : Sl EStr w v xs F) :
    Calls Tryz.prog 162 #[v] w fun e w' => e = .returned (.bool (xs.all itm)) ∧ Below w.heap.size w w' := by
  have hq : (!xs.any fun s => !itm s) = xs.all itm := by rw [List.not_any_eq_all_not]; simp
  replace hq := Lib.hid hq
  go_enter Tryz.func162, Tryz.ntmps162
  go_wp2_with fail
  refine (ContainsFunc_String _ (.mk' Tryz.func202 rfl rfl) _ _ xs F (fun s => !itm s) _ h ?_).mono ?_
  · rintro k hk wr u G hb ⟨_, rfl, hu⟩
    obtain ⟨hu, hsz, -⟩ := hu
    cases hu
    exact areItems_1_c _ _ hsz
  rintro e w1 ⟨rfl, hb⟩
  go_wp2_with fail
  go_ret
  exact ⟨ret_bool hq.out, hb⟩
set_option maxHeartbeats 800000 in
theorem IsValidSendWindow_c (v : Value) (x : SendWindow) (F : List Nat) (w : World) (h : IsV ESendWindow w v x F) :
    Calls Tryz.prog 99 #[v] w fun e w' => e = .returned (.bool (goodWin x)) ∧ Below w.heap.size w w' := by
  obtain ⟨_, rfl, v1, rfl, h1⟩ := h
  obtain ⟨a, c, rfl⟩ := h1.slice
  have hl := h1.len
  unfold maxLen at hl
  have hB0 : ∀ A : Obj, Below w.heap.size w (w.alloc A) := fun A => (Below.refl _ _).alloc (Nat.le_refl _) _
  go_enter Tryz.func99, Tryz.ntmps99
  go_wp2_with fail
  refine (IsSerial_c _ _).mono ?_
  rintro e w' ⟨rfl, rfl⟩
  cases g1 : isSer x.trail
  · go_wp2_with fail
    go_ret
    exact ⟨ret_bool (by simp [goodWin, g1]), hB0 _⟩
  go_wp2_with fail
  refine (within_c _ _ _ _).mono ?_
  rintro e w' ⟨rfl, rfl⟩
  cases g2 : btw 1 x.size 6
  · go_wp2_with fail
    go_ret
    exact ⟨ret_bool (by simp [goodWin, g2]), hB0 _⟩
  by_cases g3 : (x.items.length : Int) ≤ x.size
  · go_wp2_with fail
    refine (areItems_c _ x.items F _ (h1.below (by decide) (hB0 _))).mono ?_
    rintro e w1 ⟨rfl, hb⟩
    go_wp2_with fail
    go_ret
    exact ⟨ret_bool (by simp [goodWin, g1, g2, g3]), tr (hB0 _) hb (Nat.le_refl _)⟩
  · go_wp2_with fail
    go_ret
    exact ⟨ret_bool (by simp only [goodWin, decide_eq_false (show ¬ (x.items.length : Int) ≤ x.size by omega), Bool.and_false, Bool.false_and]), hB0 _⟩
set_option maxHeartbeats 800000 in
theorem SendWindow_clone_c (v : Value) (x : SendWindow) (F : List Nat) (w : World) (h : IsV ESendWindow w v x F) (hm : x.items.length ≤ 4294967296) :
    Calls Tryz.prog 152 #[v] w (RetV OSendWindow x w) := by
  obtain ⟨_, rfl, v1, rfl, h1⟩ := h
  obtain ⟨a, c, rfl⟩ := h1.slice
  have hB0 : ∀ A B : Obj, Below w.heap.size w ((w.alloc A).alloc B) := fun A B => ((Below.refl _ _).alloc (Nat.le_refl _) _).alloc (by simp) _
  go_enter Tryz.func152, Tryz.ntmps152
  go_wp2_with fail
  refine (Clone_String _ x.items F _ (h1.below (by decide) (hB0 _ _)) hm).mono ?_
  rintro e w1 ⟨v2, F2, rfl, o, n, g, hb⟩
  obtain ⟨a2, c2, rfl⟩ := o.slice
  have r0 := Row.below (g := w.heap.size) (t := 52) (cs := [.int .i64 x.trail, .int .i64 x.size, .slice a x.items.length c]) (by simp [row_alloc] <;> omega) hb
  have r1 := Row.below (g := w.heap.size + 1) (t := 52) (cs := [.int .i64 0, .int .i64 0, .slice none 0 0]) (by simp [row_alloc] <;> omega) hb
  have hB := tr (hB0 _ _) hb (Nat.le_refl _)
  have c0 := r0.cells; have f0 := r0.frozens
  have c1 := r1.cells; have f1 := r1.frozens
  clear hb
  replace o := Lib.hid o
  go_wp2_with fail
  refine bodyPost_ret (v := .agg #[.int .i64 x.trail, .int .i64 x.size, .slice a2 x.items.length c2]) ?_ rfl ?_
  · simp [results, Tryz.results152, go_sem, c0, c1, f1]
  · refine ⟨_, F2, rfl, ⟨_, rfl, _, rfl, ?_⟩, n, fun b hb => by have := g b hb; simp at this; omega, ?_⟩
    · repeat refine Ow.setFar ?_ (fun hm => by have := g _ hm; simp at this <;> omega) _
      exact o.out
    · repeat refine Below.setCell ?_ (by simp <;> omega) _
      exact hB
/-- a struct of some fields in a block: the cells from p on -/
def At {α : Type} (O : Elem α) (t : TypeId) (w : World) (g p : Nat) (A B : List Value) (x : α) (F : List Nat) : Prop :=
  ∃ c, Row w g t (A ++ c ++ B) ∧ A.length = p ∧ O.rep w c x F ∧ F.Nodup ∧ g ∉ F
/-- what a method leaves of the struct that its receiver points to: no result -/
def RetAt {α : Type} (O : Elem α) (t : TypeId) (g p : Nat) (A B : List Value) (x : α) (F : List Nat) (w : World) (e : Ending) (w' : World) : Prop :=
  (∃ u, e = .returned u) ∧ ∃ F', At O t w' g p A B x F' ∧ (∀ b ∈ F', b ∈ F ∨ w.heap.size ≤ b) ∧ Keep (g :: F) w w'
set_option maxHeartbeats 800000 in
theorem SendWindow_drop_c (x : SendWindow) (k : Nat) (t : TypeId) (g p : Nat) (A B : List Value) (F : List Nat) (w : World) (h : At OSendWindow t w g p A B x F) (hk : k ≤ x.items.length) (hm : x.items.length ≤ 4294967296) (ht : isSer x.trail = true) :
    Calls Tryz.prog 154 #[.pointer (some ⟨g, p, none⟩), .int .i64 k] w (RetAt OSendWindow t g p A B ⟨aft x.trail k, x.size, x.items.drop k⟩ F w) := by
  obtain ⟨_, hrow, hp, ⟨v1, rfl, ho⟩, hn, hg⟩ := h
  obtain ⟨a, c, rfl⟩ := ho.slice
  obtain ⟨F1, hF1, hs⟩ := ho.sl (Weak.refl _)
  have hs4 : ∀ W, (sizeOf (Tryz.prog.elem 29)).run Tryz.prog W = .ok 1 W := fun W => by kernel_rfl
  obtain ⟨a2, c2, F2, hsl, hF2, hs2⟩ := hs.dropS 29 (by kernel_rfl) k hk hs4
  have z0 := hrow.cellMid (p := p) (j := 0) (by omega) (by simp)
  have z2 := hrow.cellMid (p := p + 2) (j := 2) (by omega) (by simp)
  have zf := hrow.frozens
  simp only [List.getElem?_cons_zero, List.getElem?_cons_succ] at z0 z2
  have ht' := isSer_iff.1 ht
  go_enter Tryz.func154, Tryz.ntmps154
  go_wp2_with fail
  refine (Clone_String _ (x.items.drop k) F2 _ hs2 (by simp; omega)).mono ?_
  rintro e w1 ⟨v3, F3, rfl, o3, n3, g3, hb⟩
  obtain ⟨a3, c3, rfl⟩ := o3.slice
  have hrow1 := hrow.below hb
  have z0 := hrow1.cellMid (p := p) (j := 0) (by omega) (by simp)
  have z2 := hrow1.cellMid (p := p + 2) (j := 2) (by omega) (by simp)
  have zf := hrow1.frozens
  simp only [List.getElem?_cons_zero, List.getElem?_cons_succ] at z0 z2
  have hgl := hrow.lt
  have hlt := ho.lt
  replace o3 := Lib.hid o3
  have hK := Keep.ofBelow (F := g :: F) hb
  clear hb
  go_wp2_with fail
  refine (after_c _ _ _ (by omega) (by omega)).mono ?_
  rintro e w2 ⟨rfl, rfl⟩
  go_wp2_with fail
  have hR := (hrow1.setMid (p := p + 2) (j := 2) (by omega) (by simp) (.slice a3 (x.items.drop k).length c3)).setMid (p := p) (j := 0) (by omega) (by simp) (.int .i64 (aft x.trail k))
  go_end0
  refine ⟨⟨_, rfl⟩, F3, ⟨_, by simpa using hR, hp, ⟨_, rfl, ?_⟩, n3, fun hm => by have := g3 _ hm; omega⟩, fun b hb => .inr (g3 b hb), ?_⟩
  · repeat refine Ow.setFar ?_ (fun hm => by have := g3 _ hm; simp at this; omega) _
    simpa using o3.out
  · repeat refine Keep.setCell ?_ (by simp) _
    exact hK
set_option maxHeartbeats 1600000 in
set_option maxRecDepth 100000 in
theorem l9Drop_c (v : Value) (x : SendWindow) (F : List Nat) (k : Nat) (w : World) (h : IsV ESendWindow w v x F) (hk : k ≤ x.items.length) (hm : x.items.length ≤ 4294967296) (ht : isSer x.trail = true) :
    Calls Tryz.prog 158 #[v, .int .i64 k] w (RetV OSendWindow ⟨aft x.trail k, x.size, x.items.drop k⟩ w) := by
  obtain ⟨_, rfl, v1, rfl, h1⟩ := h
  obtain ⟨a, c, rfl⟩ := h1.slice
  have hB0 : ∀ A B : Obj, Below w.heap.size w ((w.alloc A).alloc B) := fun A B => ((Below.refl _ _).alloc (Nat.le_refl _) _).alloc (by simp) _
  have hs4 : ∀ W, (sizeOf (Tryz.prog.elem 29)).run Tryz.prog W = .ok 1 W := fun W => by kernel_rfl
  obtain ⟨a2, c2, F2, hsl, hF2, hs2⟩ := h1.dropS 29 (by kernel_rfl) k hk hs4
  have ht' := isSer_iff.1 ht
  go_enter Tryz.func158, Tryz.ntmps158
  go_wp2_with fail
  have r0 : Row ((w.alloc (.cells #[.int .i64 x.trail, .int .i64 x.size, .slice a x.items.length c] 52)).alloc (.cells #[.int .i64 0, .int .i64 0, .slice none 0 0] 52)) w.heap.size 52 [.int .i64 x.trail, .int .i64 x.size, .slice a x.items.length c] := by simp [row_alloc] <;> omega
  have r1 : Row ((w.alloc (.cells #[.int .i64 x.trail, .int .i64 x.size, .slice a x.items.length c] 52)).alloc (.cells #[.int .i64 0, .int .i64 0, .slice none 0 0] 52)) (w.heap.size + 1) 52 [.int .i64 0, .int .i64 0, .slice none 0 0] := by simp [row_alloc] <;> omega
  have hB := hB0 (.cells #[.int .i64 x.trail, .int .i64 x.size, .slice a x.items.length c] 52) (.cells #[.int .i64 0, .int .i64 0, .slice none 0 0] 52)
  have hsz : w.heap.size + 1 < ((w.alloc (.cells #[.int .i64 x.trail, .int .i64 x.size, .slice a x.items.length c] 52)).alloc (.cells #[.int .i64 0, .int .i64 0, .slice none 0 0] 52)).heap.size := by simp
  generalize ((w.alloc (.cells #[.int .i64 x.trail, .int .i64 x.size, .slice a x.items.length c] 52)).alloc (.cells #[.int .i64 0, .int .i64 0, .slice none 0 0] 52)) = w1 at *
  replace hs2 := hs2.below (by decide) hB
  obtain ⟨ao, cc, news, Fy, he, hl, hfy, hFy, hsrc⟩ := hs2.src
  simp only [Value.slice.injEq] at he
  obtain ⟨rfl, -, rfl⟩ := he
  have hFl := hfy.lt
  have hsrc2 : (a2 = none ∧ c2 = 0 ∧ x.items.drop k = []) ∨ ∃ ad, a2 = some ad ∧ ∀ j u, news[j]? = some u → (w1.drew.alloc (.cells #[] 9)).cell? (ad.add j) = some u := by
    rcases hsrc with h | ⟨ad, h1, h2⟩
    · exact .inl h
    · exact .inr ⟨ad, h1, fun j u hu => kc (w := w1.drew) ((Below.refl _ _).alloc (Nat.le_refl _) _) (h2 j u hu)⟩
  have q0 := r0.cells 0; have q1 := r0.cells 1; have q2 := r0.cells 2
  simp only [List.getElem?_cons_zero, List.getElem?_cons_succ] at q0 q1 q2
  go_region_held3 (fun w' => w'.cell? ⟨w.heap.size, 0, none⟩ = some (.int .i64 x.trail) ∧ w'.cell? ⟨w.heap.size, 1, none⟩ = some (.int .i64 x.size) ∧ w'.cell? ⟨w.heap.size, 2, none⟩ = some (.slice a x.items.length c))
    (first | go_keep | (exact ⟨R0.cells 0, R0.cells 1, R0.cells 2⟩) | (exact ⟨q0, q1, q2⟩))
    (first
      | ((go_at_call 134; refine (l2After_c _ _ _ (by omega) (by omega)).mono ?_; rintro e w' ⟨rfl, rfl⟩))
      | ((refine step_apd one_EStr (by decide) (by rfl) _ _ _ (by rfl) 9 (.string ⟨#[]⟩) 16 Tryz.underlying29 info_string rfl (.slice (some ⟨w1.heap.size, 0, none⟩) 0 0) [] [w1.heap.size] (by rfl) (Ow.empty (Row.made w1.drew _ _)) (Hd.one _) a2 (x.items.drop k) c2 (by show Value.slice a2 (x.items.length - k) c2 = Value.slice a2 (x.items.drop k).length c2; rw [List.length_drop]) news Fy (hfy.frame fun b hb => Below.heap_alloc _ _ _ (hFl b hb)) hsrc2 (fun b hb e => by have := hFl b hb; simp [Value.ownBlock] at e; omega) (by simpa using hl) (by simp; omega) ?_; intro v3 w3 F3 hA; have R0 := Row.keepK (show Row (w1.drew.alloc (.cells #[] 9)) _ _ _ from r0.alloc _) hA.keep (fun hm => by simp at hm; omega); have R1 := Row.keepK (show Row (w1.drew.alloc (.cells #[] 9)) _ _ _ from r1.alloc _) hA.keep (fun hm => by simp at hm; omega); obtain ⟨a3, c3, rfl⟩ := hA.val; have z1 := R1.cells; have f1 := R1.frozens)))
  all_goals
    have hBB : Below w.heap.size w w3 := (tr (belowDrewN hB 1) ((Below.refl _ _).alloc (Nat.le_refl _) _) (Nat.le_refl _)).trans (hA.keep.below (by have := hB.size; simp; omega) (fun b hb => by simp at hb; have := hB.size; omega))
    have hO := hA.ow
    rw [List.nil_append] at hO
    have hF3 : ∀ b ∈ F3, w.heap.size + 1 < b := fun b hb => by
      have := hA.ow.scal scal_EStr
      rw [this] at hb
      rcases hA.same with e | e <;> rw [e] at hb <;> simp [Value.ownBlock] at hb <;> omega
    have hn3 : F3.Nodup := by rw [hA.ow.scal scal_EStr]; cases (Value.slice a3 _ c3).ownBlock <;> simp
    replace hO := Lib.hid hO
    clear hA
    go_wp2_with fail
    refine bodyPost_ret (v := .agg #[.int .i64 (aft x.trail k), .int .i64 x.size, .slice a3 (x.items.length - k) c3]) ?_ rfl ?_
    · simp [results, Tryz.results158, go_sem, z1, f1]
    · refine ⟨_, F3, rfl, ⟨_, rfl, _, rfl, ?_⟩, hn3, fun b hb => by have := hF3 b hb; omega, ?_⟩
      · repeat refine Ow.setFar ?_ (fun hm => by have := hF3 _ hm; simp at this) _
        simpa using hO.out
      · repeat refine Below.setCell ?_ (by simp <;> omega) _
        exact hBB
end Go.Proofs.YtidephmobajikaaGreatDoor
/- Walks: DropItems, the program's and the reference's. -/
namespace Go.Proofs.YtidephmobajikaaGreatDoor
open Go.RowKit

set_option maxHeartbeats 800000 in
theorem l9Good_c (v : Value) (x : SendWindow) (F : List Nat) (w : World) (h : IsV ESendWindow w v x F) :
    Calls Tryz.prog 157 #[v] w fun e w' => e = .returned (.bool (goodWin x)) ∧ Below w.heap.size w w' := by
  obtain ⟨_, rfl, v1, rfl, h1⟩ := h
  obtain ⟨a, c, rfl⟩ := h1.slice
  have hl := h1.len
  unfold maxLen at hl
  have hB0 : ∀ A : Obj, Below w.heap.size w (w.alloc A) := fun A => (Below.refl _ _).alloc (Nat.le_refl _) _
  go_enter Tryz.func157, Tryz.ntmps157
  go_wp2_with fail
  refine (l2Good_c _ _).mono ?_
  rintro e w' ⟨rfl, rfl⟩
  cases g1 : isSer x.trail
  · go_wp2_with fail
    go_ret
    exact ⟨ret_bool (by simp [goodWin, g1]), hB0 _⟩
  go_wp2_with fail
  refine (l1In_c _ _ _ _).mono ?_
  rintro e w' ⟨rfl, rfl⟩
  cases g2 : btw 1 x.size 6
  · go_wp2_with fail
    go_ret
    exact ⟨ret_bool (by simp [goodWin, g2]), hB0 _⟩
  by_cases g3 : x.size < (x.items.length : Int)
  · go_wp2_with fail
    go_ret
    exact ⟨ret_bool (by simp only [goodWin, decide_eq_false (show ¬ (x.items.length : Int) ≤ x.size by omega), Bool.and_false, Bool.false_and]), hB0 _⟩
  have hg : goodWin x = x.items.all itm := by unfold goodWin; rw [g1, g2, decide_eq_true (by omega)]; simp
  replace hg := Lib.hid hg
  go_wp2_with fail
  have r0 := Row.made w 52 [.int .i64 x.trail, .int .i64 x.size, .slice a x.items.length c]
  have h2 := h1.below (by decide) (hB0 (.cells #[.int .i64 x.trail, .int .i64 x.size, .slice a x.items.length c] 52))
  have hB := hB0 (.cells #[.int .i64 x.trail, .int .i64 x.size, .slice a x.items.length c] 52)
  generalize w.alloc (.cells #[.int .i64 x.trail, .int .i64 x.size, .slice a x.items.length c] 52) = w1 at *
  have c0 := r0.cells
  go_loop [3] (fun i => ∃ k : Nat, k ≤ x.items.length ∧ i = .int .i64 k ∧ Hid (∀ j, j < k → ∀ hj : j < x.items.length, itm x.items[j] = true)) (fun i => x.items.length - (intOf i).toNat)
  case atStart => exact ⟨0, Nat.zero_le _, rfl, fun j hj => by omega⟩
  case round =>
    obtain ⟨k, hk, rfl, hz⟩ := hrel
    by_cases hlt : k < x.items.length
    · obtain ⟨hsz, b, off, rfl, hc⟩ := h2.str.2.2 k hlt
      cases hi : itm x.items[k]
      · have hi2 : (decide ((x.items[k].size : Int) ≤ 8) && lows x.items[k].data.toList) = false := hi
        go_wp2_with fail
        refine (l4Letters_c _ _ _ hsz).mono ?_
        rintro e w' ⟨rfl, rfl⟩
        go_wp2_with fail
        go_ret
        refine ⟨ret_bool ?_, hB⟩
        rw [hg.out]
        exact (List.all_eq_false.2 ⟨x.items[k], List.getElem_mem _, by simp [hi]⟩).symm
      · have hi2 : (decide ((x.items[k].size : Int) ≤ 8) && lows x.items[k].data.toList) = true := hi
        go_wp2_with fail
        refine (l4Letters_c _ _ _ hsz).mono ?_
        rintro e w' ⟨rfl, rfl⟩
        go_wp2_with fail
        exact ⟨⟨k + 1, by omega, by go_num, fun j hj hl => by rcases Nat.lt_or_eq_of_le (Nat.le_of_lt_succ hj) with h | h; exact hz.out j h hl; subst h; exact hi⟩, by simp [intOf]; omega⟩
    · have hk : k = x.items.length := by omega
      go_wp2_with fail
      go_ret
      refine ⟨ret_bool ?_, hB⟩
      rw [hg.out]
      refine (List.all_eq_true.2 fun s hs => ?_).symm
      obtain ⟨j, hj, rfl⟩ := List.getElem_of_mem hs
      exact hz.out j (by omega) hj
def okDropItems (x : SendWindow) (n : Int) : Bool := goodWin x && isSer n && decide (gp x.trail n ≤ x.items.length)
def resDropItems (x : SendWindow) (n : Int) : SendWindow × Int × Bool := if okDropItems x n then (⟨aft x.trail (gp x.trail n), x.size, x.items.drop (gp x.trail n).toNat⟩, gp x.trail n, true) else (⟨0, 0, []⟩, 0, false)
def PI_DropItems : SendWindow × Int × Bool → World → Ending → World → Prop := fun (r0, r1, r2) w e w' => ∃ u0 G0, e = .returned (.tuple #[u0, .int .i64 r1, .bool r2]) ∧ IsV OSendWindow w' u0 r0 G0 ∧ (G0).Nodup ∧ (∀ b ∈ G0, w.heap.size ≤ b) ∧ Below w.heap.size w w'
set_option maxHeartbeats 3200000 in
theorem DropItems_c (v0 : Value) (x0 : SendWindow) (F0 : List Nat) (x1 : Int) (w : World) (h0 : IsV ESendWindow w v0 x0 F0) :
    Calls Tryz.prog 94 #[v0, .int .i64 x1] w (PI_DropItems (resDropItems x0 x1) w) := by
  have A0 := h0
  have lA0 := h0.lt
  obtain ⟨_, rfl, v0_1, rfl, h0_1⟩ := h0
  obtain ⟨a0_1, c0_1, rfl⟩ := h0_1.slice
  clear h0_1
  go_enter Tryz.func94, Tryz.ntmps94
  go_wp2_with fail
  have al : Below w.heap.size w ((w.alloc (.cells #[.int .i64 x0.trail, .int .i64 x0.size, .slice a0_1 x0.items.length c0_1] 52)).alloc (.cells #[.int .i64 0, .int .i64 0, .slice none 0 0] 52)) := by
    repeat refine Below.alloc ?_ (by simp <;> omega) _
    exact Below.refl _ _
  have R0 : Row ((w.alloc (.cells #[.int .i64 x0.trail, .int .i64 x0.size, .slice a0_1 x0.items.length c0_1] 52)).alloc (.cells #[.int .i64 0, .int .i64 0, .slice none 0 0] 52)) (w.heap.size) 52 [.int .i64 x0.trail, .int .i64 x0.size, .slice a0_1 x0.items.length c0_1] := by simp [row_alloc] <;> omega
  have RZ : Row ((w.alloc (.cells #[.int .i64 x0.trail, .int .i64 x0.size, .slice a0_1 x0.items.length c0_1] 52)).alloc (.cells #[.int .i64 0, .int .i64 0, .slice none 0 0] 52)) (w.heap.size + 1) 52 [.int .i64 0, .int .i64 0, .slice none 0 0] := by simp [row_alloc] <;> omega
  have hs_w1 : w.heap.size + 1 < ((w.alloc (.cells #[.int .i64 x0.trail, .int .i64 x0.size, .slice a0_1 x0.items.length c0_1] 52)).alloc (.cells #[.int .i64 0, .int .i64 0, .slice none 0 0] 52)).heap.size := by simp <;> omega
  replace A0 := A0.below al
  have hB := al
  generalize ((w.alloc (.cells #[.int .i64 x0.trail, .int .i64 x0.size, .slice a0_1 x0.items.length c0_1] 52)).alloc (.cells #[.int .i64 0, .int .i64 0, .slice none 0 0] 52)) = w1 at *
  clear al
  have q0 := R0.cells 0
  have q1 := R0.cells 1
  have q2 := R0.cells 2
  simp only [List.getElem?_cons_zero, List.getElem?_cons_succ] at q0 q1 q2
  have hS0 : (fun w' => w'.cell? ⟨w.heap.size, 0, none⟩ = some (.int .i64 x0.trail) ∧ w'.cell? ⟨w.heap.size, 1, none⟩ = some (.int .i64 x0.size) ∧ w'.cell? ⟨w.heap.size, 2, none⟩ = some (.slice a0_1 x0.items.length c0_1)) w1.drew := ⟨q0, q1, q2⟩
  cases g1 : goodWin x0
  · have hr : resDropItems x0 x1 = (⟨0, 0, []⟩, 0, false) := by unfold resDropItems okDropItems; rw [g1]; simp
    replace hr := Lib.hid hr
    refine AnyX.start (S := (fun w' => w'.cell? ⟨w.heap.size, 0, none⟩ = some (.int .i64 x0.trail) ∧ w'.cell? ⟨w.heap.size, 1, none⟩ = some (.int .i64 x0.size) ∧ w'.cell? ⟨w.heap.size, 2, none⟩ = some (.slice a0_1 x0.items.length c0_1))) (X := (fun _ => false)) (by kernel_rfl) ?_
    refine AnyX.take (i := 0) (oi := _) (v := ?_) (by rw [List.getElem?_toArray]; rfl) (by kernel_rfl) (by kernel_rfl) (by kernel_rfl) (by kernel_rfl) (by kernel_rfl) (by exact fun _ _ _ h => h) (Or.inl ⟨by rfl, ?_⟩) hS0 ?_
    rotate_left
    · (intro wS hSw; (try dsimp only at hSw); go_simp; try with_reducible rfl)
    try simp only [Act.put, List.setIfInBounds_toArray, List.set_cons_zero, List.set_cons_succ]
    refine AnyX.only (i := 1) (o := _) (by kernel_rfl) (by rw [List.getElem?_toArray]; rfl) (fun K hK => ?_)
    go_simp
    go_at_call 99; refine (IsValidSendWindow_c _ x0 F0 w1.drew (A0.drewN 1)).mono ?_; rintro e w2 ⟨rfl, hb⟩
    have hS1 : (fun w' => w'.cell? ⟨w.heap.size, 0, none⟩ = some (.int .i64 x0.trail) ∧ w'.cell? ⟨w.heap.size, 1, none⟩ = some (.int .i64 x0.size) ∧ w'.cell? ⟨w.heap.size, 2, none⟩ = some (.slice a0_1 x0.items.length c0_1)) w2 := ⟨kc hb hS0.1, kc hb hS0.2.1, kc hb hS0.2.2⟩
    refine hK.out _ _ (fun _ => ?_) ?_
    · exact hS1
    clear hK K
    try simp only [Act.put, List.setIfInBounds_toArray, List.set_cons_zero, List.set_cons_succ]
    refine AnyX.take (i := 2) (oi := _) (v := ?_) (by rw [List.getElem?_toArray]; rfl) (by kernel_rfl) (by kernel_rfl) (by kernel_rfl) (by kernel_rfl) (by kernel_rfl) (by exact fun _ _ _ h => h) (Or.inl ⟨by rfl, ?_⟩) hS1 ?_
    rotate_left
    · (intro wS hSw; (try dsimp only at hSw); go_simp; try with_reducible rfl)
    try simp only [Act.put, List.setIfInBounds_toArray, List.set_cons_zero, List.set_cons_succ]
    refine AnyX.take (i := 3) (oi := _) (v := ?_) (by rw [List.getElem?_toArray]; rfl) (by kernel_rfl) (by kernel_rfl) (by kernel_rfl) (by kernel_rfl) (by kernel_rfl) (by exact fun _ _ _ h => h) (Or.inl ⟨by rfl, ?_⟩) hS1 ?_
    rotate_left
    · (intro wS hSw; (try dsimp only at hSw); go_simp; try with_reducible rfl)
    try simp only [Act.put, List.setIfInBounds_toArray, List.set_cons_zero, List.set_cons_succ]
    refine AnyX.take (i := 4) (oi := _) (v := undef) (by rw [List.getElem?_toArray]; rfl) (by kernel_rfl) (by kernel_rfl) (by kernel_rfl) (by kernel_rfl) (by kernel_rfl) (by exact fun _ _ _ h => h) (Or.inr ⟨by rfl, rfl⟩) hS1 ?_
    try simp only [Act.put, List.setIfInBounds_toArray, List.set_cons_zero, List.set_cons_succ]
    refine AnyX.take (i := 5) (oi := _) (v := undef) (by rw [List.getElem?_toArray]; rfl) (by kernel_rfl) (by kernel_rfl) (by kernel_rfl) (by kernel_rfl) (by kernel_rfl) (by exact fun _ _ _ h => h) (Or.inr ⟨by rfl, rfl⟩) hS1 ?_
    try simp only [Act.put, List.setIfInBounds_toArray, List.set_cons_zero, List.set_cons_succ]
    refine AnyX.take (i := 6) (oi := _) (v := undef) (by rw [List.getElem?_toArray]; rfl) (by kernel_rfl) (by kernel_rfl) (by kernel_rfl) (by kernel_rfl) (by kernel_rfl) (by exact fun _ _ _ h => h) (Or.inr ⟨by rfl, rfl⟩) hS1 ?_
    try simp only [Act.put, List.setIfInBounds_toArray, List.set_cons_zero, List.set_cons_succ]
    refine AnyX.take (i := 7) (oi := _) (v := ?_) (by rw [List.getElem?_toArray]; rfl) (by kernel_rfl) (by kernel_rfl) (by kernel_rfl) (by kernel_rfl) (by kernel_rfl) (by exact fun _ _ _ h => h) (Or.inl ⟨by rfl, ?_⟩) hS1 ?_
    rotate_left
    · (intro wS hSw; (try dsimp only at hSw); go_simp; try with_reducible rfl)
    try simp only [Act.put, List.setIfInBounds_toArray, List.set_cons_zero, List.set_cons_succ]
    refine AnyX.take (i := 8) (oi := _) (v := ?_) (by rw [List.getElem?_toArray]; rfl) (by kernel_rfl) (by kernel_rfl) (by kernel_rfl) (by kernel_rfl) (by kernel_rfl) (by exact fun _ _ _ h => h) (Or.inl ⟨by rfl, ?_⟩) hS1 ?_
    rotate_left
    · (intro wS hSw; (try dsimp only at hSw); go_simp; try with_reducible rfl)
    try simp only [Act.put, List.setIfInBounds_toArray, List.set_cons_zero, List.set_cons_succ]
    refine AnyX.take (i := 9) (oi := _) (v := undef) (by rw [List.getElem?_toArray]; rfl) (by kernel_rfl) (by kernel_rfl) (by kernel_rfl) (by kernel_rfl) (by kernel_rfl) (by exact fun _ _ _ h => h) (Or.inr ⟨by rfl, rfl⟩) hS1 ?_
    try simp only [Act.put, List.setIfInBounds_toArray, List.set_cons_zero, List.set_cons_succ]
    refine AnyX.take (i := 10) (oi := _) (v := undef) (by rw [List.getElem?_toArray]; rfl) (by kernel_rfl) (by kernel_rfl) (by kernel_rfl) (by kernel_rfl) (by kernel_rfl) (by exact fun _ _ _ h => h) (Or.inr ⟨by rfl, rfl⟩) hS1 ?_
    try simp only [Act.put, List.setIfInBounds_toArray, List.set_cons_zero, List.set_cons_succ]
    refine AnyX.take (i := 11) (oi := _) (v := undef) (by rw [List.getElem?_toArray]; rfl) (by kernel_rfl) (by kernel_rfl) (by kernel_rfl) (by kernel_rfl) (by kernel_rfl) (by exact fun _ _ _ h => h) (Or.inr ⟨by rfl, rfl⟩) hS1 ?_
    try simp only [Act.put, List.setIfInBounds_toArray, List.set_cons_zero, List.set_cons_succ]
    refine AnyX.take (i := 12) (oi := _) (v := undef) (by rw [List.getElem?_toArray]; rfl) (by kernel_rfl) (by kernel_rfl) (by kernel_rfl) (by kernel_rfl) (by kernel_rfl) (by exact fun _ _ _ h => h) (Or.inr ⟨by rfl, rfl⟩) hS1 ?_
    try simp only [Act.put, List.setIfInBounds_toArray, List.set_cons_zero, List.set_cons_succ]
    refine AnyX.take (i := 13) (oi := _) (v := undef) (by rw [List.getElem?_toArray]; rfl) (by kernel_rfl) (by kernel_rfl) (by kernel_rfl) (by kernel_rfl) (by kernel_rfl) (by exact fun _ _ _ h => h) (Or.inr ⟨by rfl, rfl⟩) hS1 ?_
    try simp only [Act.put, List.setIfInBounds_toArray, List.set_cons_zero, List.set_cons_succ]
    refine AnyX.take (i := 14) (oi := _) (v := undef) (by rw [List.getElem?_toArray]; rfl) (by kernel_rfl) (by kernel_rfl) (by kernel_rfl) (by kernel_rfl) (by kernel_rfl) (by exact fun _ _ _ h => h) (Or.inr ⟨by rfl, rfl⟩) hS1 ?_
    try simp only [Act.put, List.setIfInBounds_toArray, List.set_cons_zero, List.set_cons_succ]
    refine AnyX.take (i := 15) (oi := _) (v := undef) (by rw [List.getElem?_toArray]; rfl) (by kernel_rfl) (by kernel_rfl) (by kernel_rfl) (by kernel_rfl) (by kernel_rfl) (by exact fun _ _ _ h => h) (Or.inr ⟨by rfl, rfl⟩) hS1 ?_
    try simp only [Act.put, List.setIfInBounds_toArray, List.set_cons_zero, List.set_cons_succ]
    refine AnyX.take (i := 16) (oi := _) (v := undef) (by rw [List.getElem?_toArray]; rfl) (by kernel_rfl) (by kernel_rfl) (by kernel_rfl) (by kernel_rfl) (by kernel_rfl) (by exact fun _ _ _ h => h) (Or.inr ⟨by rfl, rfl⟩) hS1 ?_
    try simp only [Act.put, List.setIfInBounds_toArray, List.set_cons_zero, List.set_cons_succ]
    refine AnyX.take (i := 17) (oi := _) (v := ?_) (by rw [List.getElem?_toArray]; rfl) (by kernel_rfl) (by kernel_rfl) (by kernel_rfl) (by kernel_rfl) (by kernel_rfl) (by exact fun _ _ _ h => h) (Or.inl ⟨by rfl, ?_⟩) hS1 ?_
    rotate_left
    · (intro wS hSw; (try dsimp only at hSw); go_simp; try with_reducible rfl)
    try simp only [Act.put, List.setIfInBounds_toArray, List.set_cons_zero, List.set_cons_succ]
    refine AnyX.done (by kernel_rfl) ?_ _
    have R0 := (show Row w1.drew _ _ _ from R0).below hb
    have RZ := (show Row w1.drew _ _ _ from RZ).below hb
    have hB2 := tr (belowDrewN hB 1) hb (Nat.le_refl _)
    clear hb
    have c1 := RZ.cells; have f1 := RZ.frozens
    go_wp2_with fail
    refine bodyPost_ret (v := .tuple #[.agg #[.int .i64 0, .int .i64 0, .slice none 0 0], .int .i64 0, .bool false]) ?_ rfl ?_
    · simp [results, Tryz.results94, go_sem, c1, f1]
    · rw [hr.out]
      refine ⟨_, [], rfl, ⟨_, rfl, _, rfl, .inl ⟨rfl, rfl, rfl⟩⟩, by simp, by simp, ?_⟩
      repeat refine Below.setCell ?_ (by simp <;> omega) _
      exact hB2
  have gg := goodWin_iff.1 g1
  obtain ⟨⟨t0, t1⟩, ⟨z0, z1⟩, hlen, -⟩ := gg
  cases g2 : isSer x1
  · have hr : resDropItems x0 x1 = (⟨0, 0, []⟩, 0, false) := by unfold resDropItems okDropItems; rw [g2]; simp
    replace hr := Lib.hid hr
    refine AnyX.start (S := (fun w' => w'.cell? ⟨w.heap.size, 0, none⟩ = some (.int .i64 x0.trail) ∧ w'.cell? ⟨w.heap.size, 1, none⟩ = some (.int .i64 x0.size) ∧ w'.cell? ⟨w.heap.size, 2, none⟩ = some (.slice a0_1 x0.items.length c0_1))) (X := (fun _ => false)) (by kernel_rfl) ?_
    refine AnyX.take (i := 0) (oi := _) (v := ?_) (by rw [List.getElem?_toArray]; rfl) (by kernel_rfl) (by kernel_rfl) (by kernel_rfl) (by kernel_rfl) (by kernel_rfl) (by exact fun _ _ _ h => h) (Or.inl ⟨by rfl, ?_⟩) hS0 ?_
    rotate_left
    · (intro wS hSw; (try dsimp only at hSw); go_simp; try with_reducible rfl)
    try simp only [Act.put, List.setIfInBounds_toArray, List.set_cons_zero, List.set_cons_succ]
    refine AnyX.only (i := 1) (o := _) (by kernel_rfl) (by rw [List.getElem?_toArray]; rfl) (fun K hK => ?_)
    go_simp
    go_at_call 99; refine (IsValidSendWindow_c _ x0 F0 w1.drew (A0.drewN 1)).mono ?_; rintro e w2 ⟨rfl, hb⟩
    have hS1 : (fun w' => w'.cell? ⟨w.heap.size, 0, none⟩ = some (.int .i64 x0.trail) ∧ w'.cell? ⟨w.heap.size, 1, none⟩ = some (.int .i64 x0.size) ∧ w'.cell? ⟨w.heap.size, 2, none⟩ = some (.slice a0_1 x0.items.length c0_1)) w2 := ⟨kc hb hS0.1, kc hb hS0.2.1, kc hb hS0.2.2⟩
    refine hK.out _ _ (fun _ => ?_) ?_
    · exact hS1
    clear hK K
    try simp only [Act.put, List.setIfInBounds_toArray, List.set_cons_zero, List.set_cons_succ]
    refine AnyX.take (i := 2) (oi := _) (v := ?_) (by rw [List.getElem?_toArray]; rfl) (by kernel_rfl) (by kernel_rfl) (by kernel_rfl) (by kernel_rfl) (by kernel_rfl) (by exact fun _ _ _ h => h) (Or.inl ⟨by rfl, ?_⟩) hS1 ?_
    rotate_left
    · (intro wS hSw; (try dsimp only at hSw); go_simp; try with_reducible rfl)
    try simp only [Act.put, List.setIfInBounds_toArray, List.set_cons_zero, List.set_cons_succ]
    refine AnyX.take (i := 3) (oi := _) (v := ?_) (by rw [List.getElem?_toArray]; rfl) (by kernel_rfl) (by kernel_rfl) (by kernel_rfl) (by kernel_rfl) (by kernel_rfl) (by exact fun _ _ _ h => h) (Or.inl ⟨by rfl, ?_⟩) hS1 ?_
    rotate_left
    · (intro wS hSw; (try dsimp only at hSw); go_simp; try with_reducible rfl)
    try simp only [Act.put, List.setIfInBounds_toArray, List.set_cons_zero, List.set_cons_succ]
    refine AnyX.take (i := 4) (oi := _) (v := ?_) (by rw [List.getElem?_toArray]; rfl) (by kernel_rfl) (by kernel_rfl) (by kernel_rfl) (by kernel_rfl) (by kernel_rfl) (by exact fun _ _ _ h => h) (Or.inl ⟨by rfl, ?_⟩) hS1 ?_
    rotate_left
    · (intro wS hSw; (try dsimp only at hSw); go_simp; try with_reducible rfl)
    try simp only [Act.put, List.setIfInBounds_toArray, List.set_cons_zero, List.set_cons_succ]
    refine AnyX.only (i := 5) (o := _) (by kernel_rfl) (by rw [List.getElem?_toArray]; rfl) (fun K hK => ?_)
    go_simp
    go_at_call 69; refine (IsSerial_c _ _).mono ?_; rintro e w' ⟨rfl, rfl⟩
    refine hK.out _ _ (fun _ => ?_) ?_
    · exact hS1
    clear hK K
    try simp only [Act.put, List.setIfInBounds_toArray, List.set_cons_zero, List.set_cons_succ]
    refine AnyX.take (i := 6) (oi := _) (v := ?_) (by rw [List.getElem?_toArray]; rfl) (by kernel_rfl) (by kernel_rfl) (by kernel_rfl) (by kernel_rfl) (by kernel_rfl) (by exact fun _ _ _ h => h) (Or.inl ⟨by rfl, ?_⟩) hS1 ?_
    rotate_left
    · (intro wS hSw; (try dsimp only at hSw); go_simp; try with_reducible rfl)
    try simp only [Act.put, List.setIfInBounds_toArray, List.set_cons_zero, List.set_cons_succ]
    refine AnyX.take (i := 7) (oi := _) (v := ?_) (by rw [List.getElem?_toArray]; rfl) (by kernel_rfl) (by kernel_rfl) (by kernel_rfl) (by kernel_rfl) (by kernel_rfl) (by exact fun _ _ _ h => h) (Or.inl ⟨by rfl, ?_⟩) hS1 ?_
    rotate_left
    · (intro wS hSw; (try dsimp only at hSw); go_simp; try with_reducible rfl)
    try simp only [Act.put, List.setIfInBounds_toArray, List.set_cons_zero, List.set_cons_succ]
    refine AnyX.take (i := 8) (oi := _) (v := ?_) (by rw [List.getElem?_toArray]; rfl) (by kernel_rfl) (by kernel_rfl) (by kernel_rfl) (by kernel_rfl) (by kernel_rfl) (by exact fun _ _ _ h => h) (Or.inl ⟨by rfl, ?_⟩) hS1 ?_
    rotate_left
    · (intro wS hSw; (try dsimp only at hSw); go_simp; try with_reducible rfl)
    try simp only [Act.put, List.setIfInBounds_toArray, List.set_cons_zero, List.set_cons_succ]
    refine AnyX.take (i := 9) (oi := _) (v := undef) (by rw [List.getElem?_toArray]; rfl) (by kernel_rfl) (by kernel_rfl) (by kernel_rfl) (by kernel_rfl) (by kernel_rfl) (by exact fun _ _ _ h => h) (Or.inr ⟨by rfl, rfl⟩) hS1 ?_
    try simp only [Act.put, List.setIfInBounds_toArray, List.set_cons_zero, List.set_cons_succ]
    refine AnyX.take (i := 10) (oi := _) (v := undef) (by rw [List.getElem?_toArray]; rfl) (by kernel_rfl) (by kernel_rfl) (by kernel_rfl) (by kernel_rfl) (by kernel_rfl) (by exact fun _ _ _ h => h) (Or.inr ⟨by rfl, rfl⟩) hS1 ?_
    try simp only [Act.put, List.setIfInBounds_toArray, List.set_cons_zero, List.set_cons_succ]
    refine AnyX.take (i := 11) (oi := _) (v := undef) (by rw [List.getElem?_toArray]; rfl) (by kernel_rfl) (by kernel_rfl) (by kernel_rfl) (by kernel_rfl) (by kernel_rfl) (by exact fun _ _ _ h => h) (Or.inr ⟨by rfl, rfl⟩) hS1 ?_
    try simp only [Act.put, List.setIfInBounds_toArray, List.set_cons_zero, List.set_cons_succ]
    refine AnyX.take (i := 12) (oi := _) (v := undef) (by rw [List.getElem?_toArray]; rfl) (by kernel_rfl) (by kernel_rfl) (by kernel_rfl) (by kernel_rfl) (by kernel_rfl) (by exact fun _ _ _ h => h) (Or.inr ⟨by rfl, rfl⟩) hS1 ?_
    try simp only [Act.put, List.setIfInBounds_toArray, List.set_cons_zero, List.set_cons_succ]
    refine AnyX.take (i := 13) (oi := _) (v := undef) (by rw [List.getElem?_toArray]; rfl) (by kernel_rfl) (by kernel_rfl) (by kernel_rfl) (by kernel_rfl) (by kernel_rfl) (by exact fun _ _ _ h => h) (Or.inr ⟨by rfl, rfl⟩) hS1 ?_
    try simp only [Act.put, List.setIfInBounds_toArray, List.set_cons_zero, List.set_cons_succ]
    refine AnyX.take (i := 14) (oi := _) (v := undef) (by rw [List.getElem?_toArray]; rfl) (by kernel_rfl) (by kernel_rfl) (by kernel_rfl) (by kernel_rfl) (by kernel_rfl) (by exact fun _ _ _ h => h) (Or.inr ⟨by rfl, rfl⟩) hS1 ?_
    try simp only [Act.put, List.setIfInBounds_toArray, List.set_cons_zero, List.set_cons_succ]
    refine AnyX.take (i := 15) (oi := _) (v := undef) (by rw [List.getElem?_toArray]; rfl) (by kernel_rfl) (by kernel_rfl) (by kernel_rfl) (by kernel_rfl) (by kernel_rfl) (by exact fun _ _ _ h => h) (Or.inr ⟨by rfl, rfl⟩) hS1 ?_
    try simp only [Act.put, List.setIfInBounds_toArray, List.set_cons_zero, List.set_cons_succ]
    refine AnyX.take (i := 16) (oi := _) (v := undef) (by rw [List.getElem?_toArray]; rfl) (by kernel_rfl) (by kernel_rfl) (by kernel_rfl) (by kernel_rfl) (by kernel_rfl) (by exact fun _ _ _ h => h) (Or.inr ⟨by rfl, rfl⟩) hS1 ?_
    try simp only [Act.put, List.setIfInBounds_toArray, List.set_cons_zero, List.set_cons_succ]
    refine AnyX.take (i := 17) (oi := _) (v := ?_) (by rw [List.getElem?_toArray]; rfl) (by kernel_rfl) (by kernel_rfl) (by kernel_rfl) (by kernel_rfl) (by kernel_rfl) (by exact fun _ _ _ h => h) (Or.inl ⟨by rfl, ?_⟩) hS1 ?_
    rotate_left
    · (intro wS hSw; (try dsimp only at hSw); go_simp; try with_reducible rfl)
    try simp only [Act.put, List.setIfInBounds_toArray, List.set_cons_zero, List.set_cons_succ]
    refine AnyX.done (by kernel_rfl) ?_ _
    have R0 := (show Row w1.drew _ _ _ from R0).below hb
    have RZ := (show Row w1.drew _ _ _ from RZ).below hb
    have hB2 := tr (belowDrewN hB 1) hb (Nat.le_refl _)
    clear hb
    have c1 := RZ.cells; have f1 := RZ.frozens
    go_wp2_with fail
    refine bodyPost_ret (v := .tuple #[.agg #[.int .i64 0, .int .i64 0, .slice none 0 0], .int .i64 0, .bool false]) ?_ rfl ?_
    · simp [results, Tryz.results94, go_sem, c1, f1]
    · rw [hr.out]
      refine ⟨_, [], rfl, ⟨_, rfl, _, rfl, .inl ⟨rfl, rfl, rfl⟩⟩, by simp, by simp, ?_⟩
      repeat refine Below.setCell ?_ (by simp <;> omega) _
      exact hB2
  have gs := isSer_iff.1 g2
  have hgb := gp_bd x0.trail x1
  by_cases g3 : (x0.items.length : Int) < gp x0.trail x1
  · have hr : resDropItems x0 x1 = (⟨0, 0, []⟩, 0, false) := by unfold resDropItems okDropItems; rw [decide_eq_false (show ¬ gp x0.trail x1 ≤ (x0.items.length : Int) by omega)]; simp
    replace hr := Lib.hid hr
    refine AnyX.start (S := (fun w' => w'.cell? ⟨w.heap.size, 0, none⟩ = some (.int .i64 x0.trail) ∧ w'.cell? ⟨w.heap.size, 1, none⟩ = some (.int .i64 x0.size) ∧ w'.cell? ⟨w.heap.size, 2, none⟩ = some (.slice a0_1 x0.items.length c0_1))) (X := (fun _ => false)) (by kernel_rfl) ?_
    refine AnyX.take (i := 0) (oi := _) (v := ?_) (by rw [List.getElem?_toArray]; rfl) (by kernel_rfl) (by kernel_rfl) (by kernel_rfl) (by kernel_rfl) (by kernel_rfl) (by exact fun _ _ _ h => h) (Or.inl ⟨by rfl, ?_⟩) hS0 ?_
    rotate_left
    · (intro wS hSw; (try dsimp only at hSw); go_simp; try with_reducible rfl)
    try simp only [Act.put, List.setIfInBounds_toArray, List.set_cons_zero, List.set_cons_succ]
    refine AnyX.only (i := 1) (o := _) (by kernel_rfl) (by rw [List.getElem?_toArray]; rfl) (fun K hK => ?_)
    go_simp
    go_at_call 99; refine (IsValidSendWindow_c _ x0 F0 w1.drew (A0.drewN 1)).mono ?_; rintro e w2 ⟨rfl, hb⟩
    have hS1 : (fun w' => w'.cell? ⟨w.heap.size, 0, none⟩ = some (.int .i64 x0.trail) ∧ w'.cell? ⟨w.heap.size, 1, none⟩ = some (.int .i64 x0.size) ∧ w'.cell? ⟨w.heap.size, 2, none⟩ = some (.slice a0_1 x0.items.length c0_1)) w2 := ⟨kc hb hS0.1, kc hb hS0.2.1, kc hb hS0.2.2⟩
    refine hK.out _ _ (fun _ => ?_) ?_
    · exact hS1
    clear hK K
    try simp only [Act.put, List.setIfInBounds_toArray, List.set_cons_zero, List.set_cons_succ]
    refine AnyX.take (i := 2) (oi := _) (v := ?_) (by rw [List.getElem?_toArray]; rfl) (by kernel_rfl) (by kernel_rfl) (by kernel_rfl) (by kernel_rfl) (by kernel_rfl) (by exact fun _ _ _ h => h) (Or.inl ⟨by rfl, ?_⟩) hS1 ?_
    rotate_left
    · (intro wS hSw; (try dsimp only at hSw); go_simp; try with_reducible rfl)
    try simp only [Act.put, List.setIfInBounds_toArray, List.set_cons_zero, List.set_cons_succ]
    refine AnyX.take (i := 3) (oi := _) (v := ?_) (by rw [List.getElem?_toArray]; rfl) (by kernel_rfl) (by kernel_rfl) (by kernel_rfl) (by kernel_rfl) (by kernel_rfl) (by exact fun _ _ _ h => h) (Or.inl ⟨by rfl, ?_⟩) hS1 ?_
    rotate_left
    · (intro wS hSw; (try dsimp only at hSw); go_simp; try with_reducible rfl)
    try simp only [Act.put, List.setIfInBounds_toArray, List.set_cons_zero, List.set_cons_succ]
    refine AnyX.take (i := 4) (oi := _) (v := ?_) (by rw [List.getElem?_toArray]; rfl) (by kernel_rfl) (by kernel_rfl) (by kernel_rfl) (by kernel_rfl) (by kernel_rfl) (by exact fun _ _ _ h => h) (Or.inl ⟨by rfl, ?_⟩) hS1 ?_
    rotate_left
    · (intro wS hSw; (try dsimp only at hSw); go_simp; try with_reducible rfl)
    try simp only [Act.put, List.setIfInBounds_toArray, List.set_cons_zero, List.set_cons_succ]
    refine AnyX.only (i := 5) (o := _) (by kernel_rfl) (by rw [List.getElem?_toArray]; rfl) (fun K hK => ?_)
    go_simp
    go_at_call 69; refine (IsSerial_c _ _).mono ?_; rintro e w' ⟨rfl, rfl⟩
    refine hK.out _ _ (fun _ => ?_) ?_
    · exact hS1
    clear hK K
    try simp only [Act.put, List.setIfInBounds_toArray, List.set_cons_zero, List.set_cons_succ]
    refine AnyX.take (i := 6) (oi := _) (v := ?_) (by rw [List.getElem?_toArray]; rfl) (by kernel_rfl) (by kernel_rfl) (by kernel_rfl) (by kernel_rfl) (by kernel_rfl) (by exact fun _ _ _ h => h) (Or.inl ⟨by rfl, ?_⟩) hS1 ?_
    rotate_left
    · (intro wS hSw; (try dsimp only at hSw); go_simp; try with_reducible rfl)
    try simp only [Act.put, List.setIfInBounds_toArray, List.set_cons_zero, List.set_cons_succ]
    refine AnyX.take (i := 7) (oi := _) (v := ?_) (by rw [List.getElem?_toArray]; rfl) (by kernel_rfl) (by kernel_rfl) (by kernel_rfl) (by kernel_rfl) (by kernel_rfl) (by exact fun _ _ _ h => h) (Or.inl ⟨by rfl, ?_⟩) hS1 ?_
    rotate_left
    · (intro wS hSw; (try dsimp only at hSw); go_simp; try with_reducible rfl)
    try simp only [Act.put, List.setIfInBounds_toArray, List.set_cons_zero, List.set_cons_succ]
    refine AnyX.take (i := 8) (oi := _) (v := ?_) (by rw [List.getElem?_toArray]; rfl) (by kernel_rfl) (by kernel_rfl) (by kernel_rfl) (by kernel_rfl) (by kernel_rfl) (by exact fun _ _ _ h => h) (Or.inl ⟨by rfl, ?_⟩) hS1 ?_
    rotate_left
    · (intro wS hSw; (try dsimp only at hSw); go_simp; try with_reducible rfl)
    try simp only [Act.put, List.setIfInBounds_toArray, List.set_cons_zero, List.set_cons_succ]
    refine AnyX.take (i := 9) (oi := _) (v := ?_) (by rw [List.getElem?_toArray]; rfl) (by kernel_rfl) (by kernel_rfl) (by kernel_rfl) (by kernel_rfl) (by kernel_rfl) (by exact fun _ _ _ h => h) (Or.inl ⟨by rfl, ?_⟩) hS1 ?_
    rotate_left
    · (intro wS hSw; (try dsimp only at hSw); go_simp; try with_reducible rfl)
    try simp only [Act.put, List.setIfInBounds_toArray, List.set_cons_zero, List.set_cons_succ]
    refine AnyX.take (i := 10) (oi := _) (v := ?_) (by rw [List.getElem?_toArray]; rfl) (by kernel_rfl) (by kernel_rfl) (by kernel_rfl) (by kernel_rfl) (by kernel_rfl) (by exact fun _ _ _ h => h) (Or.inl ⟨by rfl, ?_⟩) hS1 ?_
    rotate_left
    · (intro wS hSw; (try dsimp only at hSw); go_simp; try with_reducible rfl)
    try simp only [Act.put, List.setIfInBounds_toArray, List.set_cons_zero, List.set_cons_succ]
    refine AnyX.take (i := 11) (oi := _) (v := ?_) (by rw [List.getElem?_toArray]; rfl) (by kernel_rfl) (by kernel_rfl) (by kernel_rfl) (by kernel_rfl) (by kernel_rfl) (by exact fun _ _ _ h => h) (Or.inl ⟨by rfl, ?_⟩) hS1 ?_
    rotate_left
    · (intro wS hSw; (try dsimp only at hSw); go_simp; try with_reducible rfl)
    try simp only [Act.put, List.setIfInBounds_toArray, List.set_cons_zero, List.set_cons_succ]
    refine AnyX.take (i := 13) (oi := _) (v := ?_) (by rw [List.getElem?_toArray]; rfl) (by kernel_rfl) (by kernel_rfl) (by kernel_rfl) (by kernel_rfl) (by kernel_rfl) (by exact fun _ _ _ h => h) (Or.inl ⟨by rfl, ?_⟩) hS1 ?_
    rotate_left
    · (intro wS hSw; (try dsimp only at hSw); go_simp; try with_reducible rfl)
    try simp only [Act.put, List.setIfInBounds_toArray, List.set_cons_zero, List.set_cons_succ]
    refine AnyX.take (i := 14) (oi := _) (v := ?_) (by rw [List.getElem?_toArray]; rfl) (by kernel_rfl) (by kernel_rfl) (by kernel_rfl) (by kernel_rfl) (by kernel_rfl) (by exact fun _ _ _ h => h) (Or.inl ⟨by rfl, ?_⟩) hS1 ?_
    rotate_left
    · (intro wS hSw; (try dsimp only at hSw); go_simp; try with_reducible rfl)
    try simp only [Act.put, List.setIfInBounds_toArray, List.set_cons_zero, List.set_cons_succ]
    refine AnyX.take (i := 15) (oi := _) (v := ?_) (by rw [List.getElem?_toArray]; rfl) (by kernel_rfl) (by kernel_rfl) (by kernel_rfl) (by kernel_rfl) (by kernel_rfl) (by exact fun _ _ _ h => h) (Or.inl ⟨by rfl, ?_⟩) hS1 ?_
    rotate_left
    · (intro wS hSw; (try dsimp only at hSw); go_simp; try with_reducible rfl)
    try simp only [Act.put, List.setIfInBounds_toArray, List.set_cons_zero, List.set_cons_succ]
    refine AnyX.only (i := 12) (o := _) (by kernel_rfl) (by rw [List.getElem?_toArray]; rfl) (fun K hK => ?_)
    go_simp
    go_at_call 80; refine (gap_c _ _ _ (by omega) (by omega) (by omega) (by omega)).mono ?_; rintro e w' ⟨rfl, rfl⟩
    refine hK.out _ _ (fun _ => ?_) ?_
    · exact hS1
    clear hK K
    try simp only [Act.put, List.setIfInBounds_toArray, List.set_cons_zero, List.set_cons_succ]
    refine AnyX.take (i := 16) (oi := _) (v := ?_) (by rw [List.getElem?_toArray]; rfl) (by kernel_rfl) (by kernel_rfl) (by kernel_rfl) (by kernel_rfl) (by kernel_rfl) (by exact fun _ _ _ h => h) (Or.inl ⟨by rfl, ?_⟩) hS1 ?_
    rotate_left
    · (intro wS hSw; (try dsimp only at hSw); go_simp; try with_reducible rfl)
    try simp only [Act.put, List.setIfInBounds_toArray, List.set_cons_zero, List.set_cons_succ]
    refine AnyX.take (i := 17) (oi := _) (v := ?_) (by rw [List.getElem?_toArray]; rfl) (by kernel_rfl) (by kernel_rfl) (by kernel_rfl) (by kernel_rfl) (by kernel_rfl) (by exact fun _ _ _ h => h) (Or.inl ⟨by rfl, ?_⟩) hS1 ?_
    rotate_left
    · (intro wS hSw; (try dsimp only at hSw); go_simp; try with_reducible rfl)
    try simp only [Act.put, List.setIfInBounds_toArray, List.set_cons_zero, List.set_cons_succ]
    refine AnyX.done (by kernel_rfl) ?_ _
    have R0 := (show Row w1.drew _ _ _ from R0).below hb
    have RZ := (show Row w1.drew _ _ _ from RZ).below hb
    have hB2 := tr (belowDrewN hB 1) hb (Nat.le_refl _)
    clear hb
    have c1 := RZ.cells; have f1 := RZ.frozens
    go_wp2_with fail
    refine bodyPost_ret (v := .tuple #[.agg #[.int .i64 0, .int .i64 0, .slice none 0 0], .int .i64 0, .bool false]) ?_ rfl ?_
    · simp [results, Tryz.results94, go_sem, c1, f1]
    · rw [hr.out]
      refine ⟨_, [], rfl, ⟨_, rfl, _, rfl, .inl ⟨rfl, rfl, rfl⟩⟩, by simp, by simp, ?_⟩
      repeat refine Below.setCell ?_ (by simp <;> omega) _
      exact hB2
  obtain ⟨k, hk⟩ := Int.eq_ofNat_of_zero_le hgb.1
  have hr : resDropItems x0 x1 = (⟨aft x0.trail k, x0.size, x0.items.drop k⟩, (k : Int), true) := by
    unfold resDropItems okDropItems
    rw [g1, g2, hk, decide_eq_true (by omega)]; rfl
  rw [hk] at g3
  replace hr := Lib.hid hr
  have hk2 : k ≤ x0.items.length := by omega
  replace hk := Lib.hid hk
  refine AnyX.start (S := (fun w' => w'.cell? ⟨w.heap.size, 0, none⟩ = some (.int .i64 x0.trail) ∧ w'.cell? ⟨w.heap.size, 1, none⟩ = some (.int .i64 x0.size) ∧ w'.cell? ⟨w.heap.size, 2, none⟩ = some (.slice a0_1 x0.items.length c0_1))) (X := (fun _ => false)) (by kernel_rfl) ?_
  refine AnyX.take (i := 0) (oi := _) (v := ?_) (by rw [List.getElem?_toArray]; rfl) (by kernel_rfl) (by kernel_rfl) (by kernel_rfl) (by kernel_rfl) (by kernel_rfl) (by exact fun _ _ _ h => h) (Or.inl ⟨by rfl, ?_⟩) hS0 ?_
  rotate_left
  · (intro wS hSw; (try dsimp only at hSw); go_simp; try with_reducible rfl)
  try simp only [Act.put, List.setIfInBounds_toArray, List.set_cons_zero, List.set_cons_succ]
  refine AnyX.only (i := 1) (o := _) (by kernel_rfl) (by rw [List.getElem?_toArray]; rfl) (fun K hK => ?_)
  go_simp
  go_at_call 99; refine (IsValidSendWindow_c _ x0 F0 w1.drew (A0.drewN 1)).mono ?_; rintro e w2 ⟨rfl, hb⟩
  have hS1 : (fun w' => w'.cell? ⟨w.heap.size, 0, none⟩ = some (.int .i64 x0.trail) ∧ w'.cell? ⟨w.heap.size, 1, none⟩ = some (.int .i64 x0.size) ∧ w'.cell? ⟨w.heap.size, 2, none⟩ = some (.slice a0_1 x0.items.length c0_1)) w2 := ⟨kc hb hS0.1, kc hb hS0.2.1, kc hb hS0.2.2⟩
  refine hK.out _ _ (fun _ => ?_) ?_
  · exact hS1
  clear hK K
  try simp only [Act.put, List.setIfInBounds_toArray, List.set_cons_zero, List.set_cons_succ]
  refine AnyX.take (i := 2) (oi := _) (v := ?_) (by rw [List.getElem?_toArray]; rfl) (by kernel_rfl) (by kernel_rfl) (by kernel_rfl) (by kernel_rfl) (by kernel_rfl) (by exact fun _ _ _ h => h) (Or.inl ⟨by rfl, ?_⟩) hS1 ?_
  rotate_left
  · (intro wS hSw; (try dsimp only at hSw); go_simp; try with_reducible rfl)
  try simp only [Act.put, List.setIfInBounds_toArray, List.set_cons_zero, List.set_cons_succ]
  refine AnyX.take (i := 3) (oi := _) (v := ?_) (by rw [List.getElem?_toArray]; rfl) (by kernel_rfl) (by kernel_rfl) (by kernel_rfl) (by kernel_rfl) (by kernel_rfl) (by exact fun _ _ _ h => h) (Or.inl ⟨by rfl, ?_⟩) hS1 ?_
  rotate_left
  · (intro wS hSw; (try dsimp only at hSw); go_simp; try with_reducible rfl)
  try simp only [Act.put, List.setIfInBounds_toArray, List.set_cons_zero, List.set_cons_succ]
  refine AnyX.take (i := 4) (oi := _) (v := ?_) (by rw [List.getElem?_toArray]; rfl) (by kernel_rfl) (by kernel_rfl) (by kernel_rfl) (by kernel_rfl) (by kernel_rfl) (by exact fun _ _ _ h => h) (Or.inl ⟨by rfl, ?_⟩) hS1 ?_
  rotate_left
  · (intro wS hSw; (try dsimp only at hSw); go_simp; try with_reducible rfl)
  try simp only [Act.put, List.setIfInBounds_toArray, List.set_cons_zero, List.set_cons_succ]
  refine AnyX.only (i := 5) (o := _) (by kernel_rfl) (by rw [List.getElem?_toArray]; rfl) (fun K hK => ?_)
  go_simp
  go_at_call 69; refine (IsSerial_c _ _).mono ?_; rintro e w' ⟨rfl, rfl⟩
  refine hK.out _ _ (fun _ => ?_) ?_
  · exact hS1
  clear hK K
  try simp only [Act.put, List.setIfInBounds_toArray, List.set_cons_zero, List.set_cons_succ]
  refine AnyX.take (i := 6) (oi := _) (v := ?_) (by rw [List.getElem?_toArray]; rfl) (by kernel_rfl) (by kernel_rfl) (by kernel_rfl) (by kernel_rfl) (by kernel_rfl) (by exact fun _ _ _ h => h) (Or.inl ⟨by rfl, ?_⟩) hS1 ?_
  rotate_left
  · (intro wS hSw; (try dsimp only at hSw); go_simp; try with_reducible rfl)
  try simp only [Act.put, List.setIfInBounds_toArray, List.set_cons_zero, List.set_cons_succ]
  refine AnyX.take (i := 7) (oi := _) (v := ?_) (by rw [List.getElem?_toArray]; rfl) (by kernel_rfl) (by kernel_rfl) (by kernel_rfl) (by kernel_rfl) (by kernel_rfl) (by exact fun _ _ _ h => h) (Or.inl ⟨by rfl, ?_⟩) hS1 ?_
  rotate_left
  · (intro wS hSw; (try dsimp only at hSw); go_simp; try with_reducible rfl)
  try simp only [Act.put, List.setIfInBounds_toArray, List.set_cons_zero, List.set_cons_succ]
  refine AnyX.take (i := 8) (oi := _) (v := ?_) (by rw [List.getElem?_toArray]; rfl) (by kernel_rfl) (by kernel_rfl) (by kernel_rfl) (by kernel_rfl) (by kernel_rfl) (by exact fun _ _ _ h => h) (Or.inl ⟨by rfl, ?_⟩) hS1 ?_
  rotate_left
  · (intro wS hSw; (try dsimp only at hSw); go_simp; try with_reducible rfl)
  try simp only [Act.put, List.setIfInBounds_toArray, List.set_cons_zero, List.set_cons_succ]
  refine AnyX.take (i := 9) (oi := _) (v := ?_) (by rw [List.getElem?_toArray]; rfl) (by kernel_rfl) (by kernel_rfl) (by kernel_rfl) (by kernel_rfl) (by kernel_rfl) (by exact fun _ _ _ h => h) (Or.inl ⟨by rfl, ?_⟩) hS1 ?_
  rotate_left
  · (intro wS hSw; (try dsimp only at hSw); go_simp; try with_reducible rfl)
  try simp only [Act.put, List.setIfInBounds_toArray, List.set_cons_zero, List.set_cons_succ]
  refine AnyX.take (i := 10) (oi := _) (v := ?_) (by rw [List.getElem?_toArray]; rfl) (by kernel_rfl) (by kernel_rfl) (by kernel_rfl) (by kernel_rfl) (by kernel_rfl) (by exact fun _ _ _ h => h) (Or.inl ⟨by rfl, ?_⟩) hS1 ?_
  rotate_left
  · (intro wS hSw; (try dsimp only at hSw); go_simp; try with_reducible rfl)
  try simp only [Act.put, List.setIfInBounds_toArray, List.set_cons_zero, List.set_cons_succ]
  refine AnyX.take (i := 11) (oi := _) (v := ?_) (by rw [List.getElem?_toArray]; rfl) (by kernel_rfl) (by kernel_rfl) (by kernel_rfl) (by kernel_rfl) (by kernel_rfl) (by exact fun _ _ _ h => h) (Or.inl ⟨by rfl, ?_⟩) hS1 ?_
  rotate_left
  · (intro wS hSw; (try dsimp only at hSw); go_simp; try with_reducible rfl)
  try simp only [Act.put, List.setIfInBounds_toArray, List.set_cons_zero, List.set_cons_succ]
  refine AnyX.take (i := 13) (oi := _) (v := ?_) (by rw [List.getElem?_toArray]; rfl) (by kernel_rfl) (by kernel_rfl) (by kernel_rfl) (by kernel_rfl) (by kernel_rfl) (by exact fun _ _ _ h => h) (Or.inl ⟨by rfl, ?_⟩) hS1 ?_
  rotate_left
  · (intro wS hSw; (try dsimp only at hSw); go_simp; try with_reducible rfl)
  try simp only [Act.put, List.setIfInBounds_toArray, List.set_cons_zero, List.set_cons_succ]
  refine AnyX.take (i := 14) (oi := _) (v := ?_) (by rw [List.getElem?_toArray]; rfl) (by kernel_rfl) (by kernel_rfl) (by kernel_rfl) (by kernel_rfl) (by kernel_rfl) (by exact fun _ _ _ h => h) (Or.inl ⟨by rfl, ?_⟩) hS1 ?_
  rotate_left
  · (intro wS hSw; (try dsimp only at hSw); go_simp; try with_reducible rfl)
  try simp only [Act.put, List.setIfInBounds_toArray, List.set_cons_zero, List.set_cons_succ]
  refine AnyX.take (i := 15) (oi := _) (v := ?_) (by rw [List.getElem?_toArray]; rfl) (by kernel_rfl) (by kernel_rfl) (by kernel_rfl) (by kernel_rfl) (by kernel_rfl) (by exact fun _ _ _ h => h) (Or.inl ⟨by rfl, ?_⟩) hS1 ?_
  rotate_left
  · (intro wS hSw; (try dsimp only at hSw); go_simp; try with_reducible rfl)
  try simp only [Act.put, List.setIfInBounds_toArray, List.set_cons_zero, List.set_cons_succ]
  refine AnyX.only (i := 12) (o := _) (by kernel_rfl) (by rw [List.getElem?_toArray]; rfl) (fun K hK => ?_)
  go_simp
  go_at_call 80; refine (gap_c _ _ _ (by omega) (by omega) (by omega) (by omega)).mono ?_; rintro e w' ⟨rfl, rfl⟩
  rw [hk.out]
  refine hK.out _ _ (fun _ => ?_) ?_
  · exact hS1
  clear hK K
  try simp only [Act.put, List.setIfInBounds_toArray, List.set_cons_zero, List.set_cons_succ]
  refine AnyX.take (i := 16) (oi := _) (v := ?_) (by rw [List.getElem?_toArray]; rfl) (by kernel_rfl) (by kernel_rfl) (by kernel_rfl) (by kernel_rfl) (by kernel_rfl) (by exact fun _ _ _ h => h) (Or.inl ⟨by rfl, ?_⟩) hS1 ?_
  rotate_left
  · (intro wS hSw; (try dsimp only at hSw); go_simp; try with_reducible rfl)
  try simp only [Act.put, List.setIfInBounds_toArray, List.set_cons_zero, List.set_cons_succ]
  refine AnyX.take (i := 17) (oi := _) (v := ?_) (by rw [List.getElem?_toArray]; rfl) (by kernel_rfl) (by kernel_rfl) (by kernel_rfl) (by kernel_rfl) (by kernel_rfl) (by exact fun _ _ _ h => h) (Or.inl ⟨by rfl, ?_⟩) hS1 ?_
  rotate_left
  · (intro wS hSw; (try dsimp only at hSw); go_simp; try with_reducible rfl)
  try simp only [Act.put, List.setIfInBounds_toArray, List.set_cons_zero, List.set_cons_succ]
  refine AnyX.done (by kernel_rfl) ?_ _
  have A1 := (A0.drewN 1).below hb
  have R0 := (show Row w1.drew _ _ _ from R0).below hb
  have RZ := (show Row w1.drew _ _ _ from RZ).below hb
  have hB2 := tr (belowDrewN hB 1) hb (Nat.le_refl _)
  clear hb hgb
  have c1 := RZ.cells; have f1 := RZ.frozens
  have c0 := R0.cells
  have hs2 := hB2.size
  go_wp2_with fail
  refine (SendWindow_clone_c _ x0 F0 _ A1 (by omega)).mono ?_
  rintro e w3 ⟨_, F3, rfl, ⟨_, rfl, v3, rfl, o3⟩, n3, g3, hb⟩
  obtain ⟨a3, c3, rfl⟩ := o3.slice
  have hz2 := RZ.lt
  have hs3 := hb.size
  have l3 := o3.lt
  replace R0 := R0.below hb; replace RZ := RZ.below hb
  replace hB2 := tr hB2 hb (Nat.le_refl _)
  clear hb
  replace c0 := fun o => (R0.alloc o).cells
  go_wp2_with fail
  have RO := Row.made w3 52 [.int .i64 x0.trail, .int .i64 x0.size, .slice a3 x0.items.length c3]
  have al := (Below.refl w3.heap.size w3).alloc (Nat.le_refl _) (.cells #[.int .i64 x0.trail, .int .i64 x0.size, .slice a3 x0.items.length c3] 52)
  have hs4 : w3.heap.size < (w3.alloc (.cells #[.int .i64 x0.trail, .int .i64 x0.size, .slice a3 x0.items.length c3] 52)).heap.size := by simp
  replace RZ := RZ.below al
  replace o3 := o3.below al
  replace hB2 := tr hB2 al (Nat.le_refl _)
  generalize w3.alloc (.cells #[.int .i64 x0.trail, .int .i64 x0.size, .slice a3 x0.items.length c3] 52) = w4 at *
  clear al c0
  refine (gap_c _ _ _ (by omega) (by omega) (by omega) (by omega)).mono ?_
  rintro e w' ⟨rfl, rfl⟩
  rw [hk.out]
  go_wp2_with fail
  refine (SendWindow_drop_c x0 k 52 w3.heap.size 0 [] [] F3 _ ⟨_, by simpa using RO, rfl, ⟨_, rfl, o3⟩, n3, fun hm => by have := l3 _ hm; omega⟩ hk2 (by omega) (isSer_iff.2 ⟨t0, t1⟩)).mono ?_
  rintro e w5 ⟨⟨u, rfl⟩, F5, ⟨_, hr5, -, ⟨v5, rfl, o5⟩, n5, -⟩, hF5, K⟩
  obtain ⟨a5, c5, rfl⟩ := o5.slice
  have hz3 := RZ.lt
  have hF5' : ∀ b ∈ F5, w2.heap.size ≤ b := fun b hb => by
    rcases hF5 b hb with h | h
    · exact g3 b h
    · omega
  replace RZ := RZ.keepK K (fun hm => by
    rcases List.mem_cons.1 hm with h | h
    · omega
    · have := g3 _ h; omega)
  replace hB2 := hB2.trans (K.below (B := w.heap.size) (by have := hB2.size; omega) (fun b hb => by
    rcases List.mem_cons.1 hb with h | h
    · omega
    · have := g3 _ h; omega))
  have r5 : Row w5 w3.heap.size 52 [.int .i64 (aft x0.trail k), .int .i64 x0.size, .slice a5 (x0.items.drop k).length c5] := by simpa using hr5
  replace c1 := RZ.cells; replace f1 := RZ.frozens
  have c5' := r5.cells
  clear K hr5
  replace o5 := Lib.hid o5
  go_wp2_with fail
  refine bodyPost_ret (v := .tuple #[.agg #[.int .i64 (aft x0.trail k), .int .i64 x0.size, .slice a5 (x0.items.length - k) c5], .int .i64 k, .bool true]) ?_ rfl ?_
  · simp [results, Tryz.results94, go_sem, c1, f1, c5']
  · rw [hr.out]
    refine ⟨_, F5, rfl, ⟨_, rfl, _, rfl, ?_⟩, n5, fun b hb => by have := hF5' b hb; omega, ?_⟩
    · repeat refine Ow.setFar ?_ (fun hm => by have := hF5' _ hm; simp at this <;> omega) _
      simpa using o5.out
    · repeat refine Below.setCell ?_ (by simp <;> omega) _
      exact hB2
end Go.Proofs.YtidephmobajikaaGreatDoor
/- What the types of this program are. -/
namespace Go.Proofs.YtidephmobajikaaGreatDoor
open Go.RowKit
instance : OneC Tryz.prog 3 := ⟨⟨_, Tryz.underlying3, rfl⟩, by kernel_rfl⟩
instance : IntC Tryz.prog 3 .i64 := ⟨Tryz.underlying3⟩
instance : ZC Tryz.prog 3 [.int .i64 0] := ⟨⟨.int .i64 0, by kernel_rfl, rfl⟩⟩
instance : ElT Tryz.prog 3 (.int .i64 0) 1 8 := ⟨by kernel_rfl, rfl⟩
instance : OneC Tryz.prog 5 := ⟨⟨_, Tryz.underlying5, rfl⟩, by kernel_rfl⟩
instance : IntC Tryz.prog 5 .u8 := ⟨Tryz.underlying5⟩
instance : ZC Tryz.prog 5 [.int .u8 0] := ⟨⟨.int .u8 0, by kernel_rfl, rfl⟩⟩
instance : ElT Tryz.prog 5 (.int .u8 0) 1 1 := ⟨by kernel_rfl, rfl⟩
instance : OneC Tryz.prog 98 := ⟨⟨_, Tryz.underlying98, rfl⟩, by kernel_rfl⟩
instance : IntC Tryz.prog 98 .u64 := ⟨Tryz.underlying98⟩
instance : ZC Tryz.prog 98 [.int .u64 0] := ⟨⟨.int .u64 0, by kernel_rfl, rfl⟩⟩
instance : ElT Tryz.prog 98 (.int .u64 0) 1 8 := ⟨by kernel_rfl, rfl⟩
instance : OneC Tryz.prog 4 := ⟨⟨_, Tryz.underlying4, rfl⟩, by kernel_rfl⟩
instance : BoolC Tryz.prog 4 := ⟨Tryz.underlying4⟩
instance : ZC Tryz.prog 4 [.bool false] := ⟨⟨.bool false, by kernel_rfl, rfl⟩⟩
instance : ElT Tryz.prog 4 (.bool false) 1 1 := ⟨by kernel_rfl, rfl⟩
instance : OneC Tryz.prog 9 := ⟨⟨_, Tryz.underlying9, rfl⟩, by kernel_rfl⟩
instance : StrC Tryz.prog 9 := ⟨Tryz.underlying9⟩
instance : ZC Tryz.prog 9 [.string ⟨#[]⟩] := ⟨⟨.string ⟨#[]⟩, by kernel_rfl, rfl⟩⟩
instance : ElT Tryz.prog 9 (.string ⟨#[]⟩) 1 16 := ⟨by kernel_rfl, rfl⟩
instance : OneC Tryz.prog 21 := ⟨⟨_, Tryz.underlying21, rfl⟩, by kernel_rfl⟩
instance : IntC Tryz.prog 21 .i32 := ⟨Tryz.underlying21⟩
instance : ZC Tryz.prog 21 [.int .i32 0] := ⟨⟨.int .i32 0, by kernel_rfl, rfl⟩⟩
instance : ElT Tryz.prog 21 (.int .i32 0) 1 4 := ⟨by kernel_rfl, rfl⟩
instance : AggC Tryz.prog 26 2 := ⟨⟨_, Tryz.underlying26, rfl⟩, by kernel_rfl⟩
instance : FldC Tryz.prog 26 0 0 3 1 := ⟨⟨_, _, Tryz.underlying26, rfl, rfl, rfl⟩, by kernel_rfl, by decide⟩
instance : FldC Tryz.prog 26 1 1 24 1 := ⟨⟨_, _, Tryz.underlying26, rfl, rfl, rfl⟩, by kernel_rfl, by decide⟩
instance : ZC Tryz.prog 26 [.int .i64 0, .slice none 0 0] := ⟨⟨.agg #[.int .i64 0, .slice none 0 0], by kernel_rfl, rfl⟩⟩
instance : ElT Tryz.prog 26 (.agg #[.int .i64 0, .slice none 0 0]) 2 32 := ⟨by kernel_rfl, rfl⟩
instance : BldC Tryz.prog 26 [(0, 1), (1, 1)] [.int .i64 0, .slice none 0 0] := ⟨fun parts => by kernel_rfl⟩
instance : AggC Tryz.prog 52 3 := ⟨⟨_, Tryz.underlying52, rfl⟩, by kernel_rfl⟩
instance : FldC Tryz.prog 52 0 0 3 1 := ⟨⟨_, _, Tryz.underlying52, rfl, rfl, rfl⟩, by kernel_rfl, by decide⟩
instance : FldC Tryz.prog 52 1 1 3 1 := ⟨⟨_, _, Tryz.underlying52, rfl, rfl, rfl⟩, by kernel_rfl, by decide⟩
instance : FldC Tryz.prog 52 2 2 29 1 := ⟨⟨_, _, Tryz.underlying52, rfl, rfl, rfl⟩, by kernel_rfl, by decide⟩
instance : ZC Tryz.prog 52 [.int .i64 0, .int .i64 0, .slice none 0 0] := ⟨⟨.agg #[.int .i64 0, .int .i64 0, .slice none 0 0], by kernel_rfl, rfl⟩⟩
instance : ElT Tryz.prog 52 (.agg #[.int .i64 0, .int .i64 0, .slice none 0 0]) 3 40 := ⟨by kernel_rfl, rfl⟩
instance : BldC Tryz.prog 52 [(0, 1), (1, 1), (2, 1)] [.int .i64 0, .int .i64 0, .slice none 0 0] := ⟨fun parts => by kernel_rfl⟩
instance : AggC Tryz.prog 55 6 := ⟨⟨_, Tryz.underlying55, rfl⟩, by kernel_rfl⟩
instance : FldC Tryz.prog 55 0 0 52 3 := ⟨⟨_, _, Tryz.underlying55, rfl, rfl, rfl⟩, by kernel_rfl, by decide⟩
instance : FldC Tryz.prog 55 1 3 3 1 := ⟨⟨_, _, Tryz.underlying55, rfl, rfl, rfl⟩, by kernel_rfl, by decide⟩
instance : FldC Tryz.prog 55 2 4 3 1 := ⟨⟨_, _, Tryz.underlying55, rfl, rfl, rfl⟩, by kernel_rfl, by decide⟩
instance : FldC Tryz.prog 55 3 5 53 1 := ⟨⟨_, _, Tryz.underlying55, rfl, rfl, rfl⟩, by kernel_rfl, by decide⟩
instance : ZC Tryz.prog 55 [.int .i64 0, .int .i64 0, .slice none 0 0, .int .i64 0, .int .i64 0, .slice none 0 0] := ⟨⟨.agg #[.int .i64 0, .int .i64 0, .slice none 0 0, .int .i64 0, .int .i64 0, .slice none 0 0], by kernel_rfl, rfl⟩⟩
instance : ElT Tryz.prog 55 (.agg #[.int .i64 0, .int .i64 0, .slice none 0 0, .int .i64 0, .int .i64 0, .slice none 0 0]) 6 80 := ⟨by kernel_rfl, rfl⟩
instance : BldC Tryz.prog 55 [(0, 3), (3, 1), (4, 1), (5, 1)] [.int .i64 0, .int .i64 0, .slice none 0 0, .int .i64 0, .int .i64 0, .slice none 0 0] := ⟨fun parts => by kernel_rfl⟩
instance : AggC Tryz.prog 76 5 := ⟨⟨_, Tryz.underlying76, rfl⟩, by kernel_rfl⟩
instance : FldC Tryz.prog 76 0 0 3 1 := ⟨⟨_, _, Tryz.underlying76, rfl, rfl, rfl⟩, by kernel_rfl, by decide⟩
instance : FldC Tryz.prog 76 1 1 3 1 := ⟨⟨_, _, Tryz.underlying76, rfl, rfl, rfl⟩, by kernel_rfl, by decide⟩
instance : FldC Tryz.prog 76 2 2 3 1 := ⟨⟨_, _, Tryz.underlying76, rfl, rfl, rfl⟩, by kernel_rfl, by decide⟩
instance : FldC Tryz.prog 76 3 3 3 1 := ⟨⟨_, _, Tryz.underlying76, rfl, rfl, rfl⟩, by kernel_rfl, by decide⟩
instance : FldC Tryz.prog 76 4 4 9 1 := ⟨⟨_, _, Tryz.underlying76, rfl, rfl, rfl⟩, by kernel_rfl, by decide⟩
instance : ZC Tryz.prog 76 [.int .i64 0, .int .i64 0, .int .i64 0, .int .i64 0, .string ⟨#[]⟩] := ⟨⟨.agg #[.int .i64 0, .int .i64 0, .int .i64 0, .int .i64 0, .string ⟨#[]⟩], by kernel_rfl, rfl⟩⟩
instance : ElT Tryz.prog 76 (.agg #[.int .i64 0, .int .i64 0, .int .i64 0, .int .i64 0, .string ⟨#[]⟩]) 5 48 := ⟨by kernel_rfl, rfl⟩
instance : BldC Tryz.prog 76 [(0, 1), (1, 1), (2, 1), (3, 1), (4, 1)] [.int .i64 0, .int .i64 0, .int .i64 0, .int .i64 0, .string ⟨#[]⟩] := ⟨fun parts => by kernel_rfl⟩
instance : AggC Tryz.prog 85 3 := ⟨⟨_, Tryz.underlying85, rfl⟩, by kernel_rfl⟩
instance : FldC Tryz.prog 85 0 0 3 1 := ⟨⟨_, _, Tryz.underlying85, rfl, rfl, rfl⟩, by kernel_rfl, by decide⟩
instance : FldC Tryz.prog 85 1 1 3 1 := ⟨⟨_, _, Tryz.underlying85, rfl, rfl, rfl⟩, by kernel_rfl, by decide⟩
instance : FldC Tryz.prog 85 2 2 29 1 := ⟨⟨_, _, Tryz.underlying85, rfl, rfl, rfl⟩, by kernel_rfl, by decide⟩
instance : ZC Tryz.prog 85 [.int .i64 0, .int .i64 0, .slice none 0 0] := ⟨⟨.agg #[.int .i64 0, .int .i64 0, .slice none 0 0], by kernel_rfl, rfl⟩⟩
instance : ElT Tryz.prog 85 (.agg #[.int .i64 0, .int .i64 0, .slice none 0 0]) 3 40 := ⟨by kernel_rfl, rfl⟩
instance : BldC Tryz.prog 85 [(0, 1), (1, 1), (2, 1)] [.int .i64 0, .int .i64 0, .slice none 0 0] := ⟨fun parts => by kernel_rfl⟩
instance : AggC Tryz.prog 88 6 := ⟨⟨_, Tryz.underlying88, rfl⟩, by kernel_rfl⟩
instance : FldC Tryz.prog 88 0 0 85 3 := ⟨⟨_, _, Tryz.underlying88, rfl, rfl, rfl⟩, by kernel_rfl, by decide⟩
instance : FldC Tryz.prog 88 1 3 3 1 := ⟨⟨_, _, Tryz.underlying88, rfl, rfl, rfl⟩, by kernel_rfl, by decide⟩
instance : FldC Tryz.prog 88 2 4 3 1 := ⟨⟨_, _, Tryz.underlying88, rfl, rfl, rfl⟩, by kernel_rfl, by decide⟩
instance : FldC Tryz.prog 88 3 5 86 1 := ⟨⟨_, _, Tryz.underlying88, rfl, rfl, rfl⟩, by kernel_rfl, by decide⟩
instance : ZC Tryz.prog 88 [.int .i64 0, .int .i64 0, .slice none 0 0, .int .i64 0, .int .i64 0, .slice none 0 0] := ⟨⟨.agg #[.int .i64 0, .int .i64 0, .slice none 0 0, .int .i64 0, .int .i64 0, .slice none 0 0], by kernel_rfl, rfl⟩⟩
instance : ElT Tryz.prog 88 (.agg #[.int .i64 0, .int .i64 0, .slice none 0 0, .int .i64 0, .int .i64 0, .slice none 0 0]) 6 80 := ⟨by kernel_rfl, rfl⟩
instance : BldC Tryz.prog 88 [(0, 3), (3, 1), (4, 1), (5, 1)] [.int .i64 0, .int .i64 0, .slice none 0 0, .int .i64 0, .int .i64 0, .slice none 0 0] := ⟨fun parts => by kernel_rfl⟩
instance : AggC Tryz.prog 89 5 := ⟨⟨_, Tryz.underlying89, rfl⟩, by kernel_rfl⟩
instance : FldC Tryz.prog 89 0 0 3 1 := ⟨⟨_, _, Tryz.underlying89, rfl, rfl, rfl⟩, by kernel_rfl, by decide⟩
instance : FldC Tryz.prog 89 1 1 3 1 := ⟨⟨_, _, Tryz.underlying89, rfl, rfl, rfl⟩, by kernel_rfl, by decide⟩
instance : FldC Tryz.prog 89 2 2 3 1 := ⟨⟨_, _, Tryz.underlying89, rfl, rfl, rfl⟩, by kernel_rfl, by decide⟩
instance : FldC Tryz.prog 89 3 3 3 1 := ⟨⟨_, _, Tryz.underlying89, rfl, rfl, rfl⟩, by kernel_rfl, by decide⟩
instance : FldC Tryz.prog 89 4 4 9 1 := ⟨⟨_, _, Tryz.underlying89, rfl, rfl, rfl⟩, by kernel_rfl, by decide⟩
instance : ZC Tryz.prog 89 [.int .i64 0, .int .i64 0, .int .i64 0, .int .i64 0, .string ⟨#[]⟩] := ⟨⟨.agg #[.int .i64 0, .int .i64 0, .int .i64 0, .int .i64 0, .string ⟨#[]⟩], by kernel_rfl, rfl⟩⟩
instance : ElT Tryz.prog 89 (.agg #[.int .i64 0, .int .i64 0, .int .i64 0, .int .i64 0, .string ⟨#[]⟩]) 5 48 := ⟨by kernel_rfl, rfl⟩
instance : BldC Tryz.prog 89 [(0, 1), (1, 1), (2, 1), (3, 1), (4, 1)] [.int .i64 0, .int .i64 0, .int .i64 0, .int .i64 0, .string ⟨#[]⟩] := ⟨fun parts => by kernel_rfl⟩
instance : AggC Tryz.prog 100 3 := ⟨⟨_, Tryz.underlying100, rfl⟩, by kernel_rfl⟩
instance : FldC Tryz.prog 100 0 0 22 1 := ⟨⟨_, _, Tryz.underlying100, rfl, rfl, rfl⟩, by kernel_rfl, by decide⟩
instance : FldC Tryz.prog 100 1 1 3 1 := ⟨⟨_, _, Tryz.underlying100, rfl, rfl, rfl⟩, by kernel_rfl, by decide⟩
instance : FldC Tryz.prog 100 2 2 98 1 := ⟨⟨_, _, Tryz.underlying100, rfl, rfl, rfl⟩, by kernel_rfl, by decide⟩
instance : ZC Tryz.prog 100 [.slice none 0 0, .int .i64 0, .int .u64 0] := ⟨⟨.agg #[.slice none 0 0, .int .i64 0, .int .u64 0], by kernel_rfl, rfl⟩⟩
instance : ElT Tryz.prog 100 (.agg #[.slice none 0 0, .int .i64 0, .int .u64 0]) 3 40 := ⟨by kernel_rfl, rfl⟩
instance : BldC Tryz.prog 100 [(0, 1), (1, 1), (2, 1)] [.slice none 0 0, .int .i64 0, .int .u64 0] := ⟨fun parts => by kernel_rfl⟩
instance : AggC Tryz.prog 113 2 := ⟨⟨_, Tryz.underlying113, rfl⟩, by kernel_rfl⟩
instance : FldC Tryz.prog 113 0 0 4 1 := ⟨⟨_, _, Tryz.underlying113, rfl, rfl, rfl⟩, by kernel_rfl, by decide⟩
instance : FldC Tryz.prog 113 1 1 9 1 := ⟨⟨_, _, Tryz.underlying113, rfl, rfl, rfl⟩, by kernel_rfl, by decide⟩
instance : ZC Tryz.prog 113 [.bool false, .string ⟨#[]⟩] := ⟨⟨.agg #[.bool false, .string ⟨#[]⟩], by kernel_rfl, rfl⟩⟩
instance : ElT Tryz.prog 113 (.agg #[.bool false, .string ⟨#[]⟩]) 2 24 := ⟨by kernel_rfl, rfl⟩
instance : BldC Tryz.prog 113 [(0, 1), (1, 1)] [.bool false, .string ⟨#[]⟩] := ⟨fun parts => by kernel_rfl⟩
instance : AggC Tryz.prog 131 2 := ⟨⟨_, Tryz.underlying131, rfl⟩, by kernel_rfl⟩
instance : FldC Tryz.prog 131 0 0 3 1 := ⟨⟨_, _, Tryz.underlying131, rfl, rfl, rfl⟩, by kernel_rfl, by decide⟩
instance : FldC Tryz.prog 131 1 1 3 1 := ⟨⟨_, _, Tryz.underlying131, rfl, rfl, rfl⟩, by kernel_rfl, by decide⟩
instance : ZC Tryz.prog 131 [.int .i64 0, .int .i64 0] := ⟨⟨.agg #[.int .i64 0, .int .i64 0], by kernel_rfl, rfl⟩⟩
instance : ElT Tryz.prog 131 (.agg #[.int .i64 0, .int .i64 0]) 2 16 := ⟨by kernel_rfl, rfl⟩
instance : BldC Tryz.prog 131 [(0, 1), (1, 1)] [.int .i64 0, .int .i64 0] := ⟨fun parts => by kernel_rfl⟩
instance : AggC Tryz.prog 191 2 := ⟨⟨_, Tryz.underlying191, rfl⟩, by kernel_rfl⟩
instance : FldC Tryz.prog 191 0 0 3 1 := ⟨⟨_, _, Tryz.underlying191, rfl, rfl, rfl⟩, by kernel_rfl, by decide⟩
instance : FldC Tryz.prog 191 1 1 3 1 := ⟨⟨_, _, Tryz.underlying191, rfl, rfl, rfl⟩, by kernel_rfl, by decide⟩
instance : ZC Tryz.prog 191 [.int .i64 0, .int .i64 0] := ⟨⟨.agg #[.int .i64 0, .int .i64 0], by kernel_rfl, rfl⟩⟩
instance : ElT Tryz.prog 191 (.agg #[.int .i64 0, .int .i64 0]) 2 16 := ⟨by kernel_rfl, rfl⟩
instance : BldC Tryz.prog 191 [(0, 1), (1, 1)] [.int .i64 0, .int .i64 0] := ⟨fun parts => by kernel_rfl⟩
instance : OneC Tryz.prog 22 := ⟨⟨_, Tryz.underlying22, rfl⟩, by kernel_rfl⟩
instance : SlC Tryz.prog 22 5 1 := ⟨Tryz.underlying22, by kernel_rfl⟩
instance : ZC Tryz.prog 22 [.slice none 0 0] := ⟨⟨.slice none 0 0, by kernel_rfl, rfl⟩⟩
instance : ElT Tryz.prog 22 (.slice none 0 0) 1 24 := ⟨by kernel_rfl, rfl⟩
instance : OneC Tryz.prog 24 := ⟨⟨_, Tryz.underlying24, rfl⟩, by kernel_rfl⟩
instance : SlC Tryz.prog 24 113 2 := ⟨Tryz.underlying24, by kernel_rfl⟩
instance : ZC Tryz.prog 24 [.slice none 0 0] := ⟨⟨.slice none 0 0, by kernel_rfl, rfl⟩⟩
instance : ElT Tryz.prog 24 (.slice none 0 0) 1 24 := ⟨by kernel_rfl, rfl⟩
instance : OneC Tryz.prog 29 := ⟨⟨_, Tryz.underlying29, rfl⟩, by kernel_rfl⟩
instance : SlC Tryz.prog 29 9 1 := ⟨Tryz.underlying29, by kernel_rfl⟩
instance : ZC Tryz.prog 29 [.slice none 0 0] := ⟨⟨.slice none 0 0, by kernel_rfl, rfl⟩⟩
instance : ElT Tryz.prog 29 (.slice none 0 0) 1 24 := ⟨by kernel_rfl, rfl⟩
instance : OneC Tryz.prog 41 := ⟨⟨_, Tryz.underlying41, rfl⟩, by kernel_rfl⟩
instance : SlC Tryz.prog 41 3 1 := ⟨Tryz.underlying41, by kernel_rfl⟩
instance : ZC Tryz.prog 41 [.slice none 0 0] := ⟨⟨.slice none 0 0, by kernel_rfl, rfl⟩⟩
instance : ElT Tryz.prog 41 (.slice none 0 0) 1 24 := ⟨by kernel_rfl, rfl⟩
instance : OneC Tryz.prog 53 := ⟨⟨_, Tryz.underlying53, rfl⟩, by kernel_rfl⟩
instance : SlC Tryz.prog 53 131 2 := ⟨Tryz.underlying53, by kernel_rfl⟩
instance : ZC Tryz.prog 53 [.slice none 0 0] := ⟨⟨.slice none 0 0, by kernel_rfl, rfl⟩⟩
instance : ElT Tryz.prog 53 (.slice none 0 0) 1 24 := ⟨by kernel_rfl, rfl⟩
instance : OneC Tryz.prog 67 := ⟨⟨_, Tryz.underlying67, rfl⟩, by kernel_rfl⟩
instance : SlC Tryz.prog 67 76 5 := ⟨Tryz.underlying67, by kernel_rfl⟩
instance : ZC Tryz.prog 67 [.slice none 0 0] := ⟨⟨.slice none 0 0, by kernel_rfl, rfl⟩⟩
instance : ElT Tryz.prog 67 (.slice none 0 0) 1 24 := ⟨by kernel_rfl, rfl⟩
instance : OneC Tryz.prog 86 := ⟨⟨_, Tryz.underlying86, rfl⟩, by kernel_rfl⟩
instance : SlC Tryz.prog 86 191 2 := ⟨Tryz.underlying86, by kernel_rfl⟩
instance : ZC Tryz.prog 86 [.slice none 0 0] := ⟨⟨.slice none 0 0, by kernel_rfl, rfl⟩⟩
instance : ElT Tryz.prog 86 (.slice none 0 0) 1 24 := ⟨by kernel_rfl, rfl⟩
instance : OneC Tryz.prog 97 := ⟨⟨_, Tryz.underlying97, rfl⟩, by kernel_rfl⟩
instance : OneC Tryz.prog 160 := ⟨⟨_, Tryz.underlying160, rfl⟩, by kernel_rfl⟩
instance : OneC Tryz.prog 174 := ⟨⟨_, Tryz.underlying174, rfl⟩, by kernel_rfl⟩
instance : OneC Tryz.prog 205 := ⟨⟨_, Tryz.underlying205, rfl⟩, by kernel_rfl⟩
end Go.Proofs.YtidephmobajikaaGreatDoor
/- The type Source of the exact laws: how it reads, how it is owned; the walks of its size, copy, equality, mark and held. Written by wip/gentypes.py. -/
namespace Go.Proofs.YtidephmobajikaaGreatDoor
open Go.RowKit
structure Source where
  window : SendWindow
  clock : Int
  quiet : Int
  holds : List Hold
/-- read -/
def ESource : Elem Source where
  sz := 6
  rep w cs x F := ∃ v1 v2 F1 F2, cs = [.int .i64 x.window.trail, .int .i64 x.window.size, v1, .int .i64 x.clock, .int .i64 x.quiet, v2] ∧ Sl EStr w v1 x.window.items F1 ∧ Sl EHold w v2 x.holds F2 ∧ F = F1 ++ F2
  len h := by obtain ⟨v1, v2, F1, F2, rfl, h1, h2, rfl⟩ := h; rfl
  lt h := by
    obtain ⟨v1, v2, F1, F2, rfl, h1, h2, rfl⟩ := h
    intro b hb
    simp only [List.mem_append] at hb
    rcases hb with hb | hb
    · exact h1.lt (by decide) b hb
    · exact h2.lt (by decide) b hb
  frame h hF := by obtain ⟨v1, v2, F1, F2, rfl, h1, h2, rfl⟩ := h; exact ⟨v1, v2, F1, F2, rfl, h1.frame fun b hb => hF b (by simp [hb]), h2.frame fun b hb => hF b (by simp [hb]), rfl⟩
/-- owned -/
def OSource : Elem Source where
  sz := 6
  rep w cs x F := ∃ v1 v2 F1 F2, cs = [.int .i64 x.window.trail, .int .i64 x.window.size, v1, .int .i64 x.clock, .int .i64 x.quiet, v2] ∧ Ow EStr 9 w v1 x.window.items F1 ∧ Ow EHold 131 w v2 x.holds F2 ∧ F = F1 ++ F2
  len h := by obtain ⟨v1, v2, F1, F2, rfl, h1, h2, rfl⟩ := h; rfl
  lt h := by
    obtain ⟨v1, v2, F1, F2, rfl, h1, h2, rfl⟩ := h
    intro b hb
    simp only [List.mem_append] at hb
    rcases hb with hb | hb
    · exact h1.lt b hb
    · exact h2.lt b hb
  frame h hF := by obtain ⟨v1, v2, F1, F2, rfl, h1, h2, rfl⟩ := h; exact ⟨v1, v2, F1, F2, rfl, h1.frame fun b hb => hF b (by simp [hb]), h2.frame fun b hb => hF b (by simp [hb]), rfl⟩
theorem weak_Source : Weak OSource ESource := ⟨rfl, fun h => by
  obtain ⟨v1, v2, F1, F2, rfl, h1, h2, rfl⟩ := h
  obtain ⟨G1, g1, k1⟩ := h1.sl (Weak.refl _)
  obtain ⟨G2, g2, k2⟩ := h2.sl (Weak.refl _)
  refine ⟨G1 ++ G2, ?_, v1, v2, G1, G2, rfl, k1, k2, rfl⟩
  intro b hb
  simp only [List.mem_append] at hb ⊢
  rcases hb with hb | hb
  · simp [g1 b hb]
  · simp [g2 b hb]⟩
end Go.Proofs.YtidephmobajikaaGreatDoor
/- Structs of type Source in a walk's state: opened, closed. -/
namespace Go.Proofs.YtidephmobajikaaGreatDoor
open Go.RowKit
section
variable {c : Cx} {fr : Fr} {H : List Pc} {Φ : Gl}
theorem openSource {v : Value} {x : Source} {F : List Nat} (h : ∀ (a1 : Option Addr) (c1 : Nat) (F1 : List Nat) (a2 : Option Addr) (c2 : Nat) (F2 : List Nat), v = .agg #[.int .i64 x.window.trail, .int .i64 x.window.size, .slice a1 x.window.items.length c1, .int .i64 x.clock, .int .i64 x.quiet, .slice a2 x.holds.length c2] → x.window.items.length ≤ maxLen → x.holds.length ≤ maxLen → T c fr (.sl EStr (.slice a1 x.window.items.length c1) x.window.items F1 :: .sl EHold (.slice a2 x.holds.length c2) x.holds F2 :: H) Φ) (hm : .isv ESource v x F ∈ H := by first | exact .head _ | exact .tail _ (.head _) | exact .tail _ (.tail _ (.head _)) | exact .tail _ (.tail _ (.tail _ (.head _))) | exact .tail _ (.tail _ (.tail _ (.tail _ (.head _)))) | exact .tail _ (.tail _ (.tail _ (.tail _ (.tail _ (.head _))))) | exact .tail _ (.tail _ (.tail _ (.tail _ (.tail _ (.tail _ (.head _)))))) | exact .tail _ (.tail _ (.tail _ (.tail _ (.tail _ (.tail _ (.tail _ (.head _))))))) | exact .tail _ (.tail _ (.tail _ (.tail _ (.tail _ (.tail _ (.tail _ (.tail _ (.head _)))))))) | exact .tail _ (.tail _ (.tail _ (.tail _ (.tail _ (.tail _ (.tail _ (.tail _ (.tail _ (.head _))))))))) | exact .tail _ (.tail _ (.tail _ (.tail _ (.tail _ (.tail _ (.tail _ (.tail _ (.tail _ (.tail _ (.head _)))))))))) | exact .tail _ (.tail _ (.tail _ (.tail _ (.tail _ (.tail _ (.tail _ (.tail _ (.tail _ (.tail _ (.tail _ (.head _))))))))))) | exact .tail _ (.tail _ (.tail _ (.tail _ (.tail _ (.tail _ (.tail _ (.tail _ (.tail _ (.tail _ (.tail _ (.tail _ (.head _)))))))))))) | exact .tail _ (.tail _ (.tail _ (.tail _ (.tail _ (.tail _ (.tail _ (.tail _ (.tail _ (.tail _ (.tail _ (.tail _ (.tail _ (.head _)))))))))))))) : T c fr H Φ := .mk fun a w s g => by
  obtain ⟨cs, rfl, v1, v2, G1, G2, rfl, h1, h2, rfl⟩ := s.get hm
  obtain ⟨a1, c1, rfl⟩ := h1.slice; have l1 := h1.len
  obtain ⟨a2, c2, rfl⟩ := h2.slice; have l2 := h2.len
  have t2 := s.ro (p := .sl EHold (.slice a2 x.holds.length c2) x.holds G2) hm rfl rfl ⟨by decide, h2⟩ (by intro b hb; simp only [Pc.F] at hb ⊢; simp [hb])
  have t1 := t2.ro (p := .sl EStr (.slice a1 x.window.items.length c1) x.window.items G1) (List.mem_cons_of_mem _ hm) rfl rfl ⟨by decide, h1⟩ (by intro b hb; simp only [Pc.F] at hb ⊢; simp [hb])
  exact (h a1 c1 G1 a2 c2 G2 rfl  l1 l2).h a w t1 g
theorem closeSource (x : Source) {a1 : Option Addr} {c1 : Nat} {F1 : List Nat} {a2 : Option Addr} {c2 : Nat} {F2 : List Nat}  (h : T c fr (.isv ESource (.agg #[.int .i64 x.window.trail, .int .i64 x.window.size, .slice a1 x.window.items.length c1, .int .i64 x.clock, .int .i64 x.quiet, .slice a2 x.holds.length c2]) x (F1 ++ F2) :: H) Φ) (m1 : .sl EStr (.slice a1 x.window.items.length c1) x.window.items F1 ∈ H := by first | exact .head _ | exact .tail _ (.head _) | exact .tail _ (.tail _ (.head _)) | exact .tail _ (.tail _ (.tail _ (.head _))) | exact .tail _ (.tail _ (.tail _ (.tail _ (.head _)))) | exact .tail _ (.tail _ (.tail _ (.tail _ (.tail _ (.head _))))) | exact .tail _ (.tail _ (.tail _ (.tail _ (.tail _ (.tail _ (.head _)))))) | exact .tail _ (.tail _ (.tail _ (.tail _ (.tail _ (.tail _ (.tail _ (.head _))))))) | exact .tail _ (.tail _ (.tail _ (.tail _ (.tail _ (.tail _ (.tail _ (.tail _ (.head _)))))))) | exact .tail _ (.tail _ (.tail _ (.tail _ (.tail _ (.tail _ (.tail _ (.tail _ (.tail _ (.head _))))))))) | exact .tail _ (.tail _ (.tail _ (.tail _ (.tail _ (.tail _ (.tail _ (.tail _ (.tail _ (.tail _ (.head _)))))))))) | exact .tail _ (.tail _ (.tail _ (.tail _ (.tail _ (.tail _ (.tail _ (.tail _ (.tail _ (.tail _ (.tail _ (.head _))))))))))) | exact .tail _ (.tail _ (.tail _ (.tail _ (.tail _ (.tail _ (.tail _ (.tail _ (.tail _ (.tail _ (.tail _ (.tail _ (.head _)))))))))))) | exact .tail _ (.tail _ (.tail _ (.tail _ (.tail _ (.tail _ (.tail _ (.tail _ (.tail _ (.tail _ (.tail _ (.tail _ (.tail _ (.head _)))))))))))))) (m2 : .sl EHold (.slice a2 x.holds.length c2) x.holds F2 ∈ H := by first | exact .head _ | exact .tail _ (.head _) | exact .tail _ (.tail _ (.head _)) | exact .tail _ (.tail _ (.tail _ (.head _))) | exact .tail _ (.tail _ (.tail _ (.tail _ (.head _)))) | exact .tail _ (.tail _ (.tail _ (.tail _ (.tail _ (.head _))))) | exact .tail _ (.tail _ (.tail _ (.tail _ (.tail _ (.tail _ (.head _)))))) | exact .tail _ (.tail _ (.tail _ (.tail _ (.tail _ (.tail _ (.tail _ (.head _))))))) | exact .tail _ (.tail _ (.tail _ (.tail _ (.tail _ (.tail _ (.tail _ (.tail _ (.head _)))))))) | exact .tail _ (.tail _ (.tail _ (.tail _ (.tail _ (.tail _ (.tail _ (.tail _ (.tail _ (.head _))))))))) | exact .tail _ (.tail _ (.tail _ (.tail _ (.tail _ (.tail _ (.tail _ (.tail _ (.tail _ (.tail _ (.head _)))))))))) | exact .tail _ (.tail _ (.tail _ (.tail _ (.tail _ (.tail _ (.tail _ (.tail _ (.tail _ (.tail _ (.tail _ (.head _))))))))))) | exact .tail _ (.tail _ (.tail _ (.tail _ (.tail _ (.tail _ (.tail _ (.tail _ (.tail _ (.tail _ (.tail _ (.tail _ (.head _)))))))))))) | exact .tail _ (.tail _ (.tail _ (.tail _ (.tail _ (.tail _ (.tail _ (.tail _ (.tail _ (.tail _ (.tail _ (.tail _ (.tail _ (.head _)))))))))))))) : T c fr H Φ := .mk fun a w s g => by
  have hP : IsV ESource w (.agg #[.int .i64 x.window.trail, .int .i64 x.window.size, .slice a1 x.window.items.length c1, .int .i64 x.clock, .int .i64 x.quiet, .slice a2 x.holds.length c2]) x (F1 ++ F2) := ⟨_, rfl, _, _, _, _, rfl, (s.get m1).2, (s.get m2).2, rfl⟩
  refine h.h a w (s.add (N := [.isv ESource (.agg #[.int .i64 x.window.trail, .int .i64 x.window.size, .slice a1 x.window.items.length c1, .int .i64 x.clock, .int .i64 x.quiet, .slice a2 x.holds.length c2]) x (F1 ++ F2)]) (Below.refl _ _) (by intro q hq; simp at hq; subst hq; exact hP) ⟨by simp, trivial⟩ fun q hq b hb => ?_) g
  simp at hq; subst hq
  simp only [Pc.F, List.mem_append] at hb
  rcases hb with hb | hb
  · exact .inr ⟨rfl, _, m1, rfl, hb⟩
  · exact .inr ⟨rfl, _, m2, rfl, hb⟩
theorem openOSource {v : Value} {x : Source} {F : List Nat} {S : List Pc} (h : ∀ (a1 : Option Addr) (c1 : Nat) (F1 : List Nat) (a2 : Option Addr) (c2 : Nat) (F2 : List Nat), v = .agg #[.int .i64 x.window.trail, .int .i64 x.window.size, .slice a1 x.window.items.length c1, .int .i64 x.clock, .int .i64 x.quiet, .slice a2 x.holds.length c2] → x.window.items.length ≤ maxLen → x.holds.length ≤ maxLen → T c fr (.ow EStr 9 (.slice a1 x.window.items.length c1) x.window.items F1 :: .ow EHold 131 (.slice a2 x.holds.length c2) x.holds F2 :: S) Φ) (hp : Pick H (.own OSource v x F) S := by first | exact .here | exact .there .here | exact .there (.there .here) | exact .there (.there (.there .here)) | exact .there (.there (.there (.there .here))) | exact .there (.there (.there (.there (.there .here)))) | exact .there (.there (.there (.there (.there (.there .here))))) | exact .there (.there (.there (.there (.there (.there (.there .here)))))) | exact .there (.there (.there (.there (.there (.there (.there (.there .here))))))) | exact .there (.there (.there (.there (.there (.there (.there (.there (.there .here)))))))) | exact .there (.there (.there (.there (.there (.there (.there (.there (.there (.there .here))))))))) | exact .there (.there (.there (.there (.there (.there (.there (.there (.there (.there (.there .here)))))))))) | exact .there (.there (.there (.there (.there (.there (.there (.there (.there (.there (.there (.there .here))))))))))) | exact .there (.there (.there (.there (.there (.there (.there (.there (.there (.there (.there (.there (.there .here))))))))))))) : T c fr H Φ := .mk fun a w s g => by
  have z1 := s.pick hp
  obtain ⟨hn, cs, rfl, v1, v2, G1, G2, rfl, h1, h2, rfl⟩ := z1.on (.own OSource v x F) (by simp)
  obtain ⟨a1, c1, rfl⟩ := h1.slice; have l1 := h1.len
  obtain ⟨a2, c2, rfl⟩ := h2.slice; have l2 := h2.len
  have hn2 := hn; simp only [List.nodup_append, List.mem_append] at hn2
  refine (h a1 c1 G1 a2 c2 G2 rfl  l1 l2).h a w (St.turn (M := [.own OSource (.agg #[.int .i64 x.window.trail, .int .i64 x.window.size, .slice a1 x.window.items.length c1, .int .i64 x.clock, .int .i64 x.quiet, .slice a2 x.holds.length c2]) x _]) (N := [.ow EStr 9 (.slice a1 x.window.items.length c1) x.window.items G1, .ow EHold 131 (.slice a2 x.holds.length c2) x.holds G2]) z1 (Keep.refl _ w) ?_ ?_ ?_) g
  · intro q hq; simp only [List.mem_cons, List.not_mem_nil, or_false] at hq
    rcases hq with rfl | rfl
    · exact ⟨(List.nodup_append.1 hn).1, h1⟩
    · exact ⟨(List.nodup_append.1 hn).2.1, h2⟩
  · refine ⟨?_, ⟨?_, trivial⟩⟩
    · intro q hq _ b hb hb2; simp only [List.mem_cons, List.not_mem_nil, or_false] at hq; rcases hq with rfl <;> simp only [Pc.F] at hb hb2 <;> exact nodup_apt hn hb hb2
    · intro q hq _ b hb hb2; simp at hq
  · intro q hq b hb; refine .inr (.inl ⟨_, List.mem_singleton.2 rfl, rfl, ?_⟩); simp only [List.mem_cons, List.not_mem_nil, or_false] at hq; rcases hq with rfl | rfl <;> simp only [Pc.F] at hb ⊢ <;> simp [hb]
theorem closeOSource (x : Source) {a1 : Option Addr} {c1 : Nat} {F1 : List Nat} {a2 : Option Addr} {c2 : Nat} {F2 : List Nat} {S1 S2 : List Pc}  (h : T c fr (.own OSource (.agg #[.int .i64 x.window.trail, .int .i64 x.window.size, .slice a1 x.window.items.length c1, .int .i64 x.clock, .int .i64 x.quiet, .slice a2 x.holds.length c2]) x (F1 ++ F2) :: S2) Φ) (m1 : Pick H (.ow EStr 9 (.slice a1 x.window.items.length c1) x.window.items F1) S1 := by first | exact .here | exact .there .here | exact .there (.there .here) | exact .there (.there (.there .here)) | exact .there (.there (.there (.there .here))) | exact .there (.there (.there (.there (.there .here)))) | exact .there (.there (.there (.there (.there (.there .here))))) | exact .there (.there (.there (.there (.there (.there (.there .here)))))) | exact .there (.there (.there (.there (.there (.there (.there (.there .here))))))) | exact .there (.there (.there (.there (.there (.there (.there (.there (.there .here)))))))) | exact .there (.there (.there (.there (.there (.there (.there (.there (.there (.there .here))))))))) | exact .there (.there (.there (.there (.there (.there (.there (.there (.there (.there (.there .here)))))))))) | exact .there (.there (.there (.there (.there (.there (.there (.there (.there (.there (.there (.there .here))))))))))) | exact .there (.there (.there (.there (.there (.there (.there (.there (.there (.there (.there (.there (.there .here))))))))))))) (m2 : Pick S1 (.ow EHold 131 (.slice a2 x.holds.length c2) x.holds F2) S2 := by first | exact .here | exact .there .here | exact .there (.there .here) | exact .there (.there (.there .here)) | exact .there (.there (.there (.there .here))) | exact .there (.there (.there (.there (.there .here)))) | exact .there (.there (.there (.there (.there (.there .here))))) | exact .there (.there (.there (.there (.there (.there (.there .here)))))) | exact .there (.there (.there (.there (.there (.there (.there (.there .here))))))) | exact .there (.there (.there (.there (.there (.there (.there (.there (.there .here)))))))) | exact .there (.there (.there (.there (.there (.there (.there (.there (.there (.there .here))))))))) | exact .there (.there (.there (.there (.there (.there (.there (.there (.there (.there (.there .here)))))))))) | exact .there (.there (.there (.there (.there (.there (.there (.there (.there (.there (.there (.there .here))))))))))) | exact .there (.there (.there (.there (.there (.there (.there (.there (.there (.there (.there (.there (.there .here)))))))))))))  : T c fr H Φ := .mk fun a w s g => by
  have z1 : St c.G c.D c.w0 ([.ow EStr 9 (.slice a1 x.window.items.length c1) x.window.items F1, .ow EHold 131 (.slice a2 x.holds.length c2) x.holds F2] ++ S2) w := by simpa using (show Picks H [.ow EStr 9 (.slice a1 x.window.items.length c1) x.window.items F1, .ow EHold 131 (.slice a2 x.holds.length c2) x.holds F2] S2 from Picks.cons m1 (Picks.cons m2 (Picks.nil))).st (X := []) (by simpa using s)
  obtain ⟨n1, k1⟩ := z1.on (.ow EStr 9 (.slice a1 x.window.items.length c1) x.window.items F1) (by simp)
  obtain ⟨n2, k2⟩ := z1.on (.ow EHold 131 (.slice a2 x.holds.length c2) x.holds F2) (by simp)
  have hsp := z1.sep
  have p1_2 : ∀ b ∈ F1, b ∉ F2 := hsp.1 (.ow EHold 131 (.slice a2 x.holds.length c2) x.holds F2) (by simp) rfl
  have hN : (F1 ++ F2).Nodup := by
    simp only [List.nodup_append, List.mem_append]
    grind
  refine h.h a w (St.turn (M := [.ow EStr 9 (.slice a1 x.window.items.length c1) x.window.items F1, .ow EHold 131 (.slice a2 x.holds.length c2) x.holds F2]) (N := [.own OSource (.agg #[.int .i64 x.window.trail, .int .i64 x.window.size, .slice a1 x.window.items.length c1, .int .i64 x.clock, .int .i64 x.quiet, .slice a2 x.holds.length c2]) x (F1 ++ F2)]) z1 (Keep.refl _ w) (by intro q hq; simp at hq; subst hq; exact ⟨hN, _, rfl, _, _, _, _, rfl, k1, k2, rfl⟩) ⟨by simp, trivial⟩ fun q hq b hb => ?_) g
  simp at hq; subst hq
  simp only [Pc.F, List.mem_append] at hb
  rcases hb with hb | hb
  · exact .inr (.inl ⟨.ow EStr 9 (.slice a1 x.window.items.length c1) x.window.items F1, by simp, rfl, hb⟩)
  · exact .inr (.inl ⟨.ow EHold 131 (.slice a2 x.holds.length c2) x.holds F2, by simp, rfl, hb⟩)
end
end Go.Proofs.YtidephmobajikaaGreatDoor
/- Structs of type SendWindow in a walk's state: opened, closed. -/
namespace Go.Proofs.YtidephmobajikaaGreatDoor
open Go.RowKit
section
variable {c : Cx} {fr : Fr} {H : List Pc} {Φ : Gl}
theorem openSendWindow {v : Value} {x : SendWindow} {F : List Nat} (h : ∀ (a1 : Option Addr) (c1 : Nat) (F1 : List Nat), v = .agg #[.int .i64 x.trail, .int .i64 x.size, .slice a1 x.items.length c1] → x.items.length ≤ maxLen → T c fr (.sl EStr (.slice a1 x.items.length c1) x.items F1 :: H) Φ) (hm : .isv ESendWindow v x F ∈ H := by first | exact .head _ | exact .tail _ (.head _) | exact .tail _ (.tail _ (.head _)) | exact .tail _ (.tail _ (.tail _ (.head _))) | exact .tail _ (.tail _ (.tail _ (.tail _ (.head _)))) | exact .tail _ (.tail _ (.tail _ (.tail _ (.tail _ (.head _))))) | exact .tail _ (.tail _ (.tail _ (.tail _ (.tail _ (.tail _ (.head _)))))) | exact .tail _ (.tail _ (.tail _ (.tail _ (.tail _ (.tail _ (.tail _ (.head _))))))) | exact .tail _ (.tail _ (.tail _ (.tail _ (.tail _ (.tail _ (.tail _ (.tail _ (.head _)))))))) | exact .tail _ (.tail _ (.tail _ (.tail _ (.tail _ (.tail _ (.tail _ (.tail _ (.tail _ (.head _))))))))) | exact .tail _ (.tail _ (.tail _ (.tail _ (.tail _ (.tail _ (.tail _ (.tail _ (.tail _ (.tail _ (.head _)))))))))) | exact .tail _ (.tail _ (.tail _ (.tail _ (.tail _ (.tail _ (.tail _ (.tail _ (.tail _ (.tail _ (.tail _ (.head _))))))))))) | exact .tail _ (.tail _ (.tail _ (.tail _ (.tail _ (.tail _ (.tail _ (.tail _ (.tail _ (.tail _ (.tail _ (.tail _ (.head _)))))))))))) | exact .tail _ (.tail _ (.tail _ (.tail _ (.tail _ (.tail _ (.tail _ (.tail _ (.tail _ (.tail _ (.tail _ (.tail _ (.tail _ (.head _)))))))))))))) : T c fr H Φ := .mk fun a w s g => by
  obtain ⟨cs, rfl, v1, rfl, h1⟩ := s.get hm
  obtain ⟨a1, c1, rfl⟩ := h1.slice; have l1 := h1.len
  have t1 := s.ro (p := .sl EStr (.slice a1 x.items.length c1) x.items F) hm rfl rfl ⟨by decide, h1⟩ fun b hb => hb
  exact (h a1 c1 F rfl  l1).h a w t1 g
theorem closeSendWindow (x : SendWindow) {a1 : Option Addr} {c1 : Nat} {F1 : List Nat}  (h : T c fr (.isv ESendWindow (.agg #[.int .i64 x.trail, .int .i64 x.size, .slice a1 x.items.length c1]) x (F1) :: H) Φ) (m1 : .sl EStr (.slice a1 x.items.length c1) x.items F1 ∈ H := by first | exact .head _ | exact .tail _ (.head _) | exact .tail _ (.tail _ (.head _)) | exact .tail _ (.tail _ (.tail _ (.head _))) | exact .tail _ (.tail _ (.tail _ (.tail _ (.head _)))) | exact .tail _ (.tail _ (.tail _ (.tail _ (.tail _ (.head _))))) | exact .tail _ (.tail _ (.tail _ (.tail _ (.tail _ (.tail _ (.head _)))))) | exact .tail _ (.tail _ (.tail _ (.tail _ (.tail _ (.tail _ (.tail _ (.head _))))))) | exact .tail _ (.tail _ (.tail _ (.tail _ (.tail _ (.tail _ (.tail _ (.tail _ (.head _)))))))) | exact .tail _ (.tail _ (.tail _ (.tail _ (.tail _ (.tail _ (.tail _ (.tail _ (.tail _ (.head _))))))))) | exact .tail _ (.tail _ (.tail _ (.tail _ (.tail _ (.tail _ (.tail _ (.tail _ (.tail _ (.tail _ (.head _)))))))))) | exact .tail _ (.tail _ (.tail _ (.tail _ (.tail _ (.tail _ (.tail _ (.tail _ (.tail _ (.tail _ (.tail _ (.head _))))))))))) | exact .tail _ (.tail _ (.tail _ (.tail _ (.tail _ (.tail _ (.tail _ (.tail _ (.tail _ (.tail _ (.tail _ (.tail _ (.head _)))))))))))) | exact .tail _ (.tail _ (.tail _ (.tail _ (.tail _ (.tail _ (.tail _ (.tail _ (.tail _ (.tail _ (.tail _ (.tail _ (.tail _ (.head _)))))))))))))) : T c fr H Φ := .mk fun a w s g => by
  have hP : IsV ESendWindow w (.agg #[.int .i64 x.trail, .int .i64 x.size, .slice a1 x.items.length c1]) x (F1) := ⟨_, rfl, _, rfl, (s.get m1).2⟩
  refine h.h a w (s.add (N := [.isv ESendWindow (.agg #[.int .i64 x.trail, .int .i64 x.size, .slice a1 x.items.length c1]) x (F1)]) (Below.refl _ _) (by intro q hq; simp at hq; subst hq; exact hP) ⟨by simp, trivial⟩ fun q hq b hb => ?_) g
  simp at hq; subst hq
  simp only [Pc.F, List.mem_append] at hb
  exact .inr ⟨rfl, _, m1, rfl, hb⟩
theorem openOSendWindow {v : Value} {x : SendWindow} {F : List Nat} {S : List Pc} (h : ∀ (a1 : Option Addr) (c1 : Nat) (F1 : List Nat), v = .agg #[.int .i64 x.trail, .int .i64 x.size, .slice a1 x.items.length c1] → x.items.length ≤ maxLen → T c fr (.ow EStr 9 (.slice a1 x.items.length c1) x.items F1 :: S) Φ) (hp : Pick H (.own OSendWindow v x F) S := by first | exact .here | exact .there .here | exact .there (.there .here) | exact .there (.there (.there .here)) | exact .there (.there (.there (.there .here))) | exact .there (.there (.there (.there (.there .here)))) | exact .there (.there (.there (.there (.there (.there .here))))) | exact .there (.there (.there (.there (.there (.there (.there .here)))))) | exact .there (.there (.there (.there (.there (.there (.there (.there .here))))))) | exact .there (.there (.there (.there (.there (.there (.there (.there (.there .here)))))))) | exact .there (.there (.there (.there (.there (.there (.there (.there (.there (.there .here))))))))) | exact .there (.there (.there (.there (.there (.there (.there (.there (.there (.there (.there .here)))))))))) | exact .there (.there (.there (.there (.there (.there (.there (.there (.there (.there (.there (.there .here))))))))))) | exact .there (.there (.there (.there (.there (.there (.there (.there (.there (.there (.there (.there (.there .here))))))))))))) : T c fr H Φ := .mk fun a w s g => by
  have z1 := s.pick hp
  obtain ⟨hn, cs, rfl, v1, rfl, h1⟩ := z1.on (.own OSendWindow v x F) (by simp)
  obtain ⟨a1, c1, rfl⟩ := h1.slice; have l1 := h1.len
  refine (h a1 c1 F rfl  l1).h a w (St.turn (M := [.own OSendWindow (.agg #[.int .i64 x.trail, .int .i64 x.size, .slice a1 x.items.length c1]) x _]) (N := [.ow EStr 9 (.slice a1 x.items.length c1) x.items F]) z1 (Keep.refl _ w) ?_ ?_ ?_) g
  · intro q hq; simp at hq; subst hq; exact ⟨hn, h1⟩
  · exact ⟨by simp, trivial⟩
  · intro q hq b hb; simp at hq; subst hq; exact .inr (.inl ⟨_, List.mem_singleton.2 rfl, rfl, hb⟩)
theorem closeOSendWindow (x : SendWindow) {a1 : Option Addr} {c1 : Nat} {F1 : List Nat} {S1 : List Pc}  (h : T c fr (.own OSendWindow (.agg #[.int .i64 x.trail, .int .i64 x.size, .slice a1 x.items.length c1]) x (F1) :: S1) Φ) (m1 : Pick H (.ow EStr 9 (.slice a1 x.items.length c1) x.items F1) S1 := by first | exact .here | exact .there .here | exact .there (.there .here) | exact .there (.there (.there .here)) | exact .there (.there (.there (.there .here))) | exact .there (.there (.there (.there (.there .here)))) | exact .there (.there (.there (.there (.there (.there .here))))) | exact .there (.there (.there (.there (.there (.there (.there .here)))))) | exact .there (.there (.there (.there (.there (.there (.there (.there .here))))))) | exact .there (.there (.there (.there (.there (.there (.there (.there (.there .here)))))))) | exact .there (.there (.there (.there (.there (.there (.there (.there (.there (.there .here))))))))) | exact .there (.there (.there (.there (.there (.there (.there (.there (.there (.there (.there .here)))))))))) | exact .there (.there (.there (.there (.there (.there (.there (.there (.there (.there (.there (.there .here))))))))))) | exact .there (.there (.there (.there (.there (.there (.there (.there (.there (.there (.there (.there (.there .here)))))))))))))  : T c fr H Φ := .mk fun a w s g => by
  have z1 : St c.G c.D c.w0 ([.ow EStr 9 (.slice a1 x.items.length c1) x.items F1] ++ S1) w := by simpa using (show Picks H [.ow EStr 9 (.slice a1 x.items.length c1) x.items F1] S1 from Picks.cons m1 (Picks.nil)).st (X := []) (by simpa using s)
  obtain ⟨n1, k1⟩ := z1.on (.ow EStr 9 (.slice a1 x.items.length c1) x.items F1) (by simp)
  have hN := n1
  refine h.h a w (St.turn (M := [.ow EStr 9 (.slice a1 x.items.length c1) x.items F1]) (N := [.own OSendWindow (.agg #[.int .i64 x.trail, .int .i64 x.size, .slice a1 x.items.length c1]) x (F1)]) z1 (Keep.refl _ w) (by intro q hq; simp at hq; subst hq; exact ⟨hN, _, rfl, _, rfl, k1⟩) ⟨by simp, trivial⟩ fun q hq b hb => ?_) g
  simp at hq; subst hq
  simp only [Pc.F, List.mem_append] at hb
  exact .inr (.inl ⟨_, List.mem_singleton.2 rfl, rfl, hb⟩)
end
end Go.Proofs.YtidephmobajikaaGreatDoor
/- Sources: the check. -/
namespace Go.Proofs.YtidephmobajikaaGreatDoor
open Go.RowKit
def heldB (w : SendWindow) (n : Int) : Bool := decide (gp w.trail n < (w.items.length : Int))
theorem clk_bd {n : Int} (h : isClk n = true) : 0 ≤ n ∧ n ≤ 9999 := by unfold isClk btw at h; simpa using h
def chkH (x : Source) (i : Nat) : Bool := match x.holds[i]? with
  | none => true
  | some h => isSer h.number && heldB x.window h.number && btw (x.clock + 1) h.untl (x.clock + 3) && (decide (i = 0) || match x.holds[i - 1]? with | none => true | some p => !decide (gp x.window.trail h.number ≤ gp x.window.trail p.number))
theorem chkH_at {x : Source} {i : Nat} (h : i < x.holds.length) : chkH x i = (isSer x.holds[i].number && heldB x.window x.holds[i].number && btw (x.clock + 1) x.holds[i].untl (x.clock + 3) && (decide (i = 0) || !decide (gp x.window.trail x.holds[i].number ≤ gp x.window.trail (x.holds[i - 1]'(by omega)).number))) := by
  unfold chkH
  rw [List.getElem?_eq_getElem h, List.getElem?_eq_getElem (show i - 1 < x.holds.length by omega)]
def goodSrc (x : Source) : Bool := goodWin x.window && isClk x.clock && btw 0 x.quiet 3 && (List.range x.holds.length).all (chkH x)
theorem goodSrc_no {x : Source} {i : Nat} (h : i < x.holds.length) (hc : chkH x i = false) : goodSrc x = false := by
  have : (List.range x.holds.length).all (chkH x) = false := List.all_eq_false.2 ⟨i, by simpa using h, by simp [hc]⟩
  simp [goodSrc, this]
theorem goodSrc_yes {x : Source} (h1 : goodWin x.window = true) (h2 : isClk x.clock = true) (h3 : btw 0 x.quiet 3 = true) (h : ∀ j, j < x.holds.length → chkH x j = true) : goodSrc x = true := by
  unfold goodSrc
  rw [h1, h2, h3, List.all_eq_true.2 fun j hj => h j (by simpa using hj)]; rfl
set_option maxRecDepth 100000 in
theorem isHeld_f (x : SendWindow) (n : Int) (v : Value) (F : List Nat) (h0 : 0 ≤ x.trail) (h1 : x.trail ≤ 65535) (h2 : 0 ≤ n) (h3 : n ≤ 65535) :
    Fn Tryz.prog 103 [v, .int .i64 n] [.isv ESendWindow v x F] [] (fun (_ : Unit) => True) (fun _ => .bool (heldB x n)) (fun _ => []) := by
  refine enter Tryz.func103 rfl Tryz.ntmps103 fun w0 => ?_
  refine openSendWindow ?_
  rintro a1 c1 F1 rfl l1
  repeat (first | apply c_seq | apply c_reg | (apply wO; apply oc; rfl; exact ydE) | apply w_nil | apply n_cd | (apply wg_t; rfl; rfl) | (apply wg_f; rfl; rfl; rfl; rfl) | (apply wg_u; rfl; rfl; rfl) | (apply c_t; rfl) | (apply c_f; rfl) | apply c_skip | apply c_block | apply n_blk | apply c_exit | apply e_hit | apply e_cd | apply e_lp | (apply e_miss; rfl) | apply c_ret | (apply wO; apply o_box; rfl; rfl; rfl; intro _) | (apply wO; apply o_alloc; rfl; intro _) | (apply wO; apply o_st; rfl; rfl; rfl; (first | exact AggC.s | exact OneC.s); rfl; exact rplE; exact putE; rfl) | (apply wO; apply o_bs0; rfl; intro _) | (apply wO; apply o_bs; rfl; rfl; rfl; rfl; exact rptE; exact filE; intro _) | (apply wO; apply o_call; rfl; kernel_rfl; exact evsE))
  refine d_start [0] [] ?_
  refine dt 0 ?_
  refine dt 1 ?_
  refine dt 2 ?_
  refine dt 4 ?_
  refine dt 5 ?_
  refine dt 6 ?_
  refine dO 3 (by kernel_rfl) (by rw [List.getElem?_toArray]; rfl) ?_
  apply o_call; rfl; kernel_rfl; exact evsE
  refine ce (fun w s => gap_c _ _ _ (by omega) (by omega) (by omega) (by omega)) ?_
  refine dk ?_
  refine dt 7 ?_
  refine dt 8 ?_
  refine dd ?_
  repeat (first | apply c_seq | apply c_reg | (apply wO; apply oc; rfl; exact ydE) | apply w_nil | apply n_cd | (apply wg_t; rfl; rfl) | (apply wg_f; rfl; rfl; rfl; rfl) | (apply wg_u; rfl; rfl; rfl) | (apply c_t; rfl) | (apply c_f; rfl) | apply c_skip | apply c_block | apply n_blk | apply c_exit | apply e_hit | apply e_cd | apply e_lp | (apply e_miss; rfl) | apply c_ret | (apply wO; apply o_box; rfl; rfl; rfl; intro _) | (apply wO; apply o_alloc; rfl; intro _) | (apply wO; apply o_st; rfl; rfl; rfl; (first | exact AggC.s | exact OneC.s); rfl; exact rplE; exact putE; rfl) | (apply wO; apply o_bs0; rfl; intro _) | (apply wO; apply o_bs; rfl; rfl; rfl; rfl; exact rptE; exact filE; intro _) | (apply wO; apply o_call; rfl; kernel_rfl; exact evsE))
  refine ret () trivial rfl
set_option maxRecDepth 100000 in
theorem l9HeldW_f (x : SendWindow) (n : Int) (v : Value) (F : List Nat) (h0 : 0 ≤ x.trail) (h1 : x.trail ≤ 65535) (h2 : -1 ≤ n) (h3 : n ≤ 65536) :
    Fn Tryz.prog 160 [v, .int .i64 n] [.isv ESendWindow v x F] [] (fun (_ : Unit) => True) (fun _ => .bool (heldB x n)) (fun _ => []) := by
  refine enter Tryz.func160 rfl Tryz.ntmps160 fun w0 => ?_
  refine openSendWindow ?_
  rintro a1 c1 F1 rfl l1
  repeat (first | apply c_seq | apply c_reg | (apply wO; apply oc; rfl; exact ydE) | apply w_nil | apply n_cd | (apply wg_t; rfl; rfl) | (apply wg_f; rfl; rfl; rfl; rfl) | (apply wg_u; rfl; rfl; rfl) | (apply c_t; rfl) | (apply c_f; rfl) | apply c_skip | apply c_block | apply n_blk | apply c_exit | apply e_hit | apply e_cd | apply e_lp | (apply e_miss; rfl) | apply c_ret | (apply wO; apply o_box; rfl; rfl; rfl; intro _) | (apply wO; apply o_alloc; rfl; intro _) | (apply wO; apply o_st; rfl; rfl; rfl; (first | exact AggC.s | exact OneC.s); rfl; exact rplE; exact putE; rfl) | (apply wO; apply o_bs0; rfl; intro _) | (apply wO; apply o_bs; rfl; rfl; rfl; rfl; exact rptE; exact filE; intro _) | (apply wO; apply o_call; rfl; kernel_rfl; exact evsE))
  refine d_start [0] [] ?_
  refine dt 0 ?_
  refine dt 1 ?_
  refine dt 2 ?_
  refine dt 4 ?_
  refine dt 5 ?_
  refine dt 6 ?_
  refine dO 3 (by kernel_rfl) (by rw [List.getElem?_toArray]; rfl) ?_
  apply o_call; rfl; kernel_rfl; exact evsE
  refine ce (fun w s => l2Gap_c _ _ _ (by omega) (by omega)) ?_
  refine dk ?_
  refine dt 7 ?_
  refine dt 8 ?_
  refine dd ?_
  repeat (first | apply c_seq | apply c_reg | (apply wO; apply oc; rfl; exact ydE) | apply w_nil | apply n_cd | (apply wg_t; rfl; rfl) | (apply wg_f; rfl; rfl; rfl; rfl) | (apply wg_u; rfl; rfl; rfl) | (apply c_t; rfl) | (apply c_f; rfl) | apply c_skip | apply c_block | apply n_blk | apply c_exit | apply e_hit | apply e_cd | apply e_lp | (apply e_miss; rfl) | apply c_ret | (apply wO; apply o_box; rfl; rfl; rfl; intro _) | (apply wO; apply o_alloc; rfl; intro _) | (apply wO; apply o_st; rfl; rfl; rfl; (first | exact AggC.s | exact OneC.s); rfl; exact rplE; exact putE; rfl) | (apply wO; apply o_bs0; rfl; intro _) | (apply wO; apply o_bs; rfl; rfl; rfl; rfl; exact rptE; exact filE; intro _) | (apply wO; apply o_call; rfl; kernel_rfl; exact evsE))
  refine ret () trivial rfl
theorem l9Held_f (x : SendWindow) (n : Int) (v : Value) (F : List Nat) (h0 : 0 ≤ x.trail) (h1 : x.trail ≤ 65535) (h2 : 0 ≤ n) (h3 : n ≤ 65535) :
    Fn Tryz.prog 160 [v, .int .i64 n] [.isv ESendWindow v x F] [] (fun (_ : Unit) => True) (fun _ => .bool (heldB x n)) (fun _ => []) := l9HeldW_f x n v F h0 h1 (by omega) (by omega)

set_option maxRecDepth 100000 in
theorem IsValidSource_f (x : Source) (v : Value) (F : List Nat) : Fn Tryz.prog 31 [v] [.isv ESource v x F] [] (fun (_ : Unit) => True) (fun _ => .bool (goodSrc x)) (fun _ => []) := by
  refine enter Tryz.func31 rfl Tryz.ntmps31 fun w0 => ?_
  refine openSource ?_
  rintro a1 c1 F1 a2 c2 F2 rfl l1 l2
  unfold maxLen at l1 l2
  refine closeSendWindow x.window ?_
  generalize F1 = F3
  repeat (first | apply c_seq | apply c_reg | (apply wO; apply oc; rfl; exact ydE) | apply w_nil | apply n_cd | (apply wg_t; rfl; rfl) | (apply wg_f; rfl; rfl; rfl; rfl) | (apply wg_u; rfl; rfl; rfl) | (apply c_t; rfl) | (apply c_f; rfl) | apply c_skip | apply c_block | apply n_blk | apply c_exit | apply e_hit | apply e_cd | apply e_lp | (apply e_miss; rfl) | apply c_ret | (apply wO; apply o_box; rfl; rfl; rfl; intro _) | (apply wO; apply o_alloc; rfl; intro _) | (apply wO; apply o_st; rfl; rfl; rfl; (first | exact AggC.s | exact OneC.s); rfl; exact rplE; exact putE; rfl) | (apply wO; apply o_bs0; rfl; intro _) | (apply wO; apply o_bs; rfl; rfl; rfl; rfl; exact rptE; exact filE; intro _) | (apply wO; apply o_call; rfl; kernel_rfl; exact evsE))
  refine cb (fun w st => IsValidSendWindow_c _ x.window _ w (st.get (p := .isv ESendWindow (.agg #[.int .i64 x.window.trail, .int .i64 x.window.size, .slice a1 x.window.items.length c1]) x.window F3) (by simp))) ?_
  cases g1 : goodWin x.window
  · repeat (first | apply c_seq | apply c_reg | (apply wO; apply oc; rfl; exact ydE) | apply w_nil | apply n_cd | (apply wg_t; rfl; rfl) | (apply wg_f; rfl; rfl; rfl; rfl) | (apply wg_u; rfl; rfl; rfl) | (apply c_t; rfl) | (apply c_f; rfl) | apply c_skip | apply c_block | apply n_blk | apply c_exit | apply e_hit | apply e_cd | apply e_lp | (apply e_miss; rfl) | apply c_ret | (apply wO; apply o_box; rfl; rfl; rfl; intro _) | (apply wO; apply o_alloc; rfl; intro _) | (apply wO; apply o_st; rfl; rfl; rfl; (first | exact AggC.s | exact OneC.s); rfl; exact rplE; exact putE; rfl) | (apply wO; apply o_bs0; rfl; intro _) | (apply wO; apply o_bs; rfl; rfl; rfl; rfl; exact rptE; exact filE; intro _) | (apply wO; apply o_call; rfl; kernel_rfl; exact evsE))
    refine ret () trivial ?_
    simp [goodSrc, g1, tup]
  obtain ⟨⟨t0, t1⟩, -⟩ := goodWin_iff.1 g1
  repeat (first | apply c_seq | apply c_reg | (apply wO; apply oc; rfl; exact ydE) | apply w_nil | apply n_cd | (apply wg_t; rfl; rfl) | (apply wg_f; rfl; rfl; rfl; rfl) | (apply wg_u; rfl; rfl; rfl) | (apply c_t; rfl) | (apply c_f; rfl) | apply c_skip | apply c_block | apply n_blk | apply c_exit | apply e_hit | apply e_cd | apply e_lp | (apply e_miss; rfl) | apply c_ret | (apply wO; apply o_box; rfl; rfl; rfl; intro _) | (apply wO; apply o_alloc; rfl; intro _) | (apply wO; apply o_st; rfl; rfl; rfl; (first | exact AggC.s | exact OneC.s); rfl; exact rplE; exact putE; rfl) | (apply wO; apply o_bs0; rfl; intro _) | (apply wO; apply o_bs; rfl; rfl; rfl; rfl; exact rptE; exact filE; intro _) | (apply wO; apply o_call; rfl; kernel_rfl; exact evsE))
  refine ce (fun w s => isClock_c _ _) ?_
  cases g2 : isClk x.clock
  · repeat (first | apply c_seq | apply c_reg | (apply wO; apply oc; rfl; exact ydE) | apply w_nil | apply n_cd | (apply wg_t; rfl; rfl) | (apply wg_f; rfl; rfl; rfl; rfl) | (apply wg_u; rfl; rfl; rfl) | (apply c_t; rfl) | (apply c_f; rfl) | apply c_skip | apply c_block | apply n_blk | apply c_exit | apply e_hit | apply e_cd | apply e_lp | (apply e_miss; rfl) | apply c_ret | (apply wO; apply o_box; rfl; rfl; rfl; intro _) | (apply wO; apply o_alloc; rfl; intro _) | (apply wO; apply o_st; rfl; rfl; rfl; (first | exact AggC.s | exact OneC.s); rfl; exact rplE; exact putE; rfl) | (apply wO; apply o_bs0; rfl; intro _) | (apply wO; apply o_bs; rfl; rfl; rfl; rfl; exact rptE; exact filE; intro _) | (apply wO; apply o_call; rfl; kernel_rfl; exact evsE))
    refine ret () trivial ?_
    simp [goodSrc, g2, tup]
  obtain ⟨k0, k1⟩ := clk_bd g2
  repeat (first | apply c_seq | apply c_reg | (apply wO; apply oc; rfl; exact ydE) | apply w_nil | apply n_cd | (apply wg_t; rfl; rfl) | (apply wg_f; rfl; rfl; rfl; rfl) | (apply wg_u; rfl; rfl; rfl) | (apply c_t; rfl) | (apply c_f; rfl) | apply c_skip | apply c_block | apply n_blk | apply c_exit | apply e_hit | apply e_cd | apply e_lp | (apply e_miss; rfl) | apply c_ret | (apply wO; apply o_box; rfl; rfl; rfl; intro _) | (apply wO; apply o_alloc; rfl; intro _) | (apply wO; apply o_st; rfl; rfl; rfl; (first | exact AggC.s | exact OneC.s); rfl; exact rplE; exact putE; rfl) | (apply wO; apply o_bs0; rfl; intro _) | (apply wO; apply o_bs; rfl; rfl; rfl; rfl; exact rptE; exact filE; intro _) | (apply wO; apply o_call; rfl; kernel_rfl; exact evsE))
  refine ce (fun w s => within_c _ _ _ _) ?_
  cases g3 : btw 0 x.quiet 3
  · repeat (first | apply c_seq | apply c_reg | (apply wO; apply oc; rfl; exact ydE) | apply w_nil | apply n_cd | (apply wg_t; rfl; rfl) | (apply wg_f; rfl; rfl; rfl; rfl) | (apply wg_u; rfl; rfl; rfl) | (apply c_t; rfl) | (apply c_f; rfl) | apply c_skip | apply c_block | apply n_blk | apply c_exit | apply e_hit | apply e_cd | apply e_lp | (apply e_miss; rfl) | apply c_ret | (apply wO; apply o_box; rfl; rfl; rfl; intro _) | (apply wO; apply o_alloc; rfl; intro _) | (apply wO; apply o_st; rfl; rfl; rfl; (first | exact AggC.s | exact OneC.s); rfl; exact rplE; exact putE; rfl) | (apply wO; apply o_bs0; rfl; intro _) | (apply wO; apply o_bs; rfl; rfl; rfl; rfl; exact rptE; exact filE; intro _) | (apply wO; apply o_call; rfl; kernel_rfl; exact evsE))
    refine ret () trivial ?_
    simp [goodSrc, g3, tup]
  repeat (first | apply c_seq | apply c_reg | (apply wO; apply oc; rfl; exact ydE) | apply w_nil | apply n_cd | (apply wg_t; rfl; rfl) | (apply wg_f; rfl; rfl; rfl; rfl) | (apply wg_u; rfl; rfl; rfl) | (apply c_t; rfl) | (apply c_f; rfl) | apply c_skip | apply c_block | apply n_blk | apply c_exit | apply e_hit | apply e_cd | apply e_lp | (apply e_miss; rfl) | apply c_ret | (apply wO; apply o_box; rfl; rfl; rfl; intro _) | (apply wO; apply o_alloc; rfl; intro _) | (apply wO; apply o_st; rfl; rfl; rfl; (first | exact AggC.s | exact OneC.s); rfl; exact rplE; exact putE; rfl) | (apply wO; apply o_bs0; rfl; intro _) | (apply wO; apply o_bs; rfl; rfl; rfl; rfl; exact rptE; exact filE; intro _) | (apply wO; apply o_call; rfl; kernel_rfl; exact evsE))
  refine c_loopR [1, 2, 22, 23] (fun k : Nat => [(24, .int .i64 k)]) (fun k => k ≤ x.holds.length ∧ ∀ j, j < k → chkH x j = true) (fun k => x.holds.length - k) 0 ⟨Nat.zero_le _, fun j h => by omega⟩ fun k hk => ?_
  obtain ⟨hk1, hk2⟩ := hk
  repeat (first | apply c_seq | apply c_reg | (apply wO; apply oc; rfl; exact ydE) | apply w_nil | apply n_cd | (apply wg_t; rfl; rfl) | (apply wg_f; rfl; rfl; rfl; rfl) | (apply wg_u; rfl; rfl; rfl) | (apply c_t; rfl) | (apply c_f; rfl) | apply c_skip | apply c_block | apply n_blk | apply c_exit | apply e_hit | apply e_cd | apply e_lp | (apply e_miss; rfl) | apply c_ret | (apply wO; apply o_box; rfl; rfl; rfl; intro _) | (apply wO; apply o_alloc; rfl; intro _) | (apply wO; apply o_st; rfl; rfl; rfl; (first | exact AggC.s | exact OneC.s); rfl; exact rplE; exact putE; rfl) | (apply wO; apply o_bs0; rfl; intro _) | (apply wO; apply o_bs; rfl; rfl; rfl; rfl; exact rptE; exact filE; intro _) | (apply wO; apply o_call; rfl; kernel_rfl; exact evsE))
  refine c_if rfl (fun h3 => ?_) (fun h3 => ?_)
  · have hk3 : k < x.holds.length := by omega
    have bad : chkH x k = false → goodSrc x = false := fun h => goodSrc_no hk3 h
    have hck := chkH_at hk3
    refine atHold (xs := x.holds) k ?_
    rintro hi b o e
    rw [e]
    repeat (first | apply c_seq | apply c_reg | (apply wO; apply oc; rfl; exact ydE) | apply w_nil | apply n_cd | (apply wg_t; rfl; rfl) | (apply wg_f; rfl; rfl; rfl; rfl) | (apply wg_u; rfl; rfl; rfl) | (apply c_t; rfl) | (apply c_f; rfl) | apply c_skip | apply c_block | apply n_blk | apply c_exit | apply e_hit | apply e_cd | apply e_lp | (apply e_miss; rfl) | apply c_ret | (apply wO; apply o_box; rfl; rfl; rfl; intro _) | (apply wO; apply o_alloc; rfl; intro _) | (apply wO; apply o_st; rfl; rfl; rfl; (first | exact AggC.s | exact OneC.s); rfl; exact rplE; exact putE; rfl) | (apply wO; apply o_bs0; rfl; intro _) | (apply wO; apply o_bs; rfl; rfl; rfl; rfl; exact rptE; exact filE; intro _) | (apply wO; apply o_call; rfl; kernel_rfl; exact evsE))
    refine ce (fun w s => IsSerial_c _ _) ?_
    cases g4 : isSer x.holds[k].number
    · repeat (first | apply c_seq | apply c_reg | (apply wO; apply oc; rfl; exact ydE) | apply w_nil | apply n_cd | (apply wg_t; rfl; rfl) | (apply wg_f; rfl; rfl; rfl; rfl) | (apply wg_u; rfl; rfl; rfl) | (apply c_t; rfl) | (apply c_f; rfl) | apply c_skip | apply c_block | apply n_blk | apply c_exit | apply e_hit | apply e_cd | apply e_lp | (apply e_miss; rfl) | apply c_ret | (apply wO; apply o_box; rfl; rfl; rfl; intro _) | (apply wO; apply o_alloc; rfl; intro _) | (apply wO; apply o_st; rfl; rfl; rfl; (first | exact AggC.s | exact OneC.s); rfl; exact rplE; exact putE; rfl) | (apply wO; apply o_bs0; rfl; intro _) | (apply wO; apply o_bs; rfl; rfl; rfl; rfl; exact rptE; exact filE; intro _) | (apply wO; apply o_call; rfl; kernel_rfl; exact evsE))
      refine ret () trivial ?_
      rw [bad (by rw [hck, g4]; rfl)]; rfl
    obtain ⟨m0, m1⟩ := isSer_iff.1 g4
    repeat (first | apply c_seq | apply c_reg | (apply wO; apply oc; rfl; exact ydE) | apply w_nil | apply n_cd | (apply wg_t; rfl; rfl) | (apply wg_f; rfl; rfl; rfl; rfl) | (apply wg_u; rfl; rfl; rfl) | (apply c_t; rfl) | (apply c_f; rfl) | apply c_skip | apply c_block | apply n_blk | apply c_exit | apply e_hit | apply e_cd | apply e_lp | (apply e_miss; rfl) | apply c_ret | (apply wO; apply o_box; rfl; rfl; rfl; intro _) | (apply wO; apply o_alloc; rfl; intro _) | (apply wO; apply o_st; rfl; rfl; rfl; (first | exact AggC.s | exact OneC.s); rfl; exact rplE; exact putE; rfl) | (apply wO; apply o_bs0; rfl; intro _) | (apply wO; apply o_bs; rfl; rfl; rfl; rfl; exact rptE; exact filE; intro _) | (apply wO; apply o_call; rfl; kernel_rfl; exact evsE))
    refine cb (fun w st => (isHeld_f x.window x.holds[k].number _ _ t0 t1 m0 m1).val w (hol1 (st.get (p := .isv ESendWindow (.agg #[.int .i64 x.window.trail, .int .i64 x.window.size, .slice a1 x.window.items.length c1]) x.window F3) (by simp)))) ?_
    cases g5 : heldB x.window x.holds[k].number
    · repeat (first | apply c_seq | apply c_reg | (apply wO; apply oc; rfl; exact ydE) | apply w_nil | apply n_cd | (apply wg_t; rfl; rfl) | (apply wg_f; rfl; rfl; rfl; rfl) | (apply wg_u; rfl; rfl; rfl) | (apply c_t; rfl) | (apply c_f; rfl) | apply c_skip | apply c_block | apply n_blk | apply c_exit | apply e_hit | apply e_cd | apply e_lp | (apply e_miss; rfl) | apply c_ret | (apply wO; apply o_box; rfl; rfl; rfl; intro _) | (apply wO; apply o_alloc; rfl; intro _) | (apply wO; apply o_st; rfl; rfl; rfl; (first | exact AggC.s | exact OneC.s); rfl; exact rplE; exact putE; rfl) | (apply wO; apply o_bs0; rfl; intro _) | (apply wO; apply o_bs; rfl; rfl; rfl; rfl; exact rptE; exact filE; intro _) | (apply wO; apply o_call; rfl; kernel_rfl; exact evsE))
      refine ret () trivial ?_
      rw [bad (by rw [hck, g4, g5]; rfl)]; rfl
    repeat (first | apply c_seq | apply c_reg | (apply wO; apply oc; rfl; exact ydE) | apply w_nil | apply n_cd | (apply wg_t; rfl; rfl) | (apply wg_f; rfl; rfl; rfl; rfl) | (apply wg_u; rfl; rfl; rfl) | (apply c_t; rfl) | (apply c_f; rfl) | apply c_skip | apply c_block | apply n_blk | apply c_exit | apply e_hit | apply e_cd | apply e_lp | (apply e_miss; rfl) | apply c_ret | (apply wO; apply o_box; rfl; rfl; rfl; intro _) | (apply wO; apply o_alloc; rfl; intro _) | (apply wO; apply o_st; rfl; rfl; rfl; (first | exact AggC.s | exact OneC.s); rfl; exact rplE; exact putE; rfl) | (apply wO; apply o_bs0; rfl; intro _) | (apply wO; apply o_bs; rfl; rfl; rfl; rfl; exact rptE; exact filE; intro _) | (apply wO; apply o_call; rfl; kernel_rfl; exact evsE))
    refine ce (fun w s => within_c _ _ _ _) ?_
    cases g6 : btw (x.clock + 1) x.holds[k].untl (x.clock + 3)
    · repeat (first | apply c_seq | apply c_reg | (apply wO; apply oc; rfl; exact ydE) | apply w_nil | apply n_cd | (apply wg_t; rfl; rfl) | (apply wg_f; rfl; rfl; rfl; rfl) | (apply wg_u; rfl; rfl; rfl) | (apply c_t; rfl) | (apply c_f; rfl) | apply c_skip | apply c_block | apply n_blk | apply c_exit | apply e_hit | apply e_cd | apply e_lp | (apply e_miss; rfl) | apply c_ret | (apply wO; apply o_box; rfl; rfl; rfl; intro _) | (apply wO; apply o_alloc; rfl; intro _) | (apply wO; apply o_st; rfl; rfl; rfl; (first | exact AggC.s | exact OneC.s); rfl; exact rplE; exact putE; rfl) | (apply wO; apply o_bs0; rfl; intro _) | (apply wO; apply o_bs; rfl; rfl; rfl; rfl; exact rptE; exact filE; intro _) | (apply wO; apply o_call; rfl; kernel_rfl; exact evsE))
      refine ret () trivial ?_
      rw [bad (by rw [hck, g4, g5, g6]; rfl)]; rfl
    repeat (first | apply c_seq | apply c_reg | (apply wO; apply oc; rfl; exact ydE) | apply w_nil | apply n_cd | (apply wg_t; rfl; rfl) | (apply wg_f; rfl; rfl; rfl; rfl) | (apply wg_u; rfl; rfl; rfl) | (apply c_t; rfl) | (apply c_f; rfl) | apply c_skip | apply c_block | apply n_blk | apply c_exit | apply e_hit | apply e_cd | apply e_lp | (apply e_miss; rfl) | apply c_ret | (apply wO; apply o_box; rfl; rfl; rfl; intro _) | (apply wO; apply o_alloc; rfl; intro _) | (apply wO; apply o_st; rfl; rfl; rfl; (first | exact AggC.s | exact OneC.s); rfl; exact rplE; exact putE; rfl) | (apply wO; apply o_bs0; rfl; intro _) | (apply wO; apply o_bs; rfl; rfl; rfl; rfl; exact rptE; exact filE; intro _) | (apply wO; apply o_call; rfl; kernel_rfl; exact evsE))
    by_cases hk0 : 0 < k
    · have hk4 : k - 1 < x.holds.length := by omega
      have hp := hk2 (k - 1) (by omega)
      rw [chkH_at hk4] at hp
      simp only [Bool.and_eq_true] at hp
      obtain ⟨p0, p1⟩ := isSer_iff.1 hp.1.1.1
      rw [← e]
      refine atHold (xs := x.holds) (k - 1) ?_
      rintro hi5 b5 o5 e5
      rw [e5]
      refine d_start [0, 1, 3] [] ?_
      refine dt 0 ?_
      refine dt 1 ?_
      rw [decide_eq_true (show (0 : Int) < k by omega)]
      refine dt 2 ?_
      refine dtg 3 ?_
      refine dtg 4 ?_
      refine dtg 5 ?_
      refine dtg 6 ?_
      refine dtg 7 ?_
      refine dtg 8 ?_
      refine dtg 9 ?_
      rw [show (k : Int) - 1 = ((k - 1 : Nat) : Int) by omega]
      refine dtg 10 ?_
      refine dtg 11 ?_
      refine dtg 12 ?_
      refine dtg 14 ?_
      refine dtg 15 ?_
      refine dtg 16 ?_
      refine dtg 17 ?_
      refine dtg 18 ?_
      refine d1g 13 ?_
      apply On.h
      apply o_call; rfl; kernel_rfl; exact evsE
      refine ce (fun w s => gap_c _ _ _ (by omega) (by omega) (by omega) (by omega)) ?_
      refine dk ?_
      refine d1g 19 ?_
      apply On.h
      apply o_call; rfl; kernel_rfl; exact evsE
      refine ce (fun w s => gap_c _ _ _ (by omega) (by omega) (by omega) (by omega)) ?_
      refine dk ?_
      refine dtg 20 ?_
      refine dt 21 ?_
      refine dd ?_
      repeat (first | apply c_seq | apply c_reg | (apply wO; apply oc; rfl; exact ydE) | apply w_nil | apply n_cd | (apply wg_t; rfl; rfl) | (apply wg_f; rfl; rfl; rfl; rfl) | (apply wg_u; rfl; rfl; rfl) | (apply c_t; rfl) | (apply c_f; rfl) | apply c_skip | apply c_block | apply n_blk | apply c_exit | apply e_hit | apply e_cd | apply e_lp | (apply e_miss; rfl) | apply c_ret | (apply wO; apply o_box; rfl; rfl; rfl; intro _) | (apply wO; apply o_alloc; rfl; intro _) | (apply wO; apply o_st; rfl; rfl; rfl; (first | exact AggC.s | exact OneC.s); rfl; exact rplE; exact putE; rfl) | (apply wO; apply o_bs0; rfl; intro _) | (apply wO; apply o_bs; rfl; rfl; rfl; rfl; exact rptE; exact filE; intro _) | (apply wO; apply o_call; rfl; kernel_rfl; exact evsE))
      refine c_if rfl (fun h6 => ?_) (fun h6 => ?_)
      · repeat (first | apply c_seq | apply c_reg | (apply wO; apply oc; rfl; exact ydE) | apply w_nil | apply n_cd | (apply wg_t; rfl; rfl) | (apply wg_f; rfl; rfl; rfl; rfl) | (apply wg_u; rfl; rfl; rfl) | (apply c_t; rfl) | (apply c_f; rfl) | apply c_skip | apply c_block | apply n_blk | apply c_exit | apply e_hit | apply e_cd | apply e_lp | (apply e_miss; rfl) | apply c_ret | (apply wO; apply o_box; rfl; rfl; rfl; intro _) | (apply wO; apply o_alloc; rfl; intro _) | (apply wO; apply o_st; rfl; rfl; rfl; (first | exact AggC.s | exact OneC.s); rfl; exact rplE; exact putE; rfl) | (apply wO; apply o_bs0; rfl; intro _) | (apply wO; apply o_bs; rfl; rfl; rfl; rfl; exact rptE; exact filE; intro _) | (apply wO; apply o_call; rfl; kernel_rfl; exact evsE))
        refine ret () trivial ?_
        rw [bad (by rw [hck, decide_eq_true h6, decide_eq_false (show ¬ k = 0 by omega)]; simp)]; rfl
      · repeat (first | apply c_seq | apply c_reg | (apply wO; apply oc; rfl; exact ydE) | apply w_nil | apply n_cd | (apply wg_t; rfl; rfl) | (apply wg_f; rfl; rfl; rfl; rfl) | (apply wg_u; rfl; rfl; rfl) | (apply c_t; rfl) | (apply c_f; rfl) | apply c_skip | apply c_block | apply n_blk | apply c_exit | apply e_hit | apply e_cd | apply e_lp | (apply e_miss; rfl) | apply c_ret | (apply wO; apply o_box; rfl; rfl; rfl; intro _) | (apply wO; apply o_alloc; rfl; intro _) | (apply wO; apply o_st; rfl; rfl; rfl; (first | exact AggC.s | exact OneC.s); rfl; exact rplE; exact putE; rfl) | (apply wO; apply o_bs0; rfl; intro _) | (apply wO; apply o_bs; rfl; rfl; rfl; rfl; exact rptE; exact filE; intro _) | (apply wO; apply o_call; rfl; kernel_rfl; exact evsE))
        refine n_lp (k + 1) ⟨by omega, fun j hj => ?_⟩ (by omega)
        rcases Nat.lt_or_eq_of_le (Nat.lt_succ_iff.1 hj) with h | rfl
        · exact hk2 j h
        · rw [hck, g4, g5, g6, decide_eq_false h6]; simp
    · have hz : k = 0 := by omega
      refine d_start [0, 2] [] ?_
      refine dt 0 ?_
      refine dt 1 ?_
      rw [decide_eq_false (show ¬ (0 : Int) < k by omega)]
      refine dt 2 ?_
      refine ds 3 ?_
      refine ds 4 ?_
      refine ds 5 ?_
      refine ds 6 ?_
      refine ds 7 ?_
      refine ds 8 ?_
      refine ds 9 ?_
      refine ds 10 ?_
      refine ds 11 ?_
      refine ds 12 ?_
      refine ds 13 ?_
      refine ds 14 ?_
      refine ds 15 ?_
      refine ds 16 ?_
      refine ds 17 ?_
      refine ds 18 ?_
      refine ds 19 ?_
      refine ds 20 ?_
      refine dt 21 ?_
      refine dd ?_
      repeat (first | apply c_seq | apply c_reg | (apply wO; apply oc; rfl; exact ydE) | apply w_nil | apply n_cd | (apply wg_t; rfl; rfl) | (apply wg_f; rfl; rfl; rfl; rfl) | (apply wg_u; rfl; rfl; rfl) | (apply c_t; rfl) | (apply c_f; rfl) | apply c_skip | apply c_block | apply n_blk | apply c_exit | apply e_hit | apply e_cd | apply e_lp | (apply e_miss; rfl) | apply c_ret | (apply wO; apply o_box; rfl; rfl; rfl; intro _) | (apply wO; apply o_alloc; rfl; intro _) | (apply wO; apply o_st; rfl; rfl; rfl; (first | exact AggC.s | exact OneC.s); rfl; exact rplE; exact putE; rfl) | (apply wO; apply o_bs0; rfl; intro _) | (apply wO; apply o_bs; rfl; rfl; rfl; rfl; exact rptE; exact filE; intro _) | (apply wO; apply o_call; rfl; kernel_rfl; exact evsE))
      refine n_lp (k + 1) ⟨by omega, fun j hj => ?_⟩ (by omega)
      rcases Nat.lt_or_eq_of_le (Nat.lt_succ_iff.1 hj) with h | rfl
      · exact hk2 j h
      · rw [hck, g4, g5, g6, decide_eq_true hz]; simp
  have hkl : k = x.holds.length := by omega
  repeat (first | apply c_seq | apply c_reg | (apply wO; apply oc; rfl; exact ydE) | apply w_nil | apply n_cd | (apply wg_t; rfl; rfl) | (apply wg_f; rfl; rfl; rfl; rfl) | (apply wg_u; rfl; rfl; rfl) | (apply c_t; rfl) | (apply c_f; rfl) | apply c_skip | apply c_block | apply n_blk | apply c_exit | apply e_hit | apply e_cd | apply e_lp | (apply e_miss; rfl) | apply c_ret | (apply wO; apply o_box; rfl; rfl; rfl; intro _) | (apply wO; apply o_alloc; rfl; intro _) | (apply wO; apply o_st; rfl; rfl; rfl; (first | exact AggC.s | exact OneC.s); rfl; exact rplE; exact putE; rfl) | (apply wO; apply o_bs0; rfl; intro _) | (apply wO; apply o_bs; rfl; rfl; rfl; rfl; exact rptE; exact filE; intro _) | (apply wO; apply o_call; rfl; kernel_rfl; exact evsE))
  refine ret () trivial ?_
  rw [goodSrc_yes g1 g2 g3 (hkl ▸ hk2)]; rfl
end Go.Proofs.YtidephmobajikaaGreatDoor
/- Sources: the check of the reference. -/
namespace Go.Proofs.YtidephmobajikaaGreatDoor
open Go.RowKit
set_option maxRecDepth 100000 in
theorem l11Good_f (x : Source) (v : Value) (F : List Nat) : Fn Tryz.prog 97 [v] [.isv ESource v x F] [] (fun (_ : Unit) => True) (fun _ => .bool (goodSrc x)) (fun _ => []) := by
  refine enter Tryz.func97 rfl Tryz.ntmps97 fun w0 => ?_
  refine openSource ?_
  rintro a1 c1 F1 a2 c2 F2 rfl l1 l2
  unfold maxLen at l1 l2
  refine closeSendWindow x.window ?_
  generalize F1 = F3
  repeat (first | apply c_seq | apply c_reg | (apply wO; apply oc; rfl; exact ydE) | apply w_nil | apply n_cd | (apply wg_t; rfl; rfl) | (apply wg_f; rfl; rfl; rfl; rfl) | (apply wg_u; rfl; rfl; rfl) | (apply c_t; rfl) | (apply c_f; rfl) | apply c_skip | apply c_block | apply n_blk | apply c_exit | apply e_hit | apply e_cd | apply e_lp | (apply e_miss; rfl) | apply c_ret | (apply wO; apply o_box; rfl; rfl; rfl; intro _) | (apply wO; apply o_alloc; rfl; intro _) | (apply wO; apply o_st; rfl; rfl; rfl; (first | exact AggC.s | exact OneC.s); rfl; exact rplE; exact putE; rfl) | (apply wO; apply o_bs0; rfl; intro _) | (apply wO; apply o_bs; rfl; rfl; rfl; rfl; exact rptE; exact filE; intro _) | (apply wO; apply o_call; rfl; kernel_rfl; exact evsE))
  refine cb (fun w st => l9Good_c _ x.window _ w (st.get (p := .isv ESendWindow (.agg #[.int .i64 x.window.trail, .int .i64 x.window.size, .slice a1 x.window.items.length c1]) x.window F3) (by simp))) ?_
  cases g1 : goodWin x.window
  · repeat (first | apply c_seq | apply c_reg | (apply wO; apply oc; rfl; exact ydE) | apply w_nil | apply n_cd | (apply wg_t; rfl; rfl) | (apply wg_f; rfl; rfl; rfl; rfl) | (apply wg_u; rfl; rfl; rfl) | (apply c_t; rfl) | (apply c_f; rfl) | apply c_skip | apply c_block | apply n_blk | apply c_exit | apply e_hit | apply e_cd | apply e_lp | (apply e_miss; rfl) | apply c_ret | (apply wO; apply o_box; rfl; rfl; rfl; intro _) | (apply wO; apply o_alloc; rfl; intro _) | (apply wO; apply o_st; rfl; rfl; rfl; (first | exact AggC.s | exact OneC.s); rfl; exact rplE; exact putE; rfl) | (apply wO; apply o_bs0; rfl; intro _) | (apply wO; apply o_bs; rfl; rfl; rfl; rfl; exact rptE; exact filE; intro _) | (apply wO; apply o_call; rfl; kernel_rfl; exact evsE))
    refine ret () trivial ?_
    simp [goodSrc, g1, tup]
  obtain ⟨⟨t0, t1⟩, -⟩ := goodWin_iff.1 g1
  repeat (first | apply c_seq | apply c_reg | (apply wO; apply oc; rfl; exact ydE) | apply w_nil | apply n_cd | (apply wg_t; rfl; rfl) | (apply wg_f; rfl; rfl; rfl; rfl) | (apply wg_u; rfl; rfl; rfl) | (apply c_t; rfl) | (apply c_f; rfl) | apply c_skip | apply c_block | apply n_blk | apply c_exit | apply e_hit | apply e_cd | apply e_lp | (apply e_miss; rfl) | apply c_ret | (apply wO; apply o_box; rfl; rfl; rfl; intro _) | (apply wO; apply o_alloc; rfl; intro _) | (apply wO; apply o_st; rfl; rfl; rfl; (first | exact AggC.s | exact OneC.s); rfl; exact rplE; exact putE; rfl) | (apply wO; apply o_bs0; rfl; intro _) | (apply wO; apply o_bs; rfl; rfl; rfl; rfl; exact rptE; exact filE; intro _) | (apply wO; apply o_call; rfl; kernel_rfl; exact evsE))
  refine ce (fun w s => l11Clock_c _ _) ?_
  cases g2 : isClk x.clock
  · repeat (first | apply c_seq | apply c_reg | (apply wO; apply oc; rfl; exact ydE) | apply w_nil | apply n_cd | (apply wg_t; rfl; rfl) | (apply wg_f; rfl; rfl; rfl; rfl) | (apply wg_u; rfl; rfl; rfl) | (apply c_t; rfl) | (apply c_f; rfl) | apply c_skip | apply c_block | apply n_blk | apply c_exit | apply e_hit | apply e_cd | apply e_lp | (apply e_miss; rfl) | apply c_ret | (apply wO; apply o_box; rfl; rfl; rfl; intro _) | (apply wO; apply o_alloc; rfl; intro _) | (apply wO; apply o_st; rfl; rfl; rfl; (first | exact AggC.s | exact OneC.s); rfl; exact rplE; exact putE; rfl) | (apply wO; apply o_bs0; rfl; intro _) | (apply wO; apply o_bs; rfl; rfl; rfl; rfl; exact rptE; exact filE; intro _) | (apply wO; apply o_call; rfl; kernel_rfl; exact evsE))
    refine ret () trivial ?_
    simp [goodSrc, g2, tup]
  obtain ⟨k0, k1⟩ := clk_bd g2
  repeat (first | apply c_seq | apply c_reg | (apply wO; apply oc; rfl; exact ydE) | apply w_nil | apply n_cd | (apply wg_t; rfl; rfl) | (apply wg_f; rfl; rfl; rfl; rfl) | (apply wg_u; rfl; rfl; rfl) | (apply c_t; rfl) | (apply c_f; rfl) | apply c_skip | apply c_block | apply n_blk | apply c_exit | apply e_hit | apply e_cd | apply e_lp | (apply e_miss; rfl) | apply c_ret | (apply wO; apply o_box; rfl; rfl; rfl; intro _) | (apply wO; apply o_alloc; rfl; intro _) | (apply wO; apply o_st; rfl; rfl; rfl; (first | exact AggC.s | exact OneC.s); rfl; exact rplE; exact putE; rfl) | (apply wO; apply o_bs0; rfl; intro _) | (apply wO; apply o_bs; rfl; rfl; rfl; rfl; exact rptE; exact filE; intro _) | (apply wO; apply o_call; rfl; kernel_rfl; exact evsE))
  refine ce (fun w s => l1In_c _ _ _ _) ?_
  cases g3 : btw 0 x.quiet 3
  · repeat (first | apply c_seq | apply c_reg | (apply wO; apply oc; rfl; exact ydE) | apply w_nil | apply n_cd | (apply wg_t; rfl; rfl) | (apply wg_f; rfl; rfl; rfl; rfl) | (apply wg_u; rfl; rfl; rfl) | (apply c_t; rfl) | (apply c_f; rfl) | apply c_skip | apply c_block | apply n_blk | apply c_exit | apply e_hit | apply e_cd | apply e_lp | (apply e_miss; rfl) | apply c_ret | (apply wO; apply o_box; rfl; rfl; rfl; intro _) | (apply wO; apply o_alloc; rfl; intro _) | (apply wO; apply o_st; rfl; rfl; rfl; (first | exact AggC.s | exact OneC.s); rfl; exact rplE; exact putE; rfl) | (apply wO; apply o_bs0; rfl; intro _) | (apply wO; apply o_bs; rfl; rfl; rfl; rfl; exact rptE; exact filE; intro _) | (apply wO; apply o_call; rfl; kernel_rfl; exact evsE))
    refine ret () trivial ?_
    simp [goodSrc, g3, tup]
  repeat (first | apply c_seq | apply c_reg | (apply wO; apply oc; rfl; exact ydE) | apply w_nil | apply n_cd | (apply wg_t; rfl; rfl) | (apply wg_f; rfl; rfl; rfl; rfl) | (apply wg_u; rfl; rfl; rfl) | (apply c_t; rfl) | (apply c_f; rfl) | apply c_skip | apply c_block | apply n_blk | apply c_exit | apply e_hit | apply e_cd | apply e_lp | (apply e_miss; rfl) | apply c_ret | (apply wO; apply o_box; rfl; rfl; rfl; intro _) | (apply wO; apply o_alloc; rfl; intro _) | (apply wO; apply o_st; rfl; rfl; rfl; (first | exact AggC.s | exact OneC.s); rfl; exact rplE; exact putE; rfl) | (apply wO; apply o_bs0; rfl; intro _) | (apply wO; apply o_bs; rfl; rfl; rfl; rfl; exact rptE; exact filE; intro _) | (apply wO; apply o_call; rfl; kernel_rfl; exact evsE))
  refine c_loopR [1, 2] (fun k : Nat => [(3, .int .i64 k)]) (fun k => k ≤ x.holds.length ∧ ∀ j, j < k → chkH x j = true) (fun k => x.holds.length - k) 0 ⟨Nat.zero_le _, fun j h => by omega⟩ fun k hk => ?_
  obtain ⟨hk1, hk2⟩ := hk
  repeat (first | apply c_seq | apply c_reg | (apply wO; apply oc; rfl; exact ydE) | apply w_nil | apply n_cd | (apply wg_t; rfl; rfl) | (apply wg_f; rfl; rfl; rfl; rfl) | (apply wg_u; rfl; rfl; rfl) | (apply c_t; rfl) | (apply c_f; rfl) | apply c_skip | apply c_block | apply n_blk | apply c_exit | apply e_hit | apply e_cd | apply e_lp | (apply e_miss; rfl) | apply c_ret | (apply wO; apply o_box; rfl; rfl; rfl; intro _) | (apply wO; apply o_alloc; rfl; intro _) | (apply wO; apply o_st; rfl; rfl; rfl; (first | exact AggC.s | exact OneC.s); rfl; exact rplE; exact putE; rfl) | (apply wO; apply o_bs0; rfl; intro _) | (apply wO; apply o_bs; rfl; rfl; rfl; rfl; exact rptE; exact filE; intro _) | (apply wO; apply o_call; rfl; kernel_rfl; exact evsE))
  refine c_if rfl (fun h3 => ?_) (fun h3 => ?_)
  · have hk3 : k < x.holds.length := by omega
    have bad : chkH x k = false → goodSrc x = false := fun h => goodSrc_no hk3 h
    have hck := chkH_at hk3
    refine atHold (xs := x.holds) k ?_
    rintro hi b o e
    rw [e]
    repeat (first | apply c_seq | apply c_reg | (apply wO; apply oc; rfl; exact ydE) | apply w_nil | apply n_cd | (apply wg_t; rfl; rfl) | (apply wg_f; rfl; rfl; rfl; rfl) | (apply wg_u; rfl; rfl; rfl) | (apply c_t; rfl) | (apply c_f; rfl) | apply c_skip | apply c_block | apply n_blk | apply c_exit | apply e_hit | apply e_cd | apply e_lp | (apply e_miss; rfl) | apply c_ret | (apply wO; apply o_box; rfl; rfl; rfl; intro _) | (apply wO; apply o_alloc; rfl; intro _) | (apply wO; apply o_st; rfl; rfl; rfl; (first | exact AggC.s | exact OneC.s); rfl; exact rplE; exact putE; rfl) | (apply wO; apply o_bs0; rfl; intro _) | (apply wO; apply o_bs; rfl; rfl; rfl; rfl; exact rptE; exact filE; intro _) | (apply wO; apply o_call; rfl; kernel_rfl; exact evsE))
    refine ce (fun w s => l2Good_c _ _) ?_
    cases g4 : isSer x.holds[k].number
    · repeat (first | apply c_seq | apply c_reg | (apply wO; apply oc; rfl; exact ydE) | apply w_nil | apply n_cd | (apply wg_t; rfl; rfl) | (apply wg_f; rfl; rfl; rfl; rfl) | (apply wg_u; rfl; rfl; rfl) | (apply c_t; rfl) | (apply c_f; rfl) | apply c_skip | apply c_block | apply n_blk | apply c_exit | apply e_hit | apply e_cd | apply e_lp | (apply e_miss; rfl) | apply c_ret | (apply wO; apply o_box; rfl; rfl; rfl; intro _) | (apply wO; apply o_alloc; rfl; intro _) | (apply wO; apply o_st; rfl; rfl; rfl; (first | exact AggC.s | exact OneC.s); rfl; exact rplE; exact putE; rfl) | (apply wO; apply o_bs0; rfl; intro _) | (apply wO; apply o_bs; rfl; rfl; rfl; rfl; exact rptE; exact filE; intro _) | (apply wO; apply o_call; rfl; kernel_rfl; exact evsE))
      refine ret () trivial ?_
      rw [bad (by rw [hck, g4]; rfl)]; rfl
    obtain ⟨m0, m1⟩ := isSer_iff.1 g4
    repeat (first | apply c_seq | apply c_reg | (apply wO; apply oc; rfl; exact ydE) | apply w_nil | apply n_cd | (apply wg_t; rfl; rfl) | (apply wg_f; rfl; rfl; rfl; rfl) | (apply wg_u; rfl; rfl; rfl) | (apply c_t; rfl) | (apply c_f; rfl) | apply c_skip | apply c_block | apply n_blk | apply c_exit | apply e_hit | apply e_cd | apply e_lp | (apply e_miss; rfl) | apply c_ret | (apply wO; apply o_box; rfl; rfl; rfl; intro _) | (apply wO; apply o_alloc; rfl; intro _) | (apply wO; apply o_st; rfl; rfl; rfl; (first | exact AggC.s | exact OneC.s); rfl; exact rplE; exact putE; rfl) | (apply wO; apply o_bs0; rfl; intro _) | (apply wO; apply o_bs; rfl; rfl; rfl; rfl; exact rptE; exact filE; intro _) | (apply wO; apply o_call; rfl; kernel_rfl; exact evsE))
    refine cb (fun w st => (l9Held_f x.window x.holds[k].number _ _ t0 t1 m0 m1).val w (hol1 (st.get (p := .isv ESendWindow (.agg #[.int .i64 x.window.trail, .int .i64 x.window.size, .slice a1 x.window.items.length c1]) x.window F3) (by simp)))) ?_
    cases g5 : heldB x.window x.holds[k].number
    · repeat (first | apply c_seq | apply c_reg | (apply wO; apply oc; rfl; exact ydE) | apply w_nil | apply n_cd | (apply wg_t; rfl; rfl) | (apply wg_f; rfl; rfl; rfl; rfl) | (apply wg_u; rfl; rfl; rfl) | (apply c_t; rfl) | (apply c_f; rfl) | apply c_skip | apply c_block | apply n_blk | apply c_exit | apply e_hit | apply e_cd | apply e_lp | (apply e_miss; rfl) | apply c_ret | (apply wO; apply o_box; rfl; rfl; rfl; intro _) | (apply wO; apply o_alloc; rfl; intro _) | (apply wO; apply o_st; rfl; rfl; rfl; (first | exact AggC.s | exact OneC.s); rfl; exact rplE; exact putE; rfl) | (apply wO; apply o_bs0; rfl; intro _) | (apply wO; apply o_bs; rfl; rfl; rfl; rfl; exact rptE; exact filE; intro _) | (apply wO; apply o_call; rfl; kernel_rfl; exact evsE))
      refine ret () trivial ?_
      rw [bad (by rw [hck, g4, g5]; rfl)]; rfl
    repeat (first | apply c_seq | apply c_reg | (apply wO; apply oc; rfl; exact ydE) | apply w_nil | apply n_cd | (apply wg_t; rfl; rfl) | (apply wg_f; rfl; rfl; rfl; rfl) | (apply wg_u; rfl; rfl; rfl) | (apply c_t; rfl) | (apply c_f; rfl) | apply c_skip | apply c_block | apply n_blk | apply c_exit | apply e_hit | apply e_cd | apply e_lp | (apply e_miss; rfl) | apply c_ret | (apply wO; apply o_box; rfl; rfl; rfl; intro _) | (apply wO; apply o_alloc; rfl; intro _) | (apply wO; apply o_st; rfl; rfl; rfl; (first | exact AggC.s | exact OneC.s); rfl; exact rplE; exact putE; rfl) | (apply wO; apply o_bs0; rfl; intro _) | (apply wO; apply o_bs; rfl; rfl; rfl; rfl; exact rptE; exact filE; intro _) | (apply wO; apply o_call; rfl; kernel_rfl; exact evsE))
    refine ce (fun w s => l1In_c _ _ _ _) ?_
    cases g6 : btw (x.clock + 1) x.holds[k].untl (x.clock + 3)
    · repeat (first | apply c_seq | apply c_reg | (apply wO; apply oc; rfl; exact ydE) | apply w_nil | apply n_cd | (apply wg_t; rfl; rfl) | (apply wg_f; rfl; rfl; rfl; rfl) | (apply wg_u; rfl; rfl; rfl) | (apply c_t; rfl) | (apply c_f; rfl) | apply c_skip | apply c_block | apply n_blk | apply c_exit | apply e_hit | apply e_cd | apply e_lp | (apply e_miss; rfl) | apply c_ret | (apply wO; apply o_box; rfl; rfl; rfl; intro _) | (apply wO; apply o_alloc; rfl; intro _) | (apply wO; apply o_st; rfl; rfl; rfl; (first | exact AggC.s | exact OneC.s); rfl; exact rplE; exact putE; rfl) | (apply wO; apply o_bs0; rfl; intro _) | (apply wO; apply o_bs; rfl; rfl; rfl; rfl; exact rptE; exact filE; intro _) | (apply wO; apply o_call; rfl; kernel_rfl; exact evsE))
      refine ret () trivial ?_
      rw [bad (by rw [hck, g4, g5, g6]; rfl)]; rfl
    repeat (first | apply c_seq | apply c_reg | (apply wO; apply oc; rfl; exact ydE) | apply w_nil | apply n_cd | (apply wg_t; rfl; rfl) | (apply wg_f; rfl; rfl; rfl; rfl) | (apply wg_u; rfl; rfl; rfl) | (apply c_t; rfl) | (apply c_f; rfl) | apply c_skip | apply c_block | apply n_blk | apply c_exit | apply e_hit | apply e_cd | apply e_lp | (apply e_miss; rfl) | apply c_ret | (apply wO; apply o_box; rfl; rfl; rfl; intro _) | (apply wO; apply o_alloc; rfl; intro _) | (apply wO; apply o_st; rfl; rfl; rfl; (first | exact AggC.s | exact OneC.s); rfl; exact rplE; exact putE; rfl) | (apply wO; apply o_bs0; rfl; intro _) | (apply wO; apply o_bs; rfl; rfl; rfl; rfl; exact rptE; exact filE; intro _) | (apply wO; apply o_call; rfl; kernel_rfl; exact evsE))
    by_cases hk0 : 0 < k
    · have hk4 : k - 1 < x.holds.length := by omega
      have hp := hk2 (k - 1) (by omega)
      rw [chkH_at hk4] at hp
      simp only [Bool.and_eq_true] at hp
      obtain ⟨p0, p1⟩ := isSer_iff.1 hp.1.1.1
      rw [← e]
      refine atHold (xs := x.holds) (k - 1) ?_
      rintro hi5 b5 o5 e5
      rw [e5]
      refine d_start [0, 1, 3] [] ?_
      refine dt 0 ?_
      refine dt 1 ?_
      rw [decide_eq_true (show (0 : Int) < k by omega)]
      refine dt 2 ?_
      refine dtg 3 ?_
      refine dtg 4 ?_
      refine dtg 5 ?_
      refine dtg 6 ?_
      refine dtg 7 ?_
      refine dtg 8 ?_
      refine dtg 9 ?_
      rw [show (k : Int) - 1 = ((k - 1 : Nat) : Int) by omega]
      refine dtg 10 ?_
      refine dtg 11 ?_
      refine dtg 12 ?_
      refine dtg 14 ?_
      refine dtg 15 ?_
      refine dtg 16 ?_
      refine dtg 17 ?_
      refine dtg 18 ?_
      refine d1g 13 ?_
      apply On.h
      apply o_call; rfl; kernel_rfl; exact evsE
      refine ce (fun w s => l2Gap_c _ _ _ (by omega) (by omega)) ?_
      refine dk ?_
      refine d1g 19 ?_
      apply On.h
      apply o_call; rfl; kernel_rfl; exact evsE
      refine ce (fun w s => l2Gap_c _ _ _ (by omega) (by omega)) ?_
      refine dk ?_
      refine dtg 20 ?_
      refine dt 21 ?_
      refine dd ?_
      repeat (first | apply c_seq | apply c_reg | (apply wO; apply oc; rfl; exact ydE) | apply w_nil | apply n_cd | (apply wg_t; rfl; rfl) | (apply wg_f; rfl; rfl; rfl; rfl) | (apply wg_u; rfl; rfl; rfl) | (apply c_t; rfl) | (apply c_f; rfl) | apply c_skip | apply c_block | apply n_blk | apply c_exit | apply e_hit | apply e_cd | apply e_lp | (apply e_miss; rfl) | apply c_ret | (apply wO; apply o_box; rfl; rfl; rfl; intro _) | (apply wO; apply o_alloc; rfl; intro _) | (apply wO; apply o_st; rfl; rfl; rfl; (first | exact AggC.s | exact OneC.s); rfl; exact rplE; exact putE; rfl) | (apply wO; apply o_bs0; rfl; intro _) | (apply wO; apply o_bs; rfl; rfl; rfl; rfl; exact rptE; exact filE; intro _) | (apply wO; apply o_call; rfl; kernel_rfl; exact evsE))
      refine c_if rfl (fun h6 => ?_) (fun h6 => ?_)
      · repeat (first | apply c_seq | apply c_reg | (apply wO; apply oc; rfl; exact ydE) | apply w_nil | apply n_cd | (apply wg_t; rfl; rfl) | (apply wg_f; rfl; rfl; rfl; rfl) | (apply wg_u; rfl; rfl; rfl) | (apply c_t; rfl) | (apply c_f; rfl) | apply c_skip | apply c_block | apply n_blk | apply c_exit | apply e_hit | apply e_cd | apply e_lp | (apply e_miss; rfl) | apply c_ret | (apply wO; apply o_box; rfl; rfl; rfl; intro _) | (apply wO; apply o_alloc; rfl; intro _) | (apply wO; apply o_st; rfl; rfl; rfl; (first | exact AggC.s | exact OneC.s); rfl; exact rplE; exact putE; rfl) | (apply wO; apply o_bs0; rfl; intro _) | (apply wO; apply o_bs; rfl; rfl; rfl; rfl; exact rptE; exact filE; intro _) | (apply wO; apply o_call; rfl; kernel_rfl; exact evsE))
        refine ret () trivial ?_
        rw [bad (by rw [hck, decide_eq_true h6, decide_eq_false (show ¬ k = 0 by omega)]; simp)]; rfl
      · repeat (first | apply c_seq | apply c_reg | (apply wO; apply oc; rfl; exact ydE) | apply w_nil | apply n_cd | (apply wg_t; rfl; rfl) | (apply wg_f; rfl; rfl; rfl; rfl) | (apply wg_u; rfl; rfl; rfl) | (apply c_t; rfl) | (apply c_f; rfl) | apply c_skip | apply c_block | apply n_blk | apply c_exit | apply e_hit | apply e_cd | apply e_lp | (apply e_miss; rfl) | apply c_ret | (apply wO; apply o_box; rfl; rfl; rfl; intro _) | (apply wO; apply o_alloc; rfl; intro _) | (apply wO; apply o_st; rfl; rfl; rfl; (first | exact AggC.s | exact OneC.s); rfl; exact rplE; exact putE; rfl) | (apply wO; apply o_bs0; rfl; intro _) | (apply wO; apply o_bs; rfl; rfl; rfl; rfl; exact rptE; exact filE; intro _) | (apply wO; apply o_call; rfl; kernel_rfl; exact evsE))
        refine n_lp (k + 1) ⟨by omega, fun j hj => ?_⟩ (by omega)
        rcases Nat.lt_or_eq_of_le (Nat.lt_succ_iff.1 hj) with h | rfl
        · exact hk2 j h
        · rw [hck, g4, g5, g6, decide_eq_false h6]; simp
    · have hz : k = 0 := by omega
      refine d_start [0, 2] [] ?_
      refine dt 0 ?_
      refine dt 1 ?_
      rw [decide_eq_false (show ¬ (0 : Int) < k by omega)]
      refine dt 2 ?_
      refine ds 3 ?_
      refine ds 4 ?_
      refine ds 5 ?_
      refine ds 6 ?_
      refine ds 7 ?_
      refine ds 8 ?_
      refine ds 9 ?_
      refine ds 10 ?_
      refine ds 11 ?_
      refine ds 12 ?_
      refine ds 13 ?_
      refine ds 14 ?_
      refine ds 15 ?_
      refine ds 16 ?_
      refine ds 17 ?_
      refine ds 18 ?_
      refine ds 19 ?_
      refine ds 20 ?_
      refine dt 21 ?_
      refine dd ?_
      repeat (first | apply c_seq | apply c_reg | (apply wO; apply oc; rfl; exact ydE) | apply w_nil | apply n_cd | (apply wg_t; rfl; rfl) | (apply wg_f; rfl; rfl; rfl; rfl) | (apply wg_u; rfl; rfl; rfl) | (apply c_t; rfl) | (apply c_f; rfl) | apply c_skip | apply c_block | apply n_blk | apply c_exit | apply e_hit | apply e_cd | apply e_lp | (apply e_miss; rfl) | apply c_ret | (apply wO; apply o_box; rfl; rfl; rfl; intro _) | (apply wO; apply o_alloc; rfl; intro _) | (apply wO; apply o_st; rfl; rfl; rfl; (first | exact AggC.s | exact OneC.s); rfl; exact rplE; exact putE; rfl) | (apply wO; apply o_bs0; rfl; intro _) | (apply wO; apply o_bs; rfl; rfl; rfl; rfl; exact rptE; exact filE; intro _) | (apply wO; apply o_call; rfl; kernel_rfl; exact evsE))
      refine n_lp (k + 1) ⟨by omega, fun j hj => ?_⟩ (by omega)
      rcases Nat.lt_or_eq_of_le (Nat.lt_succ_iff.1 hj) with h | rfl
      · exact hk2 j h
      · rw [hck, g4, g5, g6, decide_eq_true hz]; simp
  have hkl : k = x.holds.length := by omega
  repeat (first | apply c_seq | apply c_reg | (apply wO; apply oc; rfl; exact ydE) | apply w_nil | apply n_cd | (apply wg_t; rfl; rfl) | (apply wg_f; rfl; rfl; rfl; rfl) | (apply wg_u; rfl; rfl; rfl) | (apply c_t; rfl) | (apply c_f; rfl) | apply c_skip | apply c_block | apply n_blk | apply c_exit | apply e_hit | apply e_cd | apply e_lp | (apply e_miss; rfl) | apply c_ret | (apply wO; apply o_box; rfl; rfl; rfl; intro _) | (apply wO; apply o_alloc; rfl; intro _) | (apply wO; apply o_st; rfl; rfl; rfl; (first | exact AggC.s | exact OneC.s); rfl; exact rplE; exact putE; rfl) | (apply wO; apply o_bs0; rfl; intro _) | (apply wO; apply o_bs; rfl; rfl; rfl; rfl; exact rptE; exact filE; intro _) | (apply wO; apply o_call; rfl; kernel_rfl; exact evsE))
  refine ret () trivial ?_
  rw [goodSrc_yes g1 g2 g3 (hkl ▸ hk2)]; rfl
end Go.Proofs.YtidephmobajikaaGreatDoor
/- Walks of Go's generic library functions on slices of impl.Hold. Written by wip/genlib.py. -/
namespace Go.Proofs.YtidephmobajikaaGreatDoor
open Go.RowKit
set_option maxHeartbeats 800000 in
set_option maxRecDepth 100000 in
theorem IndexFunc_Hold (fid : FuncId) (hbd : Body Tryz.prog fid) (caps : Array Value) (v : Value) (xs : List Hold) (F : List Nat) (p : Hold → Bool) (w : World) (h : Sl EHold w v xs F)
    (hp : ∀ (k : Nat) (hk : k < xs.length) (wr : World) (u : Value) (G : List Nat), Below w.heap.size w wr → IsV EHold wr u xs[k] G → Calls Tryz.prog fid (#[u] ++ caps) wr fun e w' => e = .returned (.bool (p xs[k])) ∧ Below wr.heap.size wr w') :
    Calls Tryz.prog 163 #[v, .func (.func fid) #[] caps] w fun e w' => e = .returned (.int .i64 (fidx p xs)) ∧ Below w.heap.size w w' := by
  obtain ⟨a, cap, rfl⟩ := h.slice
  have hl := h.len
  unfold maxLen at hl
  go_enter Tryz.func163, Tryz.ntmps163
  go_wp2
  go_loopw [5, 8] (fun _ i wr => ∃ k : Nat, k ≤ xs.length ∧ i = .int .i64 k ∧ Hid (∀ j, j < k → ∀ hj : j < xs.length, p xs[j] = false) ∧ Below w.heap.size w wr) (fun _ i _ => xs.length - (intOf i).toNat)
  case atStart => exact ⟨0, Nat.zero_le _, rfl, fun j hj => by omega, Below.refl _ _⟩
  case round =>
    obtain ⟨k, hk, rfl, hz, hB⟩ := hrel
    by_cases hlt : k < xs.length
    · have hz0 := hz; clear hz
      obtain ⟨b, off, _, F1, rfl, hx, -, ja⟩ := (h.below (by decide) hB).at k hlt
      obtain ⟨rfl, rfl⟩ := id hx
      have a0 := ja 0 (by decide)
      have a1 := ja 1 (by decide)
      simp only [show EHold.sz = 2 from rfl, Nat.mul_one, Nat.add_zero, List.getElem?_cons_zero, List.getElem?_cons_succ] at a0 a1
      clear ja
      have hr := hp k hlt wr _ _ hB ⟨_, rfl, hx⟩
      have hp := Lib.hid hp
      cases hpk : p xs[k]
      all_goals
        rw [hpk] at hr
        have hpk := Lib.hid hpk
        have hr := Lib.hid hr
        go_wp2_with fail
        refine hbd.upon hr.out ?_
        rintro e w1 ⟨rfl, hb1⟩
        refine ⟨_, rfl, ?_⟩
        have hB := tr hB hb1 (Nat.le_refl _)
        clear hb1
        go_wp2_with fail
      · exact ⟨⟨k + 1, by omega, by go_num, fun j hj hl => by rcases Nat.lt_or_eq_of_le (Nat.le_of_lt_succ hj) with h | h; exact hz0.out j h hl; subst h; exact hpk.out, hB⟩, by simp [intOf]; omega⟩
      · go_ret
        exact ⟨ret_int (fidx_hit hlt hz0.out hpk.out).symm, hB⟩
    · go_wp2
      go_ret
      exact ⟨ret_int (fidx_none (fun j hj => hz.out j (by omega) hj)).symm, hB⟩
theorem ContainsFunc_Hold (fid : FuncId) (hbd : Body Tryz.prog fid) (caps : Array Value) (v : Value) (xs : List Hold) (F : List Nat) (p : Hold → Bool) (w : World) (h : Sl EHold w v xs F)
    (hp : ∀ (k : Nat) (hk : k < xs.length) (wr : World) (u : Value) (G : List Nat), Below w.heap.size w wr → IsV EHold wr u xs[k] G → Calls Tryz.prog fid (#[u] ++ caps) wr fun e w' => e = .returned (.bool (p xs[k])) ∧ Below wr.heap.size wr w') :
    Calls Tryz.prog 104 #[v, .func (.func fid) #[] caps] w fun e w' => e = .returned (.bool (xs.any p)) ∧ Below w.heap.size w w' := by
  have hp := Lib.hid hp
  go_enter Tryz.func104, Tryz.ntmps104
  go_wp2_with fail
  refine (IndexFunc_Hold fid hbd caps v xs F p _ h hp.out).mono ?_
  rintro e w1 ⟨rfl, hb1⟩
  go_wp2_with fail
  go_ret
  exact ⟨ret_bool (fidx_any p xs), hb1⟩
theorem Clone_Hold (v : Value) (xs : List Hold) (F : List Nat) (w : World) (h : Sl EHold w v xs F) (hm : xs.length ≤ 4294967296) :
    Calls Tryz.prog 153 #[v] w (RetNew EHold 131 xs w) := by
  obtain ⟨ao, c, news, Fy, rfl, hl, hfy, hFy, hsrc⟩ := h.src
  have hFl := hfy.lt
  have he := fun w (a : Option Addr) (n c : Nat) => Lib.run_eql_slice_nil (P := Tryz.prog) w 53 _ a n c 0 0 Tryz.underlying53
  go_enter Tryz.func153, Tryz.ntmps153
  rcases hsrc with ⟨rfl, rfl, rfl⟩ | ⟨ad, rfl, hn⟩
  · go_wp2
    go_ret
    exact ⟨.slice none 0 0, [], rfl, .inl ⟨rfl, rfl, rfl⟩, by simp, by simp, Below.refl _ _⟩
  · go_wp2_with (at_builtin; refine wpList_apd one_EHold (by decide) (by rfl) _ _ _ (by rfl) 131 (.agg #[.int .i64 0, .int .i64 0]) 16 Tryz.underlying53 info_Hold rfl (.slice (some ⟨w.heap.size, 0, none⟩) 0 0) [] [w.heap.size] (by rfl) (Ow.empty (Row.made _ _ _)) (Hd.one _) (some ad) xs c (by rfl) news Fy (hfy.frame fun b hb => Below.heap_alloc _ _ _ (hFl b hb)) (.inr ⟨ad, rfl, fun j u hu => kc ((Below.refl _ _).alloc (Nat.le_refl _) _) (hn j u hu)⟩) (fun b hb e => by have := hFl b hb; simp [Value.ownBlock] at e; omega) (by simpa using hl) (by unfold maxLen at hl; simp; omega) ?_)
    intro v2 w2 F2 hA
    go_wp2_with fail
    go_ret
    have hB : Below w.heap.size w w2 := ((Below.refl _ _).alloc (Nat.le_refl _) _).trans (hA.keep.below (by simp) (by simp))
    have hs : ∀ b, v2.ownBlock = some b → w.heap.size ≤ b := fun b hb => by rcases hA.same with e | e <;> rw [e] at hb <;> simp [Value.ownBlock] at hb <;> omega
    refine ⟨v2, F2, rfl, by simpa using hA.ow, hA.ow.scal scal_EHold ▸ ?_, fun b hb => ?_, hB⟩
    · cases v2.ownBlock <;> simp
    · rw [hA.ow.scal scal_EHold] at hb; exact hs b (by simpa using hb)
set_option maxHeartbeats 1600000 in
set_option maxRecDepth 100000 in
theorem DeleteFunc_Hold (fid : FuncId) (hbd : Body Tryz.prog fid) (caps : Array Value) (v : Value) (xs : List Hold) (F : List Nat) (p : Hold → Bool) (w : World) (h : Ow EHold 131 w v xs F) (hn : F.Nodup)
    (hp : ∀ (k : Nat) (hk : k < xs.length) (wr : World) (u : Value) (G : List Nat), Keep F w wr → IsV EHold wr u xs[k] G → Calls Tryz.prog fid (#[u] ++ caps) wr fun e w' => e = .returned (.bool (p xs[k])) ∧ Below wr.heap.size wr w') :
    Calls Tryz.prog 155 #[v, .func (.func fid) #[] caps] w fun e w' => ∃ v' F', e = .returned v' ∧ Ow EHold 131 w' v' (xs.filter fun x => !p x) F' ∧ F'.Nodup ∧ (∀ b ∈ F', b ∈ F) ∧ Keep F w w' := by
  obtain ⟨F1, hF1, hs⟩ := h.sl (Weak.refl _)
  obtain ⟨a, cap, rfl⟩ := h.slice
  have hl := h.len
  unfold maxLen at hl
  have hp := Lib.hid hp
  go_enter Tryz.func155, Tryz.ntmps155
  go_wp2_with fail
  refine (IndexFunc_Hold fid hbd caps _ xs F1 p _ hs (fun k hk wr u G hb hu => hp.out k hk wr u G (Keep.ofBelow hb) hu)).mono ?_
  rintro e w1 ⟨rfl, hb1⟩
  have hK1 := Keep.ofBelow (F := F) hb1
  by_cases hany : xs.any p = true
  · obtain ⟨k0, hk0, hfx, hpk, hfl⟩ := fidx_some hany
    rw [hfx]
    obtain ⟨g, rfl, -, hg0⟩ := Gap.start (h.below hb1) hn (ys := xs.take k0) (zs := xs[k0] :: xs.drop (k0 + 1)) (by simp) (by omega)
    obtain ⟨F0, hg0, hF0⟩ := hg0.skip
    have hG0 := Lib.hid hg0
    clear hg0
    have hk1 : ((k0 : Int) == -1) = false := by simp
    go_wp2_with fail
    go_loopw [5, 6, 7] (fun i j _ wr => ∃ (q m : Nat) (F1 : List Nat), q ≤ xs.length ∧ 0 < m ∧ ((xs.take q).filter fun x => !p x).length + m = q ∧ i = .int .i64 ((xs.take q).filter fun x => !p x).length ∧ j = .int .i64 q ∧ Hid (Gap EHold 131 wr g xs.length cap ((xs.take q).filter fun x => !p x) m (xs.drop q) F1) ∧ (∀ b ∈ F1, b ∈ F) ∧ Keep F w wr) (fun _ j _ _ => xs.length - (intOf j).toNat)
    case atStart => exact ⟨k0 + 1, 1, F0, hk0, by omega, by rw [filter_take_no hk0 (by simp [hpk]), hfl]; simp; omega, by rw [filter_take_no hk0 (by simp [hpk]), hfl]; simp; omega, by go_num, by rw [filter_take_no hk0 (by simp [hpk]), hfl]; exact hG0, hF0, hK1⟩
    case round =>
      obtain ⟨q, m, F1, hq, hm, hlen, rfl, rfl, hG, hF1, hK⟩ := hrel
      obtain ⟨-, hcap, -⟩ := hG.out.caps
      generalize hys : ((xs.take q).filter fun x => !p x) = ys at *
      by_cases hlt : q < xs.length
      · rw [List.drop_eq_getElem_cons hlt] at hG
        obtain ⟨c, Fx, hx, hFx, hcell⟩ := hG.out.first
        obtain ⟨Fx2, -, hxe⟩ := (Weak.refl _).rep hx
        obtain ⟨rfl, rfl⟩ := id hx
        have a0 := hcell 0 (by decide)
        have a1 := hcell 1 (by decide)
        simp only [hlen, show EHold.sz = 2 from rfl, Nat.mul_one, Nat.add_zero, List.getElem?_cons_zero, List.getElem?_cons_succ] at a0 a1
        have hr := fun A => hp.out q hlt (wr.alloc A) _ Fx2 (hK.alloc A) ⟨_, rfl, EHold.below hxe ((Below.refl wr.heap.size wr).alloc (Nat.le_refl _) A)⟩
        cases hpq : p xs[q]
        · obtain ⟨st, c2, Fx3, hx3, -, hcell2, back⟩ := hG.out.move hm
          simp only [hpq] at hr
          obtain rfl := same_cells (EHold.len hx) (EHold.len hx3) hcell hcell2
          have st := st
          obtain ⟨⟨x0, z0⟩, g0⟩ := st 0 (by decide)
          obtain ⟨⟨x1, z1⟩, g1⟩ := st 1 (by decide)
          simp only [show EHold.sz = 2 from rfl, Nat.mul_one, Nat.add_zero] at z0 g0 z1 g1
          have hr := Lib.hid hr; have hbk := Lib.hid back; have hpq := Lib.hid hpq; have hys := Lib.hid hys; have hlen := Lib.hid hlen
          have hyl : ys.length < xs.length := by have := hlen.out; omega
          clear hx hxe hcell hcell2 hx3 back st hfx hpk hfl
          go_wp2_with fail
          refine hbd.upon (hr.out _) ?_
          rintro e w2 ⟨rfl, hb2⟩
          refine ⟨_, rfl, ?_⟩
          have b2 := (Row.below (g := wr.heap.size) (t := 131) (cs := [.int .i64 xs[q].number, .int .i64 xs[q].untl]) (by simp [row_alloc]) hb2).cells
          have hbb := tr ((Below.refl wr.heap.size wr).alloc (Nat.le_refl _) _) hb2 (Nat.le_refl _)
          clear hb2
          have g0 := (kf hbb z0).trans g0; have z0 := kc hbb z0
          have g1 := (kf hbb z1).trans g1; have z1 := kc hbb z1
          obtain ⟨F2, hg2, hF2⟩ := hbk.out w2 hbb
          simp only [putCells, show EHold.sz = 2 from rfl, Nat.mul_one] at hg2
          have hg2 := Lib.hid hg2
          have hgF : g ∈ F := hF1 g hG.out.caps.2.2.2.2.1
          go_wp2_with fail
          exact ⟨⟨q + 1, m, F2, by omega, hm, by rw [filter_take_yes hlt (by simp [hpq.out]), hys.out]; have := hlen.out; simp; omega, by rw [filter_take_yes hlt (by simp [hpq.out]), hys.out, List.length_append]; go_num, by go_num, by rw [filter_take_yes hlt (by simp [hpq.out]), hys.out]; exact hg2.out, fun b hb => hF1 b (hF2 b hb), by (repeat (refine Keep.setCell ?_ hgF _)); exact hK.trans (Keep.ofBelow hbb)⟩, by simp [intOf]; omega⟩
        · obtain ⟨F2, hg2, hF2⟩ := hG.out.skip
          simp only [hpq] at hr
          have hr := Lib.hid hr; have hg2 := Lib.hid hg2; have hpq := Lib.hid hpq; have hys := Lib.hid hys; have hlen := Lib.hid hlen
          clear hx hxe hcell hfx hpk hfl
          go_wp2_with fail
          refine hbd.upon (hr.out _) ?_
          rintro e w2 ⟨rfl, hb2⟩
          refine ⟨_, rfl, ?_⟩
          have hbb := tr ((Below.refl wr.heap.size wr).alloc (Nat.le_refl _) _) hb2 (Nat.le_refl _)
          clear hb2
          go_wp2_with fail
          exact ⟨⟨q + 1, m + 1, F2, by omega, by omega, by rw [filter_take_no hlt (by simp [hpq.out]), hys.out]; have := hlen.out; omega, by rw [filter_take_no hlt (by simp [hpq.out]), hys.out], by go_num, by rw [filter_take_no hlt (by simp [hpq.out]), hys.out]; exact hg2.out.below hbb, fun b hb => hF1 b (hF2 b hb), hK.trans (Keep.ofBelow hbb)⟩, by simp [intOf]; omega⟩
      · have hqe : q = xs.length := by omega
        subst hqe
        simp only [List.drop_length, List.take_length] at hG hys
        obtain ⟨hc, F2, ho2, hn2, hF2⟩ := hG.out.done (z := #[.int .i64 0, .int .i64 0]) rfl
        have hmm : xs.length - ys.length = m := by omega
        have hcl := fun ty => run_clear_rows (P := Tryz.prog) wr 53 131 ty (.agg #[.int .i64 0, .int .i64 0]) Tryz.underlying53 (zeroValue_of info_Hold) (by simp [Value.cells, Value.oneCell']) g (ys.length * 2) m (cap - ys.length) hm (fun j hj => (hc j hj).1) (fun j hj => (hc j hj).2)
        have hyl : ys.length < xs.length := by omega
        have hgF : g ∈ F := hF1 g hG.out.caps.2.2.2.2.1
        have hO := Lib.hid ho2; have hlen := Lib.hid hlen; have hys := Lib.hid hys
        clear ho2 hc hfx hpk hfl
        go_wp2_with fail
        go_ret
        refine ⟨_, F2, rfl, by rw [hys.out]; exact hO.out, hn2, fun b hb => hF1 b (hF2 b hb), hK.trans ?_⟩
        rw [← putCells_eq wr]; exact (putCells_keep _ _ _).mono (fun b hb _ => by simp at hb; subst hb; exact hgF)
  · obtain ⟨hfx, hfl⟩ := fidx_all hany
    rw [hfx]
    go_wp2_with fail
    go_ret
    exact ⟨_, F, rfl, by rw [hfl]; exact h.below hb1, hn, fun b hb => hb, hK1⟩
end Go.Proofs.YtidephmobajikaaGreatDoor
/- Sources: the copy, the holds that are kept. -/
namespace Go.Proofs.YtidephmobajikaaGreatDoor
open Go.RowKit
set_option maxRecDepth 100000 in
theorem Sclone_f (x : Source) (v : Value) (F : List Nat) (hl : x.window.items.length ≤ 4294967296) (hl2 : x.holds.length ≤ 4294967296) : Fn Tryz.prog 93 [v] [.isv ESource v x F] [] (fun (_ : Value × List Nat) => True)
    (fun s => s.1) (fun s => [.own OSource s.1 x s.2]) := by
  refine enter Tryz.func93 rfl Tryz.ntmps93 fun w0 => ?_
  refine openSource ?_
  rintro a1 c1 F1 a2 c2 F2 rfl l1 l2
  refine closeSendWindow x.window ?_
  generalize F1 = F3
  repeat (first | apply c_seq | apply c_reg | (apply wO; apply oc; rfl; exact ydE) | apply w_nil | apply n_cd | (apply wg_t; rfl; rfl) | (apply wg_f; rfl; rfl; rfl; rfl) | (apply wg_u; rfl; rfl; rfl) | (apply c_t; rfl) | (apply c_f; rfl) | apply c_skip | apply c_block | apply n_blk | apply c_exit | apply e_hit | apply e_cd | apply e_lp | (apply e_miss; rfl) | apply c_ret | (apply wO; apply o_box; rfl; rfl; rfl; intro _) | (apply wO; apply o_alloc; rfl; intro _) | (apply wO; apply o_st; rfl; rfl; rfl; (first | exact AggC.s | exact OneC.s); rfl; exact rplE; exact putE; rfl) | (apply wO; apply o_bs0; rfl; intro _) | (apply wO; apply o_bs; rfl; rfl; rfl; rfl; exact rptE; exact filE; intro _) | (apply wO; apply o_call; rfl; kernel_rfl; exact evsE))
  refine cv (fun w s => SendWindow_clone_c _ x.window _ w (s.get (p := .isv ESendWindow (.agg #[.int .i64 x.window.trail, .int .i64 x.window.size, .slice a1 x.window.items.length c1]) x.window F3) (by simp)) hl) fun v F' => ?_
  refine openOSendWindow ?_
  rintro a5 c5 F5 rfl l5
  repeat (first | apply c_seq | apply c_reg | (apply wO; apply oc; rfl; exact ydE) | apply w_nil | apply n_cd | (apply wg_t; rfl; rfl) | (apply wg_f; rfl; rfl; rfl; rfl) | (apply wg_u; rfl; rfl; rfl) | (apply c_t; rfl) | (apply c_f; rfl) | apply c_skip | apply c_block | apply n_blk | apply c_exit | apply e_hit | apply e_cd | apply e_lp | (apply e_miss; rfl) | apply c_ret | (apply wO; apply o_box; rfl; rfl; rfl; intro _) | (apply wO; apply o_alloc; rfl; intro _) | (apply wO; apply o_st; rfl; rfl; rfl; (first | exact AggC.s | exact OneC.s); rfl; exact rplE; exact putE; rfl) | (apply wO; apply o_bs0; rfl; intro _) | (apply wO; apply o_bs; rfl; rfl; rfl; rfl; exact rptE; exact filE; intro _) | (apply wO; apply o_call; rfl; kernel_rfl; exact evsE))
  refine cn (fun w s => Clone_Hold _ _ _ _ (s.get (p := .sl EHold (.slice a2 x.holds.length c2) x.holds F2) (by simp)).2 hl2) fun a6 c6 F6 => ?_
  repeat (first | apply c_seq | apply c_reg | (apply wO; apply oc; rfl; exact ydE) | apply w_nil | apply n_cd | (apply wg_t; rfl; rfl) | (apply wg_f; rfl; rfl; rfl; rfl) | (apply wg_u; rfl; rfl; rfl) | (apply c_t; rfl) | (apply c_f; rfl) | apply c_skip | apply c_block | apply n_blk | apply c_exit | apply e_hit | apply e_cd | apply e_lp | (apply e_miss; rfl) | apply c_ret | (apply wO; apply o_box; rfl; rfl; rfl; intro _) | (apply wO; apply o_alloc; rfl; intro _) | (apply wO; apply o_st; rfl; rfl; rfl; (first | exact AggC.s | exact OneC.s); rfl; exact rplE; exact putE; rfl) | (apply wO; apply o_bs0; rfl; intro _) | (apply wO; apply o_bs; rfl; rfl; rfl; rfl; exact rptE; exact filE; intro _) | (apply wO; apply o_call; rfl; kernel_rfl; exact evsE))
  refine closeOSource x ?_
  refine ret (_, _) trivial rfl
set_option maxRecDepth 100000 in
theorem keep1_f (W : SendWindow) (h : Hold) (gb g o : Nat) (u : Value) (a : Option Addr) (c : Nat) (cl q : Value) (Hs : Value) (G Fw : List Nat) (t0 : 0 ≤ W.trail) (t1 : W.trail ≤ 65535) (n0 : 0 ≤ h.number) (n1 : h.number ≤ 65535) :
    Fn Tryz.prog 156 [u, ptr gb 0 0] [.isv EHold u h G, .cel gb 0 [ptr g o 0], .cel g o [.int .i64 W.trail, .int .i64 W.size, .slice a W.items.length c, cl, q, Hs], .isv ESendWindow (.agg #[.int .i64 W.trail, .int .i64 W.size, .slice a W.items.length c]) W Fw] [] (fun (_ : Unit) => True) (fun _ => .bool (!heldB W h.number)) (fun _ => []) := by
  refine enter Tryz.func156 rfl Tryz.ntmps156 fun w0 => ?_
  refine openHold ?_
  rintro _ rfl
  repeat (first | apply c_seq | apply c_reg | (apply wO; apply oc; rfl; exact ydE) | apply w_nil | apply n_cd | (apply wg_t; rfl; rfl) | (apply wg_f; rfl; rfl; rfl; rfl) | (apply wg_u; rfl; rfl; rfl) | (apply c_t; rfl) | (apply c_f; rfl) | apply c_skip | apply c_block | apply n_blk | apply c_exit | apply e_hit | apply e_cd | apply e_lp | (apply e_miss; rfl) | apply c_ret | (apply wO; apply o_box; rfl; rfl; rfl; intro _) | (apply wO; apply o_alloc; rfl; intro _) | (apply wO; apply o_st; rfl; rfl; rfl; (first | exact AggC.s | exact OneC.s); rfl; exact rplE; exact putE; rfl) | (apply wO; apply o_bs0; rfl; intro _) | (apply wO; apply o_bs; rfl; rfl; rfl; rfl; exact rptE; exact filE; intro _) | (apply wO; apply o_call; rfl; kernel_rfl; exact evsE))
  refine d_start [0, 2, 3] [] ?_
  refine dt 0 ?_
  refine dt 1 ?_
  refine dt 2 ?_
  refine dt 3 ?_
  refine dt 4 ?_
  refine dt 5 ?_
  refine dO 6 (by kernel_rfl) (by rw [List.getElem?_toArray]; rfl) ?_
  apply o_call; rfl; kernel_rfl; exact evsE
  refine cb (fun w st => (isHeld_f W h.number _ _ t0 t1 n0 n1).val w (hol1 (st.get (p := .isv ESendWindow (.agg #[.int .i64 W.trail, .int .i64 W.size, .slice a W.items.length c]) W Fw) (by simp)))) ?_
  refine dk ?_
  refine dt 7 ?_
  refine dt 8 ?_
  refine dd ?_
  repeat (first | apply c_seq | apply c_reg | (apply wO; apply oc; rfl; exact ydE) | apply w_nil | apply n_cd | (apply wg_t; rfl; rfl) | (apply wg_f; rfl; rfl; rfl; rfl) | (apply wg_u; rfl; rfl; rfl) | (apply c_t; rfl) | (apply c_f; rfl) | apply c_skip | apply c_block | apply n_blk | apply c_exit | apply e_hit | apply e_cd | apply e_lp | (apply e_miss; rfl) | apply c_ret | (apply wO; apply o_box; rfl; rfl; rfl; intro _) | (apply wO; apply o_alloc; rfl; intro _) | (apply wO; apply o_st; rfl; rfl; rfl; (first | exact AggC.s | exact OneC.s); rfl; exact rplE; exact putE; rfl) | (apply wO; apply o_bs0; rfl; intro _) | (apply wO; apply o_bs; rfl; rfl; rfl; rfl; exact rptE; exact filE; intro _) | (apply wO; apply o_call; rfl; kernel_rfl; exact evsE))
  refine ret () trivial ?_
  simp only [heldB, tup, decide_not]
/-- a library function that writes one piece alone -/
theorem fn_lib {P : Program} {f : FuncId} {args : List Value} {p : Pc} {R : List Pc} {σ : Type} {C : σ → Prop} {v : σ → Value} {N : σ → Pc} (hm : p.mu = true)
    (h : ∀ w, p.P w → Hol R w → (∀ wr, Keep p.F w wr → Hol R wr) → Calls P f args.toArray w fun e w' => ∃ s, C s ∧ e = .returned (v s) ∧ (N s).P w' ∧ (∀ b ∈ (N s).F, b ∈ p.F ∨ w.heap.size ≤ b) ∧ Keep p.F w w') : Fn P f args [] (p :: R) C v (fun s => N s :: R) := fun w hH hS => by
  rw [List.append_nil] at hH hS
  have hR : Hol R w := fun q hq => hH q (by simp [hq])
  have ap : ∀ q ∈ R, ∀ b ∈ q.F, b ∉ p.F := fun q hq b hb hp => hS.1 q hq (by simp [hm]) b hp hb
  have hk : ∀ wr, Keep p.F w wr → Hol R wr := fun wr k q hq => q.st (hR q hq) fun b hb => k.block b (q.lt (hR q hq) b hb) (ap q hq b hb)
  refine (h w (hH p (by simp)) hR hk).mono ?_
  rintro e w' ⟨s, hC, he, hN, hF, k⟩
  refine ⟨s, hC, he, ?_, ⟨fun q hq _ b hb hbq => ?_, hS.2⟩, k.mono (fun b hb _ => by simp [fp, hb]), ?_⟩
  · intro q hq
    rcases List.mem_cons.1 hq with rfl | hq
    · exact hN
    · exact hk w' k q hq
  · rcases hF b hb with h | h
    · exact ap q hq b hbq h
    · have := q.lt (hR q hq) b hbq; omega
  · intro q hq b hb
    rcases List.mem_cons.1 hq with rfl | hq
    · rcases hF b hb with h | h
      · exact .inr (.inl ⟨p, by simp, h⟩)
      · exact .inl h
    · exact .inr (.inl ⟨q, by simp [hq], hb⟩)
/-- the end of a function that returns nothing -/
theorem n_ret {P : Program} {fn : Func} {R : Ending → World → Prop} {G D : List Nat} {w0 : World} {n : Nat} {fr : Fr} {H : List Pc} (h : T ⟨P, G, D, w0, n, bodyPost P fn R⟩ fr H (.fin .ret)) : T ⟨P, G, D, w0, n, bodyPost P fn R⟩ fr H (.norm []) := .mk fun a w s g => h.h a w s g
def keepH (W : SendWindow) (hs : List Hold) : List Hold := hs.filter fun h => heldB W h.number
theorem keepD_f (W : SendWindow) (hs : List Hold) (gb tb g t o : Nat) (A B : List Value) (a a2 : Option Addr) (c c2 : Nat) (cl q : Int) (F F2 : List Nat) (t0 : 0 ≤ W.trail) (t1 : W.trail ≤ 65535) (hn : ∀ h ∈ hs, isSer h.number = true) :
    Fn Tryz.prog 155 [.slice a2 hs.length c2, .func (.func 156) #[] #[ptr gb 0 0]] [] [.ow EHold 131 (.slice a2 hs.length c2) hs F2, .row gb tb 0 [] [ptr g o 0] [], .row g t o A [.int .i64 W.trail, .int .i64 W.size, .slice a W.items.length c, .int .i64 cl, .int .i64 q, .slice a2 hs.length c2] B, .ow EStr 9 (.slice a W.items.length c) W.items F] (fun (_ : Option Addr × Nat × List Nat) => True)
      (fun z => .slice z.1 (keepH W hs).length z.2.1) (fun z => [.ow EHold 131 (.slice z.1 (keepH W hs).length z.2.1) (keepH W hs) z.2.2, .row gb tb 0 [] [ptr g o 0] [], .row g t o A [.int .i64 W.trail, .int .i64 W.size, .slice a W.items.length c, .int .i64 cl, .int .i64 q, .slice a2 hs.length c2] B, .ow EStr 9 (.slice a W.items.length c) W.items F]) := by
  refine fn_lib rfl fun w ⟨hnd, ho⟩ _ hk => ?_
  refine (DeleteFunc_Hold _ (body_of (by kernel_rfl)) #[ptr gb 0 0] _ hs F2 (fun h => !heldB W h.number) w ho hnd fun k hk2 wr u G hK hu => ?_).mono ?_
  · have hr := hk wr hK
    have r1 := hr (.row gb tb 0 [] [ptr g o 0] []) (by simp)
    have r2 := hr (.row g t o A [.int .i64 W.trail, .int .i64 W.size, .slice a W.items.length c, .int .i64 cl, .int .i64 q, .slice a2 hs.length c2] B) (by simp)
    obtain ⟨Fw, -, hw⟩ := (hr (.ow EStr 9 (.slice a W.items.length c) W.items F) (by simp)).2.read
    obtain ⟨n0, n1⟩ := isSer_iff.1 (hn hs[k] (List.getElem_mem hk2))
    refine (keep1_f W hs[k] gb g o u a c (.int .i64 cl) (.int .i64 q) (.slice a2 hs.length c2) G Fw t0 t1 n0 n1).val wr ?_
    intro p hp
    simp only [List.mem_cons, List.not_mem_nil, or_false] at hp
    rcases hp with rfl | rfl | rfl | rfl
    · exact hu
    · exact ⟨by simp, row_range r1⟩
    · exact ⟨by simp, row_range r2⟩
    · exact ⟨_, rfl, _, rfl, hw⟩
  · rintro e w' ⟨v', F', rfl, h1, h2, h3, h4⟩
    have e : (hs.filter fun x => !(fun h : Hold => !heldB W h.number) x) = keepH W hs := by simp [keepH]
    rw [e] at h1
    obtain ⟨a', c', rfl⟩ := h1.slice
    exact ⟨(a', c', F'), trivial, rfl, ⟨h2, h1⟩, fun b hb => .inl (h3 b hb), h4⟩
set_option maxRecDepth 100000 in
theorem keepHolds_f (W : SendWindow) (hs : List Hold) (g t o : Nat) (A B : List Value) (a a2 : Option Addr) (c c2 : Nat) (cl q : Int) (F F2 : List Nat) (t0 : 0 ≤ W.trail) (t1 : W.trail ≤ 65535) (hn : ∀ h ∈ hs, isSer h.number = true) :
    Fn Tryz.prog 95 [ptr g o 0] [] [.row g t o A [.int .i64 W.trail, .int .i64 W.size, .slice a W.items.length c, .int .i64 cl, .int .i64 q, .slice a2 hs.length c2] B, .ow EHold 131 (.slice a2 hs.length c2) hs F2, .ow EStr 9 (.slice a W.items.length c) W.items F] (fun (_ : Option Addr × Nat × List Nat) => True)
      (fun _ => .tuple #[]) (fun z => [.row g t o A [.int .i64 W.trail, .int .i64 W.size, .slice a W.items.length c, .int .i64 cl, .int .i64 q, .slice z.1 (keepH W hs).length z.2.1] B, .ow EHold 131 (.slice z.1 (keepH W hs).length z.2.1) (keepH W hs) z.2.2, .ow EStr 9 (.slice a W.items.length c) W.items F]) := by
  refine enter Tryz.func95 rfl Tryz.ntmps95 fun w0 => ?_
  repeat (first | apply c_seq | apply c_reg | (apply wO; apply oc; rfl; exact ydE) | apply w_nil | apply n_cd | (apply wg_t; rfl; rfl) | (apply wg_f; rfl; rfl; rfl; rfl) | (apply wg_u; rfl; rfl; rfl) | (apply c_t; rfl) | (apply c_f; rfl) | apply c_skip | apply c_block | apply n_blk | apply c_exit | apply e_hit | apply e_cd | apply e_lp | (apply e_miss; rfl) | apply c_ret | (apply wO; apply o_box; rfl; rfl; rfl; intro _) | (apply wO; apply o_alloc; rfl; intro _) | (apply wO; apply o_st; rfl; rfl; rfl; (first | exact AggC.s | exact OneC.s); rfl; exact rplE; exact putE; rfl) | (apply wO; apply o_bs0; rfl; intro _) | (apply wO; apply o_bs; rfl; rfl; rfl; rfl; exact rptE; exact filE; intro _) | (apply wO; apply o_call; rfl; kernel_rfl; exact evsE))
  refine d_start [0, 1] [9] ?_
  refine dt 0 ?_
  refine dt 1 ?_
  refine dt 2 ?_
  refine dt 3 ?_
  refine dt 4 ?_
  refine dt 5 ?_
  refine dO 6 (by kernel_rfl) (by rw [List.getElem?_toArray]; rfl) ?_
  apply o_call; rfl; kernel_rfl; exact evsE
  refine cf (keepD_f W hs _ _ g t o A B a a2 c c2 cl q F F2 t0 t1 hn) fun z _ => ?_
  refine t_app ?_
  refine dk ?_
  refine dt 7 ?_
  refine dt 8 ?_
  refine dO 9 (by kernel_rfl) (by rw [List.getElem?_toArray]; rfl) ?_
  apply o_st; rfl; rfl; rfl; (first | exact AggC.s | exact OneC.s); rfl; exact rplE; exact putE; rfl
  refine dkx ?_
  refine dd ?_
  refine n_ret ?_
  refine ret (_, _, _) trivial rfl
end Go.Proofs.YtidephmobajikaaGreatDoor
/- Sources: TrimSource of the program. -/
namespace Go.Proofs.YtidephmobajikaaGreatDoor
open Go.RowKit
structure SrcS where
  a : Option Addr
  c : Nat
  a2 : Option Addr
  c2 : Nat
  F : List Nat
def zSrc : Source := ⟨⟨0, 0, []⟩, 0, 0, []⟩
def withW (x : Source) (W : SendWindow) : Source := ⟨W, x.clock, x.quiet, keepH W x.holds⟩
def okTrimSource (x : Source) (n : Int) : Bool := goodSrc x && okDropItems x.window n
def resTrimSource (x : Source) (n : Int) : Source × Int × Bool := if okTrimSource x n then (withW x (resDropItems x.window n).1, (resDropItems x.window n).2.1, true) else (zSrc, 0, false)
theorem resTrim_no {x : Source} {n : Int} (h : okTrimSource x n = false) : resTrimSource x n = (zSrc, 0, false) := by unfold resTrimSource; rw [h]; rfl
structure GoodS (x : Source) : Prop where
  w : goodWin x.window = true
  l : x.window.items.length ≤ 6
  t0 : 0 ≤ x.window.trail
  t1 : x.window.trail ≤ 65535
  k0 : 0 ≤ x.clock
  k1 : x.clock ≤ 9999
  m : x.holds.length ≤ 6
  n : ∀ h ∈ x.holds, isSer h.number = true
  u : ∀ h ∈ x.holds, x.clock + 1 ≤ h.untl
  b : ∀ h ∈ x.holds, h.untl ≤ x.clock + 3
theorem goodS_of {x : Source} (h : goodSrc x = true) : GoodS x := by
  unfold goodSrc at h
  simp only [Bool.and_eq_true] at h
  obtain ⟨⟨⟨h1, h2⟩, h3⟩, h4⟩ := h
  obtain ⟨⟨t0, t1⟩, ⟨s0, s1⟩, s2, -⟩ := goodWin_iff.1 h1
  obtain ⟨k0, k1⟩ := clk_bd h2
  have hc : ∀ h ∈ x.holds, isSer h.number = true ∧ x.clock + 1 ≤ h.untl ∧ h.untl ≤ x.clock + 3 := fun h hh => by
    obtain ⟨i, hi, rfl⟩ := List.getElem_of_mem hh
    have := List.all_eq_true.1 h4 i (by simpa using hi)
    rw [chkH_at hi] at this
    simp only [Bool.and_eq_true, btw, decide_eq_true_eq] at this
    exact ⟨this.1.1.1, this.1.2.1, this.1.2.2⟩
  have hg : ∀ i, (hi : i < x.holds.length) → (i : Int) ≤ gp x.window.trail x.holds[i].number ∧ gp x.window.trail x.holds[i].number < 6 := by
    intro i
    induction i with
    | zero =>
      intro hi
      have := List.all_eq_true.1 h4 0 (by simpa using hi)
      rw [chkH_at hi] at this
      simp only [Bool.and_eq_true, heldB, decide_eq_true_eq] at this
      have b := gp_bd x.window.trail x.holds[0].number
      exact ⟨by omega, by have := this.1.1.2; omega⟩
    | succ i ih =>
      intro hi
      have p := ih (by omega)
      have := List.all_eq_true.1 h4 (i + 1) (by simpa using hi)
      rw [chkH_at hi] at this
      simp only [Bool.and_eq_true, heldB, decide_eq_true_eq, Bool.or_eq_true, Bool.not_eq_true', decide_eq_false_iff_not] at this
      have q := this.2
      have q2 := this.1.1.2
      simp only [Nat.add_sub_cancel] at q
      rcases q with q | q
      · omega
      · exact ⟨by omega, by omega⟩
  have hm : x.holds.length ≤ 6 := by
    by_cases h0 : x.holds.length ≤ 6
    · exact h0
    · have := hg 6 (by omega); omega
  exact ⟨h1, by omega, t0, t1, k0, k1, hm, fun h hh => (hc h hh).1, fun h hh => (hc h hh).2.1, fun h hh => (hc h hh).2.2⟩
theorem drop_yes {x : SendWindow} {n : Int} (h : okDropItems x n = true) (t0 : 0 ≤ x.trail) (t1 : x.trail ≤ 65535) : ∃ W k, resDropItems x n = (W, k, true) ∧ 0 ≤ W.trail ∧ W.trail ≤ 65535 := by
  unfold resDropItems
  rw [h]
  exact ⟨_, _, rfl, (aft_bd _ _).1, (aft_bd _ _).2⟩
theorem drop_no {x : SendWindow} {n : Int} (h : okDropItems x n = false) : resDropItems x n = (⟨0, 0, []⟩, 0, false) := by unfold resDropItems; rw [h]; rfl
theorem DropItems_f (x : SendWindow) (n : Int) (v : Value) (F : List Nat) : Fn Tryz.prog 94 [v, .int .i64 n] [.isv ESendWindow v x F] [] (fun (_ : Value × List Nat) => True)
    (fun s => .tuple #[s.1, .int .i64 (resDropItems x n).2.1, .bool (resDropItems x n).2.2]) (fun s => [.own OSendWindow s.1 (resDropItems x n).1 s.2]) :=
  fn_made fun w hA => (DropItems_c v x F n w (hA (.isv ESendWindow v x F) (by simp))).mono fun e w' ⟨u, G, he, h1, h2, h3, h4⟩ => ⟨(u, G), trivial, he, ⟨h2, h1⟩, h3, h4⟩
set_option maxRecDepth 100000 in
theorem TrimSource_f (x : Source) (n : Int) (v : Value) (F : List Nat) :
    Fn Tryz.prog 27 [v, .int .i64 n] [.isv ESource v x F] [] (fun (_ : SrcS) => True)
      (fun s => .tuple #[.agg #[.int .i64 (resTrimSource x n).1.window.trail, .int .i64 (resTrimSource x n).1.window.size, .slice s.a (resTrimSource x n).1.window.items.length s.c, .int .i64 (resTrimSource x n).1.clock, .int .i64 (resTrimSource x n).1.quiet, .slice s.a2 (resTrimSource x n).1.holds.length s.c2], .int .i64 (resTrimSource x n).2.1, .bool (resTrimSource x n).2.2]) (fun s => [.own OSource (.agg #[.int .i64 (resTrimSource x n).1.window.trail, .int .i64 (resTrimSource x n).1.window.size, .slice s.a (resTrimSource x n).1.window.items.length s.c, .int .i64 (resTrimSource x n).1.clock, .int .i64 (resTrimSource x n).1.quiet, .slice s.a2 (resTrimSource x n).1.holds.length s.c2]) (resTrimSource x n).1 s.F]) := by
  refine enter Tryz.func27 rfl Tryz.ntmps27 fun w0 => ?_
  refine t_nilow EStr 9 ?_
  refine t_nilow EHold 131 ?_
  refine closeOSource zSrc ?_
  refine openSource ?_
  rintro a1 c1 F1 a2 c2 F2 rfl l1 l2
  refine closeSendWindow x.window ?_
  generalize F1 = F3
  repeat (first | apply c_seq | apply c_reg | (apply wO; apply oc; rfl; exact ydE) | apply w_nil | apply n_cd | (apply wg_t; rfl; rfl) | (apply wg_f; rfl; rfl; rfl; rfl) | (apply wg_u; rfl; rfl; rfl) | (apply c_t; rfl) | (apply c_f; rfl) | apply c_skip | apply c_block | apply n_blk | apply c_exit | apply e_hit | apply e_cd | apply e_lp | (apply e_miss; rfl) | apply c_ret | (apply wO; apply o_box; rfl; rfl; rfl; intro _) | (apply wO; apply o_alloc; rfl; intro _) | (apply wO; apply o_st; rfl; rfl; rfl; (first | exact AggC.s | exact OneC.s); rfl; exact rplE; exact putE; rfl) | (apply wO; apply o_bs0; rfl; intro _) | (apply wO; apply o_bs; rfl; rfl; rfl; rfl; exact rptE; exact filE; intro _) | (apply wO; apply o_call; rfl; kernel_rfl; exact evsE))
  refine cb (fun w st => (IsValidSource_f x _ F).val w (hol1 (st.get (p := .isv ESource (.agg #[.int .i64 x.window.trail, .int .i64 x.window.size, .slice a1 x.window.items.length c1, .int .i64 x.clock, .int .i64 x.quiet, .slice a2 x.holds.length c2]) x F) (by simp)))) ?_
  cases g1 : goodSrc x
  · repeat (first | apply c_seq | apply c_reg | (apply wO; apply oc; rfl; exact ydE) | apply w_nil | apply n_cd | (apply wg_t; rfl; rfl) | (apply wg_f; rfl; rfl; rfl; rfl) | (apply wg_u; rfl; rfl; rfl) | (apply c_t; rfl) | (apply c_f; rfl) | apply c_skip | apply c_block | apply n_blk | apply c_exit | apply e_hit | apply e_cd | apply e_lp | (apply e_miss; rfl) | apply c_ret | (apply wO; apply o_box; rfl; rfl; rfl; intro _) | (apply wO; apply o_alloc; rfl; intro _) | (apply wO; apply o_st; rfl; rfl; rfl; (first | exact AggC.s | exact OneC.s); rfl; exact rplE; exact putE; rfl) | (apply wO; apply o_bs0; rfl; intro _) | (apply wO; apply o_bs; rfl; rfl; rfl; rfl; exact rptE; exact filE; intro _) | (apply wO; apply o_call; rfl; kernel_rfl; exact evsE))
    rw [resTrim_no (by unfold okTrimSource; rw [g1]; rfl)]
    refine ret ⟨none, 0, none, 0, []⟩ trivial rfl
  obtain ⟨gw, hl, t0, t1, k0, k1, hm, hn, hu, hb⟩ := goodS_of g1
  repeat (first | apply c_seq | apply c_reg | (apply wO; apply oc; rfl; exact ydE) | apply w_nil | apply n_cd | (apply wg_t; rfl; rfl) | (apply wg_f; rfl; rfl; rfl; rfl) | (apply wg_u; rfl; rfl; rfl) | (apply c_t; rfl) | (apply c_f; rfl) | apply c_skip | apply c_block | apply n_blk | apply c_exit | apply e_hit | apply e_cd | apply e_lp | (apply e_miss; rfl) | apply c_ret | (apply wO; apply o_box; rfl; rfl; rfl; intro _) | (apply wO; apply o_alloc; rfl; intro _) | (apply wO; apply o_st; rfl; rfl; rfl; (first | exact AggC.s | exact OneC.s); rfl; exact rplE; exact putE; rfl) | (apply wO; apply o_bs0; rfl; intro _) | (apply wO; apply o_bs; rfl; rfl; rfl; rfl; exact rptE; exact filE; intro _) | (apply wO; apply o_call; rfl; kernel_rfl; exact evsE))
  refine cf (Sclone_f x _ F (by omega) (by omega)) fun z _ => ?_
  refine t_app ?_
  refine openOSource ?_
  rintro a5 c5 F5 a6 c6 F6 e5 l5 l6
  rw [e5]
  repeat (first | apply c_seq | apply c_reg | (apply wO; apply oc; rfl; exact ydE) | apply w_nil | apply n_cd | (apply wg_t; rfl; rfl) | (apply wg_f; rfl; rfl; rfl; rfl) | (apply wg_u; rfl; rfl; rfl) | (apply c_t; rfl) | (apply c_f; rfl) | apply c_skip | apply c_block | apply n_blk | apply c_exit | apply e_hit | apply e_cd | apply e_lp | (apply e_miss; rfl) | apply c_ret | (apply wO; apply o_box; rfl; rfl; rfl; intro _) | (apply wO; apply o_alloc; rfl; intro _) | (apply wO; apply o_st; rfl; rfl; rfl; (first | exact AggC.s | exact OneC.s); rfl; exact rplE; exact putE; rfl) | (apply wO; apply o_bs0; rfl; intro _) | (apply wO; apply o_bs; rfl; rfl; rfl; rfl; exact rptE; exact filE; intro _) | (apply wO; apply o_call; rfl; kernel_rfl; exact evsE))
  refine cf (DropItems_f x.window n _ F3) fun y _ => ?_
  refine t_app ?_
  refine openOSendWindow ?_
  rintro a7 c7 F7 e7 l7
  rw [e7]
  cases g2 : okDropItems x.window n
  · rw [resTrim_no (by unfold okTrimSource; rw [g1, g2]; rfl), drop_no g2]
    repeat (first | apply c_seq | apply c_reg | (apply wO; apply oc; rfl; exact ydE) | apply w_nil | apply n_cd | (apply wg_t; rfl; rfl) | (apply wg_f; rfl; rfl; rfl; rfl) | (apply wg_u; rfl; rfl; rfl) | (apply c_t; rfl) | (apply c_f; rfl) | apply c_skip | apply c_block | apply n_blk | apply c_exit | apply e_hit | apply e_cd | apply e_lp | (apply e_miss; rfl) | apply c_ret | (apply wO; apply o_box; rfl; rfl; rfl; intro _) | (apply wO; apply o_alloc; rfl; intro _) | (apply wO; apply o_st; rfl; rfl; rfl; (first | exact AggC.s | exact OneC.s); rfl; exact rplE; exact putE; rfl) | (apply wO; apply o_bs0; rfl; intro _) | (apply wO; apply o_bs; rfl; rfl; rfl; rfl; exact rptE; exact filE; intro _) | (apply wO; apply o_call; rfl; kernel_rfl; exact evsE))
    refine ret ⟨none, 0, none, 0, []⟩ trivial rfl
  obtain ⟨W, k, hr, w0, w1⟩ := drop_yes g2 t0 t1
  have hR : resTrimSource x n = (withW x W, k, true) := by unfold resTrimSource okTrimSource; rw [g1, g2, hr]; rfl
  rw [hR, hr]
  repeat (first | apply c_seq | apply c_reg | (apply wO; apply oc; rfl; exact ydE) | apply w_nil | apply n_cd | (apply wg_t; rfl; rfl) | (apply wg_f; rfl; rfl; rfl; rfl) | (apply wg_u; rfl; rfl; rfl) | (apply c_t; rfl) | (apply c_f; rfl) | apply c_skip | apply c_block | apply n_blk | apply c_exit | apply e_hit | apply e_cd | apply e_lp | (apply e_miss; rfl) | apply c_ret | (apply wO; apply o_box; rfl; rfl; rfl; intro _) | (apply wO; apply o_alloc; rfl; intro _) | (apply wO; apply o_st; rfl; rfl; rfl; (first | exact AggC.s | exact OneC.s); rfl; exact rplE; exact putE; rfl) | (apply wO; apply o_bs0; rfl; intro _) | (apply wO; apply o_bs; rfl; rfl; rfl; rfl; exact rptE; exact filE; intro _) | (apply wO; apply o_call; rfl; kernel_rfl; exact evsE))
  refine cf (keepHolds_f W x.holds _ _ _ _ _ a7 a6 c7 c6 x.clock x.quiet F7 F6 w0 w1 hn) fun q _ => ?_
  refine t_app ?_
  repeat (first | apply c_seq | apply c_reg | (apply wO; apply oc; rfl; exact ydE) | apply w_nil | apply n_cd | (apply wg_t; rfl; rfl) | (apply wg_f; rfl; rfl; rfl; rfl) | (apply wg_u; rfl; rfl; rfl) | (apply c_t; rfl) | (apply c_f; rfl) | apply c_skip | apply c_block | apply n_blk | apply c_exit | apply e_hit | apply e_cd | apply e_lp | (apply e_miss; rfl) | apply c_ret | (apply wO; apply o_box; rfl; rfl; rfl; intro _) | (apply wO; apply o_alloc; rfl; intro _) | (apply wO; apply o_st; rfl; rfl; rfl; (first | exact AggC.s | exact OneC.s); rfl; exact rplE; exact putE; rfl) | (apply wO; apply o_bs0; rfl; intro _) | (apply wO; apply o_bs; rfl; rfl; rfl; rfl; exact rptE; exact filE; intro _) | (apply wO; apply o_call; rfl; kernel_rfl; exact evsE))
  refine closeOSource (withW x W) ?_
  refine ret ⟨_, _, _, _, _⟩ trivial rfl
end Go.Proofs.YtidephmobajikaaGreatDoor
/- Sources: what the reference drops, the holds that it keeps. -/
namespace Go.Proofs.YtidephmobajikaaGreatDoor
open Go.RowKit
set_option maxRecDepth 100000 in
theorem specDrop_f (x : SendWindow) (n : Int) (v : Value) (F : List Nat) : Fn Tryz.prog 96 [v, .int .i64 n] [.isv ESendWindow v x F] [] (fun (_ : Value × List Nat) => True)
    (fun s => .tuple #[s.1, .int .i64 (resDropItems x n).2.1, .bool (resDropItems x n).2.2]) (fun s => [.own OSendWindow s.1 (resDropItems x n).1 s.2]) := by
  refine enter Tryz.func96 rfl Tryz.ntmps96 fun w0 => ?_
  refine t_nilow EStr 9 ?_
  refine closeOSendWindow ⟨0, 0, []⟩ ?_
  refine openSendWindow ?_
  rintro a1 c1 F1 rfl l1
  repeat (first | apply c_seq | apply c_reg | (apply wO; apply oc; rfl; exact ydE) | apply w_nil | apply n_cd | (apply wg_t; rfl; rfl) | (apply wg_f; rfl; rfl; rfl; rfl) | (apply wg_u; rfl; rfl; rfl) | (apply c_t; rfl) | (apply c_f; rfl) | apply c_skip | apply c_block | apply n_blk | apply c_exit | apply e_hit | apply e_cd | apply e_lp | (apply e_miss; rfl) | apply c_ret | (apply wO; apply o_box; rfl; rfl; rfl; intro _) | (apply wO; apply o_alloc; rfl; intro _) | (apply wO; apply o_st; rfl; rfl; rfl; (first | exact AggC.s | exact OneC.s); rfl; exact rplE; exact putE; rfl) | (apply wO; apply o_bs0; rfl; intro _) | (apply wO; apply o_bs; rfl; rfl; rfl; rfl; exact rptE; exact filE; intro _) | (apply wO; apply o_call; rfl; kernel_rfl; exact evsE))
  cases g1 : goodWin x
  · refine d_start [1] [] ?_
    refine dt 0 ?_
    refine dO 1 (by kernel_rfl) (by rw [List.getElem?_toArray]; rfl) ?_
    apply o_call; rfl; kernel_rfl; exact evsE
    refine cb (fun w st => l9Good_c _ x _ w (st.get (p := .isv ESendWindow (.agg #[.int .i64 x.trail, .int .i64 x.size, .slice a1 x.items.length c1]) x F) (by simp))) ?_
    rw [g1]
    refine dk ?_
    refine dt 2 ?_
    refine dt 3 ?_
    refine ds 4 ?_
    refine ds 5 ?_
    refine ds 6 ?_
    refine dt 7 ?_
    refine dt 8 ?_
    refine ds 9 ?_
    refine ds 10 ?_
    refine ds 11 ?_
    refine ds 12 ?_
    refine ds 13 ?_
    refine ds 14 ?_
    refine ds 15 ?_
    refine ds 16 ?_
    refine dt 17 ?_
    refine dd ?_
    repeat (first | apply c_seq | apply c_reg | (apply wO; apply oc; rfl; exact ydE) | apply w_nil | apply n_cd | (apply wg_t; rfl; rfl) | (apply wg_f; rfl; rfl; rfl; rfl) | (apply wg_u; rfl; rfl; rfl) | (apply c_t; rfl) | (apply c_f; rfl) | apply c_skip | apply c_block | apply n_blk | apply c_exit | apply e_hit | apply e_cd | apply e_lp | (apply e_miss; rfl) | apply c_ret | (apply wO; apply o_box; rfl; rfl; rfl; intro _) | (apply wO; apply o_alloc; rfl; intro _) | (apply wO; apply o_st; rfl; rfl; rfl; (first | exact AggC.s | exact OneC.s); rfl; exact rplE; exact putE; rfl) | (apply wO; apply o_bs0; rfl; intro _) | (apply wO; apply o_bs; rfl; rfl; rfl; rfl; exact rptE; exact filE; intro _) | (apply wO; apply o_call; rfl; kernel_rfl; exact evsE))
    rw [drop_no (by unfold okDropItems; rw [g1]; simp)]
    refine ret (_, _) trivial rfl
  obtain ⟨⟨t0, t1⟩, ⟨s0, s1⟩, s2, -⟩ := goodWin_iff.1 g1
  cases g2 : isSer n
  · refine d_start [1] [] ?_
    refine dt 0 ?_
    refine dO 1 (by kernel_rfl) (by rw [List.getElem?_toArray]; rfl) ?_
    apply o_call; rfl; kernel_rfl; exact evsE
    refine cb (fun w st => l9Good_c _ x _ w (st.get (p := .isv ESendWindow (.agg #[.int .i64 x.trail, .int .i64 x.size, .slice a1 x.items.length c1]) x F) (by simp))) ?_
    rw [g1]
    refine dk ?_
    refine dt 2 ?_
    refine dt 3 ?_
    refine dtg 4 ?_
    refine d1g 5 ?_
    apply On.h
    apply o_call; rfl; kernel_rfl; exact evsE
    refine ce (fun w s => l2Good_c _ _) ?_
    rw [g2]
    refine dk ?_
    refine dtg 6 ?_
    refine dt 7 ?_
    refine dt 8 ?_
    refine ds 9 ?_
    refine ds 10 ?_
    refine ds 11 ?_
    refine ds 12 ?_
    refine ds 13 ?_
    refine ds 14 ?_
    refine ds 15 ?_
    refine ds 16 ?_
    refine dt 17 ?_
    refine dd ?_
    repeat (first | apply c_seq | apply c_reg | (apply wO; apply oc; rfl; exact ydE) | apply w_nil | apply n_cd | (apply wg_t; rfl; rfl) | (apply wg_f; rfl; rfl; rfl; rfl) | (apply wg_u; rfl; rfl; rfl) | (apply c_t; rfl) | (apply c_f; rfl) | apply c_skip | apply c_block | apply n_blk | apply c_exit | apply e_hit | apply e_cd | apply e_lp | (apply e_miss; rfl) | apply c_ret | (apply wO; apply o_box; rfl; rfl; rfl; intro _) | (apply wO; apply o_alloc; rfl; intro _) | (apply wO; apply o_st; rfl; rfl; rfl; (first | exact AggC.s | exact OneC.s); rfl; exact rplE; exact putE; rfl) | (apply wO; apply o_bs0; rfl; intro _) | (apply wO; apply o_bs; rfl; rfl; rfl; rfl; exact rptE; exact filE; intro _) | (apply wO; apply o_call; rfl; kernel_rfl; exact evsE))
    rw [drop_no (by unfold okDropItems; rw [g1, g2]; simp)]
    refine ret (_, _) trivial rfl
  obtain ⟨n0, n1⟩ := isSer_iff.1 g2
  have hgp := gp_bd x.trail n
  refine d_start [1] [] ?_
  refine dt 0 ?_
  refine dO 1 (by kernel_rfl) (by rw [List.getElem?_toArray]; rfl) ?_
  apply o_call; rfl; kernel_rfl; exact evsE
  refine cb (fun w st => l9Good_c _ x _ w (st.get (p := .isv ESendWindow (.agg #[.int .i64 x.trail, .int .i64 x.size, .slice a1 x.items.length c1]) x F) (by simp))) ?_
  rw [g1]
  refine dk ?_
  refine dt 2 ?_
  refine dt 3 ?_
  refine dtg 4 ?_
  refine d1g 5 ?_
  apply On.h
  apply o_call; rfl; kernel_rfl; exact evsE
  refine ce (fun w s => l2Good_c _ _) ?_
  rw [g2]
  refine dk ?_
  refine dtg 6 ?_
  refine dt 7 ?_
  refine dt 8 ?_
  refine dtg 9 ?_
  refine dtg 10 ?_
  refine dtg 11 ?_
  refine dtg 13 ?_
  refine dtg 14 ?_
  refine dtg 15 ?_
  refine d1g 12 ?_
  apply On.h
  apply o_call; rfl; kernel_rfl; exact evsE
  refine ce (fun w s => l2Gap_c _ _ _ (by omega) (by omega)) ?_
  refine dk ?_
  refine dtg 16 ?_
  refine dt 17 ?_
  refine dd ?_
  repeat (first | apply c_seq | apply c_reg | (apply wO; apply oc; rfl; exact ydE) | apply w_nil | apply n_cd | (apply wg_t; rfl; rfl) | (apply wg_f; rfl; rfl; rfl; rfl) | (apply wg_u; rfl; rfl; rfl) | (apply c_t; rfl) | (apply c_f; rfl) | apply c_skip | apply c_block | apply n_blk | apply c_exit | apply e_hit | apply e_cd | apply e_lp | (apply e_miss; rfl) | apply c_ret | (apply wO; apply o_box; rfl; rfl; rfl; intro _) | (apply wO; apply o_alloc; rfl; intro _) | (apply wO; apply o_st; rfl; rfl; rfl; (first | exact AggC.s | exact OneC.s); rfl; exact rplE; exact putE; rfl) | (apply wO; apply o_bs0; rfl; intro _) | (apply wO; apply o_bs; rfl; rfl; rfl; rfl; exact rptE; exact filE; intro _) | (apply wO; apply o_call; rfl; kernel_rfl; exact evsE))
  refine c_if rfl (fun h3 => ?_) (fun h3 => ?_)
  · repeat (first | apply c_seq | apply c_reg | (apply wO; apply oc; rfl; exact ydE) | apply w_nil | apply n_cd | (apply wg_t; rfl; rfl) | (apply wg_f; rfl; rfl; rfl; rfl) | (apply wg_u; rfl; rfl; rfl) | (apply c_t; rfl) | (apply c_f; rfl) | apply c_skip | apply c_block | apply n_blk | apply c_exit | apply e_hit | apply e_cd | apply e_lp | (apply e_miss; rfl) | apply c_ret | (apply wO; apply o_box; rfl; rfl; rfl; intro _) | (apply wO; apply o_alloc; rfl; intro _) | (apply wO; apply o_st; rfl; rfl; rfl; (first | exact AggC.s | exact OneC.s); rfl; exact rplE; exact putE; rfl) | (apply wO; apply o_bs0; rfl; intro _) | (apply wO; apply o_bs; rfl; rfl; rfl; rfl; exact rptE; exact filE; intro _) | (apply wO; apply o_call; rfl; kernel_rfl; exact evsE))
    rw [drop_no (by unfold okDropItems; rw [g1, g2, decide_eq_false (by omega)]; simp)]
    refine ret (_, _) trivial rfl
  have hr : resDropItems x n = (⟨aft x.trail (gp x.trail n), x.size, x.items.drop (gp x.trail n).toNat⟩, gp x.trail n, true) := by
    unfold resDropItems; rw [if_pos]; unfold okDropItems; rw [g1, g2, decide_eq_true (by omega)]; rfl
  rw [hr]
  repeat (first | apply c_seq | apply c_reg | (apply wO; apply oc; rfl; exact ydE) | apply w_nil | apply n_cd | (apply wg_t; rfl; rfl) | (apply wg_f; rfl; rfl; rfl; rfl) | (apply wg_u; rfl; rfl; rfl) | (apply c_t; rfl) | (apply c_f; rfl) | apply c_skip | apply c_block | apply n_blk | apply c_exit | apply e_hit | apply e_cd | apply e_lp | (apply e_miss; rfl) | apply c_ret | (apply wO; apply o_box; rfl; rfl; rfl; intro _) | (apply wO; apply o_alloc; rfl; intro _) | (apply wO; apply o_st; rfl; rfl; rfl; (first | exact AggC.s | exact OneC.s); rfl; exact rplE; exact putE; rfl) | (apply wO; apply o_bs0; rfl; intro _) | (apply wO; apply o_bs; rfl; rfl; rfl; rfl; exact rptE; exact filE; intro _) | (apply wO; apply o_call; rfl; kernel_rfl; exact evsE))
  refine ce (fun w s => l2Gap_c _ _ _ (by omega) (by omega)) ?_
  obtain ⟨k, hk⟩ : ∃ k : Nat, gp x.trail n = k := ⟨(gp x.trail n).toNat, by omega⟩
  rw [hk]
  repeat (first | apply c_seq | apply c_reg | (apply wO; apply oc; rfl; exact ydE) | apply w_nil | apply n_cd | (apply wg_t; rfl; rfl) | (apply wg_f; rfl; rfl; rfl; rfl) | (apply wg_u; rfl; rfl; rfl) | (apply c_t; rfl) | (apply c_f; rfl) | apply c_skip | apply c_block | apply n_blk | apply c_exit | apply e_hit | apply e_cd | apply e_lp | (apply e_miss; rfl) | apply c_ret | (apply wO; apply o_box; rfl; rfl; rfl; intro _) | (apply wO; apply o_alloc; rfl; intro _) | (apply wO; apply o_st; rfl; rfl; rfl; (first | exact AggC.s | exact OneC.s); rfl; exact rplE; exact putE; rfl) | (apply wO; apply o_bs0; rfl; intro _) | (apply wO; apply o_bs; rfl; rfl; rfl; rfl; exact rptE; exact filE; intro _) | (apply wO; apply o_call; rfl; kernel_rfl; exact evsE))
  refine cv (fun w st => l9Drop_c _ x _ k w (st.get (p := .isv ESendWindow (.agg #[.int .i64 x.trail, .int .i64 x.size, .slice a1 x.items.length c1]) x F) (by simp)) (by omega) (by omega) (isSer_iff.2 ⟨t0, t1⟩)) fun v F5 => ?_
  refine openOSendWindow ?_
  rintro a5 c5 F6 e5 l5
  rw [e5]
  repeat (first | apply c_seq | apply c_reg | (apply wO; apply oc; rfl; exact ydE) | apply w_nil | apply n_cd | (apply wg_t; rfl; rfl) | (apply wg_f; rfl; rfl; rfl; rfl) | (apply wg_u; rfl; rfl; rfl) | (apply c_t; rfl) | (apply c_f; rfl) | apply c_skip | apply c_block | apply n_blk | apply c_exit | apply e_hit | apply e_cd | apply e_lp | (apply e_miss; rfl) | apply c_ret | (apply wO; apply o_box; rfl; rfl; rfl; intro _) | (apply wO; apply o_alloc; rfl; intro _) | (apply wO; apply o_st; rfl; rfl; rfl; (first | exact AggC.s | exact OneC.s); rfl; exact rplE; exact putE; rfl) | (apply wO; apply o_bs0; rfl; intro _) | (apply wO; apply o_bs; rfl; rfl; rfl; rfl; exact rptE; exact filE; intro _) | (apply wO; apply o_call; rfl; kernel_rfl; exact evsE))
  refine closeOSendWindow ⟨aft x.trail k, x.size, x.items.drop k⟩ ?_
  refine ret (_, _) trivial rfl

def wideH (hs : List Hold) : Prop := ∀ h ∈ hs, -1 ≤ h.number ∧ h.number ≤ 65536
theorem wide_of {hs : List Hold} (hn : ∀ h ∈ hs, isSer h.number = true) : wideH hs := fun h hh => by have := isSer_iff.1 (hn h hh); omega
def keepU (W : SendWindow) (cl : Int) (hs : List Hold) : List Hold := hs.filter fun h => heldB W h.number && decide (cl < h.untl)
theorem keepU_eq {W : SendWindow} {cl : Int} {hs : List Hold} (h : ∀ z ∈ hs, cl + 1 ≤ z.untl) : keepU W cl hs = keepH W hs := by
  unfold keepU keepH
  refine List.filter_congr fun z hz => ?_
  rw [decide_eq_true (show cl < z.untl by have := h z hz; omega), Bool.and_true]
theorem rep_hold (h : Hold) (w : World) : Flat EHold w [.int .i64 h.number, .int .i64 h.untl] [h] [] := ⟨_, [], [], [], by simp, by simp, ⟨rfl, rfl⟩, rfl, rfl⟩
structure HoS where
  k : Nat
  a : Option Addr
  c : Nat
  F : List Nat
set_option maxRecDepth 100000 in
theorem l11HoldsU_f (W : SendWindow) (hs : List Hold) (cl : Int) (v : Value) (a2 : Option Addr) (c2 : Nat) (F G : List Nat) (t0 : 0 ≤ W.trail) (t1 : W.trail ≤ 65535) (hl : hs.length ≤ 1000) (hn : wideH hs) :
    Fn Tryz.prog 161 [.slice a2 hs.length c2, v, .int .i64 cl] [.isv ESendWindow v W F, .sl EHold (.slice a2 hs.length c2) hs G] [] (fun (_ : Option Addr × Nat × List Nat) => True)
      (fun z => .slice z.1 (keepU W cl hs).length z.2.1) (fun z => [.ow EHold 131 (.slice z.1 (keepU W cl hs).length z.2.1) (keepU W cl hs) z.2.2]) := by
  refine enter Tryz.func161 rfl Tryz.ntmps161 fun w0 => ?_
  refine openSendWindow ?_
  rintro a1 c1 F1 rfl l1
  repeat (first | apply c_seq | apply c_reg | (apply wO; apply oc; rfl; exact ydE) | apply w_nil | apply n_cd | (apply wg_t; rfl; rfl) | (apply wg_f; rfl; rfl; rfl; rfl) | (apply wg_u; rfl; rfl; rfl) | (apply c_t; rfl) | (apply c_f; rfl) | apply c_skip | apply c_block | apply n_blk | apply c_exit | apply e_hit | apply e_cd | apply e_lp | (apply e_miss; rfl) | apply c_ret | (apply wO; apply o_box; rfl; rfl; rfl; intro _) | (apply wO; apply o_alloc; rfl; intro _) | (apply wO; apply o_st; rfl; rfl; rfl; (first | exact AggC.s | exact OneC.s); rfl; exact rplE; exact putE; rfl) | (apply wO; apply o_bs0; rfl; intro _) | (apply wO; apply o_bs; rfl; rfl; rfl; rfl; exact rptE; exact filE; intro _) | (apply wO; apply o_call; rfl; kernel_rfl; exact evsE))
  refine t_emp EHold ?_
  refine c_loopS [0, 2, 4, 6] (fun s : HoS => [(7, .slice s.a (keepU W cl (hs.take s.k)).length s.c), (8, .int .i64 s.k)]) (fun s => [.ow EHold 131 (.slice s.a (keepU W cl (hs.take s.k)).length s.c) (keepU W cl (hs.take s.k)) s.F]) (fun s => s.k ≤ hs.length) (fun s => hs.length - s.k) ⟨0, _, 0, _⟩ (Nat.zero_le _) fun s hk => ?_
  obtain ⟨k, a5, c5, F5⟩ := s
  dsimp only at hk ⊢
  repeat (first | apply c_seq | apply c_reg | (apply wO; apply oc; rfl; exact ydE) | apply w_nil | apply n_cd | (apply wg_t; rfl; rfl) | (apply wg_f; rfl; rfl; rfl; rfl) | (apply wg_u; rfl; rfl; rfl) | (apply c_t; rfl) | (apply c_f; rfl) | apply c_skip | apply c_block | apply n_blk | apply c_exit | apply e_hit | apply e_cd | apply e_lp | (apply e_miss; rfl) | apply c_ret | (apply wO; apply o_box; rfl; rfl; rfl; intro _) | (apply wO; apply o_alloc; rfl; intro _) | (apply wO; apply o_st; rfl; rfl; rfl; (first | exact AggC.s | exact OneC.s); rfl; exact rplE; exact putE; rfl) | (apply wO; apply o_bs0; rfl; intro _) | (apply wO; apply o_bs; rfl; rfl; rfl; rfl; exact rptE; exact filE; intro _) | (apply wO; apply o_call; rfl; kernel_rfl; exact evsE))
  refine c_if rfl (fun h3 => ?_) (fun h3 => ?_)
  · have hk3 : k < hs.length := by omega
    obtain ⟨n0, n1⟩ := hn hs[k] (List.getElem_mem hk3)
    have hkl : (keepU W cl (hs.take k)).length ≤ 1000 := by have := List.length_filter_le (fun h : Hold => heldB W h.number && decide (cl < h.untl)) (hs.take k); unfold keepU; simp only [List.length_take] at this; omega
    refine atHold (xs := hs) k ?_
    rintro hi b o e
    rw [e]
    cases g5 : heldB W hs[k].number
    · repeat (first | apply c_seq | apply c_reg | (apply wO; apply oc; rfl; exact ydE) | apply w_nil | apply n_cd | (apply wg_t; rfl; rfl) | (apply wg_f; rfl; rfl; rfl; rfl) | (apply wg_u; rfl; rfl; rfl) | (apply c_t; rfl) | (apply c_f; rfl) | apply c_skip | apply c_block | apply n_blk | apply c_exit | apply e_hit | apply e_cd | apply e_lp | (apply e_miss; rfl) | apply c_ret | (apply wO; apply o_box; rfl; rfl; rfl; intro _) | (apply wO; apply o_alloc; rfl; intro _) | (apply wO; apply o_st; rfl; rfl; rfl; (first | exact AggC.s | exact OneC.s); rfl; exact rplE; exact putE; rfl) | (apply wO; apply o_bs0; rfl; intro _) | (apply wO; apply o_bs; rfl; rfl; rfl; rfl; exact rptE; exact filE; intro _))
      refine d_start [0, 2] [] ?_
      refine dt 0 ?_
      refine dt 1 ?_
      refine dt 2 ?_
      refine dt 3 ?_
      refine dt 4 ?_
      refine dt 5 ?_
      refine dO 6 (by kernel_rfl) (by rw [List.getElem?_toArray]; rfl) ?_
      apply o_call; rfl; kernel_rfl; exact evsE
      refine cb (fun w st => (l9HeldW_f W hs[k].number _ _ t0 t1 n0 n1).val w (hol1 (st.get (p := .isv ESendWindow (.agg #[.int .i64 W.trail, .int .i64 W.size, .slice a1 W.items.length c1]) W F) (by simp)))) ?_
      rw [g5]
      refine dk ?_
      refine dt 7 ?_
      refine ds 8 ?_
      refine ds 9 ?_
      refine ds 10 ?_
      refine ds 11 ?_
      refine ds 12 ?_
      refine ds 13 ?_
      refine ds 14 ?_
      refine dt 15 ?_
      refine dd ?_
      repeat (first | apply c_seq | apply c_reg | (apply wO; apply oc; rfl; exact ydE) | apply w_nil | apply n_cd | (apply wg_t; rfl; rfl) | (apply wg_f; rfl; rfl; rfl; rfl) | (apply wg_u; rfl; rfl; rfl) | (apply c_t; rfl) | (apply c_f; rfl) | apply c_skip | apply c_block | apply n_blk | apply c_exit | apply e_hit | apply e_cd | apply e_lp | (apply e_miss; rfl) | apply c_ret | (apply wO; apply o_box; rfl; rfl; rfl; intro _) | (apply wO; apply o_alloc; rfl; intro _) | (apply wO; apply o_st; rfl; rfl; rfl; (first | exact AggC.s | exact OneC.s); rfl; exact rplE; exact putE; rfl) | (apply wO; apply o_bs0; rfl; intro _) | (apply wO; apply o_bs; rfl; rfl; rfl; rfl; exact rptE; exact filE; intro _) | (apply wO; apply o_call; rfl; kernel_rfl; exact evsE))
      have hf : keepU W cl (hs.take (k + 1)) = keepU W cl (hs.take k) := filter_take_no hk3 (by rw [g5]; rfl)
      rw [← hf]
      refine n_lp ⟨k + 1, a5, c5, F5⟩ hk3 (by show hs.length - (k + 1) < _; omega)
    · repeat (first | apply c_seq | apply c_reg | (apply wO; apply oc; rfl; exact ydE) | apply w_nil | apply n_cd | (apply wg_t; rfl; rfl) | (apply wg_f; rfl; rfl; rfl; rfl) | (apply wg_u; rfl; rfl; rfl) | (apply c_t; rfl) | (apply c_f; rfl) | apply c_skip | apply c_block | apply n_blk | apply c_exit | apply e_hit | apply e_cd | apply e_lp | (apply e_miss; rfl) | apply c_ret | (apply wO; apply o_box; rfl; rfl; rfl; intro _) | (apply wO; apply o_alloc; rfl; intro _) | (apply wO; apply o_st; rfl; rfl; rfl; (first | exact AggC.s | exact OneC.s); rfl; exact rplE; exact putE; rfl) | (apply wO; apply o_bs0; rfl; intro _) | (apply wO; apply o_bs; rfl; rfl; rfl; rfl; exact rptE; exact filE; intro _))
      refine d_start [0, 2] [] ?_
      refine dt 0 ?_
      refine dt 1 ?_
      refine dt 2 ?_
      refine dt 3 ?_
      refine dt 4 ?_
      refine dt 5 ?_
      refine dO 6 (by kernel_rfl) (by rw [List.getElem?_toArray]; rfl) ?_
      apply o_call; rfl; kernel_rfl; exact evsE
      refine cb (fun w st => (l9HeldW_f W hs[k].number _ _ t0 t1 n0 n1).val w (hol1 (st.get (p := .isv ESendWindow (.agg #[.int .i64 W.trail, .int .i64 W.size, .slice a1 W.items.length c1]) W F) (by simp)))) ?_
      rw [g5]
      refine dk ?_
      refine dt 7 ?_
      refine dtg 8 ?_
      refine dtg 9 ?_
      refine dtg 10 ?_
      refine dtg 11 ?_
      refine dtg 12 ?_
      refine dtg 13 ?_
      refine dtg 14 ?_
      refine dt 15 ?_
      refine dd ?_
      repeat (first | apply c_seq | apply c_reg | (apply wO; apply oc; rfl; exact ydE) | apply w_nil | apply n_cd | (apply wg_t; rfl; rfl) | (apply wg_f; rfl; rfl; rfl; rfl) | (apply wg_u; rfl; rfl; rfl) | (apply c_t; rfl) | (apply c_f; rfl) | apply c_skip | apply c_block | apply n_blk | apply c_exit | apply e_hit | apply e_cd | apply e_lp | (apply e_miss; rfl) | apply c_ret | (apply wO; apply o_box; rfl; rfl; rfl; intro _) | (apply wO; apply o_alloc; rfl; intro _) | (apply wO; apply o_st; rfl; rfl; rfl; (first | exact AggC.s | exact OneC.s); rfl; exact rplE; exact putE; rfl) | (apply wO; apply o_bs0; rfl; intro _) | (apply wO; apply o_bs; rfl; rfl; rfl; rfl; exact rptE; exact filE; intro _) | (apply wO; apply o_call; rfl; kernel_rfl; exact evsE))
      refine c_if rfl (fun h5 => ?_) (fun h5 => ?_)
      · repeat (first | apply c_seq | apply c_reg | (apply wO; apply oc; rfl; exact ydE) | apply w_nil | apply n_cd | (apply wg_t; rfl; rfl) | (apply wg_f; rfl; rfl; rfl; rfl) | (apply wg_u; rfl; rfl; rfl) | (apply c_t; rfl) | (apply c_f; rfl) | apply c_skip | apply c_block | apply n_blk | apply c_exit | apply e_hit | apply e_cd | apply e_lp | (apply e_miss; rfl) | apply c_ret | (apply wO; apply o_box; rfl; rfl; rfl; intro _) | (apply wO; apply o_alloc; rfl; intro _) | (apply wO; apply o_st; rfl; rfl; rfl; (first | exact AggC.s | exact OneC.s); rfl; exact rplE; exact putE; rfl) | (apply wO; apply o_bs0; rfl; intro _) | (apply wO; apply o_bs; rfl; rfl; rfl; rfl; exact rptE; exact filE; intro _) | (apply wO; apply o_call; rfl; kernel_rfl; exact evsE))
        apply wO
        refine ap1 (rep_hold hs[k]) one_EHold fun a6 c6 F6 => ?_
        have hf : keepU W cl (hs.take (k + 1)) = keepU W cl (hs.take k) ++ [hs[k]] := filter_take_yes hk3 (by rw [g5, decide_eq_true h5]; rfl)
        rw [← hf]
        repeat (first | apply c_seq | apply c_reg | (apply wO; apply oc; rfl; exact ydE) | apply w_nil | apply n_cd | (apply wg_t; rfl; rfl) | (apply wg_f; rfl; rfl; rfl; rfl) | (apply wg_u; rfl; rfl; rfl) | (apply c_t; rfl) | (apply c_f; rfl) | apply c_skip | apply c_block | apply n_blk | apply c_exit | apply e_hit | apply e_cd | apply e_lp | (apply e_miss; rfl) | apply c_ret | (apply wO; apply o_box; rfl; rfl; rfl; intro _) | (apply wO; apply o_alloc; rfl; intro _) | (apply wO; apply o_st; rfl; rfl; rfl; (first | exact AggC.s | exact OneC.s); rfl; exact rplE; exact putE; rfl) | (apply wO; apply o_bs0; rfl; intro _) | (apply wO; apply o_bs; rfl; rfl; rfl; rfl; exact rptE; exact filE; intro _) | (apply wO; apply o_call; rfl; kernel_rfl; exact evsE))
        refine n_lp ⟨k + 1, a6, c6, F6⟩ hk3 (by show hs.length - (k + 1) < _; omega)
      · repeat (first | apply c_seq | apply c_reg | (apply wO; apply oc; rfl; exact ydE) | apply w_nil | apply n_cd | (apply wg_t; rfl; rfl) | (apply wg_f; rfl; rfl; rfl; rfl) | (apply wg_u; rfl; rfl; rfl) | (apply c_t; rfl) | (apply c_f; rfl) | apply c_skip | apply c_block | apply n_blk | apply c_exit | apply e_hit | apply e_cd | apply e_lp | (apply e_miss; rfl) | apply c_ret | (apply wO; apply o_box; rfl; rfl; rfl; intro _) | (apply wO; apply o_alloc; rfl; intro _) | (apply wO; apply o_st; rfl; rfl; rfl; (first | exact AggC.s | exact OneC.s); rfl; exact rplE; exact putE; rfl) | (apply wO; apply o_bs0; rfl; intro _) | (apply wO; apply o_bs; rfl; rfl; rfl; rfl; exact rptE; exact filE; intro _) | (apply wO; apply o_call; rfl; kernel_rfl; exact evsE))
        have hf : keepU W cl (hs.take (k + 1)) = keepU W cl (hs.take k) := filter_take_no hk3 (by rw [g5, decide_eq_false h5]; rfl)
        rw [← hf]
        refine n_lp ⟨k + 1, a5, c5, F5⟩ hk3 (by show hs.length - (k + 1) < _; omega)
  · have hkl : k = hs.length := by omega
    subst hkl
    rw [List.take_length]
    repeat (first | apply c_seq | apply c_reg | (apply wO; apply oc; rfl; exact ydE) | apply w_nil | apply n_cd | (apply wg_t; rfl; rfl) | (apply wg_f; rfl; rfl; rfl; rfl) | (apply wg_u; rfl; rfl; rfl) | (apply c_t; rfl) | (apply c_f; rfl) | apply c_skip | apply c_block | apply n_blk | apply c_exit | apply e_hit | apply e_cd | apply e_lp | (apply e_miss; rfl) | apply c_ret | (apply wO; apply o_box; rfl; rfl; rfl; intro _) | (apply wO; apply o_alloc; rfl; intro _) | (apply wO; apply o_st; rfl; rfl; rfl; (first | exact AggC.s | exact OneC.s); rfl; exact rplE; exact putE; rfl) | (apply wO; apply o_bs0; rfl; intro _) | (apply wO; apply o_bs; rfl; rfl; rfl; rfl; exact rptE; exact filE; intro _) | (apply wO; apply o_call; rfl; kernel_rfl; exact evsE))
    refine ret (a5, c5, F5) trivial rfl
end Go.Proofs.YtidephmobajikaaGreatDoor
