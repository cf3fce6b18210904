/- Draws, for the engine: the cursor. -/
import Derived.Test.YtidephmobajikaaDoorXI
import Derived.Test.YtidephmobajikaaDoorXs
import Derived.Test.YtidephmobajikaaDoorDrawsE
import Derived.Test.YtidephmobajikaaDoorTInt
namespace Go.Proofs.YtidephmobajikaaDoor
open Go.RowKit
structure CuS where
  k : Nat
  seed : Int
structure CuOk (B : Nat) (s : CuS) : Prop where
  k : s.k ≤ B
  s0 : 0 ≤ s.seed
  s1 : s.seed < 18446744073709551616
theorem CuOk.mono {B B' : Nat} {s : CuS} (h : CuOk B s) (hb : B ≤ B') : CuOk B' s := ⟨Nat.le_trans h.k hb, h.s0, h.s1⟩
theorem cu_fn {f : FuncId} {args : List Value} {σ : Type} {C : σ → Prop} {v : σ → Value} {B B' g : Nat} {F : CuF} {s : CuS} {X : List Pc} (hX : X.all (fun p => !p.mu) = true) (ok : CuOk B s)
    (h : ∀ w, Cur B w g F → Hol X w → (∀ p ∈ X, g ∉ p.F) → Calls Tryd.prog f args.toArray w fun e w' => ∃ r, C r ∧ e = .returned (v r) ∧ Cur B' w' g F ∧ Keep [g] w w') :
    Fn Tryd.prog f args (.sl EByte (.slice F.a F.code.length F.c) F.code F.bs :: X) [.row g 121 0 [] [.slice F.a F.code.length F.c, .int .i64 (s.k : Nat), .int .u64 s.seed] []] (fun (z : σ × CuS) => C z.1 ∧ CuOk B' z.2) (fun z => v z.1) (fun z => [.row g 121 0 [] [.slice F.a F.code.length F.c, .int .i64 (z.2.k : Nat), .int .u64 z.2.seed] []]) := fun w hH hS => by
  have h1 := hH (.row g 121 0 [] [.slice F.a F.code.length F.c, .int .i64 (s.k : Nat), .int .u64 s.seed] []) (by simp)
  have h2 := hH (.sl EByte (.slice F.a F.code.length F.c) F.code F.bs) (by simp)
  have ap := hS.1
  have hg : g ∉ F.bs := fun hm => ap (.sl EByte (.slice F.a F.code.length F.c) F.code F.bs) (by simp) (by simp [Pc.mu]) g (by simp [Pc.F]) hm
  refine (h w ⟨s.k, s.seed, by simpa using h1.2, h2.2, hg, ok.k, ok.s0, ok.s1⟩ (fun p hp => hH p (by simp [hp])) (fun p hp hm => ap p (by simp [hp]) (by simp [Pc.mu]) g (by simp [Pc.F]) hm)).mono ?_
  rintro e w' ⟨r, hC, he, ⟨k, seed, R, S, -, hk, h0, h3⟩, hK⟩
  refine ⟨(r, ⟨k, seed⟩), ⟨hC, hk, h0, h3⟩, he, hol1 ⟨rfl, by simpa using R⟩, ⟨by simp, trivial⟩, hK.mono (fun b hb _ => by simpa [fp, Pc.F] using hb), fun p hp b hb => ?_⟩
  simp at hp
  subst hp
  exact .inr (.inl ⟨_, List.mem_cons_self .., by simpa [Pc.F] using hb⟩)
theorem pick_f (B g : Nat) (F : CuF) (n : Int) (s : CuS) (ok : CuOk B s) (hB : B ≤ 1000000000000) (hn : n ≤ 1048576) :
    Fn Tryd.prog 152 [ptr g 0 0, .int .i64 n] [.sl EByte (.slice F.a F.code.length F.c) F.code F.bs] [.row g 121 0 [] [.slice F.a F.code.length F.c, .int .i64 (s.k : Nat), .int .u64 s.seed] []] (fun (z : Nat × CuS) => (z.1 = 0 ∨ (z.1 : Int) < n) ∧ CuOk (B + 2) z.2) (fun z => .int .i64 (z.1 : Nat)) (fun z => [.row g 121 0 [] [.slice F.a F.code.length F.c, .int .i64 (z.2.k : Nat), .int .u64 z.2.seed] []]) :=
  cu_fn (C := fun r : Nat => r = 0 ∨ (r : Int) < n) (v := fun r => .int .i64 (r : Nat)) (X := []) rfl ok fun w h _ _ => (pick_c B g F n w h (by omega) hn).mono fun _ _ ⟨r, he, h1, h2, h3⟩ => ⟨r, h1, he, h2, h3⟩
theorem one_f (B g : Nat) (F : CuF) (n : Int) (s : CuS) (ok : CuOk B s) (hB : B ≤ 1000000000000) (hn : n ≤ 1048576) :
    Fn Tryd.prog 115 [ptr g 0 0, .int .i64 n] [.sl EByte (.slice F.a F.code.length F.c) F.code F.bs] [.row g 121 0 [] [.slice F.a F.code.length F.c, .int .i64 (s.k : Nat), .int .u64 s.seed] []] (fun (z : Bool × CuS) => True ∧ CuOk (B + 2) z.2) (fun z => .bool z.1) (fun z => [.row g 121 0 [] [.slice F.a F.code.length F.c, .int .i64 (z.2.k : Nat), .int .u64 z.2.seed] []]) :=
  cu_fn (C := fun _ : Bool => True) (v := fun r => .bool r) (X := []) rfl ok fun w h _ _ => (one_c B g F n w h (by omega) hn).mono fun _ _ ⟨r, he, h2, h3⟩ => ⟨r, trivial, he, h2, h3⟩
theorem of_f (B g : Nat) (F : CuF) (v : Value) (xs : List ByteArray) (G : List Nat) (s : CuS) (ok : CuOk B s) (hB : B ≤ 1000000000000) (h0 : 0 < xs.length) (h1 : xs.length ≤ 1048576) :
    Fn Tryd.prog 94 [ptr g 0 0, v] [.sl EByte (.slice F.a F.code.length F.c) F.code F.bs, .sl EStr v xs G] [.row g 121 0 [] [.slice F.a F.code.length F.c, .int .i64 (s.k : Nat), .int .u64 s.seed] []] (fun (z : ByteArray × CuS) => z.1 ∈ xs ∧ CuOk (B + 2) z.2) (fun z => .string z.1) (fun z => [.row g 121 0 [] [.slice F.a F.code.length F.c, .int .i64 (z.2.k : Nat), .int .u64 z.2.seed] []]) :=
  cu_fn (C := fun r : ByteArray => r ∈ xs) (v := fun r => .string r) (X := [.sl EStr v xs G]) rfl ok fun w h hX hg => (of_c B g F v xs G w h (by omega) (hX (.sl EStr v xs G) (by simp)).2 h0 h1 (hg (.sl EStr v xs G) (by simp))).mono fun _ _ ⟨r, h1, he, h2, h3⟩ => ⟨r, h1, he, h2, h3⟩
theorem among_f (B g : Nat) (F : CuF) (v : Value) (xs : List Int) (G : List Nat) (s : CuS) (ok : CuOk B s) (hB : B ≤ 1000000000000) (h0 : 0 < xs.length) (h1 : xs.length ≤ 1048576) :
    Fn Tryd.prog 119 [ptr g 0 0, v] [.sl EByte (.slice F.a F.code.length F.c) F.code F.bs, .sl EInt v xs G] [.row g 121 0 [] [.slice F.a F.code.length F.c, .int .i64 (s.k : Nat), .int .u64 s.seed] []] (fun (z : Int × CuS) => z.1 ∈ xs ∧ CuOk (B + 2) z.2) (fun z => .int .i64 z.1) (fun z => [.row g 121 0 [] [.slice F.a F.code.length F.c, .int .i64 (z.2.k : Nat), .int .u64 z.2.seed] []]) :=
  cu_fn (C := fun r : Int => r ∈ xs) (v := fun r => .int .i64 r) (X := [.sl EInt v xs G]) rfl ok fun w h hX hg => (among_c B g F v xs G w h (by omega) (hX (.sl EInt v xs G) (by simp)).2 h0 h1 (hg (.sl EInt v xs G) (by simp))).mono fun _ _ ⟨r, h1, he, h2, h3⟩ => ⟨r, h1, he, h2, h3⟩
/-- a row of our own is an owned slice -/
theorem t_row {c : Cx} {fr : Fr} {H : List Pc} {Φ : Gl} {α : Type} {E : Elem α} {t g : Nat} {cs : List Value} {xs : List α} {S : List Pc} (hfl : ∀ w, Flat E w cs xs []) (h : T c fr (.ow E t (.slice (some ⟨g, 0, none⟩) xs.length xs.length) xs [g] :: S) Φ) (hl : xs.length ≤ 1000000) (hp : Pick H (.row g t 0 [] cs []) S := by first | exact .here | exact .there .here | exact .there (.there .here) | exact .there (.there (.there .here)) | exact .there (.there (.there (.there .here))) | exact .there (.there (.there (.there (.there .here)))) | exact .there (.there (.there (.there (.there (.there .here))))) | exact .there (.there (.there (.there (.there (.there (.there .here)))))) | exact .there (.there (.there (.there (.there (.there (.there (.there .here))))))) | exact .there (.there (.there (.there (.there (.there (.there (.there (.there .here)))))))) | exact .there (.there (.there (.there (.there (.there (.there (.there (.there (.there .here))))))))) | exact .there (.there (.there (.there (.there (.there (.there (.there (.there (.there (.there .here)))))))))) | exact .there (.there (.there (.there (.there (.there (.there (.there (.there (.there (.there (.there .here))))))))))) | exact .there (.there (.there (.there (.there (.there (.there (.there (.there (.there (.there (.there (.there .here))))))))))))) : T c fr H Φ := .mk fun a w s g' => by
  have s1 := s.pick hp
  have hr := (s1.on (.row g t 0 [] cs []) (by simp)).2
  have hlen := (hfl w).len
  refine h.h a w (s1.conv rfl ⟨by simp, .inr ⟨g, xs.length, cs, [], [], rfl, by simpa using hr, Nat.le_refl _, by unfold maxLen; omega, by simpa using hlen, hfl w, rfl⟩⟩ (by simp [Pc.F])) g'
end Go.Proofs.YtidephmobajikaaDoor
