/- A range over an iterator that keeps its state in a cell of its own (strings.Lines): the statement's law, at the wide fence. No program in sight. -/
import Derived.Test.YtnmgaponnfjciaaDoorBridge
import Derived.Test.YtnmgaponnfjciaaDoorOwn
namespace Go.Proofs.YtnmgaponnfjciaaDoor
open Go.RowKit

/-- new blocks, and whatever becomes of block b, leave it standing -/
def AbB {β : Type} (b : List Nat) (J : β → World → Prop) : Prop := ∀ s W W', J s W → Keep b W W' → J s W'
/-- blocks that lie as they lay -/
def Still (ks : List Nat) (W W' : World) : Prop := ∀ k ∈ ks, W'.heap[k]? = W.heap[k]?
/-- the iterator hands over these strings, one behind the other; its state lies in block b -/
def SeqBox (P : Program) (gf : Nat) (lb : Array Value) (b : Nat) (xs : List ByteArray) (W0 : World) : Prop :=
  ∀ (n l : Nat) (J Jx : List ByteArray → World → Prop), AbB [b] J → AbB [b] Jx →
    (∀ m pre x post W1, xs = pre ++ x :: post → J pre W1 → YieldAt Fence.wide m P l #[.string x] W1 fun e W' =>
      (e = .returned (.bool true) ∧ J (pre ++ [x]) W' ∧ W'.heap[b]? = W1.heap[b]?) ∨ (e = .returned (.bool false) ∧ Jx (pre ++ [x]) W')) →
    J [] W0 → CallsIn Fence.wide n P gf (#[.func (.yield l) #[] #[]] ++ lb) W0 fun e W' => (∃ v, e = .returned v) ∧ (J xs W' ∨ ∃ pre x post, xs = pre ++ x :: post ∧ Jx (pre ++ [x]) W')
/-- how a round's body may be left -/
def boxPost (ks : List Nat) (I : List ByteArray → World → Prop) (Ix : Code → List ByteArray → World → Prop) (ys : List ByteArray) (W : World) : Exit → Act → World → Prop
  | .normal, _, W' => Still ks W W' ∧ I ys W'
  | .ret, _, W' => Still ks W W' ∧ Ix .ret ys W'
  | .exit id, _, W' => Still ks W W' ∧ Ix (.exit id) ys W'
  | .goto t, _, W' => Still ks W W' ∧ Ix (.goto t) ys W'
  | .panic _, _, _ => False
  | .outgrown, _, _ => False
theorem keep_putObj (W : World) (l : Nat) (o : Obj) : Keep [l] W (W.putObj l o) :=
  ⟨rfl, rfl, rfl, by simp, fun k _ hk => World.putObj_heap_other (fun e => hk (by simp [e]))⟩

theorem wp_range_box {P : Program} {g : Operand} {ps : Array Tmp} {assign body : Code} {Q : Exit → Act → World → Prop} {a : Act} {w : World} {n gf b : Nat} {lb : Array Value} {xs : List ByteArray}
    (hg : a.eval g = .func (.func gf) #[] lb) (eg : ∀ args w, (callFunc gf args).run P w = .ok (.enter gf args) w) (hps : ps.size = 1) (hb : b < w.heap.size)
    (hseq : ∀ W0, W0.heap[b]? = w.heap[b]? → SeqBox P gf lb b xs W0)
    (I : List ByteArray → World → Prop) (Ix : Code → List ByteArray → World → Prop) (hI : AbB [b, w.heap.size + 1] I) (hIx : ∀ c, AbB [b, w.heap.size + 1] (Ix c)) (h0 : I [] w) (a₁ : ByteArray → Act)
    (hassign : ∀ (m : Nat) (x : ByteArray) (W : World) (K : Act → World → Prop), K (a₁ x) W →
      assign.wpIn (Fence.wide.inRound (w.heap.size + 1)) m P (Exit.then K (fun _ _ _ => False)) { tmps := (ps.zip #[.string x]).foldl (fun t (p, v) => t.setIfInBounds p v) a.tmps, defers := [] } W)
    (hbody : ∀ (m : Nat) (pre post : List ByteArray) (x : ByteArray) (W : World), xs = pre ++ x :: post → w.heap.size + 2 ≤ W.heap.size → I pre W →
      body.wpIn (Fence.wide.inRound (w.heap.size + 1)) m P (boxPost [b, w.heap.size, w.heap.size + 1] I Ix (pre ++ [x]) W) (a₁ x) W)
    (hdone : ∀ (W : World), I xs W → W.heap[w.heap.size]? = some (.deferred (some [])) → Q .normal { a with defers := { target := .collected w.heap.size, args := #[] } :: a.defers } W)
    (hstop : ∀ (c : Code) (pre post : List ByteArray) (x : ByteArray) (W : World), xs = pre ++ x :: post → Ix c (pre ++ [x]) W → W.heap[w.heap.size]? = some (.deferred (some [])) →
      c.wpIn Fence.wide n P Q { a with defers := { target := .collected w.heap.size, args := #[] } :: a.defers } W) :
    (Code.rangeFunc g ps assign body).wpIn Fence.wide n P Q a w := by
  refine wpIn_rangeFunc ?_
  intro fn hfn
  rw [Fence.wide_round]
  obtain ⟨rec, hrec⟩ : ∃ rec : LoopState → Option Code → Loop, rec = fun st pe => { state := st, pending := pe, fn, tmps := a.tmps, params := ps, assign, body, defers := w.heap.size } := ⟨_, rfl⟩
  obtain ⟨W1, hW1⟩ : ∃ W1, (w.alloc (.deferred (some []))).alloc (.loop (rec .ready none)) = W1 := ⟨_, rfl⟩
  have hL1 : W1.heap[w.heap.size + 1]? = some (.loop (rec .ready none)) := by
    rw [← hW1]; have := World.alloc_heap_new (w.alloc (.deferred (some []))) (.loop (rec .ready none)); rwa [World.size_alloc] at this
  have hK1 : W1.heap[w.heap.size]? = some (.deferred (some [])) := by
    rw [← hW1]; exact (Below.heap_alloc _ _ _ (by simp)).trans (World.alloc_heap_new w _)
  have hk1 : Keep [b, w.heap.size + 1] w W1 := by rw [← hW1]; exact ((Keep.refl _ _).alloc _).alloc _
  have hb1 : W1.heap[b]? = w.heap[b]? := by
    rw [← hW1]; exact (Below.heap_alloc _ _ _ (by simp; omega)).trans (Below.heap_alloc _ _ _ hb)
  refine ⟨w.heap.size + 1, [{ target := .collected w.heap.size, args := #[] }], W1, { target := .fn (.func gf) lb, args := #[.func (.yield (w.heap.size + 1)) #[] #[]] }, W1, gf,
    #[.func (.yield (w.heap.size + 1)) #[] #[]] ++ lb, W1, ?_, ?_, ?_, ?_, (fun e => by cases e), ?_⟩
  · rw [← hW1, hrec]; exact run_enterLoop_outer _ _ _ _ _
  · simp only [resolve, hg]
    simp [go_sem]
  · intro f' hf'; trivial
  · simp [invoke, go_sem, eg]
  have far : ∀ {W W' : World} {k : Nat} {o : Obj}, Keep [b] W W' → b < w.heap.size → w.heap.size ≤ k → W.heap[k]? = some o → W'.heap[k]? = some o := fun {W W' k o} hk h1 h2 h3 =>
    (hk.block k (Array.getElem?_eq_some_iff.1 h3).1 (by simp; omega)).trans h3
  have wider : ∀ {W W' : World}, Keep [b] W W' → Keep [b, w.heap.size + 1] W W' := fun h => h.mono fun x hx _ => by simp at hx ⊢; omega
  have wider2 : ∀ {W W' : World}, Keep [w.heap.size + 1] W W' → Keep [b, w.heap.size + 1] W W' := fun h => h.mono fun x hx _ => by simp at hx ⊢; omega
  refine (hseq W1 hb1 (n - 1) (w.heap.size + 1)
    (fun pre W => I pre W ∧ W.heap[w.heap.size + 1]? = some (.loop (rec .ready none)) ∧ W.heap[w.heap.size]? = some (.deferred (some [])))
    (fun pre W => ∃ c, Ix c pre W ∧ W.heap[w.heap.size + 1]? = some (.loop (rec .done (some c))) ∧ W.heap[w.heap.size]? = some (.deferred (some [])))
    (fun s A B hs hk => ⟨hI s A B hs.1 (wider hk), far hk hb (by omega) hs.2.1, far hk hb (by omega) hs.2.2⟩)
    (fun s A B hs hk => by
      obtain ⟨c, hc, hl, hd⟩ := hs
      exact ⟨c, hIx c s A B hc (wider hk), far hk hb (by omega) hl, far hk hb (by omega) hd⟩)
    ?_ ⟨hI _ _ _ h0 hk1, hL1, hK1⟩).mono ?_
  · rintro m pre x post W hxs ⟨hi, hl, hk⟩
    have hlt : w.heap.size + 1 < W.heap.size := (Array.getElem?_eq_some_iff.1 hl).1
    have hy := run_yield (P := P) (args := #[.string x]) hl (by rw [hrec]; exact hps.symm)
    rw [hrec] at hy
    refine ⟨fn, _, assign, body, hy, roundIn_of_wpIn hfn (hassign m x W _ ⟨_, run_beginRound hl (by rw [hrec]), ?_⟩)⟩
    obtain ⟨W2, hW2⟩ : ∃ W2, W.putObj (w.heap.size + 1) (.loop { rec .ready none with state := .busy }) = W2 := ⟨_, rfl⟩
    rw [hW2]
    have hl2 : W2.heap[w.heap.size + 1]? = some (.loop { rec .ready none with state := .busy }) := by rw [← hW2]; exact World.putObj_heap_same hlt
    have hk2 : W2.heap[w.heap.size]? = some (.deferred (some [])) := by rw [← hW2]; exact (World.putObj_heap_other (by omega)).trans hk
    have hb2 : W2.heap[b]? = W.heap[b]? := by rw [← hW2]; exact World.putObj_heap_other (by omega)
    have hi2 : I pre W2 := hI _ _ _ hi (by rw [← hW2]; exact wider2 (keep_putObj _ _ _))
    have hs2 : w.heap.size + 2 ≤ W2.heap.size := by rw [← hW2]; simp; omega
    refine wpIn_mono (hbody m pre post x _ hxs hs2 hi2) ?_
    have fin : ∀ (jump : Option Code) (W3 : World), Still [b, w.heap.size, w.heap.size + 1] W2 W3 →
        (Instr.endRound (w.heap.size + 1) jump).run P W3 = .ok (.bool jump.isNone) (W3.putObj (w.heap.size + 1) (.loop (rec (if jump.isNone then .ready else .done) jump))) ∧
        (W3.putObj (w.heap.size + 1) (.loop (rec (if jump.isNone then .ready else .done) jump))).heap[w.heap.size + 1]? = some (.loop (rec (if jump.isNone then .ready else .done) jump)) ∧
        (W3.putObj (w.heap.size + 1) (.loop (rec (if jump.isNone then .ready else .done) jump))).heap[w.heap.size]? = some (.deferred (some [])) ∧
        (W3.putObj (w.heap.size + 1) (.loop (rec (if jump.isNone then .ready else .done) jump))).heap[b]? = W.heap[b]? := fun jump W3 hk3 => by
      have hl3 := (hk3 (w.heap.size + 1) (by simp)).trans hl2
      have h4 := run_endRound (P := P) jump hl3
      rw [hrec] at h4 ⊢
      exact ⟨h4, World.putObj_heap_same (Array.getElem?_eq_some_iff.1 hl3).1, (World.putObj_heap_other (by omega)).trans ((hk3 w.heap.size (by simp)).trans hk2), (World.putObj_heap_other (by omega)).trans ((hk3 b (by simp)).trans hb2)⟩
    rintro e a3 W3 hp
    cases e with
    | normal =>
      obtain ⟨hk3, hi3⟩ := hp
      obtain ⟨hr, hl4, hd4, hb4⟩ := fin none W3 hk3
      exact ⟨_, _, hr, .inl ⟨rfl, ⟨hI _ _ _ hi3 (wider2 (keep_putObj _ _ _)), hl4, hd4⟩, hb4⟩⟩
    | ret =>
      obtain ⟨hk3, hi3⟩ := hp
      obtain ⟨hr, hl4, hd4, hb4⟩ := fin (some .ret) W3 hk3
      exact ⟨_, _, hr, .inr ⟨rfl, .ret, hIx _ _ _ _ hi3 (wider2 (keep_putObj _ _ _)), hl4, hd4⟩⟩
    | exit id =>
      obtain ⟨hk3, hi3⟩ := hp
      obtain ⟨hr, hl4, hd4, hb4⟩ := fin (some (.exit id)) W3 hk3
      exact ⟨_, _, hr, .inr ⟨rfl, .exit id, hIx _ _ _ _ hi3 (wider2 (keep_putObj _ _ _)), hl4, hd4⟩⟩
    | goto t =>
      obtain ⟨hk3, hi3⟩ := hp
      obtain ⟨hr, hl4, hd4, hb4⟩ := fin (some (.goto t)) W3 hk3
      exact ⟨_, _, hr, .inr ⟨rfl, .goto t, hIx _ _ _ _ hi3 (wider2 (keep_putObj _ _ _)), hl4, hd4⟩⟩
    | panic ch => exact hp.elim
    | outgrown => exact hp.elim
  · rintro e W2 ⟨⟨v, rfl⟩, (⟨hi, hl, hk⟩ | ⟨pre, x, post, hxs, c, hi, hl, hk⟩)⟩
    · exact ⟨none, _, by have := run_endLoop (P := P) hl (by rw [hrec]; simp); rw [hrec] at this; exact this, hdone _ (hI _ _ _ hi (wider2 (keep_putObj _ _ _))) ((World.putObj_heap_other (by omega)).trans hk)⟩
    · exact ⟨some c, _, by have := run_endLoop (P := P) hl (by rw [hrec]; simp); rw [hrec] at this; exact this, hstop c pre post x _ hxs (hIx _ _ _ _ hi (wider2 (keep_putObj _ _ _))) ((World.putObj_heap_other (by omega)).trans hk)⟩
end Go.Proofs.YtnmgaponnfjciaaDoor
