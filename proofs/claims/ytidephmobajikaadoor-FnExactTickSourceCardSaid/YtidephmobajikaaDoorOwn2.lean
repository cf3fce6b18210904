/- Appending to owned slices; copies whose elements are copied one by one; parts of slices. Plain: no program in sight. -/
import Derived.Test.YtidephmobajikaaDoorOwn
import Derived.Deep.AppendLies
import Derived.OwnWalk
namespace Go.Proofs.YtidephmobajikaaDoor
open Go.RowKit

/-- every cell holds one cell's value -/
def One {α : Type} (E : Elem α) : Prop := ∀ {w cs x F}, E.rep w cs x F → ∀ u ∈ cs, u.oneCell' = true
theorem one_EInt : One EInt := fun h u hu => by obtain ⟨rfl, _⟩ := h; simp at hu; subst hu; rfl
theorem one_EBool : One EBool := fun h u hu => by obtain ⟨rfl, _⟩ := h; simp at hu; subst hu; rfl
theorem one_EStr : One EStr := fun h u hu => by obtain ⟨rfl, _⟩ := h; simp at hu; subst hu; rfl
theorem one_slice (a : Option Addr) (n c : Nat) : (Value.slice a n c).oneCell' = true := rfl
theorem Sl.one {α : Type} {E : Elem α} {w v} {xs : List α} {F} (h : Sl E w v xs F) : v.oneCell' = true := by obtain ⟨a, c, rfl, _⟩ := h; rfl
theorem Ow.one {α : Type} {E : Elem α} {t w v} {xs : List α} {F} (h : Ow E t w v xs F) : v.oneCell' = true := by obtain ⟨a, c, rfl⟩ := h.slice; rfl
theorem one_ESl {α : Type} (E : Elem α) (hz : 0 < E.sz) : One (ESl E hz) := fun h u hu => by obtain ⟨v, rfl, h⟩ := h; simp at hu; subst hu; exact h.one
theorem one_OSl {α : Type} (E : Elem α) (t : TypeId) : One (OSl E t) := fun h u hu => by obtain ⟨v, rfl, h⟩ := h; simp at hu; subst hu; exact h.one
theorem Flat.one' {α : Type} {E : Elem α} (hE : One E) {w : World} : ∀ {xs : List α} {cs : List Value} {G : List Nat}, Flat E w cs xs G → ∀ u ∈ cs, u.oneCell' = true
  | [], _, _, h => by simp [h.1]
  | x :: r, _, _, h => by
    obtain ⟨c1, c2, F1, F2, rfl, rfl, h1, h2⟩ := h
    intro u hu
    rcases List.mem_append.1 hu with hu | hu
    · exact hE h1 u hu
    · exact h2.one' hE u hu
/-- cells that read, as one row -/
theorem Cells.flat {α : Type} {E : Elem α} {w : World} {b : Nat} : ∀ {xs : List α} {off : Nat} {F : List Nat}, Cells E w b off xs F → ∃ cs, Flat E w cs xs F ∧ ∀ j u, cs[j]? = some u → w.cell? ⟨b, off + j, none⟩ = some u
  | [], off, _, h => ⟨[], ⟨rfl, h⟩, fun j u hu => by simp at hu⟩
  | x :: r, off, _, h => by
    obtain ⟨c1, F1, F2, rfl, h1, hc, h2⟩ := h
    obtain ⟨c2, hf, hc2⟩ := h2.flat
    have hl := E.len h1
    refine ⟨c1 ++ c2, ⟨c1, c2, F1, F2, rfl, rfl, h1, hf⟩, fun j u hu => ?_⟩
    rcases Nat.lt_or_ge j c1.length with hj | hj
    · rw [List.getElem?_append_left hj] at hu
      rw [hc j (by omega)]; exact hu
    · rw [List.getElem?_append_right hj] at hu
      have := hc2 _ _ hu
      rw [← this]; congr 2; omega
theorem Flat.cells {α : Type} {E : Elem α} {w : World} {b : Nat} : ∀ {xs : List α} {cs : List Value} {off : Nat} {F : List Nat}, Flat E w cs xs F → (∀ j u, cs[j]? = some u → w.cell? ⟨b, off + j, none⟩ = some u) → Cells E w b off xs F
  | [], _, off, _, h, _ => h.2
  | x :: r, _, off, _, h, hc => by
    obtain ⟨c1, c2, F1, F2, rfl, rfl, h1, h2⟩ := h
    have hl := E.len h1
    refine ⟨c1, F1, F2, rfl, h1, fun j hj => ?_, h2.cells fun j u hu => ?_⟩
    · have : j < c1.length := by omega
      rw [List.getElem?_eq_getElem this]
      exact hc j _ (by rw [List.getElem?_append_left this, List.getElem?_eq_getElem this])
    · have := hc (c1.length + j) u (by rw [List.getElem?_append_right (by omega), show c1.length + j - c1.length = j by omega]; exact hu)
      rw [← this]; congr 2; omega

/-- the head's block is not among the others -/
def Hd (F : List Nat) : Prop := ∀ g G, F = g :: G → g ∉ G
theorem Hd.of {F : List Nat} (h : F.Nodup) : Hd F := fun g G e => by subst e; simp at h; exact h.1
theorem Ow.owns {α : Type} {E : Elem α} {t w v} {xs : List α} {F} (h : Ow E t w v xs F) : ∃ cs G, w.ownsRow 0 t E.sz v xs.length cs ∧ Flat E w cs xs G ∧ F = v.ownBlock.toList ++ G := by
  rcases h with ⟨rfl, rfl, rfl⟩ | ⟨g, cap, cs, rest, G, rfl, hr, h1, h2, h3, hf, rfl⟩
  · exact ⟨[], [], ⟨by simp, .inl ⟨rfl, rfl⟩⟩, ⟨rfl, rfl⟩, rfl⟩
  · refine ⟨cs, G, ⟨hf.len, .inr ⟨g, cap, (cs ++ rest).toArray, rfl, Nat.zero_le _, hr, h1, h2, by simp [h3], ?_⟩⟩, hf, rfl⟩
    rw [← hf.len]; simp
theorem Ow.ofOwns {α : Type} {E : Elem α} {t w v n} {cs : List Value} {xs : List α} {G} (h : w.ownsRow 0 t E.sz v n cs) (hf : Flat E w cs xs G) (hn : n = xs.length) : Ow E t w v xs (v.ownBlock.toList ++ G) := by
  subst hn
  obtain ⟨hl, h⟩ := h
  rcases h with ⟨rfl, h0⟩ | ⟨g, cap, cur, rfl, _, hg, h1, h2, h3, h4⟩
  · have : xs = [] := List.eq_nil_of_length_eq_zero h0
    subst this
    exact .inl ⟨rfl, rfl, by rw [hf.2]; rfl⟩
  · refine .inr ⟨g, cap, cs, cur.toList.drop cs.length, G, rfl, ?_, h1, h2, ?_, hf, rfl⟩
    · have : cs ++ cur.toList.drop cs.length = cur.toList := by
        rw [hl, ← h4]; simp
      rw [this]; exact hg
    · rw [← h3]; simp; rw [hl]; have := Nat.mul_le_mul_right E.sz h1; omega
theorem ownBlock_lt {w : World} {t v n sz} {cs : List Value} (h : w.ownsRow 0 t sz v n cs) : ∀ b, v.ownBlock = some b → b < w.heap.size := by
  intro b hb
  rcases h.2 with ⟨rfl, _⟩ | ⟨g, cap, cur, rfl, _, hg, _⟩
  · cases hb
  · cases hb
    rcases Nat.lt_or_ge g w.heap.size with hlt | hge
    · exact hlt
    · rw [Array.getElem?_eq_none hge] at hg; cases hg

section
variable {P : Program} {α : Type} {E : Elem α}
/-- what an append brings -/
structure Apd (E : Elem α) (e : TypeId) (w : World) (v : Value) (xs ys : List α) (F Fy : List Nat) (v' : Value) (w' : World) (F' : List Nat) : Prop where
  ow : Ow E e w' v' (xs ++ ys) F'
  hd : Hd F'
  nodup : F.Nodup → Fy.Nodup → (∀ b ∈ Fy, b ∉ F) → F'.Nodup
  mem : ∀ b ∈ F', b ∈ F ∨ b ∈ Fy ∨ b = w.heap.size
  keep : Keep F w w'
  keep1 : Keep v.ownBlock.toList w w'
  val : ∃ a cap, v' = .slice a (xs.length + ys.length) cap
  same : v'.ownBlock = v.ownBlock ∨ v'.ownBlock = some w.heap.size
  form : ∀ Gx, F = v.ownBlock.toList ++ Gx → F' = v'.ownBlock.toList ++ (Gx ++ Fy)
theorem apd_of {e : TypeId} {w : World} {v : Value} {xs ys : List α} {F Fy : List Nat} {v' w'} {cs news G} (hown : w.ownsRow 0 e E.sz v xs.length cs) (hf : Flat E w cs xs G) (hF : F = v.ownBlock.toList ++ G) (hd : Hd F)
    (hfy : Flat E w news ys Fy) (hdis : ∀ b ∈ Fy, v.ownBlock ≠ some b) (h' : w'.ownsRow 0 e E.sz v' (xs.length + ys.length) (cs ++ news)) (hg : w.grownBy w' v.ownBlock)
    (hb : v'.ownBlock = v.ownBlock ∨ v'.ownBlock = some w.heap.size) (hs : ∃ a cap, v' = .slice a (xs.length + ys.length) cap) : ∃ F', Apd E e w v xs ys F Fy v' w' F' := by
  have hGn : ∀ b ∈ G, v.ownBlock ≠ some b := fun b hb e => by
    rw [e] at hF; exact hd b G hF hb
  have hfr : ∀ b, b < w.heap.size → v.ownBlock ≠ some b → w'.heap[b]? = w.heap[b]? := fun b hb hn => hg.block b hb (fun e => hn e.symm)
  have hfl : Flat E w' (cs ++ news) (xs ++ ys) (G ++ Fy) := (hf.frame fun b hb => hfr b (hf.lt b hb) (hGn b hb)).append (hfy.frame fun b hb => hfr b (hfy.lt b hb) (hdis b hb))
  have hvl := ownBlock_lt hown
  have hhead : ∀ g, v'.ownBlock = some g → g ∉ G ∧ g ∉ Fy := fun g e => by
    rcases hb with hb | hb
    · rw [hb] at e; exact ⟨fun hm => hGn g hm e, fun hm => hdis g hm e⟩
    · rw [hb] at e; cases e
      exact ⟨fun hm => Nat.lt_irrefl _ (hf.lt _ hm), fun hm => Nat.lt_irrefl _ (hfy.lt _ hm)⟩
  refine ⟨v'.ownBlock.toList ++ (G ++ Fy), Ow.ofOwns h' hfl (by simp), ?_, ?_, ?_, ?_, ⟨hg.os, hg.tape, hg.output, hg.size, fun k hk hm => hfr k hk fun e => hm (by rw [e]; simp)⟩, hs, hb, fun Gx e => by rw [hF] at e; rw [List.append_cancel_left e]⟩
  · intro g G' e
    cases hv : v'.ownBlock with
    | none =>
      have hxy : xs ++ ys = [] := by
        rcases h'.2 with ⟨rfl, h0⟩ | ⟨g, cap, cur, rfl, _⟩
        · exact List.eq_nil_of_length_eq_zero (by rw [List.length_append]; omega)
        · simp [Value.ownBlock] at hv
      rw [hxy] at hfl; rw [hfl.2, hv] at e; simp at e
    | some g2 =>
      rw [hv] at e; simp at e; obtain ⟨rfl, rfl⟩ := e
      have := hhead g2 hv; simp [this]
  · intro h1 h2 h3
    subst hF
    have hn : (G ++ Fy).Nodup := by
      rw [List.nodup_append] at h1 ⊢
      exact ⟨h1.2.1, h2, fun a ha b hb e => h3 b hb (by rw [← e]; simp [ha])⟩
    cases hv : v'.ownBlock with
    | none => simpa using hn
    | some g2 => have := hhead g2 hv; simp only [Option.toList_some, List.singleton_append, List.nodup_cons, List.mem_append]; exact ⟨by simp [this], hn⟩
  · intro b hm
    simp at hm
    rcases hm with hm | hm | hm
    · rcases hb with hb | hb
      · rw [hb] at hm; left; rw [hF]; simp [hm]
      · rw [hb] at hm; cases hm; simp
    · left; rw [hF]; simp [hm]
    · simp [hm]
  · exact ⟨hg.os, hg.tape, hg.output, hg.size, fun k hk hm => hfr k hk fun e => hm (by rw [hF, e]; simp)⟩
theorem wp_apd (hone : One E) (hsz : 0 < E.sz) {o : Oper} {a : Act} {K : Act → World → Prop} {Q : Exit → Act → World → Prop} {w : World} (s x : Operand) (t : TypeId)
    (ho : o.op = .call { callee := .builtin .append, args := #[s, x], argTypes := #[t, t] }) (e : TypeId) (z : Value) (bytes : Nat) (ht : P.underlying t = some (.slice e))
    (hinfo : (P.info? e).map (fun i => (i.zero, i.size, i.bytes)) = some (some z, E.sz, bytes)) (hzs : z.cells.size = E.sz)
    (v : Value) (xs : List α) (F : List Nat) (hs : a.eval s = v) (hown : Ow E e w v xs F) (hd : Hd F)
    (ao : Option Addr) (ys : List α) (c : Nat) (hx : a.eval x = .slice ao ys.length c) (news : List Value) (Fy : List Nat) (hfy : Flat E w news ys Fy)
    (hsrc : (ao = none ∧ c = 0 ∧ ys = []) ∨ ∃ ad, ao = some ad ∧ ∀ j u, news[j]? = some u → w.cell? (ad.add j) = some u)
    (hdis : ∀ b ∈ Fy, v.ownBlock ≠ some b) (h63 : xs.length + ys.length ≤ maxLen) (hbytes : (xs.length + ys.length) * bytes ≤ 140737488355328)
    (h : ∀ v' w' F', Apd E e w v xs ys F Fy v' w' F' → K (a.put o.dst v') w') : o.wp P a w K Q := by
  obtain ⟨i, hi, hzz⟩ := Option.map_eq_some_iff.1 hinfo
  simp only [Prod.mk.injEq] at hzz
  obtain ⟨hz, hsize, hby⟩ := hzz
  obtain ⟨cs, G, hrow, hf, hF⟩ := hown.owns
  rcases hsrc with ⟨rfl, rfl, rfl⟩ | ⟨ad, rfl, hnews⟩
  · have hn0 : news = [] := hfy.1
    subst hn0
    unfold Oper.wp execOp
    simp only [ho, resolve, invoke, builtin, Sem.run_bind, Sem.run_pure, Result.andThen_ok, List.map_toArray, List.map_cons, List.map_nil, hs, hx]
    have hrun := run_append_owned_none (P := P) w 0 t o.type e i E.sz ht hi _ xs.length cs hrow
    rw [show ([] : List α).length = 0 from rfl, hrun]
    obtain ⟨F', hA⟩ := apd_of (ys := []) hrow hf hF hd hfy hdis (by simpa using hrow) (World.grownBy.refl _ _) (.inl rfl) (by obtain ⟨a, c, rfl⟩ := hown.slice; exact ⟨a, c, by simp⟩)
    exact h _ _ _ hA
  · obtain ⟨v', w', hr, h2, h3, h4, h5⟩ := run_append_own_at (P := P) w 0 t o.type e i z E.sz bytes ht hi hz hsize hby hzs hsz v xs.length cs hrow ad ys.length c news hfy.len hnews (hfy.one' hone) h63 hbytes (Nat.zero_le _)
    unfold Oper.wp execOp
    simp only [ho, resolve, invoke, builtin, Sem.run_bind, Sem.run_pure, Result.andThen_ok, List.map_toArray, List.map_cons, List.map_nil, hs, hx, hr]
    have hs2 : ∃ a cap, v' = .slice a (xs.length + ys.length) cap := by
      rcases h2.2 with ⟨rfl, h0⟩ | ⟨g, cap, cur, rfl, _⟩
      · exact ⟨none, 0, by rw [h0]⟩
      · exact ⟨_, _, rfl⟩
    obtain ⟨F', hA⟩ := apd_of (ys := ys) hrow hf hF hd hfy hdis h2 h3 h5 hs2
    exact h _ _ _ hA
theorem wpList_apd (hone : One E) (hsz : 0 < E.sz) {ops : Array Oper} {rest : List Oper} {o : Oper} {a : Act} {Q : Exit → Act → World → Prop} {w : World} (hgd : o.guard = none) (s x : Operand) (t : TypeId)
    (ho : o.op = .call { callee := .builtin .append, args := #[s, x], argTypes := #[t, t] }) (e : TypeId) (z : Value) (bytes : Nat) (ht : P.underlying t = some (.slice e))
    (hinfo : (P.info? e).map (fun i => (i.zero, i.size, i.bytes)) = some (some z, E.sz, bytes)) (hzs : z.cells.size = E.sz)
    (v : Value) (xs : List α) (F : List Nat) (hs : a.eval s = v) (hown : Ow E e w v xs F) (hd : Hd F)
    (ao : Option Addr) (ys : List α) (c : Nat) (hx : a.eval x = .slice ao ys.length c) (news : List Value) (Fy : List Nat) (hfy : Flat E w news ys Fy)
    (hsrc : (ao = none ∧ c = 0 ∧ ys = []) ∨ ∃ ad, ao = some ad ∧ ∀ j u, news[j]? = some u → w.cell? (ad.add j) = some u)
    (hdis : ∀ b ∈ Fy, v.ownBlock ≠ some b) (h63 : xs.length + ys.length ≤ maxLen) (hbytes : (xs.length + ys.length) * bytes ≤ 140737488355328)
    (h : ∀ v' w' F', Apd E e w v xs ys F Fy v' w' F' → wpList P ops Q rest (a.put o.dst v') w') : wpList P ops Q (o :: rest) a w :=
  wpList_plain hgd fun _ hK => wp_apd hone hsz s x t ho e z bytes ht hinfo hzs v xs F hs hown hd ao ys c hx news Fy hfy hsrc hdis h63 hbytes fun v' w' F' hA => hK _ _ (h v' w' F' hA)
theorem step_apd (hone : One E) (hsz : 0 < E.sz) {ops : Array Oper} {o : Oper} {a : Act} {K : Act → World → Prop} {Q : Exit → Act → World → Prop} {Z : Prop} {w : World} (hgd : o.guard = none) (s x : Operand) (t : TypeId)
    (ho : o.op = .call { callee := .builtin .append, args := #[s, x], argTypes := #[t, t] }) (e : TypeId) (z : Value) (bytes : Nat) (ht : P.underlying t = some (.slice e))
    (hinfo : (P.info? e).map (fun i => (i.zero, i.size, i.bytes)) = some (some z, E.sz, bytes)) (hzs : z.cells.size = E.sz)
    (v : Value) (xs : List α) (F : List Nat) (hs : a.eval s = v) (hown : Ow E e w v xs F) (hd : Hd F)
    (ao : Option Addr) (ys : List α) (c : Nat) (hx : a.eval x = .slice ao ys.length c) (news : List Value) (Fy : List Nat) (hfy : Flat E w news ys Fy)
    (hsrc : (ao = none ∧ c = 0 ∧ ys = []) ∨ ∃ ad, ao = some ad ∧ ∀ j u, news[j]? = some u → w.cell? (ad.add j) = some u)
    (hdis : ∀ b ∈ Fy, v.ownBlock ≠ some b) (h63 : xs.length + ys.length ≤ maxLen) (hbytes : (xs.length + ys.length) * bytes ≤ 140737488355328)
    (h : ∀ v' w' F', Apd E e w v xs ys F Fy v' w' F' → K (a.put o.dst v') w') : if Region.wanted o (yielded ops a.tmps) = true then Oper.wp P o a w K Q else Z := by
  have hw : Region.wanted o (yielded ops a.tmps) = true := by simp [Region.wanted, hgd]
  rw [if_pos hw]
  exact wp_apd hone hsz s x t ho e z bytes ht hinfo hzs v xs F hs hown hd ao ys c hx news Fy hfy hsrc hdis h63 hbytes h
end

theorem Ow.own_mem {α : Type} {E : Elem α} {t w v} {xs : List α} {F} (h : Ow E t w v xs F) : ∀ b, v.ownBlock = some b → b ∈ F := fun b hb => by
  obtain ⟨cs, G, _, _, rfl⟩ := h.owns; simp [hb]
/-- a value that reads so; nothing that was there has turned -/
def RetR {α : Type} (E : Elem α) (x : α) (w : World) (e : Ending) (w' : World) : Prop :=
  ∃ v F, e = .returned v ∧ IsV E w' v x F ∧ (∀ b ∈ F, w.heap.size ≤ b) ∧ Below w.heap.size w w'
theorem IsV.weak {α : Type} {O R : Elem α} (h : Weak O R) {w v x F} (ho : IsV O w v x F) : ∃ F', (∀ b ∈ F', b ∈ F) ∧ IsV R w v x F' := by
  obtain ⟨cs, hv, hx⟩ := ho
  obtain ⟨F', h1, h2⟩ := h.rep hx
  exact ⟨F', h1, cs, hv, h2⟩
/-- an empty literal -/
theorem Ow.empty {α : Type} {E : Elem α} {t : TypeId} {w : World} {g : Nat} (h : Row w g t []) : Ow E t w (.slice (some ⟨g, 0, none⟩) 0 0) ([] : List α) [g] :=
  .inr ⟨g, 0, [], [], [], rfl, by simpa using h, by simp, by simp, by simp, ⟨rfl, rfl⟩, rfl⟩
theorem Hd.one (g : Nat) : Hd [g] := fun a G e => by cases e; simp
theorem Hd.nil : Hd [] := fun a G e => by cases e
/-- the source of an append out of a slice that reads -/
theorem Sl.src {α : Type} {E : Elem α} {w : World} {v : Value} {xs : List α} {F} (h : Sl E w v xs F) : ∃ ao c news Fy, v = .slice ao xs.length c ∧ xs.length ≤ maxLen ∧ Flat E w news xs Fy ∧ (∀ b ∈ Fy, b ∈ F) ∧
    ((ao = none ∧ c = 0 ∧ xs = []) ∨ ∃ ad, ao = some ad ∧ ∀ j u, news[j]? = some u → w.cell? (ad.add j) = some u) := by
  obtain ⟨a, cap, rfl, hl, ⟨rfl, rfl, h0⟩ | ⟨b, off, F', rfl, hne, rfl, hc⟩⟩ := h
  · refine ⟨a, cap, [], [], rfl, by simp, ⟨rfl, rfl⟩, by simp, ?_⟩
    cases a with
    | none => exact .inl ⟨rfl, h0 rfl, rfl⟩
    | some ad => exact .inr ⟨ad, rfl, fun j u hu => by simp at hu⟩
  · obtain ⟨cs, hf, hcs⟩ := hc.flat
    refine ⟨_, cap, cs, F', rfl, by omega, hf, fun b hb => by simp [hb], .inr ⟨_, rfl, fun j u hu => ?_⟩⟩
    rw [← hcs j u hu]
    unfold Addr.add; split <;> simp_all
/-- parts of a slice that reads -/
theorem Sl.takeS {α : Type} {E : Elem α} {w : World} {a : Option Addr} {n cap : Nat} {xs : List α} {F} (h : Sl E w (.slice a n cap) xs F) (k : Nat) (hk : k ≤ xs.length) : ∃ F', (∀ b ∈ F', b ∈ F) ∧ Sl E w (.slice a k cap) (xs.take k) F' := by
  obtain ⟨a', cap', hv, hl, h⟩ := h
  cases hv
  have hlen : (xs.take k).length = k := by simp; omega
  rcases h with ⟨rfl, rfl, h0⟩ | ⟨b, off, F', rfl, hne, rfl, hc⟩
  · simp at hk; subst hk; exact ⟨[], by simp, a, cap, by simp, ⟨by simp, hl.2⟩, .inl ⟨by simp, rfl, h0⟩⟩
  · by_cases hk0 : k = 0
    · subst hk0; exact ⟨[], by simp, some ⟨b, off, none⟩, cap, by simp, ⟨by simp, hl.2⟩, .inl ⟨by simp, rfl, fun e => by cases e⟩⟩
    · obtain ⟨cs, hf, hcs⟩ := hc.flat
      have e : xs = xs.take k ++ xs.drop k := by simp
      rw [e] at hf
      obtain ⟨c1, c2, G1, G2, rfl, rfl, h1, h2⟩ := hf.split
      refine ⟨b :: G1, by intro x hx; simp at hx ⊢; rcases hx with hx | hx <;> simp [hx], _, cap, by rw [hlen], by rw [hlen]; omega, .inr ⟨b, off, G1, rfl, fun e => by rw [e] at hlen; simp at hlen; omega, rfl, h1.cells fun j u hu => hcs j u ?_⟩⟩
      have hj : j < c1.length := by
        rcases Nat.lt_or_ge j c1.length with h | h
        · exact h
        · rw [List.getElem?_eq_none h] at hu; cases hu
      rw [List.getElem?_append_left hj]; exact hu
/-- no blocks behind the elements -/
def Scal {α : Type} (E : Elem α) : Prop := ∀ {w cs x F}, E.rep w cs x F → F = []
theorem scal_EInt : Scal EInt := fun h => h.2
theorem scal_EBool : Scal EBool := fun h => h.2
theorem scal_EStr : Scal EStr := fun h => h.2.2
theorem Flat.scal {α : Type} {E : Elem α} (hE : Scal E) {w : World} : ∀ {xs : List α} {cs : List Value} {G : List Nat}, Flat E w cs xs G → G = []
  | [], _, _, h => h.2
  | x :: r, _, _, h => by
    obtain ⟨c1, c2, F1, F2, rfl, rfl, h1, h2⟩ := h
    rw [hE h1, h2.scal hE]; rfl
theorem Ow.scal {α : Type} {E : Elem α} (hE : Scal E) {t w v} {xs : List α} {F} (h : Ow E t w v xs F) : F = v.ownBlock.toList := by
  obtain ⟨cs, G, _, hf, rfl⟩ := h.owns
  rw [hf.scal hE, List.append_nil]

/-- a copy of a slice, whose first k elements are owned, and whose others are read -/
def Mix {α : Type} (O R : Elem α) (t : TypeId) (B1 B0 : Nat) (w : World) (v : Value) (xs : List α) (k : Nat) : Prop :=
  (v = .slice none 0 0 ∧ xs = []) ∨ ∃ g cap c1 c2 rest F G, v = .slice (some ⟨g, 0, none⟩) xs.length cap ∧ Row w g t (c1 ++ c2 ++ rest) ∧ xs.length ≤ cap ∧ cap ≤ maxLen ∧ c1.length + c2.length + rest.length = cap * O.sz ∧
    Flat O w c1 (xs.take k) F ∧ Flat R w c2 (xs.drop k) G ∧ (g :: F).Nodup ∧ (∀ b ∈ g :: F, B0 ≤ b) ∧ ∀ b ∈ G, b < B1
section
variable {α : Type} {O R : Elem α} {t : TypeId} {B1 B0 : Nat} {w : World} {v : Value} {xs : List α}
theorem Mix.start (hsz : R.sz = O.sz) {F : List Nat} (h : Ow R t w v xs F) (h1 : ∀ b, v.ownBlock = some b → B0 ≤ b) (h2 : ∀ b ∈ F, v.ownBlock = some b ∨ b < B1) (hd : Hd F) : Mix O R t B1 B0 w v xs 0 := by
  rcases h with ⟨rfl, rfl, _⟩ | ⟨g, cap, cs, rest, G, rfl, hr, h3, h4, h5, hf, rfl⟩
  · exact .inl ⟨rfl, rfl⟩
  · refine .inr ⟨g, cap, [], cs, rest, [], G, rfl, by simpa using hr, h3, h4, by simpa [← hsz] using h5, ⟨rfl, by simp⟩, by simpa using hf, by simp, by simpa using h1 g rfl, fun b hb => ?_⟩
    rcases h2 b (by simp [hb]) with e | e
    · cases e; exact absurd hb (hd g G rfl)
    · exact e
theorem Mix.done (h : Mix O R t B1 B0 w v xs xs.length) : ∃ F, Ow O t w v xs F ∧ F.Nodup ∧ ∀ b ∈ F, B0 ≤ b := by
  rcases h with ⟨rfl, rfl⟩ | ⟨g, cap, c1, c2, rest, F, G, rfl, hr, h3, h4, h5, hf, hf2, hn, hb, _⟩
  · exact ⟨[], .inl ⟨rfl, rfl, rfl⟩, by simp, by simp⟩
  · have : c2 = [] := by simp at hf2; exact hf2.1
    subst this
    exact ⟨g :: F, .inr ⟨g, cap, c1, rest, F, rfl, by simpa using hr, h3, h4, by simpa using h5, by simpa using hf, rfl⟩, hn, hb⟩
theorem Mix.frame {w' : World} {k : Nat} (h : Mix O R t B1 B0 w v xs k) (hb : ∀ b, b < w.heap.size → b < B1 ∨ B0 ≤ b → w'.heap[b]? = w.heap[b]?) : Mix O R t B1 B0 w' v xs k := by
  rcases h with h | ⟨g, cap, c1, c2, rest, F, G, hv, hr, h3, h4, h5, hf, hf2, hn, hb1, hb2⟩
  · exact .inl h
  · exact .inr ⟨g, cap, c1, c2, rest, F, G, hv, hr.keep (hb g hr.lt (.inr (hb1 g (by simp)))), h3, h4, h5, hf.frame fun b h => hb b (hf.lt b h) (.inr (hb1 b (by simp [h]))), hf2.frame fun b h => hb b (hf2.lt b h) (.inl (hb2 b h)), hn, hb1, hb2⟩
theorem Mix.setFar {k : Nat} (h : Mix O R t B1 B0 w v xs k) {p : Addr} (h1 : B1 ≤ p.block) (h2 : p.block < B0) (u : Value) : Mix O R t B1 B0 (w.setCell p u) v xs k :=
  h.frame fun b _ hb => Below.heap_setCell _ _ _ _ (by omega)
theorem Mix.below {w' : World} {k : Nat} (h : Mix O R t B1 B0 w v xs k) (hb : Below w.heap.size w w') : Mix O R t B1 B0 w' v xs k := h.frame fun b h _ => hb.block b h
theorem Mix.slice {k : Nat} (h : Mix O R t B1 B0 w v xs k) : ∃ a cap, v = .slice a xs.length cap := by
  rcases h with ⟨rfl, rfl⟩ | ⟨g, cap, c1, c2, rest, F, G, rfl, _⟩
  · exact ⟨none, 0, rfl⟩
  · exact ⟨_, _, rfl⟩
theorem Mix.at {k : Nat} (h : Mix O R t B1 B0 w v xs k) (hsz : R.sz = O.sz) (hk : k < xs.length) (hB : B0 ≤ w.heap.size) (h01 : B1 ≤ B0) :
    ∃ g cap A c B Fk, v = .slice (some ⟨g, 0, none⟩) xs.length cap ∧ B0 ≤ g ∧ Row w g t (A ++ c ++ B) ∧ A.length = k * O.sz ∧ c.length = O.sz ∧ R.rep w c xs[k] Fk ∧ (∀ b ∈ Fk, b < B1) ∧
      ∀ w' c' F', Row w' g t (A ++ c' ++ B) → O.rep w' c' xs[k] F' → F'.Nodup → (∀ b ∈ F', w.heap.size ≤ b) → (∀ b, b < w.heap.size → b ≠ g → w'.heap[b]? = w.heap[b]?) → Mix O R t B1 B0 w' v xs (k + 1) := by
  rcases h with ⟨_, rfl⟩ | ⟨g, cap, c1, c2, rest, F, G, rfl, hr, h3, h4, h5, hf, hf2, hn, hb1, hb2⟩
  · simp at hk
  · rw [List.drop_eq_getElem_cons hk] at hf2
    obtain ⟨c, c3, G1, G2, rfl, rfl, h6, h7⟩ := hf2
    have hc1 : c1.length = k * O.sz := by rw [hf.len, List.length_take, Nat.min_eq_left (by omega)]
    have hlc := R.len h6
    refine ⟨g, cap, c1, c, c3 ++ rest, G1, rfl, hb1 g (by simp), by simpa using hr, hc1, by rw [← hsz]; exact hlc, h6, fun b hb => hb2 b (by simp [hb]), fun w' c' F' hr' h8 hn' hF' hk' => ?_⟩
    have hlc' := O.len h8
    have hne : ∀ b ∈ F ++ G2, b < w.heap.size ∧ b ≠ g := fun b hb => by
      rcases List.mem_append.1 hb with hb | hb
      · refine ⟨hf.lt b hb, fun e => ?_⟩
        subst e; simp at hn; exact hn.1 hb
      · have := hb2 b (by simp [hb]); have := hb1 g (by simp); exact ⟨by omega, by omega⟩
    refine .inr ⟨g, cap, c1 ++ c', c3, rest, F ++ F', G2, rfl, by simpa using hr', h3, h4, ?_, ?_, ?_, ?_, ?_, fun b hb => hb2 b (by simp [hb])⟩
    · simp only [List.length_append] at h5 ⊢; omega
    · rw [List.take_succ_eq_append_getElem hk]
      exact (hf.frame fun b hb => hk' b (hne b (by simp [hb])).1 (hne b (by simp [hb])).2).append (Flat.one h8)
    · exact h7.frame fun b hb => hk' b (hne b (by simp [hb])).1 (hne b (by simp [hb])).2
    · have hg := hr.lt
      simp only [List.nodup_cons, List.mem_append, not_or, List.nodup_append] at hn ⊢
      exact ⟨⟨hn.1, fun hm => by have := hF' g hm; omega⟩, hn.2, hn', fun a ha b hb e => by have := hf.lt a ha; have := hF' b hb; omega⟩
    · intro b hb
      simp at hb
      rcases hb with rfl | hb | hb
      · exact hb1 b (by simp)
      · exact hb1 b (by simp [hb])
      · have := hF' b hb; omega
end
end Go.Proofs.YtidephmobajikaaDoor
