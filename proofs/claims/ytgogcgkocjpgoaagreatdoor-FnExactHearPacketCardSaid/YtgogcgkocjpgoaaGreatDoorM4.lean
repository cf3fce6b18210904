/- Part 4 of the proof: 6 texts, one behind the other. -/
import Derived.ProofKit
import Derived.OpenShut
import Derived.Test.YtgogcgkocjpgoaaGreatDoorCards
import Derived.Test.YtgogcgkocjpgoaaGreatDoorTie
import Derived.LaidMore
import Derived.Lay
import Derived.SevenTiedAt
import Derived.Stop.Joined
import Derived.Test.YtgogcgkocjpgoaaGreatDoorM3
/- What every law's proof shares: the step from 'returns true, and nothing that was there has turned' to the row's post; how arguments read. -/
namespace Go.Proofs.YtgogcgkocjpgoaaGreatDoor
open Go.ChangeShapes Go.WideShapes Go.ChangeAt Go.RowKit

theorem trodAll_below {H : Type} {enc : TypeId × Value → H} {P : Program} (hl : laidOutB P = true) {W W' : World} (hb : Below W.heap.size W W') :
    ∀ (ts : List TypeId) (vs : List Value) (ds : List (DataW H)) (ps : List MemPlace), (∀ t ∈ ts, P.readableRec t = true ∧ t < P.types.size) →
      DataW.TrodAll enc P W 0 (fun _ => true) true ts vs ds ps → (∀ x ∈ ps, x.block < W.heap.size) → DataW.TrodAll enc P W' 0 (fun b => decide (b < W.heap.size)) true ts vs ds ps
  | [], vs, ds, ps, _, h, _ => by obtain ⟨rfl, rfl, rfl⟩ := trodAll_nil h; exact rfl
  | t :: ts, vs, ds, ps, ht, h, hlt => by
    obtain ⟨v, vs', d, ds', p, q, rfl, rfl, rfl, h1, h2⟩ := trodAll_cons h
    have ⟨a, b⟩ := ht t (by simp)
    exact ⟨p, q, Below.trod hl a b h1 hb fun x hx => hlt x (by simp [hx]), trodAll_below hl hb ts vs' ds' q (fun t h => ht t (by simp [h])) h2 fun x hx => hlt x (by simp [hx]), rfl⟩

/-- A law returned true and left all that was there aS it was: the row's post. -/
theorem law_post {H : Type} {enc : TypeId × Value → H} {P : Program} {f : Func} {s : ChangeSpec} {tb : TypeId} (hl : laidOutB P = true) (hr : ∀ t ∈ f.params.toList, P.readableRec t = true ∧ t < P.types.size)
    (hb : P.underlying tb = some .bool) (hres : f.resultTypes = #[tb]) (hv : s.vars = []) {W W' : World} {args : Array Value} {ds gs : List (DataW H)} {before : List MemPlace}
    (hs : s.fn H ds = { results := [.lit (.bool true)], args := ds }) (hW : DataW.Whole enc P f.params.toList s.vars false W args.toList ds gs before) (hB : Below W.heap.size W W') :
    s.post enc P f false true false false W args (.bool true) W' := by
  have hlt := hW.lt
  have hW0 := hW
  obtain ⟨p, q, hA, hV, rfl, _, _⟩ := hW0
  rw [hv] at hV
  obtain ⟨rfl, rfl⟩ := trodVars_none hV
  refine ⟨ds, [], p ++ [], [], p, [], hW, ?_, ?_, ?_, hB.frame _, fun h => by cases h⟩
  · rw [List.append_nil, hs, hres]
    exact trodAll_mk1 (shut_bool hb true)
  · rw [List.append_nil, hs]
    exact trodAll_below hl hB _ _ _ _ hr hA fun x hx => hlt x (by simpa using hx)
  · rw [hv, List.append_nil, hs]; exact rfl

/-- what reads aS data at type t reads by E -/
def Reads (P : Program) {α : Type} (E : Elem α) (t : TypeId) : Prop :=
  ∀ {H : Type} {enc : TypeId × Value → H} {w : World} {fuel : Nat} {cs : List Value} {x : DataW H × List MemPlace}, DataW.trod enc P w 0 (fun _ => true) true fuel t cs = some x → ∃ y F, E.rep w cs y F

section
variable {P : Program}
theorem reads_int {t : TypeId} (ht : P.underlying t = some (.int .i64)) : Reads P EInt t := fun h => by
  obtain ⟨n, rfl, _, _⟩ := DataW.trod_int ht h; exact ⟨n, [], rfl, rfl⟩
theorem reads_str {t : TypeId} (ht : P.underlying t = some .string) : Reads P EStr t := fun h => by
  obtain ⟨s, rfl, _, hs⟩ := DataW.trod_string ht h; exact ⟨s, [], rfl, hs, rfl⟩
theorem reads_bool {t : TypeId} (ht : P.underlying t = some .bool) : Reads P EBool t := fun {_ _ _ fuel _ _} h => by
  cases fuel with
  | zero => simp [DataW.trod] at h
  | succ n =>
    unfold DataW.trod at h
    rw [ht] at h
    split at h <;> simp_all
    all_goals simp [EBool]
theorem reads_cells {α : Type} {E : Elem α} {e : TypeId} (hsz : P.cellsOf e = E.sz) (he : Reads P E e) {H : Type} {enc : TypeId × Value → H} {w : World} {n b off : Nat} :
    ∀ (els : List (DataW H × List MemPlace)) (k : Nat), (∀ i, i < els.length → (w.cells? 0 ((⟨b, off, none⟩ : Addr).add ((k + i) * P.cellsOf e)) (P.cellsOf e)).bind (DataW.trod enc P w 0 (fun _ => true) true n e) = els[i]?) →
      ∃ ys F, ys.length = els.length ∧ Cells E w b (off + k * E.sz) ys F
  | [], _, _ => ⟨[], [], rfl, rfl⟩
  | x :: r, k, h => by
    have h0 := h 0 (by simp)
    simp only [Nat.add_zero, List.getElem?_cons_zero, Option.bind_eq_some_iff] at h0
    obtain ⟨cs, hc, hx⟩ := h0
    obtain ⟨y, F1, hy⟩ := he hx
    obtain ⟨ys, F2, hl, hys⟩ := reads_cells hsz he r (k + 1) fun i hi => by
      have := h (i + 1) (by simpa using hi)
      rw [show k + 1 + i = k + (i + 1) by omega]
      simpa using this
    refine ⟨y :: ys, F1 ++ F2, by simp [hl], cs, F1, F2, rfl, hy, fun j hj => ?_, by rwa [show off + k * E.sz + E.sz = off + (k + 1) * E.sz by rw [Nat.add_mul]; omega]⟩
    obtain ⟨_, hlen, hcell⟩ := World.cells?_some hc
    rw [← hcell j (by rw [hsz]; exact hj)]
    congr 1
    simp only [Addr.add, hsz]
    split <;> split <;> simp_all <;> omega
theorem reads_slice {α : Type} {E : Elem α} {t e : TypeId} (ht : P.underlying t = some (.slice e)) (hsz : P.cellsOf e = E.sz) (hz : 0 < E.sz) (he : Reads P E e) : Reads P (ESl E hz) t := fun h => by
  rcases DataW.trod_slice ht h with ⟨rfl, _⟩ | ⟨a, len, cap, elems, rest, n, rfl, rfl, _, _, hlc, hcm, hlen, hel, _, _⟩
  · exact ⟨[], [], _, rfl, none, 0, rfl, ⟨by simp, by simp⟩, .inl ⟨rfl, rfl, fun _ => rfl⟩⟩
  · by_cases h0 : len = 0
    · subst h0
      exact ⟨[], [], _, rfl, some a, cap, rfl, ⟨by simp, by omega⟩, .inl ⟨rfl, rfl, fun e => by cases e⟩⟩
    · have hs : a = ⟨a.block, a.off, none⟩ := by
        have := hel 0 (by omega)
        rw [List.getElem?_eq_getElem (by omega)] at this
        simp only [Option.bind_eq_some_iff] at this
        obtain ⟨cs, hc, _⟩ := this
        obtain ⟨_, hl2, hcell⟩ := World.cells?_some hc
        have h1 := hcell 0 (by omega)
        rw [List.getElem?_eq_getElem (by omega)] at h1
        simp [Addr.add, World.cell?] at h1
        split at h1 <;> simp_all
        cases a; simp_all
      obtain ⟨ys, F, hyl, hys⟩ := reads_cells hsz he elems 0 (n := n) (b := a.block) (off := a.off) (enc := _) (w := _) (by
        rw [← hs]; intro i hi; rw [Nat.zero_add]; exact hel i (by omega))
      refine ⟨ys, a.block :: F, _, rfl, some a, cap, by rw [hyl, hlen], ⟨by omega, by omega⟩, .inr ⟨a.block, a.off, F, by rw [← hs], ?_, rfl, by simpa using hys⟩⟩
      intro e; rw [e] at hyl; simp at hyl; omega
end

/-- the fields of a struct, one behind the other, each by its own reading -/
inductive FieldsOk (P : Program) : List Field → Nat → (α : Type) → Elem α → Prop
  | nil (off : Nat) : FieldsOk P [] off Unit EUnit
  | cons {f : Field} {r : List Field} {off : Nat} {α β : Type} {A : Elem α} {B : Elem β} (ho : f.offset = off) (hc : P.cellsOf f.type = A.sz) (hA : Reads P A f.type) (h : FieldsOk P r (off + A.sz) β B) : FieldsOk P (f :: r) off (α × β) (EProd A B)
theorem fields_read {P : Program} {H : Type} {enc : TypeId × Value → H} {w : World} {n : Nat} {cs : List Value} {fs : List Field} {off : Nat} {α : Type} {E : Elem α} (h : FieldsOk P fs off α E) :
    (∀ f ∈ fs, ∃ x, DataW.trod enc P w 0 (fun _ => true) true n f.type ((cs.drop f.offset).take (P.cellsOf f.type)) = some x) → off + E.sz = cs.length → ∃ y F, E.rep w (cs.drop off) y F := by
  induction h with
  | nil off => intro _ hl; exact ⟨(), [], List.drop_of_length_le (by simp [EUnit] at hl; omega), rfl⟩
  | @cons f r off α β A B ho hc hA _ ih =>
    intro hf hl
    obtain ⟨x, hx⟩ := hf f (by simp)
    obtain ⟨y, F1, hy⟩ := hA hx
    obtain ⟨y2, F2, hy2⟩ := ih (fun f h => hf f (by simp [h])) (by simp only [EProd] at hl; omega)
    subst ho
    exact ⟨(y, y2), F1 ++ F2, _, _, F1, F2, by rw [hc, ← List.drop_drop, List.take_append_drop], rfl, hy, hy2⟩
theorem reads_struct {P : Program} {t : TypeId} {fs : Array Field} {α : Type} {E : Elem α} (ht : P.underlying t = some (.struct fs)) (hC : P.cellsOf t = E.sz) (h : FieldsOk P fs.toList 0 α E) : Reads P E t := fun hh => by
  obtain ⟨xs, n, rfl, _, hcl, hxl, hx⟩ := DataW.trod_struct ht hh
  have := fields_read (enc := _) (w := _) (n := n) h (fun f hf => by
    obtain ⟨i, hi, rfl⟩ := List.getElem_of_mem hf
    have := hx i fs.toList[i] (by simp)
    rw [List.getElem?_eq_getElem (by simpa [hxl] using hi)] at this
    exact ⟨_, this⟩) (by rw [hcl, hC]; simp)
  simpa using this
end Go.Proofs.YtgogcgkocjpgoaaGreatDoor
/- What the walks of the exact laws need: structs by their cells as wholes, contracts of made values, marks. -/
namespace Go.Proofs.YtgogcgkocjpgoaaGreatDoor
open Go.RowKit
section
variable {c : Cx} {fr : Fr} {H H0 : List Pc} {k : List It} {Φ : Gl} {X : List Nat} {ops : Array Oper} {f : Nat} {listed : Array Bool} {d : Nat} {o : Op} {ty : TypeId} {v u : Value} {x y : Operand}
theorem t_weakV {α : Type} {O R : Elem α} (hW : Weak O R) {v : Value} {x : α} {F : List Nat} {S : List Pc} (h : ∀ F', T c fr (.isv R v x F' :: S) Φ) (hp : Pick H (.own O v x F) S := by (repeat (first | exact .here | apply Pick.there)); first | done | fail) : T c fr H Φ := .mk fun a w s g => by
  have s1 := s.pick hp
  obtain ⟨-, ho⟩ := s1.on (.own O v x F) (by simp)
  obtain ⟨F', hF, hs⟩ := IsV.weak hW ho
  exact (h F').h a w (s1.conv rfl hs hF) g
theorem t_weakL {α : Type} {O R : Elem α} (hW : Weak O R) {t : TypeId} {v : Value} {xs : List α} {F : List Nat} {S : List Pc} (h : ∀ F', T c fr (.sl R v xs F' :: S) Φ) (hp : Pick H (.ow O t v xs F) S := by (repeat (first | exact .here | apply Pick.there)); first | done | fail) (hz : 0 < R.sz := by decide) : T c fr H Φ := .mk fun a w s g => by
  have s1 := s.pick hp
  obtain ⟨-, ho⟩ := s1.on (.ow O t v xs F) (by simp)
  obtain ⟨F', hF, hs⟩ := ho.sl hW
  exact (h F').h a w (s1.conv rfl ⟨hz, hs⟩ hF) g
/-- a struct's value is its cells -/
theorem t_aggI {α : Type} {E : Elem α} {v : Value} {x : α} {F : List Nat} (one : One E) (h : ∀ cs : List Value, v = .agg cs.toArray → cs.length = E.sz → cs.all (·.oneCell') = true → T c fr H Φ) (hm : .isv E v x F ∈ H := by (repeat (first | exact .head _ | apply List.Mem.tail)); first | done | fail) : T c fr H Φ := .mk fun a w s g => by
  obtain ⟨cs, hv, hx⟩ := s.get hm
  exact (h cs hv (E.len hx) (List.all_eq_true.2 fun u hu => one hx u hu)).h a w s g
theorem t_aggO {α : Type} {E : Elem α} {v : Value} {x : α} {F : List Nat} (one : One E) (h : ∀ cs : List Value, v = .agg cs.toArray → cs.length = E.sz → cs.all (·.oneCell') = true → T c fr H Φ) (hm : .own E v x F ∈ H := by (repeat (first | exact .head _ | apply List.Mem.tail)); first | done | fail) : T c fr H Φ := .mk fun a w s g => by
  obtain ⟨-, cs, hv, hx⟩ := s.get hm
  exact (h cs hv (E.len hx) (List.all_eq_true.2 fun u hu => one hx u hu)).h a w s g
theorem Put.all : ∀ {zs l : List Value}, zs.length = l.length → Put zs 0 l l
  | [], [], _ => .zero
  | [], _ :: _, h => by simp at h
  | _ :: _, [], h => by simp at h
  | _ :: zs, _ :: l, h => .one (Put.all (by simpa using h))
/-- all of a box -/
theorem yd_ldw {P : Program} {n : Nat} {H : List Pc} {t g o tt m : Nat} {A cs B : List Value} [AggC P t m] (hx : ev fr x = some (ptr g o 0)) (hm : Pc.row g tt o A cs B ∈ H) (hl : cs.length = m) : Yd P n fr H (.load t x) ty (.agg cs.toArray) := yd_lda hx hm (hl ▸ Cut.whole cs)
/-- a call that makes values -/
theorem cm {f : Nat} {vs : List Value} {σ : Type} {C : σ → Prop} {vv : σ → Value} {N : σ → List Pc} (hc : ∀ w, St c.G c.D c.w0 H w → Calls c.P f vs.toArray w fun e w' => ∃ s, C s ∧ e = .returned (vv s) ∧ Hol (N s) w' ∧ (fp (N s)).Nodup ∧ (∀ b ∈ fp (N s), w.heap.size ≤ b) ∧ Below w.heap.size w w')
    (h : ∀ s, C s → T c ((d, vv s) :: fr) (N s ++ H) Φ) : Cl c fr H d f vs Φ :=
  cl_of hc (fun w e w' s hR => by
    obtain ⟨z, hz, he, hN, hn, hF, hB⟩ := hR
    have sep : ∀ {N : List Pc}, (fp N).Nodup → Sep N := by
      intro N
      induction N with
      | nil => intro _; trivial
      | cons p N ih =>
        intro h
        rw [fp, List.nodup_append] at h
        exact ⟨fun q hq _ b hb hq2 => h.2.2 b hb b (mem_fp.2 ⟨q, hq, hq2⟩) rfl, ih h.2.1⟩
    exact ⟨_, he, fun ac g => (h z hz).h ac w' (s.add (N := N z) hB hN (sep hn) (fun p hp b hb => .inl (hF b (mem_fp.2 ⟨p, hp, hb⟩)))) g⟩)
theorem d_startA {id : Nat} {l : List Oper} (X : List Nat) (h : T c fr H (.dx k H X l.toArray l.length (Array.replicate l.length false))) (hm : c.P.follows .mixedOrders = true := by kernel_rfl) : T c fr H (.code k (Code.region id l.toArray true)) := .mk fun a w s g => by
  refine AnyX.start (S := Hol H) (X := fun i => X.contains i) hm ?_
  have := h.h a w.drew (s.below (belowDrewN (Below.refl _ _) 1)) g
  simpa [Gl.sem] using this
theorem c_joinA {x : Code} {σ : Type} {cst : Fr} (ks : List Nat) (upd : σ → Fr) (chg : σ → List Pc) (C : σ → Prop) (h : T c fr H (.code (.lp (Jn c (fun s => upd s ++ cst) (fun s => chg s ++ H) C) :: k) x)) (h2 : ∀ s, C s → T c (upd s ++ cst) (chg s ++ H) (.norm k)) (_hk : Kf fr ks cst := by repeat (first | exact Kf.nil | apply Kf.cons (by rfl))) : T c fr H (.code k x) :=
  c_join _ _ C h h2
/-- what is behind a box that is stored into -/
theorem o_stw {t g tt m : Nat} {cs l : List Value} {S : List Pc} (hx : ev fr x = some (ptr g 0 0)) (hy : ev fr y = some (.agg l.toArray)) (hs : (c.P.info? t).map (·.size) = some m) (hr : Rpl H (.row g tt 0 [] cs []) (.row g tt 0 [] l []) S) (hl : l.length = m) (hc : cs.length = m) (h1 : l.all (·.oneCell') = true) (h : T c fr S Φ) : On c fr H none (.store t x y) ty Φ :=
  o_st hx hy rfl hs hl hr (Put.all (by omega)) h1 h
end
/-! contracts, with what they ask read off pieces -/
theorem ex1 {α : Type} {A : α → Prop} {C : Prop} (f : ∀ a, A a → C) : (∃ a, A a) → C := fun ⟨a, h⟩ => f a h
theorem ex2 {α β : Type} {A : α → Prop} {B : β → Prop} {C : Prop} (f : ∀ a b, A a → B b → C) : (∃ a, A a) → (∃ b, B b) → C := fun ⟨a, h⟩ ⟨b, h2⟩ => f a b h h2
section
variable {G D : List Nat} {w0 w : World} {H : List Pc}
theorem St.rI {α : Type} {E : Elem α} {v : Value} {x : α} {F : List Nat} (s : St G D w0 H w) (hm : .isv E v x F ∈ H := by (repeat (first | exact .head _ | apply List.Mem.tail)); first | done | fail) : ∃ F', IsV E w v x F' := ⟨F, s.get hm⟩
theorem St.rO {α : Type} {O R : Elem α} (hW : Weak O R) {v : Value} {x : α} {F : List Nat} (s : St G D w0 H w) (hm : .own O v x F ∈ H := by (repeat (first | exact .head _ | apply List.Mem.tail)); first | done | fail) : ∃ F', IsV R w v x F' := by
  obtain ⟨-, ho⟩ := s.get hm
  obtain ⟨F', -, h⟩ := IsV.weak hW ho
  exact ⟨F', h⟩
theorem St.rS {α : Type} {E : Elem α} {v : Value} {xs : List α} {F : List Nat} (s : St G D w0 H w) (hm : .sl E v xs F ∈ H := by (repeat (first | exact .head _ | apply List.Mem.tail)); first | done | fail) : ∃ F', Sl E w v xs F' := ⟨F, (s.get hm).2⟩
theorem St.rL {α : Type} {O R : Elem α} (hW : Weak O R) {t : TypeId} {v : Value} {xs : List α} {F : List Nat} (s : St G D w0 H w) (hm : .ow O t v xs F ∈ H := by (repeat (first | exact .head _ | apply List.Mem.tail)); first | done | fail) : ∃ F', Sl R w v xs F' := by
  obtain ⟨-, ho⟩ := s.get hm
  obtain ⟨F', -, h⟩ := ho.sl hW
  exact ⟨F', h⟩
end
theorem fn_markV {P : Program} {α : Type} {O : Elem α} {f : FuncId} {v : Value} {x x' : α} {F : List Nat} {k m : Int} (h : ∀ w, IsV O w v x F → F.Nodup → Calls P f #[v, .int .i64 k] w (RetMarkV O v m x' F w)) : Fn P f [v, .int .i64 k] [] [.own O v x F] (fun (_ : Unit) => True) (fun _ => .int .i64 m) (fun _ => [.own O v x' F]) := fun w hH _ => by
  obtain ⟨hn, ho⟩ := hH (.own O v x F) (by simp)
  refine (h w ho hn).mono ?_
  rintro e w' ⟨he, h1, h2⟩
  refine ⟨(), trivial, he, hol1 ⟨hn, h1⟩, ⟨by simp, trivial⟩, by simpa [fp, Pc.F] using h2, fun p hp b hb => ?_⟩
  rw [List.mem_singleton] at hp; subst hp
  exact .inr (.inl ⟨_, List.mem_singleton.2 rfl, hb⟩)
theorem fn_markL {P : Program} {α : Type} {O : Elem α} {t : TypeId} {f : FuncId} {v : Value} {x x' : List α} {F : List Nat} {k m : Int} (h : ∀ w, Ow O t w v x F → F.Nodup → Calls P f #[v, .int .i64 k] w (RetMark O t v m x' F w)) : Fn P f [v, .int .i64 k] [] [.ow O t v x F] (fun (_ : Unit) => True) (fun _ => .int .i64 m) (fun _ => [.ow O t v x' F]) := fun w hH _ => by
  obtain ⟨hn, ho⟩ := hH (.ow O t v x F) (by simp)
  refine (h w ho hn).mono ?_
  rintro e w' ⟨he, h1, h2⟩
  refine ⟨(), trivial, he, hol1 ⟨hn, h1⟩, ⟨by simp, trivial⟩, by simpa [fp, Pc.F] using h2, fun p hp b hb => ?_⟩
  rw [List.mem_singleton] at hp; subst hp
  exact .inr (.inl ⟨_, List.mem_singleton.2 rfl, hb⟩)
end Go.Proofs.YtgogcgkocjpgoaaGreatDoor
/- The steps of the exact laws' walks, as one word. -/
namespace Go.Proofs.YtgogcgkocjpgoaaGreatDoor
open Go.RowKit
/-- the steps of an exact law -/
theorem goL {X : Prop} {c : Cx} {fr : Fr} {H : List Pc} {Φ : Gl} (h : X) (hs : Kp X → T c fr H Φ := by intro hX; (repeat (first | apply c_seq | apply c_reg | (apply wO; apply oc; rfl; exact ydE) | (apply wO; apply oc; rfl; apply yd_ldw; rfl; exact memE; assumption) | apply w_nil | apply n_cd | (apply wg_t; rfl; rfl) | (apply wg_f; rfl; rfl; rfl; rfl) | (apply wg_u; rfl; rfl; rfl) | (apply c_t; rfl) | (apply c_f; rfl) | apply c_skip | apply c_block | apply n_blk | apply c_exit | apply e_hit | apply e_cd | apply e_lp | (apply e_miss; rfl) | apply c_ret | (apply wO; apply o_boxX; rfl; rfl; rfl; exact hX; clear hX; intro _ hX) | (apply wO; apply o_allocX; rfl; exact hX; clear hX; intro _ hX) | (apply wO; apply o_st; rfl; rfl; rfl; (first | exact AggC.s | exact OneC.s); rfl; exact rplE; exact putE; rfl) | (apply wO; apply o_stw; rfl; rfl; exact AggC.s; exact rplE; assumption; rfl; assumption) | (apply wO; apply o_call; rfl; kernel_rfl; exact evsE) | (refine c_if rfl (fun h => absurd h (by first | omega | simp)) (fun h => ?_); clear h) | (refine wg_if rfl rfl (fun h => absurd h (by first | omega | simp)) (fun h => ?_); clear h))); exact hX.h) : T c fr H Φ := hs ⟨h⟩
end Go.Proofs.YtgogcgkocjpgoaaGreatDoor
/- The walk of the law FnExactHearPacket. Written by wip/genlaw2.py. -/
namespace Go.Proofs.YtgogcgkocjpgoaaGreatDoor
open Go.RowKit
structure JHearPacket where
  g0 : Nat
  L0 : List Value
  F0 : List Nat
  u1 : Value
  F1 : List Nat
set_option maxHeartbeats 4000000 in
set_option maxRecDepth 100000 in
theorem law_HearPacket_f (v0 : Value) (x0 : Receiver) (F0 : List Nat) (v1 : Value) (x1 : Packet) (F1 : List Nat) (x2 : Int) : Fn Tryz.prog 5 [v0, v1, .int .i64 x2] [.isv EReceiver v0 x0 F0, .isv EPacket v1 x1 F1] [] (fun (_ : Unit) => True) (fun _ => .bool true) (fun _ => []) := by
  refine enter Tryz.func5 rfl Tryz.ntmps5 fun w0 => ?_
  refine t_aggI (E := EReceiver) (v := v0) (x := x0) (F := F0) one_EReceiver ?_
  rintro ca0 rfl hla0 hoa0
  refine openPacket (v := v1) (x := x1) (F := F1) ?_
  rintro _ rfl hs1
  have hI := fun V0 F0 => HearPacket_f x0 x1 x2 V0 F0 hs1
  have hS := fun V0 F0 => specHearPacket_f x0 x1 x2 V0 F0 hs1
  have hV := resHearPacket_cv x0 x1 x2
  obtain ⟨r0, r1, r2, er⟩ : ∃ r0 r1 r2, resHearPacket x0 x1 x2 = (r0, r1, r2) := ⟨_, _, _, rfl⟩
  rw [er] at hI hS hV
  dsimp only at hI hS hV
  refine goL ?_; intros
  refine cb (fun w st => ex1 (fun F h => szReceiver_c _ x0 F (1048576) w h (by omega) (by omega)) st.rI) ?_
  rcases szr_or (1048576) (wtReceiver x0) with ⟨e1, l1⟩ | ⟨e1, l1⟩
  · rw [e1]
    refine goL ?_; intros
    refine ret () trivial rfl
  rw [e1]
  clear e1
  have hw0 : wtReceiver x0 ≤ 1048576 := by omega
  refine goL ?_; intros
  refine cb (fun w st => ex1 (fun F h => szPacket_c _ x1 F (1048576 - (wtReceiver x0)) w h (by omega) (by omega)) st.rI) ?_
  rcases szr_or (1048576 - (wtReceiver x0)) (wtPacket x1) with ⟨e1, l1⟩ | ⟨e1, l1⟩
  · rw [e1]
    refine goL ?_; intros
    refine ret () trivial rfl
  rw [e1]
  clear e1
  have hw1 : wtPacket x1 ≤ 1048576 := by omega
  have hc0 := cvReceiver_wt x0 hw0
  obtain ⟨hV0, hV1⟩ := hV hw0 hw1
  refine goL ?_; intros
  refine c_joinA [2, 3, 4, 6] (fun s : JHearPacket => [(8, ptr s.g0 0 0), (9, s.u1), (10, .bool r2)]) (fun s => [.row s.g0 49 0 [] s.L0 [], .isv EReceiver (.agg s.L0.toArray) r0 s.F0, .sl EStr s.u1 r1 s.F1]) (fun _ => True) ?_ fun s _ => ?_
  · refine goL ?_; intros
    refine d_startA [] ?_
    refine dt 0 ?_ (hy := (by first | exact ydE | exact yd_ldw rfl (by exact memE) (by assumption)))
    refine dt 2 ?_ (hy := (by first | exact ydE | exact yd_ldw rfl (by exact memE) (by assumption)))
    refine dt 4 ?_
    refine dO2 1 10 (by kernel_rfl) (by rw [List.getElem?_toArray]; rfl) (by rw [List.getElem?_toArray]; rfl) ?_ ?_
    · apply o_call; rfl; kernel_rfl; exact evsE
      refine cv (fun w st => ex1 (fun F h => toReceiver_c _ x0 F w h hw0) st.rI) fun y0 K0 => ?_
      refine t_weakV weak_Receiver fun K0 => ?_
      refine dk ?_
      refine dO2 3 10 (by kernel_rfl) (by rw [List.getElem?_toArray]; rfl) (by rw [List.getElem?_toArray]; rfl) ?_ ?_
      · apply o_call; rfl; kernel_rfl; exact evsE
        refine cv (fun w st => ex1 (fun F h => toPacket_c _ x1 F w h hw1) st.rI) fun y1 K1 => ?_
        refine t_weakV (Weak.refl EPacket) fun K1 => ?_
        refine openPacket (x := x1) (F := K1) ?_
        rintro _ rfl -
        refine dk ?_
        refine dO2 5 10 (by kernel_rfl) (by rw [List.getElem?_toArray]; rfl) (by rw [List.getElem?_toArray]; rfl) ?_ ?_
        · apply o_call; rfl; kernel_rfl; exact evsE
          refine cf (hS _ _) fun z hz => ?_
          refine t_app ?_
          refine t_weakL (Weak.refl _) (xs := r1) fun Z1 => ?_
          refine dk ?_
          refine dt 6 ?_
          refine dt 7 ?_
          refine dt 8 ?_
          refine dt 9 ?_
          refine dO 10 (by kernel_rfl) (by rw [List.getElem?_toArray]; rfl) ?_
          apply o_alloc; rfl; intro _
          refine dk ?_
          refine dO 11 (by kernel_rfl) (by rw [List.getElem?_toArray]; rfl) ?_
          apply o_st; rfl; rfl; rfl; (first | exact AggC.s | exact OneC.s); rfl; exact rplE; exact putE; rfl
          refine dk ?_
          refine dt 12 ?_
          refine dt 13 ?_
          refine dd ?_
          refine goL ?_; intros
          refine n_join (⟨_, _, _, _, _⟩ : JHearPacket) trivial
        · apply o_alloc; rfl; intro _
          refine dk ?_
          refine dO 5 (by kernel_rfl) (by rw [List.getElem?_toArray]; rfl) ?_
          apply o_call; rfl; kernel_rfl; exact evsE
          refine cf (hS _ _) fun z hz => ?_
          refine t_app ?_
          refine t_weakL (Weak.refl _) (xs := r1) fun Z1 => ?_
          refine dk ?_
          refine dt 6 ?_
          refine dt 7 ?_
          refine dt 8 ?_
          refine dt 9 ?_
          refine dO 11 (by kernel_rfl) (by rw [List.getElem?_toArray]; rfl) ?_
          apply o_st; rfl; rfl; rfl; (first | exact AggC.s | exact OneC.s); rfl; exact rplE; exact putE; rfl
          refine dk ?_
          refine dt 12 ?_
          refine dt 13 ?_
          refine dd ?_
          refine goL ?_; intros
          refine n_join (⟨_, _, _, _, _⟩ : JHearPacket) trivial
      · apply o_alloc; rfl; intro _
        refine dk ?_
        refine dO 3 (by kernel_rfl) (by rw [List.getElem?_toArray]; rfl) ?_
        apply o_call; rfl; kernel_rfl; exact evsE
        refine cv (fun w st => ex1 (fun F h => toPacket_c _ x1 F w h hw1) st.rI) fun y1 K1 => ?_
        refine t_weakV (Weak.refl EPacket) fun K1 => ?_
        refine openPacket (x := x1) (F := K1) ?_
        rintro _ rfl -
        refine dk ?_
        refine dO 5 (by kernel_rfl) (by rw [List.getElem?_toArray]; rfl) ?_
        apply o_call; rfl; kernel_rfl; exact evsE
        refine cf (hS _ _) fun z hz => ?_
        refine t_app ?_
        refine t_weakL (Weak.refl _) (xs := r1) fun Z1 => ?_
        refine dk ?_
        refine dt 6 ?_
        refine dt 7 ?_
        refine dt 8 ?_
        refine dt 9 ?_
        refine dO 11 (by kernel_rfl) (by rw [List.getElem?_toArray]; rfl) ?_
        apply o_st; rfl; rfl; rfl; (first | exact AggC.s | exact OneC.s); rfl; exact rplE; exact putE; rfl
        refine dk ?_
        refine dt 12 ?_
        refine dt 13 ?_
        refine dd ?_
        refine goL ?_; intros
        refine n_join (⟨_, _, _, _, _⟩ : JHearPacket) trivial
    · apply o_alloc; rfl; intro _
      refine dk ?_
      refine dO 1 (by kernel_rfl) (by rw [List.getElem?_toArray]; rfl) ?_
      apply o_call; rfl; kernel_rfl; exact evsE
      refine cv (fun w st => ex1 (fun F h => toReceiver_c _ x0 F w h hw0) st.rI) fun y0 K0 => ?_
      refine t_weakV weak_Receiver fun K0 => ?_
      refine dk ?_
      refine dO 3 (by kernel_rfl) (by rw [List.getElem?_toArray]; rfl) ?_
      apply o_call; rfl; kernel_rfl; exact evsE
      refine cv (fun w st => ex1 (fun F h => toPacket_c _ x1 F w h hw1) st.rI) fun y1 K1 => ?_
      refine t_weakV (Weak.refl EPacket) fun K1 => ?_
      refine openPacket (x := x1) (F := K1) ?_
      rintro _ rfl -
      refine dk ?_
      refine dO 5 (by kernel_rfl) (by rw [List.getElem?_toArray]; rfl) ?_
      apply o_call; rfl; kernel_rfl; exact evsE
      refine cf (hS _ _) fun z hz => ?_
      refine t_app ?_
      refine t_weakL (Weak.refl _) (xs := r1) fun Z1 => ?_
      refine dk ?_
      refine dt 6 ?_
      refine dt 7 ?_
      refine dt 8 ?_
      refine dt 9 ?_
      refine dO 11 (by kernel_rfl) (by rw [List.getElem?_toArray]; rfl) ?_
      apply o_st; rfl; rfl; rfl; (first | exact AggC.s | exact OneC.s); rfl; exact rplE; exact putE; rfl
      refine dk ?_
      refine dt 12 ?_
      refine dt 13 ?_
      refine dd ?_
      refine goL ?_; intros
      refine n_join (⟨_, _, _, _, _⟩ : JHearPacket) trivial
  obtain ⟨g0w, L0w, F0w, u1w, F1w⟩ := s
  dsimp only
  refine t_aggI (E := EReceiver) (x := r0) (F := F0w) one_EReceiver ?_
  rintro cs e hl ho
  obtain rfl : L0w = cs := by simpa using e
  clear e
  have hl0w := hl; have ho0w := ho; clear hl ho
  refine goL ?_; intros
  refine cv (fun w st => ex1 (fun F h => toReceiver_c _ x0 F w h hw0) st.rI) fun yv0 KX0 => ?_
  refine t_aggO (E := OReceiver) (x := x0) (F := KX0) one_OReceiver ?_
  rintro cx0 rfl hlx0 hox0
  refine goL ?_; intros
  refine c_joinA [2, 3, 4, 6, 8, 9, 10, 11] (fun s : JHearPacket => [(12, ptr s.g0 0 0), (13, s.u1), (14, .bool r2)]) (fun s => [.row s.g0 49 0 [] s.L0 [], .own OReceiver (.agg s.L0.toArray) r0 s.F0, .ow EStr 9 s.u1 r1 s.F1]) (fun _ => True) ?_ fun s _ => ?_
  · refine goL ?_; intros
    refine d_startA [] ?_
    refine dt 0 ?_ (hy := (by first | exact ydE | exact yd_ldw rfl (by exact memE) (by assumption)))
    refine dt 1 ?_ (hy := (by first | exact ydE | exact yd_ldw rfl (by exact memE) (by assumption)))
    refine dt 3 ?_
    refine dO2 2 9 (by kernel_rfl) (by rw [List.getElem?_toArray]; rfl) (by rw [List.getElem?_toArray]; rfl) ?_ ?_
    · apply o_call; rfl; kernel_rfl; exact evsE
      refine cv (fun w st => ex1 (fun F h => toPacket_c _ x1 F w h hw1) st.rI) fun y1 K1 => ?_
      refine t_weakV (Weak.refl EPacket) fun K1 => ?_
      refine openPacket (x := x1) (F := K1) ?_
      rintro _ rfl -
      refine dk ?_
      refine dO2 4 9 (by kernel_rfl) (by rw [List.getElem?_toArray]; rfl) (by rw [List.getElem?_toArray]; rfl) ?_ ?_
      · apply o_call; rfl; kernel_rfl; exact evsE
        refine cm (fun w st => ex1 (fun F h => (hI _ F).made w (hol1 h) (fun _ => rfl)) (st.rO weak_Receiver)) fun z hz => ?_
        refine t_app ?_
        refine dk ?_
        refine dt 5 ?_
        refine dt 6 ?_
        refine dt 7 ?_
        refine dt 8 ?_
        refine dO 9 (by kernel_rfl) (by rw [List.getElem?_toArray]; rfl) ?_
        apply o_alloc; rfl; intro _
        refine dk ?_
        refine dO 10 (by kernel_rfl) (by rw [List.getElem?_toArray]; rfl) ?_
        apply o_st; rfl; rfl; rfl; (first | exact AggC.s | exact OneC.s); rfl; exact rplE; exact putE; rfl
        refine dk ?_
        refine dt 11 ?_
        refine dt 12 ?_
        refine dd ?_
        refine goL ?_; intros
        refine n_join (⟨_, _, _, _, _⟩ : JHearPacket) trivial
      · apply o_alloc; rfl; intro _
        refine dk ?_
        refine dO 4 (by kernel_rfl) (by rw [List.getElem?_toArray]; rfl) ?_
        apply o_call; rfl; kernel_rfl; exact evsE
        refine cm (fun w st => ex1 (fun F h => (hI _ F).made w (hol1 h) (fun _ => rfl)) (st.rO weak_Receiver)) fun z hz => ?_
        refine t_app ?_
        refine dk ?_
        refine dt 5 ?_
        refine dt 6 ?_
        refine dt 7 ?_
        refine dt 8 ?_
        refine dO 10 (by kernel_rfl) (by rw [List.getElem?_toArray]; rfl) ?_
        apply o_st; rfl; rfl; rfl; (first | exact AggC.s | exact OneC.s); rfl; exact rplE; exact putE; rfl
        refine dk ?_
        refine dt 11 ?_
        refine dt 12 ?_
        refine dd ?_
        refine goL ?_; intros
        refine n_join (⟨_, _, _, _, _⟩ : JHearPacket) trivial
    · apply o_alloc; rfl; intro _
      refine dk ?_
      refine dO 2 (by kernel_rfl) (by rw [List.getElem?_toArray]; rfl) ?_
      apply o_call; rfl; kernel_rfl; exact evsE
      refine cv (fun w st => ex1 (fun F h => toPacket_c _ x1 F w h hw1) st.rI) fun y1 K1 => ?_
      refine t_weakV (Weak.refl EPacket) fun K1 => ?_
      refine openPacket (x := x1) (F := K1) ?_
      rintro _ rfl -
      refine dk ?_
      refine dO 4 (by kernel_rfl) (by rw [List.getElem?_toArray]; rfl) ?_
      apply o_call; rfl; kernel_rfl; exact evsE
      refine cm (fun w st => ex1 (fun F h => (hI _ F).made w (hol1 h) (fun _ => rfl)) (st.rO weak_Receiver)) fun z hz => ?_
      refine t_app ?_
      refine dk ?_
      refine dt 5 ?_
      refine dt 6 ?_
      refine dt 7 ?_
      refine dt 8 ?_
      refine dO 10 (by kernel_rfl) (by rw [List.getElem?_toArray]; rfl) ?_
      apply o_st; rfl; rfl; rfl; (first | exact AggC.s | exact OneC.s); rfl; exact rplE; exact putE; rfl
      refine dk ?_
      refine dt 11 ?_
      refine dt 12 ?_
      refine dd ?_
      refine goL ?_; intros
      refine n_join (⟨_, _, _, _, _⟩ : JHearPacket) trivial
  obtain ⟨g0g, L0g, F0g, u1g, F1g⟩ := s
  dsimp only
  refine t_aggO (E := OReceiver) (x := r0) (F := F0g) one_OReceiver ?_
  rintro cs e hl ho
  obtain rfl : L0g = cs := by simpa using e
  clear e
  have hl0g := hl; have ho0g := ho; clear hl ho
  refine goL ?_; intros
  refine cb (fun w st => ex2 (fun Fa Fb ha hb => eqReceiver_c _ _ r0 Fa Fb w ha hb) (st.rO weak_Receiver) st.rI) ?_
  refine goL ?_; intros
  refine cb (fun w st => ex2 (fun Fa Fb ha hb => eqStringS_c _ _ r1 Fa Fb w ha hb) (st.rL ((Weak.refl _))) st.rS) ?_
  refine goL ?_; intros
  refine d_startA [] ?_
  refine dt 0 ?_ (hy := (by first | exact ydE | exact yd_ldw rfl (by exact memE) (by assumption)))
  refine dt 1 ?_ (hy := (by first | exact ydE | exact yd_ldw rfl (by exact memE) (by assumption)))
  refine dO 2 (by kernel_rfl) (by rw [List.getElem?_toArray]; rfl) ?_
  apply o_call; rfl; kernel_rfl; exact evsE
  refine cv (fun w st => ex1 (fun F h => toReceiver_c _ x0 F w h hw0) st.rI) fun y0 K0 => ?_
  refine t_weakV weak_Receiver fun K0 => ?_
  refine dk ?_
  refine dO 3 (by kernel_rfl) (by rw [List.getElem?_toArray]; rfl) ?_
  apply o_call; rfl; kernel_rfl; exact evsE
  refine cb (fun w st => ex2 (fun Fa Fb ha hb => eqReceiver_c _ _ x0 Fa Fb w ha hb) (st.rO weak_Receiver) st.rI) ?_
  refine dk ?_
  refine dt 4 ?_
  refine dd ?_
  refine goL ?_; intros
  refine cf (fn_markV (fun w h hn => markReceiver_c _ x0 _ (1) w h hn (by omega) (by omega))) fun _ _ => ?_
  refine t_app ?_
  refine goL ?_; intros
  refine cb (fun w st => ex2 (fun Fa Fb ha hb => eqReceiver_c _ _ r0 Fa Fb w ha hb) (st.rO weak_Receiver) st.rI) ?_
  refine goL ?_; intros
  refine cb (fun w st => ex2 (fun Fa Fb ha hb => eqStringS_c _ _ r1 Fa Fb w ha hb) (st.rL ((Weak.refl _))) st.rS) ?_
  refine goL ?_; intros
  refine cf (fn_markV (fun w h hn => markReceiver_c _ r0 _ (1) w h hn (by omega) (by omega))) fun _ _ => ?_
  refine t_app ?_
  refine goL ?_; intros
  refine cf (fn_markL (fun w h hn => markStringS_c _ r1 _ (1 + cvReceiver r0) w h hn (by omega) (by omega))) fun _ _ => ?_
  refine t_app ?_
  refine goL ?_; intros
  refine cb (fun w st => ex1 (fun F h => heldReceiver_c _ r0 F (1) w h (by omega) (by omega)) (st.rO weak_Receiver)) ?_
  refine goL ?_; intros
  refine cb (fun w st => ex1 (fun F h => heldStringS_c _ r1 F (1 + cvReceiver r0) w h (by omega) (by omega)) (st.rL ((Weak.refl _)))) ?_
  refine goL ?_; intros
  refine c_joinA [6, 8, 9, 10, 12, 13, 16, 17] (fun s : JHearPacket => [(18, ptr s.g0 0 0), (19, s.u1), (20, .bool r2)]) (fun s => [.row s.g0 49 0 [] s.L0 [], .own OReceiver (.agg s.L0.toArray) r0 s.F0, .ow EStr 9 s.u1 r1 s.F1]) (fun _ => True) ?_ fun s _ => ?_
  · refine goL ?_; intros
    refine d_startA [] ?_
    refine dt 0 ?_ (hy := (by first | exact ydE | exact yd_ldw rfl (by exact memE) (by assumption)))
    refine dt 2 ?_ (hy := (by first | exact ydE | exact yd_ldw rfl (by exact memE) (by assumption)))
    refine dt 4 ?_
    refine dO2 1 10 (by kernel_rfl) (by rw [List.getElem?_toArray]; rfl) (by rw [List.getElem?_toArray]; rfl) ?_ ?_
    · apply o_call; rfl; kernel_rfl; exact evsE
      refine cv (fun w st => ex1 (fun F h => toReceiver_c _ x0 F w h hw0) st.rI) fun y0 K0 => ?_
      refine t_weakV weak_Receiver fun K0 => ?_
      refine dk ?_
      refine dO2 3 10 (by kernel_rfl) (by rw [List.getElem?_toArray]; rfl) (by rw [List.getElem?_toArray]; rfl) ?_ ?_
      · apply o_call; rfl; kernel_rfl; exact evsE
        refine cv (fun w st => ex1 (fun F h => toPacket_c _ x1 F w h hw1) st.rI) fun y1 K1 => ?_
        refine t_weakV (Weak.refl EPacket) fun K1 => ?_
        refine openPacket (x := x1) (F := K1) ?_
        rintro _ rfl -
        refine dk ?_
        refine dO2 5 10 (by kernel_rfl) (by rw [List.getElem?_toArray]; rfl) (by rw [List.getElem?_toArray]; rfl) ?_ ?_
        · apply o_call; rfl; kernel_rfl; exact evsE
          refine cm (fun w st => ex1 (fun F h => (hI _ F).made w (hol1 h) (fun _ => rfl)) (st.rI)) fun z hz => ?_
          refine t_app ?_
          refine dk ?_
          refine dt 6 ?_
          refine dt 7 ?_
          refine dt 8 ?_
          refine dt 9 ?_
          refine dO 10 (by kernel_rfl) (by rw [List.getElem?_toArray]; rfl) ?_
          apply o_alloc; rfl; intro _
          refine dk ?_
          refine dO 11 (by kernel_rfl) (by rw [List.getElem?_toArray]; rfl) ?_
          apply o_st; rfl; rfl; rfl; (first | exact AggC.s | exact OneC.s); rfl; exact rplE; exact putE; rfl
          refine dk ?_
          refine dt 12 ?_
          refine dt 13 ?_
          refine dd ?_
          refine goL ?_; intros
          refine n_join (⟨_, _, _, _, _⟩ : JHearPacket) trivial
        · apply o_alloc; rfl; intro _
          refine dk ?_
          refine dO 5 (by kernel_rfl) (by rw [List.getElem?_toArray]; rfl) ?_
          apply o_call; rfl; kernel_rfl; exact evsE
          refine cm (fun w st => ex1 (fun F h => (hI _ F).made w (hol1 h) (fun _ => rfl)) (st.rI)) fun z hz => ?_
          refine t_app ?_
          refine dk ?_
          refine dt 6 ?_
          refine dt 7 ?_
          refine dt 8 ?_
          refine dt 9 ?_
          refine dO 11 (by kernel_rfl) (by rw [List.getElem?_toArray]; rfl) ?_
          apply o_st; rfl; rfl; rfl; (first | exact AggC.s | exact OneC.s); rfl; exact rplE; exact putE; rfl
          refine dk ?_
          refine dt 12 ?_
          refine dt 13 ?_
          refine dd ?_
          refine goL ?_; intros
          refine n_join (⟨_, _, _, _, _⟩ : JHearPacket) trivial
      · apply o_alloc; rfl; intro _
        refine dk ?_
        refine dO 3 (by kernel_rfl) (by rw [List.getElem?_toArray]; rfl) ?_
        apply o_call; rfl; kernel_rfl; exact evsE
        refine cv (fun w st => ex1 (fun F h => toPacket_c _ x1 F w h hw1) st.rI) fun y1 K1 => ?_
        refine t_weakV (Weak.refl EPacket) fun K1 => ?_
        refine openPacket (x := x1) (F := K1) ?_
        rintro _ rfl -
        refine dk ?_
        refine dO 5 (by kernel_rfl) (by rw [List.getElem?_toArray]; rfl) ?_
        apply o_call; rfl; kernel_rfl; exact evsE
        refine cm (fun w st => ex1 (fun F h => (hI _ F).made w (hol1 h) (fun _ => rfl)) (st.rI)) fun z hz => ?_
        refine t_app ?_
        refine dk ?_
        refine dt 6 ?_
        refine dt 7 ?_
        refine dt 8 ?_
        refine dt 9 ?_
        refine dO 11 (by kernel_rfl) (by rw [List.getElem?_toArray]; rfl) ?_
        apply o_st; rfl; rfl; rfl; (first | exact AggC.s | exact OneC.s); rfl; exact rplE; exact putE; rfl
        refine dk ?_
        refine dt 12 ?_
        refine dt 13 ?_
        refine dd ?_
        refine goL ?_; intros
        refine n_join (⟨_, _, _, _, _⟩ : JHearPacket) trivial
    · apply o_alloc; rfl; intro _
      refine dk ?_
      refine dO 1 (by kernel_rfl) (by rw [List.getElem?_toArray]; rfl) ?_
      apply o_call; rfl; kernel_rfl; exact evsE
      refine cv (fun w st => ex1 (fun F h => toReceiver_c _ x0 F w h hw0) st.rI) fun y0 K0 => ?_
      refine t_weakV weak_Receiver fun K0 => ?_
      refine dk ?_
      refine dO 3 (by kernel_rfl) (by rw [List.getElem?_toArray]; rfl) ?_
      apply o_call; rfl; kernel_rfl; exact evsE
      refine cv (fun w st => ex1 (fun F h => toPacket_c _ x1 F w h hw1) st.rI) fun y1 K1 => ?_
      refine t_weakV (Weak.refl EPacket) fun K1 => ?_
      refine openPacket (x := x1) (F := K1) ?_
      rintro _ rfl -
      refine dk ?_
      refine dO 5 (by kernel_rfl) (by rw [List.getElem?_toArray]; rfl) ?_
      apply o_call; rfl; kernel_rfl; exact evsE
      refine cm (fun w st => ex1 (fun F h => (hI _ F).made w (hol1 h) (fun _ => rfl)) (st.rI)) fun z hz => ?_
      refine t_app ?_
      refine dk ?_
      refine dt 6 ?_
      refine dt 7 ?_
      refine dt 8 ?_
      refine dt 9 ?_
      refine dO 11 (by kernel_rfl) (by rw [List.getElem?_toArray]; rfl) ?_
      apply o_st; rfl; rfl; rfl; (first | exact AggC.s | exact OneC.s); rfl; exact rplE; exact putE; rfl
      refine dk ?_
      refine dt 12 ?_
      refine dt 13 ?_
      refine dd ?_
      refine goL ?_; intros
      refine n_join (⟨_, _, _, _, _⟩ : JHearPacket) trivial
  obtain ⟨g0h, L0h, F0h, u1h, F1h⟩ := s
  dsimp only
  refine t_aggO (E := OReceiver) (x := r0) (F := F0h) one_OReceiver ?_
  rintro cs e hl ho
  obtain rfl : L0h = cs := by simpa using e
  clear e
  have hl0h := hl; have ho0h := ho; clear hl ho
  refine goL ?_; intros
  refine cb (fun w st => ex2 (fun Fa Fb ha hb => eqReceiver_c _ _ r0 Fa Fb w ha hb) (st.rO weak_Receiver) st.rI) ?_
  refine goL ?_; intros
  refine cb (fun w st => ex2 (fun Fa Fb ha hb => eqStringS_c _ _ r1 Fa Fb w ha hb) (st.rL ((Weak.refl _))) st.rS) ?_
  refine goL ?_; intros
  refine cb (fun w st => ex1 (fun F h => heldReceiver_c _ r0 F (1) w h (by omega) (by omega)) (st.rO weak_Receiver)) ?_
  refine goL ?_; intros
  refine cb (fun w st => ex1 (fun F h => heldStringS_c _ r1 F (1 + cvReceiver r0) w h (by omega) (by omega)) (st.rL ((Weak.refl _)))) ?_
  refine goL ?_; intros
  refine ret () trivial rfl
theorem law_HearPacket (v0 : Value) (x0 : Receiver) (F0 : List Nat) (v1 : Value) (x1 : Packet) (F1 : List Nat) (x2 : Int) (w : World) (h0 : IsV EReceiver w v0 x0 F0) (h1 : IsV EPacket w v1 x1 F1) :
    Calls Tryz.prog 5 #[v0, v1, .int .i64 x2] w fun e' w' => e' = .returned (.bool true) ∧ Below w.heap.size w w' := (law_HearPacket_f v0 x0 F0 v1 x1 F1 x2).val w (hol2 (h0) (h1))
end Go.Proofs.YtgogcgkocjpgoaaGreatDoor
/- The law FnExactHearPacket, lifted. Written by wip/genlaw.py. -/
namespace Go.Proofs.YtgogcgkocjpgoaaGreatDoor
open Go.RowKit Go.ChangeShapes Go.WideShapes Go.ChangeAt
theorem reads_Slot : Reads Tryz.prog ESlot 234 := fun hh => by
  obtain ⟨y, F, hy⟩ := reads_struct (E := (EProd EBool (EProd EStr EUnit))) Tryz.underlying234 (by kernel_rfl) (.cons rfl (by kernel_rfl) (reads_bool Tryz.underlying4) (.cons rfl (by kernel_rfl) (reads_str Tryz.underlying9) (.nil _))) hh
  obtain ⟨_, _, _, _, rfl, rfl, ⟨rfl, rfl⟩, ⟨_, _, _, _, rfl, rfl, ⟨rfl, s1, rfl⟩, ⟨rfl, rfl⟩⟩⟩ := hy
  exact ⟨⟨y.1, y.2.1⟩, [], rfl, s1, rfl⟩
theorem reads_ReceiveWindow : Reads Tryz.prog EReceiveWindow 39 := fun hh => by
  obtain ⟨y, F, hy⟩ := reads_struct (E := (EProd EInt (EProd (ESl ESlot (by decide)) EUnit))) Tryz.underlying39 (by kernel_rfl) (.cons rfl (by kernel_rfl) (reads_int Tryz.underlying3) (.cons rfl (by kernel_rfl) (reads_slice Tryz.underlying37 (by kernel_rfl) (by decide) reads_Slot) (.nil _))) hh
  obtain ⟨_, _, _, _, rfl, rfl, ⟨rfl, rfl⟩, ⟨_, _, _, _, rfl, rfl, ⟨u1, rfl, hs1⟩, ⟨rfl, rfl⟩⟩⟩ := hy
  exact ⟨⟨y.1, y.2.1⟩, _, u1, rfl, by simpa using hs1⟩
theorem reads_Request : Reads Tryz.prog ERequest 196 := fun hh => by
  obtain ⟨y, F, hy⟩ := reads_struct (E := (EProd EInt (EProd EInt (EProd EInt (EProd EInt EUnit))))) Tryz.underlying196 (by kernel_rfl) (.cons rfl (by kernel_rfl) (reads_int Tryz.underlying3) (.cons rfl (by kernel_rfl) (reads_int Tryz.underlying3) (.cons rfl (by kernel_rfl) (reads_int Tryz.underlying3) (.cons rfl (by kernel_rfl) (reads_int Tryz.underlying3) (.nil _))))) hh
  obtain ⟨_, _, _, _, rfl, rfl, ⟨rfl, rfl⟩, ⟨_, _, _, _, rfl, rfl, ⟨rfl, rfl⟩, ⟨_, _, _, _, rfl, rfl, ⟨rfl, rfl⟩, ⟨_, _, _, _, rfl, rfl, ⟨rfl, rfl⟩, ⟨rfl, rfl⟩⟩⟩⟩⟩ := hy
  exact ⟨⟨y.1, y.2.1, y.2.2.1, y.2.2.2.1⟩, [], rfl, rfl⟩
theorem reads_Receiver : Reads Tryz.prog EReceiver 42 := fun hh => by
  obtain ⟨y, F, hy⟩ := reads_struct (E := (EProd EBool (EProd EInt (EProd EReceiveWindow (EProd (ESl ERequest (by decide)) EUnit))))) Tryz.underlying42 (by kernel_rfl) (.cons rfl (by kernel_rfl) (reads_bool Tryz.underlying4) (.cons rfl (by kernel_rfl) (reads_int Tryz.underlying3) (.cons rfl (by kernel_rfl) reads_ReceiveWindow (.cons rfl (by kernel_rfl) (reads_slice Tryz.underlying40 (by kernel_rfl) (by decide) reads_Request) (.nil _))))) hh
  obtain ⟨_, _, _, _, rfl, rfl, ⟨rfl, rfl⟩, ⟨_, _, _, _, rfl, rfl, ⟨rfl, rfl⟩, ⟨_, _, _, _, rfl, rfl, ⟨u2_0, rfl, hs2_0⟩, ⟨_, _, _, _, rfl, rfl, ⟨u3, rfl, hs3⟩, ⟨rfl, rfl⟩⟩⟩⟩⟩ := hy
  exact ⟨⟨y.1, y.2.1, y.2.2.1, y.2.2.2.1⟩, _, u2_0, u3, _, _, rfl, hs2_0, hs3, rfl⟩
theorem reads_Packet : Reads Tryz.prog EPacket 63 := fun hh => by
  obtain ⟨y, F, hy⟩ := reads_struct (E := (EProd EInt (EProd EInt (EProd EInt (EProd EInt (EProd EStr EUnit)))))) Tryz.underlying63 (by kernel_rfl) (.cons rfl (by kernel_rfl) (reads_int Tryz.underlying3) (.cons rfl (by kernel_rfl) (reads_int Tryz.underlying3) (.cons rfl (by kernel_rfl) (reads_int Tryz.underlying3) (.cons rfl (by kernel_rfl) (reads_int Tryz.underlying3) (.cons rfl (by kernel_rfl) (reads_str Tryz.underlying9) (.nil _)))))) hh
  obtain ⟨_, _, _, _, rfl, rfl, ⟨rfl, rfl⟩, ⟨_, _, _, _, rfl, rfl, ⟨rfl, rfl⟩, ⟨_, _, _, _, rfl, rfl, ⟨rfl, rfl⟩, ⟨_, _, _, _, rfl, rfl, ⟨rfl, rfl⟩, ⟨_, _, _, _, rfl, rfl, ⟨rfl, s4, rfl⟩, ⟨rfl, rfl⟩⟩⟩⟩⟩⟩ := hy
  exact ⟨⟨y.1, y.2.1, y.2.2.1, y.2.2.2.1, y.2.2.2.2.1⟩, [], rfl, s4, rfl⟩
set_option maxRecDepth 100000 in
theorem lifted_HearPacket (os : Os) (started : os.Started) (H : Type) (enc : TypeId × Value → H) :
    ReturnsInHanded {} Tryz.checked os 5 .any (fun w args => (Rows.fnExactHearPacketSpec.pre enc Tryz.prog Tryz.f5 Rows.fnExactHearPacketRow.domain false w args ∧ laidMetH Tryz.prog Rows.fnExactHearPacketRow.laid w) ∧ sizedMet enc Tryz.prog Tryz.f5 (OpenSpec.ofChange Rows.fnExactHearPacketSpec) false w args)
      (Rows.fnExactHearPacketSpec.post enc Tryz.prog Tryz.f5 false true false false) := by
  refine returnsInHanded_of_change_and (C := Tryz.checked) (X := fun w _ => laidMetH Tryz.prog Rows.fnExactHearPacketRow.laid w) (fun _ _ _ hh h => h.of_heap hh) (by kernel_rfl) started (by kernel_rfl) Tryz.func5
    (ChangeSpec.witness_shaped (enc := enc) (C := Tryz.checked) (os := os) (X := fun w _ => laidMetH Tryz.prog Rows.fnExactHearPacketRow.laid w) false (World.laidAll Tryz.prog os Rows.fnExactHearPacketRow.laid) #[.agg #[.bool false, .int .i64 0, .int .i64 0, .slice none 0 0, .slice none 0 0], .agg #[.int .i64 0, .int .i64 0, .int .i64 0, .int .i64 0, .string ⟨#[]⟩], .int .i64 0] 8 (World.laidAll_os _ _ _)
      (World.shaped_of_ZipB (by kernel_rfl) (by kernel_rfl)) (by kernel_rfl) (by kernel_rfl) (by kernel_rfl)
      (by rw [MakeChecks.laidMetH_plain _ _ _ (by kernel_rfl)]; exact laidMet_laidAll _ (by kernel_rfl) (by kernel_rfl))) ?_
  intro W base args ds gs before hval0 hW hc_ _ hL _
  have hval : ∀ (j : Nat) t v, Tryz.f5.params[j]? = some t → args[j]? = some v → Value.okWide Tryz.prog W .any base t v := hval0
  have hW' := hW
  obtain ⟨p, q, hA0, hV, rfl, hfz, hnd⟩ := hW
  have hA : DataW.TrodAll enc Tryz.prog W 0 (fun _ => true) true Tryz.f5.params.toList args.toList ds p := hA0
  rw [Tryz.params5] at hA hval
  obtain ⟨v0, v1, v2, d0, d1, d2, p0, p1, p2, rfl, rfl, rfl, h0, h1, h2⟩ := trodAll_three hA
  obtain ⟨cs0, rfl, hsz0⟩ := okWide_struct Tryz.underlying42 (hval 0 42 v0 rfl rfl)
  obtain ⟨fuel0, hf0⟩ := h0
  obtain ⟨x0, F0, hx0⟩ := reads_Receiver hf0
  obtain ⟨cs1, rfl, hsz1⟩ := okWide_struct Tryz.underlying63 (hval 1 63 v1 rfl rfl)
  obtain ⟨fuel1, hf1⟩ := h1
  obtain ⟨x1, F1, hx1⟩ := reads_Packet hf1
  obtain ⟨c2, rfl⟩ := okWide_int Tryz.underlying3 (hval 2 3 v2 rfl rfl)
  refine (law_HearPacket _ x0 F0 _ x1 F1 c2 W ⟨cs0.toList, by simp, by simpa [Value.cells] using hx0⟩ ⟨cs1.toList, by simp, by simpa [Value.cells] using hx1⟩).mono fun e W' ⟨he, hB⟩ => ⟨_, he, law_post (tb := 4) (by kernel_rfl) ?_ Tryz.underlying4 (by kernel_rfl) rfl rfl hW' hB⟩
  rw [Tryz.params5]
  intro t ht
  simp only [List.mem_cons, List.not_mem_nil, or_false] at ht
  rcases ht with rfl | rfl | rfl <;> exact ⟨by kernel_rfl, of_decide_eq_true (by kernel_rfl)⟩
end Go.Proofs.YtgogcgkocjpgoaaGreatDoor
/- The law FnExactHearPacket: what is counted of the program, each count by itself. Written by wip/genlaw.py. -/
namespace Go.Proofs.YtgogcgkocjpgoaaGreatDoor
open Go.RowKit Go.ChangeShapes Go.WideShapes Go.ChangeAt
set_option maxRecDepth 100000 in
set_option maxHeartbeats 0 in
theorem jf_HearPacket : joinedFacts Tryz.prog 5 Tryz.f5 Rows.fnExactHearPacketSpec Rows.fnExactHearPacketRow = true := by
  unfold joinedFacts
  simp only [Bool.and_eq_true]
  repeat' refine And.intro ?_ ?_
  all_goals (as_aux_lemma => kernel_rfl)
end Go.Proofs.YtgogcgkocjpgoaaGreatDoor
