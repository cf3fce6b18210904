/- Sources: SendFrom of the program. -/
import Derived.Test.YtidephmobajikaaDoorSR6
import Derived.Test.YtidephmobajikaaDoorPushSpec
namespace Go.Proofs.YtidephmobajikaaDoor
open Go.RowKit
structure PuS where
  a : Option Addr
  c : Nat
  F : List Nat
theorem roomed_bd {x : SendWindow} (t0 : 0 ≤ x.trail) (t1 : x.trail ≤ 65535) : 0 ≤ (roomed x).trail ∧ (roomed x).trail ≤ 65535 := by
  unfold roomed
  split
  · exact aft_bd _ _
  · exact ⟨t0, t1⟩
theorem push_f (x : SendWindow) (s : ByteArray) (g t o : Nat) (A B : List Value) (r1 r2 r3 : Value) (a : Option Addr) (c : Nat) (F : List Nat) (hl : x.items.length ≤ 6) (ht : isSer x.trail = true) (hs : s.size ≤ maxLen) (hz : 1 ≤ x.size) :
    Fn Tryd.prog 97 [ptr g o 0, .string s] [] [.row g t o A [.int .i64 x.trail, .int .i64 x.size, .slice a x.items.length c, r1, r2, r3] B, .ow EStr 9 (.slice a x.items.length c) x.items F] (fun (_ : PuS) => True) (fun _ => .agg #[.int .i64 1, .int .i64 (pushedP x s).number, .int .i64 (pushedP x s).trail, .int .i64 (pushedP x s).lead, .string s])
      (fun z => [.row g t o A [.int .i64 (pushedW x s).trail, .int .i64 (pushedW x s).size, .slice z.a (pushedW x s).items.length z.c, r1, r2, r3] B, .ow EStr 9 (.slice z.a (pushedW x s).items.length z.c) (pushedW x s).items z.F]) := fun w hH hS => by
  have h1 := hH (.row g t o A [.int .i64 x.trail, .int .i64 x.size, .slice a x.items.length c, r1, r2, r3] B) (by simp)
  have h2 := hH (.ow EStr 9 (.slice a x.items.length c) x.items F) (by simp)
  have hg : g ∉ F := fun hm => hS.1 (.ow EStr 9 (.slice a x.items.length c) x.items F) (by simp) (by simp [Pc.mu]) g (by simp [Pc.F]) hm
  have hAt : At OSendWindow t w g o A ([r1, r2, r3] ++ B) x F := ⟨[.int .i64 x.trail, .int .i64 x.size, .slice a x.items.length c], by simpa using h1.2, h1.1, ⟨_, rfl, h2.2⟩, h2.1, hg⟩
  refine (SendWindow_push_c x s t g o A _ F w hAt hl ht hs hz).mono ?_
  rintro e w' ⟨he, F', ⟨_, hrow, hp, ⟨v1, rfl, ho⟩, hn, hg'⟩, hF, hk⟩
  obtain ⟨a', c', rfl⟩ := ho.slice
  refine ⟨⟨a', c', F'⟩, trivial, he, hol2 ⟨hp, by simpa using hrow⟩ ⟨hn, ho⟩, ⟨fun q hq _ b hb hbq => ?_, ⟨by simp, trivial⟩⟩, hk.mono (fun b hb _ => by simpa [fp, Pc.F] using hb), fun p hp b hb => ?_⟩
  · simp at hq
    subst hq
    simp [Pc.F] at hb hbq
    subst hb
    exact hg' hbq
  · simp only [List.mem_cons, List.not_mem_nil, or_false] at hp
    rcases hp with rfl | rfl
    · exact .inr (.inl ⟨_, List.mem_cons_self .., by simpa [Pc.F] using hb⟩)
    · rcases hF b hb with h | h
      · exact .inr (.inl ⟨_, List.mem_cons_of_mem _ (List.mem_cons_self ..), h⟩)
      · exact .inl h
def sentS (x : Source) (s : ByteArray) : Source := ⟨pushedW x.window s, x.clock, 0, keepH (pushedW x.window s) x.holds⟩
def zPk : Packet := ⟨0, 0, 0, 0, ⟨#[]⟩⟩
def okSendFrom (x : Source) (s : ByteArray) : Bool := goodSrc x && itm s
def resSendFrom (x : Source) (s : ByteArray) : Source × Packet × Bool := if okSendFrom x s then (sentS x s, pushedP x.window s, true) else (zSrc, zPk, false)
theorem resSendF_no {x : Source} {s : ByteArray} (h : okSendFrom x s = false) : resSendFrom x s = (zSrc, zPk, false) := by unfold resSendFrom; rw [h]; rfl
theorem resSendF_yes {x : Source} {s : ByteArray} (h : okSendFrom x s = true) : resSendFrom x s = (sentS x s, pushedP x.window s, true) := by unfold resSendFrom; rw [h]; rfl
theorem sendF_size {x : Source} {s : ByteArray} (h : s.size ≤ maxLen) : (resSendFrom x s).2.1.data.size ≤ maxLen := by
  unfold resSendFrom
  split
  · exact h
  · decide
def PS_SendFrom : Source × Packet × Bool → World → Ending → World → Prop := fun (r0, r1, r2) w e w' => ∃ u0 G0 u1 G1, e = .returned (.tuple #[u0, u1, .bool r2]) ∧ IsV ESource w' u0 r0 G0 ∧ IsV EPacket w' u1 r1 G1 ∧ Below w.heap.size w w'
def PI_SendFrom : Source × Packet × Bool → World → Ending → World → Prop := fun (r0, r1, r2) w e w' => ∃ u0 G0 u1 G1, e = .returned (.tuple #[u0, u1, .bool r2]) ∧ IsV OSource w' u0 r0 G0 ∧ IsV EPacket w' u1 r1 G1 ∧ (G0 ++ G1).Nodup ∧ (∀ b ∈ G0 ++ G1, w.heap.size ≤ b) ∧ Below w.heap.size w w'
end Go.Proofs.YtidephmobajikaaDoor
