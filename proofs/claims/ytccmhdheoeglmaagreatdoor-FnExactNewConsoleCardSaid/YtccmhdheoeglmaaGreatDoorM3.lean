/- Part 3 of the proof: 17 texts, one behind the other. -/
import Derived.ProofKit
import Derived.OpenShut
import Derived.Test.YtccmhdheoeglmaaGreatDoorCards
import Derived.Test.YtccmhdheoeglmaaGreatDoorTie
import Derived.LaidMore
import Derived.Lay
import Derived.SevenTiedAt
import Derived.Stop.Joined
import Derived.Test.YtccmhdheoeglmaaGreatDoorM2
/- Structs of type Net in a walk's state: opened, closed. -/
namespace Go.Proofs.YtccmhdheoeglmaaGreatDoor
open Go.RowKit
section
variable {c : Cx} {fr : Fr} {H : List Pc} {Φ : Gl}
theorem openONet {v : Value} {x : Net} {F : List Nat} {S : List Pc} (h : ∀ (a1 : Option Addr) (c1 : Nat) (F1 : List Nat) (a2 : Option Addr) (c2 : Nat) (F2 : List Nat) (a3 : Option Addr) (c3 : Nat) (F3 : List Nat) (a4 : Option Addr) (c4 : Nat) (F4 : List Nat) (a5 : Option Addr) (c5 : Nat) (F5 : List Nat) (a6 : Option Addr) (c6 : Nat) (F6 : List Nat) (a7 : Option Addr) (c7 : Nat) (F7 : List Nat), v = .agg #[.slice a1 x.tree.parent.length c1, .int .i64 x.source.window.trail, .int .i64 x.source.window.size, .slice a2 x.source.window.items.length c2, .int .i64 x.source.clock, .int .i64 x.source.quiet, .slice a3 x.source.holds.length c3, .slice a4 x.elements.length c4, .slice a5 x.receivers.length c5, .slice a6 x.down.length c6, .slice a7 x.up.length c7] → x.tree.parent.length ≤ maxLen → x.source.window.items.length ≤ maxLen → x.source.holds.length ≤ maxLen → x.elements.length ≤ maxLen → x.receivers.length ≤ maxLen → x.down.length ≤ maxLen → x.up.length ≤ maxLen → T c fr (.ow EInt 3 (.slice a1 x.tree.parent.length c1) x.tree.parent F1 :: .ow EStr 9 (.slice a2 x.source.window.items.length c2) x.source.window.items F2 :: .ow EHold 164 (.slice a3 x.source.holds.length c3) x.source.holds F3 :: .ow OElement 129 (.slice a4 x.elements.length c4) x.elements F4 :: .ow OReceiver 90 (.slice a5 x.receivers.length c5) x.receivers F5 :: .ow (OSl EPacket 169) 132 (.slice a6 x.down.length c6) x.down F6 :: .ow (OSl EPacket 169) 132 (.slice a7 x.up.length c7) x.up F7 :: S) Φ) (hp : Pick H (.own ONet v x F) S := by (repeat (first | exact .here | apply Pick.there)); first | done | fail) : T c fr H Φ := .mk fun a w s g => by
  have z1 := s.pick hp
  obtain ⟨hn, cs, rfl, v1, v2, v3, v4, v5, v6, v7, G1, G2, G3, G4, G5, G6, G7, rfl, h1, h2, h3, h4, h5, h6, h7, rfl⟩ := z1.on (.own ONet v x F) (by simp)
  obtain ⟨a1, c1, rfl⟩ := h1.slice; have l1 := h1.len
  obtain ⟨a2, c2, rfl⟩ := h2.slice; have l2 := h2.len
  obtain ⟨a3, c3, rfl⟩ := h3.slice; have l3 := h3.len
  obtain ⟨a4, c4, rfl⟩ := h4.slice; have l4 := h4.len
  obtain ⟨a5, c5, rfl⟩ := h5.slice; have l5 := h5.len
  obtain ⟨a6, c6, rfl⟩ := h6.slice; have l6 := h6.len
  obtain ⟨a7, c7, rfl⟩ := h7.slice; have l7 := h7.len
  have hn2 := hn; simp only [List.nodup_append, List.mem_append] at hn2
  refine (h a1 c1 G1 a2 c2 G2 a3 c3 G3 a4 c4 G4 a5 c5 G5 a6 c6 G6 a7 c7 G7 rfl  l1 l2 l3 l4 l5 l6 l7).h a w (St.turn (M := [.own ONet (.agg #[.slice a1 x.tree.parent.length c1, .int .i64 x.source.window.trail, .int .i64 x.source.window.size, .slice a2 x.source.window.items.length c2, .int .i64 x.source.clock, .int .i64 x.source.quiet, .slice a3 x.source.holds.length c3, .slice a4 x.elements.length c4, .slice a5 x.receivers.length c5, .slice a6 x.down.length c6, .slice a7 x.up.length c7]) x _]) (N := [.ow EInt 3 (.slice a1 x.tree.parent.length c1) x.tree.parent G1, .ow EStr 9 (.slice a2 x.source.window.items.length c2) x.source.window.items G2, .ow EHold 164 (.slice a3 x.source.holds.length c3) x.source.holds G3, .ow OElement 129 (.slice a4 x.elements.length c4) x.elements G4, .ow OReceiver 90 (.slice a5 x.receivers.length c5) x.receivers G5, .ow (OSl EPacket 169) 132 (.slice a6 x.down.length c6) x.down G6, .ow (OSl EPacket 169) 132 (.slice a7 x.up.length c7) x.up G7]) z1 (Keep.refl _ w) ?_ ?_ ?_) g
  · intro q hq; simp only [List.mem_cons, List.not_mem_nil, or_false] at hq
    rcases hq with rfl | rfl | rfl | rfl | rfl | rfl | rfl
    · exact ⟨(List.nodup_append.1 (List.nodup_append.1 (List.nodup_append.1 (List.nodup_append.1 (List.nodup_append.1 (List.nodup_append.1 hn).1).1).1).1).1).1, h1⟩
    · exact ⟨(List.nodup_append.1 (List.nodup_append.1 (List.nodup_append.1 (List.nodup_append.1 (List.nodup_append.1 (List.nodup_append.1 hn).1).1).1).1).1).2.1, h2⟩
    · exact ⟨(List.nodup_append.1 (List.nodup_append.1 (List.nodup_append.1 (List.nodup_append.1 (List.nodup_append.1 hn).1).1).1).1).2.1, h3⟩
    · exact ⟨(List.nodup_append.1 (List.nodup_append.1 (List.nodup_append.1 (List.nodup_append.1 hn).1).1).1).2.1, h4⟩
    · exact ⟨(List.nodup_append.1 (List.nodup_append.1 (List.nodup_append.1 hn).1).1).2.1, h5⟩
    · exact ⟨(List.nodup_append.1 (List.nodup_append.1 hn).1).2.1, h6⟩
    · exact ⟨(List.nodup_append.1 hn).2.1, h7⟩
  · refine ⟨?_, ⟨?_, ⟨?_, ⟨?_, ⟨?_, ⟨?_, ⟨?_, trivial⟩⟩⟩⟩⟩⟩⟩
    · intro q hq _ b hb hb2; simp only [List.mem_cons, List.not_mem_nil, or_false] at hq
      rcases hq with rfl | rfl | rfl | rfl | rfl | rfl
      · simp only [Pc.F] at hb hb2; exact nodup_apt (List.nodup_append.1 (List.nodup_append.1 (List.nodup_append.1 (List.nodup_append.1 (List.nodup_append.1 hn).1).1).1).1).1 (by simp [hb]) hb2
      · simp only [Pc.F] at hb hb2; exact nodup_apt (List.nodup_append.1 (List.nodup_append.1 (List.nodup_append.1 (List.nodup_append.1 hn).1).1).1).1 (by simp [hb]) hb2
      · simp only [Pc.F] at hb hb2; exact nodup_apt (List.nodup_append.1 (List.nodup_append.1 (List.nodup_append.1 hn).1).1).1 (by simp [hb]) hb2
      · simp only [Pc.F] at hb hb2; exact nodup_apt (List.nodup_append.1 (List.nodup_append.1 hn).1).1 (by simp [hb]) hb2
      · simp only [Pc.F] at hb hb2; exact nodup_apt (List.nodup_append.1 hn).1 (by simp [hb]) hb2
      · simp only [Pc.F] at hb hb2; exact nodup_apt hn (by simp [hb]) hb2
    · intro q hq _ b hb hb2; simp only [List.mem_cons, List.not_mem_nil, or_false] at hq
      rcases hq with rfl | rfl | rfl | rfl | rfl
      · simp only [Pc.F] at hb hb2; exact nodup_apt (List.nodup_append.1 (List.nodup_append.1 (List.nodup_append.1 (List.nodup_append.1 hn).1).1).1).1 (by simp [hb]) hb2
      · simp only [Pc.F] at hb hb2; exact nodup_apt (List.nodup_append.1 (List.nodup_append.1 (List.nodup_append.1 hn).1).1).1 (by simp [hb]) hb2
      · simp only [Pc.F] at hb hb2; exact nodup_apt (List.nodup_append.1 (List.nodup_append.1 hn).1).1 (by simp [hb]) hb2
      · simp only [Pc.F] at hb hb2; exact nodup_apt (List.nodup_append.1 hn).1 (by simp [hb]) hb2
      · simp only [Pc.F] at hb hb2; exact nodup_apt hn (by simp [hb]) hb2
    · intro q hq _ b hb hb2; simp only [List.mem_cons, List.not_mem_nil, or_false] at hq
      rcases hq with rfl | rfl | rfl | rfl
      · simp only [Pc.F] at hb hb2; exact nodup_apt (List.nodup_append.1 (List.nodup_append.1 (List.nodup_append.1 hn).1).1).1 (by simp [hb]) hb2
      · simp only [Pc.F] at hb hb2; exact nodup_apt (List.nodup_append.1 (List.nodup_append.1 hn).1).1 (by simp [hb]) hb2
      · simp only [Pc.F] at hb hb2; exact nodup_apt (List.nodup_append.1 hn).1 (by simp [hb]) hb2
      · simp only [Pc.F] at hb hb2; exact nodup_apt hn (by simp [hb]) hb2
    · intro q hq _ b hb hb2; simp only [List.mem_cons, List.not_mem_nil, or_false] at hq
      rcases hq with rfl | rfl | rfl
      · simp only [Pc.F] at hb hb2; exact nodup_apt (List.nodup_append.1 (List.nodup_append.1 hn).1).1 (by simp [hb]) hb2
      · simp only [Pc.F] at hb hb2; exact nodup_apt (List.nodup_append.1 hn).1 (by simp [hb]) hb2
      · simp only [Pc.F] at hb hb2; exact nodup_apt hn (by simp [hb]) hb2
    · intro q hq _ b hb hb2; simp only [List.mem_cons, List.not_mem_nil, or_false] at hq
      rcases hq with rfl | rfl
      · simp only [Pc.F] at hb hb2; exact nodup_apt (List.nodup_append.1 hn).1 (by simp [hb]) hb2
      · simp only [Pc.F] at hb hb2; exact nodup_apt hn (by simp [hb]) hb2
    · intro q hq _ b hb hb2; simp only [List.mem_cons, List.not_mem_nil, or_false] at hq
      rcases hq with rfl
      · simp only [Pc.F] at hb hb2; exact nodup_apt hn (by simp [hb]) hb2
    · intro q hq _ b hb hb2; simp at hq
  · intro q hq b hb; refine .inr (.inl ⟨_, List.mem_singleton.2 rfl, rfl, ?_⟩); simp only [List.mem_cons, List.not_mem_nil, or_false] at hq; rcases hq with rfl | rfl | rfl | rfl | rfl | rfl | rfl <;> simp only [Pc.F] at hb ⊢ <;> simp [hb]
theorem closeONet (x : Net) {a1 : Option Addr} {c1 : Nat} {F1 : List Nat} {a2 : Option Addr} {c2 : Nat} {F2 : List Nat} {a3 : Option Addr} {c3 : Nat} {F3 : List Nat} {a4 : Option Addr} {c4 : Nat} {F4 : List Nat} {a5 : Option Addr} {c5 : Nat} {F5 : List Nat} {a6 : Option Addr} {c6 : Nat} {F6 : List Nat} {a7 : Option Addr} {c7 : Nat} {F7 : List Nat} {S1 S2 S3 S4 S5 S6 S7 : List Pc}  (h : T c fr (.own ONet (.agg #[.slice a1 x.tree.parent.length c1, .int .i64 x.source.window.trail, .int .i64 x.source.window.size, .slice a2 x.source.window.items.length c2, .int .i64 x.source.clock, .int .i64 x.source.quiet, .slice a3 x.source.holds.length c3, .slice a4 x.elements.length c4, .slice a5 x.receivers.length c5, .slice a6 x.down.length c6, .slice a7 x.up.length c7]) x (F1 ++ F2 ++ F3 ++ F4 ++ F5 ++ F6 ++ F7) :: S7) Φ) (m1 : Pick H (.ow EInt 3 (.slice a1 x.tree.parent.length c1) x.tree.parent F1) S1 := by (repeat (first | exact .here | apply Pick.there)); first | done | fail) (m2 : Pick S1 (.ow EStr 9 (.slice a2 x.source.window.items.length c2) x.source.window.items F2) S2 := by (repeat (first | exact .here | apply Pick.there)); first | done | fail) (m3 : Pick S2 (.ow EHold 164 (.slice a3 x.source.holds.length c3) x.source.holds F3) S3 := by (repeat (first | exact .here | apply Pick.there)); first | done | fail) (m4 : Pick S3 (.ow OElement 129 (.slice a4 x.elements.length c4) x.elements F4) S4 := by (repeat (first | exact .here | apply Pick.there)); first | done | fail) (m5 : Pick S4 (.ow OReceiver 90 (.slice a5 x.receivers.length c5) x.receivers F5) S5 := by (repeat (first | exact .here | apply Pick.there)); first | done | fail) (m6 : Pick S5 (.ow (OSl EPacket 169) 132 (.slice a6 x.down.length c6) x.down F6) S6 := by (repeat (first | exact .here | apply Pick.there)); first | done | fail) (m7 : Pick S6 (.ow (OSl EPacket 169) 132 (.slice a7 x.up.length c7) x.up F7) S7 := by (repeat (first | exact .here | apply Pick.there)); first | done | fail)  : T c fr H Φ := .mk fun a w s g => by
  have z1 : St c.G c.D c.w0 ([.ow EInt 3 (.slice a1 x.tree.parent.length c1) x.tree.parent F1, .ow EStr 9 (.slice a2 x.source.window.items.length c2) x.source.window.items F2, .ow EHold 164 (.slice a3 x.source.holds.length c3) x.source.holds F3, .ow OElement 129 (.slice a4 x.elements.length c4) x.elements F4, .ow OReceiver 90 (.slice a5 x.receivers.length c5) x.receivers F5, .ow (OSl EPacket 169) 132 (.slice a6 x.down.length c6) x.down F6, .ow (OSl EPacket 169) 132 (.slice a7 x.up.length c7) x.up F7] ++ S7) w := by simpa using (show Picks H [.ow EInt 3 (.slice a1 x.tree.parent.length c1) x.tree.parent F1, .ow EStr 9 (.slice a2 x.source.window.items.length c2) x.source.window.items F2, .ow EHold 164 (.slice a3 x.source.holds.length c3) x.source.holds F3, .ow OElement 129 (.slice a4 x.elements.length c4) x.elements F4, .ow OReceiver 90 (.slice a5 x.receivers.length c5) x.receivers F5, .ow (OSl EPacket 169) 132 (.slice a6 x.down.length c6) x.down F6, .ow (OSl EPacket 169) 132 (.slice a7 x.up.length c7) x.up F7] S7 from Picks.cons m1 (Picks.cons m2 (Picks.cons m3 (Picks.cons m4 (Picks.cons m5 (Picks.cons m6 (Picks.cons m7 (Picks.nil)))))))).st (X := []) (by simpa using s)
  obtain ⟨n1, k1⟩ := z1.on (.ow EInt 3 (.slice a1 x.tree.parent.length c1) x.tree.parent F1) (by simp)
  obtain ⟨n2, k2⟩ := z1.on (.ow EStr 9 (.slice a2 x.source.window.items.length c2) x.source.window.items F2) (by simp)
  obtain ⟨n3, k3⟩ := z1.on (.ow EHold 164 (.slice a3 x.source.holds.length c3) x.source.holds F3) (by simp)
  obtain ⟨n4, k4⟩ := z1.on (.ow OElement 129 (.slice a4 x.elements.length c4) x.elements F4) (by simp)
  obtain ⟨n5, k5⟩ := z1.on (.ow OReceiver 90 (.slice a5 x.receivers.length c5) x.receivers F5) (by simp)
  obtain ⟨n6, k6⟩ := z1.on (.ow (OSl EPacket 169) 132 (.slice a6 x.down.length c6) x.down F6) (by simp)
  obtain ⟨n7, k7⟩ := z1.on (.ow (OSl EPacket 169) 132 (.slice a7 x.up.length c7) x.up F7) (by simp)
  have hsp := z1.sep
  have p1_2 : ∀ b ∈ F1, b ∉ F2 := hsp.1 (.ow EStr 9 (.slice a2 x.source.window.items.length c2) x.source.window.items F2) (by simp) rfl
  have p1_3 : ∀ b ∈ F1, b ∉ F3 := hsp.1 (.ow EHold 164 (.slice a3 x.source.holds.length c3) x.source.holds F3) (by simp) rfl
  have p1_4 : ∀ b ∈ F1, b ∉ F4 := hsp.1 (.ow OElement 129 (.slice a4 x.elements.length c4) x.elements F4) (by simp) rfl
  have p1_5 : ∀ b ∈ F1, b ∉ F5 := hsp.1 (.ow OReceiver 90 (.slice a5 x.receivers.length c5) x.receivers F5) (by simp) rfl
  have p1_6 : ∀ b ∈ F1, b ∉ F6 := hsp.1 (.ow (OSl EPacket 169) 132 (.slice a6 x.down.length c6) x.down F6) (by simp) rfl
  have p1_7 : ∀ b ∈ F1, b ∉ F7 := hsp.1 (.ow (OSl EPacket 169) 132 (.slice a7 x.up.length c7) x.up F7) (by simp) rfl
  have p2_3 : ∀ b ∈ F2, b ∉ F3 := hsp.2.1 (.ow EHold 164 (.slice a3 x.source.holds.length c3) x.source.holds F3) (by simp) rfl
  have p2_4 : ∀ b ∈ F2, b ∉ F4 := hsp.2.1 (.ow OElement 129 (.slice a4 x.elements.length c4) x.elements F4) (by simp) rfl
  have p2_5 : ∀ b ∈ F2, b ∉ F5 := hsp.2.1 (.ow OReceiver 90 (.slice a5 x.receivers.length c5) x.receivers F5) (by simp) rfl
  have p2_6 : ∀ b ∈ F2, b ∉ F6 := hsp.2.1 (.ow (OSl EPacket 169) 132 (.slice a6 x.down.length c6) x.down F6) (by simp) rfl
  have p2_7 : ∀ b ∈ F2, b ∉ F7 := hsp.2.1 (.ow (OSl EPacket 169) 132 (.slice a7 x.up.length c7) x.up F7) (by simp) rfl
  have p3_4 : ∀ b ∈ F3, b ∉ F4 := hsp.2.2.1 (.ow OElement 129 (.slice a4 x.elements.length c4) x.elements F4) (by simp) rfl
  have p3_5 : ∀ b ∈ F3, b ∉ F5 := hsp.2.2.1 (.ow OReceiver 90 (.slice a5 x.receivers.length c5) x.receivers F5) (by simp) rfl
  have p3_6 : ∀ b ∈ F3, b ∉ F6 := hsp.2.2.1 (.ow (OSl EPacket 169) 132 (.slice a6 x.down.length c6) x.down F6) (by simp) rfl
  have p3_7 : ∀ b ∈ F3, b ∉ F7 := hsp.2.2.1 (.ow (OSl EPacket 169) 132 (.slice a7 x.up.length c7) x.up F7) (by simp) rfl
  have p4_5 : ∀ b ∈ F4, b ∉ F5 := hsp.2.2.2.1 (.ow OReceiver 90 (.slice a5 x.receivers.length c5) x.receivers F5) (by simp) rfl
  have p4_6 : ∀ b ∈ F4, b ∉ F6 := hsp.2.2.2.1 (.ow (OSl EPacket 169) 132 (.slice a6 x.down.length c6) x.down F6) (by simp) rfl
  have p4_7 : ∀ b ∈ F4, b ∉ F7 := hsp.2.2.2.1 (.ow (OSl EPacket 169) 132 (.slice a7 x.up.length c7) x.up F7) (by simp) rfl
  have p5_6 : ∀ b ∈ F5, b ∉ F6 := hsp.2.2.2.2.1 (.ow (OSl EPacket 169) 132 (.slice a6 x.down.length c6) x.down F6) (by simp) rfl
  have p5_7 : ∀ b ∈ F5, b ∉ F7 := hsp.2.2.2.2.1 (.ow (OSl EPacket 169) 132 (.slice a7 x.up.length c7) x.up F7) (by simp) rfl
  have p6_7 : ∀ b ∈ F6, b ∉ F7 := hsp.2.2.2.2.2.1 (.ow (OSl EPacket 169) 132 (.slice a7 x.up.length c7) x.up F7) (by simp) rfl
  have hN : (F1 ++ F2 ++ F3 ++ F4 ++ F5 ++ F6 ++ F7).Nodup := by
    simp only [List.nodup_append, List.mem_append]
    grind
  refine h.h a w (St.turn (M := [.ow EInt 3 (.slice a1 x.tree.parent.length c1) x.tree.parent F1, .ow EStr 9 (.slice a2 x.source.window.items.length c2) x.source.window.items F2, .ow EHold 164 (.slice a3 x.source.holds.length c3) x.source.holds F3, .ow OElement 129 (.slice a4 x.elements.length c4) x.elements F4, .ow OReceiver 90 (.slice a5 x.receivers.length c5) x.receivers F5, .ow (OSl EPacket 169) 132 (.slice a6 x.down.length c6) x.down F6, .ow (OSl EPacket 169) 132 (.slice a7 x.up.length c7) x.up F7]) (N := [.own ONet (.agg #[.slice a1 x.tree.parent.length c1, .int .i64 x.source.window.trail, .int .i64 x.source.window.size, .slice a2 x.source.window.items.length c2, .int .i64 x.source.clock, .int .i64 x.source.quiet, .slice a3 x.source.holds.length c3, .slice a4 x.elements.length c4, .slice a5 x.receivers.length c5, .slice a6 x.down.length c6, .slice a7 x.up.length c7]) x (F1 ++ F2 ++ F3 ++ F4 ++ F5 ++ F6 ++ F7)]) z1 (Keep.refl _ w) (by intro q hq; obtain rfl := List.mem_singleton.1 hq; exact ⟨hN, _, rfl, _, _, _, _, _, _, _, _, _, _, _, _, _, _, rfl, k1, k2, k3, k4, k5, k6, k7, rfl⟩) ⟨by simp, trivial⟩ fun q hq b hb => ?_) g
  obtain rfl := List.mem_singleton.1 hq
  simp only [Pc.F, List.mem_append] at hb
  rcases hb with (((((hb | hb) | hb) | hb) | hb) | hb) | hb
  · exact .inr (.inl ⟨.ow EInt 3 (.slice a1 x.tree.parent.length c1) x.tree.parent F1, by simp, rfl, hb⟩)
  · exact .inr (.inl ⟨.ow EStr 9 (.slice a2 x.source.window.items.length c2) x.source.window.items F2, by simp, rfl, hb⟩)
  · exact .inr (.inl ⟨.ow EHold 164 (.slice a3 x.source.holds.length c3) x.source.holds F3, by simp, rfl, hb⟩)
  · exact .inr (.inl ⟨.ow OElement 129 (.slice a4 x.elements.length c4) x.elements F4, by simp, rfl, hb⟩)
  · exact .inr (.inl ⟨.ow OReceiver 90 (.slice a5 x.receivers.length c5) x.receivers F5, by simp, rfl, hb⟩)
  · exact .inr (.inl ⟨.ow (OSl EPacket 169) 132 (.slice a6 x.down.length c6) x.down F6, by simp, rfl, hb⟩)
  · exact .inr (.inl ⟨.ow (OSl EPacket 169) 132 (.slice a7 x.up.length c7) x.up F7, by simp, rfl, hb⟩)
end
end Go.Proofs.YtccmhdheoeglmaaGreatDoor
/- Regions that draw: an operation that may stand behind a store. -/
namespace Go.Proofs.YtccmhdheoeglmaaGreatDoor
open Go.RowKit
section
variable {P : Program} {ops : Array Oper} {Q : Exit → Act → World → Prop} {md : Region.Mode} {S : World → Prop} {X : Nat → Bool}
end
end Go.Proofs.YtccmhdheoeglmaaGreatDoor
/- Regions that draw: pure operations that may stand behind a store. -/
namespace Go.Proofs.YtccmhdheoeglmaaGreatDoor
open Go.RowKit
section
variable {c : Cx} {fr : Fr} {H H0 : List Pc} {k : List It} {X : List Nat} {ops : Array Oper} {f : Nat} {listed : Array Bool} {d : Nat} {o : Op} {ty : TypeId} {pos : String} {aft : Array Edge} {v : Value}
end
end Go.Proofs.YtccmhdheoeglmaaGreatDoor
/- What the walks of the exact laws need: structs by their cells as wholes, contracts of made values, marks. -/
namespace Go.Proofs.YtccmhdheoeglmaaGreatDoor
open Go.RowKit
section
variable {c : Cx} {fr : Fr} {H H0 : List Pc} {k : List It} {Φ : Gl} {X : List Nat} {ops : Array Oper} {f : Nat} {listed : Array Bool} {d : Nat} {o : Op} {ty : TypeId} {v u : Value} {x y : Operand}
theorem t_weakV {α : Type} {O R : Elem α} (hW : Weak O R) {v : Value} {x : α} {F : List Nat} {S : List Pc} (h : ∀ F', T c fr (.isv R v x F' :: S) Φ) (hp : Pick H (.own O v x F) S := by (repeat (first | exact .here | apply Pick.there)); first | done | fail) : T c fr H Φ := .mk fun a w s g => by
  have s1 := s.pick hp
  obtain ⟨-, ho⟩ := s1.on (.own O v x F) (by simp)
  obtain ⟨F', hF, hs⟩ := IsV.weak hW ho
  exact (h F').h a w (s1.conv rfl hs hF) g
/-- a struct's value is its cells -/
theorem t_aggI {α : Type} {E : Elem α} {v : Value} {x : α} {F : List Nat} (one : One E) (h : ∀ cs : List Value, v = .agg cs.toArray → cs.length = E.sz → cs.all (·.oneCell') = true → T c fr H Φ) (hm : .isv E v x F ∈ H := by (repeat (first | exact .head _ | apply List.Mem.tail)); first | done | fail) : T c fr H Φ := .mk fun a w s g => by
  obtain ⟨cs, hv, hx⟩ := s.get hm
  exact (h cs hv (E.len hx) (List.all_eq_true.2 fun u hu => one hx u hu)).h a w s g
theorem t_aggO {α : Type} {E : Elem α} {v : Value} {x : α} {F : List Nat} (one : One E) (h : ∀ cs : List Value, v = .agg cs.toArray → cs.length = E.sz → cs.all (·.oneCell') = true → T c fr H Φ) (hm : .own E v x F ∈ H := by (repeat (first | exact .head _ | apply List.Mem.tail)); first | done | fail) : T c fr H Φ := .mk fun a w s g => by
  obtain ⟨-, cs, hv, hx⟩ := s.get hm
  exact (h cs hv (E.len hx) (List.all_eq_true.2 fun u hu => one hx u hu)).h a w s g
theorem Put.all : ∀ {zs l : List Value}, zs.length = l.length → Put zs 0 l l
  | [], [], _ => .zero
  | [], _ :: _, h => by simp at h
  | _ :: _, [], h => by simp at h
  | _ :: zs, _ :: l, h => .one (Put.all (by simpa using h))
/-- all of a box -/
theorem yd_ldw {P : Program} {n : Nat} {H : List Pc} {t g o tt m : Nat} {A cs B : List Value} [AggC P t m] (hx : ev fr x = some (ptr g o 0)) (hm : Pc.row g tt o A cs B ∈ H) (hl : cs.length = m) : Yd P n fr H (.load t x) ty (.agg cs.toArray) := yd_lda hx hm (hl ▸ Cut.whole cs)
/-- a call that makes values -/
theorem cm {f : Nat} {vs : List Value} {σ : Type} {C : σ → Prop} {vv : σ → Value} {N : σ → List Pc} (hc : ∀ w, St c.G c.D c.w0 H w → Calls c.P f vs.toArray w fun e w' => ∃ s, C s ∧ e = .returned (vv s) ∧ Hol (N s) w' ∧ (fp (N s)).Nodup ∧ (∀ b ∈ fp (N s), w.heap.size ≤ b) ∧ Below w.heap.size w w')
    (h : ∀ s, C s → T c ((d, vv s) :: fr) (N s ++ H) Φ) : Cl c fr H d f vs Φ :=
  cl_of hc (fun w e w' s hR => by
    obtain ⟨z, hz, he, hN, hn, hF, hB⟩ := hR
    have sep : ∀ {N : List Pc}, (fp N).Nodup → Sep N := by
      intro N
      induction N with
      | nil => intro _; trivial
      | cons p N ih =>
        intro h
        rw [fp, List.nodup_append] at h
        exact ⟨fun q hq _ b hb hq2 => h.2.2 b hb b (mem_fp.2 ⟨q, hq, hq2⟩) rfl, ih h.2.1⟩
    exact ⟨_, he, fun ac g => (h z hz).h ac w' (s.add (N := N z) hB hN (sep hn) (fun p hp b hb => .inl (hF b (mem_fp.2 ⟨p, hp, hb⟩)))) g⟩)
theorem d_startA {id : Nat} {l : List Oper} (X : List Nat) (h : T c fr H (.dx k H X l.toArray l.length (Array.replicate l.length false))) (hm : c.P.follows .mixedOrders = true := by kernel_rfl) : T c fr H (.code k (Code.region id l.toArray true)) := .mk fun a w s g => by
  refine AnyX.start (S := Hol H) (X := fun i => X.contains i) hm ?_
  have := h.h a w.drew (s.below (belowDrewN (Below.refl _ _) 1)) g
  simpa [Gl.sem] using this
/-- what is behind a box that is stored into -/
theorem o_stw {t g tt m : Nat} {cs l : List Value} {S : List Pc} (hx : ev fr x = some (ptr g 0 0)) (hy : ev fr y = some (.agg l.toArray)) (hs : (c.P.info? t).map (·.size) = some m) (hr : Rpl H (.row g tt 0 [] cs []) (.row g tt 0 [] l []) S) (hl : l.length = m) (hc : cs.length = m) (h1 : l.all (·.oneCell') = true) (h : T c fr S Φ) : On c fr H none (.store t x y) ty Φ :=
  o_st hx hy rfl hs hl hr (Put.all (by omega)) h1 h
end
/-! contracts, with what they ask read off pieces -/
theorem ex1 {α : Type} {A : α → Prop} {C : Prop} (f : ∀ a, A a → C) : (∃ a, A a) → C := fun ⟨a, h⟩ => f a h
theorem ex2 {α β : Type} {A : α → Prop} {B : β → Prop} {C : Prop} (f : ∀ a b, A a → B b → C) : (∃ a, A a) → (∃ b, B b) → C := fun ⟨a, h⟩ ⟨b, h2⟩ => f a b h h2
section
variable {G D : List Nat} {w0 w : World} {H : List Pc}
theorem St.rI {α : Type} {E : Elem α} {v : Value} {x : α} {F : List Nat} (s : St G D w0 H w) (hm : .isv E v x F ∈ H := by (repeat (first | exact .head _ | apply List.Mem.tail)); first | done | fail) : ∃ F', IsV E w v x F' := ⟨F, s.get hm⟩
theorem St.rO {α : Type} {O R : Elem α} (hW : Weak O R) {v : Value} {x : α} {F : List Nat} (s : St G D w0 H w) (hm : .own O v x F ∈ H := by (repeat (first | exact .head _ | apply List.Mem.tail)); first | done | fail) : ∃ F', IsV R w v x F' := by
  obtain ⟨-, ho⟩ := s.get hm
  obtain ⟨F', -, h⟩ := IsV.weak hW ho
  exact ⟨F', h⟩
end
theorem fn_markV {P : Program} {α : Type} {O : Elem α} {f : FuncId} {v : Value} {x x' : α} {F : List Nat} {k m : Int} (h : ∀ w, IsV O w v x F → F.Nodup → Calls P f #[v, .int .i64 k] w (RetMarkV O v m x' F w)) : Fn P f [v, .int .i64 k] [] [.own O v x F] (fun (_ : Unit) => True) (fun _ => .int .i64 m) (fun _ => [.own O v x' F]) := fun w hH _ => by
  obtain ⟨hn, ho⟩ := hH (.own O v x F) (by simp)
  refine (h w ho hn).mono ?_
  rintro e w' ⟨he, h1, h2⟩
  refine ⟨(), trivial, he, hol1 ⟨hn, h1⟩, ⟨by simp, trivial⟩, by simpa [fp, Pc.F] using h2, fun p hp b hb => ?_⟩
  rw [List.mem_singleton] at hp; subst hp
  exact .inr (.inl ⟨_, List.mem_singleton.2 rfl, hb⟩)
theorem fn_markL {P : Program} {α : Type} {O : Elem α} {t : TypeId} {f : FuncId} {v : Value} {x x' : List α} {F : List Nat} {k m : Int} (h : ∀ w, Ow O t w v x F → F.Nodup → Calls P f #[v, .int .i64 k] w (RetMark O t v m x' F w)) : Fn P f [v, .int .i64 k] [] [.ow O t v x F] (fun (_ : Unit) => True) (fun _ => .int .i64 m) (fun _ => [.ow O t v x' F]) := fun w hH _ => by
  obtain ⟨hn, ho⟩ := hH (.ow O t v x F) (by simp)
  refine (h w ho hn).mono ?_
  rintro e w' ⟨he, h1, h2⟩
  refine ⟨(), trivial, he, hol1 ⟨hn, h1⟩, ⟨by simp, trivial⟩, by simpa [fp, Pc.F] using h2, fun p hp b hb => ?_⟩
  rw [List.mem_singleton] at hp; subst hp
  exact .inr (.inl ⟨_, List.mem_singleton.2 rfl, hb⟩)
end Go.Proofs.YtccmhdheoeglmaaGreatDoor
/- The steps of the exact laws' walks, as one word. -/
namespace Go.Proofs.YtccmhdheoeglmaaGreatDoor
open Go.RowKit
/-- the steps of an exact law -/
theorem goL {X : Prop} {c : Cx} {fr : Fr} {H : List Pc} {Φ : Gl} (h : X) (hs : Kp X → T c fr H Φ := by intro hX; (repeat (first | apply c_seq | apply c_reg | (apply wO; apply oc; rfl; exact ydE) | (apply wO; apply oc; rfl; apply yd_ldw; rfl; exact memE; assumption) | apply w_nil | apply n_cd | (apply wg_t; rfl; rfl) | (apply wg_f; rfl; rfl; rfl; rfl) | (apply wg_u; rfl; rfl; rfl) | (apply c_t; rfl) | (apply c_f; rfl) | apply c_skip | apply c_block | apply n_blk | apply c_exit | apply e_hit | apply e_cd | apply e_lp | (apply e_miss; rfl) | apply c_ret | (apply wO; apply o_boxX; rfl; rfl; rfl; exact hX; clear hX; intro _ hX) | (apply wO; apply o_allocX; rfl; exact hX; clear hX; intro _ hX) | (apply wO; apply o_st; rfl; rfl; rfl; (first | exact AggC.s | exact OneC.s); rfl; exact rplE; exact putE; rfl) | (apply wO; apply o_stw; rfl; rfl; exact AggC.s; exact rplE; assumption; rfl; assumption) | (apply wO; apply o_call; rfl; kernel_rfl; exact evsE) | (refine c_if rfl (fun h => absurd h (by first | omega | simp)) (fun h => ?_); clear h) | (refine wg_if rfl rfl (fun h => absurd h (by first | omega | simp)) (fun h => ?_); clear h))); exact hX.h) : T c fr H Φ := hs ⟨h⟩
end Go.Proofs.YtccmhdheoeglmaaGreatDoor
/- Nets at the beginning; both sides. -/
namespace Go.Proofs.YtccmhdheoeglmaaGreatDoor
open Go.RowKit
def zNet : Net := ⟨⟨[]⟩, zSrc, [], [], [], []⟩
def newN (t : Tree) (f y : Int) : Net := ⟨t, ⟨⟨f, y, []⟩, 0, 0, []⟩, List.replicate t.parent.length ⟨0, []⟩, List.replicate t.parent.length zRec, List.replicate t.parent.length [], List.replicate t.parent.length []⟩
def resNewNet (t : Tree) (f y : Int) : Net × Bool := if goodTree t && goodSrc ⟨⟨f, y, []⟩, 0, 0, []⟩ then (newN t f y, true) else (zNet, false)
structure NwN where
  g : Nat
  a : Option Addr
  c : Nat
  F : List Nat
  g1 : Nat
  g2 : Nat
  g3 : Nat
  g4 : Nat
theorem made_z (z : List Value) (n : Nat) : madeCells z.toArray (n * z.length) = ((List.replicate n z).flatten).toArray := by
  have := madeCells_flat z.toArray n
  rw [List.size_toArray] at this
  rw [← Array.toArray_toList (xs := madeCells z.toArray (n * z.length)), this]
set_option maxRecDepth 100000 in
set_option maxHeartbeats 8000000 in
theorem NewNet_f (t : Tree) (f y : Int) (v : Value) (F : List Nat) : Fn Tryz.prog 24 [v, .int .i64 f, .int .i64 y] [.isv ETree v t F] [] (fun (_ : List Value × List Nat) => True) (fun s => .tuple #[.agg s.1.toArray, .bool (resNewNet t f y).2]) (fun s => [.own ONet (.agg s.1.toArray) (resNewNet t f y).1 s.2]) := by
  refine enter Tryz.func24 rfl Tryz.ntmps24 fun w0 => ?_
  refine openTree ?_
  rintro a1 c1 F1 rfl l1
  unfold maxLen at l1
  refine t_nilow EInt 3 ?_
  refine t_nilow EStr 9 ?_
  refine t_nilow EHold 164 ?_
  refine t_nilow OElement 129 ?_
  refine t_nilow OReceiver 90 ?_
  refine t_nilow (OSl EPacket 169) 132 ?_
  refine t_nilow (OSl EPacket 169) 132 ?_
  refine closeONet zNet ?_
  refine go ?_; intros
  refine cf (NewSource_f f y) fun s _ => ?_
  refine t_app ?_
  cases g2 : goodSrc ⟨⟨f, y, []⟩, 0, 0, []⟩
  · rw [show resNewNet t f y = (zNet, false) by unfold resNewNet; rw [g2, Bool.and_false]; rfl, show resNew f y = (zSrc, false) by unfold resNew; rw [g2]; rfl]
    refine go ?_; intros
    refine cf (IsValidTree_f t _ F) fun _ _ => ?_
    refine t_app ?_
    cases g1 : goodTree t
    · refine go ?_; intros
      refine ret ([.slice none 0 0, .int .i64 0, .int .i64 0, .slice none 0 0, .int .i64 0, .int .i64 0, .slice none 0 0, .slice none 0 0, .slice none 0 0, .slice none 0 0, .slice none 0 0], _) trivial rfl
    · refine go ?_; intros
      refine ret ([.slice none 0 0, .int .i64 0, .int .i64 0, .slice none 0 0, .int .i64 0, .int .i64 0, .slice none 0 0, .slice none 0 0, .slice none 0 0, .slice none 0 0, .slice none 0 0], _) trivial rfl
  rw [show resNew f y = (⟨⟨f, y, []⟩, 0, 0, []⟩, true) by unfold resNew; rw [g2]; rfl]
  refine go ?_; intros
  refine cf (IsValidTree_f t _ F) fun _ _ => ?_
  refine t_app ?_
  cases g1 : goodTree t
  · rw [show resNewNet t f y = (zNet, false) by unfold resNewNet; rw [g1]; rfl]
    refine go ?_; intros
    refine ret ([.slice none 0 0, .int .i64 0, .int .i64 0, .slice none 0 0, .int .i64 0, .int .i64 0, .slice none 0 0, .slice none 0 0, .slice none 0 0, .slice none 0 0, .slice none 0 0], _) trivial rfl
  rw [show resNewNet t f y = (newN t f y, true) by unfold resNewNet; rw [g1, g2]; rfl]
  have hn := (goodT g1).n1
  refine go ?_; intros
  refine c_joinS [] [5] (fun z : NwN => [(6, ptr z.g 0 0), (7, .bool true)]) (fun z => [.row z.g 37 0 [] [.slice z.a t.parent.length z.c, .int .i64 f, .int .i64 y, .slice none 0 0, .int .i64 0, .int .i64 0, .slice none 0 0, .slice (some ⟨z.g1, 0, none⟩) t.parent.length t.parent.length, .slice (some ⟨z.g2, 0, none⟩) t.parent.length t.parent.length, .slice (some ⟨z.g3, 0, none⟩) t.parent.length t.parent.length, .slice (some ⟨z.g4, 0, none⟩) t.parent.length t.parent.length] [], .ow EInt 3 (.slice z.a t.parent.length z.c) t.parent z.F, .row z.g1 129 0 [] (List.replicate t.parent.length ([.int .i64 0, .slice none 0 0] : List Value)).flatten [], .row z.g2 90 0 [] (List.replicate t.parent.length ([.bool false, .int .i64 0, .int .i64 0, .slice none 0 0, .slice none 0 0] : List Value)).flatten [], .row z.g3 132 0 [] (List.replicate t.parent.length ([.slice none 0 0] : List Value)).flatten [], .row z.g4 132 0 [] (List.replicate t.parent.length ([.slice none 0 0] : List Value)).flatten []]) (fun _ => True) ?_ fun z _ => ?_
  · refine d_start [0, 3] [] ?_
    refine dt 0 ?_
    refine dt 1 ?_
    refine dt 4 ?_
    refine dt 5 ?_
    refine dt 7 ?_
    refine dt 9 ?_
    refine dt 11 ?_
    iterate 5 (all_goals (
      refine dP [2, 6, 8, 10, 12] (by kernel_rfl) (by kernel_rfl) (fun i hi => ?_)
      simp only [List.mem_cons, List.not_mem_nil, or_false] at hi
      rcases hi with rfl | rfl | rfl | rfl | rfl
      all_goals intro hc
      all_goals first
        | exact (no_of hc (by decide +kernel)).elim
        | (refine dE 2 (by rw [List.getElem?_toArray]; rfl) ?_; apply o_call; rfl; kernel_rfl; exact evsE; refine cn (fun w st => Clone_Int _ t.parent F1 w (st.get (p := .sl EInt (.slice a1 t.parent.length c1) t.parent F1) (by exact memE)).2 (by omega)) fun ya yc yF => ?_; refine dk ?_; refine dt 3 ?_; clear hc)
        | (refine dE 6 (by rw [List.getElem?_toArray]; rfl) ?_; refine o_ms t.parent.length (cs := (List.replicate t.parent.length ([.int .i64 0, .slice none 0 0] : List Value)).flatten) rfl rfl rfl (made_z _ _) (by omega) (by omega) fun g => ?_; refine dk ?_; clear hc)
        | (refine dE 8 (by rw [List.getElem?_toArray]; rfl) ?_; refine o_ms t.parent.length (cs := (List.replicate t.parent.length ([.bool false, .int .i64 0, .int .i64 0, .slice none 0 0, .slice none 0 0] : List Value)).flatten) rfl rfl rfl (made_z _ _) (by omega) (by omega) fun g => ?_; refine dk ?_; clear hc)
        | (refine dE 10 (by rw [List.getElem?_toArray]; rfl) ?_; refine o_ms t.parent.length (cs := (List.replicate t.parent.length ([.slice none 0 0] : List Value)).flatten) rfl rfl rfl (made_z _ _) (by omega) (by omega) fun g => ?_; refine dk ?_; clear hc)
        | (refine dE 12 (by rw [List.getElem?_toArray]; rfl) ?_; refine o_ms t.parent.length (cs := (List.replicate t.parent.length ([.slice none 0 0] : List Value)).flatten) rfl rfl rfl (made_z _ _) (by omega) (by omega) fun g => ?_; refine dk ?_; clear hc)))
    all_goals (
      refine dt 13 ?_
      refine dO 14 (by kernel_rfl) (by rw [List.getElem?_toArray]; rfl) ?_
      apply o_st; rfl; rfl; rfl; (first | exact AggC.s | exact OneC.s); rfl; exact rplE; exact putE; rfl
      refine dk ?_
      refine dt 15 ?_
      refine dd ?_
      refine n_join (⟨_, ya, yc, yF, _, _, _, _⟩ : NwN) trivial)
  refine t_row (E := OElement) (xs := List.replicate t.parent.length ⟨0, []⟩) (fun w => Flat.rep0 (E := OElement) (w := w) (zs := [.int .i64 0, .slice none 0 0]) (z := (⟨0, []⟩ : Element)) ⟨_, rfl, .inl ⟨rfl, rfl, rfl⟩⟩ _) ?_ (by rw [List.length_replicate]; omega)
  refine t_row (E := OReceiver) (xs := List.replicate t.parent.length zRec) (fun w => Flat.rep0 (E := OReceiver) (w := w) (zs := [.bool false, .int .i64 0, .int .i64 0, .slice none 0 0, .slice none 0 0]) (z := zRec) ⟨_, _, [], [], rfl, .inl ⟨rfl, rfl, rfl⟩, .inl ⟨rfl, rfl, rfl⟩, rfl⟩ _) ?_ (by rw [List.length_replicate]; omega)
  refine t_row (E := OSl EPacket 169) (g := z.g3) (xs := List.replicate t.parent.length []) (fun w => Flat.rep0 (E := OSl EPacket 169) (w := w) (zs := [.slice none 0 0]) (z := ([] : List Packet)) ⟨_, rfl, .inl ⟨rfl, rfl, rfl⟩⟩ _) ?_ (by rw [List.length_replicate]; omega)
  refine t_row (E := OSl EPacket 169) (g := z.g4) (xs := List.replicate t.parent.length []) (fun w => Flat.rep0 (E := OSl EPacket 169) (w := w) (zs := [.slice none 0 0]) (z := ([] : List Packet)) ⟨_, rfl, .inl ⟨rfl, rfl, rfl⟩⟩ _) ?_ (by rw [List.length_replicate]; omega)
  refine t_nilow EStr 9 ?_
  refine t_nilow EHold 164 ?_
  refine closeONet (newN t f y) (a6 := some ⟨z.g3, 0, none⟩) (a7 := some ⟨z.g4, 0, none⟩) ?_
  rw [show (newN t f y).elements.length = t.parent.length from List.length_replicate, show (newN t f y).receivers.length = t.parent.length from List.length_replicate, show (newN t f y).down.length = t.parent.length from List.length_replicate, show (newN t f y).up.length = t.parent.length from List.length_replicate]
  simp only [List.length_replicate]
  refine go ?_; intros
  refine ret ([.slice z.a t.parent.length z.c, .int .i64 f, .int .i64 y, .slice none 0 0, .int .i64 0, .int .i64 0, .slice none 0 0, .slice (some ⟨z.g1, 0, none⟩) t.parent.length t.parent.length, .slice (some ⟨z.g2, 0, none⟩) t.parent.length t.parent.length, .slice (some ⟨z.g3, 0, none⟩) t.parent.length t.parent.length, .slice (some ⟨z.g4, 0, none⟩) t.parent.length t.parent.length], _) trivial rfl
set_option maxRecDepth 100000 in
set_option maxHeartbeats 8000000 in
theorem specNewNet_f (t : Tree) (f y : Int) (v : Value) (F : List Nat) : Fn Tryz.prog 22 [v, .int .i64 f, .int .i64 y] [.isv ETree v t F] [] (fun (_ : List Value × List Nat) => True) (fun s => .tuple #[.agg s.1.toArray, .bool (resNewNet t f y).2]) (fun s => [.own ONet (.agg s.1.toArray) (resNewNet t f y).1 s.2]) := by
  refine enter Tryz.func22 rfl Tryz.ntmps22 fun w0 => ?_
  refine openTree ?_
  rintro a1 c1 F1 rfl l1
  unfold maxLen at l1
  refine t_nilow EInt 3 ?_
  refine t_nilow EStr 9 ?_
  refine t_nilow EHold 164 ?_
  refine t_nilow OElement 129 ?_
  refine t_nilow OReceiver 90 ?_
  refine t_nilow (OSl EPacket 169) 132 ?_
  refine t_nilow (OSl EPacket 169) 132 ?_
  refine closeONet zNet ?_
  refine go ?_; intros
  refine cf (specNewSource_f f y) fun s _ => ?_
  refine t_app ?_
  cases g2 : goodSrc ⟨⟨f, y, []⟩, 0, 0, []⟩
  · rw [show resNewNet t f y = (zNet, false) by unfold resNewNet; rw [g2, Bool.and_false]; rfl, show resNew f y = (zSrc, false) by unfold resNew; rw [g2]; rfl]
    refine go ?_; intros
    refine cf (l6Good_f t _ F) fun _ _ => ?_
    refine t_app ?_
    cases g1 : goodTree t
    · refine go ?_; intros
      refine ret ([.slice none 0 0, .int .i64 0, .int .i64 0, .slice none 0 0, .int .i64 0, .int .i64 0, .slice none 0 0, .slice none 0 0, .slice none 0 0, .slice none 0 0, .slice none 0 0], _) trivial rfl
    · refine go ?_; intros
      refine ret ([.slice none 0 0, .int .i64 0, .int .i64 0, .slice none 0 0, .int .i64 0, .int .i64 0, .slice none 0 0, .slice none 0 0, .slice none 0 0, .slice none 0 0, .slice none 0 0], _) trivial rfl
  rw [show resNew f y = (⟨⟨f, y, []⟩, 0, 0, []⟩, true) by unfold resNew; rw [g2]; rfl]
  refine go ?_; intros
  refine cf (l6Good_f t _ F) fun _ _ => ?_
  refine t_app ?_
  cases g1 : goodTree t
  · rw [show resNewNet t f y = (zNet, false) by unfold resNewNet; rw [g1]; rfl]
    refine go ?_; intros
    refine ret ([.slice none 0 0, .int .i64 0, .int .i64 0, .slice none 0 0, .int .i64 0, .int .i64 0, .slice none 0 0, .slice none 0 0, .slice none 0 0, .slice none 0 0, .slice none 0 0], _) trivial rfl
  rw [show resNewNet t f y = (newN t f y, true) by unfold resNewNet; rw [g1, g2]; rfl]
  have hn := (goodT g1).n1
  refine go ?_; intros
  refine c_joinS [] [5] (fun z : NwN => [(6, ptr z.g 0 0), (7, .bool true)]) (fun z => [.row z.g 37 0 [] [.slice z.a t.parent.length z.c, .int .i64 f, .int .i64 y, .slice none 0 0, .int .i64 0, .int .i64 0, .slice none 0 0, .slice (some ⟨z.g1, 0, none⟩) t.parent.length t.parent.length, .slice (some ⟨z.g2, 0, none⟩) t.parent.length t.parent.length, .slice (some ⟨z.g3, 0, none⟩) t.parent.length t.parent.length, .slice (some ⟨z.g4, 0, none⟩) t.parent.length t.parent.length] [], .ow EInt 3 (.slice z.a t.parent.length z.c) t.parent z.F, .row z.g1 129 0 [] (List.replicate t.parent.length ([.int .i64 0, .slice none 0 0] : List Value)).flatten [], .row z.g2 90 0 [] (List.replicate t.parent.length ([.bool false, .int .i64 0, .int .i64 0, .slice none 0 0, .slice none 0 0] : List Value)).flatten [], .row z.g3 132 0 [] (List.replicate t.parent.length ([.slice none 0 0] : List Value)).flatten [], .row z.g4 132 0 [] (List.replicate t.parent.length ([.slice none 0 0] : List Value)).flatten []]) (fun _ => True) ?_ fun z _ => ?_
  · refine d_start [0, 3] [] ?_
    refine dt 0 ?_
    refine dt 1 ?_
    refine dt 4 ?_
    refine dt 5 ?_
    refine dt 7 ?_
    refine dt 9 ?_
    refine dt 11 ?_
    iterate 5 (all_goals (
      refine dP [2, 6, 8, 10, 12] (by kernel_rfl) (by kernel_rfl) (fun i hi => ?_)
      simp only [List.mem_cons, List.not_mem_nil, or_false] at hi
      rcases hi with rfl | rfl | rfl | rfl | rfl
      all_goals intro hc
      all_goals first
        | exact (no_of hc (by decide +kernel)).elim
        | (refine dE 2 (by rw [List.getElem?_toArray]; rfl) ?_; apply o_call; rfl; kernel_rfl; exact evsE; refine cn (fun w st => l1Own_c _ t.parent F1 w (st.get (p := .sl EInt (.slice a1 t.parent.length c1) t.parent F1) (by exact memE)).2 (by omega)) fun ya yc yF => ?_; refine dk ?_; refine dt 3 ?_; clear hc)
        | (refine dE 6 (by rw [List.getElem?_toArray]; rfl) ?_; refine o_ms t.parent.length (cs := (List.replicate t.parent.length ([.int .i64 0, .slice none 0 0] : List Value)).flatten) rfl rfl rfl (made_z _ _) (by omega) (by omega) fun g => ?_; refine dk ?_; clear hc)
        | (refine dE 8 (by rw [List.getElem?_toArray]; rfl) ?_; refine o_ms t.parent.length (cs := (List.replicate t.parent.length ([.bool false, .int .i64 0, .int .i64 0, .slice none 0 0, .slice none 0 0] : List Value)).flatten) rfl rfl rfl (made_z _ _) (by omega) (by omega) fun g => ?_; refine dk ?_; clear hc)
        | (refine dE 10 (by rw [List.getElem?_toArray]; rfl) ?_; refine o_ms t.parent.length (cs := (List.replicate t.parent.length ([.slice none 0 0] : List Value)).flatten) rfl rfl rfl (made_z _ _) (by omega) (by omega) fun g => ?_; refine dk ?_; clear hc)
        | (refine dE 12 (by rw [List.getElem?_toArray]; rfl) ?_; refine o_ms t.parent.length (cs := (List.replicate t.parent.length ([.slice none 0 0] : List Value)).flatten) rfl rfl rfl (made_z _ _) (by omega) (by omega) fun g => ?_; refine dk ?_; clear hc)))
    all_goals (
      refine dt 13 ?_
      refine dO 14 (by kernel_rfl) (by rw [List.getElem?_toArray]; rfl) ?_
      apply o_st; rfl; rfl; rfl; (first | exact AggC.s | exact OneC.s); rfl; exact rplE; exact putE; rfl
      refine dk ?_
      refine dt 15 ?_
      refine dd ?_
      refine n_join (⟨_, ya, yc, yF, _, _, _, _⟩ : NwN) trivial)
  refine t_row (E := OElement) (xs := List.replicate t.parent.length ⟨0, []⟩) (fun w => Flat.rep0 (E := OElement) (w := w) (zs := [.int .i64 0, .slice none 0 0]) (z := (⟨0, []⟩ : Element)) ⟨_, rfl, .inl ⟨rfl, rfl, rfl⟩⟩ _) ?_ (by rw [List.length_replicate]; omega)
  refine t_row (E := OReceiver) (xs := List.replicate t.parent.length zRec) (fun w => Flat.rep0 (E := OReceiver) (w := w) (zs := [.bool false, .int .i64 0, .int .i64 0, .slice none 0 0, .slice none 0 0]) (z := zRec) ⟨_, _, [], [], rfl, .inl ⟨rfl, rfl, rfl⟩, .inl ⟨rfl, rfl, rfl⟩, rfl⟩ _) ?_ (by rw [List.length_replicate]; omega)
  refine t_row (E := OSl EPacket 169) (g := z.g3) (xs := List.replicate t.parent.length []) (fun w => Flat.rep0 (E := OSl EPacket 169) (w := w) (zs := [.slice none 0 0]) (z := ([] : List Packet)) ⟨_, rfl, .inl ⟨rfl, rfl, rfl⟩⟩ _) ?_ (by rw [List.length_replicate]; omega)
  refine t_row (E := OSl EPacket 169) (g := z.g4) (xs := List.replicate t.parent.length []) (fun w => Flat.rep0 (E := OSl EPacket 169) (w := w) (zs := [.slice none 0 0]) (z := ([] : List Packet)) ⟨_, rfl, .inl ⟨rfl, rfl, rfl⟩⟩ _) ?_ (by rw [List.length_replicate]; omega)
  refine t_nilow EStr 9 ?_
  refine t_nilow EHold 164 ?_
  refine closeONet (newN t f y) (a6 := some ⟨z.g3, 0, none⟩) (a7 := some ⟨z.g4, 0, none⟩) ?_
  rw [show (newN t f y).elements.length = t.parent.length from List.length_replicate, show (newN t f y).receivers.length = t.parent.length from List.length_replicate, show (newN t f y).down.length = t.parent.length from List.length_replicate, show (newN t f y).up.length = t.parent.length from List.length_replicate]
  simp only [List.length_replicate]
  refine go ?_; intros
  refine ret ([.slice z.a t.parent.length z.c, .int .i64 f, .int .i64 y, .slice none 0 0, .int .i64 0, .int .i64 0, .slice none 0 0, .slice (some ⟨z.g1, 0, none⟩) t.parent.length t.parent.length, .slice (some ⟨z.g2, 0, none⟩) t.parent.length t.parent.length, .slice (some ⟨z.g3, 0, none⟩) t.parent.length t.parent.length, .slice (some ⟨z.g4, 0, none⟩) t.parent.length t.parent.length], _) trivial rfl
end Go.Proofs.YtccmhdheoeglmaaGreatDoor
/- The type Log of the exact laws: how it reads, how it is owned; the walks of its size, copy, equality, mark and held. Written by wip/gentypes.py. -/
namespace Go.Proofs.YtccmhdheoeglmaaGreatDoor
open Go.RowKit
structure Log where
  durable : ByteArray
  pending : ByteArray
  count : Int
/-- read -/
def ELog : Elem Log where
  sz := 3
  rep _ cs x F := cs = [.string x.durable, .string x.pending, .int .i64 x.count] ∧ x.durable.size ≤ maxLen ∧ x.pending.size ≤ maxLen ∧ F = []
  len h := by obtain ⟨rfl, s1, s2, rfl⟩ := h; rfl
  lt h := by obtain ⟨rfl, s1, s2, rfl⟩ := h; simp
  frame h _ := h
set_option maxHeartbeats 1600000 in
theorem eqLog_c (va vb : Value) (x : Log) (Fa Fb : List Nat) (w : World) (ha : IsV ELog w va x Fa) (hb : IsV ELog w vb x Fb) :
    Calls Tryz.prog 26 #[va, vb] w fun e w' => e = .returned (.bool true) ∧ Below w.heap.size w w' := by
  obtain ⟨_, rfl, rfl, s1, s2, rfl⟩ := ha
  obtain ⟨_, rfl, rfl, t1, t2, rfl⟩ := hb
  have hB0 : ∀ A B : Obj, Below w.heap.size w ((w.alloc A).alloc B) := fun A B => ((Below.refl _ _).alloc (Nat.le_refl _) _).alloc (by simp) _
  have hE : ∀ z : Int, (z != z) = false := fun z => by simp
  go_enter Tryz.func26, Tryz.ntmps26
  go_wp2_with fail
  go_ret
  exact ⟨rfl, hB0 _ _⟩
end Go.Proofs.YtccmhdheoeglmaaGreatDoor
/- The type Console of the exact laws: how it reads, how it is owned; the walks of its size, copy, equality, mark and held. Written by wip/gentypes.py. -/
namespace Go.Proofs.YtccmhdheoeglmaaGreatDoor
open Go.RowKit
structure Console where
  net : Net
  log : Log
/-- read -/
def EConsole : Elem Console where
  sz := 14
  rep w cs x F := ∃ v1 v2 v3 v4 v5 v6 v7 F1 F2 F3 F4 F5 F6 F7, cs = [v1, .int .i64 x.net.source.window.trail, .int .i64 x.net.source.window.size, v2, .int .i64 x.net.source.clock, .int .i64 x.net.source.quiet, v3, v4, v5, v6, v7, .string x.log.durable, .string x.log.pending, .int .i64 x.log.count] ∧ x.log.durable.size ≤ maxLen ∧ x.log.pending.size ≤ maxLen ∧ Sl EInt w v1 x.net.tree.parent F1 ∧ Sl EStr w v2 x.net.source.window.items F2 ∧ Sl EHold w v3 x.net.source.holds F3 ∧ Sl EElement w v4 x.net.elements F4 ∧ Sl EReceiver w v5 x.net.receivers F5 ∧ Sl (ESl EPacket (by decide)) w v6 x.net.down F6 ∧ Sl (ESl EPacket (by decide)) w v7 x.net.up F7 ∧ F = F1 ++ F2 ++ F3 ++ F4 ++ F5 ++ F6 ++ F7
  len h := by obtain ⟨v1, v2, v3, v4, v5, v6, v7, F1, F2, F3, F4, F5, F6, F7, rfl, s1, s2, h1, h2, h3, h4, h5, h6, h7, rfl⟩ := h; rfl
  lt h := by
    obtain ⟨v1, v2, v3, v4, v5, v6, v7, F1, F2, F3, F4, F5, F6, F7, rfl, s1, s2, h1, h2, h3, h4, h5, h6, h7, rfl⟩ := h
    intro b hb
    simp only [List.mem_append] at hb
    rcases hb with (((((hb | hb) | hb) | hb) | hb) | hb) | hb
    · exact h1.lt (by decide) b hb
    · exact h2.lt (by decide) b hb
    · exact h3.lt (by decide) b hb
    · exact h4.lt (by decide) b hb
    · exact h5.lt (by decide) b hb
    · exact h6.lt (by decide) b hb
    · exact h7.lt (by decide) b hb
  frame h hF := by obtain ⟨v1, v2, v3, v4, v5, v6, v7, F1, F2, F3, F4, F5, F6, F7, rfl, s1, s2, h1, h2, h3, h4, h5, h6, h7, rfl⟩ := h; exact ⟨v1, v2, v3, v4, v5, v6, v7, F1, F2, F3, F4, F5, F6, F7, rfl, s1, s2, h1.frame fun b hb => hF b (by simp [hb]), h2.frame fun b hb => hF b (by simp [hb]), h3.frame fun b hb => hF b (by simp [hb]), h4.frame fun b hb => hF b (by simp [hb]), h5.frame fun b hb => hF b (by simp [hb]), h6.frame fun b hb => hF b (by simp [hb]), h7.frame fun b hb => hF b (by simp [hb]), rfl⟩
/-- owned -/
def OConsole : Elem Console where
  sz := 14
  rep w cs x F := ∃ v1 v2 v3 v4 v5 v6 v7 F1 F2 F3 F4 F5 F6 F7, cs = [v1, .int .i64 x.net.source.window.trail, .int .i64 x.net.source.window.size, v2, .int .i64 x.net.source.clock, .int .i64 x.net.source.quiet, v3, v4, v5, v6, v7, .string x.log.durable, .string x.log.pending, .int .i64 x.log.count] ∧ x.log.durable.size ≤ maxLen ∧ x.log.pending.size ≤ maxLen ∧ Ow EInt 3 w v1 x.net.tree.parent F1 ∧ Ow EStr 9 w v2 x.net.source.window.items F2 ∧ Ow EHold 164 w v3 x.net.source.holds F3 ∧ Ow OElement 129 w v4 x.net.elements F4 ∧ Ow OReceiver 90 w v5 x.net.receivers F5 ∧ Ow (OSl EPacket 169) 132 w v6 x.net.down F6 ∧ Ow (OSl EPacket 169) 132 w v7 x.net.up F7 ∧ F = F1 ++ F2 ++ F3 ++ F4 ++ F5 ++ F6 ++ F7
  len h := by obtain ⟨v1, v2, v3, v4, v5, v6, v7, F1, F2, F3, F4, F5, F6, F7, rfl, s1, s2, h1, h2, h3, h4, h5, h6, h7, rfl⟩ := h; rfl
  lt h := by
    obtain ⟨v1, v2, v3, v4, v5, v6, v7, F1, F2, F3, F4, F5, F6, F7, rfl, s1, s2, h1, h2, h3, h4, h5, h6, h7, rfl⟩ := h
    intro b hb
    simp only [List.mem_append] at hb
    rcases hb with (((((hb | hb) | hb) | hb) | hb) | hb) | hb
    · exact h1.lt b hb
    · exact h2.lt b hb
    · exact h3.lt b hb
    · exact h4.lt b hb
    · exact h5.lt b hb
    · exact h6.lt b hb
    · exact h7.lt b hb
  frame h hF := by obtain ⟨v1, v2, v3, v4, v5, v6, v7, F1, F2, F3, F4, F5, F6, F7, rfl, s1, s2, h1, h2, h3, h4, h5, h6, h7, rfl⟩ := h; exact ⟨v1, v2, v3, v4, v5, v6, v7, F1, F2, F3, F4, F5, F6, F7, rfl, s1, s2, h1.frame fun b hb => hF b (by simp [hb]), h2.frame fun b hb => hF b (by simp [hb]), h3.frame fun b hb => hF b (by simp [hb]), h4.frame fun b hb => hF b (by simp [hb]), h5.frame fun b hb => hF b (by simp [hb]), h6.frame fun b hb => hF b (by simp [hb]), h7.frame fun b hb => hF b (by simp [hb]), rfl⟩
theorem one_OConsole : One OConsole := fun h u hu => by
  obtain ⟨v1, v2, v3, v4, v5, v6, v7, F1, F2, F3, F4, F5, F6, F7, rfl, s1, s2, h1, h2, h3, h4, h5, h6, h7, rfl⟩ := h
  simp only [List.mem_cons, List.not_mem_nil, or_false] at hu
  rcases hu with rfl | rfl | rfl | rfl | rfl | rfl | rfl | rfl | rfl | rfl | rfl | rfl | rfl | rfl
  · exact h1.one
  · rfl
  · rfl
  · exact h2.one
  · rfl
  · rfl
  · exact h3.one
  · exact h4.one
  · exact h5.one
  · exact h6.one
  · exact h7.one
  · rfl
  · rfl
  · rfl
theorem weak_Console : Weak OConsole EConsole := ⟨rfl, fun h => by
  obtain ⟨v1, v2, v3, v4, v5, v6, v7, F1, F2, F3, F4, F5, F6, F7, rfl, s1, s2, h1, h2, h3, h4, h5, h6, h7, rfl⟩ := h
  obtain ⟨G1, g1, k1⟩ := h1.sl (Weak.refl _)
  obtain ⟨G2, g2, k2⟩ := h2.sl (Weak.refl _)
  obtain ⟨G3, g3, k3⟩ := h3.sl (Weak.refl _)
  obtain ⟨G4, g4, k4⟩ := h4.sl weak_Element
  obtain ⟨G5, g5, k5⟩ := h5.sl weak_Receiver
  obtain ⟨G6, g6, k6⟩ := h6.sl (weak_OSl (Weak.refl _) (by decide) _)
  obtain ⟨G7, g7, k7⟩ := h7.sl (weak_OSl (Weak.refl _) (by decide) _)
  refine ⟨G1 ++ G2 ++ G3 ++ G4 ++ G5 ++ G6 ++ G7, ?_, v1, v2, v3, v4, v5, v6, v7, G1, G2, G3, G4, G5, G6, G7, rfl, s1, s2, k1, k2, k3, k4, k5, k6, k7, rfl⟩
  intro b hb
  simp only [List.mem_append] at hb ⊢
  rcases hb with (((((hb | hb) | hb) | hb) | hb) | hb) | hb
  · simp [g1 b hb]
  · simp [g2 b hb]
  · simp [g3 b hb]
  · simp [g4 b hb]
  · simp [g5 b hb]
  · simp [g6 b hb]
  · simp [g7 b hb]⟩
/-- the marks of a value: its slices alone -/
def cvConsole (x : Console) : Nat := cvNet x.net
def mvConsole (k : Int) (x : Console) : Console := ⟨mvNet (k) x.net, x.log⟩
set_option maxHeartbeats 1600000 in
theorem eqConsole_c (va vb : Value) (x : Console) (Fa Fb : List Nat) (w : World) (ha : IsV EConsole w va x Fa) (hb : IsV EConsole w vb x Fb) :
    Calls Tryz.prog 10 #[va, vb] w fun e w' => e = .returned (.bool true) ∧ Below w.heap.size w w' := by
  obtain ⟨_, rfl, v1, v2, v3, v4, v5, v6, v7, F1, F2, F3, F4, F5, F6, F7, rfl, s1, s2, h1, h2, h3, h4, h5, h6, h7, rfl⟩ := ha
  obtain ⟨_, rfl, u1, u2, u3, u4, u5, u6, u7, G1, G2, G3, G4, G5, G6, G7, rfl, t1, t2, k1, k2, k3, k4, k5, k6, k7, rfl⟩ := hb
  have hB0 : ∀ A B : Obj, Below w.heap.size w ((w.alloc A).alloc B) := fun A B => ((Below.refl _ _).alloc (Nat.le_refl _) _).alloc (by simp) _
  have hE : ∀ z : Int, (z != z) = false := fun z => by simp
  go_enter Tryz.func10, Tryz.ntmps10
  go_wp2_with fail
  refine (eqNet_c _ _ x.net _ _ _ ⟨_, rfl, _, _, _, _, _, _, _, _, _, _, _, _, _, _, rfl, h1.below (by decide) (hB0 _ _), h2.below (by decide) (hB0 _ _), h3.below (by decide) (hB0 _ _), h4.below (by decide) (hB0 _ _), h5.below (by decide) (hB0 _ _), h6.below (by decide) (hB0 _ _), h7.below (by decide) (hB0 _ _), rfl⟩ ⟨_, rfl, _, _, _, _, _, _, _, _, _, _, _, _, _, _, rfl, k1.below (by decide) (hB0 _ _), k2.below (by decide) (hB0 _ _), k3.below (by decide) (hB0 _ _), k4.below (by decide) (hB0 _ _), k5.below (by decide) (hB0 _ _), k6.below (by decide) (hB0 _ _), k7.below (by decide) (hB0 _ _), rfl⟩).mono ?_
  rintro e w1 ⟨rfl, hb1⟩
  have r0 := Row.below (g := w.heap.size) (t := 41) (cs := [v1, .int .i64 x.net.source.window.trail, .int .i64 x.net.source.window.size, v2, .int .i64 x.net.source.clock, .int .i64 x.net.source.quiet, v3, v4, v5, v6, v7, .string x.log.durable, .string x.log.pending, .int .i64 x.log.count]) (by simp [row_alloc] <;> omega) hb1
  have r1 := Row.below (g := w.heap.size + 1) (t := 41) (cs := [u1, .int .i64 x.net.source.window.trail, .int .i64 x.net.source.window.size, u2, .int .i64 x.net.source.clock, .int .i64 x.net.source.quiet, u3, u4, u5, u6, u7, .string x.log.durable, .string x.log.pending, .int .i64 x.log.count]) (by simp [row_alloc] <;> omega) hb1
  have hB := tr (hB0 _ _) hb1 (Nat.le_refl _)
  clear hb1
  have c0 := r0.cells; have c1 := r1.cells
  go_wp2_with fail
  refine (eqLog_c _ _ x.log _ _ _ ⟨_, rfl, rfl, s1, s2, rfl⟩ ⟨_, rfl, rfl, t1, t2, rfl⟩).mono ?_
  rintro e w2 ⟨rfl, hb2⟩
  have r0 := r0.below hb2; have r1 := r1.below hb2; have hB := tr hB hb2 (Nat.le_refl _)
  clear hb2
  have c0 := r0.cells; have c1 := r1.cells
  go_wp2_with fail
  go_ret
  exact ⟨rfl, hB⟩
-- markConsole: a nested struct with several slices is not written here
set_option maxHeartbeats 1600000 in
theorem heldConsole_c (v : Value) (x : Console) (F : List Nat) (k0 : Int) (w : World) (h : IsV EConsole w v (mvConsole k0 x) F) (p0 : 0 ≤ k0) (p1 : k0 + cvConsole x ≤ 1099511627776) :
    Calls Tryz.prog 14 #[v, .int .i64 k0] w fun e w' => e = .returned (.int .i64 (k0 + cvConsole x)) ∧ Below w.heap.size w w' := by
  obtain ⟨_, rfl, v1, v2, v3, v4, v5, v6, v7, F1, F2, F3, F4, F5, F6, F7, rfl, s1, s2, h1, h2, h3, h4, h5, h6, h7, rfl⟩ := h
  unfold cvConsole at p1 ⊢
  have hB0 : ∀ A : Obj, Below w.heap.size w (w.alloc A) := fun A => (Below.refl _ _).alloc (Nat.le_refl _) _
  go_enter Tryz.func14, Tryz.ntmps14
  go_wp2_with fail
  refine (heldNet_c _ x.net _ (k0) _ ⟨_, rfl, _, _, _, _, _, _, _, _, _, _, _, _, _, _, rfl, h1.below (by decide) (hB0 _), h2.below (by decide) (hB0 _), h3.below (by decide) (hB0 _), h4.below (by decide) (hB0 _), h5.below (by decide) (hB0 _), h6.below (by decide) (hB0 _), h7.below (by decide) (hB0 _), rfl⟩ (by omega) (by omega)).mono ?_
  rintro e w1 ⟨rfl, hb1⟩
  have r0 := Row.below (g := w.heap.size) (t := 41) (cs := [v1, .int .i64 x.net.source.window.trail, .int .i64 x.net.source.window.size, v2, .int .i64 x.net.source.clock, .int .i64 x.net.source.quiet, v3, v4, v5, v6, v7, .string x.log.durable, .string x.log.pending, .int .i64 x.log.count]) (by simp [row_alloc, mvConsole, mvNet, mvTree, mvSource, mvSendWindow]) hb1
  have hB := tr (hB0 _) hb1 (Nat.le_refl _)
  clear hb1
  have c0 := r0.cells
  go_wp2_with fail
  go_ret
  exact ⟨ret_int (by omega), hB⟩
end Go.Proofs.YtccmhdheoeglmaaGreatDoor
/- Structs of type Console in a walk's state: opened, closed. -/
namespace Go.Proofs.YtccmhdheoeglmaaGreatDoor
open Go.RowKit
section
variable {c : Cx} {fr : Fr} {H : List Pc} {Φ : Gl}
theorem openOConsole {v : Value} {x : Console} {F : List Nat} {S : List Pc} (h : ∀ (a1 : Option Addr) (c1 : Nat) (F1 : List Nat) (a2 : Option Addr) (c2 : Nat) (F2 : List Nat) (a3 : Option Addr) (c3 : Nat) (F3 : List Nat) (a4 : Option Addr) (c4 : Nat) (F4 : List Nat) (a5 : Option Addr) (c5 : Nat) (F5 : List Nat) (a6 : Option Addr) (c6 : Nat) (F6 : List Nat) (a7 : Option Addr) (c7 : Nat) (F7 : List Nat), v = .agg #[.slice a1 x.net.tree.parent.length c1, .int .i64 x.net.source.window.trail, .int .i64 x.net.source.window.size, .slice a2 x.net.source.window.items.length c2, .int .i64 x.net.source.clock, .int .i64 x.net.source.quiet, .slice a3 x.net.source.holds.length c3, .slice a4 x.net.elements.length c4, .slice a5 x.net.receivers.length c5, .slice a6 x.net.down.length c6, .slice a7 x.net.up.length c7, .string x.log.durable, .string x.log.pending, .int .i64 x.log.count] → x.log.durable.size ≤ maxLen → x.log.pending.size ≤ maxLen → x.net.tree.parent.length ≤ maxLen → x.net.source.window.items.length ≤ maxLen → x.net.source.holds.length ≤ maxLen → x.net.elements.length ≤ maxLen → x.net.receivers.length ≤ maxLen → x.net.down.length ≤ maxLen → x.net.up.length ≤ maxLen → T c fr (.ow EInt 3 (.slice a1 x.net.tree.parent.length c1) x.net.tree.parent F1 :: .ow EStr 9 (.slice a2 x.net.source.window.items.length c2) x.net.source.window.items F2 :: .ow EHold 164 (.slice a3 x.net.source.holds.length c3) x.net.source.holds F3 :: .ow OElement 129 (.slice a4 x.net.elements.length c4) x.net.elements F4 :: .ow OReceiver 90 (.slice a5 x.net.receivers.length c5) x.net.receivers F5 :: .ow (OSl EPacket 169) 132 (.slice a6 x.net.down.length c6) x.net.down F6 :: .ow (OSl EPacket 169) 132 (.slice a7 x.net.up.length c7) x.net.up F7 :: S) Φ) (hp : Pick H (.own OConsole v x F) S := by (repeat (first | exact .here | apply Pick.there)); first | done | fail) : T c fr H Φ := .mk fun a w s g => by
  have z1 := s.pick hp
  obtain ⟨hn, cs, rfl, v1, v2, v3, v4, v5, v6, v7, G1, G2, G3, G4, G5, G6, G7, rfl, s1, s2, h1, h2, h3, h4, h5, h6, h7, rfl⟩ := z1.on (.own OConsole v x F) (by simp)
  obtain ⟨a1, c1, rfl⟩ := h1.slice; have l1 := h1.len
  obtain ⟨a2, c2, rfl⟩ := h2.slice; have l2 := h2.len
  obtain ⟨a3, c3, rfl⟩ := h3.slice; have l3 := h3.len
  obtain ⟨a4, c4, rfl⟩ := h4.slice; have l4 := h4.len
  obtain ⟨a5, c5, rfl⟩ := h5.slice; have l5 := h5.len
  obtain ⟨a6, c6, rfl⟩ := h6.slice; have l6 := h6.len
  obtain ⟨a7, c7, rfl⟩ := h7.slice; have l7 := h7.len
  have hn2 := hn; simp only [List.nodup_append, List.mem_append] at hn2
  refine (h a1 c1 G1 a2 c2 G2 a3 c3 G3 a4 c4 G4 a5 c5 G5 a6 c6 G6 a7 c7 G7 rfl s1 s2 l1 l2 l3 l4 l5 l6 l7).h a w (St.turn (M := [.own OConsole (.agg #[.slice a1 x.net.tree.parent.length c1, .int .i64 x.net.source.window.trail, .int .i64 x.net.source.window.size, .slice a2 x.net.source.window.items.length c2, .int .i64 x.net.source.clock, .int .i64 x.net.source.quiet, .slice a3 x.net.source.holds.length c3, .slice a4 x.net.elements.length c4, .slice a5 x.net.receivers.length c5, .slice a6 x.net.down.length c6, .slice a7 x.net.up.length c7, .string x.log.durable, .string x.log.pending, .int .i64 x.log.count]) x _]) (N := [.ow EInt 3 (.slice a1 x.net.tree.parent.length c1) x.net.tree.parent G1, .ow EStr 9 (.slice a2 x.net.source.window.items.length c2) x.net.source.window.items G2, .ow EHold 164 (.slice a3 x.net.source.holds.length c3) x.net.source.holds G3, .ow OElement 129 (.slice a4 x.net.elements.length c4) x.net.elements G4, .ow OReceiver 90 (.slice a5 x.net.receivers.length c5) x.net.receivers G5, .ow (OSl EPacket 169) 132 (.slice a6 x.net.down.length c6) x.net.down G6, .ow (OSl EPacket 169) 132 (.slice a7 x.net.up.length c7) x.net.up G7]) z1 (Keep.refl _ w) ?_ ?_ ?_) g
  · intro q hq; simp only [List.mem_cons, List.not_mem_nil, or_false] at hq
    rcases hq with rfl | rfl | rfl | rfl | rfl | rfl | rfl
    · exact ⟨(List.nodup_append.1 (List.nodup_append.1 (List.nodup_append.1 (List.nodup_append.1 (List.nodup_append.1 (List.nodup_append.1 hn).1).1).1).1).1).1, h1⟩
    · exact ⟨(List.nodup_append.1 (List.nodup_append.1 (List.nodup_append.1 (List.nodup_append.1 (List.nodup_append.1 (List.nodup_append.1 hn).1).1).1).1).1).2.1, h2⟩
    · exact ⟨(List.nodup_append.1 (List.nodup_append.1 (List.nodup_append.1 (List.nodup_append.1 (List.nodup_append.1 hn).1).1).1).1).2.1, h3⟩
    · exact ⟨(List.nodup_append.1 (List.nodup_append.1 (List.nodup_append.1 (List.nodup_append.1 hn).1).1).1).2.1, h4⟩
    · exact ⟨(List.nodup_append.1 (List.nodup_append.1 (List.nodup_append.1 hn).1).1).2.1, h5⟩
    · exact ⟨(List.nodup_append.1 (List.nodup_append.1 hn).1).2.1, h6⟩
    · exact ⟨(List.nodup_append.1 hn).2.1, h7⟩
  · refine ⟨?_, ⟨?_, ⟨?_, ⟨?_, ⟨?_, ⟨?_, ⟨?_, trivial⟩⟩⟩⟩⟩⟩⟩
    · intro q hq _ b hb hb2; simp only [List.mem_cons, List.not_mem_nil, or_false] at hq
      rcases hq with rfl | rfl | rfl | rfl | rfl | rfl
      · simp only [Pc.F] at hb hb2; exact nodup_apt (List.nodup_append.1 (List.nodup_append.1 (List.nodup_append.1 (List.nodup_append.1 (List.nodup_append.1 hn).1).1).1).1).1 (by simp [hb]) hb2
      · simp only [Pc.F] at hb hb2; exact nodup_apt (List.nodup_append.1 (List.nodup_append.1 (List.nodup_append.1 (List.nodup_append.1 hn).1).1).1).1 (by simp [hb]) hb2
      · simp only [Pc.F] at hb hb2; exact nodup_apt (List.nodup_append.1 (List.nodup_append.1 (List.nodup_append.1 hn).1).1).1 (by simp [hb]) hb2
      · simp only [Pc.F] at hb hb2; exact nodup_apt (List.nodup_append.1 (List.nodup_append.1 hn).1).1 (by simp [hb]) hb2
      · simp only [Pc.F] at hb hb2; exact nodup_apt (List.nodup_append.1 hn).1 (by simp [hb]) hb2
      · simp only [Pc.F] at hb hb2; exact nodup_apt hn (by simp [hb]) hb2
    · intro q hq _ b hb hb2; simp only [List.mem_cons, List.not_mem_nil, or_false] at hq
      rcases hq with rfl | rfl | rfl | rfl | rfl
      · simp only [Pc.F] at hb hb2; exact nodup_apt (List.nodup_append.1 (List.nodup_append.1 (List.nodup_append.1 (List.nodup_append.1 hn).1).1).1).1 (by simp [hb]) hb2
      · simp only [Pc.F] at hb hb2; exact nodup_apt (List.nodup_append.1 (List.nodup_append.1 (List.nodup_append.1 hn).1).1).1 (by simp [hb]) hb2
      · simp only [Pc.F] at hb hb2; exact nodup_apt (List.nodup_append.1 (List.nodup_append.1 hn).1).1 (by simp [hb]) hb2
      · simp only [Pc.F] at hb hb2; exact nodup_apt (List.nodup_append.1 hn).1 (by simp [hb]) hb2
      · simp only [Pc.F] at hb hb2; exact nodup_apt hn (by simp [hb]) hb2
    · intro q hq _ b hb hb2; simp only [List.mem_cons, List.not_mem_nil, or_false] at hq
      rcases hq with rfl | rfl | rfl | rfl
      · simp only [Pc.F] at hb hb2; exact nodup_apt (List.nodup_append.1 (List.nodup_append.1 (List.nodup_append.1 hn).1).1).1 (by simp [hb]) hb2
      · simp only [Pc.F] at hb hb2; exact nodup_apt (List.nodup_append.1 (List.nodup_append.1 hn).1).1 (by simp [hb]) hb2
      · simp only [Pc.F] at hb hb2; exact nodup_apt (List.nodup_append.1 hn).1 (by simp [hb]) hb2
      · simp only [Pc.F] at hb hb2; exact nodup_apt hn (by simp [hb]) hb2
    · intro q hq _ b hb hb2; simp only [List.mem_cons, List.not_mem_nil, or_false] at hq
      rcases hq with rfl | rfl | rfl
      · simp only [Pc.F] at hb hb2; exact nodup_apt (List.nodup_append.1 (List.nodup_append.1 hn).1).1 (by simp [hb]) hb2
      · simp only [Pc.F] at hb hb2; exact nodup_apt (List.nodup_append.1 hn).1 (by simp [hb]) hb2
      · simp only [Pc.F] at hb hb2; exact nodup_apt hn (by simp [hb]) hb2
    · intro q hq _ b hb hb2; simp only [List.mem_cons, List.not_mem_nil, or_false] at hq
      rcases hq with rfl | rfl
      · simp only [Pc.F] at hb hb2; exact nodup_apt (List.nodup_append.1 hn).1 (by simp [hb]) hb2
      · simp only [Pc.F] at hb hb2; exact nodup_apt hn (by simp [hb]) hb2
    · intro q hq _ b hb hb2; simp only [List.mem_cons, List.not_mem_nil, or_false] at hq
      rcases hq with rfl
      · simp only [Pc.F] at hb hb2; exact nodup_apt hn (by simp [hb]) hb2
    · intro q hq _ b hb hb2; simp at hq
  · intro q hq b hb; refine .inr (.inl ⟨_, List.mem_singleton.2 rfl, rfl, ?_⟩); simp only [List.mem_cons, List.not_mem_nil, or_false] at hq; rcases hq with rfl | rfl | rfl | rfl | rfl | rfl | rfl <;> simp only [Pc.F] at hb ⊢ <;> simp [hb]
theorem closeOConsole (x : Console) {a1 : Option Addr} {c1 : Nat} {F1 : List Nat} {a2 : Option Addr} {c2 : Nat} {F2 : List Nat} {a3 : Option Addr} {c3 : Nat} {F3 : List Nat} {a4 : Option Addr} {c4 : Nat} {F4 : List Nat} {a5 : Option Addr} {c5 : Nat} {F5 : List Nat} {a6 : Option Addr} {c6 : Nat} {F6 : List Nat} {a7 : Option Addr} {c7 : Nat} {F7 : List Nat} {S1 S2 S3 S4 S5 S6 S7 : List Pc} (s1 : x.log.durable.size ≤ maxLen) (s2 : x.log.pending.size ≤ maxLen) (h : T c fr (.own OConsole (.agg #[.slice a1 x.net.tree.parent.length c1, .int .i64 x.net.source.window.trail, .int .i64 x.net.source.window.size, .slice a2 x.net.source.window.items.length c2, .int .i64 x.net.source.clock, .int .i64 x.net.source.quiet, .slice a3 x.net.source.holds.length c3, .slice a4 x.net.elements.length c4, .slice a5 x.net.receivers.length c5, .slice a6 x.net.down.length c6, .slice a7 x.net.up.length c7, .string x.log.durable, .string x.log.pending, .int .i64 x.log.count]) x (F1 ++ F2 ++ F3 ++ F4 ++ F5 ++ F6 ++ F7) :: S7) Φ) (m1 : Pick H (.ow EInt 3 (.slice a1 x.net.tree.parent.length c1) x.net.tree.parent F1) S1 := by (repeat (first | exact .here | apply Pick.there)); first | done | fail) (m2 : Pick S1 (.ow EStr 9 (.slice a2 x.net.source.window.items.length c2) x.net.source.window.items F2) S2 := by (repeat (first | exact .here | apply Pick.there)); first | done | fail) (m3 : Pick S2 (.ow EHold 164 (.slice a3 x.net.source.holds.length c3) x.net.source.holds F3) S3 := by (repeat (first | exact .here | apply Pick.there)); first | done | fail) (m4 : Pick S3 (.ow OElement 129 (.slice a4 x.net.elements.length c4) x.net.elements F4) S4 := by (repeat (first | exact .here | apply Pick.there)); first | done | fail) (m5 : Pick S4 (.ow OReceiver 90 (.slice a5 x.net.receivers.length c5) x.net.receivers F5) S5 := by (repeat (first | exact .here | apply Pick.there)); first | done | fail) (m6 : Pick S5 (.ow (OSl EPacket 169) 132 (.slice a6 x.net.down.length c6) x.net.down F6) S6 := by (repeat (first | exact .here | apply Pick.there)); first | done | fail) (m7 : Pick S6 (.ow (OSl EPacket 169) 132 (.slice a7 x.net.up.length c7) x.net.up F7) S7 := by (repeat (first | exact .here | apply Pick.there)); first | done | fail)  : T c fr H Φ := .mk fun a w s g => by
  have z1 : St c.G c.D c.w0 ([.ow EInt 3 (.slice a1 x.net.tree.parent.length c1) x.net.tree.parent F1, .ow EStr 9 (.slice a2 x.net.source.window.items.length c2) x.net.source.window.items F2, .ow EHold 164 (.slice a3 x.net.source.holds.length c3) x.net.source.holds F3, .ow OElement 129 (.slice a4 x.net.elements.length c4) x.net.elements F4, .ow OReceiver 90 (.slice a5 x.net.receivers.length c5) x.net.receivers F5, .ow (OSl EPacket 169) 132 (.slice a6 x.net.down.length c6) x.net.down F6, .ow (OSl EPacket 169) 132 (.slice a7 x.net.up.length c7) x.net.up F7] ++ S7) w := by simpa using (show Picks H [.ow EInt 3 (.slice a1 x.net.tree.parent.length c1) x.net.tree.parent F1, .ow EStr 9 (.slice a2 x.net.source.window.items.length c2) x.net.source.window.items F2, .ow EHold 164 (.slice a3 x.net.source.holds.length c3) x.net.source.holds F3, .ow OElement 129 (.slice a4 x.net.elements.length c4) x.net.elements F4, .ow OReceiver 90 (.slice a5 x.net.receivers.length c5) x.net.receivers F5, .ow (OSl EPacket 169) 132 (.slice a6 x.net.down.length c6) x.net.down F6, .ow (OSl EPacket 169) 132 (.slice a7 x.net.up.length c7) x.net.up F7] S7 from Picks.cons m1 (Picks.cons m2 (Picks.cons m3 (Picks.cons m4 (Picks.cons m5 (Picks.cons m6 (Picks.cons m7 (Picks.nil)))))))).st (X := []) (by simpa using s)
  obtain ⟨n1, k1⟩ := z1.on (.ow EInt 3 (.slice a1 x.net.tree.parent.length c1) x.net.tree.parent F1) (by simp)
  obtain ⟨n2, k2⟩ := z1.on (.ow EStr 9 (.slice a2 x.net.source.window.items.length c2) x.net.source.window.items F2) (by simp)
  obtain ⟨n3, k3⟩ := z1.on (.ow EHold 164 (.slice a3 x.net.source.holds.length c3) x.net.source.holds F3) (by simp)
  obtain ⟨n4, k4⟩ := z1.on (.ow OElement 129 (.slice a4 x.net.elements.length c4) x.net.elements F4) (by simp)
  obtain ⟨n5, k5⟩ := z1.on (.ow OReceiver 90 (.slice a5 x.net.receivers.length c5) x.net.receivers F5) (by simp)
  obtain ⟨n6, k6⟩ := z1.on (.ow (OSl EPacket 169) 132 (.slice a6 x.net.down.length c6) x.net.down F6) (by simp)
  obtain ⟨n7, k7⟩ := z1.on (.ow (OSl EPacket 169) 132 (.slice a7 x.net.up.length c7) x.net.up F7) (by simp)
  have hsp := z1.sep
  have p1_2 : ∀ b ∈ F1, b ∉ F2 := hsp.1 (.ow EStr 9 (.slice a2 x.net.source.window.items.length c2) x.net.source.window.items F2) (by simp) rfl
  have p1_3 : ∀ b ∈ F1, b ∉ F3 := hsp.1 (.ow EHold 164 (.slice a3 x.net.source.holds.length c3) x.net.source.holds F3) (by simp) rfl
  have p1_4 : ∀ b ∈ F1, b ∉ F4 := hsp.1 (.ow OElement 129 (.slice a4 x.net.elements.length c4) x.net.elements F4) (by simp) rfl
  have p1_5 : ∀ b ∈ F1, b ∉ F5 := hsp.1 (.ow OReceiver 90 (.slice a5 x.net.receivers.length c5) x.net.receivers F5) (by simp) rfl
  have p1_6 : ∀ b ∈ F1, b ∉ F6 := hsp.1 (.ow (OSl EPacket 169) 132 (.slice a6 x.net.down.length c6) x.net.down F6) (by simp) rfl
  have p1_7 : ∀ b ∈ F1, b ∉ F7 := hsp.1 (.ow (OSl EPacket 169) 132 (.slice a7 x.net.up.length c7) x.net.up F7) (by simp) rfl
  have p2_3 : ∀ b ∈ F2, b ∉ F3 := hsp.2.1 (.ow EHold 164 (.slice a3 x.net.source.holds.length c3) x.net.source.holds F3) (by simp) rfl
  have p2_4 : ∀ b ∈ F2, b ∉ F4 := hsp.2.1 (.ow OElement 129 (.slice a4 x.net.elements.length c4) x.net.elements F4) (by simp) rfl
  have p2_5 : ∀ b ∈ F2, b ∉ F5 := hsp.2.1 (.ow OReceiver 90 (.slice a5 x.net.receivers.length c5) x.net.receivers F5) (by simp) rfl
  have p2_6 : ∀ b ∈ F2, b ∉ F6 := hsp.2.1 (.ow (OSl EPacket 169) 132 (.slice a6 x.net.down.length c6) x.net.down F6) (by simp) rfl
  have p2_7 : ∀ b ∈ F2, b ∉ F7 := hsp.2.1 (.ow (OSl EPacket 169) 132 (.slice a7 x.net.up.length c7) x.net.up F7) (by simp) rfl
  have p3_4 : ∀ b ∈ F3, b ∉ F4 := hsp.2.2.1 (.ow OElement 129 (.slice a4 x.net.elements.length c4) x.net.elements F4) (by simp) rfl
  have p3_5 : ∀ b ∈ F3, b ∉ F5 := hsp.2.2.1 (.ow OReceiver 90 (.slice a5 x.net.receivers.length c5) x.net.receivers F5) (by simp) rfl
  have p3_6 : ∀ b ∈ F3, b ∉ F6 := hsp.2.2.1 (.ow (OSl EPacket 169) 132 (.slice a6 x.net.down.length c6) x.net.down F6) (by simp) rfl
  have p3_7 : ∀ b ∈ F3, b ∉ F7 := hsp.2.2.1 (.ow (OSl EPacket 169) 132 (.slice a7 x.net.up.length c7) x.net.up F7) (by simp) rfl
  have p4_5 : ∀ b ∈ F4, b ∉ F5 := hsp.2.2.2.1 (.ow OReceiver 90 (.slice a5 x.net.receivers.length c5) x.net.receivers F5) (by simp) rfl
  have p4_6 : ∀ b ∈ F4, b ∉ F6 := hsp.2.2.2.1 (.ow (OSl EPacket 169) 132 (.slice a6 x.net.down.length c6) x.net.down F6) (by simp) rfl
  have p4_7 : ∀ b ∈ F4, b ∉ F7 := hsp.2.2.2.1 (.ow (OSl EPacket 169) 132 (.slice a7 x.net.up.length c7) x.net.up F7) (by simp) rfl
  have p5_6 : ∀ b ∈ F5, b ∉ F6 := hsp.2.2.2.2.1 (.ow (OSl EPacket 169) 132 (.slice a6 x.net.down.length c6) x.net.down F6) (by simp) rfl
  have p5_7 : ∀ b ∈ F5, b ∉ F7 := hsp.2.2.2.2.1 (.ow (OSl EPacket 169) 132 (.slice a7 x.net.up.length c7) x.net.up F7) (by simp) rfl
  have p6_7 : ∀ b ∈ F6, b ∉ F7 := hsp.2.2.2.2.2.1 (.ow (OSl EPacket 169) 132 (.slice a7 x.net.up.length c7) x.net.up F7) (by simp) rfl
  have hN : (F1 ++ F2 ++ F3 ++ F4 ++ F5 ++ F6 ++ F7).Nodup := by
    simp only [List.nodup_append, List.mem_append]
    grind
  refine h.h a w (St.turn (M := [.ow EInt 3 (.slice a1 x.net.tree.parent.length c1) x.net.tree.parent F1, .ow EStr 9 (.slice a2 x.net.source.window.items.length c2) x.net.source.window.items F2, .ow EHold 164 (.slice a3 x.net.source.holds.length c3) x.net.source.holds F3, .ow OElement 129 (.slice a4 x.net.elements.length c4) x.net.elements F4, .ow OReceiver 90 (.slice a5 x.net.receivers.length c5) x.net.receivers F5, .ow (OSl EPacket 169) 132 (.slice a6 x.net.down.length c6) x.net.down F6, .ow (OSl EPacket 169) 132 (.slice a7 x.net.up.length c7) x.net.up F7]) (N := [.own OConsole (.agg #[.slice a1 x.net.tree.parent.length c1, .int .i64 x.net.source.window.trail, .int .i64 x.net.source.window.size, .slice a2 x.net.source.window.items.length c2, .int .i64 x.net.source.clock, .int .i64 x.net.source.quiet, .slice a3 x.net.source.holds.length c3, .slice a4 x.net.elements.length c4, .slice a5 x.net.receivers.length c5, .slice a6 x.net.down.length c6, .slice a7 x.net.up.length c7, .string x.log.durable, .string x.log.pending, .int .i64 x.log.count]) x (F1 ++ F2 ++ F3 ++ F4 ++ F5 ++ F6 ++ F7)]) z1 (Keep.refl _ w) (by intro q hq; obtain rfl := List.mem_singleton.1 hq; exact ⟨hN, _, rfl, _, _, _, _, _, _, _, _, _, _, _, _, _, _, rfl, s1, s2, k1, k2, k3, k4, k5, k6, k7, rfl⟩) ⟨by simp, trivial⟩ fun q hq b hb => ?_) g
  obtain rfl := List.mem_singleton.1 hq
  simp only [Pc.F, List.mem_append] at hb
  rcases hb with (((((hb | hb) | hb) | hb) | hb) | hb) | hb
  · exact .inr (.inl ⟨.ow EInt 3 (.slice a1 x.net.tree.parent.length c1) x.net.tree.parent F1, by simp, rfl, hb⟩)
  · exact .inr (.inl ⟨.ow EStr 9 (.slice a2 x.net.source.window.items.length c2) x.net.source.window.items F2, by simp, rfl, hb⟩)
  · exact .inr (.inl ⟨.ow EHold 164 (.slice a3 x.net.source.holds.length c3) x.net.source.holds F3, by simp, rfl, hb⟩)
  · exact .inr (.inl ⟨.ow OElement 129 (.slice a4 x.net.elements.length c4) x.net.elements F4, by simp, rfl, hb⟩)
  · exact .inr (.inl ⟨.ow OReceiver 90 (.slice a5 x.net.receivers.length c5) x.net.receivers F5, by simp, rfl, hb⟩)
  · exact .inr (.inl ⟨.ow (OSl EPacket 169) 132 (.slice a6 x.net.down.length c6) x.net.down F6, by simp, rfl, hb⟩)
  · exact .inr (.inl ⟨.ow (OSl EPacket 169) 132 (.slice a7 x.net.up.length c7) x.net.up F7, by simp, rfl, hb⟩)
end
end Go.Proofs.YtccmhdheoeglmaaGreatDoor
/- The marks of nets and consoles. -/
namespace Go.Proofs.YtccmhdheoeglmaaGreatDoor
open Go.RowKit
set_option maxRecDepth 100000 in
theorem markNet_f (v : Value) (x : Net) (F : List Nat) (k : Int) (p0 : 0 ≤ k) (p1 : k + cvNet x ≤ 1099511627776) : Fn Tryz.prog 29 [v, .int .i64 k] [] [.own ONet v x F] (fun (_ : List Nat) => True) (fun _ => .int .i64 (k + cvNet x)) (fun G => [.own ONet v (mvNet k x) G]) := by
  have hcv : (cvNet x : Int) = cvTree x.tree + cvSource x.source + (cntL cntElement) x.elements + (cntL cntReceiver) x.receivers + (cntL (cntL cntPacket)) x.down + (cntL (cntL cntPacket)) x.up := by unfold cvNet; push_cast; rfl
  refine enter Tryz.func29 rfl Tryz.ntmps29 fun w0 => ?_
  refine openONet ?_
  rintro a1 c1 F1 a2 c2 F2 a3 c3 F3 a4 c4 F4 a5 c5 F5 a6 c6 F6 a7 c7 F7 rfl l1 l2 l3 l4 l5 l6 l7
  refine closeOTree x.tree ?_
  refine closeOSource x.source ?_
  refine go ?_; intros
  refine cf (fn_markV (fun w h hn => markTree_c _ x.tree _ (k) w h hn (by omega) (by omega))) fun _ _ => ?_
  refine t_app ?_
  refine go ?_; intros
  refine cf (fn_markV (fun w h hn => markSource_c _ x.source _ (k + cvTree x.tree) w h hn (by omega) (by omega))) fun _ _ => ?_
  refine t_app ?_
  refine go ?_; intros
  refine cf (fn_markL (fun w h hn => markElementS_c _ x.elements _ (k + cvTree x.tree + cvSource x.source) w h hn (by omega) (by omega))) fun _ _ => ?_
  refine t_app ?_
  refine go ?_; intros
  refine cf (fn_markL (fun w h hn => markReceiverS_c _ x.receivers _ (k + cvTree x.tree + cvSource x.source + (cntL cntElement) x.elements) w h hn (by omega) (by omega))) fun _ _ => ?_
  refine t_app ?_
  refine go ?_; intros
  refine cf (fn_markL (fun w h hn => markPacketSS_c _ x.down _ (k + cvTree x.tree + cvSource x.source + (cntL cntElement) x.elements + (cntL cntReceiver) x.receivers) w h hn (by omega) (by omega))) fun _ _ => ?_
  refine t_app ?_
  refine go ?_; intros
  refine cf (fn_markL (fun w h hn => markPacketSS_c _ x.up _ (k + cvTree x.tree + cvSource x.source + (cntL cntElement) x.elements + (cntL cntReceiver) x.receivers + (cntL (cntL cntPacket)) x.down) w h hn (by omega) (by omega))) fun _ _ => ?_
  refine t_app ?_
  refine go ?_; intros
  have h1 : x.tree.parent.length = (mvNet k x).tree.parent.length := (markL_len ..).symm
  have h2 : x.source.window.items.length = (mvNet k x).source.window.items.length := (markL_len ..).symm
  have h3 : x.source.holds.length = (mvNet k x).source.holds.length := (markL_len ..).symm
  have h4 : x.elements.length = (mvNet k x).elements.length := (markL_len ..).symm
  have h5 : x.receivers.length = (mvNet k x).receivers.length := (markL_len ..).symm
  have h6 : x.down.length = (mvNet k x).down.length := (markL_len ..).symm
  have h7 : x.up.length = (mvNet k x).up.length := (markL_len ..).symm
  rw [h1, h2, h3, h4, h5, h6, h7]
  refine openOTree (x := mvTree k x.tree) ?_
  rintro b1 d1 G1 e1 -
  simp at e1
  obtain ⟨rfl, -, rfl⟩ := e1
  refine openOSource (x := mvSource (k + cvTree x.tree) x.source) ?_
  rintro b2 d2 G2 b3 d3 G3 e2 - -
  simp at e2
  obtain ⟨-, -, ⟨rfl, -, rfl⟩, -, -, rfl, -, rfl⟩ := e2
  refine closeONet (mvNet k x) (a6 := a6) (a7 := a7) ?_
  rw [show k + cvTree x.tree + cvSource x.source + (cntL cntElement) x.elements + (cntL cntReceiver) x.receivers + (cntL (cntL cntPacket)) x.down + (cntL (cntL cntPacket)) x.up = k + cvNet x by omega]
  refine ret _ trivial rfl
set_option maxRecDepth 100000 in
theorem markConsole_f (v : Value) (x : Console) (F : List Nat) (k : Int) (p0 : 0 ≤ k) (p1 : k + cvConsole x ≤ 1099511627776) : Fn Tryz.prog 13 [v, .int .i64 k] [] [.own OConsole v x F] (fun (_ : List Nat) => True) (fun _ => .int .i64 (k + cvConsole x)) (fun G => [.own OConsole v (mvConsole k x) G]) := by
  have hcv : (cvConsole x : Int) = cvNet x.net := by unfold cvConsole; rfl
  refine enter Tryz.func13 rfl Tryz.ntmps13 fun w0 => ?_
  refine openOConsole ?_
  rintro a1 c1 F1 a2 c2 F2 a3 c3 F3 a4 c4 F4 a5 c5 F5 a6 c6 F6 a7 c7 F7 rfl s1 s2 l1 l2 l3 l4 l5 l6 l7
  refine closeONet x.net (a6 := a6) (a7 := a7) ?_
  refine go ?_; intros
  refine cf (markNet_f _ x.net _ k p0 (by omega)) fun G _ => ?_
  refine t_app ?_
  refine go ?_; intros
  have h1 : x.net.tree.parent.length = (mvConsole k x).net.tree.parent.length := (markL_len ..).symm
  have h2 : x.net.source.window.items.length = (mvConsole k x).net.source.window.items.length := (markL_len ..).symm
  have h3 : x.net.source.holds.length = (mvConsole k x).net.source.holds.length := (markL_len ..).symm
  have h4 : x.net.elements.length = (mvConsole k x).net.elements.length := (markL_len ..).symm
  have h5 : x.net.receivers.length = (mvConsole k x).net.receivers.length := (markL_len ..).symm
  have h6 : x.net.down.length = (mvConsole k x).net.down.length := (markL_len ..).symm
  have h7 : x.net.up.length = (mvConsole k x).net.up.length := (markL_len ..).symm
  rw [h1, h2, h3, h4, h5, h6, h7]
  refine openONet (x := mvNet k x.net) ?_
  rintro b1 d1 G1 b2 d2 G2 b3 d3 G3 b4 d4 G4 b5 d5 G5 b6 d6 G6 b7 d7 G7 e1 - - - - - - -
  simp at e1
  obtain ⟨⟨rfl, -, rfl⟩, -, -, ⟨rfl, -, rfl⟩, -, -, ⟨rfl, -, rfl⟩, ⟨rfl, -, rfl⟩, ⟨rfl, -, rfl⟩, ⟨rfl, -, rfl⟩, rfl, -, rfl⟩ := e1
  refine closeOConsole (mvConsole k x) s1 s2 (a6 := a6) (a7 := a7) ?_
  rw [← hcv]
  refine ret _ trivial rfl
end Go.Proofs.YtccmhdheoeglmaaGreatDoor
/- Consoles at the beginning; the marks of nets and consoles. -/
namespace Go.Proofs.YtccmhdheoeglmaaGreatDoor
open Go.RowKit
def zCon : Console := ⟨zNet, ⟨⟨#[]⟩, ⟨#[]⟩, 0⟩⟩
def resNewConsole (t : Tree) (f y : Int) : Console × Bool := if (resNewNet t f y).2 then (⟨(resNewNet t f y).1, ⟨⟨#[]⟩, ⟨#[]⟩, 0⟩⟩, true) else (zCon, false)
set_option maxRecDepth 100000 in
theorem NewConsole_f (t : Tree) (f y : Int) (v : Value) (F : List Nat) : Fn Tryz.prog 9 [v, .int .i64 f, .int .i64 y] [.isv ETree v t F] [] (fun (_ : List Value × List Nat) => True) (fun s => .tuple #[.agg s.1.toArray, .bool (resNewConsole t f y).2]) (fun s => [.own OConsole (.agg s.1.toArray) (resNewConsole t f y).1 s.2]) := by
  refine enter Tryz.func9 rfl Tryz.ntmps9 fun w0 => ?_
  refine openTree ?_
  rintro a0 c0 F0 rfl l0
  refine t_nilow EInt 3 ?_
  refine t_nilow EStr 9 ?_
  refine t_nilow EHold 164 ?_
  refine t_nilow OElement 129 ?_
  refine t_nilow OReceiver 90 ?_
  refine t_nilow (OSl EPacket 169) 132 ?_
  refine t_nilow (OSl EPacket 169) 132 ?_
  refine closeOConsole zCon (Nat.zero_le _) (Nat.zero_le _) ?_
  refine go ?_; intros
  refine cf (NewNet_f t f y _ F) fun s _ => ?_
  refine t_app ?_
  unfold resNewConsole
  generalize hr : resNewNet t f y = r
  refine openONet (x := r.1) ?_
  rintro a1 c1 F1 a2 c2 F2 a3 c3 F3 a4 c4 F4 a5 c5 F5 a6 c6 F6 a7 c7 F7 e l1 l2 l3 l4 l5 l6 l7
  rw [e]
  refine go ?_; intros
  cases hb : r.2
  · refine go ?_; intros
    refine ret ([.slice none 0 0, .int .i64 0, .int .i64 0, .slice none 0 0, .int .i64 0, .int .i64 0, .slice none 0 0, .slice none 0 0, .slice none 0 0, .slice none 0 0, .slice none 0 0] ++ [.string ⟨#[]⟩, .string ⟨#[]⟩, .int .i64 0], _) trivial rfl
  · refine go ?_; intros
    refine closeOConsole (⟨r.1, ⟨⟨#[]⟩, ⟨#[]⟩, 0⟩⟩ : Console) (Nat.zero_le _) (Nat.zero_le _) (a6 := a6) (a7 := a7) ?_
    refine ret ([.slice a1 r.1.tree.parent.length c1, .int .i64 r.1.source.window.trail, .int .i64 r.1.source.window.size, .slice a2 r.1.source.window.items.length c2, .int .i64 r.1.source.clock, .int .i64 r.1.source.quiet, .slice a3 r.1.source.holds.length c3, .slice a4 r.1.elements.length c4, .slice a5 r.1.receivers.length c5, .slice a6 r.1.down.length c6, .slice a7 r.1.up.length c7, .string ⟨#[]⟩, .string ⟨#[]⟩, .int .i64 0], _) trivial rfl
set_option maxRecDepth 100000 in
theorem specNewConsole_f (t : Tree) (f y : Int) (v : Value) (F : List Nat) : Fn Tryz.prog 7 [v, .int .i64 f, .int .i64 y] [.isv ETree v t F] [] (fun (_ : List Value × List Nat) => True) (fun s => .tuple #[.agg s.1.toArray, .bool (resNewConsole t f y).2]) (fun s => [.own OConsole (.agg s.1.toArray) (resNewConsole t f y).1 s.2]) := by
  refine enter Tryz.func7 rfl Tryz.ntmps7 fun w0 => ?_
  refine openTree ?_
  rintro a0 c0 F0 rfl l0
  refine t_nilow EInt 3 ?_
  refine t_nilow EStr 9 ?_
  refine t_nilow EHold 164 ?_
  refine t_nilow OElement 129 ?_
  refine t_nilow OReceiver 90 ?_
  refine t_nilow (OSl EPacket 169) 132 ?_
  refine t_nilow (OSl EPacket 169) 132 ?_
  refine closeOConsole zCon (Nat.zero_le _) (Nat.zero_le _) ?_
  refine go ?_; intros
  refine cf (specNewNet_f t f y _ F) fun s _ => ?_
  refine t_app ?_
  unfold resNewConsole
  generalize hr : resNewNet t f y = r
  refine openONet (x := r.1) ?_
  rintro a1 c1 F1 a2 c2 F2 a3 c3 F3 a4 c4 F4 a5 c5 F5 a6 c6 F6 a7 c7 F7 e l1 l2 l3 l4 l5 l6 l7
  rw [e]
  refine go ?_; intros
  cases hb : r.2
  · refine go ?_; intros
    refine ret ([.slice none 0 0, .int .i64 0, .int .i64 0, .slice none 0 0, .int .i64 0, .int .i64 0, .slice none 0 0, .slice none 0 0, .slice none 0 0, .slice none 0 0, .slice none 0 0] ++ [.string ⟨#[]⟩, .string ⟨#[]⟩, .int .i64 0], _) trivial rfl
  · refine go ?_; intros
    refine closeOConsole (⟨r.1, ⟨⟨#[]⟩, ⟨#[]⟩, 0⟩⟩ : Console) (Nat.zero_le _) (Nat.zero_le _) (a6 := a6) (a7 := a7) ?_
    refine ret ([.slice a1 r.1.tree.parent.length c1, .int .i64 r.1.source.window.trail, .int .i64 r.1.source.window.size, .slice a2 r.1.source.window.items.length c2, .int .i64 r.1.source.clock, .int .i64 r.1.source.quiet, .slice a3 r.1.source.holds.length c3, .slice a4 r.1.elements.length c4, .slice a5 r.1.receivers.length c5, .slice a6 r.1.down.length c6, .slice a7 r.1.up.length c7, .string ⟨#[]⟩, .string ⟨#[]⟩, .int .i64 0], _) trivial rfl
end Go.Proofs.YtccmhdheoeglmaaGreatDoor
/- A bound on marks. -/
namespace Go.Proofs.YtccmhdheoeglmaaGreatDoor
theorem cntL_bd {α : Type} (f : α → Nat) (B : Nat) : ∀ xs : List α, (∀ x ∈ xs, f x ≤ B) → cntL f xs ≤ xs.length * B
  | [], _ => by simp [cntL]
  | x :: r, h => by
    have h1 := h x (by simp)
    have h2 := cntL_bd f B r fun y hy => h y (by simp [hy])
    have e : cntL f (x :: r) = f x + cntL f r := by simp [cntL]
    rw [e, List.length_cons, Nat.add_mul]; omega
end Go.Proofs.YtccmhdheoeglmaaGreatDoor
/- The contracts of NewConsole in the form that the law's proof takes: the bound on the marks. -/
namespace Go.Proofs.YtccmhdheoeglmaaGreatDoor
open Go.RowKit
theorem cntL_rep {α : Type} (cnt : α → Nat) (x : α) : ∀ n : Nat, cntL cnt (List.replicate n x) = n * cnt x
  | 0 => by simp [cntL]
  | n + 1 => by
    have ih := cntL_rep cnt x n
    rw [List.replicate_succ, Nat.succ_mul, Nat.add_comm]
    rw [← ih]; rfl
theorem resNewConsole_cv (x0 : Tree) (x1 x2 : Int) (h0 : wtTree x0 ≤ 1048576) : cvConsole (resNewConsole x0 x1 x2).1 ≤ 4294967296 := by
  unfold resNewConsole resNewNet
  cases g : (goodTree x0 && goodSrc ⟨⟨x1, x2, []⟩, 0, 0, []⟩)
  · show cvConsole zCon ≤ 4294967296
    decide
  · rw [Bool.and_eq_true] at g
    have hn := (goodT g.1).n1
    have ht := cvTree_wt x0 h0
    show cvConsole ⟨newN x0 x1 x2, _⟩ ≤ 4294967296
    unfold cvConsole cvNet newN
    simp only [cntL_rep]
    have e1 : cvSource ⟨⟨x1, x2, []⟩, 0, 0, []⟩ = 0 := rfl
    have e2 : cntElement ⟨0, []⟩ = 1 := rfl
    have e3 : cntReceiver zRec ≤ 8 := by decide
    have e4 : cntL cntPacket [] = 0 := rfl
    rw [e1, e2, e4]
    have : x0.parent.length * cntReceiver zRec ≤ 8 * 8 := Nat.mul_le_mul hn e3
    have hc : cvTree x0 ≤ 1048576 := by
      have := cntL_bd cntI 1 x0.parent (fun _ _ => Nat.le_refl 1)
      unfold cvTree
      omega
    omega
end Go.Proofs.YtccmhdheoeglmaaGreatDoor
/- What every law's proof shares: the step from 'returns true, and nothing that was there has turned' to the row's post; how arguments read. -/
namespace Go.Proofs.YtccmhdheoeglmaaGreatDoor
open Go.ChangeShapes Go.WideShapes Go.ChangeAt Go.RowKit

theorem trodAll_below {H : Type} {enc : TypeId × Value → H} {P : Program} (hl : laidOutB P = true) {W W' : World} (hb : Below W.heap.size W W') :
    ∀ (ts : List TypeId) (vs : List Value) (ds : List (DataW H)) (ps : List MemPlace), (∀ t ∈ ts, P.readableRec t = true ∧ t < P.types.size) →
      DataW.TrodAll enc P W 0 (fun _ => true) true ts vs ds ps → (∀ x ∈ ps, x.block < W.heap.size) → DataW.TrodAll enc P W' 0 (fun b => decide (b < W.heap.size)) true ts vs ds ps
  | [], vs, ds, ps, _, h, _ => by obtain ⟨rfl, rfl, rfl⟩ := trodAll_nil h; exact rfl
  | t :: ts, vs, ds, ps, ht, h, hlt => by
    obtain ⟨v, vs', d, ds', p, q, rfl, rfl, rfl, h1, h2⟩ := trodAll_cons h
    have ⟨a, b⟩ := ht t (by simp)
    exact ⟨p, q, Below.trod hl a b h1 hb fun x hx => hlt x (by simp [hx]), trodAll_below hl hb ts vs' ds' q (fun t h => ht t (by simp [h])) h2 fun x hx => hlt x (by simp [hx]), rfl⟩

/-- A law returned true and left all that was there aS it was: the row's post. -/
theorem law_post {H : Type} {enc : TypeId × Value → H} {P : Program} {f : Func} {s : ChangeSpec} {tb : TypeId} (hl : laidOutB P = true) (hr : ∀ t ∈ f.params.toList, P.readableRec t = true ∧ t < P.types.size)
    (hb : P.underlying tb = some .bool) (hres : f.resultTypes = #[tb]) (hv : s.vars = []) {W W' : World} {args : Array Value} {ds gs : List (DataW H)} {before : List MemPlace}
    (hs : s.fn H ds = { results := [.lit (.bool true)], args := ds }) (hW : DataW.Whole enc P f.params.toList s.vars false W args.toList ds gs before) (hB : Below W.heap.size W W') :
    s.post enc P f false true false false W args (.bool true) W' := by
  have hlt := hW.lt
  have hW0 := hW
  obtain ⟨p, q, hA, hV, rfl, _, _⟩ := hW0
  rw [hv] at hV
  obtain ⟨rfl, rfl⟩ := trodVars_none hV
  refine ⟨ds, [], p ++ [], [], p, [], hW, ?_, ?_, ?_, hB.frame _, fun h => by cases h⟩
  · rw [List.append_nil, hs, hres]
    exact trodAll_mk1 (shut_bool hb true)
  · rw [List.append_nil, hs]
    exact trodAll_below hl hB _ _ _ _ hr hA fun x hx => hlt x (by simpa using hx)
  · rw [hv, List.append_nil, hs]; exact rfl

/-- what reads aS data at type t reads by E -/
def Reads (P : Program) {α : Type} (E : Elem α) (t : TypeId) : Prop :=
  ∀ {H : Type} {enc : TypeId × Value → H} {w : World} {fuel : Nat} {cs : List Value} {x : DataW H × List MemPlace}, DataW.trod enc P w 0 (fun _ => true) true fuel t cs = some x → ∃ y F, E.rep w cs y F

section
variable {P : Program}
theorem reads_int {t : TypeId} (ht : P.underlying t = some (.int .i64)) : Reads P EInt t := fun h => by
  obtain ⟨n, rfl, _, _⟩ := DataW.trod_int ht h; exact ⟨n, [], rfl, rfl⟩
theorem reads_cells {α : Type} {E : Elem α} {e : TypeId} (hsz : P.cellsOf e = E.sz) (he : Reads P E e) {H : Type} {enc : TypeId × Value → H} {w : World} {n b off : Nat} :
    ∀ (els : List (DataW H × List MemPlace)) (k : Nat), (∀ i, i < els.length → (w.cells? 0 ((⟨b, off, none⟩ : Addr).add ((k + i) * P.cellsOf e)) (P.cellsOf e)).bind (DataW.trod enc P w 0 (fun _ => true) true n e) = els[i]?) →
      ∃ ys F, ys.length = els.length ∧ Cells E w b (off + k * E.sz) ys F
  | [], _, _ => ⟨[], [], rfl, rfl⟩
  | x :: r, k, h => by
    have h0 := h 0 (by simp)
    simp only [Nat.add_zero, List.getElem?_cons_zero, Option.bind_eq_some_iff] at h0
    obtain ⟨cs, hc, hx⟩ := h0
    obtain ⟨y, F1, hy⟩ := he hx
    obtain ⟨ys, F2, hl, hys⟩ := reads_cells hsz he r (k + 1) fun i hi => by
      have := h (i + 1) (by simpa using hi)
      rw [show k + 1 + i = k + (i + 1) by omega]
      simpa using this
    refine ⟨y :: ys, F1 ++ F2, by simp [hl], cs, F1, F2, rfl, hy, fun j hj => ?_, by rwa [show off + k * E.sz + E.sz = off + (k + 1) * E.sz by rw [Nat.add_mul]; omega]⟩
    obtain ⟨_, hlen, hcell⟩ := World.cells?_some hc
    rw [← hcell j (by rw [hsz]; exact hj)]
    congr 1
    simp only [Addr.add, hsz]
    split <;> split <;> simp_all <;> omega
theorem reads_slice {α : Type} {E : Elem α} {t e : TypeId} (ht : P.underlying t = some (.slice e)) (hsz : P.cellsOf e = E.sz) (hz : 0 < E.sz) (he : Reads P E e) : Reads P (ESl E hz) t := fun h => by
  rcases DataW.trod_slice ht h with ⟨rfl, _⟩ | ⟨a, len, cap, elems, rest, n, rfl, rfl, _, _, hlc, hcm, hlen, hel, _, _⟩
  · exact ⟨[], [], _, rfl, none, 0, rfl, ⟨by simp, by simp⟩, .inl ⟨rfl, rfl, fun _ => rfl⟩⟩
  · by_cases h0 : len = 0
    · subst h0
      exact ⟨[], [], _, rfl, some a, cap, rfl, ⟨by simp, by omega⟩, .inl ⟨rfl, rfl, fun e => by cases e⟩⟩
    · have hs : a = ⟨a.block, a.off, none⟩ := by
        have := hel 0 (by omega)
        rw [List.getElem?_eq_getElem (by omega)] at this
        simp only [Option.bind_eq_some_iff] at this
        obtain ⟨cs, hc, _⟩ := this
        obtain ⟨_, hl2, hcell⟩ := World.cells?_some hc
        have h1 := hcell 0 (by omega)
        rw [List.getElem?_eq_getElem (by omega)] at h1
        simp [Addr.add, World.cell?] at h1
        split at h1 <;> simp_all
        cases a; simp_all
      obtain ⟨ys, F, hyl, hys⟩ := reads_cells hsz he elems 0 (n := n) (b := a.block) (off := a.off) (enc := _) (w := _) (by
        rw [← hs]; intro i hi; rw [Nat.zero_add]; exact hel i (by omega))
      refine ⟨ys, a.block :: F, _, rfl, some a, cap, by rw [hyl, hlen], ⟨by omega, by omega⟩, .inr ⟨a.block, a.off, F, by rw [← hs], ?_, rfl, by simpa using hys⟩⟩
      intro e; rw [e] at hyl; simp at hyl; omega
end

/-- the fields of a struct, one behind the other, each by its own reading -/
inductive FieldsOk (P : Program) : List Field → Nat → (α : Type) → Elem α → Prop
  | nil (off : Nat) : FieldsOk P [] off Unit EUnit
  | cons {f : Field} {r : List Field} {off : Nat} {α β : Type} {A : Elem α} {B : Elem β} (ho : f.offset = off) (hc : P.cellsOf f.type = A.sz) (hA : Reads P A f.type) (h : FieldsOk P r (off + A.sz) β B) : FieldsOk P (f :: r) off (α × β) (EProd A B)
theorem fields_read {P : Program} {H : Type} {enc : TypeId × Value → H} {w : World} {n : Nat} {cs : List Value} {fs : List Field} {off : Nat} {α : Type} {E : Elem α} (h : FieldsOk P fs off α E) :
    (∀ f ∈ fs, ∃ x, DataW.trod enc P w 0 (fun _ => true) true n f.type ((cs.drop f.offset).take (P.cellsOf f.type)) = some x) → off + E.sz = cs.length → ∃ y F, E.rep w (cs.drop off) y F := by
  induction h with
  | nil off => intro _ hl; exact ⟨(), [], List.drop_of_length_le (by simp [EUnit] at hl; omega), rfl⟩
  | @cons f r off α β A B ho hc hA _ ih =>
    intro hf hl
    obtain ⟨x, hx⟩ := hf f (by simp)
    obtain ⟨y, F1, hy⟩ := hA hx
    obtain ⟨y2, F2, hy2⟩ := ih (fun f h => hf f (by simp [h])) (by simp only [EProd] at hl; omega)
    subst ho
    exact ⟨(y, y2), F1 ++ F2, _, _, F1, F2, by rw [hc, ← List.drop_drop, List.take_append_drop], rfl, hy, hy2⟩
theorem reads_struct {P : Program} {t : TypeId} {fs : Array Field} {α : Type} {E : Elem α} (ht : P.underlying t = some (.struct fs)) (hC : P.cellsOf t = E.sz) (h : FieldsOk P fs.toList 0 α E) : Reads P E t := fun hh => by
  obtain ⟨xs, n, rfl, _, hcl, hxl, hx⟩ := DataW.trod_struct ht hh
  have := fields_read (enc := _) (w := _) (n := n) h (fun f hf => by
    obtain ⟨i, hi, rfl⟩ := List.getElem_of_mem hf
    have := hx i fs.toList[i] (by simp)
    rw [List.getElem?_eq_getElem (by simpa [hxl] using hi)] at this
    exact ⟨_, this⟩) (by rw [hcl, hC]; simp)
  simpa using this
end Go.Proofs.YtccmhdheoeglmaaGreatDoor
/- The walk of the law FnExactNewConsole. Written by wip/genlaw2.py. -/
namespace Go.Proofs.YtccmhdheoeglmaaGreatDoor
open Go.RowKit
structure JNewConsole where
  g0 : Nat
  L0 : List Value
  F0 : List Nat
set_option maxHeartbeats 4000000 in
set_option maxRecDepth 100000 in
theorem law_NewConsole_f (v0 : Value) (x0 : Tree) (F0 : List Nat) (x1 : Int) (x2 : Int) : Fn Tryz.prog 3 [v0, .int .i64 x1, .int .i64 x2] [.isv ETree v0 x0 F0] [] (fun (_ : Unit) => True) (fun _ => .bool true) (fun _ => []) := by
  refine enter Tryz.func3 rfl Tryz.ntmps3 fun w0 => ?_
  refine t_aggI (E := ETree) (v := v0) (x := x0) (F := F0) one_ETree ?_
  rintro ca0 rfl hla0 hoa0
  have hI := fun V0 F0 => NewConsole_f x0 x1 x2 V0 F0
  have hS := fun V0 F0 => specNewConsole_f x0 x1 x2 V0 F0
  have hV := resNewConsole_cv x0 x1 x2
  obtain ⟨r0, r1, er⟩ : ∃ r0 r1, resNewConsole x0 x1 x2 = (r0, r1) := ⟨_, _, rfl⟩
  rw [er] at hI hS hV
  dsimp only at hI hS hV
  refine goL ?_; intros
  refine cb (fun w st => ex1 (fun F h => szTree_c _ x0 F (1048576) w h (by omega) (by omega)) st.rI) ?_
  rcases szr_or (1048576) (wtTree x0) with ⟨e1, l1⟩ | ⟨e1, l1⟩
  · rw [e1]
    refine goL ?_; intros
    refine ret () trivial rfl
  rw [e1]
  clear e1
  have hw0 : wtTree x0 ≤ 1048576 := by omega
  have hc0 := cvTree_wt x0 hw0
  have hV0 := hV hw0
  refine goL ?_; intros
  refine cv (fun w st => ex1 (fun F h => toTree_c _ x0 F w h hw0) st.rI) fun y0 K0 => ?_
  refine t_weakV weak_Tree fun K0 => ?_
  refine goL ?_; intros
  refine cf (hS _ _) fun z hz => ?_
  refine t_app ?_
  obtain ⟨zlw, zFw⟩ := z
  dsimp only
  refine t_aggO (E := OConsole) (x := r0) (F := zFw) one_OConsole ?_
  rintro cs e hlw how
  obtain rfl : zlw = cs := by simpa using e
  clear e
  refine goL ?_; intros
  refine cv (fun w st => ex1 (fun F h => toTree_c _ x0 F w h hw0) st.rI) fun yv0 KX0 => ?_
  refine t_aggO (E := OTree) (x := x0) (F := KX0) one_OTree ?_
  rintro cx0 rfl hlx0 hox0
  refine goL ?_; intros
  refine cm (fun w st => ex1 (fun F h => (hI _ F).made w (hol1 h) (fun _ => rfl)) (st.rO weak_Tree)) fun z hz => ?_
  refine t_app ?_
  obtain ⟨zlg, zFg⟩ := z
  dsimp only
  refine t_aggO (E := OConsole) (x := r0) (F := zFg) one_OConsole ?_
  rintro cs e hlg hog
  obtain rfl : zlg = cs := by simpa using e
  clear e
  refine goL ?_; intros
  refine cb (fun w st => ex2 (fun Fa Fb ha hb => eqConsole_c _ _ r0 Fa Fb w ha hb) (st.rO weak_Console) (st.rO weak_Console)) ?_
  refine goL ?_; intros
  refine d_startA [] ?_
  refine dt 0 ?_ (hy := (by first | exact ydE | exact yd_ldw rfl (by exact memE) (by assumption)))
  refine dt 1 ?_ (hy := (by first | exact ydE | exact yd_ldw rfl (by exact memE) (by assumption)))
  refine dO 2 (by kernel_rfl) (by rw [List.getElem?_toArray]; rfl) ?_
  apply o_call; rfl; kernel_rfl; exact evsE
  refine cv (fun w st => ex1 (fun F h => toTree_c _ x0 F w h hw0) st.rI) fun y0 K0 => ?_
  refine t_weakV weak_Tree fun K0 => ?_
  refine dk ?_
  refine dO 3 (by kernel_rfl) (by rw [List.getElem?_toArray]; rfl) ?_
  apply o_call; rfl; kernel_rfl; exact evsE
  refine cb (fun w st => ex2 (fun Fa Fb ha hb => eqTree_c _ _ x0 Fa Fb w ha hb) (st.rO weak_Tree) st.rI) ?_
  refine dk ?_
  refine dt 4 ?_
  refine dd ?_
  refine goL ?_; intros
  refine cf (fn_markV (fun w h hn => markTree_c _ x0 _ (1) w h hn (by omega) (by omega))) fun _ _ => ?_
  refine t_app ?_
  refine goL ?_; intros
  refine cb (fun w st => ex2 (fun Fa Fb ha hb => eqConsole_c _ _ r0 Fa Fb w ha hb) (st.rO weak_Console) (st.rO weak_Console)) ?_
  refine goL ?_; intros
  refine cf (markConsole_f _ r0 _ (1) (by omega) (by omega)) fun _ _ => ?_
  refine t_app ?_
  refine goL ?_; intros
  refine cb (fun w st => ex1 (fun F h => heldConsole_c _ r0 F (1) w h (by omega) (by omega)) (st.rO weak_Console)) ?_
  refine goL ?_; intros
  refine cv (fun w st => ex1 (fun F h => toTree_c _ x0 F w h hw0) st.rI) fun y0 K0 => ?_
  refine t_weakV weak_Tree fun K0 => ?_
  refine goL ?_; intros
  refine cm (fun w st => ex1 (fun F h => (hI _ F).made w (hol1 h) (fun _ => rfl)) (st.rI)) fun z hz => ?_
  refine t_app ?_
  obtain ⟨zlh, zFh⟩ := z
  dsimp only
  refine t_aggO (E := OConsole) (x := r0) (F := zFh) one_OConsole ?_
  rintro cs e hlh hoh
  obtain rfl : zlh = cs := by simpa using e
  clear e
  refine goL ?_; intros
  refine cb (fun w st => ex2 (fun Fa Fb ha hb => eqConsole_c _ _ r0 Fa Fb w ha hb) (st.rO weak_Console) (st.rO weak_Console)) ?_
  refine goL ?_; intros
  refine cb (fun w st => ex1 (fun F h => heldConsole_c _ r0 F (1) w h (by omega) (by omega)) (st.rO weak_Console)) ?_
  refine goL ?_; intros
  refine ret () trivial rfl
theorem law_NewConsole (v0 : Value) (x0 : Tree) (F0 : List Nat) (x1 : Int) (x2 : Int) (w : World) (h0 : IsV ETree w v0 x0 F0) :
    Calls Tryz.prog 3 #[v0, .int .i64 x1, .int .i64 x2] w fun e' w' => e' = .returned (.bool true) ∧ Below w.heap.size w w' := (law_NewConsole_f v0 x0 F0 x1 x2).val w (hol1 (h0))
end Go.Proofs.YtccmhdheoeglmaaGreatDoor
/- The law FnExactNewConsole, lifted. Written by wip/genlaw.py. -/
namespace Go.Proofs.YtccmhdheoeglmaaGreatDoor
open Go.RowKit Go.ChangeShapes Go.WideShapes Go.ChangeAt
theorem reads_Tree : Reads Tryz.prog ETree 24 := fun hh => by
  obtain ⟨y, F, hy⟩ := reads_struct (E := (EProd (ESl EInt (by decide)) EUnit)) Tryz.underlying24 (by kernel_rfl) (.cons rfl (by kernel_rfl) (reads_slice Tryz.underlying22 (by kernel_rfl) (by decide) (reads_int Tryz.underlying3)) (.nil _)) hh
  obtain ⟨_, _, _, _, rfl, rfl, ⟨u0, rfl, hs0⟩, ⟨rfl, rfl⟩⟩ := hy
  exact ⟨⟨y.1⟩, _, u0, rfl, by simpa using hs0⟩
set_option maxRecDepth 100000 in
theorem lifted_NewConsole (os : Os) (started : os.Started) (H : Type) (enc : TypeId × Value → H) :
    ReturnsInHanded {} Tryz.checked os 3 .any (fun w args => (Rows.fnExactNewConsoleSpec.pre enc Tryz.prog Tryz.f3 Rows.fnExactNewConsoleRow.domain false w args ∧ laidMetH Tryz.prog Rows.fnExactNewConsoleRow.laid w) ∧ sizedMet enc Tryz.prog Tryz.f3 (OpenSpec.ofChange Rows.fnExactNewConsoleSpec) false w args)
      (Rows.fnExactNewConsoleSpec.post enc Tryz.prog Tryz.f3 false true false false) := by
  refine returnsInHanded_of_change_and (C := Tryz.checked) (X := fun w _ => laidMetH Tryz.prog Rows.fnExactNewConsoleRow.laid w) (fun _ _ _ hh h => h.of_heap hh) (by kernel_rfl) started (by kernel_rfl) Tryz.func3
    (ChangeSpec.witness_shaped (enc := enc) (C := Tryz.checked) (os := os) (X := fun w _ => laidMetH Tryz.prog Rows.fnExactNewConsoleRow.laid w) false (World.laidAll Tryz.prog os Rows.fnExactNewConsoleRow.laid) #[.agg #[.slice none 0 0], .int .i64 0, .int .i64 0] 8 (World.laidAll_os _ _ _)
      (World.shaped_of_ZipB (by kernel_rfl) (by kernel_rfl)) (by kernel_rfl) (by kernel_rfl) (by kernel_rfl)
      (by rw [MakeChecks.laidMetH_plain _ _ _ (by kernel_rfl)]; exact laidMet_laidAll _ (by kernel_rfl) (by kernel_rfl))) ?_
  intro W base args ds gs before hval0 hW hc_ _ hL _
  have hval : ∀ (j : Nat) t v, Tryz.f3.params[j]? = some t → args[j]? = some v → Value.okWide Tryz.prog W .any base t v := hval0
  have hW' := hW
  obtain ⟨p, q, hA0, hV, rfl, hfz, hnd⟩ := hW
  have hA : DataW.TrodAll enc Tryz.prog W 0 (fun _ => true) true Tryz.f3.params.toList args.toList ds p := hA0
  rw [Tryz.params3] at hA hval
  obtain ⟨v0, v1, v2, d0, d1, d2, p0, p1, p2, rfl, rfl, rfl, h0, h1, h2⟩ := trodAll_three hA
  obtain ⟨cs0, rfl, hsz0⟩ := okWide_struct Tryz.underlying24 (hval 0 24 v0 rfl rfl)
  obtain ⟨fuel0, hf0⟩ := h0
  obtain ⟨x0, F0, hx0⟩ := reads_Tree hf0
  obtain ⟨c1, rfl⟩ := okWide_int Tryz.underlying3 (hval 1 3 v1 rfl rfl)
  obtain ⟨c2, rfl⟩ := okWide_int Tryz.underlying3 (hval 2 3 v2 rfl rfl)
  refine (law_NewConsole _ x0 F0 c1 c2 W ⟨cs0.toList, by simp, by simpa [Value.cells] using hx0⟩).mono fun e W' ⟨he, hB⟩ => ⟨_, he, law_post (tb := 4) (by kernel_rfl) ?_ Tryz.underlying4 (by kernel_rfl) rfl rfl hW' hB⟩
  rw [Tryz.params3]
  intro t ht
  simp only [List.mem_cons, List.not_mem_nil, or_false] at ht
  rcases ht with rfl | rfl | rfl <;> exact ⟨by kernel_rfl, of_decide_eq_true (by kernel_rfl)⟩
end Go.Proofs.YtccmhdheoeglmaaGreatDoor
/- The law FnExactNewConsole: what is counted of the program, each count by itself. Written by wip/genlaw.py. -/
namespace Go.Proofs.YtccmhdheoeglmaaGreatDoor
open Go.RowKit Go.ChangeShapes Go.WideShapes Go.ChangeAt
set_option maxRecDepth 100000 in
set_option maxHeartbeats 0 in
theorem jf_NewConsole : joinedFacts Tryz.prog 3 Tryz.f3 Rows.fnExactNewConsoleSpec Rows.fnExactNewConsoleRow = true := by
  unfold joinedFacts
  simp only [Bool.and_eq_true]
  repeat' refine And.intro ?_ ?_
  all_goals (as_aux_lemma => kernel_rfl)
end Go.Proofs.YtccmhdheoeglmaaGreatDoor
