/- Walks: the reference's l27Open. -/
import Derived.Test.YtnmgaponnfjciaaDoorLogReadR
import Derived.Test.YtnmgaponnfjciaaDoorLogRead
namespace Go.Proofs.YtnmgaponnfjciaaDoor
open Go.RowKit
/-- the records at the start of a text, and how many bytes they take -/
def POpen (l : Bs) (w : World) (e : Ending) (w' : World) : Prop :=
  ∃ u0 G0, e = .returned (.tuple #[u0, .int .i64 ((opened l).flatten.length : Nat)]) ∧ Ow ELogRecord 27 w' u0 ((opened l).map recL) G0 ∧ G0.Nodup ∧ (∀ b ∈ G0, w.heap.size ≤ b) ∧ Below w.heap.size w w'
theorem acc_sixty (xs : List Bs) : acc 60 xs = [] := by
  cases xs with
  | nil => rfl
  | cons x r =>
    have : okL 60 x = false := by
      cases h : okL 60 x with
      | false => rfl
      | true => obtain ⟨c, r, hk, _⟩ := okL_iff.1 h; omega
    simp [acc, this]
theorem opened_at {l rest : Bs} {pre : List Bs} (hl : l = pre.flatten ++ rest) (h : acc 0 pre = pre) : opened l = pre ++ acc pre.length (linesOf rest) := by rw [hl]; exact opened_lines h rest
theorem first_line {rest : Bs} (h : rest ≠ []) : ∃ x post, linesOf rest = x :: post ∧ (10 ∈ rest → x = upTo 10 rest ++ [10] ∧ post = linesOf (behind 10 rest)) ∧ (10 ∉ rest → x = rest) := by
  rcases split_at 10 rest with ⟨h1, h2⟩ | ⟨h1, h2, _⟩
  · refine ⟨upTo 10 rest ++ [10], linesOf (behind 10 rest), ?_, fun _ => ⟨rfl, rfl⟩, fun e => absurd h1 e⟩
    conv => lhs; rw [h2]
    exact linesOf_nl _ upTo_mem
  · exact ⟨rest, [], linesOf_last h fun c hc e => h1 (by rw [← e]; exact hc), fun e => absurd e h1, fun _ => rfl⟩
theorem opened_none {l rest : Bs} {pre : List Bs} (hl : l = pre.flatten ++ rest) (h : acc 0 pre = pre) (hr : rest = [] ∨ pre.length = 60) : opened l = pre := by
  rw [opened_at hl h]
  rcases hr with rfl | hr
  · simp [linesOf, acc]
  · rw [hr, acc_sixty]; simp
theorem opened_bad {l rest : Bs} {pre : List Bs} (hl : l = pre.flatten ++ rest) (h : acc 0 pre = pre) (hr : rest ≠ []) (hb : 10 ∉ rest ∨ okL pre.length (upTo 10 rest ++ [10]) = false) : opened l = pre := by
  rw [opened_at hl h]
  obtain ⟨x, post, hx, h1, h2⟩ := first_line hr
  have : okL pre.length x = false := by
    by_cases hm : 10 ∈ rest
    · rw [(h1 hm).1]; exact hb.resolve_left (fun e => e hm)
    · rw [h2 hm]; exact okL_no fun b hb e => hm (by rw [← e]; exact hb)
  rw [hx]; simp [acc, this]
theorem opened_good {l rest : Bs} {pre : List Bs} (hl : l = pre.flatten ++ rest) (h : acc 0 pre = pre) (hm : 10 ∈ rest) (hok : okL pre.length (upTo 10 rest ++ [10]) = true) :
    acc 0 (pre ++ [upTo 10 rest ++ [10]]) = pre ++ [upTo 10 rest ++ [10]] ∧ l = (pre ++ [upTo 10 rest ++ [10]]).flatten ++ behind 10 rest := by
  refine ⟨acc_snoc h (by rw [Nat.zero_add]; exact hok), ?_⟩
  rcases split_at 10 rest with ⟨_, h2⟩ | ⟨h2, _⟩
  · rw [hl]; conv => lhs; rw [h2]
    simp
  · exact absurd hm h2
theorem split_len (c : UInt8) (l : Bs) : (splitL c l).length < 2 ↔ c ∉ l := by
  obtain ⟨r, hr, he⟩ := splitL_head c l
  rw [hr, ← he]
  cases r <;> simp
set_option maxHeartbeats 3200000 in
set_option maxRecDepth 100000 in
theorem l27Open_c (s : ByteArray) (w : World) (hs : s.size ≤ 16777216) : Calls Tryd.prog 47 #[.string s] w (POpen s.data.toList w) := by
  go_enter Tryd.func47, Tryd.ntmps47
  go_wp2_with fail
  go_loopw [4, 5] (fun o f wr => ∃ (pre : List Bs) (rest : Bs) (F : List Nat) (oa : Option Addr) (oc at_ : Nat), at_ = pre.flatten.length ∧ f = .int .i64 at_ ∧ o = .slice oa pre.length oc ∧ Hid (Ow ELogRecord 27 wr (.slice oa pre.length oc) (pre.map recL) F) ∧ F.Nodup ∧ (∀ b ∈ F, w.heap.size ≤ b) ∧
    Hid (s.data.toList = pre.flatten ++ rest) ∧ Hid (acc 0 pre = pre) ∧ pre.length ≤ 60 ∧ at_ + rest.length = s.size ∧ Below w.heap.size w wr) (fun _ f _ => s.size - (intOf f).toNat)
  case atStart => exact ⟨[], s.data.toList, [w.heap.size], some ⟨w.heap.size, 0, none⟩, 0, 0, rfl, rfl, rfl, Lib.hid (Ow.empty (Row.made _ _ _)), by simp, by simp, Lib.hid rfl, Lib.hid rfl, by simp, by rw [size_list]; simp, (Below.refl _ _).alloc (Nat.le_refl _) _⟩
  case round =>
    obtain ⟨pre, rest, F, oa, oc, at_, hat, rfl, rfl, ho, hn, hF, hl, ha, hp, hsz, hB⟩ := hrel
    have done : ∀ (w' : World), opened s.data.toList = pre → Below w.heap.size w w' → Ow ELogRecord 27 w' (.slice oa pre.length oc) (pre.map recL) F → POpen s.data.toList w (.returned (.tuple #[.slice oa pre.length oc, .int .i64 (at_ : Nat)])) w' :=
      fun w' h1 h2 h3 => ⟨_, F, by rw [h1, hat], by rw [h1]; exact h3, hn, hF, h2⟩
    replace done := Lib.hid done
    replace hat := Lib.hid hat
    by_cases hr : rest.length = 0
    · have hr0 : rest = [] := List.eq_nil_of_length_eq_zero hr
      have hop := Lib.hid (opened_none hl.out ha.out (.inl hr0))
      clear hl ha
      go_wp2_with fail
      refine bodyPost_ret (v := .tuple #[.slice oa pre.length oc, .int .i64 (at_ : Nat)]) ?_ rfl (done.out _ hop.out ?_ ?_)
      · simp [results, Tryd.results47, go_sem]
      · exact hB
      · exact ho.out
    · have hr0 : rest ≠ [] := fun e => hr (by rw [e]; rfl)
      by_cases h6 : pre.length = 60
      · have hop := Lib.hid (opened_none hl.out ha.out (.inr h6))
        clear hl ha hr0
        replace h6 : 60 ≤ pre.length := by omega
        go_wp2_with fail
        refine bodyPost_ret (v := .tuple #[.slice oa pre.length oc, .int .i64 (at_ : Nat)]) ?_ rfl (done.out _ hop.out ?_ ?_)
        · simp [results, Tryd.results47, go_sem]
        · exact hB
        · exact ho.out
      · have hp9 : pre.length ≤ 59 := by omega
        have hrs : s.extract at_ s.size = bs rest := by rw [ext_end, hl.out, hat.out, List.drop_left]
        have hrl := Lib.hid (show (s.extract at_ s.size).data.toList = rest by rw [hrs, bs_list])
        have hrs2 : (s.extract at_ s.size).size ≤ 16777216 := by simp; omega
        have hus : (bs (upTo 10 rest)).size ≤ 16777216 := by have := upTo_len 10 rest; rw [bs_size]; omega
        have hus2 := Lib.hid (bs_size (upTo 10 rest))
        have hR : ∀ w, Calls Tryd.prog 69 #[.string (bs (upTo 10 rest)), .int .i64 (pre.length : Int)] w fun e w' => e = .returned (.tuple #[.agg #[.string (bs (readR (upTo 10 rest) pre.length).1.1), .string (bs (readR (upTo 10 rest) pre.length).1.2)], .bool (okL pre.length (upTo 10 rest ++ [10]))]) ∧ Below w.heap.size w w' := fun w => by
          have := l27Read_c (bs (upTo 10 rest)) pre.length w hp9 hus
          unfold PReadR at this
          rwa [bs_list, readR_ok hp9] at this
        have hrec : okL pre.length (upTo 10 rest ++ [10]) = true → (⟨bs (readR (upTo 10 rest) pre.length).1.1, bs (readR (upTo 10 rest) pre.length).1.2⟩ : LogRecord) = recL (upTo 10 rest ++ [10]) := fun h => by
          rw [readR_rec (by rw [readR_ok hp9]; exact h)]; rfl
        have hr1 : (bs (readR (upTo 10 rest) pre.length).1.1).size ≤ maxLen ∧ (bs (readR (upTo 10 rest) pre.length).1.2).size ≤ maxLen ∨ okL pre.length (upTo 10 rest ++ [10]) = false := by
          cases hk : okL pre.length (upTo 10 rest ++ [10]) with
          | false => exact .inr rfl
          | true =>
            left
            have h1 := hrec hk
            obtain ⟨c, r, _, hg, e⟩ := okL_iff.1 hk
            have hG := goodL_good hg
            rw [e] at h1
            unfold recL at h1
            rw [cmd_line hG, rep_line hG] at h1
            simp only [LogRecord.mk.injEq] at h1
            have := hG.c1; have := hG.r1
            rw [h1.1, h1.2, bs_size, bs_size]; unfold maxLen; omega
        replace hrec := Lib.hid hrec
        replace hr1 := Lib.hid hr1
        clear hrs
        generalize bs (readR (upTo 10 rest) pre.length).1.1 = cc at *
        generalize bs (readR (upTo 10 rest) pre.length).1.2 = rr at *
        by_cases hm : 10 ∈ rest
        · cases hok : okL pre.length (upTo 10 rest ++ [10])
          · have hop := Lib.hid (opened_bad hl.out ha.out hr0 (.inr hok))
            rw [hok] at hR
            replace hR := Lib.hid hR
            clear hl ha hr0 hok hrec hr1
            go_wp2_with fail
            refine (l1Split_c (s.extract at_ s.size) 10 _ hrs2).mono ?_
            rintro e w2 ⟨v2, F2, rfl, o2, -, -, hb2⟩
            obtain ⟨g2, off2, m2, cap2, rfl, hm2, hm3, q2⟩ := split_first o2
            rw [hrl.out] at q2 hm3
            have hls := split_len 10 rest
            rw [← hm3] at hls
            clear o2 hm3
            have ho2 := Lib.hid (ho.out.below hb2)
            have hB2 := tr hB hb2 (Nat.le_refl _)
            clear ho hB hb2
            have hm4 : ¬ m2 < 2 := fun e => (hls.1 e) hm
            clear hls hm
            go_wp2_with fail
            refine (hR.out _).mono ?_
            rintro e w3 ⟨rfl, hb3⟩
            have ho3 := Lib.hid (ho2.out.below hb3)
            have hB3 := tr hB2 hb3 (Nat.le_refl _)
            have q3 := kc hb3 q2
            clear ho2 hB2 hb3 q2
            go_wp2_with fail
            refine bodyPost_ret (v := .tuple #[.slice oa pre.length oc, .int .i64 (at_ : Nat)]) ?_ rfl (done.out _ hop.out ?_ ?_)
            · simp [results, Tryd.results47, go_sem]
            · exact hB3.alloc hB3.size _
            · exact (ho3.out.below ((Below.refl _ _).alloc (Nat.le_refl _) _))
          · obtain ⟨hacc, hl2⟩ := opened_good hl.out ha.out hm hok
            have hrc := Lib.hid (hrec.out hok)
            obtain ⟨sc, sr⟩ := hr1.out.resolve_right (by rw [hok]; simp)
            have hbl : (upTo 10 rest).length + 1 + (behind 10 rest).length = rest.length := by
              rcases split_at 10 rest with ⟨_, h2⟩ | ⟨h2, _⟩
              · have := congrArg List.length h2; simp at this; omega
              · exact absurd hm h2
            rw [hok] at hR
            replace hR := Lib.hid hR; replace hacc := Lib.hid hacc; replace hl2 := Lib.hid hl2; replace hbl := Lib.hid hbl
            clear hl ha hr0 hok hrec hr1 done
            have hFl := ho.out.lt
            go_wp2_with fail
            refine (l1Split_c (s.extract at_ s.size) 10 _ hrs2).mono ?_
            rintro e w2 ⟨v2, F2, rfl, o2, -, f2, hb2⟩
            obtain ⟨g2, off2, m2, cap2, rfl, hm2, hm3, q2⟩ := split_first o2
            rw [hrl.out] at q2 hm3
            have hls := split_len 10 rest
            rw [← hm3] at hls
            have hg2 : wr.heap.size ≤ g2 := f2 _ (o2.own_mem _ rfl)
            have hs2 := hb2.size
            clear o2 hm3 f2
            have ho2 := Lib.hid (ho.out.below hb2)
            have hB2 := tr hB hb2 (Nat.le_refl _)
            clear ho hB hb2
            have hm4 : ¬ m2 < 2 := fun e => (hls.1 e) hm
            clear hls hm
            go_wp2_with fail
            refine (hR.out _).mono ?_
            rintro e w3 ⟨rfl, hb3⟩
            have ho3 := Lib.hid (ho2.out.below hb3)
            have hB3 := tr hB2 hb3 (Nat.le_refl _)
            have q3 := kc hb3 q2
            have hs3 := hb3.size
            clear ho2 hB2 hb3 q2
            have al2 := ((Below.refl w3.heap.size w3).alloc (Nat.le_refl _) (.cells #[.string cc, .string rr] 27)).alloc (by simp) (.cells #[.string cc, .string rr] 27)
            have hnews : ∀ j u, [Value.string cc, Value.string rr][j]? = some u → ((w3.alloc (.cells #[.string cc, .string rr] 27)).alloc (.cells #[.string cc, .string rr] 27)).cell? ((⟨w3.heap.size + 1, 0, none⟩ : Addr).add j) = some u :=
              World.news_of_block (by have := heap_alloc_new (w3.alloc (.cells #[.string cc, .string rr] 27)) (.cells #[.string cc, .string rr] 27); simpa using this)
            have ho4 := ho3.out.below al2
            have q4 := kc al2 q3
            have hB4 := tr hB3 al2 (Nat.le_refl _)
            replace hnews := Lib.hid hnews; replace ho4 := Lib.hid ho4; replace q4 := Lib.hid q4
            clear ho3 hB3 q3
            go_wp2_with (at_builtin; refine wpList_apd one_ELogRecord (by decide) (by rfl) _ _ _ (by rfl) 27 (.agg #[.string ⟨#[]⟩, .string ⟨#[]⟩]) 32 Tryd.underlying48 info_LogRecord rfl (.slice oa pre.length oc) (pre.map recL) F (by rfl) ho4.out (Hd.of hn) (some ⟨w3.heap.size + 1, 0, none⟩) [⟨cc, rr⟩] 1 (by rfl) [.string cc, .string rr] [] (Flat.one ⟨rfl, sc, sr, rfl⟩) (.inr ⟨_, rfl, hnews.out⟩) (by simp) (by simp; unfold maxLen; omega) (by simp; omega) ?_)
            intro v6 w6 F6 hA
            have o6 := hA.ow; have n6 := hA.nodup hn (by simp) (by simp); have m6 := hA.mem; have K6 := hA.keep
            obtain ⟨a6, c6, hv6⟩ := hA.val
            clear hA
            have hv7 : v6 = .slice a6 (pre.length + 1) c6 := by simpa using hv6
            subst hv7; clear hv6
            have f6 : ∀ b ∈ F6, w.heap.size ≤ b := fun b hb => by
              rcases m6 b hb with h7 | h7 | h7
              · exact hF b h7
              · simp at h7
              · have := hB4.size; simp at h7 this; omega
            have q6 := K6.cell (a := ⟨g2, off2, none⟩) (fun hm' => by have := hFl _ hm'; simp at this; omega) q4.out
            have B6 : Below w.heap.size w w6 := hB4.trans (K6.below hB4.size hF)
            have hml : (pre ++ [upTo 10 rest ++ [10]]).map recL = pre.map recL ++ [⟨cc, rr⟩] := by rw [List.map_append, hrc.out]; rfl
            replace o6 := Lib.hid o6; replace hml := Lib.hid hml
            have hd : Hid (at_ + (upTo 10 rest).length + 1 = (pre ++ [upTo 10 rest ++ [10]]).flatten.length) := by refine Lib.hid ?_; have := hat.out; simp at this ⊢; omega
            have hus3 : (bs (upTo 10 rest)).size = (upTo 10 rest).length := hus2.out
            have hul : (upTo 10 rest).length + 1 ≤ rest.length := by have := hbl.out; omega
            generalize hun : (upTo 10 rest).length = n at *
            replace hus3 := Lib.hid hus3; replace hun := Lib.hid hun
            clear K6 m6 hnews ho4 q4 hB4 al2 hF hn hrc hat
            go_wp2_with fail
            refine ⟨⟨pre ++ [upTo 10 rest ++ [10]], behind 10 rest, F6, a6, c6, at_ + n + 1, ?_, ?_, by simp, ?_, n6, f6, hl2, hacc, by simp; omega, ?_, B6⟩, ?_⟩
            · rw [← hd.out]
            · rw [hus3.out]; go_num
            · refine Lib.hid ?_
              rw [hml.out]; simpa using o6.out
            · have := hbl.out; omega
            · simp [intOf]; have := hus3.out; omega
        · have hop := Lib.hid (opened_bad hl.out ha.out hr0 (.inl hm))
          replace hR := Lib.hid hR
          clear hl ha hr0 hrec hr1
          go_wp2_with fail
          refine (l1Split_c (s.extract at_ s.size) 10 _ hrs2).mono ?_
          rintro e w2 ⟨v2, F2, rfl, o2, -, -, hb2⟩
          obtain ⟨g2, off2, m2, cap2, rfl, hm2, hm3, q2⟩ := split_first o2
          rw [hrl.out] at q2 hm3
          have hls := split_len 10 rest
          rw [← hm3] at hls
          clear o2 hm3
          have ho2 := Lib.hid (ho.out.below hb2)
          have hB2 := tr hB hb2 (Nat.le_refl _)
          clear ho hB hb2
          have hm4 : m2 < 2 := hls.2 hm
          clear hls hm
          go_wp2_with fail
          refine (hR.out _).mono ?_
          rintro e w3 ⟨rfl, hb3⟩
          have ho3 := Lib.hid (ho2.out.below hb3)
          have hB3 := tr hB2 hb3 (Nat.le_refl _)
          have q3 := kc hb3 q2
          clear ho2 hB2 hb3 q2
          go_wp2_with fail
          refine bodyPost_ret (v := .tuple #[.slice oa pre.length oc, .int .i64 (at_ : Nat)]) ?_ rfl (done.out _ hop.out ?_ ?_)
          · simp [results, Tryd.results47, go_sem]
          · exact hB3.alloc hB3.size _
          · exact (ho3.out.below ((Below.refl _ _).alloc (Nat.le_refl _) _))
end Go.Proofs.YtnmgaponnfjciaaDoor
