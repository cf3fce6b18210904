/- Walks: a tick of an element. -/
import Derived.Test.YtjbfffopbpajiaaElem4
import Derived.BigQuiet
import Derived.Deep.RegionLaw
namespace Go.Proofs.Ytjbfffopbpajiaa
open Go.RowKit
theorem Element_tick_1_c (x : Entry) (c : Int) (b pb : Nat) (G : List Nat) (u : Value) (w : World) (h : IsV EEntry w u x G) (hb : w.cell? ⟨b, 0, none⟩ = some (.pointer (some ⟨pb, 0, none⟩))) (hc : w.cell? ⟨pb, 0, none⟩ = some (.int .i64 c)) :
    Calls Try.prog 57 #[u, .pointer (some ⟨b, 0, none⟩)] w fun e w' => e = .returned (.bool (decide (x.untl ≤ c))) ∧ Below w.heap.size w w' := by
  obtain ⟨_, rfl, v1, rfl, h1⟩ := h
  obtain ⟨a1, p1, rfl⟩ := h1.slice
  have hbl := World.block_lt_of_cell? w _ hb
  have hpl := World.block_lt_of_cell? w _ hc
  simp only at hbl hpl
  have hA := fun A : Obj => (Below.refl w.heap.size w).alloc (Nat.le_refl _) A
  have hb1 := kc (hA (.cells #[.int .i64 x.number, .slice a1 x.faces.length p1, .int .i64 x.untl] 70)) hb
  have hc1 := kc (hA (.cells #[.int .i64 x.number, .slice a1 x.faces.length p1, .int .i64 x.untl] 70)) hc
  have hB := hA (.cells #[.int .i64 x.number, .slice a1 x.faces.length p1, .int .i64 x.untl] 70)
  have q0 := (Row.made w 70 [.int .i64 x.number, .slice a1 x.faces.length p1, .int .i64 x.untl]).cells
  go_enter Try.func57, Try.ntmps57
  go_wp2_with fail
  generalize w.alloc (.cells #[.int .i64 x.number, .slice a1 x.faces.length p1, .int .i64 x.untl] 70) = w1 at *
  go_quiet (fail)
  go_wp2_with fail
  go_ret
  exact ⟨rfl, belowDrewN hB _⟩
/-- an element a tick later -/
def tickElement (e : Element) : Element := ⟨e.clock + 1, e.entries.filter fun x => !decide (x.untl ≤ e.clock + 1)⟩
set_option maxHeartbeats 1600000 in
theorem Element_tick_c (e : Element) (pb : Nat) (v1 : Value) (F : List Nat) (w : World) (hr : Row w pb 35 [.int .i64 e.clock, v1]) (ho : Ow OEntry 70 w v1 e.entries F) (hn : F.Nodup) (hpb : pb ∉ F) (hc : isClk e.clock = true) :
    Calls Try.prog 33 #[.pointer (some ⟨pb, 0, none⟩)] w fun e' w' => (∃ u, e' = .returned u) ∧ ∃ v2 F2, Row w' pb 35 [.int .i64 (tickElement e).clock, v2] ∧ Ow OEntry 70 w' v2 (tickElement e).entries F2 ∧ F2.Nodup ∧ (∀ b ∈ F2, b ∈ F) ∧ Keep (pb :: F) w w' := by
  obtain ⟨a, cap, rfl⟩ := ho.slice
  have hcb := isClk_iff.1 hc
  have hpl := hr.lt
  have hFl := ho.lt
  have c0 := hr.cells; have f0 := hr.frozens
  have hne : ¬ w.heap.size = pb := by omega
  have hne2 : ¬ pb = w.heap.size := by omega
  have hbF : w.heap.size ∉ F := fun hm => Nat.lt_irrefl _ (hFl _ hm)
  have d0 := fun A => (hr.alloc A).cells
  have e0 := fun A => (hr.alloc A).frozens
  have hS : (w.setCell ⟨pb, 0, none⟩ (.int .i64 (e.clock + 1))).heap.size = w.heap.size := by simp [World.setCell]
  have R := (hr.set 0 (.int .i64 (e.clock + 1))).alloc (.cells #[.pointer (some ⟨pb, 0, none⟩)] 75)
  have O := (ho.setFar (p := ⟨pb, 0, none⟩) hpb (.int .i64 (e.clock + 1))).below ((Below.refl _ _).alloc (Nat.le_refl _) (.cells #[.pointer (some ⟨pb, 0, none⟩)] 75))
  have B := Row.made (w.setCell ⟨pb, 0, none⟩ (.int .i64 (e.clock + 1))) 75 [.pointer (some ⟨pb, 0, none⟩)]
  rw [hS] at B
  have K := ((Keep.refl (pb :: F) w).setCell (p := ⟨pb, 0, none⟩) (by simp) (.int .i64 (e.clock + 1))).alloc (.cells #[.pointer (some ⟨pb, 0, none⟩)] 75)
  go_enter Try.func33, Try.ntmps33
  go_wp2_with fail
  clear d0 e0 c0 f0
  generalize (w.setCell ⟨pb, 0, none⟩ (.int .i64 (e.clock + 1))).alloc (.cells #[.pointer (some ⟨pb, 0, none⟩)] 75) = w1 at *
  have r0 : w1.drew.cell? ⟨pb, 0, none⟩ = some (.int .i64 (e.clock + 1)) := by simpa using R.cells 0
  have r1 : w1.drew.cell? ⟨pb, 1, none⟩ = some (.slice a e.entries.length cap) := by simpa using R.cells 1
  have b0 : w1.drew.cell? ⟨w.heap.size, 0, none⟩ = some (.pointer (some ⟨pb, 0, none⟩)) := by simpa using B.cells 0
  have hcall := Lib.hid (DeleteFunc_Entry _ (.mk' Try.func57 rfl rfl) #[.pointer (some ⟨w.heap.size, 0, none⟩)] _ e.entries F (fun x => decide (x.untl ≤ e.clock + 1)) w1.drew (O.frame fun _ _ => rfl) hn
    (fun k hk wr u G hK hu => Element_tick_1_c _ (e.clock + 1) w.heap.size pb G u wr hu (hK.cell hbF b0) (hK.cell hpb r0)))
  clear hr ho
  go_region_law (first | (go_simp; go_at_call 56; refine hcall.out.mono ?_; rintro e' w2 ⟨v2, F2, rfl, o2, n2, s2, k2⟩; obtain ⟨a2, p2, rfl⟩ := o2.slice; have z0 := k2.cell hbF b0; have z1 := k2.cell hpb r1; have R2 := (show Row w1.drew pb 35 _ from R).keepK k2 hpb; have z2 := R2.frozens 1))
  all_goals
    have R3 := R2.set 1 (.slice a2 (e.entries.filter fun x => !decide (x.untl ≤ e.clock + 1)).length p2)
    have O3 := Lib.hid (o2.setFar (p := ⟨pb, 1, none⟩) (fun hm => hpb (s2 _ hm)) (.slice a2 (e.entries.filter fun x => !decide (x.untl ≤ e.clock + 1)).length p2))
    have K3 : Keep (pb :: F) w (w2.setCell ⟨pb, 1, none⟩ (.slice a2 (e.entries.filter fun x => !decide (x.untl ≤ e.clock + 1)).length p2)) :=
      Keep.setCell ((K.drewN 1).trans (k2.mono fun b hb _ => by simp [hb])) (by simp) _
    clear o2 R2
    go_wp2_with fail
    go_end0
    exact ⟨⟨_, rfl⟩, _, F2, by simpa [tickElement] using R3, O3.out, n2, s2, K3⟩
theorem Sl.headIn {α : Type} {E : Elem α} {w : World} {b off n cap : Nat} {xs : List α} {F} (h : Sl E w (.slice (some ⟨b, off, none⟩) n cap) xs F) (k : Nat) (hk : k < xs.length) : b ∈ F := by
  obtain ⟨a', cap', hv, hl, h⟩ := h
  cases hv
  rcases h with ⟨rfl, _⟩ | ⟨b, off, F', he, _, rfl, hc⟩
  · simp at hk
  · cases he; simp
set_option maxHeartbeats 1600000 in
theorem l14Tick_c (v : Value) (e : Element) (F : List Nat) (w : World) (h : IsV EElement w v e F) (hc : isClk e.clock = true) (hm : e.entries.length ≤ 4294967296) (hm2 : ∀ x ∈ e.entries, x.faces.length ≤ 4294967296) :
    Calls Try.prog 29 #[v] w (RetR EElement (tickElement e) w) := by
  have hcb := isClk_iff.1 hc
  have hm2 := Lib.hid hm2
  have h0 := h
  obtain ⟨_, rfl, v1, rfl, h1⟩ := h
  obtain ⟨a, cap, rfl⟩ := h1.slice
  have hB0 : ∀ A B : Obj, Below w.heap.size w ((w.alloc A).alloc B) := fun A B => ((Below.refl _ _).alloc (Nat.le_refl _) _).alloc (by simp) _
  go_enter Try.func29, Try.ntmps29
  go_wp2_with fail
  refine (l14Own_c _ e F _ (h0.below (hB0 _ _)) hm hm2.out).mono ?_
  rintro e' w1 ⟨_, Fo, rfl, ⟨_, rfl, v2, rfl, ho⟩, hn, hFo, hb1⟩
  obtain ⟨a2, cap2, rfl⟩ := ho.slice
  have r0 := Row.below (g := w.heap.size) (t := 35) (cs := [.int .i64 e.clock, .slice a e.entries.length cap]) (by simp [row_alloc] <;> omega) hb1
  have r1 := Row.below (g := w.heap.size + 1) (t := 35) (cs := [.int .i64 0, .slice none 0 0]) (by simp [row_alloc] <;> omega) hb1
  obtain ⟨Fr, hFr, hs⟩ := ho.sl weak_Entry
  have hFl := ho.lt
  have hB := tr (hB0 _ _) hb1 (Nat.le_refl _)
  have d0 := fun A => (r0.alloc A).cells
  have c0 := r0.cells
  clear hb1
  go_wp2_with fail
  go_loopw [5] (fun i wr => ∃ k : Nat, k ≤ e.entries.length ∧ i = .int .i64 k ∧ ∃ oa oc F, Hid (Ow EEntry 70 wr (.slice oa ((e.entries.take k).filter fun x => !decide (x.untl ≤ e.clock + 1)).length oc) ((e.entries.take k).filter fun x => !decide (x.untl ≤ e.clock + 1)) F) ∧ Hd F ∧ (∀ b, oa = some b → w1.heap.size + 1 + 1 ≤ b.block) ∧ (∀ c ∈ F, w.heap.size + 2 ≤ c ∧ c ≠ w1.heap.size ∧ c ≠ w1.heap.size + 1) ∧
    Row wr (w.heap.size + 1) 35 [.int .i64 0, .slice none 0 0] ∧ Row wr w1.heap.size 35 [.int .i64 e.clock, .slice a2 e.entries.length cap2] ∧ Row wr (w1.heap.size + 1) 35 [.int .i64 (e.clock + 1), .slice oa ((e.entries.take k).filter fun x => !decide (x.untl ≤ e.clock + 1)).length oc] ∧ Below w1.heap.size w1 wr) (fun i _ => e.entries.length - (intOf i).toNat)
  case atStart => exact ⟨0, Nat.zero_le _, rfl, none, 0, [], Lib.hid (.inl ⟨rfl, by simp, rfl⟩), Hd.nil, by simp, by simp, (r1.alloc _).alloc _, by simp [row_alloc], by simp [row_alloc], ((Below.refl _ _).alloc (Nat.le_refl _) _).alloc (by simp) _⟩
  case round =>
    obtain ⟨k, hk, rfl, oa, oc, F2, hO, hd2, hoa, hF2, hr1, hr2, hr3, hB2⟩ := hrel
    have c1 := hr2.cells; have c2 := hr3.cells; have c4 := hr1.cells; have f4 := hr1.frozens
    by_cases hlt : k < e.entries.length
    · obtain ⟨b, off, _, F1, rfl, hx, hFx, ja⟩ := (hs.below (by decide) hB2).at k hlt
      obtain ⟨u1, rfl, hf⟩ := id hx
      obtain ⟨fa, fc, rfl⟩ := hf.slice
      have a0 := ja 0 (by decide)
      have a1 := ja 1 (by decide)
      have a2 := ja 2 (by decide)
      simp only [show EEntry.sz = 3 from rfl, Nat.add_zero, List.getElem?_cons_zero, List.getElem?_cons_succ] at a0 a1 a2
      clear ja
      by_cases hq : e.entries[k].untl > e.clock + 1
      · have hqf := Lib.hid (filter_take_yes (q := fun x : Entry => !decide (x.untl ≤ e.clock + 1)) hlt (by simp; omega))
        generalize hys : ((e.entries.take k).filter fun x => !decide (x.untl ≤ e.clock + 1)) = ys at *
        have hys := Lib.hid hys
        go_wp2_with fail
        go_quiet (fail)
        go_wp2_with fail
        have D1 := show Row (wr.drewN nq) _ _ _ from hr1
        have D2 := show Row (wr.drewN nq) _ _ _ from hr2
        have D3 := show Row (wr.drewN nq) _ _ _ from hr3
        have DO := Lib.hid (show Ow EEntry 70 (wr.drewN nq) _ _ _ from hO.out.frame fun _ _ => rfl)
        have DX : EEntry.rep (wr.drewN nq) _ _ _ := EEntry.frame hx fun _ _ => rfl
        have DB := belowDrewN hB2 nq
        have b0 : (wr.drewN nq).cell? ⟨b, off + k * 3, none⟩ = _ := a0
        have b1 : (wr.drewN nq).cell? ⟨b, off + k * 3 + 1, none⟩ = _ := a1
        have b2 : (wr.drewN nq).cell? ⟨b, off + k * 3 + 2, none⟩ = _ := a2
        clear hr1 hr2 hr3 hO hx hf hB2 a0 a1 a2 c1 c2 c4 f4
        generalize wr.drewN nq = w2 at *
        have hbb := World.block_lt_of_cell? w2 _ b0
        simp only at hbb
        have DBs := DB.size
        have t3 := fun A => (D3.alloc A).cells 1; have t0 := D3.cells 1
        have o0 := D2.cells 1
        simp only [List.getElem?_cons_zero, List.getElem?_cons_succ] at t3 t0 o0
        have hyl : ys.length ≤ 4294967295 := by have := congrArg List.length hys.out; have := List.length_filter_le (fun x : Entry => !decide (x.untl ≤ e.clock + 1)) (e.entries.take k); simp at this; omega
        have hA := (Below.refl w2.heap.size w2).alloc (Nat.le_refl _) (.cells #[.int .i64 e.entries[k].number, .slice fa e.entries[k].faces.length fc, .int .i64 e.entries[k].untl] 70)
        have DOd := Lib.hid ((DO.out.below hA).frame (w' := (w2.alloc (.cells #[.int .i64 e.entries[k].number, .slice fa e.entries[k].faces.length fc, .int .i64 e.entries[k].untl] 70)).drew) fun _ _ => rfl)
        have DXd := EEntry.frame (w' := (w2.alloc (.cells #[.int .i64 e.entries[k].number, .slice fa e.entries[k].faces.length fc, .int .i64 e.entries[k].untl] 70)).drew) (EEntry.below DX hA) fun _ _ => rfl
        have E0' := kc hA o0; have E0 : (w2.alloc (.cells #[.int .i64 e.entries[k].number, .slice fa e.entries[k].faces.length fc, .int .i64 e.entries[k].untl] 70)).drew.cell? _ = _ := E0'
        have E1' := kc hA b0; have E1 : (w2.alloc (.cells #[.int .i64 e.entries[k].number, .slice fa e.entries[k].faces.length fc, .int .i64 e.entries[k].untl] 70)).drew.cell? _ = _ := E1'
        have E2' := kc hA b1; have E2 : (w2.alloc (.cells #[.int .i64 e.entries[k].number, .slice fa e.entries[k].faces.length fc, .int .i64 e.entries[k].untl] 70)).drew.cell? _ = _ := E2'
        have E3' := kc hA b2; have E3 : (w2.alloc (.cells #[.int .i64 e.entries[k].number, .slice fa e.entries[k].faces.length fc, .int .i64 e.entries[k].untl] 70)).drew.cell? _ = _ := E3'
        have nob : ∀ c ∈ (Value.slice oa ys.length oc).ownBlock.toList, w1.heap.size + 1 + 1 ≤ c := fun c hc => by
          cases oa with
          | none => simp [Value.ownBlock] at hc
          | some b => simp [Value.ownBlock] at hc; subst hc; exact hoa b rfl
        have D3a := show Row (w2.alloc (.cells #[.int .i64 e.entries[k].number, .slice fa e.entries[k].faces.length fc, .int .i64 e.entries[k].untl] 70)).drew _ _ _ from D3.alloc (.cells #[.int .i64 e.entries[k].number, .slice fa e.entries[k].faces.length fc, .int .i64 e.entries[k].untl] 70)
        have hFs : ∀ c ∈ F1, c < w1.heap.size := fun c hc => hs.lt (by decide) c (hFx c hc)
        have hbw : b < w1.heap.size := hs.lt (by decide) b (hs.headIn k hlt)
        have hn1 : ¬ b = w1.heap.size + 1 := by omega
        have hn2 : ¬ w1.heap.size + 1 = b := by omega
        go_region_law (first | ((refine step_apd one_EEntry (by decide) (by rfl) _ _ _ (by rfl) 70 (.agg #[.int .i64 0, .slice none 0 0, .int .i64 0]) 40 Try.underlying33 info_Entry rfl (.slice oa ys.length oc) ys F2 (by rfl) DOd.out hd2 (some ⟨w2.heap.size, 0, none⟩) [e.entries[k]] 1 (by rfl) [.int .i64 e.entries[k].number, .slice fa e.entries[k].faces.length fc, .int .i64 e.entries[k].untl] F1 (Flat.one DXd) (.inr ⟨_, rfl, World.news_of_block (w := (w2.alloc (.cells #[.int .i64 e.entries[k].number, .slice fa e.entries[k].faces.length fc, .int .i64 e.entries[k].untl] 70)).drew) (heap_alloc_new w2 _)⟩) (fun c hc he => by have h1 := nob c (by rw [he]; simp); have h2 := hFs c hc; omega) (by unfold maxLen; simp; omega) (by simp; omega) ?_); intro v4 w4 F4 hA4; obtain ⟨oa2, oc2, rfl⟩ := hA4.val; have D4 := D3a.keepK hA4.keep1 (fun hm => by have := nob _ hm; omega); have t4 := D4.cells 1; have f4 := D4.frozens 1; simp only [List.getElem?_cons_zero, List.getElem?_cons_succ] at t4))
        all_goals
          have hn4 : w1.heap.size + 1 ∉ F4 := fun hm => by
            rcases hA4.mem _ hm with h | h | h
            · exact (hF2 _ h).2.2 rfl
            · have := hFs _ h; omega
            · have := D3.lt; simp at h; omega
          have P1 := Lib.hid (hA4.ow.setFar (p := ⟨w1.heap.size + 1, 1, none⟩) hn4 (.slice oa2 (ys.length + 1) oc2))
          have L1 := ((show Row (w2.alloc (.cells #[.int .i64 e.entries[k].number, .slice fa e.entries[k].faces.length fc, .int .i64 e.entries[k].untl] 70)).drew _ _ _ from D1.alloc (.cells #[.int .i64 e.entries[k].number, .slice fa e.entries[k].faces.length fc, .int .i64 e.entries[k].untl] 70)).keepK hA4.keep1 (fun hm => by have := nob _ hm; have := r1.lt; omega)).setOther (p := ⟨w1.heap.size + 1, 1, none⟩) (by have := r1.lt; simp; omega) (.slice oa2 (ys.length + 1) oc2)
          have L2 := ((show Row (w2.alloc (.cells #[.int .i64 e.entries[k].number, .slice fa e.entries[k].faces.length fc, .int .i64 e.entries[k].untl] 70)).drew _ _ _ from D2.alloc (.cells #[.int .i64 e.entries[k].number, .slice fa e.entries[k].faces.length fc, .int .i64 e.entries[k].untl] 70)).keepK hA4.keep1 (fun hm => by have := nob _ hm; omega)).setOther (p := ⟨w1.heap.size + 1, 1, none⟩) (by simp) (.slice oa2 (ys.length + 1) oc2)
          have L3 := D4.set 1 (.slice oa2 (ys.length + 1) oc2)
          have hoa2 : ∀ b, oa2 = some b → w1.heap.size + 1 + 1 ≤ b.block := fun c hc => by
            subst hc
            rcases hA4.same with h | h
            · simp only [Value.ownBlock] at h; exact nob _ (by cases oa <;> simp_all [Value.ownBlock])
            · simp [Value.ownBlock] at h; have := D3.lt; omega
          have hF4 : ∀ c ∈ F4, w.heap.size + 2 ≤ c ∧ c ≠ w1.heap.size ∧ c ≠ w1.heap.size + 1 := fun c hc => by
            have hs3 := D3.lt
            have hsw := r1.lt
            rcases hA4.mem _ hc with h | h | h
            · exact hF2 _ h
            · have h1 := hFs _ h; have h2 : w.heap.size + 2 ≤ c := (by simpa using hFo c (hFr c (hFx c h))); exact ⟨h2, by omega, by omega⟩
            · simp at h; exact ⟨by omega, by omega, by omega⟩
          have hB5 : Below w1.heap.size w1 (w4.setCell ⟨w1.heap.size + 1, 1, none⟩ (.slice oa2 (ys.length + 1) oc2)) :=
            Below.setCell ((belowDrewN (tr DB hA (Nat.le_refl _)) 1).trans (hA4.keep1.below (by simp; omega) (fun b hb => by have := nob b hb; omega))) (by simp) _
          have hd4 := hA4.hd
          clear hA4 D1 D2 D3 D4
          go_wp2_with fail
          exact ⟨⟨k + 1, by omega, by go_num, oa2, oc2, F4, by rw [hqf.out, List.length_append]; exact P1, hd4, hoa2, hF4, L1, L2, by rw [hqf.out, List.length_append]; exact L3, hB5⟩, by simp [intOf]; omega⟩
      · have hqf := Lib.hid (filter_take_no (q := fun x : Entry => !decide (x.untl ≤ e.clock + 1)) hlt (by simp; omega))
        generalize hys : ((e.entries.take k).filter fun x => !decide (x.untl ≤ e.clock + 1)) = ys at *
        have hys := Lib.hid hys
        go_wp2_with fail
        go_quiet (fail)
        go_wp2_with fail
        refine ⟨⟨k + 1, by omega, by go_num, oa, oc, F2, ?_, hd2, hoa, hF2, hr1, hr2, ?_, belowDrewN hB2 _⟩, by simp [intOf]; omega⟩
        · rw [hqf.out]; exact Lib.hid (hO.out.frame fun _ _ => rfl)
        · rw [hqf.out]; exact hr3
    · have hk : k = e.entries.length := by omega
      subst hk
      simp only [List.take_length] at hO hr3 c2
      obtain ⟨F3, hF3, hs3⟩ := hO.out.read
      have hB3 := tr hB hB2 (Nat.le_refl _)
      go_wp2_with fail
      refine bodyPost_ret (v := .agg #[.int .i64 (e.clock + 1), .slice oa (e.entries.filter fun x => !decide (x.untl ≤ e.clock + 1)).length oc]) ?_ rfl ?_
      · simp [results, Try.results29, go_sem, c4, c2, f4]
      · refine ⟨_, F3, rfl, ⟨_, rfl, _, rfl, ?_⟩, fun b hb => by have := (hF2 b (hF3 b hb)).1; omega, ?_⟩
        · refine hs3.frame fun b hb => ?_
          have h2 := (hF2 b (hF3 b hb)).1
          rw [Below.heap_setCell _ _ _ _ (by simp; omega), Below.heap_setCell _ _ _ _ (by simp; omega)]
        · repeat refine Below.setCell ?_ (by simp <;> omega) _
          exact hB3
end Go.Proofs.Ytjbfffopbpajiaa
