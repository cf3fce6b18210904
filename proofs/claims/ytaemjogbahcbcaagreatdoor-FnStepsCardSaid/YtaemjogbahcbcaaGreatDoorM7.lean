/- Part 7 of the proof: 1 texts, one behind the other. -/
import Derived.Test.YtaemjogbahcbcaaGreatDoorM6
open _root_.Go.Proofs.Tryz
set_option maxRecDepth 100000
set_option maxHeartbeats 8000000
set_option linter.all false
set_option linter.unusedVariables false
set_option linter.unusedSimpArgs false
namespace Go.Proofs.YtaemjogbahcbcaaGreatDoor
open Go.RowKit
theorem Uj (t:Oq) (f y:Int) (v:Value) (F:List Nat):Fn prog 30 [v,.int .i64 f,.int .i64 y] [.isv Q1 v t F] [] (fun (_:List Value × List Nat)=>True) (fun s=>.tuple #[.agg s.1.toArray,.bool (J8 t f y).2]) (fun s=>[.own Afs (.agg s.1.toArray) (J8 t f y).1 s.2]):=by
 refine enter func30 rfl ntmps30 fun w0=>?_
 refine O2 ?_
 rintro a1 c1 F1 rfl l1
 unfold maxLen at l1
 refine B7 Be 3 ?_
 refine B7 A6 9 ?_
 refine B7 Bi 134 ?_
 refine B7 B4 77 ?_
 refine B7 Bt 84 ?_
 refine B7 (H9 Al 110) 86 ?_
 refine B7 (H9 Al 110) 86 ?_
 refine M2 Kd ?_
 refine go ?_;intros
 refine cf (Q6 f y) fun s _=>?_
 refine Ao ?_
 cases g2:Cb ⟨⟨f,y,[]⟩,0,0,[]⟩
 ·rw [show J8 t f y=(Kd,false) by unfold J8;rw [g2,Bool.and_false];rfl,show Jc f y=(Akz,false) by unfold Jc;rw [g2];rfl]
  refine go ?_;intros
  refine cf (Xz t _ F) fun _ _=>?_
  refine Ao ?_
  cases g1:Et t
  ·refine go ?_;intros
   refine ret ([.slice none 0 0,.int .i64 0,.int .i64 0,.slice none 0 0,.int .i64 0,.int .i64 0,.slice none 0 0,.slice none 0 0,.slice none 0 0,.slice none 0 0,.slice none 0 0],_) trivial rfl
  ·refine go ?_;intros
   refine ret ([.slice none 0 0,.int .i64 0,.int .i64 0,.slice none 0 0,.int .i64 0,.int .i64 0,.slice none 0 0,.slice none 0 0,.slice none 0 0,.slice none 0 0,.slice none 0 0],_) trivial rfl
 rw [show Jc f y=(⟨⟨f,y,[]⟩,0,0,[]⟩,true) by unfold Jc;rw [g2];rfl]
 refine go ?_;intros
 refine cf (Xz t _ F) fun _ _=>?_
 refine Ao ?_
 cases g1:Et t
 ·rw [show J8 t f y=(Kd,false) by unfold J8;rw [g1];rfl]
  refine go ?_;intros
  refine ret ([.slice none 0 0,.int .i64 0,.int .i64 0,.slice none 0 0,.int .i64 0,.int .i64 0,.slice none 0 0,.slice none 0 0,.slice none 0 0,.slice none 0 0,.slice none 0 0],_) trivial rfl
 rw [show J8 t f y=(Rn t f y,true) by unfold J8;rw [g1,g2];rfl]
 have hn:=(Ll g1).n1
 refine go ?_;intros
 refine Ep [] [5] (fun z:NwN=>[(6,Eo z.g 0 0),(7,.bool true)]) (fun z=>[.row z.g 37 0 [] [.slice z.a t.Ad.length z.c,.int .i64 f,.int .i64 y,.slice none 0 0,.int .i64 0,.int .i64 0,.slice none 0 0,.slice (some ⟨z.g1,0,none⟩) t.Ad.length t.Ad.length,.slice (some ⟨z.g2,0,none⟩) t.Ad.length t.Ad.length,.slice (some ⟨z.g3,0,none⟩) t.Ad.length t.Ad.length,.slice (some ⟨z.g4,0,none⟩) t.Ad.length t.Ad.length] [],.ow Be 3 (.slice z.a t.Ad.length z.c) t.Ad z.F,.row z.g1 77 0 [] (List.replicate t.Ad.length ([.int .i64 0,.slice none 0 0]:List Value)).flatten [],.row z.g2 84 0 [] (List.replicate t.Ad.length ([.bool false,.int .i64 0,.int .i64 0,.slice none 0 0,.slice none 0 0]:List Value)).flatten [],.row z.g3 86 0 [] (List.replicate t.Ad.length ([.slice none 0 0]:List Value)).flatten [],.row z.g4 86 0 [] (List.replicate t.Ad.length ([.slice none 0 0]:List Value)).flatten []]) (fun _=>True) ?_ fun z _=>?_
 ·refine Av [0,3] [] ?_
  refine dt 0 ?_
  refine dt 1 ?_
  refine dt 4 ?_
  refine dt 5 ?_
  refine dt 7 ?_
  refine dt 9 ?_
  refine dt 11 ?_
  iterate 5 (all_goals (
   refine dP [2,6,8,10,12] (by kernel_rfl) (by kernel_rfl) (fun i hi=>?_)
   simp only [List.mem_cons,List.not_mem_nil,or_false] at hi
   rcases hi with rfl|rfl|rfl|rfl|rfl
   all_goals intro hc
   all_goals first
    | exact (Apn hc (by decide +kernel)).elim
    | (refine dE 2 (by rw [List.getElem?_toArray];rfl) ?_;apply At;rfl;kernel_rfl;exact Bb;refine cn (fun w st=>Wq _ t.Ad F1 w (st.get (p:=.sl Be (.slice a1 t.Ad.length c1) t.Ad F1) (by exact Bw)).2 (by omega)) fun ya yc yF=>?_;refine dk ?_;refine dt 3 ?_;clear hc)
    | (refine dE 6 (by rw [List.getElem?_toArray];rfl) ?_;refine Ajl t.Ad.length (cs:=(List.replicate t.Ad.length ([.int .i64 0,.slice none 0 0]:List Value)).flatten) rfl rfl rfl (X4 _ _) (by omega) (by omega) fun g=>?_;refine dk ?_;clear hc)
    | (refine dE 8 (by rw [List.getElem?_toArray];rfl) ?_;refine Ajl t.Ad.length (cs:=(List.replicate t.Ad.length ([.bool false,.int .i64 0,.int .i64 0,.slice none 0 0,.slice none 0 0]:List Value)).flatten) rfl rfl rfl (X4 _ _) (by omega) (by omega) fun g=>?_;refine dk ?_;clear hc)
    | (refine dE 10 (by rw [List.getElem?_toArray];rfl) ?_;refine Ajl t.Ad.length (cs:=(List.replicate t.Ad.length ([.slice none 0 0]:List Value)).flatten) rfl rfl rfl (X4 _ _) (by omega) (by omega) fun g=>?_;refine dk ?_;clear hc)
    | (refine dE 12 (by rw [List.getElem?_toArray];rfl) ?_;refine Ajl t.Ad.length (cs:=(List.replicate t.Ad.length ([.slice none 0 0]:List Value)).flatten) rfl rfl rfl (X4 _ _) (by omega) (by omega) fun g=>?_;refine dk ?_;clear hc)))
  all_goals (
   refine dt 13 ?_
   refine dO 14 (by kernel_rfl) (by rw [List.getElem?_toArray];rfl) ?_
   apply Cf;rfl;rfl;rfl;(first|exact AggC.s|exact OneC.s);rfl;exact Ci;exact Cg;rfl
   refine dk ?_
   refine dt 15 ?_
   refine dd ?_
   refine B6 (⟨_,ya,yc,yF,_,_,_,_⟩:NwN) trivial)
 refine Ee (E:=B4) (xs:=List.replicate t.Ad.length ⟨0,[]⟩) (fun w=>Cp.rep0 (E:=B4) (w:=w) (zs:=[.int .i64 0,.slice none 0 0]) (z:=(⟨0,[]⟩:Bl)) ⟨_,rfl,.inl ⟨rfl,rfl,rfl⟩⟩ _) ?_ (by rw [List.length_replicate];omega)
 refine Ee (E:=Bt) (xs:=List.replicate t.Ad.length Am3) (fun w=>Cp.rep0 (E:=Bt) (w:=w) (zs:=[.bool false,.int .i64 0,.int .i64 0,.slice none 0 0,.slice none 0 0]) (z:=Am3) ⟨_,_,[],[],rfl,.inl ⟨rfl,rfl,rfl⟩,.inl ⟨rfl,rfl,rfl⟩,rfl⟩ _) ?_ (by rw [List.length_replicate];omega)
 refine Ee (E:=H9 Al 110) (g:=z.g3) (xs:=List.replicate t.Ad.length []) (fun w=>Cp.rep0 (E:=H9 Al 110) (w:=w) (zs:=[.slice none 0 0]) (z:=([]:List Aw)) ⟨_,rfl,.inl ⟨rfl,rfl,rfl⟩⟩ _) ?_ (by rw [List.length_replicate];omega)
 refine Ee (E:=H9 Al 110) (g:=z.g4) (xs:=List.replicate t.Ad.length []) (fun w=>Cp.rep0 (E:=H9 Al 110) (w:=w) (zs:=[.slice none 0 0]) (z:=([]:List Aw)) ⟨_,rfl,.inl ⟨rfl,rfl,rfl⟩⟩ _) ?_ (by rw [List.length_replicate];omega)
 refine B7 A6 9 ?_
 refine B7 Bi 134 ?_
 refine M2 (Rn t f y) (a6:=some ⟨z.g3,0,none⟩) (a7:=some ⟨z.g4,0,none⟩) ?_
 rw [show (Rn t f y).Ah.length=t.Ad.length from List.length_replicate,show (Rn t f y).Ae.length=t.Ad.length from List.length_replicate,show (Rn t f y).down.length=t.Ad.length from List.length_replicate,show (Rn t f y).up.length=t.Ad.length from List.length_replicate]
 simp only [List.length_replicate]
 refine go ?_;intros
 refine ret ([.slice z.a t.Ad.length z.c,.int .i64 f,.int .i64 y,.slice none 0 0,.int .i64 0,.int .i64 0,.slice none 0 0,.slice (some ⟨z.g1,0,none⟩) t.Ad.length t.Ad.length,.slice (some ⟨z.g2,0,none⟩) t.Ad.length t.Ad.length,.slice (some ⟨z.g3,0,none⟩) t.Ad.length t.Ad.length,.slice (some ⟨z.g4,0,none⟩) t.Ad.length t.Ad.length],_) trivial rfl
end Go.Proofs.YtaemjogbahcbcaaGreatDoor
