/- Part 8 of the proof: 1 texts, one behind the other. -/
import Derived.Test.YtbmlecejkacpnaaGreatDoorM7
open _root_.Go.Proofs.Tryz
set_option maxRecDepth 100000
set_option maxHeartbeats 8000000
set_option linter.all false
set_option linter.unusedVariables false
set_option linter.unusedSimpArgs false
namespace Go.Proofs.YtbmlecejkacpnaaGreatDoor
open Go.RowKit
theorem Ut (t:Mu) (f y:Int) (v:Value) (F:List Nat):Fn prog 8 [v,.int .i64 f,.int .i64 y] [.isv O5 v t F] [] (fun (_:List Value × List Nat)=>True) (fun s=>.tuple #[.agg s.1.toArray,.bool (De t f y).2]) (fun s=>[.own Aek (.agg s.1.toArray) (De t f y).1 s.2]):=by
 refine enter func8 rfl ntmps8 fun w0=>?_
 refine No ?_
 rintro a1 c1 F1 rfl l1
 unfold maxLen at l1
 refine Bx Bd 3 ?_
 refine Bx A9 9 ?_
 refine Bx Bh 137 ?_
 refine Bx Bm 96 ?_
 refine Bx Bi 55 ?_
 refine Bx (Gt Al 108) 99 ?_
 refine Bx (Gt Al 108) 99 ?_
 refine L4 Lz ?_
 refine go ?_;intros
 refine cf (Re f y) fun s _=>?_
 refine Ar ?_
 cases g2:Cd ⟨⟨f,y,[]⟩,0,0,[]⟩
 ·rw [show De t f y=(Lz,false) by unfold De;rw [g2,Bool.and_false];rfl,show Eh f y=(Aee,false) by unfold Eh;rw [g2];rfl]
  refine go ?_;intros
  refine cf (Adf t _ F) fun _ _=>?_
  refine Ar ?_
  cases g1:El t
  ·refine go ?_;intros
   refine ret ([.slice none 0 0,.int .i64 0,.int .i64 0,.slice none 0 0,.int .i64 0,.int .i64 0,.slice none 0 0,.slice none 0 0,.slice none 0 0,.slice none 0 0,.slice none 0 0],_) trivial rfl
  ·refine go ?_;intros
   refine ret ([.slice none 0 0,.int .i64 0,.int .i64 0,.slice none 0 0,.int .i64 0,.int .i64 0,.slice none 0 0,.slice none 0 0,.slice none 0 0,.slice none 0 0,.slice none 0 0],_) trivial rfl
 rw [show Eh f y=(⟨⟨f,y,[]⟩,0,0,[]⟩,true) by unfold Eh;rw [g2];rfl]
 refine go ?_;intros
 refine cf (Adf t _ F) fun _ _=>?_
 refine Ar ?_
 cases g1:El t
 ·rw [show De t f y=(Lz,false) by unfold De;rw [g1];rfl]
  refine go ?_;intros
  refine ret ([.slice none 0 0,.int .i64 0,.int .i64 0,.slice none 0 0,.int .i64 0,.int .i64 0,.slice none 0 0,.slice none 0 0,.slice none 0 0,.slice none 0 0,.slice none 0 0],_) trivial rfl
 rw [show De t f y=(Mk t f y,true) by unfold De;rw [g1,g2];rfl]
 have hn:=(Ex g1).n1
 refine go ?_;intros
 refine Gc [] [5] (fun z:NwN=>[(6,Eu z.g 0 0),(7,.bool true)]) (fun z=>[.row z.g 39 0 [] [.slice z.a t.Ac.length z.c,.int .i64 f,.int .i64 y,.slice none 0 0,.int .i64 0,.int .i64 0,.slice none 0 0,.slice (some ⟨z.g1,0,none⟩) t.Ac.length t.Ac.length,.slice (some ⟨z.g2,0,none⟩) t.Ac.length t.Ac.length,.slice (some ⟨z.g3,0,none⟩) t.Ac.length t.Ac.length,.slice (some ⟨z.g4,0,none⟩) t.Ac.length t.Ac.length] [],.ow Bd 3 (.slice z.a t.Ac.length z.c) t.Ac z.F,.row z.g1 96 0 [] (List.replicate t.Ac.length ([.int .i64 0,.slice none 0 0]:List Value)).flatten [],.row z.g2 55 0 [] (List.replicate t.Ac.length ([.bool false,.int .i64 0,.int .i64 0,.slice none 0 0,.slice none 0 0]:List Value)).flatten [],.row z.g3 99 0 [] (List.replicate t.Ac.length ([.slice none 0 0]:List Value)).flatten [],.row z.g4 99 0 [] (List.replicate t.Ac.length ([.slice none 0 0]:List Value)).flatten []]) (fun _=>True) ?_ fun z _=>?_
 ·refine Aw [0,3] [] ?_
  refine dt 0 ?_
  refine dt 1 ?_
  refine dt 4 ?_
  refine dt 5 ?_
  refine dt 7 ?_
  refine dt 9 ?_
  refine dt 11 ?_
  iterate 5 (all_goals (
   refine dP [2,6,8,10,12] (by kernel_rfl) (by kernel_rfl) (fun i hi=>?_)
   simp only [List.mem_cons,List.not_mem_nil,or_false] at hi
   rcases hi with rfl|rfl|rfl|rfl|rfl
   all_goals intro hc
   all_goals first
    | exact (Aom hc (by decide +kernel)).elim
    | (refine dE 2 (by rw [List.getElem?_toArray];rfl) ?_;apply At;rfl;kernel_rfl;exact Be;refine cn (fun w st=>Xe _ t.Ac F1 w (st.get (p:=.sl Bd (.slice a1 t.Ac.length c1) t.Ac F1) (by exact B8)).2 (by omega)) fun ya yc yF=>?_;refine dk ?_;refine dt 3 ?_;clear hc)
    | (refine dE 6 (by rw [List.getElem?_toArray];rfl) ?_;refine Abs t.Ac.length (cs:=(List.replicate t.Ac.length ([.int .i64 0,.slice none 0 0]:List Value)).flatten) rfl rfl rfl (Qs _ _) (by omega) (by omega) fun g=>?_;refine dk ?_;clear hc)
    | (refine dE 8 (by rw [List.getElem?_toArray];rfl) ?_;refine Abs t.Ac.length (cs:=(List.replicate t.Ac.length ([.bool false,.int .i64 0,.int .i64 0,.slice none 0 0,.slice none 0 0]:List Value)).flatten) rfl rfl rfl (Qs _ _) (by omega) (by omega) fun g=>?_;refine dk ?_;clear hc)
    | (refine dE 10 (by rw [List.getElem?_toArray];rfl) ?_;refine Abs t.Ac.length (cs:=(List.replicate t.Ac.length ([.slice none 0 0]:List Value)).flatten) rfl rfl rfl (Qs _ _) (by omega) (by omega) fun g=>?_;refine dk ?_;clear hc)
    | (refine dE 12 (by rw [List.getElem?_toArray];rfl) ?_;refine Abs t.Ac.length (cs:=(List.replicate t.Ac.length ([.slice none 0 0]:List Value)).flatten) rfl rfl rfl (Qs _ _) (by omega) (by omega) fun g=>?_;refine dk ?_;clear hc)))
  all_goals (
   refine dt 13 ?_
   refine dO 14 (by kernel_rfl) (by rw [List.getElem?_toArray];rfl) ?_
   apply Cu;rfl;rfl;rfl;(first|exact AggC.s|exact OneC.s);rfl;exact Cw;exact Cv;rfl
   refine dk ?_
   refine dt 15 ?_
   refine dd ?_
   refine Cm (⟨_,ya,yc,yF,_,_,_,_⟩:NwN) trivial)
 refine Dz (E:=Bm) (xs:=List.replicate t.Ac.length ⟨0,[]⟩) (fun w=>Cq.rep0 (E:=Bm) (w:=w) (zs:=[.int .i64 0,.slice none 0 0]) (z:=(⟨0,[]⟩:Bt)) ⟨_,rfl,.inl ⟨rfl,rfl,rfl⟩⟩ _) ?_ (by rw [List.length_replicate];omega)
 refine Dz (E:=Bi) (xs:=List.replicate t.Ac.length Afs) (fun w=>Cq.rep0 (E:=Bi) (w:=w) (zs:=[.bool false,.int .i64 0,.int .i64 0,.slice none 0 0,.slice none 0 0]) (z:=Afs) ⟨_,_,[],[],rfl,.inl ⟨rfl,rfl,rfl⟩,.inl ⟨rfl,rfl,rfl⟩,rfl⟩ _) ?_ (by rw [List.length_replicate];omega)
 refine Dz (E:=Gt Al 108) (g:=z.g3) (xs:=List.replicate t.Ac.length []) (fun w=>Cq.rep0 (E:=Gt Al 108) (w:=w) (zs:=[.slice none 0 0]) (z:=([]:List As)) ⟨_,rfl,.inl ⟨rfl,rfl,rfl⟩⟩ _) ?_ (by rw [List.length_replicate];omega)
 refine Dz (E:=Gt Al 108) (g:=z.g4) (xs:=List.replicate t.Ac.length []) (fun w=>Cq.rep0 (E:=Gt Al 108) (w:=w) (zs:=[.slice none 0 0]) (z:=([]:List As)) ⟨_,rfl,.inl ⟨rfl,rfl,rfl⟩⟩ _) ?_ (by rw [List.length_replicate];omega)
 refine Bx A9 9 ?_
 refine Bx Bh 137 ?_
 refine L4 (Mk t f y) (a6:=some ⟨z.g3,0,none⟩) (a7:=some ⟨z.g4,0,none⟩) ?_
 rw [show (Mk t f y).Af.length=t.Ac.length from List.length_replicate,show (Mk t f y).Ae.length=t.Ac.length from List.length_replicate,show (Mk t f y).down.length=t.Ac.length from List.length_replicate,show (Mk t f y).up.length=t.Ac.length from List.length_replicate]
 simp only [List.length_replicate]
 refine go ?_;intros
 refine ret ([.slice z.a t.Ac.length z.c,.int .i64 f,.int .i64 y,.slice none 0 0,.int .i64 0,.int .i64 0,.slice none 0 0,.slice (some ⟨z.g1,0,none⟩) t.Ac.length t.Ac.length,.slice (some ⟨z.g2,0,none⟩) t.Ac.length t.Ac.length,.slice (some ⟨z.g3,0,none⟩) t.Ac.length t.Ac.length,.slice (some ⟨z.g4,0,none⟩) t.Ac.length t.Ac.length],_) trivial rfl
end Go.Proofs.YtbmlecejkacpnaaGreatDoor
