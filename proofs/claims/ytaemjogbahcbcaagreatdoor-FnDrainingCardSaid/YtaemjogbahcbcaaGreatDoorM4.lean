/- Part 4 of the proof: 1 texts, one behind the other. -/
import Derived.Test.YtaemjogbahcbcaaGreatDoorM3
open _root_.Go.Proofs.Tryz
set_option maxRecDepth 100000
set_option maxHeartbeats 8000000
set_option linter.all false
set_option linter.unusedVariables false
set_option linter.unusedSimpArgs false
namespace Go.Proofs.YtaemjogbahcbcaaGreatDoor
open Go.RowKit
def Pl (t:Nl) (f y:Int):D9:=⟨t,⟨⟨f,y,[]⟩,0,0,[]⟩,List.replicate t.Ac.length ⟨0,[]⟩,List.replicate t.Ac.length Aj2,List.replicate t.Ac.length [],List.replicate t.Ac.length []⟩
def C7 (t:Nl) (f y:Int):D9 × Bool:=if Er t && Cc ⟨⟨f,y,[]⟩,0,0,[]⟩ then (Pl t f y,true) else (Lh,false)
structure NwN where
 g:Nat
 a:Option Addr
 c:Nat
 F:List Nat
 g1:Nat
 g2:Nat
 g3:Nat
 g4:Nat
theorem Akd (t:Nl) (f y:Int) (v:Value) (F:List Nat):Fn prog 29 [v,.int .i64 f,.int .i64 y] [.isv Pd v t F] [] (fun (_:List Value × List Nat)=>True) (fun s=>.tuple #[.agg s.1.toArray,.bool (C7 t f y).2]) (fun s=>[.own Aab (.agg s.1.toArray) (C7 t f y).1 s.2]):=by
 refine enter func29 rfl ntmps29 fun w0=>?_
 refine M7 ?_
 rintro a1 c1 F1 rfl l1
 unfold maxLen at l1
 refine Cb Bd 3 ?_
 refine Cb Ba 9 ?_
 refine Cb Bj 134 ?_
 refine Cb Bt 77 ?_
 refine Cb Bk 84 ?_
 refine Cb (Hi Ak 110) 86 ?_
 refine Cb (Hi Ak 110) 86 ?_
 refine Nm Lh ?_
 refine go ?_;intros
 refine cf (Ade f y) fun s _=>?_
 refine Ap ?_
 cases g2:Cc ⟨⟨f,y,[]⟩,0,0,[]⟩
 ·rw [show C7 t f y=(Lh,false) by unfold C7;rw [g2,Bool.and_false];rfl,show Es f y=(Ae9,false) by unfold Es;rw [g2];rfl]
  refine go ?_;intros
  refine cf (P7 t _ F) fun _ _=>?_
  refine Ap ?_
  cases g1:Er t
  ·refine go ?_;intros
   refine ret ([.slice none 0 0,.int .i64 0,.int .i64 0,.slice none 0 0,.int .i64 0,.int .i64 0,.slice none 0 0,.slice none 0 0,.slice none 0 0,.slice none 0 0,.slice none 0 0],_) trivial rfl
  ·refine go ?_;intros
   refine ret ([.slice none 0 0,.int .i64 0,.int .i64 0,.slice none 0 0,.int .i64 0,.int .i64 0,.slice none 0 0,.slice none 0 0,.slice none 0 0,.slice none 0 0,.slice none 0 0],_) trivial rfl
 rw [show Es f y=(⟨⟨f,y,[]⟩,0,0,[]⟩,true) by unfold Es;rw [g2];rfl]
 refine go ?_;intros
 refine cf (P7 t _ F) fun _ _=>?_
 refine Ap ?_
 cases g1:Er t
 ·rw [show C7 t f y=(Lh,false) by unfold C7;rw [g1];rfl]
  refine go ?_;intros
  refine ret ([.slice none 0 0,.int .i64 0,.int .i64 0,.slice none 0 0,.int .i64 0,.int .i64 0,.slice none 0 0,.slice none 0 0,.slice none 0 0,.slice none 0 0,.slice none 0 0],_) trivial rfl
 rw [show C7 t f y=(Pl t f y,true) by unfold C7;rw [g1,g2];rfl]
 have hn:=(Ff g1).n1
 refine go ?_;intros
 refine E6 [] [5] (fun z:NwN=>[(6,Ez z.g 0 0),(7,.bool true)]) (fun z=>[.row z.g 37 0 [] [.slice z.a t.Ac.length z.c,.int .i64 f,.int .i64 y,.slice none 0 0,.int .i64 0,.int .i64 0,.slice none 0 0,.slice (some ⟨z.g1,0,none⟩) t.Ac.length t.Ac.length,.slice (some ⟨z.g2,0,none⟩) t.Ac.length t.Ac.length,.slice (some ⟨z.g3,0,none⟩) t.Ac.length t.Ac.length,.slice (some ⟨z.g4,0,none⟩) t.Ac.length t.Ac.length] [],.ow Bd 3 (.slice z.a t.Ac.length z.c) t.Ac z.F,.row z.g1 77 0 [] (List.replicate t.Ac.length ([.int .i64 0,.slice none 0 0]:List Value)).flatten [],.row z.g2 84 0 [] (List.replicate t.Ac.length ([.bool false,.int .i64 0,.int .i64 0,.slice none 0 0,.slice none 0 0]:List Value)).flatten [],.row z.g3 86 0 [] (List.replicate t.Ac.length ([.slice none 0 0]:List Value)).flatten [],.row z.g4 86 0 [] (List.replicate t.Ac.length ([.slice none 0 0]:List Value)).flatten []]) (fun _=>True) ?_ fun z _=>?_
 ·refine As [0,3] [] ?_
  refine dt 0 ?_
  refine dt 1 ?_
  refine dt 4 ?_
  refine dt 5 ?_
  refine dt 7 ?_
  refine dt 9 ?_
  refine dt 11 ?_
  iterate 5 (all_goals (
   refine dP [2,6,8,10,12] (by kernel_rfl) (by kernel_rfl) (fun i hi=>?_)
   simp only [List.mem_cons,List.not_mem_nil,or_false] at hi
   rcases hi with rfl|rfl|rfl|rfl|rfl
   all_goals intro hc
   all_goals first
    | exact (Apw hc (by decide +kernel)).elim
    | (refine dE 2 (by rw [List.getElem?_toArray];rfl) ?_;apply At;rfl;kernel_rfl;exact Bf;refine cn (fun w st=>Qe _ t.Ac F1 w (st.get (p:=.sl Bd (.slice a1 t.Ac.length c1) t.Ac F1) (by exact B8)).2 (by omega)) fun ya yc yF=>?_;refine dk ?_;refine dt 3 ?_;clear hc)
    | (refine dE 6 (by rw [List.getElem?_toArray];rfl) ?_;refine Acl t.Ac.length (cs:=(List.replicate t.Ac.length ([.int .i64 0,.slice none 0 0]:List Value)).flatten) rfl rfl rfl (Rg _ _) (by omega) (by omega) fun g=>?_;refine dk ?_;clear hc)
    | (refine dE 8 (by rw [List.getElem?_toArray];rfl) ?_;refine Acl t.Ac.length (cs:=(List.replicate t.Ac.length ([.bool false,.int .i64 0,.int .i64 0,.slice none 0 0,.slice none 0 0]:List Value)).flatten) rfl rfl rfl (Rg _ _) (by omega) (by omega) fun g=>?_;refine dk ?_;clear hc)
    | (refine dE 10 (by rw [List.getElem?_toArray];rfl) ?_;refine Acl t.Ac.length (cs:=(List.replicate t.Ac.length ([.slice none 0 0]:List Value)).flatten) rfl rfl rfl (Rg _ _) (by omega) (by omega) fun g=>?_;refine dk ?_;clear hc)
    | (refine dE 12 (by rw [List.getElem?_toArray];rfl) ?_;refine Acl t.Ac.length (cs:=(List.replicate t.Ac.length ([.slice none 0 0]:List Value)).flatten) rfl rfl rfl (Rg _ _) (by omega) (by omega) fun g=>?_;refine dk ?_;clear hc)))
  all_goals (
   refine dt 13 ?_
   refine dO 14 (by kernel_rfl) (by rw [List.getElem?_toArray];rfl) ?_
   apply Cs;rfl;rfl;rfl;(first|exact AggC.s|exact OneC.s);rfl;exact Cu;exact Ct;rfl
   refine dk ?_
   refine dt 15 ?_
   refine dd ?_
   refine Cd (⟨_,ya,yc,yF,_,_,_,_⟩:NwN) trivial)
 refine Ei (E:=Bt) (xs:=List.replicate t.Ac.length ⟨0,[]⟩) (fun w=>Cw.rep0 (E:=Bt) (w:=w) (zs:=[.int .i64 0,.slice none 0 0]) (z:=(⟨0,[]⟩:Bl)) ⟨_,rfl,.inl ⟨rfl,rfl,rfl⟩⟩ _) ?_ (by rw [List.length_replicate];omega)
 refine Ei (E:=Bk) (xs:=List.replicate t.Ac.length Aj2) (fun w=>Cw.rep0 (E:=Bk) (w:=w) (zs:=[.bool false,.int .i64 0,.int .i64 0,.slice none 0 0,.slice none 0 0]) (z:=Aj2) ⟨_,_,[],[],rfl,.inl ⟨rfl,rfl,rfl⟩,.inl ⟨rfl,rfl,rfl⟩,rfl⟩ _) ?_ (by rw [List.length_replicate];omega)
 refine Ei (E:=Hi Ak 110) (g:=z.g3) (xs:=List.replicate t.Ac.length []) (fun w=>Cw.rep0 (E:=Hi Ak 110) (w:=w) (zs:=[.slice none 0 0]) (z:=([]:List Av)) ⟨_,rfl,.inl ⟨rfl,rfl,rfl⟩⟩ _) ?_ (by rw [List.length_replicate];omega)
 refine Ei (E:=Hi Ak 110) (g:=z.g4) (xs:=List.replicate t.Ac.length []) (fun w=>Cw.rep0 (E:=Hi Ak 110) (w:=w) (zs:=[.slice none 0 0]) (z:=([]:List Av)) ⟨_,rfl,.inl ⟨rfl,rfl,rfl⟩⟩ _) ?_ (by rw [List.length_replicate];omega)
 refine Cb Ba 9 ?_
 refine Cb Bj 134 ?_
 refine Nm (Pl t f y) (a6:=some ⟨z.g3,0,none⟩) (a7:=some ⟨z.g4,0,none⟩) ?_
 rw [show (Pl t f y).Af.length=t.Ac.length from List.length_replicate,show (Pl t f y).Ad.length=t.Ac.length from List.length_replicate,show (Pl t f y).down.length=t.Ac.length from List.length_replicate,show (Pl t f y).up.length=t.Ac.length from List.length_replicate]
 simp only [List.length_replicate]
 refine go ?_;intros
 refine ret ([.slice z.a t.Ac.length z.c,.int .i64 f,.int .i64 y,.slice none 0 0,.int .i64 0,.int .i64 0,.slice none 0 0,.slice (some ⟨z.g1,0,none⟩) t.Ac.length t.Ac.length,.slice (some ⟨z.g2,0,none⟩) t.Ac.length t.Ac.length,.slice (some ⟨z.g3,0,none⟩) t.Ac.length t.Ac.length,.slice (some ⟨z.g4,0,none⟩) t.Ac.length t.Ac.length],_) trivial rfl
end Go.Proofs.YtaemjogbahcbcaaGreatDoor
