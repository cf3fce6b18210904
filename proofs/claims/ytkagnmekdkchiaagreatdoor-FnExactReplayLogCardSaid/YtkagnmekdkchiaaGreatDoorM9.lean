/- Part 9 of the proof: 1 texts, one behind the other. -/
import Derived.Test.YtkagnmekdkchiaaGreatDoorM8
open _root_.Go.Proofs.Tryz
set_option maxRecDepth 100000
set_option maxHeartbeats 8000000
set_option linter.all false
set_option linter.unusedVariables false
set_option linter.unusedSimpArgs false
namespace Go.Proofs.YtkagnmekdkchiaaGreatDoor
open Go.RowKit
theorem Aj8 (t:Me) (f y:Int) (v:Value) (F:List Nat):Fn prog 21 [v,.int .i64 f,.int .i64 y] [.isv Kt v t F] [] (fun (_:List Value × List Nat)=>True) (fun s=>.tuple #[.agg s.1.toArray,.bool (Er t f y).2]) (fun s=>[.own Zm (.agg s.1.toArray) (Er t f y).1 s.2]):=by
 refine enter func21 rfl ntmps21 fun w0=>?_;refine Lx ?_;rintro a1 c1 F1 rfl l1;unfold maxLen at l1;refine Br Bc 3 ?_;refine Br A8 9 ?_;refine Br Bi 156 ?_;refine Br Bj 110 ?_;refine Br Bg 117 ?_;refine Br (Fv Aj 159) 135 ?_;refine Br (Fv Aj 159) 135 ?_;refine Np P6 ?_;refine go ?_;intros;refine cf (Adp f y) fun s _=>?_;refine Ar ?_;cases g2:Ch ⟨⟨f,y,[]⟩,0,0,[]⟩
 ·rw [show Er t f y=(P6,false) by unfold Er;rw [g2,Bool.and_false];rfl,show Fs f y=(Anh,false) by unfold Fs;rw [g2];rfl];refine go ?_;intros;refine cf (Afe t _ F) fun _ _=>?_;refine Ar ?_;cases g1:Gg t
  ·exact AH
  ·exact AH
 rw [show Fs f y=(⟨⟨f,y,[]⟩,0,0,[]⟩,true) by unfold Fs;rw [g2];rfl];refine go ?_;intros;refine cf (Afe t _ F) fun _ _=>?_;refine Ar ?_;cases g1:Gg t
 ·rw [show Er t f y=(P6,false) by unfold Er;rw [g1];rfl];exact AH
 rw [show Er t f y=(U2 t f y,true) by unfold Er;rw [g1,g2];rfl];have hn:=(Gn g1).n1;refine go ?_;intros
 refine Eg [] [5] (fun z:NwN=>[(6,Hm z.g 0 0),(7,.bool true)]) (fun z=>[.row z.g 48 0 [] [.slice z.a t.Ad.length z.c,.int .i64 f,.int .i64 y,.slice none 0 0,.int .i64 0,.int .i64 0,.slice none 0 0,.slice (some ⟨z.g1,0,none⟩) t.Ad.length t.Ad.length,.slice (some ⟨z.g2,0,none⟩) t.Ad.length t.Ad.length,.slice (some ⟨z.g3,0,none⟩) t.Ad.length t.Ad.length,.slice (some ⟨z.g4,0,none⟩) t.Ad.length t.Ad.length] [],.ow Bc 3 (.slice z.a t.Ad.length z.c) t.Ad z.F,.row z.g1 110 0 [] (List.replicate t.Ad.length ([.int .i64 0,.slice none 0 0]:List Value)).flatten [],.row z.g2 117 0 [] (List.replicate t.Ad.length ([.bool false,.int .i64 0,.int .i64 0,.slice none 0 0,.slice none 0 0]:List Value)).flatten [],.row z.g3 135 0 [] (List.replicate t.Ad.length ([.slice none 0 0]:List Value)).flatten [],.row z.g4 135 0 [] (List.replicate t.Ad.length ([.slice none 0 0]:List Value)).flatten []]) (fun _=>True) ?_ fun z _=>?_
 ·refine At [0,3] [] ?_;refine Dk 0 1 4 5 ?_;refine Dy 7 9 ?_;refine dt 11 ?_
  iterate 5 (all_goals (
   refine dP [2,6,8,10,12] GK GK (fun i hi=>?_);simp only [List.mem_cons,List.not_mem_nil,or_false] at hi;rcases hi with rfl|rfl|rfl|rfl|rfl
   all_goals intro hc
   all_goals first
    | exact (Ba8 hc (by decide +kernel)).elim
    | (refine dE 2 GQ ?_;apply Afn;rfl;kernel_rfl;exact Tw;refine cn (fun w st=>Xi _ t.Ad F1 w (st.get (p:=.sl Bc (.slice a1 t.Ad.length c1) t.Ad F1) GO).2 GJ) fun ya yc yF=>?_;refine dk ?_;refine dt 3 ?_;clear hc)
    | (refine dE 6 GQ ?_;refine Ag4 t.Ad.length (cs:=(List.replicate t.Ad.length ([.int .i64 0,.slice none 0 0]:List Value)).flatten) rfl rfl rfl (U1 _ _) GJ GJ fun g=>?_;refine dk ?_;clear hc)
    | (refine dE 8 GQ ?_;refine Ag4 t.Ad.length (cs:=(List.replicate t.Ad.length ([.bool false,.int .i64 0,.int .i64 0,.slice none 0 0,.slice none 0 0]:List Value)).flatten) rfl rfl rfl (U1 _ _) GJ GJ fun g=>?_;refine dk ?_;clear hc)
    | (refine dE 10 GQ ?_;refine Ag4 t.Ad.length (cs:=(List.replicate t.Ad.length ([.slice none 0 0]:List Value)).flatten) rfl rfl rfl (U1 _ _) GJ GJ fun g=>?_;refine dk ?_;clear hc)
    | (refine dE 12 GQ ?_;refine Ag4 t.Ad.length (cs:=(List.replicate t.Ad.length ([.slice none 0 0]:List Value)).flatten) rfl rfl rfl (U1 _ _) GJ GJ fun g=>?_;refine dk ?_;clear hc)))
  all_goals (
   refine dt 13 ?_;refine dN 14 ?_;refine oS ?_;refine dk ?_;refine dt 15 ?_;refine dd ?_;refine Bw (⟨_,ya,yc,yF,_,_,_,_⟩:NwN) trivial)
 refine Ic (E:=Bj) (xs:=List.replicate t.Ad.length ⟨0,[]⟩) (fun w=>Cw.rep0 (E:=Bj) (w:=w) (zs:=[.int .i64 0,.slice none 0 0]) (z:=(⟨0,[]⟩:Bl)) ⟨_,rfl,.inl ⟨rfl,rfl,rfl⟩⟩ _) ?_ HB;refine Ic (E:=Bg) (xs:=List.replicate t.Ad.length Aty) (fun w=>Cw.rep0 (E:=Bg) (w:=w) (zs:=[.bool false,.int .i64 0,.int .i64 0,.slice none 0 0,.slice none 0 0]) (z:=Aty) ⟨_,_,[],[],rfl,.inl ⟨rfl,rfl,rfl⟩,.inl ⟨rfl,rfl,rfl⟩,rfl⟩ _) ?_ HB
 refine Ic (E:=Fv Aj 159) (g:=z.g3) (xs:=List.replicate t.Ad.length []) (fun w=>Cw.rep0 (E:=Fv Aj 159) (w:=w) (zs:=[.slice none 0 0]) (z:=([]:List Av)) ⟨_,rfl,.inl ⟨rfl,rfl,rfl⟩⟩ _) ?_ HB;refine Ic (E:=Fv Aj 159) (g:=z.g4) (xs:=List.replicate t.Ad.length []) (fun w=>Cw.rep0 (E:=Fv Aj 159) (w:=w) (zs:=[.slice none 0 0]) (z:=([]:List Av)) ⟨_,rfl,.inl ⟨rfl,rfl,rfl⟩⟩ _) ?_ HB;refine Br A8 9 ?_;refine Br Bi 156 ?_;refine Np (U2 t f y) (a6:=some ⟨z.g3,0,none⟩) (a7:=some ⟨z.g4,0,none⟩) ?_
 rw [show (U2 t f y).Ae.length=t.Ad.length from List.length_replicate,show (U2 t f y).Ac.length=t.Ad.length from List.length_replicate,show (U2 t f y).down.length=t.Ad.length from List.length_replicate,show (U2 t f y).up.length=t.Ad.length from List.length_replicate];simp only [List.length_replicate];refine go ?_;intros
 exact BJ
end Go.Proofs.YtkagnmekdkchiaaGreatDoor
