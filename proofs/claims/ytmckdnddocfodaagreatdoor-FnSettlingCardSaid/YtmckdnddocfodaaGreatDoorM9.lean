/- Part 9 of the proof: 1 texts, one behind the other. -/
import Derived.Test.YtmckdnddocfodaaGreatDoorM8
open _root_.Go.Proofs.Tryz
set_option maxRecDepth 100000
set_option maxHeartbeats 8000000
set_option linter.all false
set_option linter.unusedVariables false
set_option linter.unusedSimpArgs false
namespace Go.Proofs.YtmckdnddocfodaaGreatDoor
open Go.RowKit
theorem Ah0 (t:Oc) (f y:Int) (v:Value) (F:ak):Fn prog 47 [v,aa f,aa y] [.isv Tn v t F] [] (fun (_:aj × ak)=>True) (fun s=>.tuple #[.agg s.1.toArray,.bool (Dz t f y).2]) (fun s=>[.Mw Akz (.agg s.1.toArray) (Dz t f y).1 s.2]):=by
 refine enter func47 rfl ntmps47 fun w0=>?_;refine Pa ?_;rintro a1 c1 F1 rfl l1;unfold maxLen at l1;refine B4 Bi 3 ?_;refine B4 Bc 9 ?_;refine B4 Bx 130 ?_;refine B4 Ck 76 ?_;refine B4 Ca 83 ?_;refine B4 (Jo Ap 103) 85 ?_;refine B4 (Jo Ap 103) 85 ?_;refine Ni L4 ?_;refine go ?_;intros;refine Bw (Vn f y) fun s _=>?_;cases g2:Cj ⟨⟨f,y,[]⟩,0,0,[]⟩
 ·rw [show Dz t f y=(L4,false) by unfold Dz;rw [g2,bV];rfl,show Ff f y=(Aku,false) by unfold Ff;rw [g2];rfl];refine go ?_;intros;refine Bw (Adt t _ F) fun _ _=>?_;cases g1:Fc t
  ·refine go ?_;exact BK
  ·refine go ?_;exact BK
 rw [show Ff f y=(⟨⟨f,y,[]⟩,0,0,[]⟩,true) by unfold Ff;rw [g2];rfl];refine go ?_;intros;refine Bw (Adt t _ F) fun _ _=>?_;cases g1:Fc t
 ·rw [show Dz t f y=(L4,false) by unfold Dz;rw [g1];rfl];refine go ?_;exact BK
 rw [show Dz t f y=(Jp t f y,true) by unfold Dz;rw [g1,g2];rfl];have hn:=(Ev g1).n1;refine go ?_
 refine Gw [] [5] (fun z:NwN=>[(6,Fv z.g 0 0),(7,.bool true)]) (fun z=>[.row z.g 37 0 [] [ab z.a t.Ad.length z.c,aa f,aa y,ab none 0 0,aa 0,aa 0,ab none 0 0,ab (some ⟨z.g1,0,none⟩) t.Ad.length t.Ad.length,ab (some ⟨z.g2,0,none⟩) t.Ad.length t.Ad.length,ab (some ⟨z.g3,0,none⟩) t.Ad.length t.Ad.length,ab (some ⟨z.g4,0,none⟩) t.Ad.length t.Ad.length] [],.ow Bi 3 (ab z.a t.Ad.length z.c) t.Ad z.F,.row z.g1 76 0 [] (List.replicate t.Ad.length ([aa 0,ab none 0 0]:aj)).flatten [],.row z.g2 83 0 [] (List.replicate t.Ad.length ([.bool false,aa 0,aa 0,ab none 0 0,ab none 0 0]:aj)).flatten [],.row z.g3 85 0 [] (List.replicate t.Ad.length ([ab none 0 0]:aj)).flatten [],.row z.g4 85 0 [] (List.replicate t.Ad.length ([ab none 0 0]:aj)).flatten []]) (fun _=>True) ?_ fun z _=>?_
 ·refine As [0,3] [] ?_;refine D7 0 1 4 5 ?_;refine Ek 7 9 ?_;refine dt 11 ?_
  iterate 5 (all_goals (
   refine dP [2,6,8,10,12] ER ER (fun i hi=>?_);simp only [aF,aM,bn] at hi;rcases hi with rfl|rfl|rfl|rfl|rfl
   all_goals intro hc
   all_goals first
    | exact (Ax5 hc (by decide +kernel)).elim
    | (refine dE 2 GV ?_;apply Ahp;rfl;kernel_rfl;exact Tt;refine cn (fun w st=>Acg _ t.Ad F1 w (st.get (p:=.sl Bi (.slice a1 t.Ad.length c1) t.Ad F1) EQ).2 EM) fun ya yc yF=>?_;refine dk ?_;refine dt 3 ?_;clear hc)
    | (refine dE 6 GV ?_;refine Ahq t.Ad.length (cs:=(List.replicate t.Ad.length ([.int .i64 0,.slice none 0 0]:List Value)).flatten) rfl rfl rfl (U0 _ _) EM EM fun g=>?_;refine dk ?_;clear hc)
    | (refine dE 8 GV ?_;refine Ahq t.Ad.length (cs:=(List.replicate t.Ad.length ([.bool false,.int .i64 0,.int .i64 0,.slice none 0 0,.slice none 0 0]:List Value)).flatten) rfl rfl rfl (U0 _ _) EM EM fun g=>?_;refine dk ?_;clear hc)
    | (refine dE 10 GV ?_;refine Ahq t.Ad.length (cs:=(List.replicate t.Ad.length ([.slice none 0 0]:List Value)).flatten) rfl rfl rfl (U0 _ _) EM EM fun g=>?_;refine dk ?_;clear hc)
    | (refine dE 12 GV ?_;refine Ahq t.Ad.length (cs:=(List.replicate t.Ad.length ([.slice none 0 0]:List Value)).flatten) rfl rfl rfl (U0 _ _) EM EM fun g=>?_;refine dk ?_;clear hc)))
  all_goals (
   refine dt 13 ?_;refine dN 14 ?_;refine oS ?_;refine dk ?_;refine dt 15 ?_;refine dd ?_;refine Cs (⟨_,ya,yc,yF,_,_,_,_⟩:NwN) trivial)
 refine Eo (E:=Ck) (xs:=List.replicate t.Ad.length ⟨0,[]⟩) (fun w=>C6.rep0 (E:=Ck) (w:=w) (zs:=[aa 0,ab none 0 0]) (z:=(⟨0,[]⟩:Bg)) ⟨_,rfl,.inl ⟨rfl,rfl,rfl⟩⟩ _) ?_ GS;refine Eo (E:=Ca) (xs:=List.replicate t.Ad.length Aks) (fun w=>C6.rep0 (E:=Ca) (w:=w) (zs:=[.bool false,aa 0,aa 0,ab none 0 0,ab none 0 0]) (z:=Aks) ⟨_,_,[],[],rfl,.inl ⟨rfl,rfl,rfl⟩,.inl ⟨rfl,rfl,rfl⟩,rfl⟩ _) ?_ GS
 refine Eo (E:=Jo Ap 103) (g:=z.g3) (xs:=List.replicate t.Ad.length []) (fun w=>C6.rep0 (E:=Jo Ap 103) (w:=w) (zs:=[ab none 0 0]) (z:=([]:List Ar)) ⟨_,rfl,.inl ⟨rfl,rfl,rfl⟩⟩ _) ?_ GS;refine Eo (E:=Jo Ap 103) (g:=z.g4) (xs:=List.replicate t.Ad.length []) (fun w=>C6.rep0 (E:=Jo Ap 103) (w:=w) (zs:=[ab none 0 0]) (z:=([]:List Ar)) ⟨_,rfl,.inl ⟨rfl,rfl,rfl⟩⟩ _) ?_ GS;refine B4 Bc 9 ?_;refine B4 Bx 130 ?_;refine Ni (Jp t f y) (a6:=some ⟨z.g3,0,none⟩) (a7:=some ⟨z.g4,0,none⟩) ?_
 exact BY
end Go.Proofs.YtmckdnddocfodaaGreatDoor
