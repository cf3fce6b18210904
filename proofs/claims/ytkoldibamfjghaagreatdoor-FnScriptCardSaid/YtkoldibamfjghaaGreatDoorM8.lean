/- Part 8 of the proof: 1 texts, one behind the other. -/
import Derived.Test.YtkoldibamfjghaaGreatDoorM7
open _root_.Go.Proofs.Tryz
set_option maxRecDepth 100000
set_option maxHeartbeats 8000000
set_option linter.all false
set_option linter.unusedVariables false
set_option linter.unusedSimpArgs false
namespace Go.Proofs.YtkoldibamfjghaaGreatDoor
open Go.RowKit
theorem Abj (t:Pv) (f y:Int) (v:Value) (F:aq):Fn prog 86 [v,aa f,aa y] [.isv Sq v t F] [] (fun (_:am × aq)=>True) (fun s=>.tuple #[.agg s.1.toArray,.bool (Kh t f y).2]) (fun s=>[.own Aam (.agg s.1.toArray) (Kh t f y).1 s.2]):=by
 refine enter func86 rfl ntmps86 fun w0=>?_;refine Nv ?_;rintro a1 c1 F1 rfl l1;unfold maxLen at l1;refine Cf Bc 3 ?_;refine Cf A8 9 ?_;refine Cf Bw 191 ?_;refine Cf Ce 122 ?_;refine Cf B9 76 ?_;refine Cf (Ki An 141) 125 ?_;refine Cf (Ki An 141) 125 ?_;refine P7 Sb ?_;refine go ?_;intros;refine Bf (Wi f y) fun s _=>?_;cases g2:Ck ⟨⟨f,y,[]⟩,0,0,[]⟩
 ·rw [show Kh t f y=(Sb,false) by unfold Kh;rw [g2,ci];rfl,show Mf f y=(Ban,false) by unfold Mf;rw [g2];rfl];refine go ?_;intros;refine Bf (Agf t _ F) fun _ _=>?_;cases g1:Hj t
  ·refine go ?_;exact CF
  ·refine go ?_;exact CF
 rw [show Mf f y=(⟨⟨f,y,[]⟩,0,0,[]⟩,true) by unfold Mf;rw [g2];rfl];refine go ?_;intros;refine Bf (Agf t _ F) fun _ _=>?_;cases g1:Hj t
 ·rw [show Kh t f y=(Sb,false) by unfold Kh;rw [g1];rfl];refine go ?_;exact CF
 rw [show Kh t f y=(Wp t f y,true) by unfold Kh;rw [g1,g2];rfl];have hn:=(Gf g1).n1;refine go ?_
 refine D0 [] [5] (fun z:NwN=>[(6,Ga z.g 0 0),(7,.bool true)]) (fun z=>[.row z.g 37 0 [] [ab z.a t.Ac.length z.c,aa f,aa y,ab none 0 0,aa 0,aa 0,ab none 0 0,ab (some ⟨z.g1,0,none⟩) t.Ac.length t.Ac.length,ab (some ⟨z.g2,0,none⟩) t.Ac.length t.Ac.length,ab (some ⟨z.g3,0,none⟩) t.Ac.length t.Ac.length,ab (some ⟨z.g4,0,none⟩) t.Ac.length t.Ac.length] [],.ow Bc 3 (ab z.a t.Ac.length z.c) t.Ac z.F,.row z.g1 122 0 [] (List.replicate t.Ac.length ([aa 0,ab none 0 0]:am)).flatten [],.row z.g2 76 0 [] (List.replicate t.Ac.length ([.bool false,aa 0,aa 0,ab none 0 0,ab none 0 0]:am)).flatten [],.row z.g3 125 0 [] (List.replicate t.Ac.length ([ab none 0 0]:am)).flatten [],.row z.g4 125 0 [] (List.replicate t.Ac.length ([ab none 0 0]:am)).flatten []]) (fun _=>True) ?_ fun z _=>?_
 ·refine Ar [0,3] [] ?_;refine Df 0 1 4 5 ?_;refine Dh 7 9 ?_;refine dt 11 ?_
  iterate 5 (all_goals (
   refine dP [2,6,8,10,12] FC FC (fun i hi=>?_);simp only [aH,aT,bm] at hi;rcases hi with rfl|rfl|rfl|rfl|rfl
   all_goals intro hc
   all_goals first
    | exact (Bgh hc (by decide +kernel)).elim
    | (refine dE 2 FX ?_;apply Ap9;rfl;kernel_rfl;exact Wk;refine cn (fun w st=>X9 _ t.Ac F1 w (st.get (p:=.sl Bc (.slice a1 t.Ac.length c1) t.Ac F1) FD).2 EZ) fun ya yc yF=>?_;refine dk ?_;refine dt 3 ?_;clear hc)
    | (refine dE 6 FX ?_;refine Aqa t.Ac.length (cs:=(List.replicate t.Ac.length ([.int .i64 0,.slice none 0 0]:List Value)).flatten) rfl rfl rfl (Agj _ _) EZ EZ fun g=>?_;refine dk ?_;clear hc)
    | (refine dE 8 FX ?_;refine Aqa t.Ac.length (cs:=(List.replicate t.Ac.length ([.bool false,.int .i64 0,.int .i64 0,.slice none 0 0,.slice none 0 0]:List Value)).flatten) rfl rfl rfl (Agj _ _) EZ EZ fun g=>?_;refine dk ?_;clear hc)
    | (refine dE 10 FX ?_;refine Aqa t.Ac.length (cs:=(List.replicate t.Ac.length ([.slice none 0 0]:List Value)).flatten) rfl rfl rfl (Agj _ _) EZ EZ fun g=>?_;refine dk ?_;clear hc)
    | (refine dE 12 FX ?_;refine Aqa t.Ac.length (cs:=(List.replicate t.Ac.length ([.slice none 0 0]:List Value)).flatten) rfl rfl rfl (Agj _ _) EZ EZ fun g=>?_;refine dk ?_;clear hc)))
  all_goals (
   refine dt 13 ?_;refine dN 14 ?_;refine oS ?_;refine dk ?_;refine dt 15 ?_;refine dd ?_;refine Bk (⟨_,ya,yc,yF,_,_,_,_⟩:NwN) trivial)
 refine Eh (E:=Ce) (xs:=List.replicate t.Ac.length ⟨0,[]⟩) (fun w=>Cz.rep0 (E:=Ce) (w:=w) (zs:=[aa 0,ab none 0 0]) (z:=(⟨0,[]⟩:Bh)) ⟨_,rfl,.inl ⟨rfl,rfl,rfl⟩⟩ _) ?_ JJ;refine Eh (E:=B9) (xs:=List.replicate t.Ac.length Bc7) (fun w=>Cz.rep0 (E:=B9) (w:=w) (zs:=[.bool false,aa 0,aa 0,ab none 0 0,ab none 0 0]) (z:=Bc7) ⟨_,_,[],[],rfl,.inl ⟨rfl,rfl,rfl⟩,.inl ⟨rfl,rfl,rfl⟩,rfl⟩ _) ?_ JJ
 refine Eh (E:=Ki An 141) (g:=z.g3) (xs:=List.replicate t.Ac.length []) (fun w=>Cz.rep0 (E:=Ki An 141) (w:=w) (zs:=[ab none 0 0]) (z:=([]:List As)) ⟨_,rfl,.inl ⟨rfl,rfl,rfl⟩⟩ _) ?_ JJ;refine Eh (E:=Ki An 141) (g:=z.g4) (xs:=List.replicate t.Ac.length []) (fun w=>Cz.rep0 (E:=Ki An 141) (w:=w) (zs:=[ab none 0 0]) (z:=([]:List As)) ⟨_,rfl,.inl ⟨rfl,rfl,rfl⟩⟩ _) ?_ JJ;refine Cf A8 9 ?_;refine Cf Bw 191 ?_;refine P7 (Wp t f y) (a6:=some ⟨z.g3,0,none⟩) (a7:=some ⟨z.g4,0,none⟩) ?_
 rw [show (Wp t f y).Af.length=t.Ac.length from bw,show (Wp t f y).Ad.length=t.Ac.length from bw,show (Wp t f y).down.length=t.Ac.length from bw,show (Wp t f y).up.length=t.Ac.length from bw];simp only [bw];refine go ?_;exact CF
end Go.Proofs.YtkoldibamfjghaaGreatDoor
