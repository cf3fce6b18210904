/- Part 9 of the proof: 1 texts, one behind the other. -/
import Derived.Test.YtkoldibamfjghaaGreatDoorM8
open _root_.Go.Proofs.Tryz
set_option maxRecDepth 100000
set_option maxHeartbeats 8000000
set_option linter.all false
set_option linter.unusedVariables false
set_option linter.unusedSimpArgs false
namespace Go.Proofs.YtkoldibamfjghaaGreatDoor
open Go.RowKit
theorem Abo (t:Q0) (f y:Int) (v:Value) (F:aq):Fn prog 86 [v,aa f,aa y] [.isv Wh v t F] [] (fun (_:am × aq)=>True) (fun s=>.tuple #[.agg s.1.toArray,.bool (Kk t f y).2]) (fun s=>[.own Ab5 (.agg s.1.toArray) (Kk t f y).1 s.2]):=by
 refine enter func86 rfl ntmps86 fun w0=>?_;refine Pw ?_;rintro a1 c1 F1 rfl l1;unfold maxLen at l1;refine Cj Bb 3 ?_;refine Cj A8 9 ?_;refine Cj Bx 191 ?_;refine Cj Ch 122 ?_;refine Cj B9 76 ?_;refine Cj (Kl Al 141) 125 ?_;refine Cj (Kl Al 141) 125 ?_;refine Qd Sh ?_;refine go ?_;intros;refine Be (Wq f y) fun s _=>?_;cases g2:Cr ⟨⟨f,y,[]⟩,0,0,[]⟩
 ·rw [show Kk t f y=(Sh,false) by unfold Kk;rw [g2,bZ];rfl,show Ml f y=(Ban,false) by unfold Ml;rw [g2];rfl];refine go ?_;intros;refine Be (Agc t _ F) fun _ _=>?_;cases g1:Hj t
  ·refine go ?_;exact CD
  ·refine go ?_;exact CD
 rw [show Ml f y=(⟨⟨f,y,[]⟩,0,0,[]⟩,true) by unfold Ml;rw [g2];rfl];refine go ?_;intros;refine Be (Agc t _ F) fun _ _=>?_;cases g1:Hj t
 ·rw [show Kk t f y=(Sh,false) by unfold Kk;rw [g1];rfl];refine go ?_;exact CD
 rw [show Kk t f y=(Wv t f y,true) by unfold Kk;rw [g1,g2];rfl];have hn:=(Hi g1).n1;refine go ?_
 refine Du [] [5] (fun z:NwN=>[(6,Gc z.g 0 0),(7,.bool true)]) (fun z=>[.row z.g 37 0 [] [ab z.a t.Ad.length z.c,aa f,aa y,ab none 0 0,aa 0,aa 0,ab none 0 0,ab (some ⟨z.g1,0,none⟩) t.Ad.length t.Ad.length,ab (some ⟨z.g2,0,none⟩) t.Ad.length t.Ad.length,ab (some ⟨z.g3,0,none⟩) t.Ad.length t.Ad.length,ab (some ⟨z.g4,0,none⟩) t.Ad.length t.Ad.length] [],.ow Bb 3 (ab z.a t.Ad.length z.c) t.Ad z.F,.row z.g1 122 0 [] (List.replicate t.Ad.length ([aa 0,ab none 0 0]:am)).flatten [],.row z.g2 76 0 [] (List.replicate t.Ad.length ([.bool false,aa 0,aa 0,ab none 0 0,ab none 0 0]:am)).flatten [],.row z.g3 125 0 [] (List.replicate t.Ad.length ([ab none 0 0]:am)).flatten [],.row z.g4 125 0 [] (List.replicate t.Ad.length ([ab none 0 0]:am)).flatten []]) (fun _=>True) ?_ fun z _=>?_
 ·refine Ar [0,3] [] ?_;refine C8 0 1 4 5 ?_;refine Dg 7 9 ?_;refine dt 11 ?_
  iterate 5 (all_goals (
   refine dP [2,6,8,10,12] EY EY (fun i hi=>?_);simp only [aG,aT,bl] at hi;rcases hi with rfl|rfl|rfl|rfl|rfl
   all_goals intro hc
   all_goals first
    | exact (Bgt hc (by decide +kernel)).elim
    | (refine dE 2 FO ?_;apply Ak1;rfl;kernel_rfl;exact Vi;refine cn (fun w st=>Yp _ t.Ad F1 w (st.get (p:=.sl Bb (.slice a1 t.Ad.length c1) t.Ad F1) FA).2 EV) fun ya yc yF=>?_;refine dk ?_;refine dt 3 ?_;clear hc)
    | (refine dE 6 FO ?_;refine Ap6 t.Ad.length (cs:=(List.replicate t.Ad.length ([.int .i64 0,.slice none 0 0]:List Value)).flatten) rfl rfl rfl (Agi _ _) EV EV fun g=>?_;refine dk ?_;clear hc)
    | (refine dE 8 FO ?_;refine Ap6 t.Ad.length (cs:=(List.replicate t.Ad.length ([.bool false,.int .i64 0,.int .i64 0,.slice none 0 0,.slice none 0 0]:List Value)).flatten) rfl rfl rfl (Agi _ _) EV EV fun g=>?_;refine dk ?_;clear hc)
    | (refine dE 10 FO ?_;refine Ap6 t.Ad.length (cs:=(List.replicate t.Ad.length ([.slice none 0 0]:List Value)).flatten) rfl rfl rfl (Agi _ _) EV EV fun g=>?_;refine dk ?_;clear hc)
    | (refine dE 12 FO ?_;refine Ap6 t.Ad.length (cs:=(List.replicate t.Ad.length ([.slice none 0 0]:List Value)).flatten) rfl rfl rfl (Agi _ _) EV EV fun g=>?_;refine dk ?_;clear hc)))
  all_goals (
   refine dt 13 ?_;refine dN 14 ?_;refine oS ?_;refine dk ?_;refine dt 15 ?_;refine dd ?_;refine Bh (⟨_,ya,yc,yF,_,_,_,_⟩:NwN) trivial)
 refine Eh (E:=Ch) (xs:=List.replicate t.Ad.length ⟨0,[]⟩) (fun w=>Cw.rep0 (E:=Ch) (w:=w) (zs:=[aa 0,ab none 0 0]) (z:=(⟨0,[]⟩:Bf)) ⟨_,rfl,.inl ⟨rfl,rfl,rfl⟩⟩ _) ?_ JD;refine Eh (E:=B9) (xs:=List.replicate t.Ad.length Bdd) (fun w=>Cw.rep0 (E:=B9) (w:=w) (zs:=[.bool false,aa 0,aa 0,ab none 0 0,ab none 0 0]) (z:=Bdd) ⟨_,_,[],[],rfl,.inl ⟨rfl,rfl,rfl⟩,.inl ⟨rfl,rfl,rfl⟩,rfl⟩ _) ?_ JD
 refine Eh (E:=Kl Al 141) (g:=z.g3) (xs:=List.replicate t.Ad.length []) (fun w=>Cw.rep0 (E:=Kl Al 141) (w:=w) (zs:=[ab none 0 0]) (z:=([]:List As)) ⟨_,rfl,.inl ⟨rfl,rfl,rfl⟩⟩ _) ?_ JD;refine Eh (E:=Kl Al 141) (g:=z.g4) (xs:=List.replicate t.Ad.length []) (fun w=>Cw.rep0 (E:=Kl Al 141) (w:=w) (zs:=[ab none 0 0]) (z:=([]:List As)) ⟨_,rfl,.inl ⟨rfl,rfl,rfl⟩⟩ _) ?_ JD;refine Cj A8 9 ?_;refine Cj Bx 191 ?_;refine Qd (Wv t f y) (a6:=some ⟨z.g3,0,none⟩) (a7:=some ⟨z.g4,0,none⟩) ?_
 rw [show (Wv t f y).Af.length=t.Ad.length from bw,show (Wv t f y).Ac.length=t.Ad.length from bw,show (Wv t f y).down.length=t.Ad.length from bw,show (Wv t f y).up.length=t.Ad.length from bw];simp only [bw];refine go ?_;exact CD
end Go.Proofs.YtkoldibamfjghaaGreatDoor
