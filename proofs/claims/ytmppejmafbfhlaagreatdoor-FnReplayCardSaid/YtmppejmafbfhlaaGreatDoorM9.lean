/- Part 9 of the proof: 1 texts, one behind the other. -/
import Derived.Test.YtmppejmafbfhlaaGreatDoorM8
open _root_.Go.Proofs.Tryz
set_option maxRecDepth 100000
set_option maxHeartbeats 8000000
set_option linter.all false
set_option linter.unusedVariables false
set_option linter.unusedSimpArgs false
namespace Go.Proofs.YtmppejmafbfhlaaGreatDoor
open Go.RowKit
def Acm (t:Nf) (f y:Int) (v:Value) (F:aq):Fn prog 31 [v,aa f,aa y] [.isv Ro v t F] [] (fun (_:am × aq)=>True) (fun s=>.tuple #[.agg s.1.toArray,.bool (Em t f y).2]) (fun s=>[.own Aam (.agg s.1.toArray) (Em t f y).1 s.2]):=by
 refine enter func31 rfl ntmps31 fun w0=>?_;refine Mv ?_;rintro a1 c1 F1 rfl l1;unfold maxLen at l1;refine Bt Bc 3 ?_;refine Bt A9 9 ?_;refine Bt Bv 165 ?_;refine Bt Cc 111 ?_;refine Bt B4 118 ?_;refine Bt (J0 Ak 159) 120 ?_;refine Bt (J0 Ak 159) 120 ?_;refine Nl Rh ?_;refine go ?_;intros;refine Be (Xv f y) fun s _=>?_;cases g2:Cp ⟨⟨f,y,[]⟩,0,0,[]⟩
 ·rw [show Em t f y=(Rh,false) by unfold Em;rw [g2,bZ];rfl,show Gf f y=(Ap4,false) by unfold Gf;rw [g2];rfl];refine go ?_;intros;refine Be (Ahe t _ F) fun _ _=>?_;cases g1:Gb t
  ·refine go ?_;exact BL
  ·refine go ?_;exact BL
 rw [show Gf f y=(⟨⟨f,y,[]⟩,0,0,[]⟩,true) by unfold Gf;rw [g2];rfl];refine go ?_;intros;refine Be (Ahe t _ F) fun _ _=>?_;cases g1:Gb t
 ·rw [show Em t f y=(Rh,false) by unfold Em;rw [g1];rfl];refine go ?_;exact BL
 rw [show Em t f y=(S8 t f y,true) by unfold Em;rw [g1,g2];rfl];have hn:=(Hl g1).n1;refine go ?_
 refine Dv [] [5] (fun z:NwN=>[(6,Gj z.g 0 0),(7,.bool true)]) (fun z=>[.row z.g 43 0 [] [ab z.a t.Ad.length z.c,aa f,aa y,ab none 0 0,aa 0,aa 0,ab none 0 0,ab (some ⟨z.g1,0,none⟩) t.Ad.length t.Ad.length,ab (some ⟨z.g2,0,none⟩) t.Ad.length t.Ad.length,ab (some ⟨z.g3,0,none⟩) t.Ad.length t.Ad.length,ab (some ⟨z.g4,0,none⟩) t.Ad.length t.Ad.length] [],.ow Bc 3 (ab z.a t.Ad.length z.c) t.Ad z.F,.row z.g1 111 0 [] (List.replicate t.Ad.length ([aa 0,ab none 0 0]:am)).flatten [],.row z.g2 118 0 [] (List.replicate t.Ad.length ([.bool false,aa 0,aa 0,ab none 0 0,ab none 0 0]:am)).flatten [],.row z.g3 120 0 [] (List.replicate t.Ad.length ([ab none 0 0]:am)).flatten [],.row z.g4 120 0 [] (List.replicate t.Ad.length ([ab none 0 0]:am)).flatten []]) (fun _=>True) ?_ fun z _=>?_
 ·refine Ar [0,3] [] ?_;refine C4 0 1 4 5 ?_;refine Dh 7 9 ?_;refine dt 11 ?_
  iterate 5 (all_goals (
   refine dP [2,6,8,10,12] FB FB (fun i hi=>?_);simp only [aG,aT,bn] at hi;rcases hi with rfl|rfl|rfl|rfl|rfl
   all_goals intro hc
   all_goals first
    | exact (Be6 hc (by decide +kernel)).elim
    | (refine dE 2 FJ ?_;apply Al7;rfl;kernel_rfl;exact Wj;refine cn (fun w st=>Zk _ t.Ad F1 w (st.get (p:=.sl Bc (.slice a1 t.Ad.length c1) t.Ad F1) FD).2 EY) fun ya yc yF=>?_;refine dk ?_;refine dt 3 ?_;clear hc)
    | (refine dE 6 FJ ?_;refine Aho t.Ad.length (cs:=(List.replicate t.Ad.length ([.int .i64 0,.slice none 0 0]:List Value)).flatten) rfl rfl rfl (Wv _ _) EY EY fun g=>?_;refine dk ?_;clear hc)
    | (refine dE 8 FJ ?_;refine Aho t.Ad.length (cs:=(List.replicate t.Ad.length ([.bool false,.int .i64 0,.int .i64 0,.slice none 0 0,.slice none 0 0]:List Value)).flatten) rfl rfl rfl (Wv _ _) EY EY fun g=>?_;refine dk ?_;clear hc)
    | (refine dE 10 FJ ?_;refine Aho t.Ad.length (cs:=(List.replicate t.Ad.length ([.slice none 0 0]:List Value)).flatten) rfl rfl rfl (Wv _ _) EY EY fun g=>?_;refine dk ?_;clear hc)
    | (refine dE 12 FJ ?_;refine Aho t.Ad.length (cs:=(List.replicate t.Ad.length ([.slice none 0 0]:List Value)).flatten) rfl rfl rfl (Wv _ _) EY EY fun g=>?_;refine dk ?_;clear hc)))
  all_goals (
   refine dt 13 ?_;refine dN 14 ?_;refine oS ?_;refine dk ?_;refine dt 15 ?_;refine dd ?_;refine Bk (⟨_,ya,yc,yF,_,_,_,_⟩:NwN) trivial)
 refine Dy (E:=Cc) (xs:=List.replicate t.Ad.length ⟨0,[]⟩) (fun w=>Cw.rep0 (E:=Cc) (w:=w) (zs:=[aa 0,ab none 0 0]) (z:=(⟨0,[]⟩:Bj)) ⟨_,rfl,.inl ⟨rfl,rfl,rfl⟩⟩ _) ?_ HB;refine Dy (E:=B4) (xs:=List.replicate t.Ad.length Awv) (fun w=>Cw.rep0 (E:=B4) (w:=w) (zs:=[.bool false,aa 0,aa 0,ab none 0 0,ab none 0 0]) (z:=Awv) ⟨_,_,[],[],rfl,.inl ⟨rfl,rfl,rfl⟩,.inl ⟨rfl,rfl,rfl⟩,rfl⟩ _) ?_ HB
 refine Dy (E:=J0 Ak 159) (g:=z.g3) (xs:=List.replicate t.Ad.length []) (fun w=>Cw.rep0 (E:=J0 Ak 159) (w:=w) (zs:=[ab none 0 0]) (z:=([]:List As)) ⟨_,rfl,.inl ⟨rfl,rfl,rfl⟩⟩ _) ?_ HB;refine Dy (E:=J0 Ak 159) (g:=z.g4) (xs:=List.replicate t.Ad.length []) (fun w=>Cw.rep0 (E:=J0 Ak 159) (w:=w) (zs:=[ab none 0 0]) (z:=([]:List As)) ⟨_,rfl,.inl ⟨rfl,rfl,rfl⟩⟩ _) ?_ HB;refine Bt A9 9 ?_;refine Bt Bv 165 ?_;refine Nl (S8 t f y) (a6:=some ⟨z.g3,0,none⟩) (a7:=some ⟨z.g4,0,none⟩) ?_
 exact CF
end Go.Proofs.YtmppejmafbfhlaaGreatDoor
