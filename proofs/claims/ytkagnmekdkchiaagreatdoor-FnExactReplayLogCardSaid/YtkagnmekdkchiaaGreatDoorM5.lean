/- Part 5 of the proof: 37 texts, one behind the other. -/
import Derived.Test.YtkagnmekdkchiaaGreatDoorM4
open _root_.Go.Proofs.Tryz
set_option maxRecDepth 100000
set_option maxHeartbeats 8000000
set_option linter.all false
set_option linter.unusedVariables false
set_option linter.unusedSimpArgs false
namespace Go.Proofs.YtkagnmekdkchiaaGreatDoor
theorem AQ{p:Prop}(h:p:=by refine dk ?_;refine dt 5 ?_;refine dd ?_;refine go ?_;intros;refine Ic (xs:=[Q4 x.Ab]) (C8 _ (by show (⟨#[]⟩:ByteArray).size≤maxLen;decide)) ?_ (by simp);refine ret ⟨_,_,_,_,_,_,_,_⟩ trivial rfl):p:=h
theorem AU{p:Prop}(h:p:=by have h9:=hpk;unfold By P9 at h9;simp only [Bool.and_eq_true,decide_eq_true_eq] at h9;unfold maxLen;omega):p:=h
theorem AV{p:Prop}(h:p:=by apply Co;rfl;intro _;refine dk ?_;refine dN 12 ?_;refine oS ?_;refine dk ?_;refine dN 13 ?_;refine oS ?_;refine dk ?_;refine dd ?_;refine Bw ((_,_):Nat × Nat) trivial):p:=h
theorem BA{p:Prop}(h:p:=by refine Dy 3 4 ?_;refine ds 5 ?_;refine ds 6 ?_;refine ds 7 ?_;refine ds 8 ?_;refine ds 9 ?_;refine ds 10 ?_;refine ds 11 ?_;refine ds 12 ?_;refine ds 13 ?_;refine ds 14 ?_;refine ds 15 ?_;refine ds 16 ?_;refine Dy 17 18 ?_;refine dd ?_;exact AB):p:=h
theorem BG{p:Prop}(h:p:=by have hz:n.up[i]=[]:=List.length_eq_zero_iff.1 (by omega);rw [show C0 n s=none by unfold C0;rw [if_neg (by omega),hq,if_pos (by omega)],decide_eq_false h0,show n.up.set i (n.up[i].drop 1)=n.up by rw [hz,List.drop_nil];rw [←hz,List.set_getElem_self]];refine go ?_;intros;refine ret (⟨a1,c1,F1,a2,c2,F2,a3,c3,F3,a4,c4,F4,a5,c5,F5,a6,c6,F6,a7,c7,J⟩,⟨0,none,0,[]⟩) trivial rfl):p:=h
theorem BK{p:Prop}(h:p:=by rw [show Nm x=⟨x.Ab,x.Ai+1,x.quiet+1,I7 x.Ab (x.Ai+1) x.holds⟩ from by unfold Nm Vs;rw [if_pos (by omega)],show M4 x.Ab x.quiet=[] from if_pos (by omega)];refine go ?_;intros;refine C4 Aj ?_;refine A4 (E:=Bi) fun F9=>?_;refine Gf ⟨x.Ab,x.Ai+1,x.quiet+1,I7 x.Ab (x.Ai+1) x.holds⟩ (a1:=a5) ?_;refine ret ⟨_,_,_,_,_,_,_,_⟩ trivial rfl):p:=h
theorem BQ{p:Prop}(h:p:=by refine go ?_;intros;refine ret () trivial ?_;rw [show Eu 1 s.Ct 6=true by unfold Eu;simp;omega];rfl):p:=h
theorem CC{p:Prop}(h:p:=by have:=(Lz (s:=s) hg).1;rw [hq] at this;unfold Ey at this;simp only [Bool.and_eq_true,decide_eq_true_eq] at this;exact this.1):p:=h
theorem CD{p:Prop}(h:p:=by refine go ?_;intros;refine ret () trivial ?_;rw [Bool.and_false,Bool.false_and];rfl):p:=h
theorem CF{p:Prop}(h:p:=by refine dN 10 ?_;refine oS ?_;refine dk ?_;refine dt 11 ?_;refine dd ?_;refine go ?_;intros;apply wO;refine Oh (C8 (Dr W p).1 (Ael hW)) Hf fun a9 c9 F9=>?_;refine go ?_;intros;refine ret ⟨a,c,z.1,z.2.1,_,a9,c9,F9⟩ trivial rfl):p:=h
theorem CW{p:Prop}(h:p:=by refine go ?_;intros;refine ret () trivial ?_;rw [decide_eq_false h2];rfl):p:=h
theorem CY{p:Prop}(h:p:=by refine go ?_;intros;refine ret () trivial ?_;rw [decide_eq_true h2];rfl):p:=h
theorem DP{p:Prop}(h:p:=by refine ret ⟨_,_,_,_,_,[],_,_,_⟩ trivial rfl):p:=h
theorem EH{p:Prop}(h:p:=by refine go ?_;intros;refine Cu ⟨z.k+1,z.a,z.c,z.F⟩ (by show z.k+1≤t.Ad.length;omega) (by show t.Ad.length - (z.k+1) < t.Ad.length - z.k;omega)):p:=h
theorem EO{p:Prop}(h:p:=by refine go ?_;intros;refine ret ([]++[]) trivial rfl):p:=h
theorem EU{p:Prop}(h:p:=by refine go ?_;intros;refine ret (⟨a1,c1,F1,a2,c2,F2,a3,c3,F3,a4,c4,F4,a5,c5,F5,a6,c6,F6,a7,c7,F7⟩,⟨0,none,0,[]⟩) trivial rfl):p:=h
theorem EY{p:Prop}(h:p:=by refine go ?_;intros;refine ret (⟨x1,w1,K1,x2,w2,K2,x3,w3,K3,x4,w4,K4,x5,w5,K5,x6,w6,K6,x7,w7,K7⟩,⟨0,ea,ec,eF⟩) trivial rfl):p:=h
theorem EZ{p:Prop}(h:p:=by refine go ?_;intros;refine ret (⟨a1,c1,F1,a2,c2,F2,a3,c3,F3,a4,c4,F4,a5,c5,F5,a6,c6,J,a7,c7,F7⟩,⟨0,none,0,[]⟩) trivial rfl):p:=h
theorem FV{p:Prop}(h:p:=by refine Cu ⟨z.k+1,a9,c9,F9⟩ (by show z.k+1≤t.Ad.length;omega) (by show t.Ad.length - (z.k+1) < t.Ad.length - z.k;omega)):p:=h
theorem FY{p:Prop}(h:p:=by unfold C0;rw [if_neg (by omega),hq,if_neg (by omega),hpo,hP,hi,Int.toNat_natCast];rw [if_neg (by omega),if_neg (by omega)]):p:=h
theorem GD{p:Prop}(h:p:=by refine Ar ?_;refine go ?_;intros;refine ret (z.1,z.2) trivial rfl):p:=h
theorem GE{p:Prop}(h:p:=by refine ret (⟨some ⟨gp,0,none⟩,c1,[gp],a2,c2,F2,z.a2,z.c2,z.F,a4,c4,F4,a5,c5,F5,a6,c6,J6,a7,c7,F7⟩:NV) trivial rfl):p:=h
theorem GG{p:Prop}(h:p:=by show ((M3 (Bf n k).1 (k+1)).1,(Bf n k).2++(M3 (Bf n k).1 (k+1)).2)=_;unfold M3;rw [hT,hlf,if_neg (by decide),I5 i1,hSrc]):p:=h
theorem HF{p:Prop}(h:p:=by show n.Al.Ad.length - (k+1) < n.Al.Ad.length - k;omega):p:=h
theorem HL{p:Prop}(h:p:=by dsimp only;rw [hnx];exact hsE):p:=h
theorem HM{p:Prop}(h:p:=by dsimp only;rw [hnx];exact frE):p:=h
theorem IV{p:Prop}(h:p:=by rw [ByteArray.size_append];omega):p:=h
theorem JS{p:Prop}(h:p:=by show k+1+1≤_;omega):p:=h
theorem JV{p:Prop}(h:p:=by rw [hlf];decide):p:=h
theorem JX{p:Prop}(h:p:=by show n.Al.Ad.length≤1000000;omega):p:=h
end Go.Proofs.YtkagnmekdkchiaaGreatDoor
namespace Go.Proofs.YtkagnmekdkchiaaGreatDoor
open Go.RowKit
theorem Rr (x:Az) (v:Value) (F:List Nat) (t0:0≤x.Ao) (t1:x.Ao≤65535) (hl:x.Ak.length≤4294967296):Fn prog 189 [v,.int .i64 0] [.isv Cd v x F] [] (fun (_:Value × List Nat)=>True) (fun s=>s.1) (fun s=>[.own Qf s.1 x s.2]):=by
 have e0:Ce x.Ao ((0:Nat):Int)=x.Ao:=by unfold Ce;omega
 have h:=Abp x 0 v F hl (Nat.zero_le _) t0 t1;rw [e0,List.drop_zero] at h;refine Ay6 fun w hA=>(h.made w hA (fun _=>rfl)).mono ?_;rintro e w' ⟨z, -,he,hh,hn,hF,hB⟩;obtain ⟨h1,h2⟩:=hh (.ow A8 9 (.slice z.a x.Ak.length z.c) x.Ak z.F) GL;exact ⟨(_,z.F),trivial,he,⟨h1,_,rfl,_,rfl,h2⟩,fun b hb=>hF b (by simpa [fp,Pc.F,Pc.mu] using hb),hB⟩
theorem Azg {W:Az} {cl:Int} {hs:List Iw} (h:∀z∈hs,Ik W z.Af=true):I7 W cl hs=T5 cl hs:=by
 unfold I7 T5;refine List.filter_congr fun z hz=>?_;rw [h z hz,Bool.true_and];by_cases hc:cl < z.Cg
 ·rw [decide_eq_true hc,decide_eq_false GJ];rfl
 ·rw [decide_eq_false hc,decide_eq_true GJ];rfl
def Nm (x:Cr):Cr:=⟨x.Ab,x.Ai+1,Vs x.quiet,I7 x.Ab (x.Ai+1) x.holds⟩
theorem Aoc (x:Cr) (v:Value) (F:List Nat) (t0:0≤x.Ab.Ao) (t1:x.Ab.Ao≤65535) (hl:x.Ab.Ak.length≤6) (k0:0≤x.Ai) (k1:x.Ai≤99999) (q0:0≤x.quiet) (q3:x.quiet≤3) (hm:x.holds.length≤1000) (hn:Ago x.holds) :
  Fn prog 192 [v] [.isv D7 v x F] [] (fun (_:TiS)=>True) (fun s=>.tuple #[.agg #[.int .i64 (Nm x).Ab.Ao,.int .i64 (Nm x).Ab.size,.slice s.a (Nm x).Ab.Ak.length s.c,.int .i64 (Nm x).Ai,.int .i64 (Nm x).quiet,.slice s.a2 (Nm x).holds.length s.c2],.slice s.ae (M4 x.Ab x.quiet).length s.ce])
   (fun s=>[.isv D7 (.agg #[.int .i64 (Nm x).Ab.Ao,.int .i64 (Nm x).Ab.size,.slice s.a (Nm x).Ab.Ak.length s.c,.int .i64 (Nm x).Ai,.int .i64 (Nm x).quiet,.slice s.a2 (Nm x).holds.length s.c2]) (Nm x) s.F,.ow Aj 159 (.slice s.ae (M4 x.Ab x.quiet).length s.ce) (M4 x.Ab x.quiet) s.Fe]):=by
 refine enter func192 rfl ntmps192 fun w0=>?_;refine Jh ?_;rintro a1 c1 F1 a2 c2 F2 rfl l1 l2;refine Ds x.Ab (a1:=a1) ?_;refine go ?_;intros;refine cf (Rr x.Ab _ F1 t0 t1 GJ) fun y _=>?_;refine Ar ?_;refine Jg ?_;rintro a5 c5 F5 e5 l5;rw [e5];have hH:=fun v a c F G=>Acr x.Ab x.holds (x.Ai+1) v a c F G t0 t1 GJ hn;refine go ?_;intros;refine A4 (xs:=x.Ab.Ak) fun F8=>?_;refine Ds x.Ab (a1:=a5) ?_;refine At [2,4] [] ?_;refine Dk 0 1 2 3 ?_;refine Dk 4 5 6 7 ?_;refine Dk 8 9 10 11 ?_;refine dt 12 ?_;refine dM 13 15 ?_ ?_
 ·refine oC ?_;refine cf (hH _ a2 c2 _ _) fun z _=>?_;refine Ar ?_;refine dk ?_;refine dt 14 ?_;refine dN 15 ?_;apply Co;rfl;intro _;refine dk ?_;refine dN 16 ?_;refine oS ?_;refine dk ?_;refine dd ?_;refine go ?_;intros;refine Be rfl (fun h1=>?_) (fun h1=>?_)
  ·rw [show Nm x=⟨x.Ab,x.Ai+1,0,I7 x.Ab (x.Ai+1) x.holds⟩ from by unfold Nm Vs;rw [if_neg GJ],show M4 x.Ab x.quiet=[Q4 x.Ab] from if_neg GJ];refine go ?_;intros;refine A4 (E:=Bi) fun F9=>?_;refine Gf ⟨x.Ab,x.Ai+1,0,I7 x.Ab (x.Ai+1) x.holds⟩ (a1:=a5) ?_;refine At [2,5] [] ?_;refine Dy 0 1 ?_;refine dN 2 ?_;refine oC ?_;refine cf (Y2 x.Ab.Ao x.Ab.size _ x.Ab.Ak.length _ t0 t1 GJ) fun _ _=>?_;refine Ar ?_;refine dk ?_;refine dM 3 4 ?_ ?_
   ·apply Km;rfl;rfl;rfl;rfl;exact Ke;exact Jy;intro _;refine dk ?_;refine dN 4 ?_;refine oS ?_;exact AQ
   ·refine oS ?_;refine dk ?_;refine dN 3 ?_;apply Km;rfl;rfl;rfl;rfl;exact Ke;exact Jy;intro _;exact AQ
  ·exact BK
 ·apply Co;rfl;intro _;refine dk ?_;refine dN 13 ?_;refine oC ?_;refine cf (hH _ a2 c2 _ _) fun z _=>?_;refine Ar ?_;refine dk ?_;refine dt 14 ?_;refine dN 16 ?_;refine oS ?_;refine dk ?_;refine dd ?_;refine go ?_;intros;refine Be rfl (fun h1=>?_) (fun h1=>?_)
  ·rw [show Nm x=⟨x.Ab,x.Ai+1,0,I7 x.Ab (x.Ai+1) x.holds⟩ from by unfold Nm Vs;rw [if_neg GJ],show M4 x.Ab x.quiet=[Q4 x.Ab] from if_neg GJ];refine go ?_;intros;refine A4 (E:=Bi) fun F9=>?_;refine Gf ⟨x.Ab,x.Ai+1,0,I7 x.Ab (x.Ai+1) x.holds⟩ (a1:=a5) ?_;refine At [2,5] [] ?_;refine Dy 0 1 ?_;refine dN 2 ?_;refine oC ?_;refine cf (Y2 x.Ab.Ao x.Ab.size _ x.Ab.Ak.length _ t0 t1 GJ) fun _ _=>?_;refine Ar ?_;refine dk ?_;refine dM 3 4 ?_ ?_
   ·apply Km;rfl;rfl;rfl;rfl;exact Ke;exact Jy;intro _;refine dk ?_;refine dN 4 ?_;refine oS ?_;exact AQ
   ·refine oS ?_;refine dk ?_;refine dN 3 ?_;apply Km;rfl;rfl;rfl;rfl;exact Ke;exact Jy;intro _;exact AQ
  ·exact BK
theorem Axs {x:Cr} (hg:Ch x=true):Nm x=Mr x:=by unfold Nm Mr;rw [Azg (Arq hg)]
theorem Ar9 (x:Cr) (v:Value) (F:List Nat) (hg:Ch x=true) :
  Fn prog 192 [v] [.isv D7 v x F] [] (fun (_:TiS)=>True) (fun s=>.tuple #[.agg #[.int .i64 (Mr x).Ab.Ao,.int .i64 (Mr x).Ab.size,.slice s.a (Mr x).Ab.Ak.length s.c,.int .i64 (Mr x).Ai,.int .i64 (Mr x).quiet,.slice s.a2 (Mr x).holds.length s.c2],.slice s.ae (M4 x.Ab x.quiet).length s.ce])
   (fun s=>[.isv D7 (.agg #[.int .i64 (Mr x).Ab.Ao,.int .i64 (Mr x).Ab.size,.slice s.a (Mr x).Ab.Ak.length s.c,.int .i64 (Mr x).Ai,.int .i64 (Mr x).quiet,.slice s.a2 (Mr x).holds.length s.c2]) (Mr x) s.F,.ow Aj 159 (.slice s.ae (M4 x.Ab x.quiet).length s.ce) (M4 x.Ab x.quiet) s.Fe]):=by
 obtain ⟨gw,hl,t0,t1,k0,k1,hm,hn,hu,hb⟩:=Kx hg;obtain ⟨q0,q3⟩:=Amk hg;have h:=Aoc x v F t0 t1 hl k0 GJ q0 q3 GJ (Aeb hn);rw [Axs hg] at h;exact h
theorem Le {x:Az} {p:Av} (h:J8 x p=false):Dr x p=(zPk,false):=by unfold Dr;rw [h];rfl
theorem Yc {x:Az} {p:Av} (h:J8 x p=true):Dr x p=(Ak1 x p.Af,true):=by unfold Dr;rw [h];rfl
theorem Adz {x:Az} {n:Int} (h:Ik x n=true):(gp x.Ao n).toNat < x.Ak.length:=by
 have b:=Ky x.Ao n;unfold Ik at h;simp only [decide_eq_true_eq] at h;omega
theorem Xg {x:Az} {n:Int} (h:(gp x.Ao n).toNat < x.Ak.length):Abg x n=x.Ak[(gp x.Ao n).toNat]:=by
 unfold Abg;rw [List.getD_eq_getElem?_getD,List.getElem?_eq_getElem h];rfl
theorem Aec (x:Az) (p:Av) (v:Value) (F:List Nat) (hs:p.data.size≤maxLen):Fn prog 288 [v,.agg #[.int .i64 p.Ct,.int .i64 p.Af,.int .i64 p.Ao,.int .i64 p.Ff,.string p.data]] [.isv Cd v x F] [] (fun (_:Unit)=>True) (fun _=>.tuple #[.agg #[.int .i64 (Dr x p).1.Ct,.int .i64 (Dr x p).1.Af,.int .i64 (Dr x p).1.Ao,.int .i64 (Dr x p).1.Ff,.string (Dr x p).1.data],.bool (Dr x p).2]) (fun _=>[]):=by
 refine enter func288 rfl ntmps288 fun w0=>?_;refine Ib ?_;rintro a1 c1 F1 rfl l1;refine go ?_;intros;refine cb (fun w st=>Q2 _ x _ w (st.get (p:=.isv Cd (.agg #[.int .i64 x.Ao,.int .i64 x.size,.slice a1 x.Ak.length c1]) x F) GL)) ?_;cases g1:Dv x
 ·refine go ?_;intros;rw [Le (by unfold J8;rw [g1];rfl)];exact BD
 obtain ⟨⟨t0,t1⟩,⟨z0,z1⟩,hl,hi⟩:=Dz.1 g1;have hl6:x.Ak.length≤6:=by omega
 refine go ?_;intros;refine cf (Vk p hs) fun _ _=>?_;refine Ar ?_;cases g2:By p
 ·refine go ?_;intros;rw [Le (by unfold J8;rw [g1,g2];rfl)];exact BD
 obtain ⟨n0,n1⟩:=Jz g2;refine go ?_;intros;refine Dj rfl rfl (fun h3=>?_) (fun h3=>?_)
 ·refine go ?_;intros;rw [Le (by unfold J8;rw [g1,g2,decide_eq_false h3];rfl)];exact BD
 have h3:=Decidable.not_not.1 h3;refine go ?_;intros;refine cb (fun w st=>(Wf x p.Af _ F t0 t1 n0 n1).val w (I9 (st.get (p:=.isv Cd (.agg #[.int .i64 x.Ao,.int .i64 x.size,.slice a1 x.Ak.length c1]) x F) GL))) ?_;cases g3:Ik x p.Af
 ·refine go ?_;intros;rw [Le (by unfold J8;rw [g1,g2,g3];simp)];exact BD
 rw [Yc (by unfold J8;rw [g1,g2,g3,decide_eq_true h3];rfl)];have b:=Ky x.Ao p.Af;have hk3:=Adz g3;rw [show Ak1 x p.Af=⟨2,p.Af,x.Ao,Lb x,x.Ak[(gp x.Ao p.Af).toNat]⟩ by unfold Ak1;rw [Xg hk3]];refine M9 (xs:=x.Ak) (gp x.Ao p.Af).toNat ?_;rintro hi b2 o2 e s1;rw [e];refine M7 ?_;intros;refine At [0,2,3] [] ?_;refine Dk 0 1 2 3 ?_;refine Dk 4 6 7 8 ?_;refine Dy 9 10 ?_;refine dt 11 ?_;refine dN 5 ?_;refine oC ?_;refine cb (fun w _=>H5 _ _ _ _ _ w t0 t1 GJ) ?_;refine dk ?_;refine dN 12 ?_;refine oC ?_;refine ce (fun w s=>Om _ _ _ GJ GJ GJ GJ) ?_;refine dk ?_
 refine Dy 13 14 ?_;refine dt 15 ?_;refine dN 16 ?_;refine oS ?_;refine dk ?_;refine dt 17 ?_;exact CT
theorem Af7 (x:Az) (p:Av) (v:Value) (F:List Nat) (hs:p.data.size≤maxLen):Fn prog 261 [v,.agg #[.int .i64 p.Ct,.int .i64 p.Af,.int .i64 p.Ao,.int .i64 p.Ff,.string p.data]] [.isv Cd v x F] [] (fun (_:Unit)=>True) (fun _=>.tuple #[.agg #[.int .i64 (Dr x p).1.Ct,.int .i64 (Dr x p).1.Af,.int .i64 (Dr x p).1.Ao,.int .i64 (Dr x p).1.Ff,.string (Dr x p).1.data],.bool (Dr x p).2]) (fun _=>[]):=by
 refine enter func261 rfl ntmps261 fun w0=>?_;refine Ib ?_;rintro a1 c1 F1 rfl l1;refine go ?_;intros;refine cb (fun w st=>Alx _ x _ w (st.get (p:=.isv Cd (.agg #[.int .i64 x.Ao,.int .i64 x.size,.slice a1 x.Ak.length c1]) x F) GL)) ?_;cases g1:Dv x
 ·refine go ?_;intros;rw [Le (by unfold J8;rw [g1];rfl)];exact BD
 obtain ⟨⟨t0,t1⟩,⟨z0,z1⟩,hl,hi⟩:=Dz.1 g1;have hl6:x.Ak.length≤6:=by omega
 refine go ?_;intros;refine cf (Alw p hs) fun _ _=>?_;refine Ar ?_;cases g2:By p
 ·refine go ?_;intros;rw [Le (by unfold J8;rw [g1,g2];rfl)];exact BD
 obtain ⟨n0,n1⟩:=Jz g2;refine go ?_;intros;refine Dj rfl rfl (fun h3=>?_) (fun h3=>?_)
 ·refine go ?_;intros;rw [Le (by unfold J8;rw [g1,g2,decide_eq_false h3];rfl)];exact BD
 have h3:=Decidable.not_not.1 h3;refine go ?_;intros;refine cb (fun w st=>(Aly x p.Af _ F t0 t1 n0 n1).val w (I9 (st.get (p:=.isv Cd (.agg #[.int .i64 x.Ao,.int .i64 x.size,.slice a1 x.Ak.length c1]) x F) GL))) ?_;cases g3:Ik x p.Af
 ·refine go ?_;intros;rw [Le (by unfold J8;rw [g1,g2,g3];simp)];exact BD
 rw [Yc (by unfold J8;rw [g1,g2,g3,decide_eq_true h3];rfl)];have b:=Ky x.Ao p.Af;have hk3:=Adz g3;rw [show Ak1 x p.Af=⟨2,p.Af,x.Ao,Lb x,x.Ak[(gp x.Ao p.Af).toNat]⟩ by unfold Ak1;rw [Xg hk3]];refine M9 (xs:=x.Ak) (gp x.Ao p.Af).toNat ?_;rintro hi b2 o2 e s1;rw [e];refine M7 ?_;intros;refine At [0,2,3] [] ?_;refine Dk 0 1 2 3 ?_;refine Dk 4 6 7 8 ?_;refine Dy 9 10 ?_;refine dt 11 ?_;refine dN 5 ?_;refine oC ?_;refine cb (fun w _=>Sd _ _ _ _ _ w t0 t1 GJ) ?_;refine dk ?_;refine dN 12 ?_;refine oC ?_;refine ce (fun w s=>I1 _ _ _ GJ GJ) ?_;refine dk ?_;refine Dy 13 14 ?_
 refine dt 15 ?_;refine dN 16 ?_;refine oS ?_;refine dk ?_;refine dt 17 ?_;exact CT
theorem Avg {t a b:Int} (ha:0≤a∧a≤65535) (hb:0≤b∧b≤65535) (h:gp t a=gp t b):a=b:=by unfold gp at h;omega
def srt (t:Int) (hs:List Iw):Prop:=hs.Pairwise fun a b=>gp t a.Af < gp t b.Af
theorem Ez {x:Cr}:Ch x=true↔Dv x.Ab=true∧J3 x.Ai=true∧Eu 0 x.quiet 3=true∧(∀h∈x.holds,B9 h.Af=true∧Ik x.Ab h.Af=true∧Eu (x.Ai+1) h.Cg (x.Ai+3)=true)∧srt x.Ab.Ao x.holds:=by
 unfold Ch;simp only [Bool.and_eq_true,List.all_eq_true,List.mem_range];constructor
 ·rintro ⟨⟨⟨h1,h2⟩,h3⟩,h4⟩;refine ⟨h1,h2,h3,fun h hh=>?_,?_⟩
  ·obtain ⟨i,hi,rfl⟩:=List.getElem_of_mem hh;have:=h4 i hi;rw [O8 hi] at this;simp only [Bool.and_eq_true] at this;exact ⟨this.1.1.1,this.1.1.2,this.1.2⟩
  ·have step:∀i (hi:i+1 < x.holds.length),gp x.Ab.Ao x.holds[i].Af < gp x.Ab.Ao x.holds[i+1].Af:=fun i hi=>by
    have:=h4 (i+1) hi;rw [O8 hi] at this;simp only [Bool.and_eq_true,Bool.or_eq_true,decide_eq_true_eq,Bool.not_eq_true',decide_eq_false_iff_not] at this;have h:=this.2;rcases h with h|h
    ·omega
    ·simpa using h
   refine List.pairwise_iff_getElem.2 fun i j hi hj hij=>?_;obtain ⟨d,rfl⟩:∃d,j=i+1+d:=⟨j - i - 1,GJ⟩;clear hij
   induction d with
   | zero=>exact step i hj
   | succ d ih=>exact Int.lt_trans (ih GJ) (step (i+1+d) hj)
 ·rintro ⟨h1,h2,h3,h4,h5⟩;refine ⟨⟨⟨h1,h2⟩,h3⟩,fun i hi=>?_⟩;rw [O8 hi];obtain ⟨a,b,c⟩:=h4 x.holds[i] (List.getElem_mem hi);rw [a,b,c];simp only [Bool.true_and,Bool.or_eq_true,decide_eq_true_eq,Bool.not_eq_true',decide_eq_false_iff_not];rcases Nat.eq_zero_or_pos i with h0|h0
  ·exact .inl h0
  ·have:=List.pairwise_iff_getElem.1 h5 (i - 1) i GJ hi GJ;right;omega
def Fm (t:Int) (hs:List Iw) (n:Int):Nat:=(hs.takeWhile fun h=>decide (gp t h.Af < gp t n)).length
def N2 (t:Int) (hs:List Iw) (n:Int):Bool:=match hs[Fm t hs n]? with|some h=>decide (h.Af=n)|none=>false
def onB (hs:List Iw) (n:Int):Bool:=hs.any fun h=>decide (h.Af=n)
def No (hs:List Iw) (k:Nat) (h:Iw):List Iw:=hs.take k++h::hs.drop k
def Zs (W:Az) (n:Int):Av:=⟨4,n,W.Ao,Lb W,⟨#[]⟩⟩
def N9 (x:Cr) (n:Int):Cr:=if Ik x.Ab n && !N2 x.Ab.Ao x.holds n then ⟨x.Ab,x.Ai,x.quiet,No x.holds (Fm x.Ab.Ao x.holds n) ⟨n,x.Ai+3⟩⟩ else W8 x x.Ab
def M8 (x:Cr) (p:Av):List Av:=if Ik x.Ab p.Af then (if N2 x.Ab.Ao x.holds p.Af then [Zs x.Ab p.Af] else [Zs x.Ab p.Af,(Dr x.Ab p).1]) else [Q4 x.Ab]
def L0 (x:Cr) (n:Int):Cr:=if Ik x.Ab n && !N2 x.Ab.Ao x.holds n then ⟨x.Ab,x.Ai,x.quiet,No x.holds (Fm x.Ab.Ao x.holds n) ⟨n,x.Ai+3⟩⟩ else x
theorem Y0 {x:Cr} (hg:Ch x=true):I7 x.Ab x.Ai x.holds=x.holds:=by
 obtain ⟨-, -, -,h4, -⟩:=Ez.1 hg;unfold I7;refine List.filter_eq_self.2 fun h hh=>?_;obtain ⟨a,b,c⟩:=h4 h hh;unfold Eu at c;simp only [Bool.and_eq_true,decide_eq_true_eq] at c;rw [b,decide_eq_true GJ];rfl
theorem Awu {x:Cr} (hg:Ch x=true) (n:Int):N9 x n=L0 x n:=by
 unfold N9 L0 W8;rw [Y0 hg]
theorem Xf (t:Int) (hs:List Iw) (n:Int):Fm t hs n≤hs.length:=Qc.1
theorem Axr {t n:Int} {hs:List Iw} (hn:0≤n∧n≤65535) (hser:∀h∈hs,B9 h.Af=true) (hs':srt t hs):N2 t hs n=onB hs n:=by
 obtain ⟨h1,h2,h3⟩:=Qc (p:=fun h:Iw=>decide (gp t h.Af < gp t n)) (xs:=hs);unfold N2 onB;have hle:=Xf t hs n;rw [Bool.eq_iff_iff,List.any_eq_true];constructor
 ·intro h
  split at h
  ·rename_i z hz;exact ⟨z,List.mem_of_getElem? hz,h⟩
  ·cases h
 ·rintro ⟨z,hz,he⟩;simp only [decide_eq_true_eq] at he;obtain ⟨i,hi,rfl⟩:=List.getElem_of_mem hz;have hk:Fm t hs n=i:=by
   refine W4 GJ (fun j hj h=>?_) (fun h=>?_)
   ·have:=List.pairwise_iff_getElem.1 hs' j i h hi hj;simp only [decide_eq_true_eq];rw [←he];exact this
   ·simp only [decide_eq_false_iff_not];rw [he];omega
  rw [hk,List.getElem?_eq_getElem hi];simpa using he
theorem Bag {t n:Int} {hs:List Iw} (u:Int) (hn:0≤n∧n≤65535) (hser:∀h∈hs,B9 h.Af=true) (hs':srt t hs) (ht:N2 t hs n=false):srt t (No hs (Fm t hs n) ⟨n,u⟩):=by
 obtain ⟨h1,h2,h3⟩:=Qc (p:=fun h:Iw=>decide (gp t h.Af < gp t n)) (xs:=hs);have hle:=Xf t hs n;have hon:onB hs n=false:=by rw [←Axr hn hser hs'];exact ht
 have hne:∀h∈hs,gp t h.Af≠gp t n:=fun h hh e=>by
  have:=Avg (Bb.1 (hser h hh)) hn e;have h0:onB hs n=true:=List.any_eq_true.2 ⟨h,hh,by simp [this]⟩;rw [hon] at h0;cases h0
 unfold No srt;rw [List.pairwise_append];refine ⟨hs'.sublist (List.take_sublist _ _),?_,?_⟩
 ·rw [List.pairwise_cons];refine ⟨fun b hb=>?_,hs'.sublist (List.drop_sublist _ _)⟩;obtain ⟨j,hj,rfl⟩:=List.getElem_of_mem hb;rw [List.getElem_drop];rw [List.length_drop] at hj;have hk:Fm t hs n < hs.length:=by omega
  have h0:=h3 hk;simp only [decide_eq_false_iff_not,Int.not_lt] at h0;have h00:gp t n≤gp t (hs[Fm t hs n]'hk).Af:=h0;have hd:=hne _ (List.getElem_mem hk);rcases Nat.eq_zero_or_pos j with e|e
  ·subst e;show gp t n < gp t (hs[Fm t hs n+0]).Af;simp only [Nat.add_zero];omega
  ·have h5:=List.pairwise_iff_getElem.1 hs' (Fm t hs n) (Fm t hs n+j) hk GJ GJ;show gp t n < _;omega
 ·intro a ha b hb;obtain ⟨i,hi,rfl⟩:=List.getElem_of_mem ha;rw [List.length_take] at hi;rw [List.getElem_take];have ha2:=h2 i (by show i < Fm t hs n;omega) GJ;simp only [decide_eq_true_eq] at ha2;rcases List.mem_cons.1 hb with rfl|hb
  ·exact ha2
  ·obtain ⟨j,hj,rfl⟩:=List.getElem_of_mem hb;rw [List.getElem_drop];rw [List.length_drop] at hj;exact List.pairwise_iff_getElem.1 hs' i _ GJ GJ GJ
theorem Avf {x:Cr} {n:Int} (hg:Ch x=true) (hn:0≤n∧n≤65535):Ch (L0 x n)=true:=by
 unfold L0
 split
 ·rename_i h;simp only [Bool.and_eq_true,Bool.not_eq_true'] at h;obtain ⟨hh,ht⟩:=h;obtain ⟨h1,h2,h3,h4,h5⟩:=Ez.1 hg;refine Ez.2 ⟨h1,h2,h3,fun z hz=>?_,Bag _ hn (fun z hz=>(h4 z hz).1) h5 ht⟩;have:z∈x.holds∨z=⟨n,x.Ai+3⟩:=by
   unfold No at hz;simp only [List.mem_append,List.mem_cons] at hz;rcases hz with h|h|h
   ·exact .inl (List.mem_of_mem_take h)
   ·exact .inr h
   ·exact .inl (List.mem_of_mem_drop h)
  rcases this with h|rfl
  ·exact h4 z h
  ·exact ⟨Bb.2 hn,hh,by unfold Eu;simp⟩
 ·exact hg
theorem Aru {x:Cr} (hg:Ch x=true) (hc:x.Ai < 9999):Ch (Mr x)=true:=by
 obtain ⟨h1,h2,h3,h4,h5⟩:=Ez.1 hg;have hk:=Ajl h2;refine Ez.2 ⟨h1,?_,?_,fun z hz=>?_,h5.sublist (List.filter_sublist)⟩
 ·unfold Mr J3 Eu;simp;omega
 ·unfold Eu at h3;simp only [Bool.and_eq_true,decide_eq_true_eq] at h3;unfold Mr Vs Eu;dsimp only
  split <;> simp <;> omega
 ·unfold Mr T5 at hz;simp only [List.mem_filter] at hz;obtain ⟨z1,z2⟩:=hz;obtain ⟨a,b,c⟩:=h4 z z1;refine ⟨a,b,?_⟩;unfold Eu at c ⊢;simp only [Bool.and_eq_true,decide_eq_true_eq,Bool.not_eq_true',decide_eq_false_iff_not] at c z2 ⊢;show x.Ai+1+1≤z.Cg∧z.Cg≤x.Ai+1+3;omega
theorem Ae5 {x:Cr} {W:Az} (k:Nat) (q:Int) (hg:Ch x=true) (hw:Dv W=true) (hq:Eu 0 q 3=true) (hk:k≤6) (ht:W.Ao=Ce x.Ab.Ao k):Ch ⟨W,x.Ai,q,Nc W x.holds⟩=true:=by
 obtain ⟨h1,h2,h3,h4,h5⟩:=Ez.1 hg;obtain ⟨-,⟨z0,z1⟩,hl, -⟩:=Dz.1 hw;have key:∀n,Ik W n=true→gp x.Ab.Ao n=gp W.Ao n+k:=fun n hn=>by
  unfold Ik at hn;simp only [decide_eq_true_eq] at hn;rw [ht] at hn ⊢;have:=Ky (Ce x.Ab.Ao k) n;unfold gp Ce at *;omega
 refine Ez.2 ⟨hw,h2,hq,fun z hz=>?_,?_⟩
 ·unfold Nc at hz;simp only [List.mem_filter] at hz;obtain ⟨a,b,c⟩:=h4 z hz.1;exact ⟨a,hz.2,c⟩
 ·unfold Nc srt;show List.Pairwise (fun a b=>gp W.Ao a.Af < gp W.Ao b.Af) (x.holds.filter fun h=>Ik W h.Af);have hp:List.Pairwise (fun a b=>gp x.Ab.Ao a.Af < gp x.Ab.Ao b.Af) (x.holds.filter fun h=>Ik W h.Af):=h5.sublist (List.filter_sublist);refine List.Pairwise.imp_of_mem (fun {a b} ha hb h=>?_) hp;simp only [List.mem_filter] at ha hb;have e1:=key _ ha.2;have e2:=key _ hb.2;omega
theorem Art {x:Cr} {s:ByteArray} (hg:Ch x=true) (hs:P9 s=true):Ch (Qt x s)=true:=by
 have hw:=(Ez.1 hg).1;obtain ⟨-,hw2, -⟩:=Aor (x:=x.Ab) (s:=s) (by unfold Y6;rw [hw,hs];rfl);obtain ⟨⟨t0,t1⟩, -⟩:=Dz.1 hw;by_cases h:(x.Ab.Ak.length:Int)=x.Ab.size
 ·refine Ae5 1 0 hg hw2 GM GJ ?_;show (Dd x.Ab).Ao=_;unfold Dd;rw [if_pos h];rfl
 ·refine Ae5 0 0 hg hw2 GM GJ ?_;show (Dd x.Ab).Ao=_;unfold Dd Ce;rw [if_neg h];omega
def O9 (n:Dt) (i:Nat):Bl:=n.Ae.getD i ⟨0,[]⟩
def Pl (n:Dt) (i:Nat):A9:=n.Ac.getD i Aty
def X7 (n:Dt) (i:Nat):List Int:=H3 n.Al.Ad ((i:Nat):Int)
def Adj (n:Dt) (i:Nat) (p:Av):List Int:=if p.Ct=2 then Tx (O9 n i) p.Af (X7 n i) else X7 n i
def Cq (n:Dt) (i:Nat) (p:Av):Dt × List ByteArray :=
 if Ed n.Al.Ad ((i:Nat):Int) then (⟨n.Al,n.Aa,n.Ae,n.Ac.set i (Dc (Pl n i) p (Ms i)),n.down,n.up⟩,Tj i (Hx (Pl n i) p))
 else (⟨n.Al,n.Aa,if p.Ct=2 then n.Ae.set i (Ph (O9 n i) p.Af) else n.Ae,n.Ac,Dg n.down (Adj n i p) [p],n.up⟩,[])
def X0 (n:Dt) (i:Nat):Nat:=(n.Al.Ad.getD i 0).toNat
def Yq (p:Av):Av:=⟨4,p.Af,p.Ao,p.Ff,⟨#[]⟩⟩
def Oy (n:Dt) (i:Nat) (p:Av):Dt :=
 if X0 n i=0 then ⟨n.Al,L0 n.Aa p.Af,n.Ae,n.Ac,Dg n.down [((i:Nat):Int)] (M8 n.Aa p),n.up⟩
 else ⟨n.Al,n.Aa,n.Ae.set (X0 n i) (N1 (O9 n (X0 n i)) p.Af ((i:Nat):Int)),n.Ac,Dg n.down [((i:Nat):Int)] [Yq p],if Abb (O9 n (X0 n i)) p.Af then n.up.modify (X0 n i) fun q=>Gw q [p] else n.up⟩
def M3 (n:Dt) (i:Nat):Dt × List ByteArray :=
 if Ed n.Al.Ad ((i:Nat):Int) then (⟨n.Al,n.Aa,n.Ae,n.Ac.set i (Cy (Pl n i) (Ms i)),n.down,n.up.modify i fun q=>Gw q (Ew (Pl n i))⟩,Tj i (Gz (Pl n i)))
 else (⟨n.Al,n.Aa,n.Ae.set i (E4 (O9 n i)),n.Ac,n.down,n.up⟩,[])
def Beh (n:Dt):Dt:=⟨n.Al,Mr n.Aa,n.Ae,n.Ac,Dg n.down (X7 n 0) (M4 n.Aa.Ab n.Aa.quiet),n.up⟩
def Bf (n:Dt):Nat→Dt × List ByteArray
 | 0=>(Beh n,[])
 | k+1=>((M3 (Bf n k).1 (k+1)).1,(Bf n k).2++(M3 (Bf n k).1 (k+1)).2)
def Et (n:Dt):Dt × List ByteArray:=Bf n (n.Al.Ad.length - 1)
def Pi (n:Dt) (s:ByteArray):Dt:=⟨n.Al,Qt n.Aa s,n.Ae,n.Ac,Dg n.down (X7 n 0) [Dm n.Aa.Ab s],n.up⟩
def Mi (n:Dt) (i:Nat):Dt:=⟨n.Al,n.Aa,n.Ae,n.Ac,n.down.modify i (·.drop 1),n.up⟩
def Ko (n:Dt) (i:Nat):Dt:=⟨n.Al,n.Aa,n.Ae,n.Ac,n.down,n.up.modify i (·.drop 1)⟩
structure GN (ck:Nat→Int) (n:Dt):Prop where
 t:Gg n.Al=true
 s:Ch n.Aa=true
 l:Lc n=true
 a:∀i (h1:i < n.Ae.length) (h2:i < n.Ac.length) (h3:i < n.down.length) (h4:i < n.up.length),P2 n.Al.Ad (ck i) i n.Ae[i] n.Ac[i] n.down[i] n.up[i]=true
theorem Ay {n:Dt}:Aw n=true↔GN (fun _=>n.Aa.Ai) n:=by
 rw [Sy];constructor
 ·rintro ⟨h1,h2,h3,h4⟩;obtain ⟨q1,q2,q3,q4⟩:=Bk.1 h3;exact ⟨h1,h2,h3,fun i a b c d=>by rw [←Tt a b c d];exact h4 i GJ⟩
 ·rintro ⟨h1,h2,h3,h4⟩;obtain ⟨q1,q2,q3,q4⟩:=Bk.1 h3;exact ⟨h1,h2,h3,fun i hi=>by rw [Tt GJ GJ GJ GJ];exact h4 i _ _ _ _⟩
def Ads (ck:Nat→Int) (i:Nat) (c:Int):Nat→Int:=fun j=>if j=i then c else ck j
structure RN (par:List Int) (clk:Int) (i:Nat) (e:Bl) (r:A9) (d u:List Av):Prop where
 hd:Ey d=true
 hu:Ey u=true
 hk:Zg u=true
 hz:i=0→Md e=true∧So r=true∧d.length=0∧u.length=0
 hf:i≠0→Ed par ((i:Nat):Int)=true→Md e=true∧Bz r=true∧r.Ai=clk
 hn:i≠0→Ed par ((i:Nat):Int)=false→Ba e=true∧e.Ai=clk∧So r=true
theorem Nk {par:List Int} {clk:Int} {i:Nat} {e:Bl} {r:A9} {d u:List Av}:P2 par clk i e r d u=true↔RN par clk i e r d u:=by
 unfold P2;constructor
 ·intro h;simp only [Bool.and_eq_true] at h;obtain ⟨⟨⟨h1,h2⟩,h3⟩,h4⟩:=h;refine ⟨h1,h2,h3,fun e=>?_,fun e l=>?_,fun e l=>?_⟩
  ·rw [if_pos e] at h4;simp only [Bool.and_eq_true,decide_eq_true_eq] at h4;exact ⟨h4.1.1.1,h4.1.1.2,h4.1.2,h4.2⟩
  ·rw [if_neg e,if_pos l] at h4;simp only [Bool.and_eq_true,decide_eq_true_eq] at h4;exact ⟨h4.1.1,h4.1.2,h4.2⟩
  ·rw [if_neg e,if_neg (by rw [l];decide)] at h4;simp only [Bool.and_eq_true,decide_eq_true_eq] at h4;exact ⟨h4.1.1,h4.1.2,h4.2⟩
 ·intro h;rw [h.hd,h.hu,h.hk,Bool.true_and,Bool.true_and,Bool.true_and];by_cases e:i=0
  ·rw [if_pos e];obtain ⟨a,b,c,d⟩:=h.hz e;rw [a,b,decide_eq_true c,decide_eq_true d];rfl
  ·rw [if_neg e];cases l:Ed par ((i:Nat):Int)
   ·obtain ⟨a,b,c⟩:=h.hn e l;rw [if_neg GM,a,decide_eq_true b,c];rfl
   ·obtain ⟨a,b,c⟩:=h.hf e l;rw [if_pos rfl,a,b,decide_eq_true c];rfl
theorem GN.rn {ck:Nat→Int} {n:Dt} (h:GN ck n) {i:Nat} (hi:i < n.Al.Ad.length):∃(h1:i < n.Ae.length) (h2:i < n.Ac.length) (h3:i < n.down.length) (h4:i < n.up.length),RN n.Al.Ad (ck i) i n.Ae[i] n.Ac[i] n.down[i] n.up[i]:=by
 obtain ⟨q1,q2,q3,q4⟩:=Bk.1 h.l;exact ⟨GJ,GJ,GJ,GJ,Nk.1 (h.a i _ _ _ _)⟩
theorem GN.mk' {ck:Nat→Int} {n:Dt} (h1:Gg n.Al=true) (h2:Ch n.Aa=true) (h3:Lc n=true) (h4:∀i (h1:i < n.Ae.length) (h2:i < n.Ac.length) (h3:i < n.down.length) (h4:i < n.up.length),RN n.Al.Ad (ck i) i n.Ae[i] n.Ac[i] n.down[i] n.up[i]):GN ck n :=
 ⟨h1,h2,h3,fun i a b c d=>Nk.2 (h4 i a b c d)⟩
theorem GN.src {ck:Nat→Int} {n:Dt} {s:Cr} (h:GN ck n) (hs:Ch s=true):GN ck ⟨n.Al,s,n.Ae,n.Ac,n.down,n.up⟩:=⟨h.t,hs,h.l,h.a⟩
theorem GN.el {ck:Nat→Int} {n:Dt} {i:Nat} {e:Bl} (h:GN ck n) (h0:i≠0) (hl:Ed n.Al.Ad ((i:Nat):Int)=false) (he:Ba e=true):GN (Ads ck i e.Ai) ⟨n.Al,n.Aa,n.Ae.set i e,n.Ac,n.down,n.up⟩:=by
 obtain ⟨q1,q2,q3,q4⟩:=Bk.1 h.l;refine .mk' h.t h.s (Bk.2 ⟨by simpa using q1,q2,q3,q4⟩) fun j h1 h2 h3 h4=>?_;have h1':j < n.Ae.length:=by simpa using h1
 have r:=Nk.1 (h.a j h1' h2 h3 h4);refine ⟨r.hd,r.hu,r.hk,fun e0=>?_,fun e0 l=>?_,fun e0 l=>?_⟩
 ·have:=r.hz e0
  rwa [List.getElem_set_ne GJ]
 ·have hne:i≠j:=fun e1=>by subst e1;rw [hl] at l;cases l
  have:=r.hf e0 l;rw [List.getElem_set_ne hne];unfold Ads;rw [if_neg (Ne.symm hne)];exact this
 ·have:=r.hn e0 l;by_cases e1:i=j
  ·subst e1;rw [List.getElem_set_self];unfold Ads;rw [if_pos rfl];exact ⟨he,rfl,this.2.2⟩
  ·rw [List.getElem_set_ne e1];unfold Ads;rw [if_neg (Ne.symm e1)];exact this
theorem GN.rc {ck:Nat→Int} {n:Dt} {i:Nat} {x:A9} (h:GN ck n) (h0:i≠0) (hl:Ed n.Al.Ad ((i:Nat):Int)=true) (he:Bz x=true):GN (Ads ck i x.Ai) ⟨n.Al,n.Aa,n.Ae,n.Ac.set i x,n.down,n.up⟩:=by
 obtain ⟨q1,q2,q3,q4⟩:=Bk.1 h.l;refine .mk' h.t h.s (Bk.2 ⟨q1,by simpa using q2,q3,q4⟩) fun j h1 h2 h3 h4=>?_;have h2':j < n.Ac.length:=by simpa using h2
 have r:=Nk.1 (h.a j h1 h2' h3 h4);refine ⟨r.hd,r.hu,r.hk,fun e0=>?_,fun e0 l=>?_,fun e0 l=>?_⟩
 ·have:=r.hz e0
  rwa [List.getElem_set_ne GJ]
 ·have:=r.hf e0 l;by_cases e1:i=j
  ·subst e1;rw [List.getElem_set_self];unfold Ads;rw [if_pos rfl];exact ⟨this.1,he,rfl⟩
  ·rw [List.getElem_set_ne e1];unfold Ads;rw [if_neg (Ne.symm e1)];exact this
 ·have hne:i≠j:=fun e1=>by subst e1;rw [hl] at l;cases l
  have:=r.hn e0 l;rw [List.getElem_set_ne hne];unfold Ads;rw [if_neg (Ne.symm hne)];exact this
theorem Aqi {q ps:List Av} (hq:Zg q=true) (hp:∀p∈ps,p.Ct=3):Zg (Gw q ps)=true:=by
 unfold Zg Gw at *;rw [List.all_append,hq,Bool.true_and,List.all_eq_true];exact fun p h=>decide_eq_true (hp p (List.mem_of_mem_take h))
theorem GN.dn {ck:Nat→Int} {n:Dt} (h:GN ck n) (i:Nat) (f:List Av→List Av) (h0:i=0→f []=[]) (hf:∀q,Ey q=true→Ey (f q)=true):GN ck ⟨n.Al,n.Aa,n.Ae,n.Ac,n.down.modify i f,n.up⟩:=by
 obtain ⟨q1,q2,q3,q4⟩:=Bk.1 h.l;refine .mk' h.t h.s (Bk.2 ⟨q1,q2,by simpa using q3,q4⟩) fun j h1 h2 h3 h4=>?_;have h3':j < n.down.length:=by simpa using h3
 have r:=Nk.1 (h.a j h1 h2 h3' h4);by_cases e1:i=j
 ·subst e1;simp only [List.getElem_modify_eq];refine ⟨hf _ r.hd,r.hu,r.hk,fun e0=>?_,r.hf,r.hn⟩;obtain ⟨a,b,c,d⟩:=r.hz e0;refine ⟨a,b,?_,d⟩;rw [List.length_eq_zero_iff.1 c,h0 e0];rfl
 ·simp only [List.getElem_modify,if_neg e1];exact r
theorem GN.un {ck:Nat→Int} {n:Dt} (h:GN ck n) (i:Nat) (f:List Av→List Av) (h0:i=0→f []=[]) (hf:∀q,Ey q=true→Zg q=true→Ey (f q)=true∧Zg (f q)=true):GN ck ⟨n.Al,n.Aa,n.Ae,n.Ac,n.down,n.up.modify i f⟩:=by
 obtain ⟨q1,q2,q3,q4⟩:=Bk.1 h.l;refine .mk' h.t h.s (Bk.2 ⟨q1,q2,q3,by simpa using q4⟩) fun j h1 h2 h3 h4=>?_;have h4':j < n.up.length:=by simpa using h4
 have r:=Nk.1 (h.a j h1 h2 h3 h4');by_cases e1:i=j
 ·subst e1;simp only [List.getElem_modify_eq];refine ⟨r.hd,(hf _ r.hu r.hk).1,(hf _ r.hu r.hk).2,fun e0=>?_,r.hf,r.hn⟩;obtain ⟨a,b,c,d⟩:=r.hz e0;refine ⟨a,b,c,?_⟩;rw [List.length_eq_zero_iff.1 d,h0 e0];rfl
 ·simp only [List.getElem_modify,if_neg e1];exact r
theorem GN.sp {ck:Nat→Int} {ps:List Av} (hp:∀p∈ps,By p=true):∀{nodes:List Int} {n:Dt},GN ck n→(∀x∈nodes,x.toNat≠0)→GN ck ⟨n.Al,n.Aa,n.Ae,n.Ac,Dg n.down nodes ps,n.up⟩
 | [],_,h,_=>h
 | x::r,n,h,hx=>GN.sp hp (nodes:=r) (n:=⟨n.Al,n.Aa,n.Ae,n.Ac,n.down.modify x.toNat fun q=>Gw q ps,n.up⟩) (h.dn x.toNat _ (fun e=>absurd e (hx x GL)) fun q hq=>Abw hq hp) fun y hy=>hx y (by simp [hy])
theorem Ae3 {q:List Av} (h:Ey q=true):Ey (q.drop 1)=true:=by
 unfold Ey at *;simp only [Bool.and_eq_true,decide_eq_true_eq,List.all_eq_true] at h ⊢;exact ⟨HX,fun p hp=>h.2 p (List.mem_of_mem_drop hp)⟩
theorem Ax0 {q:List Av} (h:Zg q=true):Zg (q.drop 1)=true:=by
 unfold Zg at *;simp only [List.all_eq_true] at h ⊢;exact fun p hp=>h p (List.mem_of_mem_drop hp)
theorem GN.pd {ck:Nat→Int} {n:Dt} (h:GN ck n) (i:Nat):GN ck (Mi n i):=h.dn i _ (fun _=>rfl) fun _=>Ae3
theorem GN.pu {ck:Nat→Int} {n:Dt} (h:GN ck n) (i:Nat):GN ck (Ko n i):=h.un i _ (fun _=>rfl) fun _ a b=>⟨Ae3 a,Ax0 b⟩
def U8 (l:List Hv):Prop:=∀s∈l,s.De.size≤8
theorem Aij {s:ByteArray} (h:s.size≤8):(Aft s).size≤9:=by
 unfold Aft;have:(⟨#[43]⟩:ByteArray).size=1:=rfl;rw [ByteArray.size_append];omega
theorem Ao3 {l:List Hv} (h:U8 l):(Fj l).size≤9:=by
 unfold Fj;cases l with
 | nil=>decide
 | cons s r =>
  dsimp only
  split
  ·exact Aij (h s GL)
  ·decide
theorem Awq:∀(l:List Hv) (n:Int),U8 l→∀e∈(rel n l).2.2,e.size≤9
 | [],_,_,e,he=>by simp [rel] at he
 | s::r,n,h,e,he=>by
  unfold rel at he
  split at he
  ·rcases List.mem_cons.1 he with rfl|he
   ·exact Aij (h s GL)
   ·exact Awq r _ (fun x hx=>h x IX) e he
  ·simp at he
theorem Aql {w:An} (h:U8 w.Ap):∀e∈Qs w,e.size≤9:=Awq w.Ap w.next h
theorem Ap4:∀(k:Nat) (w:An),U8 w.Ap→(∀e∈Nw k w,e.size≤9)∧U8 (If k w).Ap
 | 0,w,h=>⟨fun e he=>by simp [Nw] at he,h⟩
 | k+1,w,h=>by
  have ih:=Ap4 k (X3 w) fun s hs=>h s (List.mem_of_mem_drop hs);refine ⟨fun e he=>?_,ih.2⟩;unfold Nw at he;rcases List.mem_cons.1 he with rfl|he
  ·exact Ao3 h
  ·exact ih.1 e he
theorem Y9 {w:An} (h:Cs w=true):U8 w.Ap:=fun s hs=>by
 obtain ⟨n0,n1,hl,hit⟩:=Q8 h;exact hit s hs
theorem Al5 {w:An} {t:Int} (h:U8 w.Ap):∀e∈Is w t,e.size≤9:=fun e he=>by
 have hg:=Ap4 (Em w.next t) w h;unfold Is at he;rcases List.mem_append.1 he with he|he
 ·exact hg.1 e he
 ·exact Aql hg.2 e he
theorem Asy {w:An} {t:Int} (h:Cs w=true):(Is w t).length≤40000:=by
 have h1:=(T8 (t:=t) h).2.2.1;have h2:Em w.next t≤32767:=by
  unfold Em
  split
  ·rename_i hb;unfold Sp Eu at hb;simp only [Bool.and_eq_true,decide_eq_true_eq] at hb;omega
  ·omega
 omega
theorem Az1 {x:An} {k:Nat} {s:Hv} (h:U8 x.Ap) (hs:s.De.size≤8):U8 (Lv x k s):=fun y hy=>by
 unfold Lv at hy;rcases List.mem_or_eq_of_mem_set hy with hy|rfl
 ·unfold Ly at hy;rcases List.mem_append.1 hy with hy|hy
  ·exact h y hy
  ·rw [List.eq_of_mem_replicate hy];decide
 ·exact hs
theorem Ay8 {r:A9} {p:Av} (hg:Lq r) (hp:By p=true):∀e∈Hx r p,e.size≤1000000:=fun e he=>by
 have hd:p.data.size≤8:=by
  unfold By P9 at hp;simp only [Bool.and_eq_true,decide_eq_true_eq] at hp;omega
 have hst:=(P4 hg hp).1;have htk:=(Sn hg hp).1;unfold Hx at he
 split at he
 ·unfold Ma at he;rcases List.mem_append.1 he with he|he
  ·unfold Ka at he
   split at he
   ·simp at he
   ·unfold Li at he
    split at he
    ·simp at he
    ·have:=Aql (w:=X2 (D0 r p) p.Af p.data) (Az1 (s:=⟨true,p.data⟩) (Y9 hst) hd) e he;omega
  ·unfold Ob at he
   split at he
   ·split at he
    ·have:=Al5 (Y9 htk) e he;omega
    ·rw [List.mem_singleton] at he;subst he;decide
   ·simp at he
 ·simp at he
theorem Ab8 {r:A9} (hg:Lq r):(∀e∈Gz r,e.size≤1000000)∧(Gz r).length≤40000:=by
 unfold Gz
 split
 ·exact ⟨fun e he=>by simp at he,GL⟩
 ·exact ⟨fun e he=>by have:=Al5 (Y9 hg.w) e he;omega,Asy hg.w⟩
theorem Afv {w:World} {t:TypeId} {a:Option Addr} {c:Nat} {l:List Int} {F:List Nat} (h:(Pc.ow Bc t (.slice a l.length c) l F).P w):∃F',(Pc.isv Kt (.agg #[.slice a l.length c]) ⟨l⟩ F').P w:=by
 obtain ⟨F', -,hs⟩:=h.2.read;exact ⟨F',_,rfl,_,rfl,hs⟩
theorem Yp (t:Me) (node:Int) (v:Value) (F:List Nat) (hl:t.Ad.length≤1000000):Fn prog 111 [v,.int .i64 node] [.isv Kt v t F] [] (fun (_:KiS)=>True) (fun z=>.slice z.a (H3 t.Ad node).length z.c) (fun z=>[.ow Bc 3 (.slice z.a (H3 t.Ad node).length z.c) (H3 t.Ad node) z.F]):=by
 refine enter func111 rfl ntmps111 fun w0=>?_;refine Lx ?_;rintro a1 c1 F1 rfl l1;refine Br Bc 3 ?_;refine go ?_;intros;refine Ck [1,4,9,10] (fun z:KiS=>[(5,.slice z.a (Jr t.Ad node z.k).length z.c),(11,.int .i64 (z.k:Nat))]) (fun z=>[.ow Bc 3 (.slice z.a (Jr t.Ad node z.k).length z.c) (Jr t.Ad node z.k) z.F]) (fun z=>z.k≤t.Ad.length) (fun z=>t.Ad.length - z.k) ⟨0,_,_,_⟩ (Nat.zero_le _) fun z hz=>?_;have hkl:=Afa t.Ad node z.k;refine go ?_;intros;refine Be rfl (fun h1=>?_) (fun h1=>?_)
 ·have hh:z.k < t.Ad.length:=by omega
  refine Io (xs:=t.Ad) z.k ?_;rintro hi b o e1;rw [e1];refine go ?_;intros;refine Be rfl (fun h2=>?_) (fun h2=>?_)
  ·refine M7 ?_;intros;apply wO;refine Oh (Pp _) C5 fun a9 c9 F9=>?_;refine go ?_;intros;rw [←An8 hh h2];exact FV
  ·rw [←Ar3 hh h2];exact EH
 ·rw [show Jr t.Ad node z.k=H3 t.Ad node by unfold H3;rw [show z.k=t.Ad.length by omega]];exact BO
theorem Ae6 {r:A9} {p:Av} (hg:Lq r) (hp:By p=true):∀e∈Hx r p,e.size≤1000000:=Ay8 hg hp
theorem Ap6:∀(l:List Int) (lo:Int),l.Pairwise (· < ·)→(∀z∈l,lo≤z∧z≤7)→(l.length:Int)≤max 0 (8 - lo)
 | [],_,_,_=>by simp;omega
 | x::r,lo,hp,hb=>by
  rw [List.pairwise_cons] at hp;have:=Ap6 r (x+1) hp.2 fun z hz=>⟨by have:=hp.1 z hz;omega,(hb z JH).2⟩;have:=hb x GL;rw [List.length_cons];omega
theorem Ol {e:Bl} (hg:Ba e=true) {x:Ja} (hx:x∈e.Ah):x.Bm.length≤7:=by
 have h:=(Ot.1 ((Gp.1 hg).2.2.1 x hx)).2.2.1;have:=Ap6 x.Bm 1 h.1 h.2;omega
theorem Aa7 {i:Nat}:1≤Ms i∧Ms i≤8:=by unfold Ms;omega
theorem Gh {n:Dt} {i:Nat} (h:i < n.Ac.length):Pl n i=n.Ac[i]:=Pa h _
theorem I5 {n:Dt} {i:Nat} (h:i < n.Ae.length):O9 n i=n.Ae[i]:=Pa h _
theorem Ard (n:Dt) (i:Nat) (p:Av) (g:Nat) (a1:Option Addr) (c1:Nat) (F1:List Nat) (a2:Option Addr) (c2:Nat) (F2:List Nat) (a3:Option Addr) (c3:Nat) (F3:List Nat) (a4:Option Addr) (c4:Nat) (F4:List Nat) (a5:Option Addr) (c5:Nat) (F5:List Nat) (a6:Option Addr) (c6:Nat) (F6:List Nat) (a7:Option Addr) (c7:Nat) (F7:List Nat) (FT:List Nat) (hl:Lc n=true) (hi:i < n.Al.Ad.length) (h8:Tn n.Al.Ad) (hr:Ed n.Al.Ad (i:Nat)=true→Bz (Pl n i)=true) (he:Ed n.Al.Ad (i:Nat)=false→Ba (O9 n i)=true) (hp:By p=true) (hps:p.data.size≤maxLen) :
  Fn prog 169 [Hm g 0 0,.int .i64 (i:Nat),.agg #[.int .i64 (p).Ct,.int .i64 (p).Af,.int .i64 (p).Ao,.int .i64 (p).Ff,.string (p).data]] [Gc FT] [.row g 48 0 [] [.slice a1 n.Al.Ad.length c1,.int .i64 n.Aa.Ab.Ao,.int .i64 n.Aa.Ab.size,.slice a2 n.Aa.Ab.Ak.length c2,.int .i64 n.Aa.Ai,.int .i64 n.Aa.quiet,.slice a3 n.Aa.holds.length c3,.slice a4 n.Ae.length c4,.slice a5 n.Ac.length c5,.slice a6 n.down.length c6,.slice a7 n.up.length c7] [],.ow Bc 3 (.slice a1 n.Al.Ad.length c1) n.Al.Ad F1,.ow A8 9 (.slice a2 n.Aa.Ab.Ak.length c2) n.Aa.Ab.Ak F2,.ow Bi 156 (.slice a3 n.Aa.holds.length c3) n.Aa.holds F3,.ow Bj 110 (.slice a4 n.Ae.length c4) n.Ae F4,.ow Bg 117 (.slice a5 n.Ac.length c5) n.Ac F5,.ow (Fv Aj 159) 135 (.slice a6 n.down.length c6) n.down F6,.ow (Fv Aj 159) 135 (.slice a7 n.up.length c7) n.up F7] (fun (_:NV × KA)=>True) (fun z=>.slice z.2.a (Cq n i p).2.length z.2.c) (fun z=>[.row g 48 0 [] [.slice z.1.a1 n.Al.Ad.length z.1.c1,.int .i64 (Cq n i p).1.Aa.Ab.Ao,.int .i64 (Cq n i p).1.Aa.Ab.size,.slice z.1.a2 (Cq n i p).1.Aa.Ab.Ak.length z.1.c2,.int .i64 (Cq n i p).1.Aa.Ai,.int .i64 (Cq n i p).1.Aa.quiet,.slice z.1.a3 (Cq n i p).1.Aa.holds.length z.1.c3,.slice z.1.a4 n.Ae.length z.1.c4,.slice z.1.a5 n.Ac.length z.1.c5,.slice z.1.a6 n.down.length z.1.c6,.slice z.1.a7 n.up.length z.1.c7] [],.ow Bc 3 (.slice z.1.a1 n.Al.Ad.length z.1.c1) (Cq n i p).1.Al.Ad z.1.F1,.ow A8 9 (.slice z.1.a2 (Cq n i p).1.Aa.Ab.Ak.length z.1.c2) (Cq n i p).1.Aa.Ab.Ak z.1.F2,.ow Bi 156 (.slice z.1.a3 (Cq n i p).1.Aa.holds.length z.1.c3) (Cq n i p).1.Aa.holds z.1.F3,.ow Bj 110 (.slice z.1.a4 n.Ae.length z.1.c4) (Cq n i p).1.Ae z.1.F4,.ow Bg 117 (.slice z.1.a5 n.Ac.length z.1.c5) (Cq n i p).1.Ac z.1.F5,.ow (Fv Aj 159) 135 (.slice z.1.a6 n.down.length z.1.c6) (Cq n i p).1.down z.1.F6,.ow (Fv Aj 159) 135 (.slice z.1.a7 n.up.length z.1.c7) (Cq n i p).1.up z.1.F7,.ow A8 9 (.slice z.2.a (Cq n i p).2.length z.2.c) (Cq n i p).2 z.2.F]):=by
 obtain ⟨q1,q2,q3,q4⟩:=Bk.1 hl;have hn8:=h8.n1;obtain ⟨d0,d1_⟩:=Aa7 (i:=i);refine enter func169 rfl ntmps169 fun w0=>?_;refine go ?_;intros;refine cfr (fun w st=>by obtain ⟨Fq,hq⟩:=Afv (st.get (p:=.ow Bc 3 (.slice a1 n.Al.Ad.length c1) n.Al.Ad F1) GO);exact ⟨_,I9 hq,rfl,Wg n.Al i _ Fq⟩) (fun _ _=>?_);refine Ar ?_;cases hlf:Ed n.Al.Ad (i:Nat)
 rotate_left
 ·have hir:i < n.Ac.length:=by omega
  have hgr:=D9.1 (Gh hir▸hr hlf);have hev:=(Tz (d:=Ms i) hgr hp d0 d1_).2;rw [show Cq n i p=(⟨n.Al,n.Aa,n.Ae,n.Ac.set i (Dc n.Ac[i] p (Ms i)),n.down,n.up⟩,Tj i (Hx n.Ac[i] p)) by unfold Cq;rw [if_pos hlf,Gh hir]];refine go ?_;intros;refine Aba (xs:=n.Ac) (m:=5) i ?_ rfl hir;rintro _ g5 A5 cs B5 k1 k2 J1 Ji J2 rfl - hc5 hH5;refine H4 ?_;rintro b1 d1 G1 b2 d2 G2 ev l1 l2;obtain rfl:cs=[.bool n.Ac[i].Bd,.int .i64 n.Ac[i].Ai,.int .i64 n.Ac[i].Ab.next,.slice b1 n.Ac[i].Ab.Ap.length d1,.slice b2 n.Ac[i].Am.length d2]:=by simpa using ev
  refine At [5,6] [] ?_;refine Dk 0 1 2 3 ?_;refine Dk 4 5 6 7 ?_;refine dt 8 ?_;refine dN 9 ?_;refine oC ?_;refine cf (Ahm i GJ) fun _ _=>?_;refine Ar ?_;refine dk ?_;refine dN 10 ?_;refine oC ?_;refine cf (Ayl n.Ac[i] p (Ms i) g5 117 (0+i * 5) A5 B5 b1 d1 G1 b2 d2 G2 hgr hp d0 d1_) fun s _=>?_;refine Ar ?_;refine dk ?_;refine dN 11 ?_;refine oC ?_
  refine cfr (fun w st=>by obtain ⟨Fq, -,hq⟩:=(st.get (p:=.ow A8 9 (.slice s.ae (Hx n.Ac[i] p).length s.ce) (Hx n.Ac[i] p) s.Fe) GO).2.read;exact ⟨[.sl A8 (.slice s.ae (Hx n.Ac[i] p).length s.ce) (Hx n.Ac[i] p) Fq,Gc FT],Uv ⟨GM,hq⟩ (st.get (p:=Gc FT) GO),rfl,Axv i _ _ _ Fq FT GJ GJ (Ae6 hgr hp)⟩) (fun u _=>?_);refine Ar ?_;refine dk ?_;refine dt 12 ?_;refine dd ?_;refine go ?_;intros;refine Ju (Dc n.Ac[i] p (Ms i)) ?_;refine Vd _ hH5 rfl fun J5=>?_;refine ret (⟨a1,c1,F1,a2,c2,F2,a3,c3,F3,a4,c4,F4,_,c5,J5,a6,c6,F6,a7,c7,F7⟩,⟨0,_,_,_⟩) trivial rfl
 ·have hir:i < n.Ae.length:=by omega
  have hge:Ba n.Ae[i]=true:=I5 hir▸he hlf;have hel:=(Gp.1 hge).2.1;have hkl:=T6 n.Al.Ad ((i:Nat):Int);have hkx:∀x∈H3 n.Al.Ad ((i:Nat):Int),0≤x∧x.toNat < n.down.length:=fun x hx=>by have:=La h8 hx;omega
  refine go ?_;intros;refine cfr (fun w st=>by obtain ⟨Fq,hq⟩:=Afv (st.get (p:=.ow Bc 3 (.slice a1 n.Al.Ad.length c1) n.Al.Ad F1) GO);exact ⟨_,I9 hq,rfl,Yp n.Al ((i:Nat):Int) _ Fq JX⟩) (fun u _=>?_);refine Ar ?_;refine A4 (E:=Bc) (xs:=H3 n.Al.Ad ((i:Nat):Int)) fun Fk=>?_;refine Br A8 9 ?_;refine go ?_;intros;refine Be rfl (fun hk=>?_) (fun hk=>?_)
  ·rw [show Cq n i p=(⟨n.Al,n.Aa,n.Ae.set i (Ph n.Ae[i] p.Af),n.Ac,Dg n.down (Tx n.Ae[i] p.Af (H3 n.Al.Ad ((i:Nat):Int))) [p],n.up⟩,[]) by unfold Cq Adj X7;rw [if_neg JV,if_pos hk,if_pos hk,I5 hir]];refine go ?_;intros;refine Aba (xs:=n.Ae) (m:=2) i ?_ rfl hir;rintro _ g5 A5 cs B5 k1 k2 J1 Ji J2 rfl - hc5 hH5;refine Hl ?_;rintro b1 d1 G1 ev l1;obtain rfl:cs=[.int .i64 n.Ae[i].Ai,.slice b1 n.Ae[i].Ah.length d1]:=by simpa using ev
   refine At [6,7] [] ?_;refine Dk 0 1 2 3 ?_;refine Dk 4 5 6 7 ?_;refine dt 8 ?_;refine dN 9 ?_;refine oC ?_;refine cf (Aqy n.Ae[i] p.Af (H3 n.Al.Ad ((i:Nat):Int)) g5 110 (0+i * 2) A5 B5 b1 d1 G1 u.a u.c Fk GJ (fun x hx=>by have:=Ol hge hx;omega) GJ) fun s _=>?_;refine Ar ?_;refine dk ?_;refine dt 10 ?_;refine dd ?_;refine Gk (Ph n.Ae[i] p.Af) ?_;refine Vd _ hH5 rfl fun J5=>?_;refine A4 (E:=Bc) (xs:=Tx n.Ae[i] p.Af (H3 n.Al.Ad ((i:Nat):Int))) fun Fk2=>?_;refine M7 ?_;intros;refine Ic (E:=Aj) (xs:=[p]) (C8 p hps) ?_ GL;refine A4 (E:=Aj) (xs:=[p]) fun Fp=>?_
   refine go ?_;intros;refine cf (Yr n.down (Tx n.Ae[i] p.Af (H3 n.Al.Ad ((i:Nat):Int))) [p] g _ _ _ _ _ _ _ _ _ _ a6 _ c6 F6 _ _ Fk2 _ _ Fp rfl (fun x hx=>hkx x (Zw x hx))) fun J6 _=>?_;refine Ar ?_;refine go ?_;intros;refine ret (⟨a1,c1,F1,a2,c2,F2,a3,c3,F3,_,c4,J5,a5,c5,F5,a6,c6,J6,a7,c7,F7⟩,⟨0,none,0,[]⟩) trivial rfl
  ·rw [show Cq n i p=(⟨n.Al,n.Aa,n.Ae,n.Ac,Dg n.down (H3 n.Al.Ad ((i:Nat):Int)) [p],n.up⟩,[]) by unfold Cq Adj X7;rw [if_neg JV,if_neg hk,if_neg hk]];refine M7 ?_;intros;refine Ic (E:=Aj) (xs:=[p]) (C8 p hps) ?_ GL;refine A4 (E:=Aj) (xs:=[p]) fun Fp=>?_;refine go ?_;intros;refine cf (Yr n.down (H3 n.Al.Ad ((i:Nat):Int)) [p] g _ _ _ _ _ _ _ _ _ _ a6 _ c6 F6 _ _ Fk _ _ Fp rfl hkx) fun J6 _=>?_;refine Ar ?_;refine go ?_;intros;refine ret (⟨a1,c1,F1,a2,c2,F2,a3,c3,F3,a4,c4,F4,a5,c5,F5,a6,c6,J6,a7,c7,F7⟩,⟨0,none,0,[]⟩) trivial rfl
theorem Xo (y:Iw) (w:World):Cw Bi w [.int .i64 y.Af,.int .i64 y.Cg] [y] []:=⟨_,[],[],[],GL,GL,⟨rfl,rfl⟩,rfl,rfl⟩
theorem Aq0 (xs:List Iw) (y:Iw) (i:Nat) (a:Option Addr) (c vb:Nat) (F:List Nat) (hi:i≤xs.length) (hl:xs.length≤1000000) :
  Fn prog 287 [.slice a xs.length c,.int .i64 i,.slice (some ⟨vb,0,none⟩) 1 1] [] [.ow Bi 156 (.slice a xs.length c) xs F,.row vb 156 0 [] [.int .i64 y.Af,.int .i64 y.Cg] []] (fun (_:Option Addr × Nat × List Nat)=>True)
   (fun z=>.slice z.1 (xs.take i++y::xs.drop i).length z.2.1) (fun z=>[.ow Bi 156 (.slice z.1 (xs.take i++y::xs.drop i).length z.2.1) (xs.take i++y::xs.drop i) z.2.2]):=by
 have hone:∀w':World,∀cs:List Value,Cw Bi w' cs xs []→∀u∈cs,u.oneCell'=true:=fun w' cs h=>h.one' Jc;have hy:=Xo y;have h1y:∀u∈([.int .i64 y.Af,.int .i64 y.Cg]:List Value),u.oneCell'=true:=by intro u hu;simp at hu;rcases hu with rfl|rfl|rfl|rfl <;> rfl
 refine enter func287 rfl ntmps287 fun w0=>?_;refine Axj (E:=Bi) fun hc1 hc2=>?_;refine go ?_;intros;apply wO;refine Ajz rfl rfl rfl rfl hi (fun _=>?_) hc1;refine go ?_;intros;refine Be rfl (fun h1=>?_) (fun h1=>?_)
 ·have hin:i=xs.length:=by omega
  subst hin;have e:xs.take xs.length++y::xs.drop xs.length=xs++[y]:=by simp
  refine go ?_;intros;apply wO;refine Oh hy Jc fun a2 c2 F2=>?_;rw [e];exact DA
 ·have hlt:i < xs.length:=by omega
  refine Akf (xs:=xs) Lp (by rintro rfl;simp at hlt) ?_;rintro g cs rest rfl - - - hcl hcr hfl;rw [show Bi.sz=2 from rfl] at hcl hcr;have h1c:=hone w0 cs (hfl w0);obtain ⟨A,B,hcs,hA,hB⟩:∃A B,cs=A++B∧A=cs.take (i * 2)∧B=cs.drop (i * 2):=⟨_,_,(List.take_append_drop _ _).symm,rfl,rfl⟩;have hAl:A.length=i * 2:=by rw [hA,List.length_take];omega
  have hBl:B.length=(xs.length - i) * 2:=by rw [hB,List.length_drop];omega
  have hins:∀w,Cw Bi w (A++[.int .i64 y.Af,.int .i64 y.Cg]++B) (xs.take i++y::xs.drop i) []:=fun w=>by rw [hA,hB];exact (hfl w).insL (hy w) i hi
  have h1A:∀u∈A,u.oneCell'=true:=fun u hu=>h1c u IU;have h1B:∀u∈B,u.oneCell'=true:=fun u hu=>h1c u IU;have hlen:(xs.take i++y::xs.drop i).length=xs.length+1:=by simp;omega
  clear hA hB hfl hone;subst hcs;have eA:A=((A++B++rest).drop 0).take (i * 2):=by rw [List.drop_zero,List.append_assoc,List.take_left' hAl]
  have eB:B=((A++B++rest).drop (0+i * 2)).take ((xs.length - i) * 2):=by rw [Nat.zero_add,List.append_assoc,List.drop_left' hAl,List.take_left' hBl]
  rw [hlen];refine go ?_;intros;apply wO;apply oc;rfl;exact Apl rfl;refine go ?_;intros;refine Be rfl (fun h2=>?_) (fun h2=>?_)
  ·refine go ?_;intros;apply wO;apply oc;rfl;exact Og (i:=i) rfl rfl rfl GJ GJ;refine go ?_;intros;apply wO;refine Aol (k:=xs.length+1 - i) (olds:=A) rfl rfl rfl GJ (Ml (m:=i * 2) (.head _) eA) GJ GM GJ GJ GJ GJ fun g' cp' Z rest' h3 h4 h5 h6=>?_;rw [show i+(xs.length+1 - i)=xs.length+1 by omega] at h3 ⊢;obtain ⟨Z1,Z2,rfl,hZ1,hZ2⟩:∃Z1 Z2,Z=Z1++Z2∧Z1.length=2∧Z2.length=B.length:=⟨Z.take 2,Z.drop 2,(List.take_append_drop _ _).symm,HW,HX⟩;refine go ?_;intros
   apply wO;apply oc;rfl;exact Kb (i:=i) rfl rfl rfl GJ GJ GJ;refine go ?_;intros;apply wO;refine Vr (cs:=[.int .i64 y.Af,.int .i64 y.Cg]) (L':=A++[.int .i64 y.Af,.int .i64 y.Cg]++(Z2++rest')) rfl rfl rfl (Ml (L:=[.int .i64 y.Af,.int .i64 y.Cg]) (o:=0) (m:=2) GO rfl) .here (Adh (M:=Z1) HE GJ (by simpa using hZ1)) (by show 2=min 1 (xs.length+1 - i) * 2;omega) GS h1y ?_;refine go ?_;intros;refine At [] [] ?_;refine Dk 0 1 2 3 ?_
   refine dt 4 ?_ (hy:=Kb (i:=i+1) rfl rfl GJ GJ GJ GJ);refine Dy 5 6 ?_;refine dt 7 ?_ (hy:=Kb (i:=i) rfl rfl GJ GJ GJ GJ);refine dN 8 ?_
   refine Vr (cs:=B) (L':=A++[.int .i64 y.Af,.int .i64 y.Cg]++B++rest') rfl rfl rfl (Ml GO eB) .here (Adh (P:=A++[.int .i64 y.Af,.int .i64 y.Cg]) (M:=Z2) HE GS hZ2) IG GS h1B ?_;refine dk ?_;refine dd ?_
   refine Ab5 (cs:=A++[.int .i64 y.Af,.int .i64 y.Cg]++B) (rest:=rest') (xs:=xs.take i++y::xs.drop i) cp' rfl hins GJ h4 (by rw [show Bi.sz=2 from rfl];simp only [List.length_append,List.length_cons,List.length_nil] at h6 ⊢;omega) ?_;exact FZ
  ·have hcx:xs.length+1≤c:=by omega
   obtain ⟨X,Y,hXY,hX,hY⟩:=Ao4 (B:=B) (R:=rest) 2 GJ;refine go ?_;intros;apply wO;apply oc;rfl;exact Og (i:=xs.length+1) rfl rfl GJ GJ GJ;refine go ?_;intros;apply wO;apply oc;rfl;exact Kb (i:=i+1) rfl rfl GJ GJ GJ GJ;refine M7 ?_;intros;apply wO
   refine Awc rfl Tw (ovl (tS:=41) (tR:=4) (run_callFunc_extern func328 GK GK GK (e:=Extern.SlicesOverlaps.overlaps #[41,41] #[4]) GK) (.there .here) (.head _) HQ) ?_;refine go ?_;intros;refine At [] [] ?_;refine Dk 0 1 2 3 ?_;refine dt 4 ?_ (hy:=Kb (i:=i+1) rfl rfl GJ GJ GJ GJ);refine Dy 5 6 ?_;refine dt 7 ?_ (hy:=Kb (i:=i) rfl rfl GJ GJ GJ GJ);refine dN 8 ?_
   refine Vr (cs:=B) (L':=A++X++B++rest.drop 2) rfl rfl rfl (Ml GO eB) .here (Adh (P:=A++X) (M:=Y) IL HS hY) IE HS h1B ?_;refine dk ?_;refine dd ?_;refine go ?_;intros;apply wO;apply oc;rfl;exact Kb (i:=i) rfl rfl rfl GJ GJ GJ;refine go ?_;intros;apply wO
   refine Vr (cs:=[.int .i64 y.Af,.int .i64 y.Cg]) (L':=A++[.int .i64 y.Af,.int .i64 y.Cg]++(B++rest.drop 2)) rfl rfl rfl (Ml (L:=[.int .i64 y.Af,.int .i64 y.Cg]) (o:=0) (m:=2) GO rfl) .here (Adh (M:=X) HE GJ (by simpa using hX)) (by show 2=min 1 (xs.length+1 - i) * 2;omega) GS h1y ?_;refine go ?_;intros
   refine Ab5 (L:=A++[.int .i64 y.Af,.int .i64 y.Cg]++(B++rest.drop 2)) (cs:=A++[.int .i64 y.Af,.int .i64 y.Cg]++B) (rest:=rest.drop 2) (xs:=xs.take i++y::xs.drop i) c HE hins GJ GJ (by rw [show Bi.sz=2 from rfl];simp only [List.length_append,List.length_cons,List.length_nil,List.length_drop];omega) ?_;rw [hlen];refine ret (_,c,[g]) trivial rfl
instance:IntC prog 246 .u64:=⟨underlying246⟩
theorem Ano (fid:FuncId) (caps:List Value) (A:List Pc) (hA:A.all (fun p=>!p.mu)=true) (xs:List Iw) (a:Option Addr) (c:Nat) (F:List Nat) (tv:Value) (f:Iw→Int) (hm:∀i j (_:i≤j) (hj:j < xs.length),f xs[j] < 0→f (xs[i]'GJ) < 0) (hb:Qi prog fid=true) (hl:xs.length≤1000000)
  (hp:∀x∈xs,∀w,O2 A w→Calls prog fid ([.agg #[.int .i64 x.Af,.int .i64 x.Cg],tv]++caps).toArray w fun e w'=>e=.returned (.int .i64 (f x))∧Below w.heap.size w w') :
  Fn prog 326 [.slice a xs.length c,tv,.func (.func fid) #[] caps.toArray] (.sl Bi (.slice a xs.length c) xs F::A) [] (fun (_:Unit)=>True) (fun _=>.tuple #[.int .i64 ((xs.takeWhile fun x=>decide (f x < 0)).length:Nat),.bool (Ay9 f xs[(xs.takeWhile fun x=>decide (f x < 0)).length]?)]) (fun _=>[]):=by
 refine enter func326 rfl ntmps326 (fun w0=>?_) rfl HD .nil;refine go ?_;intros;refine Ev [0,1,2,6,7,8] (fun s:Nat × Nat=>[(9,.int .i64 (s.1:Nat)),(10,.int .i64 (s.2:Nat))]) (fun s=>s.1≤s.2∧s.2≤xs.length∧(∀j (_:j < s.1) (h:j < xs.length),f xs[j] < 0)∧(∀j (_:s.2≤j) (h:j < xs.length),¬f xs[j] < 0)) (fun s=>s.2 - s.1) (0,xs.length) ⟨Nat.zero_le _,Nat.le_refl _,fun j h=>by omega,fun j h1 h2=>by omega⟩ fun s hs=>?_;obtain ⟨i,j⟩:=s;obtain ⟨h1,h2,h3,h4⟩:=hs;dsimp only at h1 h2 h3 h4 ⊢;refine go ?_;intros;refine Be rfl (fun h5=>?_) (fun h5=>?_)
 ·have hh:(i+j) / 2 < xs.length:=by omega
  have e2:((i:Int)+(j:Int)) / 2=(((i+j) / 2:Nat):Int):=by omega
  refine go ?_;intros;apply wO;apply oc;rfl;exact Apm rfl GJ GJ;refine go ?_;intros;apply wO;apply oc;rfl;exact Akn rfl;rw [e2];apply wO;apply oc;rfl;exact Agq rfl GJ GJ;generalize hq:(i+j) / 2=q at hh;refine go ?_;intros;refine V1 (xs:=xs) q ?_;rintro hi b o e;rw [e];refine go ?_;intros;apply wO;refine Ad3 rfl rfl hb Tw ?_;refine cb (fun w st=>hp xs[q] (List.getElem_mem hh) w (fun p hp=>st.on p IR)) ?_;refine go ?_;intros;refine Be rfl (fun h6=>?_) (fun h6=>?_)
  ·exact DE
  ·exact DG
 ·have hij:i=j:=by omega
  subst hij;have hk:(xs.takeWhile fun x=>decide (f x < 0)).length=i:=W4 h2 (fun j hj h=>decide_eq_true (h3 j hj h)) (fun h=>decide_eq_false (h4 i (Nat.le_refl _) h));rw [hk];refine go ?_;intros;refine Dj rfl rfl (fun h6=>?_) (fun h6=>?_)
  ·have hh:i < xs.length:=by omega
   rw [List.getElem?_eq_getElem hh];refine go ?_;intros;refine V1 (xs:=xs) i ?_;exact DF
  ·rw [List.getElem?_eq_none GJ];exact AB
theorem Ael {W:Az} {p:Av} (hg:Dv W=true):(Dr W p).1.data.size≤maxLen:=by
 unfold Dr
 split
 ·rename_i h;unfold J8 at h;simp only [Bool.and_eq_true] at h;have hk:=Adz h.2;show (Abg W p.Af).size≤maxLen;rw [Xg hk];have:=List.all_eq_true.1 (Dz.1 hg).2.2.2 _ (List.getElem_mem hk);unfold P9 at this;simp only [Bool.and_eq_true,decide_eq_true_eq] at this;unfold maxLen;omega
 ·decide
theorem Atl {t n:Int} {hs:List Iw} (hser:∀h∈hs,B9 h.Af=true) (hn:0≤n∧n≤65535):(hs.takeWhile fun x=>decide (gp t x.Af - gp t n < 0)).length=Fm t hs n ∧
  Ay9 (fun x:Iw=>gp t x.Af - gp t n) hs[(hs.takeWhile fun x=>decide (gp t x.Af - gp t n < 0)).length]?=N2 t hs n:=by
 have e:(fun x:Iw=>decide (gp t x.Af - gp t n < 0))=fun h=>decide (gp t h.Af < gp t n):=by
  funext x;rw [decide_eq_decide];omega
 have e1:(hs.takeWhile fun x=>decide (gp t x.Af - gp t n < 0)).length=Fm t hs n:=by unfold Fm;rw [e]
 refine ⟨e1,?_⟩;rw [e1];unfold N2;cases hq:hs[Fm t hs n]? with
 | none=>rfl
 | some z =>
  show decide (gp t z.Af - gp t n=0)=decide (z.Af=n);rw [decide_eq_decide];have hz:=Bb.1 (hser z (List.mem_of_getElem? hq));exact ⟨fun h=>Avg (t:=t) hz hn GJ,fun h=>by rw [h];omega⟩
theorem Bd1 (h:Iw) (n t:Int) (gb g o:Nat) (v1 v2 v3 v4 v5:Value) (t0:0≤t) (t1:t≤65535) (n0:0≤n) (n1:n≤65535) (m0:0≤h.Af) (m1:h.Af≤65535) :
  Fn prog 327 [.agg #[.int .i64 h.Af,.int .i64 h.Cg],.int .i64 n,Hm gb 0 0] [.cel gb 0 [Hm g o 0],.cel g o [.int .i64 t,v1,v2,v3,v4,v5]] [] (fun (_:Unit)=>True) (fun _=>.int .i64 (gp t h.Af - gp t n)) (fun _=>[]):=by
 have b1:=Ky t h.Af;have b2:=Ky t n;refine enter func327 rfl ntmps327 fun w0=>?_;refine go ?_;intros;refine At [0,1,2] [] ?_;refine Dk 0 1 2 3 ?_;refine Dk 4 5 6 8 ?_;refine Dk 9 10 11 12 ?_;refine dt 13 ?_;refine dN 7 ?_;refine oC ?_;refine ce (fun w s=>Om _ _ _ GJ GJ GJ GJ) ?_;refine dk ?_;refine dN 14 ?_;refine oC ?_;refine ce (fun w s=>Om _ _ _ GJ GJ GJ GJ) ?_;refine dk ?_;refine Dy 15 16 ?_;exact CT
theorem An2 (W:Az) (hs:List Iw) (n:Int) (g t o:Nat) (A B:List Value) (a a2:Option Addr) (c c2:Nat) (cl q:Int) (F2:List Nat) (t0:0≤W.Ao) (t1:W.Ao≤65535) (n0:0≤n) (n1:n≤65535) (hser:∀h∈hs,B9 h.Af=true) (hsr:srt W.Ao hs) (hl:hs.length≤1000000) :
  Fn prog 286 [Hm g o 0,.int .i64 n] [] [.row g t o A [.int .i64 W.Ao,.int .i64 W.size,.slice a W.Ak.length c,.int .i64 cl,.int .i64 q,.slice a2 hs.length c2] B,.ow Bi 156 (.slice a2 hs.length c2) hs F2] (fun (_:Unit)=>True) (fun _=>.tuple #[.int .i64 (Fm W.Ao hs n:Nat),.bool (N2 W.Ao hs n)]) (fun _=>[.row g t o A [.int .i64 W.Ao,.int .i64 W.size,.slice a W.Ak.length c,.int .i64 cl,.int .i64 q,.slice a2 hs.length c2] B,.ow Bi 156 (.slice a2 hs.length c2) hs F2]):=by
 have hs1:=Atl (t:=W.Ao) hser ⟨n0,n1⟩;refine enter func286 rfl ntmps286 fun w0=>?_;refine go ?_;intros;rename_i gb;refine cb (fun w st=>by
  have r1:=st.get (p:=.row gb 204 0 [] [Hm g o 0] []) GL;have r2:=st.get (p:=.row g t o A [.int .i64 W.Ao,.int .i64 W.size,.slice a W.Ak.length c,.int .i64 cl,.int .i64 q,.slice a2 hs.length c2] B) GL;obtain ⟨Fw, -,hw⟩:=(st.get (p:=.ow Bi 156 (.slice a2 hs.length c2) hs F2) GL).2.read
  refine (Ano 327 [Hm gb 0 0] [.cel gb 0 [Hm g o 0],.cel g o [.int .i64 W.Ao,.int .i64 W.size,.slice a W.Ak.length c,.int .i64 cl,.int .i64 q,.slice a2 hs.length c2]] rfl hs a2 c2 Fw (.int .i64 n) (fun h=>gp W.Ao h.Af - gp W.Ao n) (fun i j hij hj h=>?_) GK hl fun x hx w' hA=>?_).val w ?_
  ·rcases Nat.lt_or_eq_of_le hij with h2|rfl
   ·have:=List.pairwise_iff_getElem.1 hsr i j GJ hj h2;omega
   ·exact h
  ·obtain ⟨m0,m1⟩:=Bb.1 (hser x hx);exact (Bd1 x n W.Ao gb g o _ _ _ _ _ t0 t1 n0 n1 m0 m1).val w' hA
  ·intro p hp;simp only [List.mem_cons,List.not_mem_nil,or_false] at hp;rcases hp with rfl|rfl|rfl
   ·exact ⟨GM,hw⟩
   ·exact ⟨GL,Hz r1⟩
   ·exact ⟨GL,Hz r2⟩) ?_
 rw [hs1.2];rw [hs1.1];exact AB
structure ReS where
 a:Option Addr
 c:Nat
 a2:Option Addr
 c2:Nat
 F:List Nat
 ae:Option Addr
 ce:Nat
 Fe:List Nat
theorem Aej (W:Az) (hs:List Iw) (p:Av) (g t o:Nat) (A B:List Value) (a a2:Option Addr) (c c2:Nat) (cl q:Int) (F F2:List Nat) (hg:Ch ⟨W,cl,q,hs⟩=true) (n0:0≤p.Af) (n1:p.Af≤65535) (hps:p.data.size≤maxLen) :
  Fn prog 231 [Hm g o 0,.agg #[.int .i64 p.Ct,.int .i64 p.Af,.int .i64 p.Ao,.int .i64 p.Ff,.string p.data]] [] [.row g t o A [.int .i64 W.Ao,.int .i64 W.size,.slice a W.Ak.length c,.int .i64 cl,.int .i64 q,.slice a2 hs.length c2] B,.ow Bi 156 (.slice a2 hs.length c2) hs F2,.ow A8 9 (.slice a W.Ak.length c) W.Ak F] (fun (_:ReS)=>True)
   (fun z=>.slice z.ae (M8 ⟨W,cl,q,hs⟩ p).length z.ce) (fun z=>[.row g t o A [.int .i64 W.Ao,.int .i64 W.size,.slice a W.Ak.length c,.int .i64 cl,.int .i64 q,.slice z.a2 (L0 ⟨W,cl,q,hs⟩ p.Af).holds.length z.c2] B,.ow Bi 156 (.slice z.a2 (L0 ⟨W,cl,q,hs⟩ p.Af).holds.length z.c2) (L0 ⟨W,cl,q,hs⟩ p.Af).holds z.F,.ow A8 9 (.slice a W.Ak.length c) W.Ak F,.ow Aj 159 (.slice z.ae (M8 ⟨W,cl,q,hs⟩ p).length z.ce) (M8 ⟨W,cl,q,hs⟩ p) z.Fe]):=by
 obtain ⟨gw,hl,t0,t1,k0,k1,hm,hn,hu,hbb⟩:=Kx hg;have hsr:=(Ez.1 hg).2.2.2.2;dsimp only at gw hl t0 t1 k0 k1 hm hn hu hbb hsr;have hl2:hs.length≤1000000:=by omega
 have hW:Dv W=true:=gw;refine enter func231 rfl ntmps231 fun w0=>?_;cases hb:Ik W p.Af
 ·have e1:L0 ⟨W,cl,q,hs⟩ p.Af=⟨W,cl,q,hs⟩:=by unfold L0;dsimp only;rw [hb];rfl
  have e2:M8 ⟨W,cl,q,hs⟩ p=[Q4 W]:=by unfold M8;dsimp only;rw [hb];rfl
  rw [e1,e2];refine go ?_;intros;refine At [0,1] [] ?_;refine Dk 0 1 2 3 ?_;refine Dy 4 5 ?_;refine dN 6 ?_;refine oC ?_;refine cb (fun w st=>by obtain ⟨Fw, -,hw⟩:=(st.get (p:=.ow A8 9 (.slice a W.Ak.length c) W.Ak F) GL).2.read;exact (Wf W p.Af (.agg #[.int .i64 W.Ao,.int .i64 W.size,.slice a W.Ak.length c]) Fw t0 t1 n0 n1).val w (I9 ⟨_,rfl,_,rfl,hw⟩)) ?_;rw [hb];refine dk ?_;refine dt 7 ?_;refine dd ?_;refine go ?_;intros;refine cf (Amw W.Ao W.size a W.Ak.length c t0 t1 GJ) fun _ _=>?_;refine Ar ?_;refine go ?_;intros
  refine Ic (xs:=[Q4 W]) (C8 _ IK) ?_ GL;refine ret ⟨a,c,a2,c2,F2,_,_,_⟩ trivial rfl
 refine go ?_;intros;refine At [0,1] [] ?_;refine Dk 0 1 2 3 ?_;refine Dy 4 5 ?_;refine dN 6 ?_;refine oC ?_;refine cb (fun w st=>by obtain ⟨Fw, -,hw⟩:=(st.get (p:=.ow A8 9 (.slice a W.Ak.length c) W.Ak F) GL).2.read;exact (Wf W p.Af (.agg #[.int .i64 W.Ao,.int .i64 W.size,.slice a W.Ak.length c]) Fw t0 t1 n0 n1).val w (I9 ⟨_,rfl,_,rfl,hw⟩)) ?_;rw [hb];refine dk ?_;refine dt 7 ?_;refine dd ?_;refine go ?_;intros;refine At [0,1] [] ?_;refine Dk 0 1 2 3 ?_;refine Dk 4 5 6 7 ?_;refine Dy 8 9 ?_;refine dt 10 ?_;refine dN 11 ?_;refine oC ?_
 refine cb (fun w _=>H5 _ _ _ _ _ w t0 t1 GJ) ?_;refine dk ?_;refine dt 12 ?_;refine dN 13 ?_;apply Km;rfl;rfl;rfl;rfl;exact Ke;exact Jy;intro _;refine dk ?_;refine dt 14 ?_;refine dd ?_;refine M7 ?_;intros;refine Ic (xs:=[Zs W p.Af]) (C8 _ IK) ?_ GL;refine go ?_;intros;refine cf (An2 W hs p.Af g t o A B a a2 c c2 cl q F2 t0 t1 n0 n1 hn hsr hl2) fun _ _=>?_;refine Ar ?_;cases ht:N2 W.Ao hs p.Af
 ·have e1:L0 ⟨W,cl,q,hs⟩ p.Af=⟨W,cl,q,No hs (Fm W.Ao hs p.Af) ⟨p.Af,cl+3⟩⟩:=by unfold L0;dsimp only;rw [hb,ht];rfl
  have e2:M8 ⟨W,cl,q,hs⟩ p=[Zs W p.Af]++[(Dr W p).1]:=by unfold M8;dsimp only;rw [hb,ht];rfl
  rw [e1,e2];refine go ?_;intros;refine At [0,3] [18] ?_;refine Dk 0 1 2 3 ?_;refine Dk 4 5 6 7 ?_;refine Dk 8 9 10 11 ?_;refine Dy 12 13 ?_;refine dN 14 ?_;apply Km;rfl;rfl;rfl;rfl;exact Ke;exact Jy;intro _;refine dk ?_;refine dN 15 ?_;refine oC ?_;refine cf (Aq0 hs ⟨p.Af,cl+3⟩ (Fm W.Ao hs p.Af) a2 c2 _ F2 (Xf _ _ _) hl2) fun z _=>?_;refine Ar ?_;refine dk ?_;refine Dy 16 17 ?_;refine dN 18 ?_;refine oS ?_;refine Rn ?_;refine dd ?_;refine go ?_;intros;refine At [1,3] [] ?_;refine Dk 0 1 2 3 ?_;refine dt 4 ?_;refine dM 5 9 ?_ ?_
  ·refine oC ?_;refine cb (fun w st=>by obtain ⟨Fw, -,hw⟩:=(st.get (p:=.ow A8 9 (.slice a W.Ak.length c) W.Ak F) GL).2.read;exact (Aec W p (.agg #[.int .i64 W.Ao,.int .i64 W.size,.slice a W.Ak.length c]) Fw hps).val w (I9 ⟨_,rfl,_,rfl,hw⟩)) ?_;refine dk ?_;refine Dy 6 7 ?_;refine dt 8 ?_;refine dN 9 ?_;apply Co;rfl;intro _;refine dk ?_;exact CF
  ·apply Co;rfl;intro _;refine dk ?_;refine dN 5 ?_;refine oC ?_;refine cb (fun w st=>by obtain ⟨Fw, -,hw⟩:=(st.get (p:=.ow A8 9 (.slice a W.Ak.length c) W.Ak F) GL).2.read;exact (Aec W p (.agg #[.int .i64 W.Ao,.int .i64 W.size,.slice a W.Ak.length c]) Fw hps).val w (I9 ⟨_,rfl,_,rfl,hw⟩)) ?_;refine dk ?_;refine Dy 6 7 ?_;refine dt 8 ?_;exact CF
 ·have e1:L0 ⟨W,cl,q,hs⟩ p.Af=⟨W,cl,q,hs⟩:=by unfold L0;dsimp only;rw [hb,ht];rfl
  have e2:M8 ⟨W,cl,q,hs⟩ p=[Zs W p.Af]:=by unfold M8;dsimp only;rw [hb,ht];rfl
  rw [e1,e2];refine go ?_;intros;refine ret ⟨a,c,a2,c2,F2,_,_,_⟩ trivial rfl
theorem Bco (x:Cr) (n:Int):(L0 x n).Ab=x.Ab:=by unfold L0;split <;> rfl
theorem Bcm (x:Cr) (n:Int):(L0 x n).Ai=x.Ai:=by unfold L0;split <;> rfl
theorem Bcn (x:Cr) (n:Int):(L0 x n).quiet=x.quiet:=by unfold L0;split <;> rfl
theorem Aqg {n:Dt} {i k:Nat} (hg:Tn n.Al.Ad) (hi:i < n.Al.Ad.length) (h0:i≠0) (h:X0 n i=k):n.Al.Ad[i]=((k:Nat):Int)∧k < i∧Ed n.Al.Ad ((k:Nat):Int)=false:=by
 have h1:=hg.p i hi GJ;have e:n.Al.Ad.getD i 0=n.Al.Ad[i]:=Pa hi 0;unfold X0 at h;rw [e] at h;have e2:n.Al.Ad[i]=((k:Nat):Int):=by omega
 refine ⟨e2,GJ,?_⟩;unfold Ed;rw [←e2,decide_eq_true (List.getElem_mem hi)];rfl
theorem Ax1 (n:Dt) (i:Nat) (p:Av) (g:Nat) (a1:Option Addr) (c1:Nat) (F1:List Nat) (a2:Option Addr) (c2:Nat) (F2:List Nat) (a3:Option Addr) (c3:Nat) (F3:List Nat) (a4:Option Addr) (c4:Nat) (F4:List Nat) (a5:Option Addr) (c5:Nat) (F5:List Nat) (a6:Option Addr) (c6:Nat) (F6:List Nat) (a7:Option Addr) (c7:Nat) (F7:List Nat) (hl:Lc n=true) (h0:i≠0) (hi:i < n.Al.Ad.length) (h8:Tn n.Al.Ad) (hsrc:Ch n.Aa=true) (he:∀k,k≠0→k < n.Al.Ad.length→Ed n.Al.Ad (k:Nat)=false→Ba (O9 n k)=true) (hp:By p=true) (hps:p.data.size≤maxLen) :
  Fn prog 170 [Hm g 0 0,.int .i64 (i:Nat),.agg #[.int .i64 (p).Ct,.int .i64 (p).Af,.int .i64 (p).Ao,.int .i64 (p).Ff,.string (p).data]] [] [.row g 48 0 [] [.slice a1 n.Al.Ad.length c1,.int .i64 n.Aa.Ab.Ao,.int .i64 n.Aa.Ab.size,.slice a2 n.Aa.Ab.Ak.length c2,.int .i64 n.Aa.Ai,.int .i64 n.Aa.quiet,.slice a3 n.Aa.holds.length c3,.slice a4 n.Ae.length c4,.slice a5 n.Ac.length c5,.slice a6 n.down.length c6,.slice a7 n.up.length c7] [],.ow Bc 3 (.slice a1 n.Al.Ad.length c1) n.Al.Ad F1,.ow A8 9 (.slice a2 n.Aa.Ab.Ak.length c2) n.Aa.Ab.Ak F2,.ow Bi 156 (.slice a3 n.Aa.holds.length c3) n.Aa.holds F3,.ow Bj 110 (.slice a4 n.Ae.length c4) n.Ae F4,.ow Bg 117 (.slice a5 n.Ac.length c5) n.Ac F5,.ow (Fv Aj 159) 135 (.slice a6 n.down.length c6) n.down F6,.ow (Fv Aj 159) 135 (.slice a7 n.up.length c7) n.up F7] (fun (_:NV)=>True) (fun _=>.tuple #[]) (fun z=>[.row g 48 0 [] [.slice z.a1 n.Al.Ad.length z.c1,.int .i64 (Oy n i p).Aa.Ab.Ao,.int .i64 (Oy n i p).Aa.Ab.size,.slice z.a2 (Oy n i p).Aa.Ab.Ak.length z.c2,.int .i64 (Oy n i p).Aa.Ai,.int .i64 (Oy n i p).Aa.quiet,.slice z.a3 (Oy n i p).Aa.holds.length z.c3,.slice z.a4 n.Ae.length z.c4,.slice z.a5 n.Ac.length z.c5,.slice z.a6 n.down.length z.c6,.slice z.a7 n.up.length z.c7] [],.ow Bc 3 (.slice z.a1 n.Al.Ad.length z.c1) (Oy n i p).Al.Ad z.F1,.ow A8 9 (.slice z.a2 (Oy n i p).Aa.Ab.Ak.length z.c2) (Oy n i p).Aa.Ab.Ak z.F2,.ow Bi 156 (.slice z.a3 (Oy n i p).Aa.holds.length z.c3) (Oy n i p).Aa.holds z.F3,.ow Bj 110 (.slice z.a4 n.Ae.length z.c4) (Oy n i p).Ae z.F4,.ow Bg 117 (.slice z.a5 n.Ac.length z.c5) (Oy n i p).Ac z.F5,.ow (Fv Aj 159) 135 (.slice z.a6 n.down.length z.c6) (Oy n i p).down z.F6,.ow (Fv Aj 159) 135 (.slice z.a7 n.up.length z.c7) (Oy n i p).up z.F7]):=by
 obtain ⟨q1,q2,q3,q4⟩:=Bk.1 hl;have hn8:=h8.n1;obtain ⟨n0,n1⟩:=Jz hp;have hone:∀x∈[((i:Nat):Int)],0≤x∧x.toNat < n.down.length:=fun x hx=>by
  rw [List.mem_singleton] at hx;subst hx;omega
 obtain ⟨k,hk⟩:∃k,X0 n i=k:=⟨_,rfl⟩;obtain ⟨e1,e2,e3⟩:=Aqg h8 hi h0 hk;refine enter func170 rfl ntmps170 fun w0=>?_;refine R5 (xs:=n.Al.Ad) (m:=1) Ea i ?_ GP rfl hi;rintro _ gp A0 cs B0 rfl rfl hr hH;obtain ⟨rfl, -⟩:=hr w0;rw [e1];refine go ?_;intros;refine Qv ((k:Nat):Int) hH (fun w=>⟨rfl,rfl⟩) ?_;rw [show n.Al.Ad.set i ((k:Nat):Int)=n.Al.Ad by rw [←e1,List.set_getElem_self]];refine Be rfl (fun h5=>?_) (fun h5=>?_)
 ·obtain rfl:k=0:=by omega
  rw [show Oy n i p=⟨n.Al,L0 n.Aa p.Af,n.Ae,n.Ac,Dg n.down [((i:Nat):Int)] (M8 n.Aa p),n.up⟩ by unfold Oy;rw [if_pos hk]];dsimp only;rw [Bco,Bcm,Bcn];refine go ?_;intros;refine Aqq [.slice (some ⟨gp,0,none⟩) n.Al.Ad.length c1] [.int .i64 n.Aa.Ab.Ao,.int .i64 n.Aa.Ab.size,.slice a2 n.Aa.Ab.Ak.length c2,.int .i64 n.Aa.Ai,.int .i64 n.Aa.quiet,.slice a3 n.Aa.holds.length c3] [.slice a4 n.Ae.length c4,.slice a5 n.Ac.length c5,.slice a6 n.down.length c6,.slice a7 n.up.length c7] ?_;refine At [2] [] ?_;refine Dk 0 1 3 4 ?_;refine Dy 5 6 ?_;refine dM 2 7 ?_ ?_
  ·apply Km;rfl;rfl;rfl;rfl;exact Ke;exact Jy;intro _;refine Ic (E:=Bc) (xs:=[((i:Nat):Int)]) (Pp _) ?_ GL;refine A4 (E:=Bc) (xs:=[((i:Nat):Int)]) fun Fo=>?_;refine dk ?_;refine dN 7 ?_;refine oC ?_;refine cf (Aej n.Aa.Ab n.Aa.holds p g 48 (0+1) _ _ a2 a3 c2 c3 n.Aa.Ai n.Aa.quiet F2 F3 hsrc n0 n1 hps) fun z _=>?_;refine Ar ?_
   refine Age [.slice (some ⟨gp,0,none⟩) n.Al.Ad.length c1] [.int .i64 n.Aa.Ab.Ao,.int .i64 n.Aa.Ab.size,.slice a2 n.Aa.Ab.Ak.length c2,.int .i64 n.Aa.Ai,.int .i64 n.Aa.quiet,.slice z.a2 (L0 n.Aa p.Af).holds.length z.c2] [.slice a4 n.Ae.length c4,.slice a5 n.Ac.length c5,.slice a6 n.down.length c6,.slice a7 n.up.length c7] ?_;refine A4 (E:=Aj) (xs:=M8 n.Aa p) fun Fq=>?_;refine dk ?_;refine dN 8 ?_;refine oC ?_;refine cf (Yr n.down [((i:Nat):Int)] (M8 n.Aa p) g _ _ _ _ _ _ _ _ _ _ a6 _ c6 F6 _ _ Fo _ _ Fq rfl hone) fun J6 _=>?_;refine Ar ?_;refine dk ?_;refine dd ?_;refine go ?_;intros
   exact GE
  ·refine oC ?_;refine cf (Aej n.Aa.Ab n.Aa.holds p g 48 (0+1) _ _ a2 a3 c2 c3 n.Aa.Ai n.Aa.quiet F2 F3 hsrc n0 n1 hps) fun z _=>?_;refine Ar ?_;refine Age [.slice (some ⟨gp,0,none⟩) n.Al.Ad.length c1] [.int .i64 n.Aa.Ab.Ao,.int .i64 n.Aa.Ab.size,.slice a2 n.Aa.Ab.Ak.length c2,.int .i64 n.Aa.Ai,.int .i64 n.Aa.quiet,.slice z.a2 (L0 n.Aa p.Af).holds.length z.c2] [.slice a4 n.Ae.length c4,.slice a5 n.Ac.length c5,.slice a6 n.down.length c6,.slice a7 n.up.length c7] ?_;refine A4 (E:=Aj) (xs:=M8 n.Aa p) fun Fq=>?_;refine dk ?_;refine dN 2 ?_;apply Km;rfl;rfl;rfl;rfl;exact Ke;exact Jy;intro _
   refine Ic (E:=Bc) (xs:=[((i:Nat):Int)]) (Pp _) ?_ GL;refine A4 (E:=Bc) (xs:=[((i:Nat):Int)]) fun Fo=>?_;refine dk ?_;refine dN 8 ?_;refine oC ?_;refine cf (Yr n.down [((i:Nat):Int)] (M8 n.Aa p) g _ _ _ _ _ _ _ _ _ _ a6 _ c6 F6 _ _ Fo _ _ Fq rfl hone) fun J6 _=>?_;refine Ar ?_;refine dk ?_;refine dd ?_;refine go ?_;intros;exact GE
 have h6:k≠0:=by omega
 have hkl:k < n.Ae.length:=by omega
 have hku:k < n.up.length:=by omega
 have hge:Ba n.Ae[k]=true:=I5 hkl▸he k h6 GJ e3;have hel:=(Gp.1 hge).2.1;obtain ⟨hc0,hc1⟩:=Nr.1 (Gp.1 hge).1;rw [show Oy n i p=⟨n.Al,n.Aa,n.Ae.set k (N1 n.Ae[k] p.Af ((i:Nat):Int)),n.Ac,Dg n.down [((i:Nat):Int)] [Yq p],if Abb n.Ae[k] p.Af then n.up.modify k fun q=>Gw q [p] else n.up⟩ by unfold Oy;rw [if_neg GJ,hk,I5 hkl]];refine go ?_;intros;refine Aba (xs:=n.Ae) (m:=2) k ?_ rfl hkl;rintro _ g5 A5 cs B5 k1 k2 J1 Ji J2 rfl - hc5 hH5;refine Hl ?_;rintro b1 d1 G1 ev l1;obtain rfl:cs=[.int .i64 n.Ae[k].Ai,.slice b1 n.Ae[k].Ah.length d1]:=by simpa using ev
 refine At [5,6] [] ?_;refine Dk 0 1 2 3 ?_;refine Dk 4 5 6 7 ?_;refine dt 8 ?_;refine dN 9 ?_;refine oC ?_;refine cf (Ank n.Ae[k] p.Af ((i:Nat):Int) g5 110 (0+k * 2) A5 B5 b1 d1 G1 GJ (fun x hx=>⟨by have:=Ol hge hx;omega,Ald hge hx⟩) GJ GJ) fun s _=>?_;refine Ar ?_;refine dk ?_;refine dt 10 ?_;refine dd ?_;refine Gk (N1 n.Ae[k] p.Af ((i:Nat):Int)) ?_;refine Vd _ hH5 rfl fun J5=>?_;refine M7 ?_;intros;refine Ic (E:=Bc) (xs:=[((i:Nat):Int)]) (Pp _) ?_ GL;refine A4 (E:=Bc) (xs:=[((i:Nat):Int)]) fun Fo=>?_
 refine Ic (E:=Aj) (xs:=[Yq p]) (C8 (Yq p) (Nat.zero_le _)) ?_ GL;refine A4 (E:=Aj) (xs:=[Yq p]) fun Fp=>?_;refine go ?_;intros;refine cf (Yr n.down [((i:Nat):Int)] [Yq p] g _ _ _ _ _ _ _ _ _ _ a6 _ c6 F6 _ _ Fo _ _ Fp rfl hone) fun J6 _=>?_;refine Ar ?_;cases hf:Abb n.Ae[k] p.Af
 ·rw [if_neg GM];refine go ?_;intros;refine Vc ?_;refine ret (⟨some ⟨gp,0,none⟩,c1,[gp],a2,c2,F2,a3,c3,F3,_,c4,J5,a5,c5,F5,a6,c6,J6,a7,c7,F7⟩:NV) trivial rfl
 ·rw [if_pos rfl,show (n.up.modify k fun q=>Gw q [p])=n.up.set k (Ue n.up[k] p) by rw [Hq hku,Awk]];refine go ?_;intros;refine At [0,6] [] ?_;refine Dk 0 1 2 3 ?_;refine Dy 4 5 ?_;refine dN 6 ?_;refine oC ?_;refine cf (Abu n.up k p a7 _ c7 F7 rfl hku hps) fun J7 _=>?_;refine Ar ?_;refine dk ?_;refine dd ?_;refine go ?_;intros;refine Vc ?_;refine ret (⟨some ⟨gp,0,none⟩,c1,[gp],a2,c2,F2,a3,c3,F3,_,c4,J5,a5,c5,F5,a6,c6,J6,a7,c7,J7⟩:NV) trivial rfl
def Av3 (es:List Ja) (ck:Int):List Ja:=es.filter fun x=>!decide (x.Cg≤ck)
theorem Au4 (x:Ja) (ck:Int) (gb g o:Nat) (u q:Value) (G:List Nat):Fn prog 224 [u,Hm gb 0 0] [.isv Gb u x G,.cel gb 0 [Hm g o 0],.cel g o [.int .i64 ck,q]] [] (fun (_:Unit)=>True) (fun _=>.bool (decide (x.Cg≤ck))) (fun _=>[]):=by
 refine enter func224 rfl ntmps224 fun w0=>?_;refine Aih ?_;rintro a1 c1 F1 rfl l1;refine go ?_;intros;refine At [0,3,4] [] ?_;refine Dk 0 1 2 3 ?_;refine Dk 4 5 6 7 ?_;exact CT
theorem Au5 (es:List Ja) (ck:Int) (gb tb g t o:Nat) (A B:List Value) (a:Option Addr) (c:Nat) (F:List Nat) :
  Fn prog 223 [.slice a es.length c,.func (.func 224) #[] #[Hm gb 0 0]] [] [.ow Ej 162 (.slice a es.length c) es F,.row gb tb 0 [] [Hm g o 0] [],.row g t o A [.int .i64 ck,.slice a es.length c] B] (fun (_:Option Addr × Nat × List Nat)=>True)
   (fun z=>.slice z.1 (Av3 es ck).length z.2.1) (fun z=>[.ow Ej 162 (.slice z.1 (Av3 es ck).length z.2.1) (Av3 es ck) z.2.2,.row gb tb 0 [] [Hm g o 0] [],.row g t o A [.int .i64 ck,.slice a es.length c] B]):=by
 refine An4 rfl fun w ⟨hnd,ho⟩ _ hk=>?_;refine (Aa0 _ (Uo GK) #[Hm gb 0 0] _ es F (fun x=>decide (x.Cg≤ck)) w ho hnd fun k hk2 wr u G hK hu=>?_).mono ?_
 ·have hr:=hk wr hK;have r1:=hr (.row gb tb 0 [] [Hm g o 0] []) GL;have r2:=hr (.row g t o A [.int .i64 ck,.slice a es.length c] B) GL;refine (Au4 es[k] ck gb g o u (.slice a es.length c) G).val wr ?_;intro p hp;simp only [List.mem_cons,List.not_mem_nil,or_false] at hp;rcases hp with rfl|rfl|rfl
  ·exact hu
  ·exact ⟨GL,Hz r1⟩
  ·exact ⟨GL,Hz r2⟩
 ·rintro e w' ⟨v',F',rfl,h1,h2,h3,h4⟩;exact CQ
theorem Ayg (e:Bl) (g t o:Nat) (A B:List Value) (a:Option Addr) (c:Nat) (F:List Nat) (h0:-1000000≤e.Ai) (h1:e.Ai≤1000000) :
  Fn prog 164 [Hm g o 0] [] [.row g t o A [.int .i64 e.Ai,.slice a e.Ah.length c] B,.ow Ej 162 (.slice a e.Ah.length c) e.Ah F] (fun (_:Option Addr × Nat × List Nat)=>True)
   (fun _=>.tuple #[]) (fun z=>[.row g t o A [.int .i64 (E4 e).Ai,.slice z.1 (E4 e).Ah.length z.2.1] B,.ow Ej 162 (.slice z.1 (E4 e).Ah.length z.2.1) (E4 e).Ah z.2.2]):=by
 refine enter func164 rfl ntmps164 fun w0=>?_;refine go ?_;intros;refine At [0,1] [9] ?_;refine Dk 0 1 2 3 ?_;refine Dy 4 5 ?_;refine dN 6 ?_;refine oC ?_;refine cf (Au5 e.Ah (e.Ai+1) _ _ g t o A B a c F) fun z _=>?_;refine Ar ?_;refine dk ?_;refine Dy 7 8 ?_;refine dN 9 ?_;refine oS ?_;refine Rn ?_;refine dd ?_;refine Vc ?_;exact BL
theorem An7 {e:Bl} (h:Ba e=true) (hc:e.Ai < 9999):Ba (E4 e)=true:=by
 obtain ⟨h1,h2,h3,h4⟩:=Gp.1 h;have h5:=Nr.1 h1;unfold E4;refine Gp.2 ⟨Nr.2 ⟨by show 0≤e.Ai+1;omega,by show e.Ai+1≤9999;omega⟩,Nat.le_trans (List.length_filter_le _ _) h2,fun x hx=>?_,h4.filter _⟩;obtain ⟨hx1,hx2⟩:=List.mem_filter.1 hx;obtain ⟨a,b,c,d,f⟩:=Ot.1 (h3 x hx1);simp only [Bool.not_eq_true',decide_eq_false_iff_not] at hx2;exact Ot.2 ⟨a,b,c,by show e.Ai+1+1≤x.Cg;omega,by show x.Cg≤e.Ai+1+6;omega⟩
theorem Asx {k n t l:Int} {s:ByteArray} (hk:1≤k∧k≤5) (hn:B9 n=true) (ht:B9 t=true) (hl:B9 l=true) (hg:gp t l≤32767) (hs:P9 s=true) (he:s=⟨#[]⟩∨k≤2):By ⟨k,n,t,l,s⟩=true:=by
 unfold By Eu;simp only [Bool.and_eq_true,Bool.or_eq_true,decide_eq_true_eq];refine ⟨⟨⟨⟨⟨⟨hk,hn⟩,ht⟩,hl⟩,hs⟩,hg⟩,?_⟩;rcases he with h|h
 ·exact .inl (.inl h)
 ·by_cases h1:k=1
  ·exact .inl (.inr h1)
  ·exact .inr GJ
theorem Ad2:P9 ⟨#[]⟩=true:=by decide
theorem Ajx {x:Az} (h:Dv x=true):B9 x.Ao=true∧B9 (Lb x)=true∧gp x.Ao (Lb x)≤32767:=by
 obtain ⟨⟨t0,t1⟩,⟨s0,s1⟩,hl, -⟩:=Dz.1 h;refine ⟨Bb.2 ⟨t0,t1⟩,Un _ _,?_⟩;unfold Lb gp Ce;omega
theorem Aiw {x:Az} (h:Dv x=true):By (Q4 x)=true:=by
 obtain ⟨a,b,c⟩:=Ajx h;exact Asx GM a a b c Ad2 (.inl rfl)
theorem Apb {x:Az} {q:Int} (h:Dv x=true):∀p∈M4 x q,By p=true:=fun p hp=>by
 unfold M4 at hp
 split at hp
 ·simp at hp
 ·rw [List.mem_singleton] at hp;subst hp;exact Aiw h
theorem Auk {x:Az} {n:Int} (h:Dv x=true) (hn:B9 n=true) (hh:Ik x n=true):By (Ak1 x n)=true:=by
 obtain ⟨a,b,c⟩:=Ajx h;have hi:=(Dz.1 h).2.2.2;have hl:=Adz hh;exact Asx GM hn a b c (by rw [Xg hl];exact List.all_eq_true.1 hi _ (List.getElem_mem hl)) (.inr GM)
theorem Ahj {x:Az} {n:Int} (h:Dv x=true) (hn:B9 n=true):By (Zs x n)=true:=by
 obtain ⟨a,b,c⟩:=Ajx h;exact Asx GM hn a b c Ad2 (.inl rfl)
theorem Atc {x:Cr} {p:Av} (h:Dv x.Ab=true) (hp:By p=true) (hk:p.Ct=3):∀r∈M8 x p,By r=true:=fun r hr=>by
 have hn:=Bb.2 (Jz hp);unfold M8 at hr
 split at hr
 ·rename_i hh
  split at hr
  ·rw [List.mem_singleton] at hr;subst hr;exact Ahj h hn
  ·simp only [List.mem_cons,List.not_mem_nil,or_false] at hr;rcases hr with rfl|rfl
   ·exact Ahj h hn
   ·rw [show Dr x.Ab p=(Ak1 x.Ab p.Af,true) by unfold Dr J8;rw [h,hp,hh,decide_eq_true hk];rfl];exact Auk h hn hh
 ·rw [List.mem_singleton] at hr;subst hr;exact Aiw h
theorem As3 {x:Az} {s:ByteArray} (h:Dv x=true) (hs:P9 s=true):By (Dm x s)=true:=by
 obtain ⟨⟨t0,t1⟩,⟨s0,s1⟩,hl, -⟩:=Dz.1 h;have hr:=Rs t0 t1;have hrl:(Dd x).Ak.length≤6:=by
  unfold Dd
  split
  ·show (x.Ak.drop 1).length≤6;rw [List.length_drop];omega
  ·omega
 refine Asx GM (Un _ _) (Bb.2 hr) (Un _ _) ?_ hs (.inr GM);unfold gp Ce;omega
theorem Auu {p:Av} (h:By p=true):By (Yq p)=true:=by
 unfold By at h;simp only [Bool.and_eq_true,decide_eq_true_eq] at h;exact Asx GM h.1.1.1.1.1.2 h.1.1.1.1.2 h.1.1.1.2 h.1.2 Ad2 (.inl rfl)
theorem Ada {r:A9} (h:Lq r):∀p∈Ew r,By p=true∧p.Ct=3:=fun p hp=>by
 unfold Ew at hp;obtain ⟨k,hk,rfl⟩:=List.mem_map.1 hp;obtain ⟨q,hq,hs⟩:=List.mem_filterMap.1 hk;obtain ⟨-, -,q2, -⟩:=C9.1 h.q;have hn:=(Ei.1 (q2 q hq)).n;have hw:=Q8 h.w;have e:k=q.Af:=by
  unfold Pq at hs
  split at hs
  ·cases hs
  ·split at hs
   ·cases hs
   ·split at hs
    ·exact (Option.some.inj hs).symm
    ·cases hs
 subst e;have hx:=Bb.2 ⟨hw.n0,hw.n1⟩;exact ⟨Asx GM hn hx hx (by unfold gp;omega) Ad2 (.inl rfl),rfl⟩
theorem GN.ck {ck ck':Nat→Int} {n:Dt} (h:GN ck n) (he:∀i,i≠0→i < n.Al.Ad.length→ck i=ck' i):GN ck' n:=by
 obtain ⟨q1,q2,q3,q4⟩:=Bk.1 h.l;refine .mk' h.t h.s h.l fun i h1 h2 h3 h4=>?_;have r:=Nk.1 (h.a i h1 h2 h3 h4);exact ⟨r.hd,r.hu,r.hk,r.hz,fun e0 l=>by rw [←he i e0 GJ];exact r.hf e0 l,fun e0 l=>by rw [←he i e0 GJ];exact r.hn e0 l⟩
theorem Ad0 {l:List Int} (hg:Tn l) (i:Nat):∀x∈H3 l ((i:Nat):Int),x.toNat≠0:=fun x hx=>by have:=La hg hx;omega
theorem Ao9 {ck:Nat→Int} {n:Dt} {i:Nat} (h:GN ck n) (h0:i≠0) (hi:i < n.Al.Ad.length) (hc:ck i < 9999):GN (Ads ck i (ck i+1)) (M3 n i).1:=by
 obtain ⟨h1,h2,h3,h4,r⟩:=h.rn hi;obtain ⟨d0,d1⟩:1≤Ms i∧Ms i≤8:=by unfold Ms;omega
 unfold M3;cases hl:Ed n.Al.Ad ((i:Nat):Int)
 ·rw [if_neg GM];obtain ⟨he,e2,e3⟩:=r.hn h0 hl;have e:O9 n i=n.Ae[i]:=by unfold O9;rw [List.getD_eq_getElem?_getD,List.getElem?_eq_getElem h1];rfl
  have:=h.el h0 hl (An7 (e:=n.Ae[i]) he GJ);rw [show (E4 n.Ae[i]).Ai=ck i+1 by rw [←e2];rfl] at this;rw [e];exact this
 ·rw [if_pos rfl];obtain ⟨he,e2,e3⟩:=r.hf h0 hl;have e:Pl n i=n.Ac[i]:=by unfold Pl;rw [List.getD_eq_getElem?_getD,List.getElem?_eq_getElem h2];rfl
  have hg:=D9.1 e2;have ht:=Atp hg GJ d0 d1;have:=h.rc h0 hl (D9.2 ht);rw [show (Cy n.Ac[i] (Ms i)).Ai=ck i+1 by unfold Cy;split <;> (show n.Ac[i].Ai+1=_;rw [e3])] at this;rw [e];exact this.un i _ (fun e=>absurd e h0) fun q a b=>⟨Abw a fun p hp=>(Ada hg p hp).1,Aqi b fun p hp=>(Ada hg p hp).2⟩
theorem Agg (n:Dt) (i:Nat):(M3 n i).1.Al=n.Al∧(M3 n i).1.Aa=n.Aa:=by unfold M3;split <;> exact ⟨rfl,rfl⟩
def ckT (c:Int) (k:Nat):Nat→Int:=fun j=>if j≤k then c+1 else c
theorem Ox {n:Dt} (hg:Aw n=true) (hc:n.Aa.Ai < 9999):∀k,k+1≤n.Al.Ad.length→GN (ckT n.Aa.Ai k) (Bf n k).1∧(Bf n k).1.Al=n.Al∧(Bf n k).1.Aa=Mr n.Aa
 | 0,_=>by
  have h:=Ay.1 hg;have ht:=Gn h.t;refine ⟨?_,rfl,rfl⟩;have h2:=((h.src (Aru h.s hc)).sp (Apb (q:=n.Aa.quiet) (Ez.1 h.s).1) (Ad0 ht 0)).ck (ck':=ckT n.Aa.Ai 0) fun i h0 _=>by unfold ckT;rw [if_neg GJ]
  exact h2
 | k+1,hk=>by
  obtain ⟨h1,h2,h3⟩:=Ox hg hc k GJ;obtain ⟨t1,t2⟩:=Agg (Bf n k).1 (k+1);have e:ckT n.Aa.Ai k (k+1)=n.Aa.Ai:=by unfold ckT;rw [if_neg GJ]
  have:=Ao9 h1 (i:=k+1) GJ (by rw [h2];omega) (by rw [e];exact hc);refine ⟨this.ck fun i h0 hi=>?_,t1.trans h2,t2.trans h3⟩;rw [e];unfold Ads ckT;by_cases c1:i=k+1
  ·rw [if_pos c1,if_pos GJ]
  ·rw [if_neg c1];by_cases c2:i≤k
   ·rw [if_pos c2,if_pos GJ]
   ·rw [if_neg c2,if_neg GJ]
theorem Apa {n:Dt} (hg:Aw n=true) (hc:n.Aa.Ai < 9999):Aw (Et n).1=true:=by
 have h:=Ay.1 hg;have ht:=Gn h.t;have:=ht.n0;obtain ⟨h1,h2,h3⟩:=Ox hg hc (n.Al.Ad.length - 1) GJ;refine Ay.2 ?_;show GN (fun _=>(Bf n (n.Al.Ad.length - 1)).1.Aa.Ai) _;rw [h3];exact h1.ck fun i h0 hi=>by rw [h2] at hi;unfold ckT;rw [if_pos GJ];rfl
theorem Awy {g t o k:Nat} {A B X cs Y:List Value} (hk:X.length=k) {w:World}:(Pc.row g t (o+k) (A++X) cs (Y++B)).P w↔(Pc.row g t o A (X++cs++Y) B).P w:=by
 show ((A++X).length=o+k∧Ha w g t (A++X++cs++(Y++B)))↔(A.length=o∧Ha w g t (A++(X++cs++Y)++B));rw [List.length_append,hk];have e:A++X++cs++(Y++B)=A++(X++cs++Y)++B:=by simp [List.append_assoc]
 rw [e];exact ⟨fun h=>⟨GJ,h.2⟩,fun h=>⟨GJ,h.2⟩⟩
theorem Avi {p q:Pc} {R:List Pc} {w:World} (h:p.P w→q.P w) (hH:O2 (p::R) w):O2 (q::R) w:=fun x hx=>by
 rcases List.mem_cons.1 hx with rfl|hx
 ·exact h (hH p GL)
 ·exact hH x IX
theorem Aw7 {p q:Pc} {R:List Pc} (hm:p.mu=q.mu) (hF:p.F=q.F) (hS:Sq (p::R)):Sq (q::R):=⟨fun x hx hmu b hb=>hS.1 x hx (by rw [hm];exact hmu) b (by rw [hF];exact hb),hS.2⟩
theorem Avc {P:Program} {f:FuncId} {args:List Value} {A M':List Pc} {g t o k:Nat} {A' B X cs Y L:List Value} {σ:Type} {C:σ→Prop} {v:σ→Value} {cs' L':σ→List Value} {N':σ→List Pc}
  (h:Fn P f args A (.row g t (o+k) (A'++X) cs (Y++B)::M') C v (fun s=>.row g t (o+k) (A'++X) (cs' s) (Y++B)::N' s)) (hk:X.length=k) (hL:L=X++cs++Y) (hL':∀s,L' s=X++cs' s++Y) :
  Fn P f args A (.row g t o A' L B::M') C v (fun s=>.row g t o A' (L' s) B::N' s):=fun w hH hS=>by
 subst hL;refine (h w (Avi (Awy hk).2 hH) (Aw7 rfl rfl hS)).mono ?_;rintro e w' ⟨s,hC,he,h1,h2,h3,h4⟩;refine ⟨s,hC,he,?_,Aw7 rfl rfl h2,?_,?_⟩
 ·show O2 (.row g t o A' (L' s) B::N' s) w';rw [hL' s];exact Avi (Awy hk).1 h1
 ·simpa [fp,Pc.mu,Pc.F] using h3
 ·intro p hp b hb;have hp':∃q∈(Pc.row g t (o+k) (A'++X) (cs' s) (Y++B)::N' s),q.mu=p.mu∧b∈q.F:=by
   rcases List.mem_cons.1 hp with rfl|hp
   ·exact ⟨_,.head _,rfl,hb⟩
   ·exact ⟨p,.tail _ hp,rfl,hb⟩
  obtain ⟨q,hq,hm,hbq⟩:=hp';rcases h4 q hq b hbq with h|⟨x,hx,hbx⟩|⟨hm2,x,hx,hbx⟩
  ·exact .inl h
  ·refine .inr (.inl ?_);rcases List.mem_cons.1 hx with rfl|hx
   ·exact ⟨_,.head _,hbx⟩
   ·exact ⟨x,.tail _ hx,hbx⟩
  ·exact .inr (.inr ⟨by rw [←hm];exact hm2,x,hx,hbx⟩)
section
variable {c:Cx} {fr:Fr} {H:List Pc} {k:List It} {Φ:Gl} {ops:Array Oper} {o:Op} {d:Nat} {v:Value} {ty:TypeId} {pos:String} {Ce:Array Edge} {H0:List Pc} {X:List Nat} {f:Nat} {listed:Array Bool}
theorem dsI {id:Nat} {l:List Oper} (H0:List Pc) (X:List Nat) (h:T c fr H (.dx k H0 X l.toArray l.length (Array.replicate l.length false))) (hm:c.P.follows .mixedOrders=true:=by kernel_rfl):T c fr H (.code k (Code.region id l.toArray true)):=.mk fun a w s g=>by
 refine En.start (S:=O2 H0) (X:=fun i=>X.contains i) hm ?_;exact EB
theorem dtI (i:Nat) (hI:∀w,O2 H w→O2 H0 w) (h:T c ((d,v)::fr) H (.dx k H0 X ops f (listed.setIfInBounds i true))) (ho:ops[i]?=some ⟨some d,o,ty,pos,Ce,none⟩:=by rw [List.getElem?_toArray];rfl) (hy:Yd c.P c.n fr H0 o ty v:=by exact ydE)
  (h1:Region.noSelect ops=true:=by kernel_rfl) (h2:Region.free .any ops listed i=true:=by kernel_rfl) (h3:(Region.ready .any ops listed).contains i=true:=by kernel_rfl) (h4:Lj .any ops (fun i=>X.contains i) i=true:=by kernel_rfl) (h5:Mh .any ops listed=true:=by kernel_rfl) (hR:Vz c:=by exact Ya) (hd:Nat.blt d c.n=true:=by rfl) :
  T c fr H (.dx k H0 X ops (f+1) listed):=.mk fun a w s g =>
 En.take (v:=v) ho h1 h2 h3 h4 h5 (fun ch a w hp=>by rw [L8] at hp ⊢;exact hR _ _ _ _ _ hp) (.inl ⟨rfl,fun w' hw'=>hy.h a w' _ _ _ _ g hw'⟩) (hI w s.on) (h.h _ _ s (g.put hd))
theorem dkI {i:Nat} (hI:∀w,O2 H w→O2 H0 w) (h:T c fr H (.dx k H0 X ops f listed)):T c fr H (.dk i k H0 X ops f listed):=.mk fun a w s g=>⟨fun _=>hI w s.on,h.h a w s g⟩
end
theorem Ho {g t:Nat} {x:Value} {r:List Value} {w:World} (h:(Pc.row g t 0 [] (x::r) []).P w):(Pc.cel g 0 [x]).P w:=⟨GL,fun j u hu=>by
 cases j with
 | zero=>exact Hz h 0 u (by simpa using hu)
 | succ j=>simp at hu⟩
structure TkN where
 k:Nat
 z:NV
 a:Option Addr
 c:Nat
 F:List Nat
theorem Ayj (n:Dt) (g:Nat) (a1:Option Addr) (c1:Nat) (F1:List Nat) (a2:Option Addr) (c2:Nat) (F2:List Nat) (a3:Option Addr) (c3:Nat) (F3:List Nat) (a4:Option Addr) (c4:Nat) (F4:List Nat) (a5:Option Addr) (c5:Nat) (F5:List Nat) (a6:Option Addr) (c6:Nat) (F6:List Nat) (a7:Option Addr) (c7:Nat) (F7:List Nat) (FT:List Nat) (hg:Aw n=true) (hc:n.Aa.Ai < 9999) :
  Fn prog 113 [Hm g 0 0] [Gc FT] [.row g 48 0 [] [.slice a1 n.Al.Ad.length c1,.int .i64 n.Aa.Ab.Ao,.int .i64 n.Aa.Ab.size,.slice a2 n.Aa.Ab.Ak.length c2,.int .i64 n.Aa.Ai,.int .i64 n.Aa.quiet,.slice a3 n.Aa.holds.length c3,.slice a4 n.Ae.length c4,.slice a5 n.Ac.length c5,.slice a6 n.down.length c6,.slice a7 n.up.length c7] [],.ow Bc 3 (.slice a1 n.Al.Ad.length c1) n.Al.Ad F1,.ow A8 9 (.slice a2 n.Aa.Ab.Ak.length c2) n.Aa.Ab.Ak F2,.ow Bi 156 (.slice a3 n.Aa.holds.length c3) n.Aa.holds F3,.ow Bj 110 (.slice a4 n.Ae.length c4) n.Ae F4,.ow Bg 117 (.slice a5 n.Ac.length c5) n.Ac F5,.ow (Fv Aj 159) 135 (.slice a6 n.down.length c6) n.down F6,.ow (Fv Aj 159) 135 (.slice a7 n.up.length c7) n.up F7] (fun (_:NV × KA)=>True) (fun z=>.slice z.2.a (Et n).2.length z.2.c) (fun z=>[.row g 48 0 [] [.slice z.1.a1 n.Al.Ad.length z.1.c1,.int .i64 (Et n).1.Aa.Ab.Ao,.int .i64 (Et n).1.Aa.Ab.size,.slice z.1.a2 (Et n).1.Aa.Ab.Ak.length z.1.c2,.int .i64 (Et n).1.Aa.Ai,.int .i64 (Et n).1.Aa.quiet,.slice z.1.a3 (Et n).1.Aa.holds.length z.1.c3,.slice z.1.a4 n.Ae.length z.1.c4,.slice z.1.a5 n.Ac.length z.1.c5,.slice z.1.a6 n.down.length z.1.c6,.slice z.1.a7 n.up.length z.1.c7] [],.ow Bc 3 (.slice z.1.a1 n.Al.Ad.length z.1.c1) (Et n).1.Al.Ad z.1.F1,.ow A8 9 (.slice z.1.a2 (Et n).1.Aa.Ab.Ak.length z.1.c2) (Et n).1.Aa.Ab.Ak z.1.F2,.ow Bi 156 (.slice z.1.a3 (Et n).1.Aa.holds.length z.1.c3) (Et n).1.Aa.holds z.1.F3,.ow Bj 110 (.slice z.1.a4 n.Ae.length z.1.c4) (Et n).1.Ae z.1.F4,.ow Bg 117 (.slice z.1.a5 n.Ac.length z.1.c5) (Et n).1.Ac z.1.F5,.ow (Fv Aj 159) 135 (.slice z.1.a6 n.down.length z.1.c6) (Et n).1.down z.1.F6,.ow (Fv Aj 159) 135 (.slice z.1.a7 n.up.length z.1.c7) (Et n).1.up z.1.F7,.ow A8 9 (.slice z.2.a (Et n).2.length z.2.c) (Et n).2 z.2.F]):=by
 have hG:=Ay.1 hg;have h8:=Gn hG.t;have hn8:=h8.n1;have hn2:=h8.n0;obtain ⟨q1,q2,q3,q4⟩:=Bk.1 hG.l;have hS:=Kx hG.s;obtain ⟨hq0,hq3⟩:=Amk hG.s;have hkl:=T6 n.Al.Ad 0;have hkx:∀x∈H3 n.Al.Ad 0,0≤x∧x.toNat < n.down.length:=fun x hx=>by have:=La (i:=0) h8 hx;omega
 refine enter func113 rfl ntmps113 fun w0=>?_;refine go ?_;intros;refine dsI [.cel g 0 [.slice a1 n.Al.Ad.length c1]] [] ?_;refine dtI 0 (fun w h=>I9 (Ho (h (.row g _ 0 [] _ []) GO))) ?_;refine dtI 1 (fun w h=>I9 (Ho (h (.row g _ 0 [] _ []) GO))) ?_;refine dtI 2 (fun w h=>I9 (Ho (h (.row g _ 0 [] _ []) GO))) ?_;refine dtI 3 (fun w h=>I9 (Ho (h (.row g _ 0 [] _ []) GO))) ?_;refine dtI 4 (fun w h=>I9 (Ho (h (.row g _ 0 [] _ []) GO))) ?_;refine dtI 6 (fun w h=>I9 (Ho (h (.row g _ 0 [] _ []) GO))) ?_
 refine dtI 7 (fun w h=>I9 (Ho (h (.row g _ 0 [] _ []) GO))) ?_;refine dtI 8 (fun w h=>I9 (Ho (h (.row g _ 0 [] _ []) GO))) ?_;refine dN 5 ?_;refine oC ?_;refine cfr (fun w st=>by obtain ⟨Fq,hq⟩:=Afv (st.get (p:=.ow Bc 3 (.slice a1 n.Al.Ad.length c1) n.Al.Ad F1) GO);exact ⟨_,I9 hq,rfl,Yp n.Al 0 _ Fq JX⟩) (fun u _=>?_);refine Ar ?_;refine A4 (E:=Bc) (xs:=H3 n.Al.Ad 0) fun Fk=>?_;refine dkI (fun w h=>I9 (Ho (h (.row g _ 0 [] _ []) GO))) ?_;refine dN 9 ?_;refine oC ?_
 refine cf (Avc (X:=[.slice a1 n.Al.Ad.length c1]) (cs:=[.int .i64 n.Aa.Ab.Ao,.int .i64 n.Aa.Ab.size,.slice a2 n.Aa.Ab.Ak.length c2,.int .i64 n.Aa.Ai,.int .i64 n.Aa.quiet,.slice a3 n.Aa.holds.length c3]) (Y:=[.slice a4 n.Ae.length c4,.slice a5 n.Ac.length c5,.slice a6 n.down.length c6,.slice a7 n.up.length c7]) (L:=[.slice a1 n.Al.Ad.length c1,.int .i64 n.Aa.Ab.Ao,.int .i64 n.Aa.Ab.size,.slice a2 n.Aa.Ab.Ak.length c2,.int .i64 n.Aa.Ai,.int .i64 n.Aa.quiet,.slice a3 n.Aa.holds.length c3,.slice a4 n.Ae.length c4,.slice a5 n.Ac.length c5,.slice a6 n.down.length c6,.slice a7 n.up.length c7]) (L':=fun z:TiS=>[.slice a1 n.Al.Ad.length c1,.int .i64 n.Aa.Ab.Ao,.int .i64 n.Aa.Ab.size,.slice a2 n.Aa.Ab.Ak.length c2,.int .i64 (n.Aa.Ai+1),.int .i64 (Vs n.Aa.quiet),.slice z.a2 (T5 (n.Aa.Ai+1) n.Aa.holds).length z.c2,.slice a4 n.Ae.length c4,.slice a5 n.Ac.length c5,.slice a6 n.down.length c6,.slice a7 n.up.length c7]) (cs':=fun z:TiS=>[.int .i64 n.Aa.Ab.Ao,.int .i64 n.Aa.Ab.size,.slice a2 n.Aa.Ab.Ak.length c2,.int .i64 (n.Aa.Ai+1),.int .i64 (Vs n.Aa.quiet),.slice z.a2 (T5 (n.Aa.Ai+1) n.Aa.holds).length z.c2]) (Ayp n.Aa.Ab n.Aa.holds g 48 (0+1) _ _ a2 a3 c2 c3 n.Aa.Ai n.Aa.quiet F3 hS.t0 hS.t1 hS.l hS.k0 hS.k1 hq0 hq3) rfl rfl (fun _=>rfl)) fun z _=>?_
 refine Ar ?_;refine A4 (E:=Aj) (xs:=M4 n.Aa.Ab n.Aa.quiet) fun Fp=>?_;refine dkI (fun w h=>I9 (Ho (h (.row g _ 0 [] _ []) GO))) ?_;refine dN 10 ?_;refine oC ?_;refine cf (Yr n.down (H3 n.Al.Ad 0) (M4 n.Aa.Ab n.Aa.quiet) g _ _ _ _ _ _ _ _ _ _ a6 _ c6 F6 _ _ Fk _ _ Fp rfl hkx) fun J6 _=>?_;refine Ar ?_;refine dkI (fun w h=>I9 (Ho (h (.row g _ 0 [] _ []) GO))) ?_;refine dd ?_;refine Br A8 9 ?_;rw [show Dg n.down (H3 n.Al.Ad 0) (M4 n.Aa.Ab n.Aa.quiet)=(Bf n 0).1.down from rfl];refine go ?_;intros
 refine Ck [0,2] (fun s:TkN=>[(3,.slice s.a (Bf n s.k).2.length s.c),(4,.int .i64 ((s.k+1:Nat):Int))]) (fun s=>[.row g 48 0 [] [.slice s.z.a1 n.Al.Ad.length s.z.c1,.int .i64 (Bf n s.k).1.Aa.Ab.Ao,.int .i64 (Bf n s.k).1.Aa.Ab.size,.slice s.z.a2 (Bf n s.k).1.Aa.Ab.Ak.length s.z.c2,.int .i64 (Bf n s.k).1.Aa.Ai,.int .i64 (Bf n s.k).1.Aa.quiet,.slice s.z.a3 (Bf n s.k).1.Aa.holds.length s.z.c3,.slice s.z.a4 n.Ae.length s.z.c4,.slice s.z.a5 n.Ac.length s.z.c5,.slice s.z.a6 n.down.length s.z.c6,.slice s.z.a7 n.up.length s.z.c7] [],.ow Bc 3 (.slice s.z.a1 n.Al.Ad.length s.z.c1) (Bf n s.k).1.Al.Ad s.z.F1,.ow A8 9 (.slice s.z.a2 (Bf n s.k).1.Aa.Ab.Ak.length s.z.c2) (Bf n s.k).1.Aa.Ab.Ak s.z.F2,.ow Bi 156 (.slice s.z.a3 (Bf n s.k).1.Aa.holds.length s.z.c3) (Bf n s.k).1.Aa.holds s.z.F3,.ow Bj 110 (.slice s.z.a4 n.Ae.length s.z.c4) (Bf n s.k).1.Ae s.z.F4,.ow Bg 117 (.slice s.z.a5 n.Ac.length s.z.c5) (Bf n s.k).1.Ac s.z.F5,.ow (Fv Aj 159) 135 (.slice s.z.a6 n.down.length s.z.c6) (Bf n s.k).1.down s.z.F6,.ow (Fv Aj 159) 135 (.slice s.z.a7 n.up.length s.z.c7) (Bf n s.k).1.up s.z.F7,.ow A8 9 (.slice s.a (Bf n s.k).2.length s.c) (Bf n s.k).2 s.F]) (fun s=>s.k+1≤n.Al.Ad.length∧(Bf n s.k).2.length≤40000 * s.k) (fun s=>n.Al.Ad.length - s.k) ⟨0,⟨a1,c1,F1,a2,c2,F2,z.a2,z.c2,z.F,a4,c4,F4,a5,c5,F5,a6,c6,J6,a7,c7,F7⟩,none,0,[]⟩ ⟨by show 0+1≤_;omega,Nat.le_refl _⟩ fun s hs0=>?_
 obtain ⟨k,⟨x1,w1,K1,x2,w2,K2,x3,w3,K3,x4,w4,K4,x5,w5,K5,x6,w6,K6,x7,w7,K7⟩,ea,ec,eF⟩:=s;obtain ⟨hk,hel⟩:=hs0;dsimp only at hk hel ⊢;obtain ⟨hGN,hT,hSrc⟩:=Ox hg hc k GJ;obtain ⟨r1,r2,r3,r4⟩:=Bk.1 hGN.l;rw [hT] at r1 r2 r3 r4;rw [hT,hSrc];refine go ?_;intros;refine Be rfl (fun h1=>?_) (fun h1=>?_)
 ·have hj:k+1 < n.Al.Ad.length:=by omega
  obtain ⟨i1,i2,i3,i4,hrn⟩:=hGN.rn (i:=k+1) (by rw [hT];exact hj);rw [hT] at hrn;obtain ⟨d0,d1_⟩:=Aa7 (i:=k+1);refine go ?_;intros;refine cfr (fun w st=>by obtain ⟨Fq,hq⟩:=Afv (st.get (p:=.ow Bc 3 (.slice x1 n.Al.Ad.length w1) n.Al.Ad K1) GO);exact ⟨_,I9 hq,rfl,Wg n.Al ((k+1:Nat):Int) _ Fq⟩) (fun _ _=>?_);refine Ar ?_;cases hlf:Ed n.Al.Ad ((k+1:Nat):Int)
  ·obtain ⟨hge,hck, -⟩:=hrn.hn GJ hlf;obtain ⟨hc0,hc1⟩:=Nr.1 (Gp.1 hge).1;have hnx:Bf n (k+1)=(⟨n.Al,Mr n.Aa,(Bf n k).1.Ae.set (k+1) (E4 (Bf n k).1.Ae[k+1]),(Bf n k).1.Ac,(Bf n k).1.down,(Bf n k).1.up⟩,(Bf n k).2++[]):=by
    exact GG
   rw [List.append_nil] at hnx;refine Aba (xs:=(Bf n k).1.Ae) (m:=2) (k+1) ?_ rfl i1;rintro _ g5 A5 cs B5 k1 k2 J1 Ji J2 e5 - hc5 hH5;rw [e5];refine Hl ?_;rintro b1 d1 G1 ev l1;obtain rfl:cs=[.int .i64 (Bf n k).1.Ae[k+1].Ai,.slice b1 (Bf n k).1.Ae[k+1].Ah.length d1]:=by simpa using ev
   refine go ?_;intros;refine cf (Ayg (Bf n k).1.Ae[k+1] g5 110 (0+(k+1) * 2) A5 B5 b1 d1 G1 GJ GJ) fun s9 _=>?_;refine Ar ?_;refine Gk (E4 (Bf n k).1.Ae[k+1]) ?_;refine Vd _ hH5 rfl fun J5=>?_;refine go ?_;intros;refine Cu ⟨k+1,⟨x1,w1,K1,x2,w2,K2,x3,w3,K3,_,w4,J5,x5,w5,K5,x6,w6,K6,x7,w7,K7⟩,ea,ec,eF⟩ ⟨JS,by rw [hnx];dsimp only;omega⟩ HF HM HL
  ·obtain ⟨-,hgr0,hck⟩:=hrn.hf GJ hlf;have hgr:=D9.1 hgr0;obtain ⟨hsm,hfew⟩:=Ab8 hgr;have hnx:Bf n (k+1)=(⟨n.Al,Mr n.Aa,(Bf n k).1.Ae,(Bf n k).1.Ac.set (k+1) (Cy (Bf n k).1.Ac[k+1] (Ms (k+1))),(Bf n k).1.down,Qr (Bf n k).1.up (k+1) (Ew (Bf n k).1.Ac[k+1])⟩,(Bf n k).2++Tj (k+1) (Gz (Bf n k).1.Ac[k+1])):=by
    show ((M3 (Bf n k).1 (k+1)).1,(Bf n k).2++(M3 (Bf n k).1 (k+1)).2)=_;unfold M3;rw [hT,hlf,if_pos rfl,Gh i2,hSrc];rfl
   have htl:(Tj (k+1) (Gz (Bf n k).1.Ac[k+1])).length=(Gz (Bf n k).1.Ac[k+1]).length:=List.length_map ..;generalize hR:(Bf n k).1.Ac[k+1]=R at *;refine go ?_;intros;refine Aba (xs:=(Bf n k).1.Ac) (m:=5) (k+1) ?_ rfl i2;rintro _ g5 A5 cs B5 k1 k2 J1 Ji J2 e5 - hc5 hH5;rw [e5,hR];refine H4 ?_;rintro b1 d1 G1 b2 d2 G2 ev l1 l2;obtain rfl:cs=[.bool R.Bd,.int .i64 R.Ai,.int .i64 R.Ab.next,.slice b1 R.Ab.Ap.length d1,.slice b2 R.Am.length d2]:=by simpa using ev
   refine At [5] [] ?_;refine Dk 0 1 2 3 ?_;refine Dy 4 5 ?_;refine dt 6 ?_;refine dN 7 ?_;refine oC ?_;refine cf (Ahm (k+1) GJ) fun _ _=>?_;refine Ar ?_;refine dk ?_;refine dN 8 ?_;refine oC ?_;refine cf (Ayn R (Ms (k+1)) g5 117 (0+(k+1) * 5) A5 B5 b1 d1 G1 b2 d2 G2 hgr GJ GJ) fun s9 _=>?_;refine Ar ?_;refine dk ?_;refine Dk 9 10 11 12 ?_;refine dt 13 ?_;refine dd ?_;refine Ju (Cy R (Ms (k+1))) ?_;refine Vd _ hH5 rfl fun J5=>?_;refine A4 (E:=Aj) (xs:=Ew R) fun Fp=>?_;refine Akc (E:=Aj) (fun p:Av=>p.data.size≤maxLen) (fun w cs x F h=>by obtain ⟨_,h,_⟩:=h;exact h) ?_
   intro hz;refine Akg (E:=Aj) (xs:=Ew R) ?_;rintro pa pc e9 hp1 hp2;clear e9;refine go ?_;intros;rw [show (Bf n k).1.up=Qr (Bf n k).1.up (k+1) ((Ew R).take 0) by rw [List.take_zero,Ail]];refine Ck [0,2,3,4,6,56,57] (fun y:KF=>[(58,.int .i64 (y.k:Nat))]) (fun y=>[.ow (Fv Aj 159) 135 (.slice x7 n.up.length w7) (Qr (Bf n k).1.up (k+1) ((Ew R).take y.k)) y.F]) (fun y=>y.k≤(Ew R).length) (fun y=>(Ew R).length - y.k) ⟨0,K7⟩ (Nat.zero_le _) fun y hy0=>?_;have hpl:=Aik (Bf n k).1.up (k+1) ((Ew R).take y.k);refine go ?_;intros;refine Be rfl (fun h2=>?_) (fun h2=>?_)
   ·have hm:y.k < (Ew R).length:=by omega
    refine Qh (xs:=Ew R) y.k ?_;rintro hi3 b3 o3 e3 s3;rw [e3];refine go ?_;intros;refine At [0,6] [] ?_;refine Dk 0 1 2 3 ?_;refine Dy 4 5 ?_;refine dN 6 ?_;refine oC ?_;refine cf (Abu (Qr (Bf n k).1.up (k+1) ((Ew R).take y.k)) (k+1) (Ew R)[y.k] x7 _ w7 y.F GJ GJ s3) fun f1 _=>?_;refine Ar ?_;rw [Afu i4 hm];refine dk ?_;refine dd ?_;refine go ?_;intros;refine Cu ⟨y.k+1,f1⟩ hm (by show (Ew R).length - (y.k+1) < (Ew R).length - y.k;omega)
   ·rw [show (Ew R).take y.k=Ew R from List.take_of_length_le GJ];refine go ?_;intros;refine cfr (fun w st=>by obtain ⟨Fq, -,hq⟩:=(st.get (p:=.ow A8 9 (.slice s9.a4 (Gz R).length s9.c4) (Gz R) s9.F4) GO).2.read;exact ⟨[.sl A8 (.slice s9.a4 (Gz R).length s9.c4) (Gz R) Fq,Gc FT],Uv ⟨GM,hq⟩ (st.get (p:=Gc FT) GO),rfl,Axv (k+1) _ _ _ Fq FT GJ GJ hsm⟩) (fun u9 _=>?_);refine Ar ?_;refine A4 (E:=A8) (xs:=Tj (k+1) (Gz R)) fun F8=>?_;apply wO;refine N3 (E:=A8) (xs:=(Bf n k).2) (ys:=Tj (k+1) (Gz R)) Dp Hi fun a9 c9 F9=>?_;refine go ?_;intros
    refine Cu ⟨k+1,⟨x1,w1,K1,x2,w2,K2,x3,w3,K3,x4,w4,K4,_,w5,J5,x6,w6,K6,x7,w7,y.F⟩,a9,c9,F9⟩ ⟨JS,by rw [hnx];dsimp only;rw [List.length_append,htl];omega⟩ HF HM HL
 ·have hke:n.Al.Ad.length - 1=k:=by omega
  rw [show Et n=Bf n k by unfold Et;rw [hke],hT,hSrc];exact EY
structure Jp where
 Ct:Int
 node:Int
 data:ByteArray
def Ek (s:Jp):Bool:=if s.Ct=1 then decide (s.node=0) && P9 s.data else if s.Ct=4 then decide (s.node=0) && decide (s.data=⟨#[]⟩) else Eu 1 s.Ct 6 && Pm s.node && decide (s.data=⟨#[]⟩)
def Vx (s:Jp):Bool:=decide (s.Ct=5) || decide (s.Ct=6)
def Th (n:Dt) (s:Jp):List Av:=(if Vx s then n.up else n.down).getD s.node.toNat []
def Ga (n:Dt) (s:Jp):Dt:=if Vx s then Ko n s.node.toNat else Mi n s.node.toNat
def C0 (n:Dt) (s:Jp):Option (Dt × List ByteArray) :=
 if (n.Al.Ad.length:Int)≤s.node then none
 else if (Th n s).length=0 then none
 else if s.Ct=2 then some (Cq (Ga n s) s.node.toNat (My (Th n s)))
 else if s.Ct=5 then some (Oy (Ga n s) s.node.toNat (My (Th n s)),[])
 else some (Ga n s,[])
def Bo (n:Dt) (s:Jp):Option (Dt × List ByteArray) :=
 if s.Ct=1 then some (Pi n s.data,[])
 else if s.Ct=4 then (if n.Aa.Ai=9999 then none else some (Et n))
 else C0 n s
def Hh (n:Dt) (r:Option (Dt × List ByteArray)):Dt:=match r with|some x=>x.1|none=>n
def Uc (r:Option (Dt × List ByteArray)):List ByteArray:=match r with|some x=>x.2|none=>[]
theorem Atg {n:Dt} {s:ByteArray} (h:Aw n=true) (hs:P9 s=true):Aw (Pi n s)=true:=by
 have hg:=Ay.1 h;have ht:=Gn hg.t;exact Ay.2 (((hg.src (Art hg.s hs)).sp (fun p hp=>by rw [List.mem_singleton] at hp;subst hp;exact As3 (Ez.1 hg.s).1 hs) (Ad0 ht 0)))
theorem Acc {ck:Nat→Int} {i:Nat} {c:Int} (h:ck i=c):Ads ck i c=ck:=by
 funext j;unfold Ads;by_cases e:j=i
 ·rw [if_pos e,e,h]
 ·rw [if_neg e]
theorem Arj {e:Bl} {n:Int} {l:List Int}:∀x∈Tx e n l,x∈l:=Zw
theorem Alk (r:A9) (p:Av) (d:Int):(Dc r p d).Ai=r.Ai:=by
 unfold Dc
 split
 ·rfl
 ·split <;> rfl
theorem Aou (e:Bl) (n f:Int):(N1 e n f).Ai=e.Ai:=by
 unfold N1
 split
 ·rfl
 ·split <;> rfl
theorem Aot (e:Bl) (n:Int):(Ph e n).Ai=e.Ai:=by unfold Ph;split <;> rfl
theorem Anw {n:Dt} {i:Nat} {p:Av} (h:Aw n=true) (h0:i≠0) (hi:i < n.Al.Ad.length) (hp:By p=true):Aw (Cq n i p).1=true:=by
 have hg:=Ay.1 h;have ht:=Gn hg.t;obtain ⟨h1,h2,h3,h4,r⟩:=hg.rn hi;have d0:1≤Ms i∧Ms i≤8:=by unfold Ms;omega
 have ee:O9 n i=n.Ae[i]:=by unfold O9;rw [List.getD_eq_getElem?_getD,List.getElem?_eq_getElem h1];rfl
 have er:Pl n i=n.Ac[i]:=by unfold Pl;rw [List.getD_eq_getElem?_getD,List.getElem?_eq_getElem h2];rfl
 have hps:∀q∈[p],By q=true:=fun q hq=>by rw [List.mem_singleton] at hq;rw [hq];exact hp
 unfold Cq;cases hl:Ed n.Al.Ad ((i:Nat):Int)
 ·rw [if_neg GM];obtain ⟨he,e2, -⟩:=r.hn h0 hl;by_cases hk:p.Ct=2
  ·have:=(hg.el h0 hl (Arr (n:=p.Af) he)).sp hps (nodes:=Tx n.Ae[i] p.Af (X7 n i)) (fun x hx=>Ad0 ht i x (Arj x hx));rw [Acc (show (fun _=>n.Aa.Ai) i=(Ph n.Ae[i] p.Af).Ai by rw [Aot,e2])] at this;unfold Adj;rw [if_pos hk,if_pos hk,ee];exact Ay.2 this
  ·unfold Adj;rw [if_neg hk,if_neg hk];exact Ay.2 (hg.sp hps (Ad0 ht i))
 ·rw [if_pos rfl,er];obtain ⟨-,e2,e3⟩:=r.hf h0 hl;have:=hg.rc h0 hl (D9.2 (Tz (d:=Ms i) (D9.1 e2) hp d0.1 d0.2).1);rw [Acc (show (fun _=>n.Aa.Ai) i=(Dc n.Ac[i] p (Ms i)).Ai by rw [Alk,e3])] at this;exact Ay.2 this
theorem Baq {n:Dt} {i:Nat} {p:Av} (h:Aw n=true) (h0:i≠0) (hi:i < n.Al.Ad.length) (hp:By p=true) (hk:p.Ct=3):Aw (Oy n i p)=true:=by
 have hg:=Ay.1 h;have ht:=Gn hg.t;have hone:∀x∈[((i:Nat):Int)],x.toNat≠0:=fun x hx=>by rw [List.mem_singleton] at hx;subst hx;omega
 have h1:=ht.p i hi GJ;have e:n.Al.Ad.getD i 0=n.Al.Ad[i]:=by rw [List.getD_eq_getElem?_getD,List.getElem?_eq_getElem hi];rfl
 obtain ⟨k,hkk⟩:∃k,X0 n i=k:=⟨_,rfl⟩;have hk2:n.Al.Ad[i]=((k:Nat):Int):=by unfold X0 at hkk;rw [e] at hkk;omega
 unfold Oy;rw [hkk];by_cases hz:k=0
 ·rw [if_pos hz];have:=(hg.src (Avf (n:=p.Af) hg.s (Jz hp))).sp (Atc (Ez.1 hg.s).1 hp hk) hone;refine Ay.2 ?_;rw [show (L0 n.Aa p.Af).Ai=n.Aa.Ai by unfold L0;split <;> rfl];exact this
 ·rw [if_neg hz];have hkl:k < n.Al.Ad.length:=by omega
  obtain ⟨r1,r2,r3,r4,r⟩:=hg.rn hkl;have ee:O9 n k=n.Ae[k]:=by unfold O9;rw [List.getD_eq_getElem?_getD,List.getElem?_eq_getElem r1];rfl
  have hl:Ed n.Al.Ad ((k:Nat):Int)=false:=by
   unfold Ed;rw [←hk2,decide_eq_true (List.getElem_mem hi)];rfl
  obtain ⟨he,e2, -⟩:=r.hn hz hl;rw [ee];have hf:Pm ((i:Nat):Int)=true:=Ns.2 ⟨GJ,by have:=ht.n1;omega⟩;have:=(hg.el hz hl (Ars he (Bb.2 (Jz hp)) hf)).sp (nodes:=[((i:Nat):Int)]) (ps:=[Yq p]) (fun q hq=>by rw [List.mem_singleton] at hq;rw [hq];exact Auu hp) hone;rw [Acc (show (fun _=>n.Aa.Ai) k=(N1 n.Ae[k] p.Af ((i:Nat):Int)).Ai by rw [Aou,e2])] at this;refine Ay.2 ?_
  split
  ·exact this.un k _ (fun e=>absurd e hz) fun q a b=>⟨Abw a fun x hx=>by rw [List.mem_singleton] at hx;rw [hx];exact hp,Aqi b fun x hx=>by rw [List.mem_singleton] at hx;rw [hx];exact hk⟩
  ·exact this
theorem Lz {n:Dt} {s:Jp} (h:Aw n=true):Ey (Th n s)=true∧(Vx s=true→Zg (Th n s)=true):=by
 have hg:=Ay.1 h;obtain ⟨q1,q2,q3,q4⟩:=Bk.1 hg.l;unfold Th;by_cases hi:s.node.toNat < n.Al.Ad.length
 ·obtain ⟨h1,h2,h3,h4,r⟩:=hg.rn hi;cases Vx s
  ·rw [if_neg GM,Pa h3];exact ⟨r.hd,fun e=>by cases e⟩
  ·rw [if_pos rfl,Pa h4];exact ⟨r.hu,fun _=>r.hk⟩
 ·have e:((if Vx s then n.up else n.down).getD s.node.toNat [])=[]:=by
   rw [List.getD_eq_getElem?_getD,List.getElem?_eq_none (by split <;> omega)];rfl
  rw [e];exact ⟨rfl,fun _=>rfl⟩
theorem Ld {n:Dt} {s:Jp} (h:Aw n=true):Aw (Ga n s)=true:=by
 have hg:=Ay.1 h;unfold Ga
 split
 ·exact Ay.2 (hg.pu _)
 ·exact Ay.2 (hg.pd _)
theorem N8 {q:List Av} (h:0 < q.length):My q∈q:=by rw [Wq h];exact List.getElem_mem _
theorem Mu {q:List Av} (h:Ey q=true) {p:Av} (hp:p∈q):By p=true:=by
 unfold Ey at h;rw [Bool.and_eq_true] at h;exact List.all_eq_true.1 h.2 p hp
theorem Bap {q:List Av} (h:Zg q=true) {p:Av} (hp:p∈q):p.Ct=3:=of_decide_eq_true (List.all_eq_true.1 h p hp)
theorem Am2 {n:Dt} {s:Jp} {r:Dt × List ByteArray} (h:Aw n=true) (hn:Pm s.node=true) (hr:C0 n s=some r):Aw r.1=true:=by
 have hf:=Ns.1 hn;have hpg:=Ld (s:=s) h;have hq:=Lz (s:=s) h;have htl:(Ga n s).Al=n.Al:=by unfold Ga;split <;> rfl
 unfold C0 at hr
 split at hr
 ·cases hr
 ·rename_i h1
  split at hr
  ·cases hr
  ·rename_i h2;have hm:=N8 (q:=Th n s) GJ;have hpk:=Mu hq.1 hm;have hi:s.node.toNat < (Ga n s).Al.Ad.length:=by rw [htl];omega
   split at hr
   ·cases hr;exact Anw hpg GJ hi hpk
   ·split at hr
    ·rename_i h5;cases hr;exact Baq hpg GJ hi hpk (Bap (hq.2 (by unfold Vx;rw [decide_eq_true h5];rfl)) hm)
    ·cases hr;exact hpg
theorem Wy {x:Cr} (h:Ch x=true):0≤x.Ai∧x.Ai≤9999:=by
 unfold Ch at h;simp only [Bool.and_eq_true] at h;exact Nr.1 h.1.1.2
theorem Mw {n:Dt} {s:Jp} {r:Dt × List ByteArray} (h:Aw n=true) (hs:Ek s=true) (hr:Bo n s=some r):Aw r.1=true:=by
 unfold Bo at hr;unfold Ek at hs
 split at hr
 ·rename_i h1;rw [if_pos h1,Bool.and_eq_true] at hs;cases hr;exact Atg h hs.2
 ·rename_i h1
  split at hr
  ·rename_i h4
   split at hr
   ·cases hr
   ·rename_i hc;cases hr;have:=Wy (Ay.1 h).s;exact Apa h GJ
  ·rename_i h4;rw [if_neg h1,if_neg h4] at hs;simp only [Bool.and_eq_true] at hs;exact Am2 h hs.1.2 hr
section
variable {c:Cx} {fr:Fr} {H:List Pc} {Φ:Gl}
end
theorem Baj (n:Dt) (s:Jp) (g:Nat) (a1:Option Addr) (c1:Nat) (F1:List Nat) (a2:Option Addr) (c2:Nat) (F2:List Nat) (a3:Option Addr) (c3:Nat) (F3:List Nat) (a4:Option Addr) (c4:Nat) (F4:List Nat) (a5:Option Addr) (c5:Nat) (F5:List Nat) (a6:Option Addr) (c6:Nat) (F6:List Nat) (a7:Option Addr) (c7:Nat) (F7:List Nat) (FT:List Nat) (hg:Aw n=true) (hf:Pm s.node=true) :
  Fn prog 114 [Hm g 0 0,.agg #[.int .i64 s.Ct,.int .i64 s.node,.string s.data]] [Gc FT] [.row g 48 0 [] [.slice a1 n.Al.Ad.length c1,.int .i64 n.Aa.Ab.Ao,.int .i64 n.Aa.Ab.size,.slice a2 n.Aa.Ab.Ak.length c2,.int .i64 n.Aa.Ai,.int .i64 n.Aa.quiet,.slice a3 n.Aa.holds.length c3,.slice a4 n.Ae.length c4,.slice a5 n.Ac.length c5,.slice a6 n.down.length c6,.slice a7 n.up.length c7] [],.ow Bc 3 (.slice a1 n.Al.Ad.length c1) n.Al.Ad F1,.ow A8 9 (.slice a2 n.Aa.Ab.Ak.length c2) n.Aa.Ab.Ak F2,.ow Bi 156 (.slice a3 n.Aa.holds.length c3) n.Aa.holds F3,.ow Bj 110 (.slice a4 n.Ae.length c4) n.Ae F4,.ow Bg 117 (.slice a5 n.Ac.length c5) n.Ac F5,.ow (Fv Aj 159) 135 (.slice a6 n.down.length c6) n.down F6,.ow (Fv Aj 159) 135 (.slice a7 n.up.length c7) n.up F7] (fun (_:NV × KA)=>True) (fun z=>.tuple #[.slice z.2.a (Uc (C0 n s)).length z.2.c,.bool (C0 n s).isSome]) (fun z=>[.row g 48 0 [] [.slice z.1.a1 n.Al.Ad.length z.1.c1,.int .i64 (Hh n (C0 n s)).Aa.Ab.Ao,.int .i64 (Hh n (C0 n s)).Aa.Ab.size,.slice z.1.a2 (Hh n (C0 n s)).Aa.Ab.Ak.length z.1.c2,.int .i64 (Hh n (C0 n s)).Aa.Ai,.int .i64 (Hh n (C0 n s)).Aa.quiet,.slice z.1.a3 (Hh n (C0 n s)).Aa.holds.length z.1.c3,.slice z.1.a4 n.Ae.length z.1.c4,.slice z.1.a5 n.Ac.length z.1.c5,.slice z.1.a6 n.down.length z.1.c6,.slice z.1.a7 n.up.length z.1.c7] [],.ow Bc 3 (.slice z.1.a1 n.Al.Ad.length z.1.c1) (Hh n (C0 n s)).Al.Ad z.1.F1,.ow A8 9 (.slice z.1.a2 (Hh n (C0 n s)).Aa.Ab.Ak.length z.1.c2) (Hh n (C0 n s)).Aa.Ab.Ak z.1.F2,.ow Bi 156 (.slice z.1.a3 (Hh n (C0 n s)).Aa.holds.length z.1.c3) (Hh n (C0 n s)).Aa.holds z.1.F3,.ow Bj 110 (.slice z.1.a4 n.Ae.length z.1.c4) (Hh n (C0 n s)).Ae z.1.F4,.ow Bg 117 (.slice z.1.a5 n.Ac.length z.1.c5) (Hh n (C0 n s)).Ac z.1.F5,.ow (Fv Aj 159) 135 (.slice z.1.a6 n.down.length z.1.c6) (Hh n (C0 n s)).down z.1.F6,.ow (Fv Aj 159) 135 (.slice z.1.a7 n.up.length z.1.c7) (Hh n (C0 n s)).up z.1.F7,.ow A8 9 (.slice z.2.a (Uc (C0 n s)).length z.2.c) (Uc (C0 n s)) z.2.F]):=by
 have hG:=Ay.1 hg;have h8:=Gn hG.t;have hn8:=h8.n1;obtain ⟨q1,q2,q3,q4⟩:=Bk.1 hG.l;obtain ⟨f1,f2⟩:=Ns.1 hf;obtain ⟨i,hi⟩:∃i:Nat,s.node=((i:Nat):Int):=⟨s.node.toNat,GJ⟩;have i0:i≠0:=by omega
 refine enter func114 rfl ntmps114 fun w0=>?_;refine Br A8 9 ?_;rw [hi];refine go ?_;intros;refine At [0,2] [] ?_;refine Dk 0 1 2 3 ?_;refine Dk 4 5 6 7 ?_;refine dt 8 ?_;refine dd ?_;refine go ?_;intros;refine Be rfl (fun h1=>?_) (fun h1=>?_)
 ·rw [show C0 n s=none by unfold C0;rw [if_pos GJ]];exact EU
 have hil:i < n.Al.Ad.length:=by omega
 by_cases k5:s.Ct=5
 ·have hu:Vx s=true:=by unfold Vx;rw [decide_eq_true k5];rfl
  have hq:Th n s=n.up[i]:=by unfold Th;rw [hu,if_pos rfl,hi,Int.toNat_natCast];exact Pa GJ []
  have hpo:Ga n s=Ko n i:=by unfold Ga;rw [hu,if_pos rfl,hi,Int.toNat_natCast]
  have h6:n.up[i].length≤6:=by
   exact CC
  refine go ?_;intros;refine Dj rfl rfl (fun g5=>?_) (fun g5=>?_)
  rotate_left
  ·exact absurd k5 g5
  refine go ?_;intros;refine cf (Afl n.up i a7 _ c7 F7 rfl GJ h6) fun J _=>?_;refine Ar ?_;by_cases h0:0 < n.up[i].length
  rotate_left
  ·exact BG
  have hmem:=N8 h0;have hpk:By (My n.up[i])=true:=Mu (hq▸(Lz (s:=s) hg).1) hmem;have hpz:(My n.up[i]).data.size≤maxLen:=by
   exact AU
  rw [decide_eq_true h0,show n.up.set i (n.up[i].drop 1)=(Ko n i).up from (Hq GJ).symm];have hgm:Aw (Ko n i)=true:=hpo▸Ld hg;have hGm:=Ay.1 hgm;have hlm:n.up.length=(Ko n i).up.length:=(List.length_modify ..).symm;generalize hP:My n.up[i]=P at *;have htk:C0 n s=some (Oy (Ko n i) i P,[]):=by
   unfold C0;rw [if_neg GJ,hq,if_neg GJ,hpo,hP,hi,Int.toNat_natCast];rw [if_neg GJ,if_pos k5]
  rw [htk];refine go ?_;intros;refine Be rfl (fun k2=>?_) (fun k2=>?_)
  ·exact absurd k2 GJ
  refine go ?_;intros;refine Be rfl (fun m5=>?_) (fun m5=>?_)
  rotate_left
  ·exact absurd k5 m5
  refine go ?_;intros;rw [hlm];refine cf (Ax1 (Ko n i) i P g a1 c1 F1 a2 c2 F2 a3 c3 F3 a4 c4 F4 a5 c5 F5 a6 c6 F6 a7 c7 J hGm.l i0 hil (Gn hGm.t) hGm.s (fun k hk hkl hl=>?_) hpk hpz) fun z _=>?_
  rotate_left
  ·refine Ar ?_;refine go ?_;intros;refine ret (z,⟨0,none,0,[]⟩) trivial rfl
  ·obtain ⟨x1,x2,x3,x4,r⟩:=hGm.rn (i:=k) hkl;rw [I5 x1];exact (r.hn hk hl).1
 by_cases k6:s.Ct=6
 ·have hu:Vx s=true:=by unfold Vx;rw [decide_eq_true k6,Bool.or_true]
  have hq:Th n s=n.up[i]:=by unfold Th;rw [hu,if_pos rfl,hi,Int.toNat_natCast];exact Pa GJ []
  have hpo:Ga n s=Ko n i:=by unfold Ga;rw [hu,if_pos rfl,hi,Int.toNat_natCast]
  have h6:n.up[i].length≤6:=by
   exact CC
  refine go ?_;intros;refine Dj rfl rfl (fun g5=>?_) (fun g5=>?_)
  ·exact absurd g5 GJ
  refine go ?_;intros;refine Be rfl (fun g6=>?_) (fun g6=>?_)
  rotate_left
  ·exact absurd k6 g6
  refine go ?_;intros;refine cf (Afl n.up i a7 _ c7 F7 rfl GJ h6) fun J _=>?_;refine Ar ?_;by_cases h0:0 < n.up[i].length
  rotate_left
  ·exact BG
  have hmem:=N8 h0;have hpk:By (My n.up[i])=true:=Mu (hq▸(Lz (s:=s) hg).1) hmem;have hpz:(My n.up[i]).data.size≤maxLen:=by
   exact AU
  rw [decide_eq_true h0,show n.up.set i (n.up[i].drop 1)=(Ko n i).up from (Hq GJ).symm];have hgm:Aw (Ko n i)=true:=hpo▸Ld hg;have hGm:=Ay.1 hgm;have hlm:n.up.length=(Ko n i).up.length:=(List.length_modify ..).symm;generalize hP:My n.up[i]=P at *;have htk:C0 n s=some (Ko n i,[]):=by
   exact FY
  rw [htk];refine go ?_;intros;refine Be rfl (fun k2=>?_) (fun k2=>?_)
  ·exact absurd k2 GJ
  refine go ?_;intros;refine Be rfl (fun m5=>?_) (fun m5=>?_)
  ·exact absurd m5 GJ
  refine go ?_;intros;refine ret (⟨a1,c1,F1,a2,c2,F2,a3,c3,F3,a4,c4,F4,a5,c5,F5,a6,c6,F6,a7,c7,J⟩,⟨0,none,0,[]⟩) trivial rfl
 ·have hu:Vx s=false:=by unfold Vx;rw [decide_eq_false k5,decide_eq_false k6];rfl
  have hq:Th n s=n.down[i]:=by unfold Th;rw [hu,if_neg GM,hi,Int.toNat_natCast];exact Pa GJ []
  have hpo:Ga n s=Mi n i:=by unfold Ga;rw [hu,if_neg GM,hi,Int.toNat_natCast]
  have h6:n.down[i].length≤6:=by
   exact CC
  refine go ?_;intros;refine Dj rfl rfl (fun g5=>?_) (fun g5=>?_)
  ·exact absurd g5 k5
  refine go ?_;intros;refine Be rfl (fun g6=>?_) (fun g6=>?_)
  ·exact absurd g6 k6
  refine go ?_;intros;refine cf (Afl n.down i a6 _ c6 F6 rfl GJ h6) fun J _=>?_;refine Ar ?_;by_cases h0:0 < n.down[i].length
  rotate_left
  ·have hz:n.down[i]=[]:=List.length_eq_zero_iff.1 GJ;rw [show C0 n s=none by unfold C0;rw [if_neg GJ,hq,if_pos GJ],decide_eq_false h0,show n.down.set i (n.down[i].drop 1)=n.down by rw [hz,List.drop_nil];rw [←hz,List.set_getElem_self]];exact EZ
  have hmem:=N8 h0;have hpk:By (My n.down[i])=true:=Mu (hq▸(Lz (s:=s) hg).1) hmem;have hpz:(My n.down[i]).data.size≤maxLen:=by
   exact AU
  rw [decide_eq_true h0,show n.down.set i (n.down[i].drop 1)=(Mi n i).down from (Hq GJ).symm];have hgm:Aw (Mi n i)=true:=hpo▸Ld hg;have hGm:=Ay.1 hgm;have hlm:n.down.length=(Mi n i).down.length:=(List.length_modify ..).symm;generalize hP:My n.down[i]=P at *;have htk:C0 n s=if s.Ct=2 then some (Cq (Mi n i) i P) else some (Mi n i,[]):=by
   unfold C0;rw [if_neg GJ,hq,if_neg GJ,hpo,hP,hi,Int.toNat_natCast]
   split
   ·rfl
   ·first|rfl|rw [if_neg k5]
  rw [htk];refine go ?_;intros;refine Be rfl (fun k2=>?_) (fun k2=>?_)
  ·rw [if_pos k2];refine go ?_;intros;rw [hlm];refine cf (Ard (Mi n i) i P g a1 c1 F1 a2 c2 F2 a3 c3 F3 a4 c4 F4 a5 c5 F5 a6 c6 J a7 c7 F7 FT hGm.l hil (Gn hGm.t) (fun hl=>?_) (fun hl=>?_) hpk hpz) fun z _=>?_
   rotate_left
   rotate_left
   ·exact GD
   ·obtain ⟨x1,x2,x3,x4,r⟩:=hGm.rn (i:=i) hil;rw [Gh x2];exact (r.hf i0 hl).2.1
   ·obtain ⟨x1,x2,x3,x4,r⟩:=hGm.rn (i:=i) hil;rw [I5 x1];exact (r.hn i0 hl).1
  ·rw [if_neg k2];refine go ?_;intros;refine Be rfl (fun m5=>?_) (fun m5=>?_)
   ·exact absurd m5 k5
   exact EZ
theorem Bcv (n:Dt) (s:Jp) (g:Nat) (a1:Option Addr) (c1:Nat) (F1:List Nat) (a2:Option Addr) (c2:Nat) (F2:List Nat) (a3:Option Addr) (c3:Nat) (F3:List Nat) (a4:Option Addr) (c4:Nat) (F4:List Nat) (a5:Option Addr) (c5:Nat) (F5:List Nat) (a6:Option Addr) (c6:Nat) (F6:List Nat) (a7:Option Addr) (c7:Nat) (F7:List Nat) (FT:List Nat) (hg:Aw n=true) (hs:Ek s=true) (hss:s.data.size≤maxLen) :
  Fn prog 67 [Hm g 0 0,.agg #[.int .i64 s.Ct,.int .i64 s.node,.string s.data]] [Gc FT] [.row g 48 0 [] [.slice a1 n.Al.Ad.length c1,.int .i64 n.Aa.Ab.Ao,.int .i64 n.Aa.Ab.size,.slice a2 n.Aa.Ab.Ak.length c2,.int .i64 n.Aa.Ai,.int .i64 n.Aa.quiet,.slice a3 n.Aa.holds.length c3,.slice a4 n.Ae.length c4,.slice a5 n.Ac.length c5,.slice a6 n.down.length c6,.slice a7 n.up.length c7] [],.ow Bc 3 (.slice a1 n.Al.Ad.length c1) n.Al.Ad F1,.ow A8 9 (.slice a2 n.Aa.Ab.Ak.length c2) n.Aa.Ab.Ak F2,.ow Bi 156 (.slice a3 n.Aa.holds.length c3) n.Aa.holds F3,.ow Bj 110 (.slice a4 n.Ae.length c4) n.Ae F4,.ow Bg 117 (.slice a5 n.Ac.length c5) n.Ac F5,.ow (Fv Aj 159) 135 (.slice a6 n.down.length c6) n.down F6,.ow (Fv Aj 159) 135 (.slice a7 n.up.length c7) n.up F7] (fun (_:NV × KA)=>True) (fun z=>.tuple #[.slice z.2.a (Uc (Bo n s)).length z.2.c,.bool (Bo n s).isSome]) (fun z=>[.row g 48 0 [] [.slice z.1.a1 n.Al.Ad.length z.1.c1,.int .i64 (Hh n (Bo n s)).Aa.Ab.Ao,.int .i64 (Hh n (Bo n s)).Aa.Ab.size,.slice z.1.a2 (Hh n (Bo n s)).Aa.Ab.Ak.length z.1.c2,.int .i64 (Hh n (Bo n s)).Aa.Ai,.int .i64 (Hh n (Bo n s)).Aa.quiet,.slice z.1.a3 (Hh n (Bo n s)).Aa.holds.length z.1.c3,.slice z.1.a4 n.Ae.length z.1.c4,.slice z.1.a5 n.Ac.length z.1.c5,.slice z.1.a6 n.down.length z.1.c6,.slice z.1.a7 n.up.length z.1.c7] [],.ow Bc 3 (.slice z.1.a1 n.Al.Ad.length z.1.c1) (Hh n (Bo n s)).Al.Ad z.1.F1,.ow A8 9 (.slice z.1.a2 (Hh n (Bo n s)).Aa.Ab.Ak.length z.1.c2) (Hh n (Bo n s)).Aa.Ab.Ak z.1.F2,.ow Bi 156 (.slice z.1.a3 (Hh n (Bo n s)).Aa.holds.length z.1.c3) (Hh n (Bo n s)).Aa.holds z.1.F3,.ow Bj 110 (.slice z.1.a4 n.Ae.length z.1.c4) (Hh n (Bo n s)).Ae z.1.F4,.ow Bg 117 (.slice z.1.a5 n.Ac.length z.1.c5) (Hh n (Bo n s)).Ac z.1.F5,.ow (Fv Aj 159) 135 (.slice z.1.a6 n.down.length z.1.c6) (Hh n (Bo n s)).down z.1.F6,.ow (Fv Aj 159) 135 (.slice z.1.a7 n.up.length z.1.c7) (Hh n (Bo n s)).up z.1.F7,.ow A8 9 (.slice z.2.a (Uc (Bo n s)).length z.2.c) (Uc (Bo n s)) z.2.F]):=by
 have hG:=Ay.1 hg;have h8:=Gn hG.t;have hn8:=h8.n1;have hn2:=h8.n0;obtain ⟨q1,q2,q3,q4⟩:=Bk.1 hG.l;have hS:=Kx hG.s;obtain ⟨-,⟨hz1, -⟩, -, -⟩:=Dz.1 hS.w;have hkl:=T6 n.Al.Ad 0;have hkx:∀x∈H3 n.Al.Ad 0,0≤x∧x.toNat < n.down.length:=fun x hx=>by have:=La (i:=0) h8 hx;omega
 refine enter func67 rfl ntmps67 fun w0=>?_;refine Br A8 9 ?_;refine go ?_;intros;rename_i gs;refine Be rfl (fun h1=>?_) (fun h1=>?_)
 ·rw [show Bo n s=some (Pi n s.data,[]) by unfold Bo;rw [if_pos h1]];refine go ?_;intros;refine dsI [.cel g 0 [.slice a1 n.Al.Ad.length c1],.row gs 92 0 [] [.int .i64 s.Ct,.int .i64 s.node,.string s.data] []] [] ?_;refine dtI 0 (fun w h=>Uv (Ho (h (.row g _ 0 [] _ []) GO)) (h _ GO)) ?_;refine dtI 1 (fun w h=>Uv (Ho (h (.row g _ 0 [] _ []) GO)) (h _ GO)) ?_;refine dtI 2 (fun w h=>Uv (Ho (h (.row g _ 0 [] _ []) GO)) (h _ GO)) ?_;refine dtI 3 (fun w h=>Uv (Ho (h (.row g _ 0 [] _ []) GO)) (h _ GO)) ?_
  refine dtI 4 (fun w h=>Uv (Ho (h (.row g _ 0 [] _ []) GO)) (h _ GO)) ?_;refine dtI 6 (fun w h=>Uv (Ho (h (.row g _ 0 [] _ []) GO)) (h _ GO)) ?_;refine dtI 7 (fun w h=>Uv (Ho (h (.row g _ 0 [] _ []) GO)) (h _ GO)) ?_;refine dtI 8 (fun w h=>Uv (Ho (h (.row g _ 0 [] _ []) GO)) (h _ GO)) ?_;refine dtI 9 (fun w h=>Uv (Ho (h (.row g _ 0 [] _ []) GO)) (h _ GO)) ?_;refine dtI 10 (fun w h=>Uv (Ho (h (.row g _ 0 [] _ []) GO)) (h _ GO)) ?_;refine dN 5 ?_;refine oC ?_
  refine cfr (fun w st=>by obtain ⟨Fq,hq⟩:=Afv (st.get (p:=.ow Bc 3 (.slice a1 n.Al.Ad.length c1) n.Al.Ad F1) GO);exact ⟨_,I9 hq,rfl,Yp n.Al 0 _ Fq JX⟩) (fun u _=>?_);refine Ar ?_;refine A4 (E:=Bc) (xs:=H3 n.Al.Ad 0) fun Fk=>?_;refine dkI (fun w h=>Uv (Ho (h (.row g _ 0 [] _ []) GO)) (h _ GO)) ?_;refine dN 11 ?_;refine oC ?_
  refine cf (Avc (X:=[.slice a1 n.Al.Ad.length c1]) (cs:=[.int .i64 n.Aa.Ab.Ao,.int .i64 n.Aa.Ab.size,.slice a2 n.Aa.Ab.Ak.length c2,.int .i64 n.Aa.Ai,.int .i64 n.Aa.quiet,.slice a3 n.Aa.holds.length c3]) (Y:=[.slice a4 n.Ae.length c4,.slice a5 n.Ac.length c5,.slice a6 n.down.length c6,.slice a7 n.up.length c7]) (L:=[.slice a1 n.Al.Ad.length c1,.int .i64 n.Aa.Ab.Ao,.int .i64 n.Aa.Ab.size,.slice a2 n.Aa.Ab.Ak.length c2,.int .i64 n.Aa.Ai,.int .i64 n.Aa.quiet,.slice a3 n.Aa.holds.length c3,.slice a4 n.Ae.length c4,.slice a5 n.Ac.length c5,.slice a6 n.down.length c6,.slice a7 n.up.length c7]) (L':=fun z:SeS=>[.slice a1 n.Al.Ad.length c1,.int .i64 (Da n.Aa.Ab s.data).Ao,.int .i64 (Da n.Aa.Ab s.data).size,.slice z.a (Da n.Aa.Ab s.data).Ak.length z.c,.int .i64 n.Aa.Ai,.int .i64 0,.slice z.a2 (Nc (Da n.Aa.Ab s.data) n.Aa.holds).length z.c2,.slice a4 n.Ae.length c4,.slice a5 n.Ac.length c5,.slice a6 n.down.length c6,.slice a7 n.up.length c7]) (cs':=fun z:SeS=>[.int .i64 (Da n.Aa.Ab s.data).Ao,.int .i64 (Da n.Aa.Ab s.data).size,.slice z.a (Da n.Aa.Ab s.data).Ak.length z.c,.int .i64 n.Aa.Ai,.int .i64 0,.slice z.a2 (Nc (Da n.Aa.Ab s.data) n.Aa.holds).length z.c2]) (Ayo n.Aa.Ab s.data n.Aa.holds g 48 (0+1) _ _ a2 a3 c2 c3 n.Aa.Ai n.Aa.quiet F2 F3 hS.l hS.t0 hS.t1 hss hz1 hS.n) rfl rfl (fun _=>rfl)) fun z _=>?_
  refine Ar ?_;refine dkI (fun w h=>Uv (Ho (h (.row g _ 0 [] _ []) GO)) (h _ GO)) ?_;refine dN 12 ?_;apply Km;rfl;rfl;rfl;rfl;exact Ke;exact Jy;intro _;refine Ic (E:=Aj) (xs:=[Dm n.Aa.Ab s.data]) (C8 (Dm n.Aa.Ab s.data) hss) ?_ GL;refine A4 (E:=Aj) (xs:=[Dm n.Aa.Ab s.data]) fun Fp=>?_;refine dkI (fun w h=>Uv (Ho (h (.row g _ 0 [] _ []) GO)) (h _ GO)) ?_;refine dN 13 ?_;refine oC ?_;refine cf (Yr n.down (H3 n.Al.Ad 0) [Dm n.Aa.Ab s.data] g _ _ _ _ _ _ _ _ _ _ a6 _ c6 F6 _ _ Fk _ _ Fp rfl hkx) fun J6 _=>?_;refine Ar ?_
  refine dkI (fun w h=>Uv (Ho (h (.row g _ 0 [] _ []) GO)) (h _ GO)) ?_;refine dd ?_;refine go ?_;intros;refine ret (⟨a1,c1,F1,z.a,z.c,z.F,z.a2,z.c2,z.F2,a4,c4,F4,a5,c5,F5,a6,c6,J6,a7,c7,F7⟩,⟨0,none,0,[]⟩) trivial rfl
 refine go ?_;intros;refine Be rfl (fun h4=>?_) (fun h4=>?_)
 ·refine go ?_;intros;refine Be rfl (fun hc=>?_) (fun hc=>?_)
  ·rw [show Bo n s=none by unfold Bo;rw [if_neg h1,if_pos h4,if_pos hc]];exact EU
  ·rw [show Bo n s=some (Et n) by unfold Bo;rw [if_neg h1,if_pos h4,if_neg hc]];have hck:=Wy hG.s;refine go ?_;intros;refine cf (Ayj n g a1 c1 F1 a2 c2 F2 a3 c3 F3 a4 c4 F4 a5 c5 F5 a6 c6 F6 a7 c7 F7 FT hg GJ) fun z _=>?_;exact GD
 ·rw [show Bo n s=C0 n s by unfold Bo;rw [if_neg h1,if_neg h4]];have hf:Pm s.node=true:=by
   unfold Ek at hs;rw [if_neg h1,if_neg h4] at hs;simp only [Bool.and_eq_true] at hs;exact hs.1.2
  refine go ?_;intros;refine cf (Baj n s g a1 c1 F1 a2 c2 F2 a3 c3 F3 a4 c4 F4 a5 c5 F5 a6 c6 F6 a7 c7 F7 FT hg hf) fun z _=>?_;exact GD
theorem Agu (s:Jp) (hss:s.data.size≤maxLen):Fn prog 66 [.agg #[.int .i64 s.Ct,.int .i64 s.node,.string s.data]] [] [] (fun (_:Unit)=>True) (fun _=>.bool (Ek s)) (fun _=>[]):=by
 refine enter func66 rfl ntmps66 fun w0=>?_;refine go ?_;intros;refine Be rfl (fun h1=>?_) (fun h1=>?_)
 ·rw [show Ek s=(decide (s.node=0) && P9 s.data) by unfold Ek;rw [if_pos h1]];refine go ?_;intros;refine Dj rfl rfl (fun h2=>?_) (fun h2=>?_)
  ·refine go ?_;intros;refine cb (fun w st=>Z4 s.data w hss) ?_;exact CY
  ·exact CW
 refine go ?_;intros;refine Be rfl (fun h4=>?_) (fun h4=>?_)
 ·rw [show Ek s=(decide (s.node=0) && decide (s.data=⟨#[]⟩)) by unfold Ek;rw [if_neg h1,if_pos h4]];refine go ?_;intros;refine Dj rfl rfl (fun h2=>?_) (fun h2=>?_)
  ·exact CY
  ·exact CW
 rw [show Ek s=(Eu 1 s.Ct 6 && Pm s.node && decide (s.data=⟨#[]⟩)) by unfold Ek;rw [if_neg h1,if_neg h4]];refine go ?_;intros;refine Be rfl (fun k2=>?_) (fun k2=>?_)
 ·refine go ?_;intros;refine Be rfl (fun _=>?_) (fun hx=>absurd k2 hx);refine go ?_;intros;refine ce (fun w st=>T0 s.node _) ?_;cases g5:Pm s.node
  ·exact CD
  ·exact BQ
 ·refine go ?_;intros;refine Be rfl (fun k3=>?_) (fun k3=>?_)
  ·refine go ?_;intros;refine Be rfl (fun _=>?_) (fun hx=>absurd k3 hx);refine go ?_;intros;refine ce (fun w st=>T0 s.node _) ?_;cases g5:Pm s.node
   ·exact CD
   ·exact BQ
  ·refine go ?_;intros;refine Be rfl (fun k5=>?_) (fun k5=>?_)
   ·refine go ?_;intros;refine Be rfl (fun _=>?_) (fun hx=>absurd k5 hx);refine go ?_;intros;refine ce (fun w st=>T0 s.node _) ?_;cases g5:Pm s.node
    ·exact CD
    ·exact BQ
   ·refine go ?_;intros;refine Be rfl (fun k6=>?_) (fun k6=>?_)
    ·refine go ?_;intros;refine ce (fun w st=>T0 s.node _) ?_;cases g5:Pm s.node
     ·exact CD
     ·exact BQ
    ·refine go ?_;intros;refine ret () trivial ?_;rw [show Eu 1 s.Ct 6=false by unfold Eu;simp;omega];rfl
def P6:Dt:=⟨⟨[]⟩,Anh,[],[],[],[]⟩
theorem Hw {n:Dt} (h:Aw n=true):(∀x∈n.Ae,Ba x=true)∧(∀x∈n.Ac,Bz x=true)∧(∀q∈n.down,Ey q=true)∧∀q∈n.up,Ey q=true:=by
 have hG:=Ay.1 h;obtain ⟨q1,q2,q3,q4⟩:=Bk.1 hG.l;refine ⟨fun x hx=>?_,fun x hx=>?_,fun x hx=>?_,fun x hx=>?_⟩
 all_goals
  obtain ⟨i,hi,rfl⟩:=List.getElem_of_mem hx;obtain ⟨h1,h2,h3,h4,r⟩:=hG.rn (i:=i) GJ
 ·by_cases e:i=0
  ·exact Us (r.hz e).1
  ·cases l:Ed n.Al.Ad ((i:Nat):Int)
   ·exact (r.hn e l).1
   ·exact Us (r.hf e l).1
 ·by_cases e:i=0
  ·exact Ut (r.hz e).2.1
  ·cases l:Ed n.Al.Ad ((i:Nat):Int)
   ·exact Ut (r.hn e l).2.2
   ·exact (r.hf e l).2.1
 ·exact r.hd
 ·exact r.hu
theorem C6 {q:List Av} (h:Ey q=true):q.length≤6∧∀p∈q,By p=true:=by
 unfold Ey at h;simpa [List.all_eq_true] using h
theorem Ti {n:Dt} (h:Aw n=true):Aei n:=by
 have hG:=Ay.1 h;have h8:=(Gn hG.t).n1;obtain ⟨q1,q2,q3,q4⟩:=Bk.1 hG.l;have hS:=Kx hG.s;have hl:=hS.l;have hm:=hS.m;obtain ⟨e1,e2,e3,e4⟩:=Hw h;refine ⟨GJ,GJ,GJ,GJ,fun x hx=>?_,fun x hx y hy=>?_,GJ,fun x hx=>⟨?_,?_⟩,GJ,fun q hq=>?_,GJ,fun q hq=>?_⟩
 ·have:=(Gp.1 (e1 x hx)).2.1;omega
 ·have:=(Ty (e1 x hx)).2.2 y hy;omega
 ·have:=(J0 (D9.1 (e2 x hx)).w).1;omega
 ·have:=(C9.1 (D9.1 (e2 x hx)).q).2.1;omega
 ·have:=(C6 (e3 q hq)).1;omega
 ·have:=(C6 (e4 q hq)).1;omega
theorem Adb (n:Dt):∀k,(Bf n k).1.Al=n.Al
 | 0=>rfl
 | k+1=>(Agg _ _).1.trans (Adb n k)
theorem Rt {n:Dt} {s:Jp} {r:Dt × List ByteArray} (hr:Bo n s=some r):r.1.Al=n.Al:=by
 have hd:∀(n:Dt) i p,(Cq n i p).1.Al=n.Al:=fun n i p=>by unfold Cq;split <;> rfl
 have hu:∀(n:Dt) i p,(Oy n i p).Al=n.Al:=fun n i p=>by unfold Oy;split <;> rfl
 have hp:(Ga n s).Al=n.Al:=by unfold Ga;split <;> rfl
 unfold Bo C0 at hr
 split at hr
 ·cases hr;rfl
 split at hr
 ·split at hr
  ·cases hr
  ·cases hr;exact Adb n _
 split at hr
 ·cases hr
 split at hr
 ·cases hr
 split at hr
 ·cases hr;exact (hd _ _ _).trans hp
 split at hr
 ·cases hr;exact (hu _ _ _).trans hp
 ·cases hr;exact hp
theorem Azm {n m:Dt} (h1:Aw n=true) (h2:Aw m=true) (h:m.Al=n.Al):n.Al.Ad.length=m.Al.Ad.length∧n.Ae.length=m.Ae.length∧n.Ac.length=m.Ac.length∧n.down.length=m.down.length∧n.up.length=m.up.length:=by
 obtain ⟨p1,p2,p3,p4⟩:=Bk.1 (Ay.1 h1).l;obtain ⟨q1,q2,q3,q4⟩:=Bk.1 (Ay.1 h2).l;rw [h] at q1 q2 q3 q4;exact ⟨by rw [h],GJ,GJ,GJ,GJ⟩
def Cj (n:Dt) (s:Jp):Dt × List ByteArray × Bool:=if Aw n && Ek s then (match Bo n s with
 | some r=>(r.1,r.2,true)
 | none=>(P6,[],false)) else (P6,[],false)
def okQ (up:Bool) (p:Av):Bool:=By p && (!up || decide (p.Ct=3))
theorem Aqf (up:Bool) (l:List Av):(l.all (okQ up) && decide (l.length≤6))=(Ey l && (!up || Zg l)):=by
 have h:l.all (okQ up)=(l.all By && (!up || Zg l)):=by
  unfold Zg okQ
  induction l with
  | nil=>cases up <;> rfl
  | cons p l ih =>
   simp only [List.all_cons,ih];cases By p <;> cases up <;> cases decide (p.Ct=3) <;> cases l.all By <;> simp
 rw [h];unfold Ey;cases decide (l.length≤6) <;> cases l.all By <;> simp
theorem Awg {up:Bool} {l:List Av} {k:Nat} (h:k < l.length) (hp:okQ up l[k]=false):(Ey l && (!up || Zg l))=false:=by
 rw [←Aqf,show l.all (okQ up)=false from List.all_eq_false.2 ⟨l[k],List.getElem_mem h,IR⟩];rfl
theorem Afd (l:List Av) (up:Bool) (a:Option Addr) (c:Nat) (F:List Nat) (hl:l.length≤9223372036854775807):Fn prog 133 [.slice a l.length c,.bool up] [.sl Aj (.slice a l.length c) l F] [] (fun (_:Unit)=>True) (fun _=>.bool (Ey l && (!up || Zg l))) (fun _=>[]):=by
 refine enter func133 rfl ntmps133 fun w0=>?_;refine go ?_;intros;refine Ev [0,1,4] (fun k:Nat=>[(5,.int .i64 (k:Nat))]) (fun k=>k≤l.length∧∀j,j < k→∀h:j < l.length,okQ up l[j]=true) (fun k=>l.length - k) 0 ⟨Nat.zero_le _,fun j h=>by omega⟩ fun k hk=>?_;obtain ⟨hk1,hk2⟩:=hk;refine go ?_;intros;refine Be rfl (fun h1=>?_) (fun h1=>?_)
 ·have hh:k < l.length:=by omega
  refine Qh (xs:=l) k ?_;rintro hi b o e1 s1;rw [e1];refine go ?_;intros;refine cf (Alw l[k] s1) fun _ _=>?_;refine Ar ?_;cases g:By l[k]
  ·rw [Awg hh (by unfold okQ;rw [g];rfl)];exact AB
  cases up
  ·refine go ?_;intros;refine Cu (k+1) ⟨hh,fun j hj h=>?_⟩ HV;rcases Nat.lt_or_eq_of_le (Nat.lt_succ_iff.1 hj) with h'|rfl
   ·exact hk2 j h' h
   ·unfold okQ;rw [g];rfl
  ·refine go ?_;intros;refine Be rfl (fun h3=>?_) (fun h3=>?_)
   ·rw [Awg hh (by unfold okQ;rw [g,decide_eq_false h3];rfl)];exact AB
   ·refine go ?_;intros;refine Cu (k+1) ⟨hh,fun j hj h=>?_⟩ HV;rcases Nat.lt_or_eq_of_le (Nat.lt_succ_iff.1 hj) with h'|rfl
    ·exact hk2 j h' h
    ·unfold okQ;rw [g,decide_eq_true GJ];rfl
 ·obtain rfl:k=l.length:=by omega
  refine go ?_;intros;refine ret () trivial ?_;rw [←Aqf,show l.all (okQ up)=true from List.all_eq_true.2 fun p hp=>by obtain ⟨j,hj,rfl⟩:=List.getElem_of_mem hp;exact hk2 j hj hj,Bool.true_and];by_cases h6:l.length≤6
  ·rw [decide_eq_true h6,decide_eq_true GJ];rfl
  ·rw [decide_eq_false h6,decide_eq_false GJ];rfl
theorem Vp (e:Bl) (v:Value) (F:List Nat):Fn prog 296 [v] [.isv Bt v e F] [] (fun (_:Unit)=>True) (fun _=>.bool (Md e)) (fun _=>[]):=by
 refine enter func296 rfl ntmps296 fun w0=>?_;refine Ig ?_;rintro a1 c1 F1 rfl l1;refine go ?_;intros;refine Dj rfl rfl (fun h1=>?_) (fun h1=>?_)
 ·refine go ?_;intros;refine ret () trivial ?_;unfold Md;rw [decide_eq_true h1,Bool.true_and];by_cases h:e.Ah.length=0
  ·rw [decide_eq_true h,decide_eq_true GJ];rfl
  ·rw [decide_eq_false h,decide_eq_false GJ];rfl
 ·refine go ?_;intros;refine ret () trivial ?_;unfold Md;rw [decide_eq_false h1];rfl
theorem Bb9 (p:Av) (hs:p.data.size≤maxLen):Fn prog 335 [.agg #[.int .i64 (p).Ct,.int .i64 (p).Af,.int .i64 (p).Ao,.int .i64 (p).Ff,.string (p).data]] [] [] (fun (_:Unit)=>True) (fun _=>.bool (!By p)) (fun _=>[]):=by
 refine enter func335 rfl ntmps335 fun w0=>?_;refine go ?_;intros;refine cf (Vk p hs) fun _ _=>?_;refine Ar ?_;exact AB
theorem Ah2 (l:List Av) (a:Option Addr) (c:Nat) (F:List Nat):Fn prog 293 [.slice a l.length c] [.sl Aj (.slice a l.length c) l F] [] (fun (_:Unit)=>True) (fun _=>.bool (Ey l)) (fun _=>[]):=by
 refine enter func293 rfl ntmps293 fun w0=>?_;refine Akc (E:=Aj) (fun p:Av=>p.data.size≤maxLen) (fun w cs x F h=>by obtain ⟨_,h,_⟩:=h;exact h) ?_;intro hz;refine go ?_;intros;refine Dj rfl rfl (fun h1=>?_) (fun h1=>?_)
 ·refine go ?_;intros;refine cb (fun w st=>(Apn 335 [] [] [] rfl l a c F (fun p=>!By p) GK GJ (fun p hp w _=>(Bb9 p (hz p hp)).val w (by intro q hq;cases hq))).val w (I9 (st.get (p:=.sl Aj (.slice a l.length c) l F) GO))) ?_;refine go ?_;intros;refine ret () trivial ?_;unfold Ey;rw [decide_eq_true (show l.length≤6 by omega),List.not_any_eq_all_not];simp;rfl
 ·refine go ?_;intros;refine ret () trivial ?_;unfold Ey;rw [decide_eq_false (show ¬l.length≤6 by omega)];rfl
theorem T3 (r:A9) (v:Value) (F:List Nat):Fn prog 297 [v] [.isv B4 v r F] [] (fun (_:Unit)=>True) (fun _=>.bool (So r)) (fun _=>[]):=by
 have key:∀b:Bool,(b=(!r.Bd && decide (r.Ai=0) && (decide (r.Ab.next=0) && decide (r.Ab.Ap.length=0) && decide (r.Am.length=0))))→b=So r:=fun b h=>h;refine enter func297 rfl ntmps297 fun w0=>?_;refine Gt ?_;rintro a1 c1 F1 a2 c2 F2 rfl l1 l2;unfold maxLen at l1 l2;cases hs:r.Bd <;> rw [hs] at key
 ·refine go ?_;intros;refine Dj rfl rfl (fun h1=>?_) (fun h1=>?_)
  ·refine go ?_;intros;refine Dj rfl rfl (fun h2=>?_) (fun h2=>?_)
   ·refine go ?_;intros;refine Dj rfl rfl (fun h3=>?_) (fun h3=>?_)
    ·refine go ?_;intros;refine ret () trivial ?_;rw [←key (decide ((r.Am.length:Int)=0)) (by simp [h1,h2,show r.Ab.Ap.length=0 by omega])];rfl
    ·refine go ?_;intros;refine ret () trivial ?_;rw [←key false (by simp [show ¬r.Ab.Ap=[] from fun e=>h3 (by rw [e];rfl)])];rfl
   ·refine go ?_;intros;refine ret () trivial ?_;rw [←key false (by simp [h2])];rfl
  ·refine go ?_;intros;refine ret () trivial ?_;rw [←key false (by simp [h1])];rfl
 ·refine go ?_;intros;refine ret () trivial ?_;rw [←key false GL];rfl
theorem Bb8 (p:Av):Fn prog 295 [.agg #[.int .i64 (p).Ct,.int .i64 (p).Af,.int .i64 (p).Ao,.int .i64 (p).Ff,.string (p).data]] [] [] (fun (_:Unit)=>True) (fun _=>.bool (!decide (p.Ct=3))) (fun _=>[]):=by
 refine enter func295 rfl ntmps295 fun w0=>?_;refine go ?_;intros;refine ret () trivial ?_;rw [←decide_not];rfl
theorem Bao (l:List Av):(l.any fun p=>!decide (p.Ct=3)) = !Zg l:=by
 unfold Zg;rw [List.not_all_eq_any_not]
theorem Ap8 {α:Type} (l:List α):decide ((l.length:Int)=0)=decide (l.length=0):=by
 by_cases h:l.length=0
 ·rw [decide_eq_true h,decide_eq_true GJ]
 ·rw [decide_eq_false h,decide_eq_false GJ]
theorem Aww {par:List Int} {clk:Int} {i:Nat} {e:Bl} {r:A9} {d u:List Av} (h:(Ey d && Ey u && Zg u)=false):P2 par clk i e r d u=false:=by unfold P2;rw [h];rfl
theorem Bcp {par:List Int} {clk:Int} {i:Nat} {e:Bl} {r:A9} {d u:List Av} (h:(Ey d && Ey u && Zg u)=true):P2 par clk i e r d u=(if i=0 then Md e && So r && decide (d.length=0) && decide (u.length=0)
  else if Ed par i then Md e && Bz r && decide (r.Ai=clk) else Ba e && decide (e.Ai=clk) && So r):=by unfold P2;rw [h,Bool.true_and]
theorem Ag1 (n:Dt) (i:Nat) (v:Value) (F:List Nat) (hl:Lc n=true) (hi:i < n.Al.Ad.length):Fn prog 235 [v,.int .i64 (i:Nat)] [.isv O1 v n F] [] (fun (_:Unit)=>True) (fun _=>.bool (Rx n i)) (fun _=>[]):=by
 obtain ⟨q1,q2,q3,q4⟩:=Bk.1 hl;rw [Tt GJ GJ GJ GJ];refine enter func235 rfl ntmps235 fun w0=>?_;refine Ia ?_;rintro a1 c1 F1 a2 c2 F2 a3 c3 F3 a4 c4 F4 a5 c5 F5 a6 c6 F6 a7 c7 F7 rfl l1 l2 l3 l4 l5 l6 l7;unfold maxLen at l1 l2 l3 l4 l5 l6 l7;refine Kq n.Al ?_;refine Pr (xs:=n.Ae) i ?_;rintro hi4 b4 o4 a8 c8 F8 rfl l8;refine Mg n.Ae[i] ?_;refine Jt (xs:=n.Ac) i ?_;rintro hi5 b5 o5 a9 c9 F9 a10 c10 F10 rfl l9 l10;refine Ee n.Ac[i] ?_;refine O6 (E:=Aj) (hz:=GM) (xs:=n.down) i ?_;rintro hi6 b6 o6 a11 c11 F11 rfl l11
 refine O6 (E:=Aj) (hz:=GM) (xs:=n.up) i ?_;rintro hi7 b7 o7 a12 c12 F12 rfl l12;unfold maxLen at l8 l9 l10 l11 l12;refine go ?_;intros;refine Eg [1,2,4] [0,1,2,3,4,5,6,7,8,9,10,11,12,13,14,15,16,17,18,19,20] (fun z:Nat × Nat=>[(5,Hm z.1 0 0),(6,Hm z.2 0 0)]) (fun z=>[.row z.1 110 0 [] [.int .i64 n.Ae[i].Ai,.slice a8 n.Ae[i].Ah.length c8] [],.row z.2 117 0 [] [.bool n.Ac[i].Bd,.int .i64 n.Ac[i].Ai,.int .i64 n.Ac[i].Ab.next,.slice a9 n.Ac[i].Ab.Ap.length c9,.slice a10 n.Ac[i].Am.length c10] []]) (fun _=>True) ?_ fun z _=>?_
 ·refine At [0,6,10] [] ?_;refine Dk 0 1 2 3 ?_;refine Dk 4 5 6 7 ?_;refine Dy 8 9 ?_;refine dM 10 11 ?_ ?_
  ·apply Co;rfl;intro _;refine dk ?_;refine dN 11 ?_;exact AV
  ·apply Co;rfl;intro _;refine dk ?_;refine dN 10 ?_;exact AV
 refine go ?_;intros;refine cf (Ah2 n.down[i] _ _ F11) fun _ _=>?_;refine Ar ?_;cases g1:Ey n.down[i]
 ·rw [Aww (by rw [g1];rfl)];exact AB
 refine go ?_;intros;refine cf (Ah2 n.up[i] _ _ F12) fun _ _=>?_;refine Ar ?_;cases g2:Ey n.up[i]
 ·rw [Aww (by rw [g1,g2];rfl)];exact AB
 have u6:n.up[i].length≤6:=by
  unfold Ey at g2;simp only [Bool.and_eq_true,decide_eq_true_eq] at g2;exact g2.1
 refine go ?_;intros;refine cb (fun w st=>(Apn 295 [] [] [] rfl n.up[i] a12 c12 F12 (fun p=>!decide (p.Ct=3)) GK GJ (fun p hp w _=>(Bb8 p).val w (by intro q hq;cases hq))).val w (I9 (st.get (p:=.sl Aj (.slice a12 n.up[i].length c12) n.up[i] F12) GO))) ?_;rw [Bao];cases g3:Zg n.up[i]
 ·rw [Aww (by rw [g1,g2,g3];rfl)];exact AB
 rw [Bcp (by rw [g1,g2,g3];rfl)];refine go ?_;intros;refine Be rfl (fun h0=>?_) (fun h0=>?_)
 ·obtain rfl:i=0:=by omega
  rw [if_pos rfl];refine go ?_;intros;refine cf (Vp n.Ae[0] _ F8) fun _ _=>?_;refine Ar ?_;cases g4:Md n.Ae[0]
  ·exact AB
  refine go ?_;intros;refine cf (T3 n.Ac[0] _ (F9++F10)) fun _ _=>?_;refine Ar ?_;cases g5:So n.Ac[0]
  ·exact AB
  refine go ?_;intros;refine Dj rfl rfl (fun h6=>?_) (fun h6=>?_)
  ·refine go ?_;intros;refine ret () trivial ?_;rw [←Ap8 n.down[0],←Ap8 n.up[0],decide_eq_true h6];rfl
  ·refine go ?_;intros;refine ret () trivial ?_;rw [←Ap8 n.down[0],decide_eq_false h6];rfl
 rw [if_neg GJ];refine go ?_;intros;refine cf (Wg n.Al i _ F1) fun _ _=>?_;refine Ar ?_;cases g6:Ed n.Al.Ad i
 ·rw [if_neg GM];refine go ?_;intros;refine cb (fun w st=>To _ n.Ae[i] F8 w (st.get (p:=.isv Bt (.agg #[.int .i64 n.Ae[i].Ai,.slice a8 n.Ae[i].Ah.length c8]) n.Ae[i] F8) GO)) ?_;cases g4:Ba n.Ae[i]
  ·exact AB
  refine go ?_;intros;refine Dj rfl rfl (fun h7=>?_) (fun h7=>?_)
  ·refine go ?_;intros;refine cf (T3 n.Ac[i] _ (F9++F10)) fun _ _=>?_;refine Ar ?_;refine go ?_;intros;refine ret () trivial ?_;rw [decide_eq_true h7];rfl
  ·refine go ?_;intros;refine ret () trivial ?_;rw [decide_eq_false h7];rfl
 ·rw [if_pos rfl];refine go ?_;intros;refine cf (Vp n.Ae[i] _ F8) fun _ _=>?_;refine Ar ?_;cases g4:Md n.Ae[i]
  ·exact AB
  refine go ?_;intros;refine cf (Sv n.Ac[i] _ (F9++F10)) fun _ _=>?_;refine Ar ?_;cases g5:Bz n.Ac[i]
  ·exact AB
  exact AB
theorem Ajc (n:Dt) (v:Value) (F:List Nat):Fn prog 175 [v] [.isv O1 v n F] [] (fun (_:Unit)=>True) (fun _=>.bool (Aw n)) (fun _=>[]):=by
 refine enter func175 rfl ntmps175 fun w0=>?_;refine Ia ?_;rintro a1 c1 F1 a2 c2 F2 a3 c3 F3 a4 c4 F4 a5 c5 F5 a6 c6 F6 a7 c7 F7 rfl l1 l2 l3 l4 l5 l6 l7;unfold maxLen at l1 l2 l3 l4 l5 l6 l7;refine Kq n.Al ?_;refine Gf n.Aa ?_;refine go ?_;intros;refine cf (Te n.Al _ F1) fun _ _=>?_;refine Ar ?_;cases g1:Gg n.Al
 ·rw [show Aw n=false by unfold Aw;rw [g1];rfl];exact AB
 refine go ?_;intros;refine cf (Vm n.Aa _ (F2++F3)) fun _ _=>?_;refine Ar ?_;cases g2:Ch n.Aa
 ·rw [show Aw n=false by unfold Aw;rw [g1,g2];rfl];exact AB
 refine go ?_;intros;refine Dj rfl rfl (fun m0=>?_) (fun m0=>?_)
 ·rw [show Aw n=false by
   have:Lc n=false:=by
    cases hl:Lc n
    ·rfl
    ·obtain ⟨q1,q2,q3,q4⟩:=Bk.1 hl;exact absurd GJ m0
   unfold Aw;rw [this];simp]
  exact AB
 refine go ?_;intros;refine Dj rfl rfl (fun m1=>?_) (fun m1=>?_)
 ·rw [show Aw n=false by
   have:Lc n=false:=by
    cases hl:Lc n
    ·rfl
    ·obtain ⟨q1,q2,q3,q4⟩:=Bk.1 hl;exact absurd GJ m1
   unfold Aw;rw [this];simp]
  exact AB
 refine go ?_;intros;refine Dj rfl rfl (fun m2=>?_) (fun m2=>?_)
 ·rw [show Aw n=false by
   have:Lc n=false:=by
    cases hl:Lc n
    ·rfl
    ·obtain ⟨q1,q2,q3,q4⟩:=Bk.1 hl;exact absurd GJ m2
   unfold Aw;rw [this];simp]
  exact AB
 refine go ?_;intros;refine Be rfl (fun m3=>?_) (fun m3=>?_)
 ·rw [show Aw n=false by
   have:Lc n=false:=by
    cases hl:Lc n
    ·rfl
    ·obtain ⟨q1,q2,q3,q4⟩:=Bk.1 hl;exact absurd GJ m3
   unfold Aw;rw [this];simp]
  exact AB
 have q1:n.Ae.length=n.Al.Ad.length:=by omega
 have q2:n.Ac.length=n.Al.Ad.length:=by omega
 have q3:n.down.length=n.Al.Ad.length:=by omega
 have q4:n.up.length=n.Al.Ad.length:=by omega
 have hl:=Bk.2 ⟨q1,q2,q3,q4⟩;refine go ?_;intros;refine Ev [1,2,47] (fun k:Nat=>[(48,.int .i64 (k:Nat))]) (fun k=>k≤n.Al.Ad.length∧∀j,j < k→Rx n j=true) (fun k=>n.Al.Ad.length - k) 0 ⟨Nat.zero_le _,fun j h=>by omega⟩ fun k hk=>?_;obtain ⟨hk1,hk2⟩:=hk;refine go ?_;intros;refine Be rfl (fun h1=>?_) (fun h1=>?_)
 ·have hh:k < n.Al.Ad.length:=by omega
  refine go ?_;intros;refine cf (Ag1 n k _ F hl hh) fun _ _=>?_;refine Ar ?_;cases g:Rx n k
  ·rw [Ae2 hh g];exact AB
  refine go ?_;intros;refine Cu (k+1) ⟨hh,fun j hj=>?_⟩ HF;rcases Nat.lt_or_eq_of_le (Nat.lt_succ_iff.1 hj) with h|rfl
  ·exact hk2 j h
  ·exact g
 ·obtain rfl:k=n.Al.Ad.length:=by omega
  refine go ?_;intros;refine ret () trivial ?_;rw [Sy.2 ⟨g1,g2,hl,hk2⟩];rfl
theorem Aqm {par:List Int} {clk:Int} {i:Nat} {e:Bl} {r:A9} {d u:List Av} (h:(Ba e && Bz r && Ey d && (Ey u && Zg u))=false):P2 par clk i e r d u=false:=by rw [←Aby];unfold Af1;rw [h];rfl
theorem Bcq {par:List Int} {clk:Int} {i:Nat} {e:Bl} {r:A9} {d u:List Av} (h:(Ba e && Bz r && Ey d && (Ey u && Zg u))=true):P2 par clk i e r d u=(if i=0 then Md e && (!r.Bd && decide (r.Ai=0)) && decide (d.length+u.length=0)
  else if Ed par i then Md e && decide (r.Ai=clk) else (!r.Bd && decide (r.Ai=0)) && decide (e.Ai=clk)):=by rw [←Aby];unfold Af1;rw [h,Bool.true_and]
theorem Azh (n:Dt) (i:Nat) (v:Value) (F:List Nat) (hl:Lc n=true) (hi:i < n.Al.Ad.length) (hg:Tn n.Al.Ad):Fn prog 80 [v,.int .i64 (i:Nat)] [.isv O1 v n F] [] (fun (_:Unit)=>True) (fun _=>.bool (Rx n i)) (fun _=>[]):=by
 obtain ⟨q1,q2,q3,q4⟩:=Bk.1 hl;rw [Tt GJ GJ GJ GJ];refine enter func80 rfl ntmps80 fun w0=>?_;refine Ia ?_;rintro a1 c1 F1 a2 c2 F2 a3 c3 F3 a4 c4 F4 a5 c5 F5 a6 c6 F6 a7 c7 F7 rfl l1 l2 l3 l4 l5 l6 l7;unfold maxLen at l1 l2 l3 l4 l5 l6 l7;refine Kq n.Al ?_;refine Pr (xs:=n.Ae) i ?_;rintro hi4 b4 o4 a8 c8 F8 rfl l8;refine Mg n.Ae[i] ?_;refine Jt (xs:=n.Ac) i ?_;rintro hi5 b5 o5 a9 c9 F9 a10 c10 F10 rfl l9 l10;refine Ee n.Ac[i] ?_;refine O6 (E:=Aj) (hz:=GM) (xs:=n.down) i ?_;rintro hi6 b6 o6 a11 c11 F11 rfl l11
 refine O6 (E:=Aj) (hz:=GM) (xs:=n.up) i ?_;rintro hi7 b7 o7 a12 c12 F12 rfl l12;unfold maxLen at l8 l9 l10 l11 l12;refine go ?_;intros;refine Eg [1,2,4] [0,1,2,3,4,5,6,7,8,9,10,11,12,13,14,15,16,17,18,19,20] (fun z:Nat × Nat=>[(5,Hm z.1 0 0),(6,Hm z.2 0 0)]) (fun z=>[.row z.1 110 0 [] [.int .i64 n.Ae[i].Ai,.slice a8 n.Ae[i].Ah.length c8] [],.row z.2 117 0 [] [.bool n.Ac[i].Bd,.int .i64 n.Ac[i].Ai,.int .i64 n.Ac[i].Ab.next,.slice a9 n.Ac[i].Ab.Ap.length c9,.slice a10 n.Ac[i].Am.length c10] []]) (fun _=>True) ?_ fun z _=>?_
 ·refine At [0,6,10] [] ?_;refine Dk 0 1 2 3 ?_;refine Dk 4 5 6 7 ?_;refine Dy 8 9 ?_;refine dM 10 11 ?_ ?_
  ·apply Co;rfl;intro _;refine dk ?_;refine dN 11 ?_;exact AV
  ·apply Co;rfl;intro _;refine dk ?_;refine dN 10 ?_;exact AV
 refine go ?_;intros;refine cb (fun w st=>Ah7 _ n.Ae[i] F8 w (st.get (p:=.isv Bt (.agg #[.int .i64 n.Ae[i].Ai,.slice a8 n.Ae[i].Ah.length c8]) n.Ae[i] F8) GO)) ?_;cases g1:Ba n.Ae[i]
 ·rw [Aqm (by rw [g1];rfl)];exact AB
 refine go ?_;intros;refine cf (Ah6 n.Ac[i] _ (F9++F10)) fun _ _=>?_;refine Ar ?_;cases g2:Bz n.Ac[i]
 ·rw [Aqm (by rw [g1,g2];rfl)];exact AB
 refine go ?_;intros;refine cf (Afd n.down[i] false _ _ F11 GJ) fun _ _=>?_;refine Ar ?_;rw [show (Ey n.down[i] && (!false || Zg n.down[i]))=Ey n.down[i] by simp];cases g3:Ey n.down[i]
 ·rw [Aqm (by rw [g1,g2,g3];rfl)];exact AB
 refine go ?_;intros;refine cf (Afd n.up[i] true _ _ F12 GJ) fun _ _=>?_;refine Ar ?_;rw [show (Ey n.up[i] && (!true || Zg n.up[i]))=(Ey n.up[i] && Zg n.up[i]) by simp];cases g4:(Ey n.up[i] && Zg n.up[i])
 ·rw [Aqm (by rw [g1,g2,g3,g4];rfl)];exact AB
 rw [Bcq (by rw [g1,g2,g3,g4];rfl)]
 repeat (first|apply Sx|(apply wO;apply oc;rfl;exact ydE)|apply Aav|apply Adm|(apply Aph;rfl;rfl)|(apply Apg;rfl;rfl;rfl;rfl)|(apply Api;rfl;rfl;rfl)|(apply c_t;rfl)|(apply c_f;rfl)|apply V9|apply Sw|apply Afk)
 refine Eg [1,2,4,5,6] [0,1,2,3,4,5,6,7,8,9,10,11,12,13,14,15,16,17,18,19,20,21,22] (fun _:Unit=>[(7,.bool (Md n.Ae[i]))]) (fun _=>[]) (fun _=>True) ?_ fun _ _=>?_
 ·refine go ?_;intros;refine Dj rfl rfl (fun h1=>?_) (fun h1=>?_)
  ·refine go ?_;intros;rw [show decide ((n.Ae[i].Ah.length:Int)=0)=Md n.Ae[i] by unfold Md;rw [decide_eq_true h1,Ap8];rfl];refine Bw () trivial
  ·refine go ?_;intros;rw [show false=Md n.Ae[i] by unfold Md;rw [decide_eq_false h1];rfl];refine Bw () trivial
 repeat (first|apply Sx|(apply wO;apply oc;rfl;exact ydE)|apply Aav|apply Adm|(apply Aph;rfl;rfl)|(apply Apg;rfl;rfl;rfl;rfl)|(apply Api;rfl;rfl;rfl)|(apply c_t;rfl)|(apply c_f;rfl)|apply V9|apply Sw|apply Afk)
 refine Eg [1,2,4,5,6,7] [0,1,2,3,4,5,6,7,8,9,10,11,12,13,14,15,16,17,18,19,20,21,22] (fun _:Unit=>[(8,.bool (!n.Ac[i].Bd && decide (n.Ac[i].Ai=0)))]) (fun _=>[]) (fun _=>True) ?_ fun _ _=>?_
 ·cases hs:n.Ac[i].Bd
  ·exact BV
  ·exact BV
 refine Ar ?_;generalize hzr:(!n.Ac[i].Bd && decide (n.Ac[i].Ai=0))=zr;refine go ?_;intros;refine Be rfl (fun h0=>?_) (fun h0=>?_)
 ·obtain rfl:i=0:=by omega
  rw [if_pos rfl];have hd6:(n.down[0].length:Int)+(n.up[0].length:Int)≤12:=by
   unfold Ey at g3 g4;simp only [Bool.and_eq_true,decide_eq_true_eq] at g3 g4;omega
  cases hze:Md n.Ae[0] <;> cases zr
  ·refine go ?_;intros;refine At [2,3,5] [] ?_;refine Dy 0 1 ?_;refine ds 2 ?_;exact BA
  ·refine go ?_;intros;refine At [2,3,5] [] ?_;refine Dy 0 1 ?_;refine ds 2 ?_;exact BA
  ·refine go ?_;intros;refine At [2,3,5] [] ?_;refine Dy 0 1 ?_;refine Di 2 ?_;exact BA
  ·refine go ?_;intros;refine At [2,3,5] [] ?_;refine Dy 0 1 ?_;refine Di 2 ?_;refine Dy 3 4 ?_;refine Di 5 ?_;refine Di 6 ?_;refine Di 7 ?_;refine Di 8 ?_;refine Di 9 ?_;refine Di 10 ?_;refine Di 11 ?_;refine Di 12 ?_;refine Di 13 ?_;refine Di 14 ?_;refine Di 15 ?_;refine Di 16 ?_;refine Dy 17 18 ?_;refine dd ?_;refine go ?_;intros;refine ret () trivial ?_;rw [show decide ((n.down[0].length:Int)+(n.up[0].length:Int)=0)=decide (n.down[0].length+n.up[0].length=0) by congr 1;rw [eq_iff_iff];omega];rfl
 rw [if_neg GJ];refine go ?_;intros;refine cf (Nt n.Al i _ F1 hg GJ) fun _ _=>?_;refine Ar ?_;cases g6:Ed n.Al.Ad i
 ·rw [if_neg GM];cases zr
  ·exact AB
  ·exact AB
 ·rw [if_pos rfl];cases hze:Md n.Ae[i]
  ·exact AB
  ·exact AB
theorem Abl (n:Dt) (v:Value) (F:List Nat):Fn prog 41 [v] [.isv O1 v n F] [] (fun (_:Unit)=>True) (fun _=>.bool (Aw n)) (fun _=>[]):=by
 refine enter func41 rfl ntmps41 fun w0=>?_;refine Ia ?_;rintro a1 c1 F1 a2 c2 F2 a3 c3 F3 a4 c4 F4 a5 c5 F5 a6 c6 F6 a7 c7 F7 rfl l1 l2 l3 l4 l5 l6 l7;unfold maxLen at l1 l2 l3 l4 l5 l6 l7;refine Kq n.Al ?_;refine Gf n.Aa ?_;refine go ?_;intros;refine cf (Afe n.Al _ F1) fun _ _=>?_;refine Ar ?_;cases g1:Gg n.Al
 ·rw [show Aw n=false by unfold Aw;rw [g1];rfl];exact AB
 refine go ?_;intros;refine cf (Ah5 n.Aa _ (F2++F3)) fun _ _=>?_;refine Ar ?_;cases g2:Ch n.Aa
 ·rw [show Aw n=false by unfold Aw;rw [g1,g2];rfl];exact AB
 refine go ?_;intros;refine Dj rfl rfl (fun m0=>?_) (fun m0=>?_)
 ·rw [show Aw n=false by
   have:Lc n=false:=by
    cases hl:Lc n
    ·rfl
    ·obtain ⟨q1,q2,q3,q4⟩:=Bk.1 hl;exact absurd GJ m0
   unfold Aw;rw [this];simp]
  exact AB
 refine go ?_;intros;refine Dj rfl rfl (fun m1=>?_) (fun m1=>?_)
 ·rw [show Aw n=false by
   have:Lc n=false:=by
    cases hl:Lc n
    ·rfl
    ·obtain ⟨q1,q2,q3,q4⟩:=Bk.1 hl;exact absurd GJ m1
   unfold Aw;rw [this];simp]
  exact AB
 refine go ?_;intros;refine Dj rfl rfl (fun m2=>?_) (fun m2=>?_)
 ·rw [show Aw n=false by
   have:Lc n=false:=by
    cases hl:Lc n
    ·rfl
    ·obtain ⟨q1,q2,q3,q4⟩:=Bk.1 hl;exact absurd GJ m2
   unfold Aw;rw [this];simp]
  exact AB
 refine go ?_;intros;refine Be rfl (fun m3=>?_) (fun m3=>?_)
 ·rw [show Aw n=false by
   have:Lc n=false:=by
    cases hl:Lc n
    ·rfl
    ·obtain ⟨q1,q2,q3,q4⟩:=Bk.1 hl;exact absurd GJ m3
   unfold Aw;rw [this];simp]
  exact AB
 have q1:n.Ae.length=n.Al.Ad.length:=by omega
 have q2:n.Ac.length=n.Al.Ad.length:=by omega
 have q3:n.down.length=n.Al.Ad.length:=by omega
 have q4:n.up.length=n.Al.Ad.length:=by omega
 have hl:=Bk.2 ⟨q1,q2,q3,q4⟩;refine go ?_;intros;refine Ev [1,2,3] (fun k:Nat=>[(4,.int .i64 (k:Nat))]) (fun k=>k≤n.Al.Ad.length∧∀j,j < k→Rx n j=true) (fun k=>n.Al.Ad.length - k) 0 ⟨Nat.zero_le _,fun j h=>by omega⟩ fun k hk=>?_;obtain ⟨hk1,hk2⟩:=hk;refine go ?_;intros;refine Be rfl (fun h1=>?_) (fun h1=>?_)
 ·have hh:k < n.Al.Ad.length:=by omega
  refine go ?_;intros;refine cf (Azh n k _ F hl hh (Gn g1)) fun _ _=>?_;refine Ar ?_;cases g:Rx n k
  ·rw [Ae2 hh g];exact AB
  refine go ?_;intros;refine Cu (k+1) ⟨hh,fun j hj=>?_⟩ HF;rcases Nat.lt_or_eq_of_le (Nat.lt_succ_iff.1 hj) with h|rfl
  ·exact hk2 j h
  ·exact g
 ·obtain rfl:k=n.Al.Ad.length:=by omega
  refine go ?_;intros;refine ret () trivial ?_;rw [Sy.2 ⟨g1,g2,hl,hk2⟩];rfl
structure StZ where
 cs:List Value
 F:List Nat
 a:Option Addr
 c:Nat
 Fe:List Nat
theorem Am4 {n:Dt} (hg:Aw n=true) (hc:n.Aa.Ai < 9999):∀k,k+1≤n.Al.Ad.length→(Bf n k).2.length≤40000 * k
 | 0,_=>Nat.le_refl _
 | k+1,hk=>by
  have h:=Am4 hg hc k GJ;obtain ⟨hGN,hT,hSrc⟩:=Ox hg hc k GJ;obtain ⟨i1,i2,i3,i4,hrn⟩:=hGN.rn (i:=k+1) (by rw [hT];omega);show ((Bf n k).2++(M3 (Bf n k).1 (k+1)).2).length≤_;rw [List.length_append];have:(M3 (Bf n k).1 (k+1)).2.length≤40000:=by
   unfold M3
   split
   ·rename_i hl;have hgr:=D9.1 (hrn.hf GJ hl).2.1;obtain ⟨-,hfew⟩:=Ab8 hgr;rw [Gh i2];show ((Gz _).map _).length≤_;rw [List.length_map];omega
   ·exact Nat.zero_le _
  omega
theorem Amz {n:Dt} {s:Jp} {r:Dt × List ByteArray} (hg:Aw n=true) (hs:Ek s=true) (hr:Bo n s=some r):r.2.length≤400000:=by
 have hG:=Ay.1 hg;have h8:=Gn hG.t;have hn8:=h8.n1;have hn2:=h8.n0;have hck:=Wy hG.s;have hr0:=hr;unfold Bo at hr
 split at hr
 ·cases hr;exact Nat.zero_le _
 split at hr
 ·split at hr
  ·cases hr
  ·cases hr;have:=Am4 hg GJ (n.Al.Ad.length - 1) GJ;show (Bf n (n.Al.Ad.length - 1)).2.length≤_;omega
 unfold C0 at hr
 split at hr
 ·cases hr
 split at hr
 ·cases hr
 split at hr
 ·rename_i h1 h4 hlt h0 hk;cases hr;have hgp:=Ld (s:=s) hg;have hGp:=Ay.1 hgp;have hf:Pm s.node=true:=by
   have:=hs;unfold Ek at this;rw [if_neg h1,if_neg h4] at this;simp only [Bool.and_eq_true] at this;exact this.1.2
  obtain ⟨f1,f2⟩:=Ns.1 hf;have hpt:(Ga n s).Al=n.Al:=by unfold Ga;split <;> rfl
  obtain ⟨i1,i2,i3,i4,hrn⟩:=hGp.rn (i:=s.node.toNat) (by rw [hpt];omega);unfold Cq
  split
  ·rename_i hl;have hgr:=D9.1 (hrn.hf GJ hl).2.1;obtain ⟨d0,d1⟩:=Aa7 (i:=s.node.toNat);have hp:By (My (Th n s))=true:=Mu (Lz (s:=s) hg).1 (N8 GJ);have:=(Tz hgr hp d0 d1).2;rw [Gh i2];show ((Hx _ _).map _).length≤_;rw [List.length_map];omega
  ·exact Nat.zero_le _
 split at hr
 ·cases hr;exact Nat.zero_le _
 ·cases hr;exact Nat.zero_le _
abbrev NE:=Dt × List ByteArray
def Ij (i:Nat):Jp:=⟨2,(i:Int),⟨#[]⟩⟩
def Lt (i:Nat):Jp:=⟨5,(i:Int),⟨#[]⟩⟩
def Mm (x:NE) (s:Jp):NE:=(Hh x.1 (Bo x.1 s),x.2++Uc (Bo x.1 s))
def Aqc (x:NE) (i:Nat):NE:=Mm (Mm x (Ij i)) (Lt i)
def Hg (x:NE):Nat→NE
 | 0=>x
 | k+1=>Aqc (Hg x k) (k+1)
def U7 (x:NE):NE:=Hg x (x.1.Al.Ad.length - 1)
def Py (x:NE):Nat→Bool
 | 0=>false
 | k+1=>Py x k || (Bo (Hg x k).1 (Ij (k+1))).isSome || (Bo (Mm (Hg x k) (Ij (k+1))).1 (Lt (k+1))).isSome
def qd (l:List (List Av)):Nat:=(l.map List.length).sum
def Wr (n:Dt):Nat:=qd n.down+qd n.up
def vd (i:Nat):Nat:=8 ^ (7 - i)
def vu (i:Nat):Nat:=524289 * i
def wN (n:Dt):Nat:=Lw vd 0 n.down+Lw vu 0 n.up
def Ry:Nat→NE→NE
 | 0,x=>x
 | f+1,x=>if Wr x.1=0 then x else Ry f (U7 x)
def drE (x:NE):NE:=Ry (wN x.1) x
def Pv (n:Dt):NE:=drE (n,[])
theorem Ax4 (i:Nat):0 < vd i:=Nat.pow_pos GM
theorem Bbg {i:Nat} (h:1≤i):vd i≤262144:=Nat.le_trans (Nat.pow_le_pow_right (n:=8) GM (show 7 - i≤6 by omega)) GM
theorem Ax3 {nodes:List Int} {i:Nat} (hl:nodes.length≤7) (h:∀x∈nodes,i < x.toNat∧x.toNat≤7):Zc vd nodes+1≤vd i:=by
 cases nodes with
 | nil=>exact Ax4 i
 | cons x r =>
  obtain ⟨a,b⟩:=h x GL;have h1:=Ai5 vd (8 ^ (6 - i)) (x::r) fun y hy=>by
   have:=h y hy;exact Nat.pow_le_pow_right GM GJ
  have h2:=Nat.mul_le_mul_right (8 ^ (6 - i)) hl;have h3:0 < 8 ^ (6 - i):=Nat.pow_pos GM;have h4:vd i=8 ^ (6 - i) * 8:=by unfold vd;rw [←Nat.pow_succ];congr 1;omega
  omega
theorem Bbh {i p:Nat} (h0:1≤i) (h:p < i):2 * vd i+vu p+1≤vu i:=by
 have h1:=Bbg h0;unfold vu;omega
theorem Avs {l:List Int} (hg:Tn l) (i:Nat):(H3 l (i:Int)).length≤7:=by
 have h0:=hg.n0;have h1:=hg.n1;rw [←Ah3 (Rq hg.z (Int.natCast_nonneg i)) (k:=l.length - 1) GJ];have:=Ah4 l (i:Int) (l.length - 1);omega
theorem Alc {e:Bl} (he:Ba e=true) {n:Int} {l:List Int} (hl:l.length≤7):(Tx e n l).length≤7:=by
 unfold Tx
 split
 ·rename_i x hx;exact Nat.le_trans (List.length_filter_le _ _) ((Ty he).2.2 x (List.mem_of_getElem? hx))
 ·split
  ·exact hl
  ·exact Nat.zero_le _
theorem Ay3 {n:Dt} (hg:Aw n=true) (i:Nat) (p:Av):(Adj n i p).length≤7∧∀x∈Adj n i p,i < x.toNat∧x.toNat≤7:=by
 have hG:=Ay.1 hg;have h8:=Gn hG.t;have hn8:=h8.n1;have hk:=Avs h8 i;have hb:∀x∈X7 n i,i < x.toNat∧x.toNat≤7:=fun x hx=>by
  have:=La h8 hx;omega
 unfold Adj
 split
 ·refine ⟨?_,fun x hx=>hb x (Zw x hx)⟩;by_cases hi:i < n.Ae.length
  ·have ee:O9 n i=n.Ae[i]:=by unfold O9;rw [List.getD_eq_getElem?_getD,List.getElem?_eq_getElem hi];rfl
   rw [ee];exact Alc ((Hw hg).1 _ (List.getElem_mem hi)) hk
  ·have ee:O9 n i=⟨0,[]⟩:=by unfold O9;rw [List.getD_eq_getElem?_getD,List.getElem?_eq_none GJ];rfl
   rw [ee];exact Alc GM hk
 ·exact ⟨hk,hb⟩
theorem Ay1 {n:Dt} (hg:Aw n=true) (i:Nat) (p:Av):wN (Cq n i p).1+1≤wN n+vd i:=by
 have h0:=Ax4 i;unfold Cq
 split
 ·show wN n+1≤_;omega
 ·obtain ⟨h1,h2⟩:=Ay3 hg i p;have h3:=Ax3 h1 h2;have h4:=Tc vd [p] (Adj n i p) n.down;show Lw vd 0 (Dg n.down (Adj n i p) [p])+Lw vu 0 n.up+1≤Lw vd 0 n.down+Lw vu 0 n.up+vd i;simp only [List.length_singleton,Nat.one_mul] at h4;omega
theorem Awt (x:Cr) (p:Av):(M8 x p).length≤2:=by
 unfold M8
 split
 ·split
  ·exact (by decide:1≤2)
  ·exact (by decide:2≤2)
 ·exact (by decide:1≤2)
theorem Bfb {n:Dt} (hg:Aw n=true) {i:Nat} (h0:1≤i) (hi:i < n.Al.Ad.length) (p:Av):wN (Oy n i p)+1≤wN n+vu i:=by
 have hG:=Ay.1 hg;have h8:=Gn hG.t;have hn8:=h8.n1;have hv:=Bbg h0;have hone:Zc vd [((i:Nat):Int)]=vd i:=by show vd ((i:Nat):Int).toNat+0=_;rfl
 unfold Oy
 split
 ·have h4:=Tc vd (M8 n.Aa p) [((i:Nat):Int)] n.down;have h5:=Nat.mul_le_mul_right (vd i) (Awt n.Aa p);rw [hone] at h4;have h6:=Bbh (p:=0) h0 GJ;show Lw vd 0 (Dg n.down [((i:Nat):Int)] (M8 n.Aa p))+Lw vu 0 n.up+1≤Lw vd 0 n.down+Lw vu 0 n.up+vu i;omega
 ·rename_i hp;have hlt:X0 n i < i:=by
   have:=h8.p i hi GJ;unfold X0;rw [List.getD_eq_getElem?_getD,List.getElem?_eq_getElem hi];show (n.Al.Ad[i]).toNat < i;omega
  have h4:=Tc vd [Yq p] [((i:Nat):Int)] n.down;rw [hone] at h4;simp only [List.length_singleton,Nat.one_mul] at h4;have h6:=Bbh h0 hlt;have h7:=Ane vu n.up (X0 n i) [p];simp only [List.length_singleton,Nat.one_mul] at h7;show Lw vd 0 (Dg n.down [((i:Nat):Int)] [Yq p])+Lw vu 0 (if Abb (O9 n (X0 n i)) p.Af then n.up.modify (X0 n i) fun q=>Gw q [p] else n.up)+1≤Lw vd 0 n.down+Lw vu 0 n.up+vu i
  split <;> omega
theorem Bbb (f:Nat→Nat) {l:List (List Av)} {i:Nat} (hi:i < l.length) (h0:¬(l.getD i []).length=0):Lw f 0 (l.modify i (·.drop 1))+f i=Lw f 0 l:=by
 rw [Pa hi] at h0;rw [Hq hi];exact Ayb f l i hi GJ
theorem Xq {n:Dt} {i:Nat} (hi:i < n.Al.Ad.length):Bo n (Ij i)=if (n.down.getD i []).length=0 then none else some (Cq (Mi n i) i (My (n.down.getD i []))):=by
 unfold Bo;rw [if_neg (by show ¬(2:Int)=1;decide),if_neg (by show ¬(2:Int)=4;decide)];unfold C0;rw [if_neg (by show ¬((n.Al.Ad.length:Int)≤(i:Int));omega)];rfl
theorem Va {n:Dt} {i:Nat} (hi:i < n.Al.Ad.length):Bo n (Lt i)=if (n.up.getD i []).length=0 then none else some (Oy (Ko n i) i (My (n.up.getD i [])),[]):=by
 unfold Bo;rw [if_neg (by show ¬(5:Int)=1;decide),if_neg (by show ¬(5:Int)=4;decide)];unfold C0;rw [if_neg (by show ¬((n.Al.Ad.length:Int)≤(i:Int));omega)];rfl
theorem Azv {i:Nat} (h0:1≤i) (h:i≤7):Ek (Ij i)=true:=by
 unfold Ek;rw [if_neg (by show ¬(2:Int)=1;decide),if_neg (by show ¬(2:Int)=4;decide)];have:Pm (Ij i).node=true:=Ns.2 (by show 1≤((i:Nat):Int)∧((i:Nat):Int)≤7;omega);rw [this];rfl
theorem Awh {i:Nat} (h0:1≤i) (h:i≤7):Ek (Lt i)=true:=by
 unfold Ek;rw [if_neg (by show ¬(5:Int)=1;decide),if_neg (by show ¬(5:Int)=4;decide)];have:Pm (Lt i).node=true:=Ns.2 (by show 1≤((i:Nat):Int)∧((i:Nat):Int)≤7;omega);rw [this];rfl
theorem Arc {n:Dt} (hg:Aw n=true) {i:Nat} {p:Av} (hp:By p=true) (h0:1≤i) (hi:i < n.Al.Ad.length):(Cq n i p).2.length≤24:=by
 obtain ⟨i1,i2,i3,i4,hrn⟩:=(Ay.1 hg).rn hi;unfold Cq
 split
 ·rename_i hl;have hgr:=D9.1 (hrn.hf GJ hl).2.1;obtain ⟨d0,d1⟩:=Aa7 (i:=i);have:=(Tz hgr hp d0 d1).2;rw [Gh i2];show ((Hx _ _).map _).length≤_;rw [List.length_map];exact this
 ·exact Nat.zero_le _
theorem Bdx (n:Dt) (i:Nat) (p:Av):(Cq n i p).1.Aa=n.Aa:=by unfold Cq;split <;> rfl
theorem Bdy (n:Dt) (i:Nat) (p:Av):(Oy n i p).Aa.Ai=n.Aa.Ai:=by
 unfold Oy
 split
 ·show (L0 n.Aa p.Af).Ai=_;unfold L0
  split <;> rfl
 ·rfl
structure Uj (x y:NE):Prop where
 g:Aw y.1=true
 t:y.1.Al=x.1.Al
 c:y.1.Aa.Ai=x.1.Aa.Ai
 e:y.2.length+24 * wN y.1≤x.2.length+24 * wN x.1
 w:wN y.1≤wN x.1
theorem Uj.refl {x:NE} (h:Aw x.1=true):Uj x x:=⟨h,rfl,rfl,Nat.le_refl _,Nat.le_refl _⟩
theorem Uj.trans {x y z:NE} (h:Uj x y) (k:Uj y z):Uj x z:=⟨k.g,k.t.trans h.t,k.c.trans h.c,Nat.le_trans k.e h.e,Nat.le_trans k.w h.w⟩
theorem Jd {x:NE} {s:Jp} (h:Bo x.1 s=none):Mm x s=x:=by
 unfold Mm;rw [h];show (x.1,x.2++[])=x;rw [List.append_nil]
theorem Xt {x:NE} {s:Jp} {r:NE} (h:Bo x.1 s=some r):Mm x s=(r.1,x.2++r.2):=by
 unfold Mm;rw [h];rfl
theorem Am6 {x:NE} (hg:Aw x.1=true) {i:Nat} (h0:1≤i) (hi:i < x.1.Al.Ad.length):Uj x (Mm x (Ij i))∧((Bo x.1 (Ij i)).isSome=true→wN (Mm x (Ij i)).1 < wN x.1):=by
 have hG:=Ay.1 hg;have hn8:=(Gn hG.t).n1;obtain ⟨q1,q2,q3,q4⟩:=Bk.1 hG.l;cases e:Bo x.1 (Ij i) with
 | none =>
  rw [Jd e];exact ⟨.refl hg,fun h=>by cases h⟩
 | some r =>
  have hr:=Mw hg (Azv h0 GJ) e;have ht:=Rt e;rw [Xt e];rw [Xq hi] at e
  split at e
  ·cases e
  ·rename_i hq;cases e;have hp:=GN.pd (Ay.1 hg) i;have hpg:Aw (Mi x.1 i)=true:=Ay.2 hp;have h1:=Ay1 hpg i (My (x.1.down.getD i []));have h2:wN (Mi x.1 i)+vd i=wN x.1:=by
    have:=Bbb vd (l:=x.1.down) (i:=i) GJ hq;show Lw vd 0 (x.1.down.modify i (·.drop 1))+Lw vu 0 x.1.up+vd i=Lw vd 0 x.1.down+Lw vu 0 x.1.up;omega
   have hpk:By (My (x.1.down.getD i []))=true:=Mu (Lz (s:=Ij i) hg).1 (N8 (by show 0 < (x.1.down.getD i []).length;omega));have h3:=Arc hpg hpk h0 hi;have hlt:wN (Cq (Mi x.1 i) i (My (x.1.down.getD i []))).1 < wN x.1:=by omega
   refine ⟨⟨hr,ht,by rw [Bdx];rfl,?_,Nat.le_of_lt hlt⟩,fun _=>hlt⟩;show (x.2++_).length+24 * wN (Cq (Mi x.1 i) i (My (x.1.down.getD i []))).1≤_;rw [List.length_append];omega
theorem Axx {x:NE} (hg:Aw x.1=true) {i:Nat} (h0:1≤i) (hi:i < x.1.Al.Ad.length):Uj x (Mm x (Lt i))∧((Bo x.1 (Lt i)).isSome=true→wN (Mm x (Lt i)).1 < wN x.1)∧(Mm x (Lt i)).2=x.2:=by
 have hG:=Ay.1 hg;have hn8:=(Gn hG.t).n1;obtain ⟨q1,q2,q3,q4⟩:=Bk.1 hG.l;cases e:Bo x.1 (Lt i) with
 | none =>
  rw [Jd e];exact ⟨.refl hg,fun h=>(by cases h),rfl⟩
 | some r =>
  have hr:=Mw hg (Awh h0 GJ) e;have ht:=Rt e;rw [Xt e];rw [Va hi] at e
  split at e
  ·cases e
  ·rename_i hq;cases e;have hp:=GN.pu (Ay.1 hg) i;have hpg:Aw (Ko x.1 i)=true:=Ay.2 hp;have h1:=Bfb hpg h0 hi (My (x.1.up.getD i []));have h2:wN (Ko x.1 i)+vu i=wN x.1:=by
    have:=Bbb vu (l:=x.1.up) (i:=i) GJ hq;show Lw vd 0 x.1.down+Lw vu 0 (x.1.up.modify i (·.drop 1))+vu i=Lw vd 0 x.1.down+Lw vu 0 x.1.up;omega
   have hlt:wN (Oy (Ko x.1 i) i (My (x.1.up.getD i []))) < wN x.1:=by omega
   refine ⟨⟨hr,ht,by rw [Bdy];rfl,?_,Nat.le_of_lt hlt⟩,fun _=>hlt,List.append_nil _⟩;show (x.2++[]).length+24 * wN (Oy (Ko x.1 i) i (My (x.1.up.getD i [])))≤_;rw [List.append_nil];omega
theorem Oe {x:NE} (hg:Aw x.1=true):∀k,k+1≤x.1.Al.Ad.length→Uj x (Hg x k)∧(Py x k=true→wN (Hg x k).1 < wN x.1)∧(Py x k=false→Hg x k=x∧∀i,1≤i→i≤k→Bo x.1 (Ij i)=none∧Bo x.1 (Lt i)=none)
 | 0,_=>⟨.refl hg,fun h=>(by cases h),fun _=>⟨rfl,fun i a b=>by omega⟩⟩
 | k+1,hk=>by
  obtain ⟨f1,m1,z1⟩:=Oe hg k GJ;have hk1:k+1 < (Hg x k).1.Al.Ad.length:=by rw [f1.t];omega
  obtain ⟨f2,m2⟩:=Am6 f1.g GJ hk1;have hk2:k+1 < (Mm (Hg x k) (Ij (k+1))).1.Al.Ad.length:=by rw [f2.t];exact hk1
  obtain ⟨f3,m3,e3⟩:=Axx f2.g GJ hk2;have w2:=f2.w;have w3:=f3.w;have w1:=f1.w;refine ⟨(f1.trans f2).trans f3,fun h=>?_,fun h=>?_⟩
  ·show wN (Mm (Mm (Hg x k) (Ij (k+1))) (Lt (k+1))).1 < _;unfold Py at h;rw [Bool.or_eq_true,Bool.or_eq_true] at h;rcases h with (h|h)|h
   ·have:=m1 h;omega
   ·have:=m2 h;omega
   ·have:=m3 h;omega
  ·unfold Py at h;rw [Bool.or_eq_false_iff,Bool.or_eq_false_iff] at h;obtain ⟨⟨h1,h2⟩,h3⟩:=h;obtain ⟨e1,z⟩:=z1 h1;have n2:Bo (Hg x k).1 (Ij (k+1))=none:=by simpa using h2
   have n3:Bo (Mm (Hg x k) (Ij (k+1))).1 (Lt (k+1))=none:=by simpa using h3
   have e2:=Jd n2;rw [e2] at n3;refine ⟨?_,fun i a b=>?_⟩
   ·show Mm (Mm (Hg x k) (Ij (k+1))) (Lt (k+1))=x;rw [e2,Jd n3,e1]
   ·by_cases hi:i=k+1
    ·subst hi;rw [e1] at n2 n3;exact ⟨n2,n3⟩
    ·exact z i a GJ
theorem Aae:∀{l:List (List Av)},qd l=0↔∀q∈l,q=[]
 | []=>by simp [qd]
 | x::r=>by
  have ih:=Aae (l:=r);show x.length+qd r=0↔_;rw [Nat.add_eq_zero_iff,List.length_eq_zero_iff,ih];simp
theorem Zz {l:List (List Av)} {i:Nat} (h:qd l=0):(l.getD i []).length=0:=by
 rw [List.getD_eq_getElem?_getD];cases e:l[i]? with
 | none=>rfl
 | some q=>rw [Aae.1 h q (List.mem_of_getElem? e)];rfl
theorem Aaa {n:Dt} (hg:Aw n=true):(n.down.getD 0 []).length=0∧(n.up.getD 0 []).length=0:=by
 have hG:=Ay.1 hg;have h2:=(Gn hG.t).n0;obtain ⟨h1,h2,h3,h4,r⟩:=hG.rn (i:=0) GJ;obtain ⟨-, -,a,b⟩:=r.hz rfl;rw [Pa h3,Pa h4];exact ⟨a,b⟩
theorem Az2 {n:Dt} (hg:Aw n=true) (h:∀i,1≤i→i < n.Al.Ad.length→Bo n (Ij i)=none∧Bo n (Lt i)=none):Wr n=0:=by
 have hG:=Ay.1 hg;obtain ⟨q1,q2,q3,q4⟩:=Bk.1 hG.l;obtain ⟨z1,z2⟩:=Aaa hg;have hd:qd n.down=0:=Aae.2 fun q hq=>by
  obtain ⟨i,hi,rfl⟩:=List.getElem_of_mem hq;rw [←List.length_eq_zero_iff,←Pa hi []];by_cases e:i=0
  ·rw [e];exact z1
  ·have:=(h i GJ GJ).1;rw [Xq GJ] at this
   split at this
   ·assumption
   ·cases this
 have hu:qd n.up=0:=Aae.2 fun q hq=>by
  obtain ⟨i,hi,rfl⟩:=List.getElem_of_mem hq;rw [←List.length_eq_zero_iff,←Pa hi []];by_cases e:i=0
  ·rw [e];exact z2
  ·have:=(h i GJ GJ).2;rw [Va GJ] at this
   split at this
   ·assumption
   ·cases this
 unfold Wr;omega
theorem Afj {x:NE} (hg:Aw x.1=true):Py x (x.1.Al.Ad.length - 1)=false↔Wr x.1=0:=by
 have h2:=(Gn (Ay.1 hg).t).n0;constructor
 ·intro h;obtain ⟨-,hz⟩:=(Oe hg (x.1.Al.Ad.length - 1) GJ).2.2 h;exact Az2 hg fun i a b=>hz i a GJ
 ·intro h;have hd:qd x.1.down=0:=by unfold Wr at h;omega
  have hu:qd x.1.up=0:=by unfold Wr at h;omega
  have:∀k,k+1≤x.1.Al.Ad.length→Py x k=false:=by
   intro k
   induction k with
   | zero=>intro _;rfl
   | succ k ih =>
    intro hk;have h1:=ih GJ;have e1:=((Oe hg k GJ).2.2 h1).1;unfold Py;have n1:Bo x.1 (Ij (k+1))=none:=by rw [Xq GJ,if_pos (Zz hd)]
    have n2:Bo x.1 (Lt (k+1))=none:=by rw [Va GJ,if_pos (Zz hu)]
    rw [h1,e1,Jd n1,n1,n2];rfl
  exact this _ GJ
theorem Aoz {x:NE} (hg:Aw x.1=true) (h:Wr x.1=0):U7 x=x:=by
 have h2:=(Gn (Ay.1 hg).t).n0;exact ((Oe hg (x.1.Al.Ad.length - 1) GJ).2.2 ((Afj hg).2 h)).1
theorem Mc {x:NE} (hg:Aw x.1=true):Uj x (U7 x)∧(¬Wr x.1=0→wN (U7 x).1 < wN x.1):=by
 have h2:=(Gn (Ay.1 hg).t).n0;obtain ⟨a,b, -⟩:=Oe hg (x.1.Al.Ad.length - 1) GJ;refine ⟨a,fun h=>b ?_⟩;cases e:Py x (x.1.Al.Ad.length - 1)
 ·exact absurd ((Afj hg).1 e) h
 ·rfl
theorem Qk {f:Nat} {x:NE} (h:Wr x.1=0):Ry f x=x:=by
 cases f
 ·rfl
 ·unfold Ry;rw [if_pos h]
theorem Acj:∀(f g:Nat) {x:NE},Aw x.1=true→wN x.1≤f→wN x.1≤g→Ry f x=Ry g x
 | 0,g,x,hg,h,_=>by
  have hz:Wr x.1=0:=by
   by_cases h0:Wr x.1=0
   ·exact h0
   ·have:=(Mc hg).2 h0;omega
  rw [Qk hz,Qk hz]
 | f+1,g,x,hg,h,h2=>by
  by_cases hz:Wr x.1=0
  ·rw [Qk hz,Qk hz]
  ·obtain ⟨hf,hw⟩:=Mc hg;have hw:=hw hz;obtain ⟨m,rfl⟩:∃m,g=m+1:=⟨g - 1,GJ⟩;unfold Ry;rw [if_neg hz,if_neg hz];exact Acj f m hf.g GJ GJ
theorem Agz {f:Nat} {x:NE} (hg:Aw x.1=true) (h:wN x.1≤f):Ry f x=Ry (wN x.1) x:=Acj _ _ hg h (Nat.le_refl _)
theorem Zt {x:NE} (h:Wr x.1=0):drE x=x:=Qk h
theorem Aev {x:NE} (hg:Aw x.1=true) (h:¬Wr x.1=0):drE x=drE (U7 x):=by
 obtain ⟨hf,hw⟩:=Mc hg;have hw:=hw h;obtain ⟨m,hm⟩:∃m,wN x.1=m+1:=⟨wN x.1 - 1,GJ⟩;unfold drE;rw [hm];show (if Wr x.1=0 then x else Ry m (U7 x))=_;rw [if_neg h,Agz hf.g GJ]
theorem Aeu {x:NE} (hg:Aw x.1=true):Uj x (drE x)∧Wr (drE x).1=0:=by
 obtain ⟨k,hk⟩:∃k,wN x.1≤k:=⟨_,Nat.le_refl _⟩
 induction k generalizing x with
 | zero =>
  have hz:Wr x.1=0:=by
   by_cases h:Wr x.1=0
   ·exact h
   ·have:=(Mc hg).2 h;omega
  rw [Zt hz];exact ⟨.refl hg,hz⟩
 | succ k ih =>
  by_cases h:Wr x.1=0
  ·rw [Zt h];exact ⟨.refl hg,h⟩
  ·obtain ⟨hf,hw⟩:=Mc hg;have hw:=hw h;rw [Aev hg h];obtain ⟨a,b⟩:=ih hf.g GJ;exact ⟨hf.trans a,b⟩
theorem Akl (f:Nat→Nat) (B:Nat):∀(l:List (List Av)) (k:Nat),(∀q∈l,q.length≤6)→(∀i,k≤i→i < k+l.length→f i≤B)→Lw f k l≤l.length * (6 * B)
 | [],_,_,_=>Nat.zero_le _
 | x::r,k,h,hB=>by
  have ih:=Akl f B r (k+1) (fun q hq=>h q HG) fun i a b=>hB i GJ (by simp only [List.length_cons];omega);have h1:=Nat.mul_le_mul (h x GL) (hB k (Nat.le_refl _) (by simp only [List.length_cons];omega));show x.length * f k+Lw f (k+1) r≤(r.length+1) * (6 * B);rw [Nat.succ_mul];omega
theorem Ax8 {n:Dt} (hg:Aw n=true):wN n≤280000000:=by
 have hG:=Ay.1 hg;have h8:=(Gn hG.t).n1;obtain ⟨q1,q2,q3,q4⟩:=Bk.1 hG.l;obtain ⟨-, -,e3,e4⟩:=Hw hg;have h1:=Akl vd 2097152 n.down 0 (fun q hq=>(C6 (e3 q hq)).1) fun i _ _=>Nat.le_trans (Nat.pow_le_pow_right (n:=8) GM (show 7 - i≤7 by omega)) GM;have h2:=Akl vu 3670023 n.up 0 (fun q hq=>(C6 (e4 q hq)).1) fun i _ _=>by unfold vu;omega
 have h3:=Nat.mul_le_mul_right (6 * 2097152) (show n.down.length≤8 by omega);have h4:=Nat.mul_le_mul_right (6 * 3670023) (show n.up.length≤8 by omega);unfold wN;omega
theorem Apy {n:Dt} (hg:Aw n=true):(Pv n).2.length≤6720000000:=by
 have h:=(Aeu (x:=(n,[])) hg).1.e;have:=Ax8 hg;show (drE (n,[])).2.length≤_;simp only [List.length_nil] at h;omega
def kst (m i:Nat):Jp:=⟨if m=0 then 2 else 5,(i:Int),⟨#[]⟩⟩
def R7 (y:NE) (i:Nat):Nat→NE
 | 0=>y
 | m+1=>Mm (R7 y i m) (kst m i)
def Aco (b:Bool) (y:NE) (i:Nat):Nat→Bool
 | 0=>b
 | m+1=>Aco b y i m || (Bo (R7 y i m).1 (kst m i)).isSome
theorem Aaj (x:NE) (k:Nat):Hg x (k+1)=R7 (Hg x k) (k+1) 2:=rfl
theorem Al4 (x:NE) (k:Nat):Py x (k+1)=Aco (Py x k) (Hg x k) (k+1) 2:=rfl
theorem Be8 {m i:Nat} (h0:1≤i) (h:i≤7) (hm:m < 2):Ek (kst m i)=true:=by
 rcases (show m=0∨m=1 by omega) with rfl|rfl
 ·exact Azv h0 h
 ·exact Awh h0 h
theorem Arv {y:NE} (hg:Aw y.1=true) {i:Nat} (h0:1≤i) (hi:i < y.1.Al.Ad.length):∀m,m≤2→Uj y (R7 y i m)
 | 0,_=>.refl hg
 | 1,_=>(Am6 hg h0 hi).1
 | 2,_=>by
  have f1:=(Am6 hg h0 hi).1;exact f1.trans (Axx f1.g h0 (by rw [f1.t];exact hi)).1
 | m+3,h=>by omega
def El (x:NE):Nat→NE
 | 0=>x
 | k+1=>Aqc (El x k) k
theorem Bc0 {x:NE} (hg:Aw x.1=true) {i:Nat} (hi:i < x.1.Al.Ad.length):Uj x (Mm x (Ij i)):=by
 by_cases h0:i=0
 ·subst h0;rw [Jd (by rw [Xq hi,if_pos (Aaa hg).1])];exact .refl hg
 ·exact (Am6 hg GJ hi).1
theorem Bc1 {x:NE} (hg:Aw x.1=true) {i:Nat} (hi:i < x.1.Al.Ad.length):Uj x (Mm x (Lt i))∧(Mm x (Lt i)).2=x.2:=by
 by_cases h0:i=0
 ·subst h0;rw [Jd (by rw [Va hi,if_pos (Aaa hg).2])];exact ⟨.refl hg,rfl⟩
 ·have:=Axx hg GJ hi;exact ⟨this.1,this.2.2⟩
theorem Ac7 {x:NE} (hg:Aw x.1=true):∀k,k≤x.1.Al.Ad.length→Uj x (El x k)
 | 0,_=>.refl hg
 | k+1,hk=>by
  have f1:=Ac7 hg k GJ;have f2:=Bc0 f1.g (i:=k) (by rw [f1.t];omega);have f3:=(Bc1 f2.g (i:=k) (by rw [f2.t,f1.t];omega)).1;exact (f1.trans f2).trans f3
theorem Air {x:NE} (hg:Aw x.1=true):∀k,El x (k+1)=Hg x k
 | 0=>by
  have h2:=(Gn (Ay.1 hg).t).n0;show Mm (Mm x (Ij 0)) (Lt 0)=x;rw [Jd (x:=x) (s:=Ij 0) (by rw [Xq GJ,if_pos (Aaa hg).1]),Jd (by rw [Va GJ,if_pos (Aaa hg).2])]
 | k+1=>by
  show Aqc (El x (k+1)) (k+1)=Aqc (Hg x k) (k+1);rw [Air hg k]
theorem Aoy {x:NE} (hg:Aw x.1=true):El x x.1.Al.Ad.length=U7 x:=by
 have h2:=(Gn (Ay.1 hg).t).n0;obtain ⟨m,hm⟩:∃m,x.1.Al.Ad.length=m+1:=⟨x.1.Al.Ad.length - 1,GJ⟩;unfold U7;rw [hm,Air hg,Nat.add_sub_cancel]
theorem Nu {l:List (List Av)} (h:∀q∈l,q.length≤6):∀k,qd (l.take k)≤6 * k:=by
 induction l with
 | nil=>intro k;rw [List.take_nil];exact Nat.zero_le _
 | cons q r ih =>
  intro k;cases k with
  | zero=>exact Nat.le_refl _
  | succ k =>
   have:=ih (fun q hq=>h q HG) k;have:=h q GL;show q.length+qd (r.take k)≤_;omega
theorem Aj1 {l:List (List Av)} {k:Nat} (hk:k < l.length):qd (l.take (k+1))=qd (l.take k)+l[k].length:=by
 unfold qd;rw [List.take_succ_eq_append_getElem hk,List.map_append,List.sum_append];simp
theorem Av1 (a b:Int):Fn prog 311 [.int .i64 a,.int .i64 b] [] [] (fun (_:Unit)=>True) (fun _=>.int .i64 (min a b)) (fun _=>[]):=by
 refine enter func311 rfl ntmps311 fun w0=>?_;refine go ?_;intros;refine Be rfl (fun h=>?_) (fun h=>?_)
 ·refine go ?_;intros;rw [show min a b=a by omega];exact BD
 ·refine go ?_;intros;rw [show min a b=b by omega];exact BD
theorem Asd (r:A9) (p:Av) (d:Int) (v:Value) (F:List Nat) (hg:Lq r) (hp:By p=true) (d0:1≤d) (d1:d≤8) :
  Fn prog 258 [v,.agg #[.int .i64 p.Ct,.int .i64 p.Af,.int .i64 p.Ao,.int .i64 p.Ff,.string p.data],.int .i64 d] [.isv B4 v r F] [] (fun (_:NwS)=>True) (fun s=>.tuple #[.agg #[.bool ((Kj r p d)).Bd,.int .i64 ((Kj r p d)).Ai,.int .i64 ((Kj r p d)).Ab.next,.slice s.a1 ((Kj r p d)).Ab.Ap.length s.c1,.slice s.a2 ((Kj r p d)).Am.length s.c2],.slice s.ae (Ma r p).length s.ce])
   (fun s=>[.isv B4 (.agg #[.bool ((Kj r p d)).Bd,.int .i64 ((Kj r p d)).Ai,.int .i64 ((Kj r p d)).Ab.next,.slice s.a1 ((Kj r p d)).Ab.Ap.length s.c1,.slice s.a2 ((Kj r p d)).Am.length s.c2]) (Kj r p d) s.F1,.ow A8 9 (.slice s.ae (Ma r p).length s.ce) (Ma r p) s.Fe]):=by
 have k0:=hg.k0;have k1:=hg.k1;obtain ⟨-,q1,q2, -⟩:=C9.1 hg.q;have hser:∀q∈r.Am,B9 q.Af=true:=fun q hq=>(Wu hg hq).1;obtain ⟨hsg, -⟩:=P4 hg hp;obtain ⟨htg, -,htl⟩:=Sn hg hp;obtain ⟨hng,hnq, -,hnl⟩:=Xm hg hp d0 d1 GJ;obtain ⟨s0_,s1_⟩:=Hy hsg;obtain ⟨w0_,w1_⟩:=Hy htg;obtain ⟨v0_,v1_⟩:=Hy hng;obtain ⟨hw8,hit⟩:=J0 hsg;obtain ⟨hu8,hiu⟩:=J0 htg;obtain ⟨n0,n1⟩:=Jz hp;have hrw:=(J0 hg.w).1;have hp2:=hp;unfold By at hp2;simp only [Bool.and_eq_true] at hp2;obtain ⟨t0_,t1_⟩:=Bb.1 hp2.1.1.1.1.2;obtain ⟨l0_,l1_⟩:=Bb.1 hp2.1.1.1.2;have hps:p.data.size≤8:=T4 hp2.1.1.2
 refine enter func258 rfl ntmps258 fun w0=>?_;refine Gt (v:=v) (x:=r) (F:=F) ?_;rintro a1 c1 F1 a2 c2 F2 rfl - -;refine go ?_;intros;refine cf (Sc r _ F GJ GJ) fun u _=>?_;refine Ar ?_;refine H4 ?_;rintro a5 c5 F5 a6 c6 F6 e6 - -;rw [e6];refine A4 (E:=Cm) fun G5=>?_;refine A4 (E:=Ax) fun G6=>?_;refine go ?_;intros;rename_i g3 g4 g6 g8 g9;refine C4 A8 ?_
 refine Eg [2,4,6,8,9] [0,2,4,5] (fun _:List Nat=>[]) (fun s=>[.row g8 117 0 [] [.bool true,.int .i64 r.Ai,.int .i64 (D0 r p).next,.slice a5 (D0 r p).Ap.length c5,.slice a6 r.Am.length c6] [],.isv Bv (.agg #[.int .i64 (D0 r p).next,.slice a5 (D0 r p).Ap.length c5]) (D0 r p) s]) (fun _=>True) ?_ fun G7 _=>?_
 ·cases hs:r.Bd
  ·by_cases hk:p.Ct=5
   ·have e:D0 r p=⟨p.Ff,r.Ab.Ap⟩:=by unfold D0;rw [hs,if_pos hk];rfl
    rw [e];refine go ?_;intros;refine Be rfl (fun _=>?_) (fun h=>absurd hk h);refine Ci (a1:=a5) ⟨p.Ff,r.Ab.Ap⟩ ?_;refine go ?_;intros;refine Bw G5 trivial
   ·have e:D0 r p=⟨p.Af,r.Ab.Ap⟩:=by unfold D0;rw [hs,if_neg hk];rfl
    rw [e];refine go ?_;intros;refine Be rfl (fun h=>absurd h hk) (fun _=>?_);refine Ci (a1:=a5) ⟨p.Af,r.Ab.Ap⟩ ?_;refine go ?_;intros;refine Bw G5 trivial
  ·have e:D0 r p=r.Ab:=by unfold D0;rw [hs];rfl
   rw [e];refine Ci (a1:=a5) r.Ab ?_;refine go ?_;intros;refine Bw G5 trivial
 repeat (first|apply V9|apply Adm|apply Sx)
 refine Ayy [2,4,6,8] [3,4,5] (fun s:SkS=>[(9,.slice s.ae (Ka r p).length s.ce)]) (fun s=>[.row g8 117 0 [] [.bool true,.int .i64 r.Ai,.int .i64 (E9 r p).next,.slice s.a (E9 r p).Ap.length s.c,.slice a6 r.Am.length c6] [],.isv Bv (.agg #[.int .i64 (E9 r p).next,.slice s.a (E9 r p).Ap.length s.c]) (E9 r p) s.F,.ow A8 9 (.slice s.ae (Ka r p).length s.ce) (Ka r p) s.Fe]) (fun _=>True) ?_ fun s _=>?_
 ·by_cases hk:p.Ct=5
  ·have e1:E9 r p=D0 r p:=by unfold E9;rw [if_pos hk]
   have e2:Ka r p=[]:=by unfold Ka;rw [if_pos hk]
   rw [e1,e2];refine go ?_;intros;rw [decide_eq_false (show ¬ ¬p.Ct=5 from fun h=>h hk)];refine go ?_;intros;refine Bw (⟨a5,c5,G7,_,_,_⟩:SkS) trivial
  ·have e1:E9 r p=Ls (D0 r p) p.Af p.data:=by unfold E9;rw [if_neg hk]
   have e2:Ka r p=Li (D0 r p) p.Af p.data:=by unfold Ka;rw [if_neg hk]
   rw [e1,e2];refine go ?_;intros;rw [decide_eq_true (show ¬p.Ct=5 from hk)];refine go ?_;intros;refine cf (Aoa (D0 r p) p.Af _ G7 s0_ s1_ n0 n1 hw8) fun _ _=>?_;refine Ar ?_;cases hok:Mz (D0 r p) p.Af
   ·have e:(Gj (D0 r p) p.Af || !decide (gp (D0 r p).next p.Af < 8))=true:=by unfold Mz at hok;simp only [Bool.or_eq_false_iff] at hok;rw [hok.1,hok.2];rfl
    have e3:Ls (D0 r p) p.Af p.data=D0 r p:=by unfold Ls;rw [if_pos e]
    have e4:Li (D0 r p) p.Af p.data=[]:=by unfold Li;rw [if_pos e]
    rw [e3,e4];refine go ?_;intros;refine Bw (⟨a5,c5,G7,_,_,_⟩:SkS) trivial
   ·refine go ?_;intros;refine cf (Ar5 (D0 r p) p.Af p.data _ G7 s0_ s1_ n0 n1 hw8 hit hps hok) fun y hy=>?_;refine Ar ?_;obtain ⟨hy1,hy2⟩:=hy;have hyl:y.es.length≤8:=by rw [hy2,←e2];exact htl
    refine A4 (E:=A8) (xs:=y.es) fun G8=>?_;refine go ?_;intros;apply wO;refine N3 (ys:=y.es) Dp Hi fun a9 c9 F9=>?_;rw [List.nil_append];rw [←hy1,←hy2];refine go ?_;intros;refine Bw (⟨y.a,y.c,y.F,_,_,_⟩:SkS) trivial
 obtain ⟨a3,c3,F3,ae,cE,Fe⟩:=s;dsimp only;refine go ?_;intros;refine ce (fun w s=>Px _ _ _ GJ GJ) ?_;refine go ?_;intros;refine Eg [2,4,6,8] [3,4,5] (fun s:SkS=>[(9,.slice s.ae (Ma r p).length s.ce)]) (fun s=>[.row g8 117 0 [] [.bool true,.int .i64 r.Ai,.int .i64 (Cn r p).next,.slice s.a (Cn r p).Ap.length s.c,.slice a6 r.Am.length c6] [],.isv Bv (.agg #[.int .i64 (Cn r p).next,.slice s.a (Cn r p).Ap.length s.c]) (Cn r p) s.F,.ow A8 9 (.slice s.ae (Ma r p).length s.ce) (Ma r p) s.Fe]) (fun _=>True) ?_ fun s _=>?_
 ·cases hb:Sp (E9 r p).next p.Ao
  ·have e1:Cn r p=E9 r p:=by show Nz _ _=_;unfold Nz;rw [hb];rfl
   have e2:Ma r p=Ka r p:=by unfold Ma Ob;rw [hb];simp
   rw [e1,e2];refine go ?_;intros;refine Bw (⟨a3,c3,F3,_,_,_⟩:SkS) trivial
  refine go ?_;intros;refine ce (fun w s=>I1 _ _ _ GJ GJ) ?_;refine go ?_;intros;refine Be rfl (fun h4=>?_) (fun h4=>?_)
  ·have e1:Cn r p=Iu (E9 r p) p.Ao:=by show Nz _ _=_;unfold Nz;rw [hb,if_pos rfl,if_pos h4]
   have e2:Ma r p=Ka r p++Is (E9 r p) p.Ao:=by unfold Ma Ob;rw [hb,if_pos rfl,if_pos h4]
   have hl2:=hnl;rw [e2,List.length_append] at hl2;refine go ?_;intros;refine cf (S0 (E9 r p) p.Ao _ F3 w0_ w1_ t0_ t1_ hu8 hiu) fun y hy=>?_;refine Ar ?_;obtain ⟨hy1,hy2⟩:=hy;have hyl:y.es.length≤24:=by rw [hy2];show (Is (E9 r p) p.Ao).length≤24;omega
   refine A4 (E:=A8) (xs:=y.es) fun G8=>?_;refine go ?_;intros;apply wO;refine N3 (ys:=y.es) Dp Hi fun a9 c9 F9=>?_;rw [e1,e2,show Iu (E9 r p) p.Ao=y.y from hy1.symm,show Is (E9 r p) p.Ao=y.es from hy2.symm];refine go ?_;intros;refine Bw (⟨y.a,y.c,y.F,_,_,_⟩:SkS) trivial
  ·have e1:Cn r p=⟨p.Ao,[]⟩:=by show Nz _ _=_;unfold Nz;rw [hb,if_pos rfl,if_neg h4]
   have e2:Ma r p=Ka r p++[⟨#[33]⟩]:=by unfold Ma Ob;rw [hb,if_pos rfl,if_neg h4]
   rw [e1,e2];refine go ?_;intros;apply wO;refine Oh (S9 ⟨#[33]⟩ GM) Dp fun a9 c9 F9=>?_;refine Cf Cm GM ?_;refine Ci (a1:=none) ⟨p.Ao,[]⟩ ?_;refine go ?_;intros;refine Bw (⟨none,0,_,_,_,_⟩:SkS) trivial
 obtain ⟨a7,c7,F7,ae,cE,Fe⟩:=s;dsimp only;refine go ?_;intros;refine cf (Acs r.Am (Cn r p) a6 c6 G6 _ F7 GJ hser v0_ v1_) fun z _=>?_;refine Ar ?_;refine go ?_;intros;refine ce (fun w s=>Px _ _ _ GJ GJ) ?_;have hNq8:=(C9.1 hnq).2.1;cases hb:Sp (Cn r p).next p.Ff
 ·have e1:Kj r p d=⟨true,r.Ai,Cn r p,D8 r.Am (Cn r p)⟩:=by unfold Kj O7;rw [hb];rfl
  rw [e1];refine go ?_;intros;refine A4 (E:=Ax) (xs:=D8 r.Am (Cn r p)) fun F8=>?_;refine Cp (x:=Cn r p) ?_;rintro b1 dd1 G1 e5 m1;simp only [Value.agg.injEq,Array.mk.injEq,List.cons.injEq,Value.slice.injEq,true_and,and_true] at e5;obtain ⟨rfl,rfl⟩:=e5;refine Ee ⟨true,r.Ai,Cn r p,D8 r.Am (Cn r p)⟩ ?_;exact DP
 obtain ⟨k,hk⟩:∃k,k=Ym (Cn r p) p.Ff:=⟨_,rfl⟩;have hk8:k≤8:=by rw [hk];exact Rl _ _
 have hgb:=Ky (Cn r p).next p.Ff;have hkm:((k:Nat):Int)=min (gp (Cn r p).next p.Ff) 8:=by rw [hk];unfold Ym;omega
 obtain ⟨N,hN⟩:∃N,N=Nx (Cn r p) k:=⟨_,rfl⟩;have hNl:N.length≤8:=by have:=Abt (Cn r p) k;rw [hN];omega
 have e1:Kj r p d=⟨true,r.Ai,Cn r p,Kk (Cn r p).next (r.Ai+d) (D8 r.Am (Cn r p)) N⟩:=by unfold Kj O7;rw [hb,if_pos rfl,hN,hk]
 rw [e1];have Vv:=Je (Cn r p).next (min (gp (Cn r p).next p.Ff) 8);have hgp:gp (Cn r p).next (Ce (Cn r p).next (min (gp (Cn r p).next p.Ff) 8))=(k:Nat):=by rw [←hkm];unfold gp Ce;omega
 refine go ?_;intros;refine ce (fun w s=>I1 _ _ _ GJ GJ) ?_;refine go ?_;intros;refine cf (Av1 _ _) fun _ _=>?_;refine Ar ?_;refine go ?_;intros;refine ce (fun w s=>Ks _ _ _ GJ GJ) ?_;refine go ?_;intros;refine cf (Ajt (Cn r p) _ k _ F7 v0_ v1_ GJ GJ hgp) fun m _=>?_;refine Ar ?_;rw [←hN];refine A4 (E:=Bc) (xs:=N) fun GN=>?_;refine A4 (E:=Ax) (xs:=D8 r.Am (Cn r p)) fun F8=>?_;refine go ?_;intros
 refine Ck [2,6,8,9,14,16] (fun s:AwS=>[(17,.int .i64 (s.i:Nat))]) (fun s=>[.row g8 117 0 [] [.bool true,.int .i64 r.Ai,.int .i64 (Cn r p).next,.slice a7 (Cn r p).Ap.length c7,.slice s.a (Kk (Cn r p).next (r.Ai+d) (D8 r.Am (Cn r p)) (N.take s.i)).length s.c] [],.sl Ax (.slice s.a (Kk (Cn r p).next (r.Ai+d) (D8 r.Am (Cn r p)) (N.take s.i)).length s.c) (Kk (Cn r p).next (r.Ai+d) (D8 r.Am (Cn r p)) (N.take s.i)) s.F]) (fun s=>s.i≤N.length) (fun s=>N.length - s.i) ⟨0,z.1,z.2.1,F8⟩ (Nat.zero_le _) fun s hs=>?_;obtain ⟨i,a3,c3,F3⟩:=s;dsimp only at hs ⊢
 have hall:=Qg (w:=Cn r p) (u:=r.Ai+d) GJ GJ (N.take i) (D8 r.Am (Cn r p)) (fun n hn=>by
  have:=Qp (w:=Cn r p) (n:=n) hk8 (by rw [←hN];exact List.mem_of_mem_take hn);exact ⟨this.1,this.2.2⟩) hnq Oq
 have hLs:∀h:i < N.length,Kk (Cn r p).next (r.Ai+d) (D8 r.Am (Cn r p)) (N.take (i+1))=Tp (Cn r p).next (Kk (Cn r p).next (r.Ai+d) (D8 r.Am (Cn r p)) (N.take i)) N[i] (r.Ai+d):=fun h=>Acg h;generalize hLd:Kk (Cn r p).next (r.Ai+d) (D8 r.Am (Cn r p)) (N.take i)=L at *;have hLq:=hall.1;have hL8:=(C9.1 hLq).2.1;refine go ?_;intros;refine Be rfl (fun h4=>?_) (fun h4=>?_)
 ·have hi:i < N.length:=by omega
  have hni:=Qp (w:=Cn r p) (n:=N[i]) hk8 (by rw [←hN];exact List.getElem_mem hi);refine Io (xs:=N) i ?_;rintro hi2 b o2 e;rw [e];refine go ?_;intros;refine At [0,1] [12] ?_;refine Dk 0 1 2 3 ?_;refine Dk 4 5 6 7 ?_;refine Dy 8 9 ?_;refine dN 10 ?_;refine oC ?_;refine cf (Avt L (Cn r p).next N[i] r.Ai d a3 c3 F3 hLq hni.1 k0 k1 d0 d1) fun u _=>?_;refine Ar ?_;rw [←hLs hi];refine dk ?_;refine dt 11 ?_;refine dN 12 ?_;refine oS ?_;refine Rn ?_;refine dd ?_;refine A4 (E:=Ax) fun F9=>?_;refine go ?_;intros
  exact CM
 have hi:i=N.length:=by omega
 subst hi;rw [List.take_length] at hLd;rw [hLd];refine go ?_;intros;refine Cp (x:=Cn r p) ?_;rintro b1 dd1 G1 e5 m1;simp only [Value.agg.injEq,Array.mk.injEq,List.cons.injEq,Value.slice.injEq,true_and,and_true] at e5;obtain ⟨rfl,rfl⟩:=e5;refine Ee ⟨true,r.Ai,Cn r p,L⟩ ?_;exact DP
theorem Abi (r:A9) (p:Av) (d:Int) (v:Value) (F:List Nat) (hg:Lq r) (hp:By p=true) (d0:1≤d) (d1:d≤8) :
  Fn prog 197 [v,.agg #[.int .i64 p.Ct,.int .i64 p.Af,.int .i64 p.Ao,.int .i64 p.Ff,.string p.data],.int .i64 d] [.isv B4 v r F] [] (fun (_:NwS)=>True) (fun s=>.tuple #[.agg #[.bool ((Dc r p d)).Bd,.int .i64 ((Dc r p d)).Ai,.int .i64 ((Dc r p d)).Ab.next,.slice s.a1 ((Dc r p d)).Ab.Ap.length s.c1,.slice s.a2 ((Dc r p d)).Am.length s.c2],.slice s.ae (Hx r p).length s.ce])
   (fun s=>[.isv B4 (.agg #[.bool ((Dc r p d)).Bd,.int .i64 ((Dc r p d)).Ai,.int .i64 ((Dc r p d)).Ab.next,.slice s.a1 ((Dc r p d)).Ab.Ap.length s.c1,.slice s.a2 ((Dc r p d)).Am.length s.c2]) (Dc r p d) s.F1,.ow A8 9 (.slice s.ae (Hx r p).length s.ce) (Hx r p) s.Fe]):=by
 have k0:=hg.k0;have k1:=hg.k1;have hrw:=(J0 hg.w).1;obtain ⟨-,q1,q2, -⟩:=C9.1 hg.q;obtain ⟨n0,n1⟩:=Jz hp;have hkd:1≤p.Ct∧p.Ct≤5:=by unfold By Eu at hp;simp only [Bool.and_eq_true,decide_eq_true_eq] at hp;exact hp.1.1.1.1.1.1
 refine enter func197 rfl ntmps197 fun w0=>?_;refine Gt (v:=v) (x:=r) (F:=F) ?_;rintro a1 c1 F1 a2 c2 F2 rfl - -;refine go ?_;intros;by_cases hk4:p.Ct=4
 ·have hn:Lm p=false:=by unfold Lm;simp [hk4]
  have eE:Hx r p=[]:=by unfold Hx;rw [hn];rfl
  rw [decide_eq_true hk4];cases hs:r.Bd
  ·have eR:Dc r p d=r:=by unfold Dc;rw [hn,hs];simp
   refine go ?_;intros;rw [decide_eq_true hk4];refine go ?_;intros;refine cf (Sc r _ F GJ GJ) fun u _=>?_;refine Ar ?_;refine H4 ?_;rintro a5 c5 F5 a6 c6 F6 e6 - -;rw [e6];refine A4 (E:=Cm) fun G5=>?_;refine A4 (E:=Ax) fun G6=>?_;refine go ?_;intros;refine C4 A8 ?_;refine Ee (a1:=a5) r ?_;rw [eR,eE];rw [hs];exact DP
  ·have eR:Dc r p d=Ak7 r p:=by unfold Dc;rw [hn,hs,decide_eq_true hk4];rfl
   refine go ?_;intros;refine cf (Sc r _ F GJ GJ) fun u _=>?_;refine Ar ?_;refine H4 ?_;rintro a5 c5 F5 a6 c6 F6 e6 - -;rw [e6];refine A4 (E:=Cm) fun G5=>?_;refine go ?_;intros;refine cf (Ajv r.Am r.Ab.next p.Af r.Ai a2 c2 F2 hg.q (Bb.2 ⟨n0,n1⟩) k0 k1) fun y _=>?_;refine Ar ?_;refine A4 (E:=Ax) (xs:=Qj r.Ab.next r.Am p.Af (r.Ai+4)) fun G6=>?_;refine go ?_;intros;refine C4 A8 ?_;refine Ee (a1:=a5) (Ak7 r p) ?_;rw [eR,eE];exact DP
 rw [decide_eq_false hk4];refine go ?_;intros;rw [decide_eq_false hk4];refine go ?_;intros;by_cases hk3:p.Ct=3
 ·have hn:Lm p=false:=by unfold Lm;simp [hk3]
  have eE:Hx r p=[]:=by unfold Hx;rw [hn];rfl
  have eR:Dc r p d=r:=by unfold Dc;rw [hn,decide_eq_false hk4];rfl
  rw [decide_eq_true hk3];refine go ?_;intros;refine cf (Sc r _ F GJ GJ) fun u _=>?_;refine Ar ?_;refine H4 ?_;rintro a5 c5 F5 a6 c6 F6 e6 - -;rw [e6];refine A4 (E:=Cm) fun G5=>?_;refine A4 (E:=Ax) fun G6=>?_;refine go ?_;intros;refine C4 A8 ?_;refine Ee (a1:=a5) r ?_;rw [eR,eE];exact DP
 have hn:Lm p=true:=by
  unfold Lm;have:p.Ct=1∨p.Ct=2∨p.Ct=5:=by omega
  rcases this with h|h|h <;> simp [h]
 have eE:Hx r p=Ma r p:=by unfold Hx;rw [hn];rfl
 have eR:Dc r p d=Kj r p d:=by unfold Dc;rw [hn];rfl
 rw [decide_eq_false hk3,eE,eR];refine go ?_;intros;refine cf (Asd r p d _ F hg hp d0 d1) fun s _=>?_;refine Ar ?_;refine go ?_;intros;refine ret ⟨s.a1,s.c1,s.F1,s.a2,s.c2,[],s.ae,s.ce,_⟩ trivial rfl
end Go.Proofs.YtkagnmekdkchiaaGreatDoor
namespace Go.Proofs.YtkagnmekdkchiaaGreatDoor

open Go.RowKit
end Go.Proofs.YtkagnmekdkchiaaGreatDoor
namespace Go.Proofs.YtkagnmekdkchiaaGreatDoor
open Go.RowKit
def Adr (x:A9):Bool:=x.Bd && decide ((x.Am.length:Int)=0) && decide ((x.Ab.Ap.length:Int)=0)
theorem Acp (x:A9) (v:Value) (F:List Nat):Fn prog 177 [v] [.isv B4 v x F] [] (fun (_:Unit)=>True) (fun _=>.bool (Adr x)) (fun _=>[]):=by
 refine enter func177 rfl ntmps177 fun w0=>?_;refine Gt (v:=v) (x:=x) (F:=F) ?_;rintro a1 c1 F1 a2 c2 F2 rfl l1 l2;unfold maxLen at l1 l2;refine go ?_;intros;cases hs:x.Bd
 ·refine go ?_;intros;refine ret () trivial ?_;unfold Adr;rw [hs];rfl
 refine go ?_;intros;refine Dj rfl rfl (fun h1=>?_) (fun h1=>?_)
 rotate_left
 ·refine go ?_;intros;refine ret () trivial ?_;unfold Adr;rw [hs,decide_eq_false h1];rfl
 refine go ?_;intros;refine ret () trivial ?_;unfold Adr;rw [hs,decide_eq_true h1];rfl
def Po (l:List Int) (k:Nat):List Int:=((List.range k).filter fun i=>Ed l ((i:Nat):Int)).map fun (i:Nat)=>((i:Nat):Int)
def lvs (l:List Int):List Int:=Po l l.length
theorem Afi (l:List Int) (k:Nat):Po l (k+1)=Po l k++if Ed l (k:Int)=true then [(k:Int)] else []:=by
 unfold Po;rw [List.range_succ,List.filter_append,List.map_append]
 split <;> simp_all
theorem Asu {l:List Int} {k:Nat} (h:Ed l (k:Int)=true):Po l (k+1)=Po l k++[(k:Int)]:=by rw [Afi,if_pos h]
theorem Av5 {l:List Int} {k:Nat} (h:Ed l (k:Int)=false):Po l (k+1)=Po l k:=by rw [Afi,if_neg (by rw [h];decide),List.append_nil]
theorem Aie (l:List Int) (k:Nat):(Po l k).length≤k:=by
 unfold Po;exact EI
theorem Ap9 {l:List Int} {x:Int} {k:Nat} (h:x∈Po l k):∃i,i < k∧x=((i:Nat):Int)∧Ed l x=true:=by
 unfold Po at h;obtain ⟨i,hi,rfl⟩:=List.mem_map.1 h;obtain ⟨h1,h2⟩:=List.mem_filter.1 hi;exact ⟨i,List.mem_range.1 h1,rfl,h2⟩
theorem Baa {l:List Int} (hg:Tn l):Ed l ((0:Nat):Int)=false:=by
 have h1:=hg.n0;have h2:=hg.p 1 GJ GJ;have h3:(((0:Nat):Int))∈l:=by
  have:l[1]=((0:Nat):Int):=by omega
  rw [←this];exact List.getElem_mem _
 unfold Ed;rw [decide_eq_true h3];rfl
theorem Bcb {l:List Int} {k:Nat} (h:k < (lvs l).length):∃i,i < l.length∧(lvs l)[k]=((i:Nat):Int)∧Ed l ((i:Nat):Int)=true:=by
 obtain ⟨i,hi,e,hl⟩:=Ap9 (List.getElem_mem h);exact ⟨i,hi,e,e▸hl⟩
theorem Auz {n:Dt} (hg:Aw n=true):Aw (Pv n).1=true∧Wr (Pv n).1=0:=⟨(Aeu (x:=(n,[])) hg).1.g,(Aeu (x:=(n,[])) hg).2⟩
def P0 (n:Dt):Int × Int × Bool:=if Aw n then (((qd n.down:Nat):Int),((qd n.up:Nat):Int),true) else (0,0,false)
def Abc (n:Dt) (i:Nat):Bool:=Adr (Pl n i) && decide ((Pl n i).Ab.next=Ce n.Aa.Ab.Ao n.Aa.Ab.Ak.length)
def X4 (n:Dt):Bool:=decide (Wr n=0) && (lvs n.Al.Ad).all fun x=>Abc n x.toNat
def Fh (n:Dt):Bool × Bool:=if Aw n then (X4 n,true) else (false,false)
theorem Awn {l:List (List Av)} (h:∀i (hi:i < l.length),l[i].length=0):qd l=0:=by
 refine Aae.2 fun q hq=>?_;obtain ⟨i,hi,rfl⟩:=List.getElem_of_mem hq;exact List.length_eq_zero_iff.1 (h i hi)
theorem Av6 {l:List Int} {i:Nat} (hi:i < l.length) (h:Ed l ((i:Nat):Int)=true):((i:Nat):Int)∈lvs l:=by
 unfold lvs Po;exact List.mem_map.2 ⟨i,List.mem_filter.2 ⟨List.mem_range.2 hi,h⟩,rfl⟩
theorem Axf {n:Dt} (h:¬Wr n=0):X4 n=false:=by unfold X4;rw [decide_eq_false h];rfl
theorem Agd {n:Dt} {i:Nat} (hi:i < n.Al.Ad.length) (h:Ed n.Al.Ad ((i:Nat):Int)=true) (hb:Abc n i=false):X4 n=false:=by
 unfold X4;rw [Bool.and_eq_false_iff];right;rw [List.all_eq_false];exact ⟨_,Av6 hi h,by rw [show ((i:Nat):Int).toNat=i from rfl,hb];decide⟩
theorem Am0 {n:Dt} (h:Wr n=0) (hl:∀i,i < n.Al.Ad.length→Ed n.Al.Ad ((i:Nat):Int)=true→Abc n i=true):X4 n=true:=by
 unfold X4;rw [decide_eq_true h,Bool.true_and,List.all_eq_true];intro x hx;obtain ⟨i,hi,rfl,h2⟩:=Ap9 hx;exact hl i hi h2
def Wi:ByteArray:=⟨#[33]⟩
def SlI (S:List ByteArray) (k:Nat) (l:List Hv):Prop:=∀(j:Nat) s,l[j]?=some s→s.Vv=true→S[k+j]?=some s.De
def EvI (S:List ByteArray) (b:Nat) (es:List ByteArray):Prop:=∀(i:Nat) e,es[i]?=some e→e=Al2∨∃t,S[b+i]?=some t∧e=Aft t
section
variable {S:List ByteArray} {f:Int} {k b:Nat}
theorem EvI.nil:EvI S b []:=fun i e h=>by simp at h
theorem EvI.app {x y:List ByteArray} (h:EvI S b x) (h2:EvI S (b+x.length) y):EvI S b (x++y):=fun i e he=>by
 by_cases hi:i < x.length
 ·rw [List.getElem?_append_left hi] at he;exact h i e he
 ·rw [List.getElem?_append_right GJ] at he;have:=h2 _ e he
  rwa [show b+x.length+(i - x.length)=b+i by omega] at this
theorem SlI.drop {l:List Hv} (h:SlI S k l) (m:Nat):SlI S (k+m) (l.drop m):=fun j s hs hv=>by
 rw [List.getElem?_drop] at hs;have:=h _ s hs hv
 rwa [show k+(m+j)=k+m+j by omega] at this
theorem SlI.nil:SlI S k []:=fun j s h=>by simp at h
theorem EvI.mono {S2:List ByteArray} {es:List ByteArray} (h:EvI S b es):EvI (S++S2) b es:=fun i e he=>by
 rcases h i e he with h|⟨t,h,e2⟩
 ·exact .inl h
 ·exact .inr ⟨t,by rw [List.getElem?_append_left (List.getElem?_eq_some_iff.1 h).1];exact h,e2⟩
theorem SlI.mono {S2:List ByteArray} {l:List Hv} (h:SlI S k l):SlI (S++S2) k l:=fun j s hs hv=>by
 have:=h j s hs hv;rw [List.getElem?_append_left (List.getElem?_eq_some_iff.1 this).1];exact this
structure PkI (S:List ByteArray) (f:Int) (p:Av):Prop where
 t:Lm p=true→∃i:Nat,i≤S.length∧p.Ao=Ce f i
 l:Lm p=true→∃i:Nat,i≤S.length∧p.Ff=Ce f i
 n:Lm p=true→p.Ct≠5→∃i:Nat,S[i]?=some p.data∧p.Af=Ce f i
theorem PkI.mono {S2:List ByteArray} {p:Av} (h:PkI S f p):PkI (S++S2) f p :=
 ⟨fun hn=>by obtain ⟨i,a,e⟩:=h.t hn;exact ⟨i,HT,e⟩,fun hn=>by obtain ⟨i,a,e⟩:=h.l hn;exact ⟨i,HT,e⟩,
  fun hn h5=>by obtain ⟨i,a,e⟩:=h.n hn h5;exact ⟨i,by rw [List.getElem?_append_left (List.getElem?_eq_some_iff.1 a).1];exact a,e⟩⟩
structure WnI (S:List ByteArray) (f:Int) (w:An) (es:List ByteArray) (k:Nat):Prop where
 le:k≤S.length
 n:w.next=Ce f k
 s:SlI S k w.Ap
 e:Wi∈es∨∃b,b+es.length=k∧EvI S b es
theorem WnI.on {w w2:An} {es e2:List ByteArray} (h:WnI S f w es k) (h1:EvI S k e2) (h2:k+e2.length≤S.length) (h3:w2.next=Ce f ((k+e2.length:Nat):Int)) (h4:SlI S (k+e2.length) w2.Ap):WnI S f w2 (es++e2) (k+e2.length) :=
 ⟨h2,h3,h4,by
  rcases h.e with h|⟨b,hb,he⟩
  ·exact .inl (List.mem_append_left _ h)
  ·exact .inr ⟨b,HT,he.app (by rw [hb];exact h1)⟩⟩
theorem WnI.mono {S2:List ByteArray} {w:An} {es:List ByteArray} (h:WnI S f w es k):WnI (S++S2) f w es k :=
 ⟨by rw [List.length_append];have:=h.le;omega,h.n,h.s.mono,by
  rcases h.e with h|⟨b,hb,he⟩
  ·exact .inl h
  ·exact .inr ⟨b,hb,he.mono⟩⟩
structure RcI (S:List ByteArray) (f:Int) (r:A9) (es:List ByteArray):Prop where
 z:r.Bd=false→es=[]
 w:r.Bd=true→∃k,WnI S f r.Ab es k∧∀q∈r.Am,∃j:Nat,j < S.length∧q.Af=Ce f j
theorem RcI.mono {S2:List ByteArray} {r:A9} {es:List ByteArray} (h:RcI S f r es):RcI (S++S2) f r es :=
 ⟨h.z,fun hs=>by obtain ⟨k,a,c⟩:=h.w hs;exact ⟨k,a.mono,fun q hq=>by obtain ⟨j,hj,e⟩:=c q hq;exact ⟨j,HT,e⟩⟩⟩
end
def Fs (f z:Int):Cr × Bool:=if Ch ⟨⟨f,z,[]⟩,0,0,[]⟩ then (⟨⟨f,z,[]⟩,0,0,[]⟩,true) else (Anh,false)
theorem Aku (f z:Int):Fn prog 50 [.int .i64 f,.int .i64 z] [] [] (fun (_:List Nat)=>True) (fun _=>.tuple #[.agg #[.int .i64 (Fs f z).1.Ab.Ao,.int .i64 (Fs f z).1.Ab.size,.slice none 0 0,.int .i64 (Fs f z).1.Ai,.int .i64 (Fs f z).1.quiet,.slice none 0 0],.bool (Fs f z).2]) (fun s=>[.isv D7 (.agg #[.int .i64 (Fs f z).1.Ab.Ao,.int .i64 (Fs f z).1.Ab.size,.slice none 0 0,.int .i64 (Fs f z).1.Ai,.int .i64 (Fs f z).1.quiet,.slice none 0 0]) (Fs f z).1 s]):=by
 refine enter func50 rfl ntmps50 fun w0=>?_;refine Cf A8 GM ?_;refine Cf Bi GM ?_;refine Gf Anh ?_;refine Cf A8 GM ?_;refine Cf Bi GM ?_;refine Gf ⟨⟨f,z,[]⟩,0,0,[]⟩ ?_;refine go ?_;intros;refine cb (fun w st=>(Vm ⟨⟨f,z,[]⟩,0,0,[]⟩ _ ([]++[])).val w (I9 (st.get (p:=.isv D7 (.agg #[.int .i64 f,.int .i64 z,.slice none 0 0,.int .i64 0,.int .i64 0,.slice none 0 0]) ⟨⟨f,z,[]⟩,0,0,[]⟩ ([]++[])) GO))) ?_;cases g1:Ch ⟨⟨f,z,[]⟩,0,0,[]⟩
 ·rw [show Fs f z=(Anh,false) by unfold Fs;rw [g1];rfl];exact EO
 rw [show Fs f z=(⟨⟨f,z,[]⟩,0,0,[]⟩,true) by unfold Fs;rw [g1];rfl];exact EO
theorem Adp (f z:Int):Fn prog 35 [.int .i64 f,.int .i64 z] [] [] (fun (_:List Nat)=>True) (fun _=>.tuple #[.agg #[.int .i64 (Fs f z).1.Ab.Ao,.int .i64 (Fs f z).1.Ab.size,.slice none 0 0,.int .i64 (Fs f z).1.Ai,.int .i64 (Fs f z).1.quiet,.slice none 0 0],.bool (Fs f z).2]) (fun s=>[.isv D7 (.agg #[.int .i64 (Fs f z).1.Ab.Ao,.int .i64 (Fs f z).1.Ab.size,.slice none 0 0,.int .i64 (Fs f z).1.Ai,.int .i64 (Fs f z).1.quiet,.slice none 0 0]) (Fs f z).1 s]):=by
 refine enter func35 rfl ntmps35 fun w0=>?_;refine Cf A8 GM ?_;refine Cf Bi GM ?_;refine Gf Anh ?_;refine Cf A8 GM ?_;refine Cf Bi GM ?_;refine Gf ⟨⟨f,z,[]⟩,0,0,[]⟩ ?_;refine go ?_;intros;refine cb (fun w st=>(Ah5 ⟨⟨f,z,[]⟩,0,0,[]⟩ _ ([]++[])).val w (I9 (st.get (p:=.isv D7 (.agg #[.int .i64 f,.int .i64 z,.slice none 0 0,.int .i64 0,.int .i64 0,.slice none 0 0]) ⟨⟨f,z,[]⟩,0,0,[]⟩ ([]++[])) GO))) ?_;cases g1:Ch ⟨⟨f,z,[]⟩,0,0,[]⟩
 ·rw [show Fs f z=(Anh,false) by unfold Fs;rw [g1];rfl];exact EO
 rw [show Fs f z=(⟨⟨f,z,[]⟩,0,0,[]⟩,true) by unfold Fs;rw [g1];rfl];exact EO
theorem goL {X:Prop} {c:Cx} {fr:Fr} {H:List Pc} {Φ:Gl} (h:X) (hs:Kp X→T c fr H Φ:=by intro hX;(repeat (first|apply Sx|apply Apv|(apply wO;apply oc;rfl;exact ydE)|(apply wO;apply oc;rfl;apply Ze;rfl;exact Bp;assumption)|apply Aav|apply Adm|(apply Aph;rfl;rfl)|(apply Apg;rfl;rfl;rfl;rfl)|(apply Api;rfl;rfl;rfl)|(apply c_t;rfl)|(apply c_f;rfl)|apply V9|apply Sw|apply Afk|apply Anq|apply Au0|apply Bby|apply Bbz|(apply Anz;rfl)|apply Aut|(apply wO;apply Aom;rfl;rfl;rfl;exact hX;clear hX;intro _ hX)|(apply wO;apply Afm;rfl;exact hX;clear hX;intro _ hX)|(apply wO;apply Awd;rfl;rfl;rfl;(first|exact AggC.s|exact OneC.s);rfl;exact Aj4;exact Azy;rfl)|(apply wO;apply Beb;rfl;rfl;exact AggC.s;exact Aj4;assumption;rfl;assumption)|(apply wO;apply Afn;rfl;kernel_rfl;exact Tw)|(refine Be rfl (fun h=>absurd h (by first|omega|simp)) (fun h=>?_);clear h)|(refine Dj rfl rfl (fun h=>absurd h (by first|omega|simp)) (fun h=>?_);clear h)));exact hX.h):T c fr H Φ:=hs ⟨h⟩
end Go.Proofs.YtkagnmekdkchiaaGreatDoor
