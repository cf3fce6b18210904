/- Part 10 of the proof: 21 texts, one behind the other. -/
import Derived.ProofKit
import Derived.OpenShut
import GoSem.ClaimGoes
import Derived.SevenTiedAt
import Derived.Test.YtkblpelckhegbaaGreatDoorProg
import Derived.Test.YtkblpelckhegbaaGreatDoorRows
import Derived.MakeChecks
import Derived.Stop.LaidErr
import Derived.Shelf.Vars
import Derived.LaidLaws
import Derived.Test.YtkblpelckhegbaaGreatDoorM9
open _root_.Go.Proofs.Tryz
set_option maxRecDepth 100000
set_option maxHeartbeats 8000000
set_option linter.all false
set_option linter.unusedVariables false
set_option linter.unusedSimpArgs false
namespace Go.Proofs.YtkblpelckhegbaaGreatDoor
theorem AB{p:Prop}(h:p:=by refine Cz Bb (by decide) ?_;refine Cz A8 (by decide) ?_;refine Cz Bn (by decide) ?_;refine Cz Bk (by decide) ?_;refine Cz Bi (by decide) ?_;refine Cz (Mr Ak (by decide)) (by decide) ?_;refine Cz (Mr Ak (by decide)) (by decide) ?_;refine Gz Xv (a1:=none) (c1:=0) (a2:=none) (c2:=0) (a3:=none) (c3:=0) (a4:=none) (c4:=0) (a5:=none) (c5:=0) (a6:=none) (c6:=0) (a7:=none) (c7:=0) ?_;refine go ?_;intros;refine Dc A8 ?_;refine go ?_;refine ret (⟨_,_,_,_,_⟩:StZ) trivial rfl):p:=h
theorem AE{p:Prop}(h:p:=by refine ret (⟨_,_⟩:Vp) trivial rfl):p:=h
theorem AS{p:Prop}(h:p:=by rw [hK];refine go ?_;refine ret () trivial ?_;rw [Kb];rfl):p:=h
theorem BA{p:Prop}(h:p:=by refine Ep R.1 s3 s4 (a1:=f1) (c1:=t1) (a2:=f2) (c2:=t2) (a3:=f3) (c3:=t3) (a4:=f4) (c4:=t4) (a5:=f5) (c5:=t5) (a6:=f6) (c6:=t6) (a7:=f7) (c7:=t7) ?_;exact AE):p:=h
theorem BI{p:Prop}(h:p:=by rw [show Cn n s=(Xv,[],false) by unfold Cn;rw [g1,g2,htk0,e1];rfl];exact AB):p:=h
theorem BK{p:Prop}(h:p:=by refine go ?_;refine Ep x s1 s2 (a1:=f1) (c1:=t1) (a2:=f2) (c2:=t2) (a3:=f3) (c3:=t3) (a4:=f4) (c4:=t4) (a5:=f5) (c5:=t5) (a6:=f6) (c6:=t6) (a7:=f7) (c7:=t7) ?_;exact AE):p:=h
theorem BS{p:Prop}(h:p:=by refine O3 ?_;intros;refine As [1] [3,4] ?_;refine Ed 0 1 ?_;refine dN 2 ?_;refine oC ?_;refine Cb (Aed E ⟨#[44,32]⟩ _ _ F8 (by decide) hE.1 hE.2) fun _ _=>?_;refine dk ?_;refine dN 3 ?_;refine oS ?_;refine Tx ?_;refine dtp 4 ?_;refine dd ?_;refine go ?_;exact AE):p:=h
theorem CD{p:Prop}(h:p:=by refine go ?_;refine Cb (W4 (Wi (Bo n s)) _ _ F5 hf1 hf2) fun _ _=>?_;refine go ?_;refine ret (⟨⟨y.1.a1,y.1.c1,y.1.a2,y.1.c2,y.1.a3,y.1.c3,y.1.a4,y.1.c4,y.1.a5,y.1.c5,y.1.a6,y.1.c6,y.1.a7,y.1.c7⟩,_,_,_⟩:RuS) ?_ rfl;rfl):p:=h
theorem CE{p:Prop}(h:p:=by refine dk ?_;refine dN 13 ?_;refine Pm (E:=A8) (xs:=[]) Eh Hj fun a9 c9 F9=>?_;rw [List.nil_append];refine dk ?_;refine dt 14 ?_;refine dN 16 ?_;refine oS ?_;refine dk ?_;refine dd ?_;refine Bt (⟨_,a9,c9,F9⟩:L28) trivial):p:=h
theorem CW{p:Prop}(h:p:=by refine ret (⟨_,FN,_,_,_⟩:StZ) trivial rfl):p:=h
theorem DS{p:Prop}(h:p:=by refine go ?_;exact AE):p:=h
theorem DY{p:Prop}(h:p:=by refine go ?_;refine Ax rfl (fun e=>absurd e (by omega)) (fun _=>?_);exact AA):p:=h
theorem EJ{p:Prop}(h:p:=by refine dd ?_;refine go ?_;refine ret () trivial ?_;unfold Gw;rw [g];rw [if_pos rfl,Ajd hk3 hlf (by unfold Ad1;rw [Hv h5,hst];rfl)];rfl):p:=h
theorem JD{p:Prop}(h:p:=by show i < n.An.Ad.length;omega):p:=h
theorem LE{p:Prop}(h:p:=by rw [ByteArray.size_append];show _+1+_≤9223372036854775807;omega):p:=h
theorem LI{p:Prop}(h:p:=by first|exact ydE|exact Aud rfl (by exact A9) (by assumption)):p:=h
end Go.Proofs.YtkblpelckhegbaaGreatDoor
namespace Go.Proofs.YtkblpelckhegbaaGreatDoor
open Go.RowKit
theorem Ack {k:Nat} (h:k≤999999):(bz (Lib.itoa ((k:Nat):Int))).size≤6:=by
 rw [Ka,Qw (Int.natCast_nonneg k),Int.natAbs_natCast];exact Em 5 k (by show _ < 1000000;omega)
theorem Be8 (n:Du) (line:ByteArray) (v:Value) (F FT:List Nat) (g:At n=true):Fn prog 123 [v,.string line] [.isv Ny v n F,Hp FT] [] (fun (u:ByteArray × Bool)=>Li n line.data.toList=if u.2 then some u.1 else none) (fun u=>.tuple #[.string u.1,.bool u.2]) (fun _=>[]):=by
 refine enter func123 rfl ntmps123 fun w0=>?_;refine Hm ?_;rintro a1 c1 F1 a2 c2 F2 a3 c3 F3 a4 c4 F4 a5 c5 F5 a6 c6 F6 a7 c7 F7 rfl l1 l2 l3 l4 l5 l6 l7;obtain ⟨e1,e2,e3,e4⟩:=Ii g;obtain ⟨q2,q8,qn,qu,qe,qt⟩:=Qh g;have hG:=A1.1 g;obtain ⟨-,qr, -, -⟩:=Bm.1 hG.l;have hS:=Lc hG.s;have hW:=Ec.1 (Fs.1 hG.s).1;have hS1:=hS.l;have hb1:=Pb (fun q hq=>(Db (e3 q hq)).1) n.down.length;have hb2:=Pb (fun q hq=>(Db (e4 q hq)).1) n.up.length;rw [List.take_length] at hb1 hb2;have z1:=Ack (k:=qd n.down) FJ;have z2:=Ack (k:=qd n.up) FJ;refine go ?_;intros;refine Ax rfl (fun h1=>?_) (fun h1=>?_)
 ·refine go ?_;refine cb (fun w s=>I4 n.Ab.Aa.Ap n.Ab.Aa.size _ n.Ab.Aa.Ao.length _ w hW.1.1 hW.1.2 FJ) ?_;have hld:=Acp n.Ab.Aa;unfold Mi at hld;refine go ?_;refine cb (fun w st=>Abb (Ci n.Ab.Aa.Ap n.Ab.Aa.Ao.length) FJ FJ FT w (st.get (p:=Hp FT) FK)) ?_;refine go ?_;refine ret (⟨_,true⟩:ByteArray × Bool) ?_ rfl;show Li n _=some _;unfold Li;rw [if_pos (show line.data.toList=Adg from Dw.1 h1)];rfl
 refine go ?_;refine Ax rfl (fun h2=>?_) (fun h2=>?_)
 ·refine O3 ?_;intros;refine As [0] [] ?_;refine Ds 0 1 5 6 ?_;refine dN 2 ?_;refine oC ?_;refine Cb (Wl n.down _ _ _ FJ fun q hq=>(Db (e3 q hq)).1) fun _ _=>?_;refine dk ?_;refine dN 3 ?_;refine oC ?_;refine cb (fun w st=>Abb ((qd n.down:Nat):Int) FJ FJ FT w (st.get (p:=Hp FT) FK)) ?_;refine dk ?_;refine dt 4 ?_ (hy:=Of rfl rfl (by show _+1≤9223372036854775807;omega));refine dN 7 ?_;refine oC ?_;refine Cb (Wl n.up _ _ _ FJ fun q hq=>(Db (e4 q hq)).1) fun _ _=>?_;refine dk ?_;refine dN 8 ?_;refine oC ?_
  refine cb (fun w st=>Abb ((qd n.up:Nat):Int) FJ FJ FT w (st.get (p:=Hp FT) FK)) ?_;refine dk ?_;refine dt 9 ?_ (hy:=Of rfl rfl LE);refine Ed 10 11 ?_;refine dd ?_;refine go ?_;refine ret (⟨_,true⟩:ByteArray × Bool) ?_ rfl;show Li n _=some _;unfold Li;rw [if_neg (show ¬line.data.toList=Adg from fun e=>h1 (Dw.2 e)),if_pos (show line.data.toList=Xs from Dw.1 h2)]
 refine go ?_;refine Ax rfl (fun h3=>?_) (fun h3=>?_)
 ·refine go ?_;have hP:=fun v=>Ar0 n v F;simp only [show Gw n=(Aad n,true) by unfold Gw;rw [g];rfl] at hP;refine Cb (hP _) fun _ _=>?_;have e:Li n line.data.toList=some (if Aad n then bz Bf3 else bz wNo):=by
   unfold Li;rw [if_neg (show ¬line.data.toList=Adg from fun e=>h1 (Dw.2 e)),if_neg (show ¬line.data.toList=Xs from fun e=>h2 (Dw.2 e)),if_pos (show line.data.toList=Zh from Dw.1 h3)]
  cases hst:Aad n
  ·refine go ?_;refine ret (⟨bz wNo,true⟩:ByteArray × Bool) ?_ rfl;rw [e,hst];rfl
  ·refine go ?_;refine ret (⟨bz Bf3,true⟩:ByteArray × Bool) ?_ rfl;rw [e,hst];rfl
 ·refine go ?_;refine ret (⟨⟨#[]⟩,false⟩:ByteArray × Bool) ?_ rfl;unfold Li;rw [if_neg (show ¬line.data.toList=Adg from fun e=>h1 (Dw.2 e)),if_neg (show ¬line.data.toList=Xs from fun e=>h2 (Dw.2 e)),if_neg (show ¬line.data.toList=Zh from fun e=>h3 (Dw.2 e))];rfl
theorem Vv {n:Du} {w:Bs} {l:List Int} (h:Gj 1 (l.getD 0 0) ((n.An.Ad.length:Int) - 1)=true):Ke n w l =
  if w=Ajn∧l.length=1∧Uj n (l.getD 0 0)=true then some (Wf ((Q5 n (l.getD 0 0).toNat).Al.map (·.Ae)))
  else if w=Ajp∧l.length=1∧Uj n (l.getD 0 0)=true∧(Q5 n (l.getD 0 0).toNat).Be=true then some (Aap (Q5 n (l.getD 0 0).toNat).Aa)
  else if w=Od∧l.length=2∧Uj n (l.getD 0 0)=false then (if Cc (l.getD 1 0) then some (Wf (Lw (Qt n (l.getD 0 0).toNat) (l.getD 1 0))) else none)
  else none:=by unfold Ke;rw [if_pos h]
theorem Ak8 {e:Bf} (he:Ba e=true) (k:Int):(∀f∈(Gm e k).1,0≤f∧f≤99999)∧(Gm e k).1.length≤1000:=by
 unfold Gm
 split
 ·refine ⟨fun f hf=>by have:=Ak7 he f hf;omega,?_⟩;unfold Lw
  split
  ·rename_i x hx;have:=(Tz he).2.2 x (List.mem_of_getElem? hx);dsimp only;omega
  ·exact Nat.zero_le _
 ·exact ⟨fun f hf=>(by cases hf),Nat.zero_le _⟩
theorem Bd3 (n:Du) (w:ByteArray) (l:List Int) (v:Value) (F:List Nat) (a:Option Addr) (c:Nat) (Fl FT:List Nat) (g:At n=true) (hl0:0 < l.length):Fn prog 125 [v,.string w,.slice a l.length c] [.isv Ny v n F,.sl Bb (.slice a l.length c) l Fl,Hp FT] [] (fun (u:ByteArray × Bool)=>Ke n w.data.toList l=if u.2 then some u.1 else none) (fun u=>.tuple #[.string u.1,.bool u.2]) (fun _=>[]):=by
 refine enter func125 rfl ntmps125 fun w0=>?_;refine Hm ?_;rintro a1 c1 F1 a2 c2 F2 a3 c3 F3 a4 c4 F4 a5 c5 F5 a6 c6 F6 a7 c7 F7 rfl l1 l2 l3 l4 l5 l6 l7;obtain ⟨e1,e2,e3,e4⟩:=Ii g;obtain ⟨q2,q8,qn,qu,qe,qt⟩:=Qh g;have hG:=A1.1 g;obtain ⟨-,qr, -, -⟩:=Bm.1 hG.l;have hS:=Lc hG.s;have hW:=Ec.1 (Fs.1 hG.s).1;have hS1:=hS.l;have hb1:=Pb (fun q hq=>(Db (e3 q hq)).1) n.down.length;have hb2:=Pb (fun q hq=>(Db (e4 q hq)).1) n.up.length;rw [List.take_length] at hb1 hb2;refine Iu n.An (a1:=a1) ?_;refine I5 (xs:=l) 0 ?_;rintro hi0 b0 o0 rfl;have eg:l.getD 0 0=l[0]:=Qu hi0 0;refine go ?_;intros
 refine ce (fun w s=>Ik _ _ _ _) ?_;cases hb:Gj 1 l[0] ((n.An.Ad.length:Int) - 1)
 ·refine go ?_;refine ret (⟨⟨#[]⟩,false⟩:ByteArray × Bool) ?_ rfl;unfold Ke;rw [eg,hb];rfl
 have hb0:=hb;unfold Gj at hb0;simp only [Bool.and_eq_true,decide_eq_true_eq] at hb0;obtain ⟨i,hi⟩:∃i:Nat,l[0]=(i:Int):=⟨l[0].toNat,FJ⟩;have hi8:i < n.An.Ad.length:=FJ
 have h5:i < n.Ac.length:=FJ
 have hie:i < n.Af.length:=FJ
 rw [←eg] at hb;have eN:l.getD 0 0=(i:Int):=by rw [eg,hi]
 rw [hi];refine go ?_;refine Cb (Yr n.An (i:Int) _ F1) fun _ _=>?_;generalize hlf:Eu n.An.Ad (i:Int)=B;have hLN:Uj n (l.getD 0 0)=B:=by rw [eN];exact hlf
 repeat (apply wO;apply oc;rfl;exact ydE)
 apply X6;apply Abl;apply Q7;apply Tj;apply Q7;have hR:=Eb.1 (e2 _ (List.getElem_mem h5));have er:Q5 n (l.getD 0 0).toNat=n.Ac[i]:=by rw [eN,Int.toNat_natCast];exact Hv h5
 refine E4 [1,2,3,6,7,8,9] [0,1,2,3,4,5,6,7,8,9,10,11,12] (fun b:Bool=>[(29,.bool b)]) (fun _=>[]) (fun b=>b=decide (w=⟨#[97,119,97,105,116]⟩∧l.length=1∧B=true)) ?_ fun b hb9=>?_
 ·by_cases hw:w=⟨#[97,119,97,105,116]⟩
  ·refine go ?_;rw [show decide (w=⟨#[97,119,97,105,116]⟩)=true from decide_eq_true hw];refine go ?_;by_cases hn:l.length=1
   ·rw [show decide ((l.length:Int)=1)=true from decide_eq_true FJ];refine go ?_;refine Bt B ?_;cases B <;> simp [hw,hn]
   ·rw [show decide ((l.length:Int)=1)=false from decide_eq_false FJ];refine go ?_;refine Bt false ?_;simp [hn]
  ·refine go ?_;rw [show decide (w=⟨#[97,119,97,105,116]⟩)=false from decide_eq_false hw];refine go ?_;refine Bt false ?_;simp [hw]
 subst hb9;by_cases hc1:w=⟨#[97,119,97,105,116]⟩∧l.length=1∧B=true
 ·rw [decide_eq_true hc1];refine Kg (xs:=n.Ac) i ?_;rintro h5b b5 o5 a9 c9 F9 a10 c10 F10 e5 l9 l10;rw [e5];refine Ev n.Ac[i] ?_;refine go ?_;refine Cb (Adk n.Ac[i] _ _) fun z _=>?_;obtain ⟨ra,rc,rF⟩:=z;dsimp only;have hP:=Aam (n.Ac[i].Al.map (·.Ae)) ra rc;have ea:E8 n.Ac[i]=(n.Ac[i].Al.map (·.Ae),true):=by unfold E8;rw [e2 _ (List.getElem_mem h5)];rfl
  rw [ea];dsimp only;refine A4 (E:=Bb) (xs:=n.Ac[i].Al.map (·.Ae)) fun F8=>?_;refine go ?_;refine cf (hP F8 FT (fun f hf=>by
   obtain ⟨q,hq,rfl⟩:=List.mem_map.1 hf;have:=Bc.1 (Y7 hR hq).1;omega) (by rw [List.length_map];have:=(Dg.1 hR.q).2.1;omega)) fun _ _=>?_
  refine O1 ?_;refine go ?_;refine ret (⟨_,true⟩:ByteArray × Bool) ?_ rfl;rw [Vv hb,if_pos ⟨Dw.1 hc1.1,hc1.2.1,hLN.trans hc1.2.2⟩,er];rfl
 rw [decide_eq_false hc1];apply Abl;apply c_f;rfl;apply Q7;refine E4 [1,2,3,6,7,8,9] [0,1,2,3,4,5,6,7,8,9,10,11,12] (fun b:Bool=>[(51,.bool b)]) (fun _=>[]) (fun b=>b=decide (w=⟨#[115,108,111,116,115]⟩∧l.length=1∧B=true∧n.Ac[i].Be=true)) ?_ fun b hb9=>?_
 ·refine Kg (xs:=n.Ac) i ?_;rintro h5b b5 o5 a9 c9 F9 a10 c10 F10 e5 l9 l10;rw [e5];by_cases hw:w=⟨#[115,108,111,116,115]⟩
  ·refine go ?_;rw [show decide (w=⟨#[115,108,111,116,115]⟩)=true from decide_eq_true hw];refine go ?_;by_cases hn:l.length=1
   ·rw [show decide ((l.length:Int)=1)=true from decide_eq_true FJ];refine go ?_;cases B
    ·refine go ?_;refine Bt false ?_;simp
    ·refine go ?_;refine Bt n.Ac[i].Be ?_;cases n.Ac[i].Be <;> simp [hw,hn]
   ·rw [show decide ((l.length:Int)=1)=false from decide_eq_false FJ];refine go ?_;refine Bt false ?_;simp [hn]
  ·refine go ?_;rw [show decide (w=⟨#[115,108,111,116,115]⟩)=false from decide_eq_false hw];refine go ?_;refine Bt false ?_;simp [hw]
 subst hb9;by_cases hc2:w=⟨#[115,108,111,116,115]⟩∧l.length=1∧B=true∧n.Ac[i].Be=true
 ·rw [decide_eq_true hc2];refine Kg (xs:=n.Ac) i ?_;rintro h5b b5 o5 a9 c9 F9 a10 c10 F10 e5 l9 l10;rw [e5];refine B4 n.Ac[i].Aa (a1:=a9) ?_;refine go ?_;refine Cb (Aqz n.Ac[i].Aa _ F9 FT hR.w) fun _ _=>?_;refine go ?_;refine ret (⟨_,true⟩:ByteArray × Bool) ?_ rfl;rw [Vv hb,if_neg (fun e=>hc1 ⟨Dw.2 e.1,e.2.1,hLN.symm.trans e.2.2⟩),if_pos ⟨Dw.1 hc2.1,hc2.2.1,hLN.trans hc2.2.2.1,by rw [er];exact hc2.2.2.2⟩,er];rfl
 rw [decide_eq_false hc2];apply Abl;apply c_f;rfl;apply Q7;refine E4 [2,3,6,7,8] [0,1,2,3,4,5,6,7,8,9,10,11,12] (fun b:Bool=>[(77,.bool b)]) (fun _=>[]) (fun b=>b=decide (w=⟨#[102,97,99,101,115]⟩∧l.length=2∧B=false)) ?_ fun b hb9=>?_
 ·by_cases hw:w=⟨#[102,97,99,101,115]⟩
  ·refine go ?_;rw [show decide (w=⟨#[102,97,99,101,115]⟩)=true from decide_eq_true hw];refine go ?_;by_cases hn:l.length=2
   ·rw [show decide ((l.length:Int)=2)=true from decide_eq_true FJ];refine go ?_;refine Bt (!B) ?_;cases B <;> simp [hw,hn]
   ·rw [show decide ((l.length:Int)=2)=false from decide_eq_false FJ];refine go ?_;refine Bt false ?_;simp [hn]
  ·refine go ?_;rw [show decide (w=⟨#[102,97,99,101,115]⟩)=false from decide_eq_false hw];refine go ?_;refine Bt false ?_;simp [hw]
 subst hb9;by_cases hc3:w=⟨#[102,97,99,101,115]⟩∧l.length=2∧B=false
 rotate_left
 ·rw [decide_eq_false hc3];refine go ?_;refine ret (⟨⟨#[]⟩,false⟩:ByteArray × Bool) ?_ rfl;rw [Vv hb,if_neg (fun e=>hc1 ⟨Dw.2 e.1,e.2.1,hLN.symm.trans e.2.2⟩),if_neg (fun e=>hc2 ⟨Dw.2 e.1,e.2.1,hLN.symm.trans e.2.2.1,by rw [←er];exact e.2.2.2⟩),if_neg (fun e=>hc3 ⟨Dw.2 e.1,e.2.1,hLN.symm.trans e.2.2⟩)];rfl
 rw [decide_eq_true hc3];have hl1:1 < l.length:=FJ
 have hfn:=Ak8 (e1 _ (List.getElem_mem hie)) l[1];refine I5 (xs:=l) 1 ?_;rintro hi1 b1 o1 ea1;cases ea1;refine Qb (xs:=n.Af) i ?_;rintro h5b b5 o5 a9 c9 F9 e5 l9;rw [e5];refine Nr n.Af[i] ?_;refine O3 ?_;intros;refine As [1,3,4] [9,10,11,12,13] ?_;refine Ds 0 1 2 3 ?_;refine Ds 4 5 6 7 ?_;refine dN 8 ?_;refine oC ?_;refine Cb (Arz n.Af[i] l[1] _ _) fun z _=>?_;obtain ⟨fa,fc,fF⟩:=z;dsimp only;refine A4 (E:=Bb) (xs:=(Gm n.Af[i] l[1]).1) fun F8=>?_;refine dk ?_;refine dtp 9 ?_;refine dtp 10 ?_;refine dtp 11 ?_;refine dtp 12 ?_;refine dtp 13 ?_;refine dd ?_;refine go ?_
 refine Cb (Aam (Gm n.Af[i] l[1]).1 fa fc F8 FT hfn.1 hfn.2) fun _ _=>?_;refine go ?_;refine ret (⟨_,(Gm n.Af[i] l[1]).2⟩:ByteArray × Bool) ?_ rfl;rw [Vv hb,if_neg (fun e=>hc1 ⟨Dw.2 e.1,e.2.1,hLN.symm.trans e.2.2⟩),if_neg (fun e=>hc2 ⟨Dw.2 e.1,e.2.1,hLN.symm.trans e.2.2.1,by rw [←er];exact e.2.2.2⟩),if_pos ⟨Dw.1 hc3.1,hc3.2.1,hLN.trans hc3.2.2⟩,Qu hl1,eN,Int.toNat_natCast,J3 hie];unfold Gm;rw [e1 _ (List.getElem_mem hie),Bool.true_and];cases Cc l[1] <;> rfl
structure NL where
 a1:Option Addr
 c1:Nat
 a2:Option Addr
 c2:Nat
 a3:Option Addr
 c3:Nat
 a4:Option Addr
 c4:Nat
 a5:Option Addr
 c5:Nat
 a6:Option Addr
 c6:Nat
 a7:Option Addr
 c7:Nat
structure RuS where
 z:NL
 t:ByteArray
 b:Bool
 F:List Nat
theorem Bke {p q r:Pc} {w:World} (h:p.P w) (h2:q.P w) (h3:r.P w):Om [p,q,r] w:=fun x hx=>by
 simp at hx;rcases hx with rfl|rfl|rfl
 ·exact h
 ·exact h2
 ·exact h3
def Vm (line:ByteArray):List ByteArray:=(Ee 32 line.data.toList).map bz
theorem Amm (line:ByteArray):wsL (Vm line)=Gp line:=by
 unfold wsL Vm Gp;rw [List.map_map];exact (List.map_congr_left fun x _=>Kr x).trans (List.map_id _)
theorem Aml (line:ByteArray):0 < (Vm line).length∧(Vm line).length≤line.size+1∧∀t∈Vm line,t.size≤line.size:=by
 obtain ⟨r,hr, -⟩:=Sx 32 line.data.toList;obtain ⟨h1,h2⟩:=Ayy line.data.toList;rw [C0] at h1;unfold Vm;rw [List.length_map];refine ⟨by rw [hr];simp,h1,fun t ht=>?_⟩;obtain ⟨x,hx,rfl⟩:=List.mem_map.1 ht;have:=h2 x hx;rw [C0] at this;rw [Ka];exact this
theorem Aus {n:Du} {s:Kq} (hg:At n=true) (hs:Ex s=true):(Wi (Bo n s)).length≤900000000000∧∀e∈Wi (Bo n s),e.size≤100:=by
 cases e:Bo n s with
 | none=>exact ⟨Nat.zero_le _,fun e he=>by cases he⟩
 | some y =>
  have h1:=Aq4 hg hs e;refine ⟨by show y.2.length≤_;omega,fun z hz=>?_⟩;have:=(Zm (Atv hg hs e z hz)).2;omega
theorem Ac2 {n:Du} {line:ByteArray} {s:Kq} (h:Jf (Gp line)=some s):Pv n line=Km n s:=by unfold Pv;rw [h]
theorem Bb4 {n:Du} {line:ByteArray} {s:Kq} (h:Jf (Gp line)=some s) (hs:Ex s=true):Ic n line=Ih n (Bo n s)∧Pv n line=if (Bo n s).isSome then some (Ic n line,if s.Cp=2∨s.Cp=4 then Ym (Wi (Bo n s)) else bz wOk) else none:=by
 have e:Pv n line=(Bo n s).map fun y=>(y.1,if s.Cp=2∨s.Cp=4 then Ym y.2 else bz wOk):=by rw [Ac2 h];unfold Km;rw [if_pos hs]
 unfold Ic;rw [e];cases Bo n s with
 | none=>exact ⟨rfl,rfl⟩
 | some y=>exact ⟨rfl,rfl⟩
theorem Ac1 {n:Du} {line:ByteArray} {r:Option ByteArray} (h:Pv n line=Q4 n r):Ic n line=n:=by
 unfold Ic;rw [h];cases r <;> rfl
theorem Bjl (n:Du) (line:ByteArray) (g:Nat) (a1:Option Addr) (c1:Nat) (a2:Option Addr) (c2:Nat) (a3:Option Addr) (c3:Nat) (a4:Option Addr) (c4:Nat) (a5:Option Addr) (c5:Nat) (a6:Option Addr) (c6:Nat) (a7:Option Addr) (c7:Nat) (F FT:List Nat) (hg:At n=true) (hl:line.size≤900):Fn prog 53 [Iq g 0 0,.string line] [Hp FT] [.row g 50 0 [] [.slice a1 n.An.Ad.length c1,.int .i64 n.Ab.Aa.Ap,.int .i64 n.Ab.Aa.size,.slice a2 n.Ab.Aa.Ao.length c2,.int .i64 n.Ab.Ai,.int .i64 n.Ab.quiet,.slice a3 n.Ab.holds.length c3,.slice a4 n.Af.length c4,.slice a5 n.Ac.length c5,.slice a6 n.down.length c6,.slice a7 n.up.length c7] [],.own Aaw (.agg #[.slice a1 n.An.Ad.length c1,.int .i64 n.Ab.Aa.Ap,.int .i64 n.Ab.Aa.size,.slice a2 n.Ab.Aa.Ao.length c2,.int .i64 n.Ab.Ai,.int .i64 n.Ab.quiet,.slice a3 n.Ab.holds.length c3,.slice a4 n.Af.length c4,.slice a5 n.Ac.length c5,.slice a6 n.down.length c6,.slice a7 n.up.length c7]) n F] (fun (u:RuS)=>Pv n line=if u.b then some (Ic n line,u.t) else none) (fun u=>.tuple #[.string u.t,.bool u.b]) (fun u=>[.row g 50 0 [] [.slice u.z.a1 (Ic n line).An.Ad.length u.z.c1,.int .i64 (Ic n line).Ab.Aa.Ap,.int .i64 (Ic n line).Ab.Aa.size,.slice u.z.a2 (Ic n line).Ab.Aa.Ao.length u.z.c2,.int .i64 (Ic n line).Ab.Ai,.int .i64 (Ic n line).Ab.quiet,.slice u.z.a3 (Ic n line).Ab.holds.length u.z.c3,.slice u.z.a4 (Ic n line).Af.length u.z.c4,.slice u.z.a5 (Ic n line).Ac.length u.z.c5,.slice u.z.a6 (Ic n line).down.length u.z.c6,.slice u.z.a7 (Ic n line).up.length u.z.c7] [],.own Aaw (.agg #[.slice u.z.a1 (Ic n line).An.Ad.length u.z.c1,.int .i64 (Ic n line).Ab.Aa.Ap,.int .i64 (Ic n line).Ab.Aa.size,.slice u.z.a2 (Ic n line).Ab.Aa.Ao.length u.z.c2,.int .i64 (Ic n line).Ab.Ai,.int .i64 (Ic n line).Ab.quiet,.slice u.z.a3 (Ic n line).Ab.holds.length u.z.c3,.slice u.z.a4 (Ic n line).Af.length u.z.c4,.slice u.z.a5 (Ic n line).Ac.length u.z.c5,.slice u.z.a6 (Ic n line).down.length u.z.c6,.slice u.z.a7 (Ic n line).up.length u.z.c7]) (Ic n line) u.F]):=by
 obtain ⟨hw0,hwl,hws⟩:=Aml line;refine enter func53 rfl ntmps53 fun w0=>?_;refine go ?_;refine cn (fun w st=>Bfo line ⟨#[32]⟩ FJ FM FT w (st.get (p:=Hp FT) FK)) fun a0 c0 F0=>?_;rw [show Lib.splitB ⟨#[32]⟩ 0 (Lib.countB line ⟨#[32]⟩) line=Vm line from Aja 32 line];generalize hwd:Vm line=ws at *;have hWL:wsL ws=Gp line:=by rw [←hwd];exact Amm line
 refine A4 (E:=A8) (xs:=ws) fun F1=>?_;refine go ?_;refine Cb (Bci ws hw0 a0 c0 F1 FT (fun t ht=>by have:=hws t ht;omega)) fun u hu=>?_;obtain ⟨s,ok⟩:=u;obtain ⟨hs,hst⟩:=hu;dsimp only at hs hst ⊢;rw [hWL] at hst;cases ok
 rotate_left
 ·replace hst:Jf (Gp line)=some s:=hst;refine go ?_;intros;refine Cb (Ajv s hs) fun _ _=>?_;cases hk:Ex s
  ·have eN:Pv n line=none:=by rw [Ac2 hst];unfold Km;rw [hk];rfl
   have eM:Ic n line=n:=Ac1 (r:=none) eN;rw [eM,eN];refine go ?_;refine ret (⟨⟨a1,c1,a2,c2,a3,c3,a4,c4,a5,c5,a6,c6,a7,c7⟩,⟨#[]⟩,false,F⟩:RuS) ?_ rfl;rfl
  obtain ⟨eM,eN⟩:=Bb4 (n:=n) hst hk;obtain ⟨hf1,hf2⟩:=Aus hg hk;rw [eN,eM];refine Um (x:=n) ?_;rintro x1 w1 K1 x2 w2 K2 x3 w3 K3 x4 w4 K4 x5 w5 K5 x6 w6 K6 x7 w7 K7 ev - - - - - - -;simp only [Value.agg.injEq,Array.mk.injEq,List.cons.injEq,Value.slice.injEq,Value.int.injEq,true_and,and_true] at ev;obtain ⟨⟨rfl,rfl⟩,⟨rfl,rfl⟩,⟨rfl,rfl⟩,⟨rfl,rfl⟩,⟨rfl,rfl⟩,⟨rfl,rfl⟩,rfl,rfl⟩:=ev;refine go ?_;refine Cb (Anu n s g a1 c1 K1 a2 c2 K2 a3 c3 K3 a4 c4 K4 a5 c5 K5 a6 c6 K6 a7 c7 K7 FT hg hk hs) fun y _=>?_;refine A4 (E:=A8) (xs:=Wi (Bo n s)) fun F5=>?_;refine Qc (Ih n (Bo n s)) ?_;by_cases k2:s.Cp=2
  ·rw [if_pos (show s.Cp=2∨s.Cp=4 from .inl k2)];refine go ?_;rw [show decide (s.Cp=2)=true from decide_eq_true k2];exact CD
  by_cases k4:s.Cp=4
  ·rw [if_pos (show s.Cp=2∨s.Cp=4 from .inr k4)];refine go ?_;rw [show decide (s.Cp=2)=false from decide_eq_false k2];refine go ?_;refine Ax rfl (fun k5=>?_) (fun k5=>?_)
   rotate_left
   ·exact absurd k4 k5
   exact CD
  ·rw [if_neg (show ¬(s.Cp=2∨s.Cp=4) from fun h=>h.elim k2 k4)];refine go ?_;rw [show decide (s.Cp=2)=false from decide_eq_false k2];refine go ?_;refine Ax rfl (fun k5=>?_) (fun k5=>?_)
   ·exact absurd k5 k4
   refine go ?_;refine ret (⟨⟨y.1.a1,y.1.c1,y.1.a2,y.1.c2,y.1.a3,y.1.c3,y.1.a4,y.1.c4,y.1.a5,y.1.c5,y.1.a6,y.1.c6,y.1.a7,y.1.c7⟩,bz wOk,_,_⟩:RuS) ?_ rfl;rfl
 replace hst:Jf (Gp line)=none:=hst;refine go ?_;intros;refine Ax rfl (fun h1=>?_) (fun h1=>?_)
 ·have eN:Pv n line=some ((Ri n).1,Ym (Ri n).2):=by unfold Pv;rw [hst];dsimp only;rw [if_pos (show line.data.toList=Xr from Dw.1 h1)]
  have eM:Ic n line=(Ri n).1:=by unfold Ic;rw [eN]
  rw [eN,eM];have hf1:=Aup hg;refine Um (x:=n) ?_;rintro x1 w1 K1 x2 w2 K2 x3 w3 K3 x4 w4 K4 x5 w5 K5 x6 w6 K6 x7 w7 K7 ev - - - - - - -;simp only [Value.agg.injEq,Array.mk.injEq,List.cons.injEq,Value.slice.injEq,Value.int.injEq,true_and,and_true] at ev;obtain ⟨⟨rfl,rfl⟩,⟨rfl,rfl⟩,⟨rfl,rfl⟩,⟨rfl,rfl⟩,⟨rfl,rfl⟩,⟨rfl,rfl⟩,rfl,rfl⟩:=ev;refine go ?_;refine Cb (Azf n g a1 c1 K1 a2 c2 K2 a3 c3 K3 a4 c4 K4 a5 c5 K5 a6 c6 K6 a7 c7 K7 FT hg) fun y _=>?_;refine A4 (E:=A8) (xs:=(Ri n).2) fun F5=>?_;refine Qc (Ri n).1 ?_;refine go ?_
  refine Cb (W4 (Ri n).2 _ _ F5 FJ (fun e he=>by have:=(Zm (Bg6 hg e he)).2;omega)) fun _ _=>?_;refine go ?_;refine ret (⟨⟨y.1.a1,y.1.c1,y.1.a2,y.1.c2,y.1.a3,y.1.c3,y.1.a4,y.1.c4,y.1.a5,y.1.c5,y.1.a6,y.1.c6,y.1.a7,y.1.c7⟩,_,true,_⟩:RuS) ?_ rfl;rfl
 have hWlen:(Gp line).length=ws.length:=by rw [←hWL];unfold wsL;rw [List.length_map]
 refine go ?_;refine Ax rfl (fun h2=>?_) (fun h2=>?_)
 ·have eN:Pv n line=Q4 n (Li n line.data.toList):=by unfold Pv;rw [hst];dsimp only;rw [if_neg (show ¬line.data.toList=Xr from fun e=>h1 (Dw.2 e)),if_pos FJ]
  have eM:=Ac1 eN;rw [eM,eN];refine go ?_;refine cfr (fun w st=>by obtain ⟨Fq,hq⟩:=st.rO Adh (v:=.agg #[.slice a1 n.An.Ad.length c1,.int .i64 n.Ab.Aa.Ap,.int .i64 n.Ab.Aa.size,.slice a2 n.Ab.Aa.Ao.length c2,.int .i64 n.Ab.Ai,.int .i64 n.Ab.quiet,.slice a3 n.Ab.holds.length c3,.slice a4 n.Af.length c4,.slice a5 n.Ac.length c5,.slice a6 n.down.length c6,.slice a7 n.up.length c7]) (x:=n) (F:=F) A9;exact ⟨[.isv Ny _ n Fq,Hp FT],N0 hq (st.get (p:=Hp FT) FO),rfl,Be8 n line _ Fq FT hg⟩) (fun u hu=>?_);refine O1 ?_;refine go ?_
  refine ret (⟨⟨a1,c1,a2,c2,a3,c3,a4,c4,a5,c5,a6,c6,a7,c7⟩,u.1,u.2,F⟩:RuS) ?_ rfl;show Q4 n _=if u.2 then some (n,u.1) else none
  rw [hu];cases u.2 <;> rfl
 have hdr:((Gp line).drop 1).map bz=ws.drop 1:=by
  rw [←hWL];unfold wsL;rw [←List.map_drop,List.map_map];exact (List.map_congr_left fun x _=>Yi x).trans (List.map_id _)
 have eN:Pv n line=if Sr (ws.drop 1) then Q4 n (Ke n (ws[0]).data.toList (Kk (ws.drop 1))) else none:=by
  unfold Pv;rw [hst];dsimp only;rw [if_neg (show ¬line.data.toList=Xr from fun e=>h1 (Dw.2 e)),if_neg FJ,hdr,←hWL,show atW (wsL ws) 0=(ws[0]).data.toList from Ti hw0]
 have hdl:(ws.drop 1).length=ws.length - 1:=List.length_drop ..;refine go ?_;apply wO;refine sld (E:=A8) (xs:=ws) 1 fun a8 c8 F8=>?_;refine go ?_;refine Cb (Aqi (ws.drop 1) a8 c8 F8 FT (fun t ht=>by have:=hws t (List.mem_of_mem_drop ht);omega) FJ) fun z _=>?_;cases hp:Sr (ws.drop 1)
 ·rw [hp] at eN;have eM:=Ac1 (r:=none) eN;have e2:S9 (ws.drop 1)=([],false):=by unfold S9;rw [hp];rfl
  rw [e2];refine go ?_;rw [eM,eN];refine ret (⟨⟨a1,c1,a2,c2,a3,c3,a4,c4,a5,c5,a6,c6,a7,c7⟩,⟨#[]⟩,false,F⟩:RuS) ?_ rfl;rfl
 rw [hp,if_pos rfl] at eN;have eM:=Ac1 (r:=Ke n (ws[0]).data.toList (Kk (ws.drop 1))) eN;have e2:S9 (ws.drop 1)=(Kk (ws.drop 1),true):=by unfold S9;rw [hp];rfl
 rw [eM,eN];have hvl:(Kk (ws.drop 1)).length=ws.length - 1:=by unfold Kk;rw [List.length_map,hdl]
 rw [e2];dsimp only;generalize Kk (ws.drop 1)=vs at *;have hvs:0 < vs.length:=FJ
 obtain ⟨lx,la,lc⟩:=z;dsimp only;refine A4 (E:=Bb) (xs:=vs) fun F8=>?_;refine Nq (xs:=ws) 0 ?_;rintro hi0 b0 o0 e0 s0;cases e0;refine O3 ?_;intros;refine As [0,5] [8,9,10,11] ?_;refine Ds 0 1 2 3 ?_;refine Ed 4 5 ?_;refine dt 6 ?_;refine dN 7 ?_;refine oC ?_
 refine cfr (fun w st=>by obtain ⟨Fq,hq⟩:=st.rO Adh (v:=.agg #[.slice a1 n.An.Ad.length c1,.int .i64 n.Ab.Aa.Ap,.int .i64 n.Ab.Aa.size,.slice a2 n.Ab.Aa.Ao.length c2,.int .i64 n.Ab.Ai,.int .i64 n.Ab.quiet,.slice a3 n.Ab.holds.length c3,.slice a4 n.Af.length c4,.slice a5 n.Ac.length c5,.slice a6 n.down.length c6,.slice a7 n.up.length c7]) (x:=n) (F:=F) A9;exact ⟨[.isv Ny _ n Fq,.sl Bb (.slice la vs.length lc) vs F8,Hp FT],Bke hq (st.get (p:=.sl Bb (.slice la vs.length lc) vs F8) FO) (st.get (p:=Hp FT) FO),rfl,Bd3 n ws[0] vs _ Fq la lc F8 FT hg hvs⟩) (fun u hu=>?_)
 refine O1 ?_;refine dk ?_;refine dtp 8 ?_;refine dtp 9 ?_;refine dtp 10 ?_;refine dtp 11 ?_;refine dd ?_;refine go ?_;refine ret (⟨⟨a1,c1,a2,c2,a3,c3,a4,c4,a5,c5,a6,c6,a7,c7⟩,u.1,u.2,F⟩:RuS) ?_ rfl;show Q4 n _=if u.2 then some (n,u.1) else none
 rw [hu];cases u.2 <;> rfl
structure CoS where
 z:NL
 F:List Nat
structure Vp where
 cs:List Value
 F:List Nat
theorem Ay4 (x:Cs) (v:Value) (F:List Nat) (hs:Vd x.Bl):Fn prog 20 [v] [.isv Df v x F] [] (fun (_:CoS)=>True) (fun z=>.agg #[.slice z.z.a1 x.Bl.An.Ad.length z.z.c1,.int .i64 x.Bl.Ab.Aa.Ap,.int .i64 x.Bl.Ab.Aa.size,.slice z.z.a2 x.Bl.Ab.Aa.Ao.length z.z.c2,.int .i64 x.Bl.Ab.Ai,.int .i64 x.Bl.Ab.quiet,.slice z.z.a3 x.Bl.Ab.holds.length z.z.c3,.slice z.z.a4 x.Bl.Af.length z.z.c4,.slice z.z.a5 x.Bl.Ac.length z.z.c5,.slice z.z.a6 x.Bl.down.length z.z.c6,.slice z.z.a7 x.Bl.up.length z.z.c7,.string x.Lq.C2,.string x.Lq.pending,.int .i64 x.Lq.count]) (fun z=>[.own Aaw (.agg #[.slice z.z.a1 x.Bl.An.Ad.length z.z.c1,.int .i64 x.Bl.Ab.Aa.Ap,.int .i64 x.Bl.Ab.Aa.size,.slice z.z.a2 x.Bl.Ab.Aa.Ao.length z.z.c2,.int .i64 x.Bl.Ab.Ai,.int .i64 x.Bl.Ab.quiet,.slice z.z.a3 x.Bl.Ab.holds.length z.z.c3,.slice z.z.a4 x.Bl.Af.length z.z.c4,.slice z.z.a5 x.Bl.Ac.length z.z.c5,.slice z.z.a6 x.Bl.down.length z.z.c6,.slice z.z.a7 x.Bl.up.length z.z.c7]) x.Bl z.F]):=by
 refine enter func20 rfl ntmps20 fun w0=>?_;refine Ct ?_;rintro a1 c1 F1 a2 c2 F2 a3 c3 F3 a4 c4 F4 a5 c5 F5 a6 c6 F6 a7 c7 F7 rfl s1 s2 l1 l2 l3 l4 l5 l6 l7;refine Gz x.Bl (a1:=a1) (a2:=a2) (a3:=a3) (a4:=a4) (a5:=a5) (a6:=a6) (a7:=a7) ?_;refine O3 ?_;intros;refine As [1] [6] ?_;refine Ds 0 1 3 4 ?_;refine dN 2 ?_;refine oC ?_;refine Cb (Aol x.Bl _ _ hs) fun z _=>?_;refine Qc x.Bl ?_;refine dk ?_;refine dt 5 ?_;refine dN 6 ?_;refine oS ?_;refine Tx ?_;refine dd ?_;refine go ?_;refine ret (⟨⟨z.a1,z.c1,z.a2,z.c2,z.a3,z.c3,z.a4,z.c4,z.a5,z.c5,z.a6,z.c6,z.a7,z.c7⟩,_⟩:CoS) trivial rfl
theorem Bcm {d p:Bs} {k:Int} (h:Kv d p k=true):d.length+p.length≤30000:=by
 unfold Kv at h;simp only [Bool.and_eq_true,decide_eq_true_eq] at h;exact h.1
theorem Agk {x:Cs} (h:Ks x=true):x.Lq.C2.size+x.Lq.pending.size≤30000:=by
 unfold Ks at h;rw [Bool.and_eq_true] at h;have:=Bcm h.2;rw [C0,C0] at this;exact this
theorem Awb (x:Cs) (line:ByteArray) (g:Nat) (a1:Option Addr) (c1:Nat) (a2:Option Addr) (c2:Nat) (a3:Option Addr) (c3:Nat) (a4:Option Addr) (c4:Nat) (a5:Option Addr) (c5:Nat) (a6:Option Addr) (c6:Nat) (a7:Option Addr) (c7:Nat) (F FT:List Nat) (hg:Ks x=true) (hl:line.size≤maxLen):Fn prog 22 [Iq g 0 0,.string line] [Hp FT] [.row g 53 0 [] [.slice a1 x.Bl.An.Ad.length c1,.int .i64 x.Bl.Ab.Aa.Ap,.int .i64 x.Bl.Ab.Aa.size,.slice a2 x.Bl.Ab.Aa.Ao.length c2,.int .i64 x.Bl.Ab.Ai,.int .i64 x.Bl.Ab.quiet,.slice a3 x.Bl.Ab.holds.length c3,.slice a4 x.Bl.Af.length c4,.slice a5 x.Bl.Ac.length c5,.slice a6 x.Bl.down.length c6,.slice a7 x.Bl.up.length c7,.string x.Lq.C2,.string x.Lq.pending,.int .i64 x.Lq.count] [],.own Aaw (.agg #[.slice a1 x.Bl.An.Ad.length c1,.int .i64 x.Bl.Ab.Aa.Ap,.int .i64 x.Bl.Ab.Aa.size,.slice a2 x.Bl.Ab.Aa.Ao.length c2,.int .i64 x.Bl.Ab.Ai,.int .i64 x.Bl.Ab.quiet,.slice a3 x.Bl.Ab.holds.length c3,.slice a4 x.Bl.Af.length c4,.slice a5 x.Bl.Ac.length c5,.slice a6 x.Bl.down.length c6,.slice a7 x.Bl.up.length c7]) x.Bl F] (fun (_:CoS)=>True) (fun _=>.string (Vn x line).2) (fun u=>[.row g 53 0 [] [.slice u.z.a1 (Vn x line).1.Bl.An.Ad.length u.z.c1,.int .i64 (Vn x line).1.Bl.Ab.Aa.Ap,.int .i64 (Vn x line).1.Bl.Ab.Aa.size,.slice u.z.a2 (Vn x line).1.Bl.Ab.Aa.Ao.length u.z.c2,.int .i64 (Vn x line).1.Bl.Ab.Ai,.int .i64 (Vn x line).1.Bl.Ab.quiet,.slice u.z.a3 (Vn x line).1.Bl.Ab.holds.length u.z.c3,.slice u.z.a4 (Vn x line).1.Bl.Af.length u.z.c4,.slice u.z.a5 (Vn x line).1.Bl.Ac.length u.z.c5,.slice u.z.a6 (Vn x line).1.Bl.down.length u.z.c6,.slice u.z.a7 (Vn x line).1.Bl.up.length u.z.c7,.string (Vn x line).1.Lq.C2,.string (Vn x line).1.Lq.pending,.int .i64 (Vn x line).1.Lq.count] [],.own Aaw (.agg #[.slice u.z.a1 (Vn x line).1.Bl.An.Ad.length u.z.c1,.int .i64 (Vn x line).1.Bl.Ab.Aa.Ap,.int .i64 (Vn x line).1.Bl.Ab.Aa.size,.slice u.z.a2 (Vn x line).1.Bl.Ab.Aa.Ao.length u.z.c2,.int .i64 (Vn x line).1.Bl.Ab.Ai,.int .i64 (Vn x line).1.Bl.Ab.quiet,.slice u.z.a3 (Vn x line).1.Bl.Ab.holds.length u.z.c3,.slice u.z.a4 (Vn x line).1.Bl.Af.length u.z.c4,.slice u.z.a5 (Vn x line).1.Bl.Ac.length u.z.c5,.slice u.z.a6 (Vn x line).1.Bl.down.length u.z.c6,.slice u.z.a7 (Vn x line).1.Bl.up.length u.z.c7]) (Vn x line).1.Bl u.F]):=by
 have hgn:At x.Bl=true:=by unfold Ks at hg;rw [Bool.and_eq_true] at hg;exact hg.1
 have hgl:Kv x.Lq.C2.data.toList x.Lq.pending.data.toList x.Lq.count=true:=by unfold Ks at hg;rw [Bool.and_eq_true] at hg;exact hg.2
 have hsz:=Agk hg;refine enter func22 rfl ntmps22 fun w0=>?_;refine go ?_;refine cb (fun w st=>Lg.Xz line ⟨#[]⟩ w hl (Nat.zero_le _)) ?_;rw [show Lg.Bx line ⟨#[]⟩=Vh line from rfl];cases h1:Vh line
 ·have e:Vn x line=(x,bz Bh9):=by unfold Vn;rw [h1];rfl
  rw [e];refine go ?_;refine ret (⟨⟨a1,c1,a2,c2,a3,c3,a4,c4,a5,c5,a6,c6,a7,c7⟩,F⟩:CoS) trivial rfl
 refine go ?_;refine Ax rfl (fun h2=>?_) (fun h2=>?_)
 ·have e:Vn x line=(x,bz Bde):=by unfold Vn;rw [h1,if_pos rfl,if_pos h2]
  rw [e];refine go ?_;refine ret (⟨⟨a1,c1,a2,c2,a3,c3,a4,c4,a5,c5,a6,c6,a7,c7⟩,F⟩:CoS) trivial rfl
 have hlz:line.size≤160:=by
  have h:=h1;unfold Vh Lg.Bx Gj at h;simp only [Bool.and_eq_true,decide_eq_true_eq] at h;have:=h.1.1.1.1.2;omega
 rw [Asj ⟨h1,h2⟩];have ht:=Ar8 (Atp (line:=line) hgn);have hGd:Z6 line.data.toList (Tl (Q6 x.Bl line)).data.toList:=Jk (by rw [←Lg.O7];exact Aa9 h1 ht.1 ht.2);obtain ⟨xn,⟨d,p,q⟩⟩:=x;dsimp only at hgn hgl hsz h2 ht hGd ⊢;have hcn:=Lg.Af4 hgl;obtain ⟨k,rfl⟩:∃k:Nat,q=(k:Int):=⟨q.toNat,FJ⟩;refine go ?_
 refine cfr (fun w st=>by obtain ⟨Fq,hq⟩:=st.rO Adh (v:=.agg #[.slice a1 xn.An.Ad.length c1,.int .i64 xn.Ab.Aa.Ap,.int .i64 xn.Ab.Aa.size,.slice a2 xn.Ab.Aa.Ao.length c2,.int .i64 xn.Ab.Ai,.int .i64 xn.Ab.quiet,.slice a3 xn.Ab.holds.length c3,.slice a4 xn.Af.length c4,.slice a5 xn.Ac.length c5,.slice a6 xn.down.length c6,.slice a7 xn.up.length c7]) (x:=xn) (F:=F) A9;exact ⟨[.isv Ny _ xn Fq],En hq,rfl,Aol xn _ Fq (Aaq hgn)⟩) (fun z _=>?_);refine O1 ?_;refine Qc xn ?_;refine go ?_;intros
 refine Cb (Bjl xn line _ z.a1 z.c1 z.a2 z.c2 z.a3 z.c3 z.a4 z.c4 z.a5 z.c5 z.a6 z.c6 z.a7 z.c7 _ FT hgn FJ) fun u hu=>?_;refine go ?_
 refine E4 [0,1] [] (fun _:NL × List Nat=>[(6,.string (Q6 xn line))]) (fun z=>[.row g 53 0 [] [.slice z.1.a1 (Ic xn line).An.Ad.length z.1.c1,.int .i64 (Ic xn line).Ab.Aa.Ap,.int .i64 (Ic xn line).Ab.Aa.size,.slice z.1.a2 (Ic xn line).Ab.Aa.Ao.length z.1.c2,.int .i64 (Ic xn line).Ab.Ai,.int .i64 (Ic xn line).Ab.quiet,.slice z.1.a3 (Ic xn line).Ab.holds.length z.1.c3,.slice z.1.a4 (Ic xn line).Af.length z.1.c4,.slice z.1.a5 (Ic xn line).Ac.length z.1.c5,.slice z.1.a6 (Ic xn line).down.length z.1.c6,.slice z.1.a7 (Ic xn line).up.length z.1.c7,.string d,.string p,.int .i64 (k:Int)] [],.own Aaw (.agg #[.slice z.1.a1 (Ic xn line).An.Ad.length z.1.c1,.int .i64 (Ic xn line).Ab.Aa.Ap,.int .i64 (Ic xn line).Ab.Aa.size,.slice z.1.a2 (Ic xn line).Ab.Aa.Ao.length z.1.c2,.int .i64 (Ic xn line).Ab.Ai,.int .i64 (Ic xn line).Ab.quiet,.slice z.1.a3 (Ic xn line).Ab.holds.length z.1.c3,.slice z.1.a4 (Ic xn line).Af.length z.1.c4,.slice z.1.a5 (Ic xn line).Ac.length z.1.c5,.slice z.1.a6 (Ic xn line).down.length z.1.c6,.slice z.1.a7 (Ic xn line).up.length z.1.c7]) (Ic xn line) z.2,Hp FT]) (fun _=>True) ?_ fun z _=>?_
 ·cases hb:u.b
  ·rw [hb] at hu;have eM:Ic xn line=xn:=by unfold Ic;rw [hu];rfl
   have eT:Q6 xn line=⟨#[63]⟩:=by unfold Q6;rw [hu];rfl
   rw [eM,eT];refine go ?_;refine Bt (⟨a1,c1,a2,c2,a3,c3,a4,c4,a5,c5,a6,c6,a7,c7⟩,F) trivial
  ·rw [hb] at hu;have eT:Q6 xn line=u.t:=by unfold Q6;rw [hu];rfl
   rw [eT];refine go ?_;refine Bt (⟨u.z.a1,u.z.c1,u.z.a2,u.z.c2,u.z.a3,u.z.c3,u.z.a4,u.z.c4,u.z.a5,u.z.c5,u.z.a6,u.z.c6,u.z.a7,u.z.c7⟩,u.F) trivial
 refine go ?_;refine E4 [0,1] [0,1,2] (fun _:Unit=>[(6,.string (Tl (Q6 xn line)))]) (fun _=>[]) (fun _=>True) ?_ fun _ _=>?_
 ·refine Ax rfl (fun h5=>?_) (fun h5=>?_)
  ·have e:Tl (Q6 xn line)=bz Bdf:=by unfold Tl;rw [if_pos FJ]
   rw [e];exact CO
  ·have e:Tl (Q6 xn line)=Q6 xn line:=by unfold Tl;rw [if_neg FJ]
   rw [e];exact CO
 have hbs:(Lg.bs (Le k line.data.toList (Tl (Q6 xn line)).data.toList)).size≤400:=by
  rw [Lg.Js];have:=Aef (k:=k) FJ hGd;omega
 refine O3 ?_;intros;refine As [0] [30] ?_;refine Ds 0 1 2 3 ?_;refine Ds 4 5 6 7 ?_;refine Ds 8 9 10 11 ?_;refine Ds 12 13 14 15 ?_;refine Ds 16 17 18 21 ?_;refine Ds 22 23 24 25 ?_;refine dt 26 ?_;refine dN 19 ?_;refine oC ?_;refine cb (fun w st=>Lg.Yl k line (Tl (Q6 xn line)) _ w FJ hGd (Avl (st.get (p:=Hp FT) FO))) ?_;refine dk ?_;refine dt 20 ?_ (hy:=Of rfl rfl FJ);refine Ed 27 28 ?_;refine dt 29 ?_;refine dN 30 ?_;refine oS ?_;refine Tx ?_;refine dd ?_;refine go ?_
 refine ret (⟨⟨z.1.a1,z.1.c1,z.1.a2,z.1.c2,z.1.a3,z.1.c3,z.1.a4,z.1.c4,z.1.a5,z.1.c5,z.1.a6,z.1.c6,z.1.a7,z.1.c7⟩,_⟩:CoS) trivial rfl
theorem Ado (x:Cs) (line:ByteArray) (v:Value) (F FT:List Nat) (hs:Vd x.Bl) (hz:x.Lq.C2.size+x.Lq.pending.size≤1048576) (hl:line.size≤maxLen):Fn prog 7 [v,.string line] [.isv Df v x F,Hp FT] [] (fun (_:Vp)=>True) (fun z=>.tuple #[.agg z.cs.toArray,.string (Fg x line).2]) (fun z=>[.own Md (.agg z.cs.toArray) (Fg x line).1 z.F]):=by
 refine enter func7 rfl ntmps7 fun w0=>?_;refine Ct ?_;rintro a1 c1 F1 a2 c2 F2 a3 c3 F3 a4 c4 F4 a5 c5 F5 a6 c6 F6 a7 c7 F7 rfl s1 s2 l1 l2 l3 l4 l5 l6 l7;refine Gz x.Bl (a1:=a1) (a2:=a2) (a3:=a3) (a4:=a4) (a5:=a5) (a6:=a6) (a7:=a7) ?_;refine go ?_;intros;refine Cb (Ay4 x _ F hs) fun z _=>?_;refine go ?_;intros;rename_i g6;refine Cb (Adq x _ F FT hz) fun _ _=>?_;unfold Fg;cases hg:Ks x
 ·rw [if_neg FM];refine go ?_;refine Um (x:=x.Bl) ?_;rintro x1 w1 K1 x2 w2 K2 x3 w3 K3 x4 w4 K4 x5 w5 K5 x6 w6 K6 x7 w7 K7 ev - - - - - - -;simp only [Value.agg.injEq,Array.mk.injEq,List.cons.injEq,Value.slice.injEq,Value.int.injEq,true_and,and_true] at ev;obtain ⟨⟨rfl,rfl⟩,⟨rfl,rfl⟩,⟨rfl,rfl⟩,⟨rfl,rfl⟩,⟨rfl,rfl⟩,⟨rfl,rfl⟩,rfl,rfl⟩:=ev;refine Ry x s1 s2 ?_;exact AE
 rw [if_pos rfl];have hsz:=Agk (Ahr (line:=line) hg);refine go ?_;refine Cb (Awb x line g6 z.z.a1 z.z.c1 z.z.a2 z.z.c2 z.z.a3 z.z.c3 z.z.a4 z.z.c4 z.z.a5 z.z.c5 z.z.a6 z.z.c6 z.z.a7 z.z.c7 _ FT hg hl) fun u _=>?_;refine go ?_;refine Um (x:=(Vn x line).1.Bl) ?_;rintro x1 w1 K1 x2 w2 K2 x3 w3 K3 x4 w4 K4 x5 w5 K5 x6 w6 K6 x7 w7 K7 ev - - - - - - -;simp only [Value.agg.injEq,Array.mk.injEq,List.cons.injEq,Value.slice.injEq,Value.int.injEq,true_and,and_true] at ev;obtain ⟨⟨rfl,rfl⟩,⟨rfl,rfl⟩,⟨rfl,rfl⟩,⟨rfl,rfl⟩,⟨rfl,rfl⟩,⟨rfl,rfl⟩,rfl,rfl⟩:=ev
 refine Ry (Vn x line).1 GC GC ?_;exact AE
structure L28 where
 g:Nat
 a:Option Addr
 c:Nat
 F:List Nat
structure L2S where
 k:Nat
 a:Option Addr
 c:Nat
 F:List Nat
theorem Baz (n:Du) (v:Value) (F:List Nat) (hs:Vd n):Fn prog 32 [v] [.isv Ny v n F] [] (fun (_:Vp)=>True) (fun z=>.agg z.cs.toArray) (fun z=>[.isv Ny (.agg z.cs.toArray) n z.F]):=by
 have hs1:=hs.t;have hs2:=hs.i;have hs3:=hs.h;have hs4:=hs.e;have hs5:=hs.rl;have hs6:=hs.d;have hs7:=hs.u;refine enter func32 rfl ntmps32 fun w0=>?_;refine Hm ?_;rintro a1 c1 F1 a2 c2 F2 a3 c3 F3 a4 c4 F4 a5 c5 F5 a6 c6 F6 a7 c7 F7 rfl l1 l2 l3 l4 l5 l6 l7;refine go ?_;intros;refine E4 [1,2] [0,1,2,3,4,5,6,7,8,9] (fun w:L28=>[(3,Iq w.g 0 0)]) (fun w=>[.row w.g 42 0 [] [.int .i64 n.Ab.Aa.Ap,.int .i64 n.Ab.Aa.size,.slice w.a n.Ab.Aa.Ao.length w.c] [],.ow A8 9 (.slice w.a n.Ab.Aa.Ao.length w.c) n.Ab.Aa.Ao w.F]) (fun _=>True) ?_ fun w _=>?_
 ·skip
  refine As [1] [] ?_;refine Ds 0 1 2 3 ?_;refine Ds 4 5 6 7 ?_;refine Ds 9 10 11 12 ?_;refine dM 8 15 ?_ ?_
  ·apply Mx;rfl;intro _;refine Dc A8 ?_;refine dk ?_;refine dM 13 15 ?_ ?_
   ·refine Pm (E:=A8) (xs:=[]) Eh Hj fun a9 c9 F9=>?_;rw [List.nil_append];refine dk ?_;refine dt 14 ?_;refine dN 15 ?_;apply Cr;rfl;intro _;refine dk ?_;refine dN 16 ?_;refine oS ?_;refine dk ?_;refine dd ?_;refine Bt (⟨_,a9,c9,F9⟩:L28) trivial
   ·apply Cr;rfl;intro _;exact CE
  ·apply Cr;rfl;intro _;refine dk ?_;refine dN 8 ?_;apply Mx;rfl;intro _;refine Dc A8 ?_;exact CE
 refine go ?_;refine cn (fun w2 st=>Aco _ n.An.Ad F1 w2 (st.get (p:=.sl _ _ _ _) FO).2 FJ) fun b1 d1 G1=>?_;refine go ?_;intros;rename_i g4;refine As [2,5] [] ?_;refine Ds 0 1 2 3 ?_;refine Ds 4 5 6 8 ?_;refine Ed 9 10 ?_;refine dN 7 ?_;apply Mx;rfl;intro _;refine Dc Bn ?_;refine dk ?_;refine dN 11 ?_;refine Pm (E:=Bn) (xs:=[]) Jp Lj fun b3 d3 G3=>?_;rw [List.nil_append];refine dk ?_;refine Ed 12 13 ?_;refine dN 14 ?_;refine oS ?_;refine dk ?_;refine dd ?_;refine Dj Ca 133 ?_;refine go ?_
 refine Cj [1,2,4] (fun z:L2S=>[(5,.int .i64 (z.k:Nat))]) (fun z=>[.row g4 50 0 [] [.slice b1 n.An.Ad.length d1,.int .i64 n.Ab.Aa.Ap,.int .i64 n.Ab.Aa.size,.slice w.a n.Ab.Aa.Ao.length w.c,.int .i64 n.Ab.Ai,.int .i64 n.Ab.quiet,.slice b3 n.Ab.holds.length d3,.slice z.a (n.Af.take z.k).length z.c,.slice none 0 0,.slice none 0 0,.slice none 0 0] [],.ow Ca 133 (.slice z.a (n.Af.take z.k).length z.c) (n.Af.take z.k) z.F]) (fun z=>z.k≤n.Af.length) (fun z=>n.Af.length - z.k) ⟨0,none,0,[]⟩ (Nat.zero_le _) fun z hz=>?_;obtain ⟨k,za,zc,zF⟩:=z;dsimp only at hz ⊢
 have t4:(n.Af.take k).length≤n.Af.length:=GA
 refine go ?_;refine Ax rfl (fun h1=>?_) (fun h1=>?_)
 ·have hk3:k < n.Af.length:=FJ
  refine Qb (xs:=n.Af) k ?_;rintro hi4 b4 o4 a8 c8 F8 e4 l8;rw [e4];refine Nr n.Af[k] ?_;refine O3 ?_;intros;refine As [1,3,10] [11] ?_;refine Ds 0 1 2 3 ?_;refine Ed 4 5 ?_;refine dt 6 ?_;refine dN 7 ?_;refine oC ?_;refine cv (fun w2 st=>Yv _ n.Af[k] F8 w2 (st.get (p:=.isv _ _ _ _) FO) (by have:=hs.e1 _ (List.getElem_mem hk3);omega) (fun x hx=>by have:=hs.e2 _ (List.getElem_mem hk3) x hx;omega)) fun v9 F9=>?_;refine H4 (x:=n.Af[k]) ?_;rintro a9 c9 F10 rfl l9;refine Fc n.Af[k] ?_;refine dk ?_;refine dN 8 ?_;apply Lx;rfl;rfl;rfl;rfl;exact Lr;exact La;intro _;refine dk ?_
  refine dN 9 ?_;refine Ads Q1 n.Af[k] rfl fun x4 d4 G4=>?_;refine dk ?_;refine dt 10 ?_;refine dN 11 ?_;refine oS ?_;refine Tx ?_;refine dd ?_;rw [←List.take_succ_eq_append_getElem hk3];refine go ?_;rw [show ((k:Nat):Int)+1=((k+1:Nat):Int) by omega];refine Ce ⟨k+1,x4,d4,G4⟩ hk3 (by show n.Af.length - (k+1) < n.Af.length - k;omega)
 rw [show n.Af.take k=n.Af from List.take_of_length_le FJ];generalize za=y4;generalize zc=v4;generalize zF=V4;refine Dj By 140 ?_;refine go ?_
 refine Cj [1,2,4] (fun z:L2S=>[(6,.int .i64 (z.k:Nat))]) (fun z=>[.row g4 50 0 [] [.slice b1 n.An.Ad.length d1,.int .i64 n.Ab.Aa.Ap,.int .i64 n.Ab.Aa.size,.slice w.a n.Ab.Aa.Ao.length w.c,.int .i64 n.Ab.Ai,.int .i64 n.Ab.quiet,.slice b3 n.Ab.holds.length d3,.slice y4 n.Af.length v4,.slice z.a (n.Ac.take z.k).length z.c,.slice none 0 0,.slice none 0 0] [],.ow By 140 (.slice z.a (n.Ac.take z.k).length z.c) (n.Ac.take z.k) z.F]) (fun z=>z.k≤n.Ac.length) (fun z=>n.Ac.length - z.k) ⟨0,none,0,[]⟩ (Nat.zero_le _) fun z hz=>?_;obtain ⟨k,za,zc,zF⟩:=z;dsimp only at hz ⊢
 have t4:(n.Ac.take k).length≤n.Ac.length:=GA
 refine go ?_;refine Ax rfl (fun h1=>?_) (fun h1=>?_)
 ·have hk3:k < n.Ac.length:=FJ
  refine Kg (xs:=n.Ac) k ?_;rintro hi5 b5 o5 a11 c11 F11 a12 c12 F12 e5 l11 l12;rw [e5];refine Ev n.Ac[k] ?_;refine O3 ?_;intros;refine As [1,4,12] [11] ?_;refine Ds 0 1 2 3 ?_;refine Ed 4 5 ?_;refine dt 6 ?_;refine dN 7 ?_;refine oC ?_;refine Cb (Uh n.Ac[k] _ _ (by have:=hs.r _ (List.getElem_mem hk3);omega) (by have:=hs.r _ (List.getElem_mem hk3);omega)) fun s9 _=>?_;refine Ij (x:=n.Ac[k]) ?_;rintro a9 c9 G9 a10 c10 G10 e9 l9 l10;rw [e9];refine I6 n.Ac[k] ?_;refine dk ?_;refine dN 8 ?_;apply Lx;rfl;rfl;rfl;rfl;exact Lr;exact La;intro _;refine dk ?_;refine dN 9 ?_
  refine Ads Pr n.Ac[k] rfl fun x4 d4 G4=>?_;refine dk ?_;refine dt 10 ?_;refine dN 11 ?_;refine oS ?_;refine Tx ?_;refine dd ?_;rw [←List.take_succ_eq_append_getElem hk3];refine go ?_;rw [show ((k:Nat):Int)+1=((k+1:Nat):Int) by omega];refine Ce ⟨k+1,x4,d4,G4⟩ hk3 (by show n.Ac.length - (k+1) < n.Ac.length - k;omega)
 rw [show n.Ac.take k=n.Ac from List.take_of_length_le FJ];generalize za=y5;generalize zc=v5;generalize zF=V5;refine Dj (Kx Ak 223) 142 ?_;refine go ?_
 refine Cj [1,2,4] (fun z:L2S=>[(7,.int .i64 (z.k:Nat))]) (fun z=>[.row g4 50 0 [] [.slice b1 n.An.Ad.length d1,.int .i64 n.Ab.Aa.Ap,.int .i64 n.Ab.Aa.size,.slice w.a n.Ab.Aa.Ao.length w.c,.int .i64 n.Ab.Ai,.int .i64 n.Ab.quiet,.slice b3 n.Ab.holds.length d3,.slice y4 n.Af.length v4,.slice y5 n.Ac.length v5,.slice z.a (n.down.take z.k).length z.c,.slice none 0 0] [],.ow (Kx Ak 223) 142 (.slice z.a (n.down.take z.k).length z.c) (n.down.take z.k) z.F]) (fun z=>z.k≤n.down.length) (fun z=>n.down.length - z.k) ⟨0,none,0,[]⟩ (Nat.zero_le _) fun z hz=>?_;obtain ⟨k,za,zc,zF⟩:=z;dsimp only at hz ⊢
 have t4:(n.down.take k).length≤n.down.length:=GA
 refine go ?_;refine Ax rfl (fun h1=>?_) (fun h1=>?_)
 ·have hk3:k < n.down.length:=FJ
  have hq9:=hs.dq _ (List.getElem_mem hk3);refine Np (E:=Ak) (hz:=FM) (xs:=n.down) k ?_;rintro hi6 b6 o6 a13 c13 F13 e6 l13;rw [e6];refine O3 ?_;intros;refine As [0,2,11] [12] ?_;refine Ds 0 1 3 4 ?_;refine Ed 5 6 ?_;refine dt 7 ?_;refine dN 2 ?_;apply Mx;rfl;intro _;refine Dc Ak ?_;refine dk ?_;refine dN 8 ?_;refine Pm (E:=Ak) (xs:=[]) Hq I8 fun a9 c9 F9=>?_;rw [List.nil_append];refine J0 n.down[k] ?_;refine dk ?_;refine dN 9 ?_;apply Lx;rfl;rfl;rfl;rfl;exact Lr;exact La;intro _;refine dk ?_;refine dN 10 ?_;refine Ads (Wg) n.down[k] rfl fun x4 d4 G4=>?_;refine dk ?_;refine dt 11 ?_
  refine dN 12 ?_;refine oS ?_;refine Tx ?_;refine dd ?_;rw [←List.take_succ_eq_append_getElem hk3];refine go ?_;rw [show ((k:Nat):Int)+1=((k+1:Nat):Int) by omega];refine Ce ⟨k+1,x4,d4,G4⟩ hk3 (by show n.down.length - (k+1) < n.down.length - k;omega)
 rw [show n.down.take k=n.down from List.take_of_length_le FJ];generalize za=y6;generalize zc=v6;generalize zF=V6;refine Dj (Kx Ak 223) 142 ?_;refine go ?_
 refine Cj [1,2,4] (fun z:L2S=>[(8,.int .i64 (z.k:Nat))]) (fun z=>[.row g4 50 0 [] [.slice b1 n.An.Ad.length d1,.int .i64 n.Ab.Aa.Ap,.int .i64 n.Ab.Aa.size,.slice w.a n.Ab.Aa.Ao.length w.c,.int .i64 n.Ab.Ai,.int .i64 n.Ab.quiet,.slice b3 n.Ab.holds.length d3,.slice y4 n.Af.length v4,.slice y5 n.Ac.length v5,.slice y6 n.down.length v6,.slice z.a (n.up.take z.k).length z.c] [],.ow (Kx Ak 223) 142 (.slice z.a (n.up.take z.k).length z.c) (n.up.take z.k) z.F]) (fun z=>z.k≤n.up.length) (fun z=>n.up.length - z.k) ⟨0,none,0,[]⟩ (Nat.zero_le _) fun z hz=>?_;obtain ⟨k,za,zc,zF⟩:=z;dsimp only at hz ⊢
 have t4:(n.up.take k).length≤n.up.length:=GA
 refine go ?_;refine Ax rfl (fun h1=>?_) (fun h1=>?_)
 ·have hk3:k < n.up.length:=FJ
  have hq9:=hs.uq _ (List.getElem_mem hk3);refine Np (E:=Ak) (hz:=FM) (xs:=n.up) k ?_;rintro hi6 b6 o6 a13 c13 F13 e6 l13;rw [e6];refine O3 ?_;intros;refine As [0,2,12] [12] ?_;refine Ds 0 1 3 4 ?_;refine Ed 5 6 ?_;refine dt 7 ?_;refine dN 2 ?_;apply Mx;rfl;intro _;refine Dc Ak ?_;refine dk ?_;refine dN 8 ?_;refine Pm (E:=Ak) (xs:=[]) Hq I8 fun a9 c9 F9=>?_;rw [List.nil_append];refine J0 n.up[k] ?_;refine dk ?_;refine dN 9 ?_;apply Lx;rfl;rfl;rfl;rfl;exact Lr;exact La;intro _;refine dk ?_;refine dN 10 ?_;refine Ads (Wg) n.up[k] rfl fun x4 d4 G4=>?_;refine dk ?_;refine dt 11 ?_
  refine dN 12 ?_;refine oS ?_;refine Tx ?_;refine dd ?_;rw [←List.take_succ_eq_append_getElem hk3];refine go ?_;rw [show ((k:Nat):Int)+1=((k+1:Nat):Int) by omega];refine Ce ⟨k+1,x4,d4,G4⟩ hk3 (by show n.up.length - (k+1) < n.up.length - k;omega)
 rw [show n.up.take k=n.up from List.take_of_length_le FJ];generalize za=y7;generalize zc=v7;generalize zF=V7;refine Qc n ?_;refine go ?_;refine Ada Adh fun F9=>?_;exact AE
theorem Apy (x:Cs) (v:Value) (F:List Nat) (hs:Vd x.Bl):Fn prog 13 [v] [.isv Df v x F] [] (fun (_:Vp)=>True) (fun z=>.agg z.cs.toArray) (fun z=>[.isv Df (.agg z.cs.toArray) x z.F]):=by
 refine enter func13 rfl ntmps13 fun w0=>?_;refine Ct ?_;rintro a1 c1 F1 a2 c2 F2 a3 c3 F3 a4 c4 F4 a5 c5 F5 a6 c6 F6 a7 c7 F7 rfl s1 s2 l1 l2 l3 l4 l5 l6 l7;refine Gz x.Bl (a1:=a1) (a2:=a2) (a3:=a3) (a4:=a4) (a5:=a5) (a6:=a6) (a7:=a7) ?_;refine O3 ?_;intros;refine As [1] [6] ?_;refine Ds 0 1 3 4 ?_;refine dN 2 ?_;refine oC ?_;refine Cb (Baz x.Bl _ _ hs) fun z _=>?_;obtain ⟨cs,zF⟩:=z;dsimp only;refine Hm (x:=x.Bl) (v:=.agg cs.toArray) ?_;rintro b1 d1 G1 b2 d2 G2 b3 d3 G3 b4 d4 G4 b5 d5 G5 b6 d6 G6 b7 d7 G7 ev - - - - - - -;obtain rfl:=Uv ev;clear ev;refine dk ?_;refine dt 5 ?_;refine dN 6 ?_
 refine oS ?_;refine Tx ?_;refine dd ?_;refine go ?_;refine Ep x s1 s2 (a1:=b1) (a2:=b2) (a3:=b3) (a4:=b4) (a5:=b5) (a6:=b6) (a7:=b7) ?_;exact AE
end Go.Proofs.YtkblpelckhegbaaGreatDoor
namespace Go.Proofs.YtkblpelckhegbaaGreatDoor
open Go.RowKit
open Go.RowKit
theorem Ald {α:Type} {O R:Br α} (hW:Ng O R) {w:World}:∀{xs:List α} {cs:List Value} {G:List Nat},C1 O w cs xs G→∃G',(∀b∈G',b∈G)∧C1 R w cs xs G'
 | [],_,_,h=>⟨[],FK,h.1,rfl⟩
 | x::r,_,_,h=>by
  obtain ⟨c1,c2,F1,F2,rfl,rfl,h1,h2⟩:=h;obtain ⟨G1,s1,r1⟩:=hW.Ky h1;obtain ⟨G2,s2,r2⟩:=Ald hW h2;exact ⟨G1++G2,fun b hb=>by rcases List.mem_append.1 hb with hb|hb;simp [s1 b hb];simp [s2 b hb],c1,c2,G1,G2,rfl,rfl,r1,r2⟩
theorem Mc.skip {x:Pc}:∀{B A:List Pc},Mc A B→Mc (x::A) B
 | _,_,.nil=>.nil
 | _,_,.cons hp hr=>.cons (.there hp) hr.skip
theorem Mc.all:∀A:List Pc,Mc A A
 | []=>.nil
 | _::A=>.cons .here (Mc.all A)
section
variable {c:Cx} {fr:Fr} {H:List Pc} {Φ:Gl}
theorem Agu {α:Type} {O R:Br α} (hW:Ng O R) {cs:List Value} {xs:List α} {G:List Nat} {S:List Pc} (h:∀G',T c fr (.isv (EA R xs.length) (.agg cs.toArray) xs G'::S) Φ) (hp:Co H (.flat O cs xs G) S:=by exact De):T c fr H Φ:=.mk fun a w s g=>by
 have s1:=s.pick hp;obtain ⟨-,ho⟩:=s1.on (.flat O cs xs G) FK;obtain ⟨G',hG,hf⟩:=Ald hW ho;exact (h G').h a w (s1.conv rfl ⟨_,rfl,rfl,hf⟩ hG) g
theorem Aa6 (m:Du) {l:List Int} {N:Nat} (hT:m.An.Ad=l) (hN:N=l.length) (hl:Mj m=true) {a1 a2 a3 a4 a5 a6 a7:Option Addr} {c1 c2 c3 c4 c5 c6 c7:Nat} {F1 FS F4 G4 F5 G5 F6 G6 F7 G7:List Nat} {ys4 ys5 ys6 ys7:List (List Value)} (h4:ys4.length=N) (h5:ys5.length=N) (h6:ys6.length=N) (h7:ys7.length=N)
  (h:∀F,T c fr (.isv Ny (.agg #[.slice a1 N c1,.int .i64 m.Ab.Aa.Ap,.int .i64 m.Ab.Aa.size,.slice a2 m.Ab.Aa.Ao.length c2,.int .i64 m.Ab.Ai,.int .i64 m.Ab.quiet,.slice a3 m.Ab.holds.length c3,.slice a4 N c4,.slice a5 N c5,.slice a6 N c6,.slice a7 N c7]) m F::H) Φ) (p1:.sl Bb (.slice a1 N c1) l F1∈H:=by exact A9) (p2:.isv Do (.agg #[.int .i64 m.Ab.Aa.Ap,.int .i64 m.Ab.Aa.size,.slice a2 m.Ab.Aa.Ao.length c2,.int .i64 m.Ab.Ai,.int .i64 m.Ab.quiet,.slice a3 m.Ab.holds.length c3]) m.Ab FS∈H:=by exact A9) (p4:.sl (EC 2) (.slice a4 N c4) ys4 F4∈H:=by exact A9) (q4:.isv (EA (Bk) N) (.agg ys4.flatten.toArray) m.Af G4∈H:=by exact A9) (p5:.sl (EC 5) (.slice a5 N c5) ys5 F5∈H:=by exact A9) (q5:.isv (EA (Bi) N) (.agg ys5.flatten.toArray) m.Ac G5∈H:=by exact A9) (p6:.sl (EC 1) (.slice a6 N c6) ys6 F6∈H:=by exact A9) (q6:.isv (EA (Mr Ak FM) N) (.agg ys6.flatten.toArray) m.down G6∈H:=by exact A9) (p7:.sl (EC 1) (.slice a7 N c7) ys7 F7∈H:=by exact A9) (q7:.isv (EA (Mr Ak FM) N) (.agg ys7.flatten.toArray) m.up G7∈H:=by exact A9):T c fr H Φ:=by
 obtain ⟨e1,e2,e3,e4⟩:=Bm.1 hl;subst hT hN;refine Ht (hm:=p2) ?_;rintro b2 d2 F2 b3 d3 F3 ev - -;have ev2:=ev;simp only [Value.agg.injEq,Array.mk.injEq,List.cons.injEq,Value.slice.injEq,true_and,and_true] at ev2;obtain ⟨⟨rfl,rfl⟩,rfl,rfl⟩:=ev2;refine Agt (E:=Bk) (xs:=m.Af) rfl FJ rfl (fun F8=>?_) (.tail _ (.tail _ p4)) (.tail _ (.tail _ q4));refine Agt (E:=Bi) (xs:=m.Ac) rfl FJ rfl (fun F9=>?_) (.tail _ (.tail _ (.tail _ p5))) (.tail _ (.tail _ (.tail _ q5)))
 refine Agt (E:=Mr Ak FM) (xs:=m.down) rfl FJ rfl (fun F10=>?_) (.tail _ (.tail _ (.tail _ (.tail _ p6)))) (.tail _ (.tail _ (.tail _ (.tail _ q6))));refine Agt (E:=Mr Ak FM) (xs:=m.up) rfl FJ rfl (fun F11=>?_) (.tail _ (.tail _ (.tail _ (.tail _ (.tail _ p7))))) (.tail _ (.tail _ (.tail _ (.tail _ (.tail _ q7)))))
 refine Gz m (a1:=a1) (c1:=c1) (F1:=F1) (a2:=a2) (c2:=c2) (F2:=F2) (a3:=a3) (c3:=c3) (F3:=F3) (a4:=a4) (c4:=c4) (F4:=F8) (a5:=a5) (c5:=c5) (F5:=F9) (a6:=a6) (c6:=c6) (F6:=F10) (a7:=a7) (c7:=c7) (F7:=F11) ?_ (.tail _ (.tail _ (.tail _ (.tail _ (.tail _ (.tail _ p1)))))) (.tail _ (.tail _ (.tail _ (.tail _ (.head _))))) (.tail _ (.tail _ (.tail _ (.tail _ (.tail _ (.head _)))))) (by rw [e1];exact .tail _ (.tail _ (.tail _ (.head _)))) (by rw [e2];exact .tail _ (.tail _ (.head _))) (by rw [e3];exact .tail _ (.head _)) (by rw [e4];exact .head _);rw [e1,e2,e3,e4]
 exact Bjm _ (h _) (.cons .here (Mc.skip (Mc.skip (Mc.skip (Mc.skip (Mc.skip (Mc.skip (Mc.all H))))))))
end
end Go.Proofs.YtkblpelckhegbaaGreatDoor
namespace Go.Proofs.YtkblpelckhegbaaGreatDoor
open Go.RowKit
def Td (x:Ck) (s:ByteArray):Ck:=⟨Di x.Aa s,x.Ai,0,J8 (Di x.Aa s) x.Ai x.holds⟩
theorem Bca {x:Ck} {s:ByteArray} (h:∀z∈x.holds,x.Ai+1≤z.Ch):Td x s=Sv x s:=by unfold Td Sv;rw [Yu h]
theorem Asw (x:Ck) (s:ByteArray) (v:Value) (F:List Nat) (t0:0≤x.Aa.Ap) (t1:x.Aa.Ap≤65535) (hl:x.Aa.Ao.length≤6) (z1:1≤x.Aa.size) (hm:x.holds.length≤1000) (hn:Ajq x.holds) (hs:s.size≤maxLen) :
  Fn prog 165 [v,.string s] [.isv Do v x F] [] (fun (_:Ams)=>True) (fun z=>.tuple #[.agg #[.int .i64 (Td x s).Aa.Ap,.int .i64 (Td x s).Aa.size,.slice z.a (Td x s).Aa.Ao.length z.c,.int .i64 (Td x s).Ai,.int .i64 (Td x s).quiet,.slice z.a2 (Td x s).holds.length z.c2],.agg #[.int .i64 1,.int .i64 (Dv x.Aa s).Ae,.int .i64 (Dv x.Aa s).Ap,.int .i64 (Dv x.Aa s).Fv,.string s]]) (fun z=>[.isv Do (.agg #[.int .i64 (Td x s).Aa.Ap,.int .i64 (Td x s).Aa.size,.slice z.a (Td x s).Aa.Ao.length z.c,.int .i64 (Td x s).Ai,.int .i64 (Td x s).quiet,.slice z.a2 (Td x s).holds.length z.c2]) (Td x s) z.F]):=by
 have hb:=T6 t0 t1;refine enter func165 rfl ntmps165 fun w0=>?_;refine Ht ?_;rintro a1 c1 F1 a2 c2 F2 rfl l1 l2;refine Cv x.Aa ?_;generalize F1=F3;refine go ?_;intros;refine Cb (Ba2 x.Aa s _ F3 hl t0 t1 hs z1) fun y _=>?_;refine Et (x:=Di x.Aa s) ?_;rintro a5 c5 F5 e5 l5;rw [e5];refine go ?_;intros;refine Cb (Ug x (Di x.Aa s) _ _ F y.2 hb.1 hb.2 FJ hn) fun q _=>?_;refine Ht (x:=Zi x (Di x.Aa s)) ?_;rintro a6 c6 F6 a7 c7 F7 e6 l6 l7;rw [e6];refine go ?_;intros;refine As [0,4] [] ?_;refine Ed 0 1 ?_;refine dN 2 ?_;refine oS ?_;refine dk ?_;refine dN 3 ?_;refine oS ?_;refine dk ?_
 refine dd ?_;refine Gt (Td x s) ?_;refine go ?_;exact EO
theorem Aw3 (x:Ck) (s:ByteArray) (v:Value) (F:List Nat) (hg:C3 x=true) (hs:s.size≤maxLen) :
  Fn prog 165 [v,.string s] [.isv Do v x F] [] (fun (_:Ams)=>True) (fun z=>.tuple #[.agg #[.int .i64 (Sv x s).Aa.Ap,.int .i64 (Sv x s).Aa.size,.slice z.a (Sv x s).Aa.Ao.length z.c,.int .i64 (Sv x s).Ai,.int .i64 (Sv x s).quiet,.slice z.a2 (Sv x s).holds.length z.c2],.agg #[.int .i64 1,.int .i64 (Dv x.Aa s).Ae,.int .i64 (Dv x.Aa s).Ap,.int .i64 (Dv x.Aa s).Fv,.string s]]) (fun z=>[.isv Do (.agg #[.int .i64 (Sv x s).Aa.Ap,.int .i64 (Sv x s).Aa.size,.slice z.a (Sv x s).Aa.Ao.length z.c,.int .i64 (Sv x s).Ai,.int .i64 (Sv x s).quiet,.slice z.a2 (Sv x s).holds.length z.c2]) (Sv x s) z.F]):=by
 obtain ⟨gw,hl,t0,t1,k0,k1,hm,hn,hu,hb⟩:=Lc hg;obtain ⟨-,⟨z1, -⟩, -⟩:=Ec.1 gw;have h:=Asw x s v F t0 t1 hl z1 FJ (Agy hn) hs;rw [Bca hu] at h;exact h
theorem Alo (n:Du) (s:Kq) (v:Value) (F FT:List Nat) (hss:s.data.size≤maxLen) (g1:At n=true) (g2:Ex s=true):Fn prog 91 [v,.agg #[.int .i64 s.Cp,.int .i64 s.node,.string s.data]] [.isv Ny v n F,Hp FT] [] (fun (_:StZ)=>True) (fun z=>.tuple #[.agg z.cs.toArray,.slice z.a (Cn n s).2.1.length z.c,.bool (Cn n s).2.2]) (fun z=>[.isv Ny (.agg z.cs.toArray) (Cn n s).1 z.F,.ow A8 9 (.slice z.a (Cn n s).2.1.length z.c) (Cn n s).2.1 z.Fe]):=by
 have hG:=A1.1 g1;have h8:=H9 hG.t;have hn8:=h8.n1;have hn2:=h8.n0;obtain ⟨q1,q2,q3,q4⟩:=Bm.1 hG.l;have hkl:=Wc n.An.Ad 0;have hkx:∀x∈I3 n.An.Ad 0,0≤x∧x.toNat < n.down.length:=fun x hx=>by have:=Mh (i:=0) h8 hx;omega
 have hd6:∀q∈n.down,q.length≤6:=fun q hq=>(Db ((Ii g1).2.2.1 q hq)).1;have hck:=Zc hG.s;refine enter func91 rfl ntmps91 fun w0=>?_;refine Hm ?_;rintro a1 c1 F1 a2 c2 F2 a3 c3 F3 a4 c4 F4 a5 c5 F5 a6 c6 F6 a7 c7 F7 rfl l1 l2 l3 l4 l5 l6 l7;refine go ?_;intros;refine Cb (Apw n _ F g1) fun z _=>?_;obtain ⟨w,y⟩:=z;dsimp only;refine A4 (E:=Bb) (xs:=n.An.Ad) fun Ft=>?_;refine Aex (E:=Ca) (xs:=n.Af) Q1 (m:=2) rfl fun ye Fe Ge he1 he2=>?_;refine Agu (R:=Bk) (xs:=n.Af) Mq fun He=>?_;refine Aex (E:=By) (xs:=n.Ac) Pr (m:=5) rfl fun yr Fr Gr hr1 hr2=>?_;refine Agu (R:=Bi) (xs:=n.Ac) Sf fun Hr=>?_
 refine Aex (E:=Kx Ak 223) (xs:=n.down) Wg (m:=1) rfl fun yd Fd Gd hd1 hd2=>?_;refine Agu (R:=Mr Ak FM) (xs:=n.down) (Q3 (Ng.refl Ak) FM _) fun Hd=>?_;refine Aex (E:=Kx Ak 223) (xs:=n.up) Wg (m:=1) rfl fun yu Fu Gu hu1 hu2=>?_;refine Agu (R:=Mr Ak FM) (xs:=n.up) (Q3 (Ng.refl Ak) FM _) fun Hu=>?_;rw [q1,q2,q3,q4];refine Iu n.An (a1:=w.a1) ?_;refine go ?_;intros;refine Ax rfl (fun h1=>?_) (fun h1=>?_)
 ·have e1:Bo n s=some (Ai3 n s.data,[]):=by unfold Bo;rw [if_pos h1]
  have hgm:=N8 g1 g2 e1;rw [show Cn n s=(Ai3 n s.data,[],true) by unfold Cn;rw [g1,g2,e1];rfl];refine go ?_;refine Cb (Aw3 n.Ab s.data _ _ hG.s hss) fun u _=>?_;refine go ?_;intros;refine As [0,3] [] ?_;refine Ds 0 1 2 4 ?_;refine dM 3 5 ?_ ?_
  ·refine oC ?_;refine Cb (Qx n.An 0 _ Ft (T3 h8.z (Int.le_refl _)) ⟨FJ,FJ⟩) fun v _=>?_;refine A4 (E:=Bb) (xs:=I3 n.An.Ad 0) fun Fk=>?_;refine dk ?_;refine dN 5 ?_;apply Lx;rfl;rfl;rfl;rfl;exact Lr;exact La;intro _;refine Ll (E:=Ak) (xs:=[Dv n.Ab.Aa s.data]) (Dh (Dv n.Ab.Aa s.data) hss) ?_ FK;refine A4 (E:=Ak) (xs:=[Dv n.Ab.Aa s.data]) fun Fp=>?_;refine dk ?_;refine dN 6 ?_;refine oC ?_;refine Cb (Ox n.down (I3 n.An.Ad 0) [Dv n.Ab.Aa s.data] _ _ _ _ _ _ _ _ _ _ _ _ _ _ _ _ _ _ _ _ _ _ _ _ _ yd Fd Hd _ _ Fk _ _ Fp hkx hd6) fun x _=>?_;refine dk ?_;refine dd ?_
   refine go ?_;intros;refine Dc A8 ?_;refine go ?_;refine Gf (ys:=ye) fun _ w4=>?_;refine Gf (ys:=yr) fun _ w5=>?_;refine Gf (ys:=x.ys) fun _ w6=>?_;refine Gf (ys:=yu) fun _ w7=>?_;refine A4 (E:=EC 2) (xs:=ye) fun _=>?_;refine A4 (E:=EC 5) (xs:=yr) fun _=>?_;refine A4 (E:=EC 1) (xs:=x.ys) fun _=>?_;refine A4 (E:=EC 1) (xs:=yu) fun _=>?_;refine Aa6 (Ai3 n s.data) (l:=n.An.Ad) (N:=n.An.Ad.length) rfl rfl (A1.1 hgm).l w4 w5 w6 w7 (a1:=w.a1) (c1:=w.c1) (a2:=u.a) (c2:=u.c) (a3:=u.a2) (c3:=u.c2) (a4:=y.a4) (c4:=y.c4) (a5:=y.a5) (c5:=y.c5) (a6:=y.a6) (c6:=y.c6) (a7:=y.a7) (c7:=y.c7) fun FN=>?_
   exact CW
  ·apply Lx;rfl;rfl;rfl;rfl;exact Lr;exact La;intro _;refine Ll (E:=Ak) (xs:=[Dv n.Ab.Aa s.data]) (Dh (Dv n.Ab.Aa s.data) hss) ?_ FK;refine A4 (E:=Ak) (xs:=[Dv n.Ab.Aa s.data]) fun Fp=>?_;refine dk ?_;refine dN 3 ?_;refine oC ?_;refine Cb (Qx n.An 0 _ Ft (T3 h8.z (Int.le_refl _)) ⟨FJ,FJ⟩) fun v _=>?_;refine A4 (E:=Bb) (xs:=I3 n.An.Ad 0) fun Fk=>?_;refine dk ?_;refine dN 6 ?_;refine oC ?_;refine Cb (Ox n.down (I3 n.An.Ad 0) [Dv n.Ab.Aa s.data] _ _ _ _ _ _ _ _ _ _ _ _ _ _ _ _ _ _ _ _ _ _ _ _ _ yd Fd Hd _ _ Fk _ _ Fp hkx hd6) fun x _=>?_;refine dk ?_;refine dd ?_
   refine go ?_;intros;refine Dc A8 ?_;refine go ?_;refine Gf (ys:=ye) fun _ w4=>?_;refine Gf (ys:=yr) fun _ w5=>?_;refine Gf (ys:=x.ys) fun _ w6=>?_;refine Gf (ys:=yu) fun _ w7=>?_;refine A4 (E:=EC 2) (xs:=ye) fun _=>?_;refine A4 (E:=EC 5) (xs:=yr) fun _=>?_;refine A4 (E:=EC 1) (xs:=x.ys) fun _=>?_;refine A4 (E:=EC 1) (xs:=yu) fun _=>?_;refine Aa6 (Ai3 n s.data) (l:=n.An.Ad) (N:=n.An.Ad.length) rfl rfl (A1.1 hgm).l w4 w5 w6 w7 (a1:=w.a1) (c1:=w.c1) (a2:=u.a) (c2:=u.c) (a3:=u.a2) (c3:=u.c2) (a4:=y.a4) (c4:=y.c4) (a5:=y.a5) (c5:=y.c5) (a6:=y.a6) (c6:=y.c6) (a7:=y.a7) (c7:=y.c7) fun FN=>?_
   exact CW
 refine go ?_;refine Ax rfl (fun h4=>?_) (fun h4=>?_)
 ·refine go ?_;refine Ax rfl (fun hc=>?_) (fun hc=>?_)
  ·have e1:Bo n s=none:=by unfold Bo;rw [if_neg h1,if_pos h4,if_pos hc]
   rw [show Cn n s=(Xv,[],false) by unfold Cn;rw [g1,g2,e1];rfl];exact AB
  ·have e1:Bo n s=some (Hc n):=by unfold Bo;rw [if_neg h1,if_pos h4,if_neg hc]
   have hgm:=N8 g1 g2 e1;rw [show Cn n s=((Hc n).1,(Hc n).2,true) by unfold Cn;rw [g1,g2,e1];rfl];refine go ?_;refine Cb (Axd n w.a1 w.c1 y.a4 y.c4 y.a5 y.c5 y.a6 y.c6 y.a7 y.c7 w.s.a w.s.a2 w.s.c w.s.c2 Ft w.s.F FT ⟨⟨ye,Fe,He⟩,⟨yr,Fr,Hr⟩,⟨yd,Fd,Hd⟩,⟨yu,Fu,Hu⟩⟩ g1 FJ) fun x _=>?_;refine go ?_;intros;refine Gf (ys:=x.1.e.ys) fun _ w4=>?_;refine Gf (ys:=x.1.r.ys) fun _ w5=>?_;refine Gf (ys:=x.1.d.ys) fun _ w6=>?_;refine Gf (ys:=x.1.u.ys) fun _ w7=>?_;refine A4 (E:=EC 2) (xs:=x.1.e.ys) fun _=>?_;refine A4 (E:=EC 5) (xs:=x.1.r.ys) fun _=>?_;refine A4 (E:=EC 1) (xs:=x.1.d.ys) fun _=>?_
   refine A4 (E:=EC 1) (xs:=x.1.u.ys) fun _=>?_;refine Aa6 ((Hc n).1) (l:=n.An.Ad) (N:=n.An.Ad.length) (congrArg Qo.Ad (T7 e1)) rfl (A1.1 hgm).l w4 w5 w6 w7 (a1:=w.a1) (c1:=w.c1) (a2:=x.2.1.a) (c2:=x.2.1.c) (a3:=x.2.1.a2) (c3:=x.2.1.c2) (a4:=y.a4) (c4:=y.c4) (a5:=y.a5) (c5:=y.c5) (a6:=y.a6) (c6:=y.c6) (a7:=y.a7) (c7:=y.c7) fun FN=>?_;exact CW
 have htk0:Bo n s=C6 n s:=by unfold Bo;rw [if_neg h1,if_neg h4]
 have hf:Ra s.node=true:=by
  have:=g2;unfold Ex at this;rw [if_neg h1,if_neg h4] at this;simp only [Bool.and_eq_true] at this;exact this.1.2
 obtain ⟨f1,f2⟩:=O9.1 hf;obtain ⟨i,hi⟩:∃i:Nat,s.node=((i:Nat):Int):=⟨s.node.toNat,FJ⟩;have i0:i≠0:=FJ
 rw [hi];by_cases k5:s.Cp=5
 ·have hu:Yb s=true:=by unfold Yb;rw [decide_eq_true k5];rfl
  have hq:∀h:i < n.up.length,Vj n s=n.up[i]:=fun h=>by unfold Vj;rw [hu,if_pos rfl,hi,Int.toNat_natCast];exact Qu h []
  have hpo:Hn n s=Pj n i:=HR
  refine go ?_;refine Dx rfl rfl (fun g5=>?_) (fun g5=>?_)
  rotate_left
  ·exact absurd k5 g5
  refine go ?_;refine Dx rfl rfl (fun h6=>?_) (fun h6=>?_)
  ·have e1:C6 n s=none:=LA
   exact BI
  have hil:i < n.up.length:=FJ
  have hq:=hq hil;refine Gf (ys:=yu) fun hm hlr=>?_;refine Ai4 (ys:=yu) (xs:=n.up) i hm FJ FJ fun h9 _ Gq=>?_;refine Ad5 (x:=n.up[i]) fun a9 c9 e9 l9=>?_;have e10:yu[i]=[.slice a9 n.up[i].length c9]:=KH
  refine P5 (E:=EC 1) (xs:=yu) (m:=1) (Mn 1) i ?_ FP rfl h9;rintro _ gq Aq cs Bq ea j2 j3 hHq;rw [ea];obtain ⟨j4, -, -⟩:=j3 w0;rw [e10] at j4;subst j4;refine go ?_;refine Ax rfl (fun h7=>?_) (fun h7=>?_)
  ·have e1:C6 n s=none:=IV
   exact BI
  have h0:0 < n.up[i].length:=FJ
  refine Qq (xs:=n.up[i]) 0 ?_;rintro hi3 b3 o3 e3 s3;rw [e3];refine go ?_;intros;refine As [2,17] [10] ?_;refine Ds 0 1 2 3 ?_;refine Ds 4 5 6 7 ?_;refine dN 8 ?_;refine sld 1 fun a8 c8 F8=>?_;refine dk ?_;refine dt 9 ?_;refine dN 10 ?_;refine oS ?_;refine Tx ?_;refine dd ?_;refine Pd (E:=EC 1) (xs:=yu) [.slice a8 (n.up[i].drop 1).length c8] hHq (fun _=>⟨rfl,⟨rfl,GV⟩,rfl⟩) ?_;refine Aeu (E:=Ak) (x:=n.up[i].drop 1) FM ?_;refine Ur (E:=Mr Ak FM) (ys:=yu) (xs:=n.up) (x:=n.up[i].drop 1) i rfl hm FJ fun Gv=>?_
  rw [←ea,show n.up.set i (n.up[i].drop 1)=(Pj n i).up from (Ip FJ).symm];have hmem:=Pt h0;have hpk:Bw (Ob n.up[i])=true:=N7 (hq▸(Nb (s:=s) g1).1) hmem;have hpz:(Ob n.up[i]).data.size≤maxLen:=by
   exact AO
  have hgp:At (Pj n i)=true:=hpo▸Ml g1;have hGp:=A1.1 hgp;have hPg:=Y3 h0;rw [←hPg];generalize hP:Ob n.up[i]=P at *;have htk:C6 n s=some (Rf (Pj n i) i P,[]):=by
   unfold C6;rw [if_neg FJ,hq,if_neg FJ,hpo,hP,hi,Int.toNat_natCast];rw [if_neg FJ,if_pos k5]
  have hgm:=N8 g1 g2 (htk0.trans htk);rw [show Cn n s=(Rf (Pj n i) i P,[],true) by unfold Cn;rw [g1,g2,htk0,htk];rfl];refine go ?_;refine Ax rfl (fun k2=>?_) (fun k2=>?_)
  ·exact absurd k2 FJ
  refine go ?_;refine Ax rfl (fun m5=>?_) (fun m5=>?_)
  rotate_left
  ·exact absurd k5 m5
  have hdp:∀q∈(Pj n i).down,q.length≤6:=fun q hq=>(Db ((Ii hgp).2.2.1 q hq)).1;have hup:∀q∈(Pj n i).up,q.length≤6:=fun q hq=>(Db ((Ii hgp).2.2.2 q hq)).1;refine go ?_;refine Cb (Bet (Pj n i) i P w.a1 w.c1 y.a4 y.c4 y.a5 y.c5 y.a6 y.c6 y.a7 y.c7 w.s.a w.s.a2 w.s.c w.s.c2 Ft w.s.F ⟨⟨ye,Fe,He⟩,⟨yr,Fr,Hr⟩,⟨yd,Fd,Hd⟩,⟨yu.set i [.slice a8 (n.up[i].drop 1).length c8],[gq],Gv⟩⟩ hGp.l i0 JD (H9 hGp.t) hGp.s (fun k hk hkl hl=>by obtain ⟨x1,x2,x3,x4,r⟩:=hGp.rn (i:=k) hkl;rw [J3 x1];exact (r.hn hk hl).1) hpk hpz hdp hup) fun x _=>?_;refine go ?_;intros;refine Dc A8 ?_
  refine go ?_;refine Gf (ys:=x.1.e.ys) fun _ w4=>?_;refine Gf (ys:=x.1.r.ys) fun _ w5=>?_;refine Gf (ys:=x.1.d.ys) fun _ w6=>?_;refine Gf (ys:=x.1.u.ys) fun _ w7=>?_;refine A4 (E:=EC 2) (xs:=x.1.e.ys) fun _=>?_;refine A4 (E:=EC 5) (xs:=x.1.r.ys) fun _=>?_;refine A4 (E:=EC 1) (xs:=x.1.d.ys) fun _=>?_;refine A4 (E:=EC 1) (xs:=x.1.u.ys) fun _=>?_
  refine Aa6 (Rf (Pj n i) i P) (l:=n.An.Ad) (N:=n.An.Ad.length) (congrArg Qo.Ad (T7 (htk0.trans htk))) rfl (A1.1 hgm).l w4 w5 w6 w7 (a1:=w.a1) (c1:=w.c1) (a2:=x.2.a) (c2:=x.2.c) (a3:=x.2.a2) (c3:=x.2.c2) (a4:=y.a4) (c4:=y.c4) (a5:=y.a5) (c5:=y.c5) (a6:=y.a6) (c6:=y.c6) (a7:=y.a7) (c7:=y.c7) fun FN=>?_;exact CW
 by_cases k6:s.Cp=6
 ·have hu:Yb s=true:=by unfold Yb;rw [decide_eq_true k6,Bool.or_true]
  have hq:∀h:i < n.up.length,Vj n s=n.up[i]:=fun h=>by unfold Vj;rw [hu,if_pos rfl,hi,Int.toNat_natCast];exact Qu h []
  have hpo:Hn n s=Pj n i:=HR
  refine go ?_;refine Dx rfl rfl (fun g5=>?_) (fun g5=>?_)
  ·exact absurd g5 FJ
  refine go ?_;refine Ax rfl (fun g6=>?_) (fun g6=>?_)
  rotate_left
  ·exact absurd k6 g6
  refine go ?_;refine Dx rfl rfl (fun h6=>?_) (fun h6=>?_)
  ·have e1:C6 n s=none:=LA
   exact BI
  have hil:i < n.up.length:=FJ
  have hq:=hq hil;refine Gf (ys:=yu) fun hm hlr=>?_;refine Ai4 (ys:=yu) (xs:=n.up) i hm FJ FJ fun h9 _ Gq=>?_;refine Ad5 (x:=n.up[i]) fun a9 c9 e9 l9=>?_;have e10:yu[i]=[.slice a9 n.up[i].length c9]:=KH
  refine P5 (E:=EC 1) (xs:=yu) (m:=1) (Mn 1) i ?_ FP rfl h9;rintro _ gq Aq cs Bq ea j2 j3 hHq;rw [ea];obtain ⟨j4, -, -⟩:=j3 w0;rw [e10] at j4;subst j4;refine go ?_;refine Ax rfl (fun h7=>?_) (fun h7=>?_)
  ·have e1:C6 n s=none:=IV
   exact BI
  have h0:0 < n.up[i].length:=FJ
  refine Qq (xs:=n.up[i]) 0 ?_;rintro hi3 b3 o3 e3 s3;rw [e3];refine go ?_;intros;refine As [2,17] [10] ?_;refine Ds 0 1 2 3 ?_;refine Ds 4 5 6 7 ?_;refine dN 8 ?_;refine sld 1 fun a8 c8 F8=>?_;refine dk ?_;refine dt 9 ?_;refine dN 10 ?_;refine oS ?_;refine Tx ?_;refine dd ?_;refine Pd (E:=EC 1) (xs:=yu) [.slice a8 (n.up[i].drop 1).length c8] hHq (fun _=>⟨rfl,⟨rfl,GV⟩,rfl⟩) ?_;refine Aeu (E:=Ak) (x:=n.up[i].drop 1) FM ?_;refine Ur (E:=Mr Ak FM) (ys:=yu) (xs:=n.up) (x:=n.up[i].drop 1) i rfl hm FJ fun Gv=>?_
  rw [←ea,show n.up.set i (n.up[i].drop 1)=(Pj n i).up from (Ip FJ).symm];have hmem:=Pt h0;have hpk:Bw (Ob n.up[i])=true:=N7 (hq▸(Nb (s:=s) g1).1) hmem;have hpz:(Ob n.up[i]).data.size≤maxLen:=by
   exact AO
  have hgp:At (Pj n i)=true:=hpo▸Ml g1;have hGp:=A1.1 hgp;have hPg:=Y3 h0;rw [←hPg];generalize hP:Ob n.up[i]=P at *;have htk:C6 n s=some (Pj n i,[]):=by
   exact FC
  have hgm:=N8 g1 g2 (htk0.trans htk);rw [show Cn n s=(Pj n i,[],true) by unfold Cn;rw [g1,g2,htk0,htk];rfl];refine go ?_;refine Ax rfl (fun k2=>?_) (fun k2=>?_)
  ·exact absurd k2 FJ
  refine go ?_;refine Ax rfl (fun m5=>?_) (fun m5=>?_)
  ·exact absurd m5 FJ
  refine go ?_;intros;refine Dc A8 ?_;refine go ?_;refine Gf (ys:=ye) fun _ w4=>?_;refine Gf (ys:=yr) fun _ w5=>?_;refine Gf (ys:=yd) fun _ w6=>?_;refine Gf (ys:=(yu.set i [.slice a8 (n.up[i].drop 1).length c8])) fun _ w7=>?_;refine A4 (E:=EC 2) (xs:=ye) fun _=>?_;refine A4 (E:=EC 5) (xs:=yr) fun _=>?_;refine A4 (E:=EC 1) (xs:=yd) fun _=>?_;refine A4 (E:=EC 1) (xs:=(yu.set i [.slice a8 (n.up[i].drop 1).length c8])) fun _=>?_
  refine Aa6 (Pj n i) (l:=n.An.Ad) (N:=n.An.Ad.length) rfl rfl (A1.1 hgm).l w4 w5 w6 w7 (a1:=w.a1) (c1:=w.c1) (a2:=w.s.a) (c2:=w.s.c) (a3:=w.s.a2) (c3:=w.s.c2) (a4:=y.a4) (c4:=y.c4) (a5:=y.a5) (c5:=y.c5) (a6:=y.a6) (c6:=y.c6) (a7:=y.a7) (c7:=y.c7) fun FN=>?_;exact CW
 have hu:Yb s=false:=by unfold Yb;rw [decide_eq_false k5,decide_eq_false k6];rfl
 have hq:∀h:i < n.down.length,Vj n s=n.down[i]:=fun h=>by unfold Vj;rw [hu,if_neg FM,hi,Int.toNat_natCast];exact Qu h []
 have hpo:Hn n s=Ro n i:=by unfold Hn;rw [hu,if_neg FM,hi,Int.toNat_natCast]
 refine go ?_;refine Dx rfl rfl (fun g5=>?_) (fun g5=>?_)
 ·exact absurd g5 k5
 refine go ?_;refine Ax rfl (fun g6=>?_) (fun g6=>?_)
 ·exact absurd g6 k6
 refine go ?_;refine Dx rfl rfl (fun h6=>?_) (fun h6=>?_)
 ·have e1:C6 n s=none:=LA
  exact BI
 have hil:i < n.down.length:=FJ
 have hq:=hq hil;refine Gf (ys:=yd) fun hm hlr=>?_;refine Ai4 (ys:=yd) (xs:=n.down) i hm FJ FJ fun h9 _ Gq=>?_;refine Ad5 (x:=n.down[i]) fun a9 c9 e9 l9=>?_;have e10:yd[i]=[.slice a9 n.down[i].length c9]:=KH
 refine P5 (E:=EC 1) (xs:=yd) (m:=1) (Mn 1) i ?_ FP rfl h9;rintro _ gq Aq cs Bq ea j2 j3 hHq;rw [ea];obtain ⟨j4, -, -⟩:=j3 w0;rw [e10] at j4;subst j4;refine go ?_;refine Ax rfl (fun h7=>?_) (fun h7=>?_)
 ·have e1:C6 n s=none:=IV
  exact BI
 have h0:0 < n.down[i].length:=FJ
 refine Qq (xs:=n.down[i]) 0 ?_;rintro hi3 b3 o3 e3 s3;rw [e3];refine go ?_;intros;refine As [2,17] [10] ?_;refine Ds 0 1 2 3 ?_;refine Ds 4 5 6 7 ?_;refine dN 8 ?_;refine sld 1 fun a8 c8 F8=>?_;refine dk ?_;refine dt 9 ?_;refine dN 10 ?_;refine oS ?_;refine Tx ?_;refine dd ?_;refine Pd (E:=EC 1) (xs:=yd) [.slice a8 (n.down[i].drop 1).length c8] hHq (fun _=>⟨rfl,⟨rfl,GV⟩,rfl⟩) ?_;refine Aeu (E:=Ak) (x:=n.down[i].drop 1) FM ?_;refine Ur (E:=Mr Ak FM) (ys:=yd) (xs:=n.down) (x:=n.down[i].drop 1) i rfl hm FJ fun Gv=>?_
 rw [←ea,show n.down.set i (n.down[i].drop 1)=(Ro n i).down from (Ip FJ).symm];have hmem:=Pt h0;have hpk:Bw (Ob n.down[i])=true:=N7 (hq▸(Nb (s:=s) g1).1) hmem;have hpz:(Ob n.down[i]).data.size≤maxLen:=by
  exact AO
 have hgp:At (Ro n i)=true:=hpo▸Ml g1;have hGp:=A1.1 hgp;have hPg:=Y3 h0;rw [←hPg];generalize hP:Ob n.down[i]=P at *;have htk:C6 n s=if s.Cp=2 then some (C7 (Ro n i) i P) else some (Ro n i,[]):=by
  unfold C6;rw [if_neg FJ,hq,if_neg FJ,hpo,hP,hi,Int.toNat_natCast]
  split
  ·rfl
  ·first|rfl|rw [if_neg k5]
 have hdp:∀q∈(Ro n i).down,q.length≤6:=fun q hq=>(Db ((Ii hgp).2.2.1 q hq)).1;refine go ?_;refine Ax rfl (fun k2=>?_) (fun k2=>?_)
 ·rw [if_pos k2] at htk;have hgm:=N8 g1 g2 (htk0.trans htk);rw [show Cn n s=((C7 (Ro n i) i P).1,(C7 (Ro n i) i P).2,true) by unfold Cn;rw [g1,g2,htk0,htk];rfl];refine go ?_;have hls:(C7 (Ro n i) i P).1.Ab=n.Ab:=by unfold C7;split <;> rfl
  refine As [4,8,20] [] ?_;refine Ds 0 1 2 3 ?_;refine dt 4 ?_;refine dN 5 ?_;refine oC ?_
  refine Cb (Anc (Ro n i) i P w.a1 w.c1 y.a4 y.c4 y.a5 y.c5 y.a6 y.c6 y.a7 y.c7 w.s.a w.s.a2 n.Ab.Aa.Ao.length w.s.c n.Ab.holds.length w.s.c2 _ _ _ _ Ft ⟨⟨ye,Fe,He⟩,⟨yr,Fr,Hr⟩,⟨yd.set i [.slice a8 (n.down[i].drop 1).length c8],[gq],Gv⟩,⟨yu,Fu,Hu⟩⟩ FT hGp.l JD FJ (H9 hGp.t) (fun hl=>by obtain ⟨x1,x2,x3,x4,r⟩:=hGp.rn (i:=i) JD;rw [Hv x2];exact (r.hf i0 hl).2.1) (fun hl=>by obtain ⟨x1,x2,x3,x4,r⟩:=hGp.rn (i:=i) JD;rw [J3 x1];exact (r.hn i0 hl).1) hpk hpz hdp) fun x _=>?_;refine dk ?_
  refine dN 6 ?_;refine oS ?_;refine dk ?_;refine Ed 7 8 ?_;refine dd ?_;refine go ?_;rw [←hls];refine Gf (ys:=x.1.e.ys) fun _ w4=>?_;refine Gf (ys:=x.1.r.ys) fun _ w5=>?_;refine Gf (ys:=x.1.d.ys) fun _ w6=>?_;refine Gf (ys:=x.1.u.ys) fun _ w7=>?_;refine A4 (E:=EC 2) (xs:=x.1.e.ys) fun _=>?_;refine A4 (E:=EC 5) (xs:=x.1.r.ys) fun _=>?_;refine A4 (E:=EC 1) (xs:=x.1.d.ys) fun _=>?_;refine A4 (E:=EC 1) (xs:=x.1.u.ys) fun _=>?_
  refine Aa6 ((C7 (Ro n i) i P).1) (l:=n.An.Ad) (N:=n.An.Ad.length) (congrArg Qo.Ad (T7 (htk0.trans htk))) rfl (A1.1 hgm).l w4 w5 w6 w7 (a1:=w.a1) (c1:=w.c1) (a2:=w.s.a) (c2:=w.s.c) (a3:=w.s.a2) (c3:=w.s.c2) (a4:=y.a4) (c4:=y.c4) (a5:=y.a5) (c5:=y.c5) (a6:=y.a6) (c6:=y.c6) (a7:=y.a7) (c7:=y.c7) fun FN=>?_;refine ret (⟨_,FN,x.2.a,x.2.c,x.2.F⟩:StZ) trivial rfl
 ·rw [if_neg k2] at htk;have hgm:=N8 g1 g2 (htk0.trans htk);rw [show Cn n s=(Ro n i,[],true) by unfold Cn;rw [g1,g2,htk0,htk];rfl];refine go ?_;refine Ax rfl (fun m5=>?_) (fun m5=>?_)
  ·exact absurd m5 k5
  refine go ?_;intros;refine Dc A8 ?_;refine go ?_;refine Gf (ys:=ye) fun _ w4=>?_;refine Gf (ys:=yr) fun _ w5=>?_;refine Gf (ys:=(yd.set i [.slice a8 (n.down[i].drop 1).length c8])) fun _ w6=>?_;refine Gf (ys:=yu) fun _ w7=>?_;refine A4 (E:=EC 2) (xs:=ye) fun _=>?_;refine A4 (E:=EC 5) (xs:=yr) fun _=>?_;refine A4 (E:=EC 1) (xs:=(yd.set i [.slice a8 (n.down[i].drop 1).length c8])) fun _=>?_;refine A4 (E:=EC 1) (xs:=yu) fun _=>?_
  refine Aa6 (Ro n i) (l:=n.An.Ad) (N:=n.An.Ad.length) rfl rfl (A1.1 hgm).l w4 w5 w6 w7 (a1:=w.a1) (c1:=w.c1) (a2:=w.s.a) (c2:=w.s.c) (a3:=w.s.a2) (c3:=w.s.c2) (a4:=y.a4) (c4:=y.c4) (a5:=y.a5) (c5:=y.c5) (a6:=y.a6) (c6:=y.c6) (a7:=y.a7) (c7:=y.c7) fun FN=>?_;exact CW
end Go.Proofs.YtkblpelckhegbaaGreatDoor
namespace Go.Proofs.YtkblpelckhegbaaGreatDoor

open Go.RowKit
end Go.Proofs.YtkblpelckhegbaaGreatDoor
namespace Go.Proofs.YtkblpelckhegbaaGreatDoor
open Go.RowKit
structure DqS where
 x:NE
 b:Bool
 cs:List Value
 F:List Nat
 a:Option Addr
 c:Nat
 Fe:List Nat
structure DqK where
 k:Nat
 cs:List Value
 F:List Nat
 a:Option Addr
 c:Nat
 Fe:List Nat
theorem Ala (w:World):∀xs:List Int,C1 Bb w (xs.map (Value.int .i64)) xs []
 | []=>⟨rfl,rfl⟩
 | x::r=>⟨[.int .i64 x],r.map (Value.int .i64),[],[],rfl,rfl,⟨rfl,rfl⟩,Ala w r⟩
theorem Aqv {n:Du} {s:Kq} (e:Bo n s=none):Cn n s=(Xv,[],false):=by
 unfold Cn
 split
 ·rw [e]
 ·rfl
theorem Aqw {n:Du} {s:Kq} {r:NE} (g1:At n=true) (g2:Ex s=true) (e:Bo n s=some r):Cn n s=(r.1,r.2,true):=by unfold Cn;rw [g1,g2,e];rfl
theorem Asz (n:Du) (v:Value) (F FT:List Nat) (hg:At n=true):Fn prog 84 [v] [.isv Ny v n F,Hp FT] [] (fun (_:StZ)=>True) (fun z=>.tuple #[.agg z.cs.toArray,.slice z.a (Ri n).2.length z.c]) (fun z=>[.isv Ny (.agg z.cs.toArray) (Ri n).1 z.F,.ow A8 9 (.slice z.a (Ri n).2.length z.c) (Ri n).2 z.Fe]):=by
 have hwn:=Bdg hg;refine enter func84 rfl ntmps84 fun w0=>?_;refine Hm ?_;rintro a1 c1 F1 a2 c2 F2 a3 c3 F3 a4 c4 F4 a5 c5 F5 a6 c6 F6 a7 c7 F7 rfl l1 l2 l3 l4 l5 l6 l7;refine go ?_;intros;refine Cb (Apw n _ F hg) fun z _=>?_;obtain ⟨w,y⟩:=z;dsimp only;refine A4 (E:=Bb) (xs:=n.An.Ad) fun Ft=>?_;refine Agv Mq (xs:=n.Af) fun He=>?_;refine Agv Sf (xs:=n.Ac) fun Hr=>?_;refine Agv (Q3 (Ng.refl Ak) FM _) (xs:=n.down) fun Hd=>?_;refine Agv (Q3 (Ng.refl Ak) FM _) (xs:=n.up) fun Hu=>?_;refine Ht (x:=n.Ab) ?_;rintro b2 d2 G2 b3 d3 G3 ev - -
 simp only [Value.agg.injEq,Array.mk.injEq,List.cons.injEq,Value.slice.injEq,true_and,and_true] at ev;obtain ⟨⟨rfl,rfl⟩,rfl,rfl⟩:=ev;refine Gz n (a1:=w.a1) (c1:=w.c1) (a2:=w.s.a) (c2:=w.s.c) (a3:=w.s.a2) (c3:=w.s.c2) (a4:=y.a4) (c4:=y.c4) (a5:=y.a5) (c5:=y.c5) (a6:=y.a6) (c6:=y.c6) (a7:=y.a7) (c7:=y.c7) ?_;refine go ?_;intros;rename_i g4 g5;refine Dc A8 ?_;refine go ?_
 refine Cj [2,4] (fun s:DqS=>[(5,.slice s.a s.x.2.length s.c),(6,.bool s.b)]) (fun s=>[.row g4 50 0 [] s.cs [],.isv Ny (.agg s.cs.toArray) s.x.1 s.F,.ow A8 9 (.slice s.a s.x.2.length s.c) s.x.2 s.Fe]) (fun s=>Ws (n,[]) s.x∧(if s.b then drE s.x else s.x)=Ri n) (fun s=>if s.b then wN s.x.1+1 else 0) ⟨(n,[]),true,_,_,_,_,_⟩ ⟨.refl hg,rfl⟩ fun s hs0=>?_;obtain ⟨x,b,cs,Fx,ea,ec,eF⟩:=s;obtain ⟨fx,hR⟩:=hs0;dsimp only at fx hR ⊢;refine Hm (x:=x.1) ?_;rintro b1 d1 G1 b2 d2 G2 b3 d3 G3 b4 d4 G4 b5 d5 G5 b6 d6 G6 b7 d7 G7 ev - - - - - - -;obtain rfl:=Uv ev;clear ev;cases b
 ·rw [if_neg FM] at hR;rw [hR];refine go ?_;refine ret (⟨_,Fx,ea,ec,eF⟩:StZ) trivial rfl
 rw [if_pos rfl] at hR;have hG:=A1.1 fx.g;have h8:=H9 hG.t;have hn8:=h8.n1;have hn2:=h8.n0;have hev:=fx.e;simp only [List.length_nil] at hev;refine go ?_;refine Cj [2,4] (fun s:DqK=>[(5,.slice s.a (Ig x s.k).2.length s.c),(6,.bool (Rm x s.k)),(7,.int .i64 ((s.k+1:Nat):Int))]) (fun s=>[.row g4 50 0 [] s.cs [],.isv Ny (.agg s.cs.toArray) (Ig x s.k).1 s.F,.ow A8 9 (.slice s.a (Ig x s.k).2.length s.c) (Ig x s.k).2 s.Fe]) (fun s=>s.k+1≤x.1.An.Ad.length) (fun s=>x.1.An.Ad.length - s.k) ⟨0,_,_,_,_,_⟩ (by show 0+1≤_;omega) fun s hs0=>?_;obtain ⟨k,cs,Fx,ya,yc,yF⟩:=s;dsimp only at hs0 ⊢
 have rf:=P7 fx.g k hs0;have fX:=fx.trans rf.1;have hXt:(Ig x k).1.An.Ad.length=x.1.An.Ad.length:=by rw [rf.1.t]
 generalize hX:Ig x k=X at fX hXt ⊢;generalize hM:Rm x k=M;refine Hm (x:=X.1) ?_;rintro b1 d1 G1 b2 d2 G2 b3 d3 G3 b4 d4 G4 b5 d5 G5 b6 d6 G6 b7 d7 G7 ev - - - - - - -;obtain rfl:=Uv ev;clear ev;refine go ?_;refine Ax rfl (fun h1=>?_) (fun h1=>?_)
 rotate_left
 ·have hk:x.1.An.Ad.length - 1=k:=FJ
  have hXr:Xk x=X:=by rw [←hX,←hk];rfl
  have hmi:=Aii fx.g;rw [hk,hM] at hmi;refine go ?_;refine Ce ⟨X,M,_,_,ya,yc,yF⟩ ⟨fX,?_⟩ ?_
  ·cases M
   ·have hz:=hmi.1 rfl;show X=Ri n;rw [←hR,Ab6 hz,←hXr,Ato fx.g hz]
   ·have hz:¬Y4 x.1=0:=fun h=>by cases hmi.2 h
    show drE X=Ri n;rw [←hR,Ahj fx.g hz,hXr]
  ·cases M
   ·show 0 < wN x.1+1;omega
   ·have hz:¬Y4 x.1=0:=fun h=>by cases hmi.2 h
    have:=(Nk fx.g).2 hz;rw [hXr] at this;show wN X.1+1 < wN x.1+1;omega
 have hj:k+1 < x.1.An.Ad.length:=FJ
 refine go ?_;intros;refine Ll (E:=Bb) (xs:=[2,5]) (fun w=>Ala w _) ?_ FM;refine A4 (E:=Bb) (xs:=[2,5]) fun Fk=>?_;refine go ?_;refine Cj [2,4,7,25,26] (fun s:DqK=>[(5,.slice s.a (Uf X (k+1) s.k).2.length s.c),(6,.bool (Afe M X (k+1) s.k)),(27,.int .i64 (s.k:Nat))]) (fun s=>[.row g4 50 0 [] s.cs [],.isv Ny (.agg s.cs.toArray) (Uf X (k+1) s.k).1 s.F,.ow A8 9 (.slice s.a (Uf X (k+1) s.k).2.length s.c) (Uf X (k+1) s.k).2 s.Fe]) (fun s=>s.k≤2) (fun s=>2 - s.k) ⟨0,_,_,_,_,_⟩ (Nat.zero_le _) fun s hs1=>?_;obtain ⟨m,cs,Fx,ya,yc,yF⟩:=s;dsimp only at hs1 ⊢
 have fY:=fX.trans (Awo fX.g (i:=k+1) FJ FJ m hs1);have hYe:=fY.e;simp only [List.length_nil] at hYe;generalize hY:Uf X (k+1) m=Y at fY hYe ⊢;generalize hB:Afe M X (k+1) m=B;refine Hm (x:=Y.1) ?_;rintro b1 d1 G1 b2 d2 G2 b3 d3 G3 b4 d4 G4 b5 d5 G5 b6 d6 G6 b7 d7 G7 ev - - - - - - -;obtain rfl:=Uv ev;clear ev;refine go ?_;refine Ax rfl (fun h2=>?_) (fun h2=>?_)
 ·have hm:m < 2:=FJ
  have ok:Ex (kst m (k+1))=true:=Bkh FJ FJ hm;refine I5 (xs:=[2,5]) m ?_;rintro hi b9 o9 e9;rw [e9,show ([2,5]:List Int)[m]=(kst m (k+1)).Cp by rcases (show m=0∨m=1 by omega) with rfl|rfl <;> rfl];have gY:=fY.g;refine go ?_;refine Cb (Alo Y.1 (kst m (k+1)) _ _ FT (Nat.zero_le _) gY ok) fun z _=>?_;cases e:Bo Y.1 (kst m (k+1)) with
  | none =>
   rw [Aqv e];have hnY:Uf X (k+1) (m+1)=Y:=by show Nx (Uf X (k+1) m) (kst m (k+1))=Y;rw [hY];exact Kc e
   have hnB:Afe M X (k+1) (m+1)=B:=by show (Afe M X (k+1) m || (Bo (Uf X (k+1) m).1 (kst m (k+1))).isSome)=B;rw [hY,hB,e];exact Bool.or_false B
   refine Hm (x:=Xv) ?_;rintro f1 t1 G1 f2 t2 G2 f3 t3 G3 f4 t4 G4 f5 t5 G5 f6 t6 G6 f7 t7 G7 ez - - - - - - -;rw [ez];refine go ?_;intros;refine Ce ⟨m+1,_,_,ya,yc,yF⟩ (by show m+1≤2;omega) (by show 2 - (m+1) < 2 - m;omega) (by dsimp only;rw [hnY,hnB];exact frE) (by dsimp only;rw [hnY];exact hsE)
  | some r =>
   rw [Aqw gY ok e];have hnY:Uf X (k+1) (m+1)=(r.1,Y.2++r.2):=by show Nx (Uf X (k+1) m) (kst m (k+1))=_;rw [hY];exact Z3 e
   have hnB:Afe M X (k+1) (m+1)=true:=by show (Afe M X (k+1) m || (Bo (Uf X (k+1) m).1 (kst m (k+1))).isSome)=true;rw [hY,hB,e];exact Bool.or_true B
   have hr:=Aq4 gY ok e;refine Hm (x:=r.1) ?_;rintro f1 t1 G1 f2 t2 G2 f3 t3 G3 f4 t4 G4 f5 t5 G5 f6 t6 G6 f7 t7 G7 ez - - - - - - -;rw [ez];refine A4 (E:=A8) (xs:=r.2) fun F8=>?_;refine go ?_;intros;apply wO;refine Pm (E:=A8) (xs:=Y.2) (ys:=r.2) Eh Hj fun a9 c9 F9=>?_;refine go ?_;refine Ce ⟨m+1,_,z.F,a9,c9,F9⟩ (by show m+1≤2;omega) (by show 2 - (m+1) < 2 - m;omega) (by dsimp only;rw [hnY,hnB];exact frE) (by dsimp only;rw [hnY];exact hsE)
 ·obtain rfl:m=2:=FJ
  refine go ?_;refine Ce ⟨k+1,_,_,ya,yc,yF⟩ KG (by show x.1.An.Ad.length - (k+1) < x.1.An.Ad.length - k;omega) (by dsimp only;rw [Aqa,hX,hM,hB,Acz,hX,hY];exact frE) (by dsimp only;rw [Acz,hX,hY];exact hsE)
theorem Ai9 (n:Du) (v:Value) (F:List Nat):FV 89 [v] [.isv Ny v n F] (.tuple #[.bool (Gw n).1,.bool (Gw n).2]):=by
 refine enter func89 rfl ntmps89 fun w0=>?_;refine Hm ?_;rintro a1 c1 F1 a2 c2 F2 a3 c3 F3 a4 c4 F4 a5 c5 F5 a6 c6 F6 a7 c7 F7 rfl l1 l2 l3 l4 l5 l6 l7;refine go ?_;intros;refine Cb (Aeb n _ F) fun _ _=>?_;cases g:At n
 ·refine go ?_;refine ret () trivial ?_;unfold Gw;rw [g];rfl
 obtain ⟨-,e2,e3,e4⟩:=Ii g;obtain ⟨q2,q8,qn,qu,qe,qt⟩:=Qh g;have hG:=A1.1 g;obtain ⟨-,qr, -, -⟩:=Bm.1 hG.l;have hS1:=(Lc hG.s).l;have hW:=Ec.1 (Fs.1 hG.s).1;refine O3 ?_;intros;refine Iu n.An (a1:=a1) ?_;refine go ?_;refine D8 [1,2,3] (fun k:Nat=>[(4,.int .i64 (k:Nat))]) (fun k=>1≤k∧k≤n.An.Ad.length∧∀j,1≤j→j < k→(n.down.getD j []).length=0∧(n.up.getD j []).length=0∧(Eu n.An.Ad ((j:Nat):Int)=true→Ad1 n j=true)) (fun k=>n.An.Ad.length - k) 1 ⟨Nat.le_refl _,FJ,fun j a b=>by omega⟩ fun k hk=>?_;obtain ⟨hk1,hk2,hal⟩:=hk;refine go ?_;refine Ax rfl (fun h3=>?_) (fun h3=>?_)
 ·have hk3:k < n.An.Ad.length:=FJ
  have h5:k < n.Ac.length:=FJ
  have hd5:k < n.down.length:=FJ
  have hu5:k < n.up.length:=FJ
  have m8:=(Db (e3 _ (List.getElem_mem hd5))).1;have m9:=(Db (e4 _ (List.getElem_mem hu5))).1;have gd:(n.down.getD k [])=n.down[k]:=Qu hd5 _;have gu:(n.up.getD k [])=n.up[k]:=Qu hu5 _;refine Np (E:=Ak) (hz:=FM) (xs:=n.down) k ?_;rintro hi1 g1 o1 a8 c8 F8 ea l8;refine Np (E:=Ak) (hz:=FM) (xs:=n.up) k ?_;rintro hi2 g2 o2 a9 c9 F9 eb l9;rw [ea,eb];refine O3 ?_;intros;refine As [0,2,5] [] ?_;refine Ds 0 1 2 3 ?_;refine Ds 4 5 6 7 ?_;refine Ds 8 9 10 11 ?_;refine Ed 12 13 ?_;refine dd ?_;refine go ?_;refine Ax rfl (fun h4=>?_) (fun h4=>?_)
  ·refine go ?_;refine ret () trivial ?_;unfold Gw;rw [g];rw [if_pos rfl,Bcj (fun h0=>by
    have hd:=Acg (l:=n.down) (i:=k) KJ;have hu:=Acg (l:=n.up) (i:=k) KJ;rw [gd] at hd;rw [gu] at hu;omega)]
   rfl
  refine Kg (xs:=n.Ac) k ?_;rintro h5b b5 o5 a10 c10 F10 a11 c11 F11 e5 l10 l11;rw [e5];have hr:=Eb.1 (e2 _ (List.getElem_mem h5));have hr1:=(Kh hr.w).1;have hr2:=(Dg.1 hr.q).2.1;cases hlf:Eu n.An.Ad ((k:Nat):Int)
  ·refine O3 ?_;intros;refine As [0,9] [] ?_;refine Ed 0 1 ?_;refine dt 2 ?_;refine dN 3 ?_;refine oC ?_;refine Cb (Pa n.An _ _ F1 (H9 hG.t) FJ) fun _ _=>?_;rw [hlf];refine dk ?_;refine dt 4 ?_;refine ds 5 ?_;refine ds 6 ?_;refine ds 7 ?_;refine ds 8 ?_;refine dsu 9 ?_;refine dsu 10 ?_;refine dsu 11 ?_;refine dsu 12 ?_;refine dsu 13 ?_;refine dsu 14 ?_;refine dsu 15 ?_;refine dsu 16 ?_;refine dsu 17 ?_;refine ds 18 ?_;refine ds 19 ?_;refine dsu 20 ?_;refine dsu 21 ?_;refine dsu 22 ?_;refine dsu 23 ?_;refine dsu 24 ?_;refine dsu 25 ?_;refine dsu 26 ?_;refine dsu 27 ?_;refine ds 28 ?_
   refine dt 29 ?_;refine dd ?_;refine go ?_;rw [show ((k:Nat):Int)+1=((k+1:Nat):Int) by omega];refine Ce (k+1) ⟨FJ,hk3,fun j hj0 hj=>?_⟩ FJ;by_cases hjk:j=k
   ·subst hjk;exact ⟨by rw [gd];omega,by rw [gu];omega,fun h=>absurd h KM⟩
   ·exact hal j hj0 FJ
  cases hst0:n.Ac[k].Be
  ·have hst:Agg n.Ac[k]=false:=by unfold Agg;rw [hst0];rfl
   try rw [hst0]
   refine O3 ?_;intros;refine As [0,9] [] ?_;refine Ed 0 1 ?_;refine dt 2 ?_;refine dN 3 ?_;refine oC ?_;refine Cb (Pa n.An _ _ F1 (H9 hG.t) FJ) fun _ _=>?_;rw [hlf];refine dk ?_;refine dt 4 ?_;refine Dr 5 ?_;refine Dr 6 ?_;refine Dr 7 ?_;refine Dr 8 ?_;refine ds 9 ?_;refine ds 10 ?_;refine ds 11 ?_;refine ds 12 ?_;refine ds 13 ?_;refine ds 14 ?_;refine ds 15 ?_;refine ds 16 ?_;refine ds 17 ?_;refine Dr 18 ?_;refine Dr 19 ?_;refine ds 20 ?_;refine ds 21 ?_;refine ds 22 ?_;refine ds 23 ?_;refine ds 24 ?_;refine ds 25 ?_;refine ds 26 ?_;refine ds 27 ?_;refine Dr 28 ?_;refine dt 29 ?_
   exact EJ
  ·by_cases hz:n.Ac[k].Al.length+n.Ac[k].Aa.Am.length=0
   rotate_left
   ·have hst:Agg n.Ac[k]=false:=by
     unfold Agg;by_cases hz1:((n.Ac[k].Al.length:Int)=0)
     ·rw [decide_eq_false (show ¬((n.Ac[k].Aa.Am.length:Int)=0) by omega),Bool.and_false]
     ·rw [decide_eq_false hz1,Bool.and_false,Bool.false_and]
    try rw [hst0]
    refine O3 ?_;intros;refine As [0,9] [] ?_;refine Ed 0 1 ?_;refine dt 2 ?_;refine dN 3 ?_;refine oC ?_;refine Cb (Pa n.An _ _ F1 (H9 hG.t) FJ) fun _ _=>?_;rw [hlf];refine dk ?_;refine dt 4 ?_;refine Dr 5 ?_;refine Dr 6 ?_;refine Dr 7 ?_;refine Dr 8 ?_;refine Dr 9 ?_;refine Dr 10 ?_;refine Dr 11 ?_;refine Dr 12 ?_;refine Dr 13 ?_;refine Dr 14 ?_;refine Dr 15 ?_;refine Dr 16 ?_;refine Dr 17 ?_;rw [show decide ((0:Int) < ((n.Ac[k].Al.length:Int)+(n.Ac[k].Aa.Am.length:Int)))=true from decide_eq_true FJ];refine Dr 18 ?_;refine Dr 19 ?_;refine ds 20 ?_;refine ds 21 ?_
    refine ds 22 ?_;refine ds 23 ?_;refine ds 24 ?_;refine ds 25 ?_;refine ds 26 ?_;refine ds 27 ?_;refine Dr 28 ?_;refine dt 29 ?_;exact EJ
   ·have hst:Agg n.Ac[k]=true:=by
     unfold Agg;rw [hst0,decide_eq_true (show ((n.Ac[k].Aa.Am.length:Int)=0) by omega),decide_eq_true (show ((n.Ac[k].Al.length:Int)=0) by omega)];rfl
    try rw [hst0]
    refine O3 ?_;intros;refine As [0,9] [] ?_;refine Ed 0 1 ?_;refine dt 2 ?_;refine dN 3 ?_;refine oC ?_;refine Cb (Pa n.An _ _ F1 (H9 hG.t) FJ) fun _ _=>?_;rw [hlf];refine dk ?_;refine dt 4 ?_;refine Dr 5 ?_;refine Dr 6 ?_;refine Dr 7 ?_;refine Dr 8 ?_;refine Dr 9 ?_;refine Dr 10 ?_;refine Dr 11 ?_;refine Dr 12 ?_;refine Dr 13 ?_;refine Dr 14 ?_;refine Dr 15 ?_;refine Dr 16 ?_;refine Dr 17 ?_;rw [show decide ((0:Int) < ((n.Ac[k].Al.length:Int)+(n.Ac[k].Aa.Am.length:Int)))=false from decide_eq_false FJ];refine Dr 18 ?_;refine Dr 19 ?_;refine Dr 20 ?_;refine Dr 21 ?_
    refine Dr 22 ?_;refine Dr 23 ?_;refine Dr 24 ?_;refine Dr 25 ?_;refine d1g 26 ?_;apply On.h;refine oC ?_;refine cb (fun w s=>Ui n.Ab.Aa.Ap n.Ab.Aa.size _ n.Ab.Aa.Ao.length _ w hW.1.1 hW.1.2 FJ) ?_;refine dk ?_;refine Dr 27 ?_;refine Dr 28 ?_;refine dt 29 ?_;refine dd ?_;refine go ?_;refine Ax rfl (fun h6=>?_) (fun h6=>?_)
    ·refine go ?_;refine ret () trivial ?_;unfold Gw;rw [g];rw [if_pos rfl,Ajd hk3 hlf (by unfold Ad1;rw [Hv h5,decide_eq_false h6,Bool.and_false])];rfl
    ·refine go ?_;rw [show ((k:Nat):Int)+1=((k+1:Nat):Int) by omega];refine Ce (k+1) ⟨FJ,hk3,fun j hj0 hj=>?_⟩ FJ;by_cases hjk:j=k
     ·subst hjk;exact ⟨by rw [gd];omega,by rw [gu];omega,fun h=>by unfold Ad1;rw [Hv h5,hst,decide_eq_true (Decidable.not_not.1 h6)];rfl⟩
     ·exact hal j hj0 FJ
 ·have hk3:k=n.An.Ad.length:=FJ
  have hst:Aad n=true:=by
   refine Aq5 ?_ fun i hi hl=>?_
   ·have d0:=Acr g;have a1:qd n.down=0:=Bbr fun i hi=>by
     rw [←Qu hi []];by_cases h0:i=0
     ·subst h0;exact d0.1
     ·exact (hal i FJ FJ).1
    have a2:qd n.up=0:=Bbr fun i hi=>by
     rw [←Qu hi []];by_cases h0:i=0
     ·subst h0;exact d0.2
     ·exact (hal i FJ FJ).2.1
    unfold Y4;omega
   ·by_cases h0:i=0
    ·subst h0;rw [Bfj (H9 hG.t)] at hl;cases hl
    ·exact (hal i FJ FJ).2.2 hl
  refine go ?_;refine ret () trivial ?_;unfold Gw;rw [g,if_pos rfl,hst];rfl
theorem Akj (x:Az) (v:Value) (F:List Nat):Fn prog 171 [v] [.isv Bi v x F] [] (fun (_:OwR)=>True) (fun s=>.tuple #[.slice s.a (E8 x).1.length s.c,.bool (E8 x).2]) (fun s=>[.ow Bb 3 (.slice s.a (E8 x).1.length s.c) (E8 x).1 s.F]):=by
 refine enter func171 rfl ntmps171 fun w0=>?_;refine Es (v:=v) (x:=x) (F:=F) ?_;rintro a1 c1 F1 a2 c2 F2 rfl l1 l2;unfold maxLen at l1 l2;refine go ?_;intros;rename_i g0;refine Cb (Alm x _ F) fun _ _=>?_;refine Dc Bb ?_;cases g1:Bx x
 ·rw [show E8 x=([],false) by unfold E8;rw [g1];rfl];exact BD
 have g5:=Eb.1 g1;have hq8:=(Dg.1 g5.q).2.1;rw [show E8 x=(x.Al.map (·.Ae),true) by unfold E8;rw [g1];rfl];refine go ?_;refine Cj [1,2,3] (fun s:AwS=>[(5,.int .i64 (s.i:Nat)),(4,.slice s.a ((x.Al.take s.i).map (·.Ae)).length s.c)]) (fun s=>[.ow Bb 3 (.slice s.a ((x.Al.take s.i).map (·.Ae)).length s.c) ((x.Al.take s.i).map (·.Ae)) s.F]) (fun s=>s.i≤x.Al.length) (fun s=>x.Al.length - s.i) ⟨0,some ⟨g0,0,none⟩,0,[g0]⟩ (Nat.zero_le _) fun s hs=>?_;obtain ⟨i,a3,c3,F3⟩:=s;dsimp only at hs ⊢;have hl3:((x.Al.take i).map (·.Ae)).length≤i:=FR
 refine go ?_;refine Ax rfl (fun h4=>?_) (fun h4=>?_)
 ·have hi:i < x.Al.length:=FJ
  have eo:(x.Al.take (i+1)).map (·.Ae)=(x.Al.take i).map (·.Ae)++[x.Al[i].Ae]:=KS
  exact BW
 have hi:i=x.Al.length:=FJ
 subst hi;rw [List.take_length];exact BD
def rsC (x:Cs) (o:Option NR):Cs × ByteArray:=match o with
 | some r=>(⟨r.1,x.Lq⟩,r.2)
 | none=>(x,⟨#[63]⟩)
theorem Ai1 {x:Cs} {r:Option ByteArray}:rsC x (Q4 x.Bl r)=(x,r.getD ⟨#[63]⟩):=by cases r <;> rfl
theorem Bhb {n:Du} {s:Kq} {y:NE} (hg:At n=true) (hs:Ex s=true) (e:Bo n s=some y):y.2.length≤900000000000∧∀e∈y.2,e.size≤100:=by
 have:=Aus hg hs;rw [e] at this;exact this
theorem Rj (x:Cs) (s:Kq) (b:Bool) (v:Value) (F FT:List Nat) (hg:At x.Bl=true) (hss:s.data.size≤maxLen) (hb:b=decide (s.Cp=2∨s.Cp=4)):Fn prog 39 [v,.agg #[.int .i64 s.Cp,.int .i64 s.node,.string s.data],.bool b] [.isv Df v x F,Hp FT] [] (fun (_:Vp)=>True) (fun u=>.tuple #[.agg u.cs.toArray,.string (rsC x (Km x.Bl s)).2]) (fun u=>[.isv Df (.agg u.cs.toArray) (rsC x (Km x.Bl s)).1 u.F]):=by
 refine enter func39 rfl ntmps39 fun w0=>?_;refine Ct ?_;rintro a1 c1 F1 a2 c2 F2 a3 c3 F3 a4 c4 F4 a5 c5 F5 a6 c6 F6 a7 c7 F7 rfl s1 s2 l1 l2 l3 l4 l5 l6 l7;refine Gz x.Bl (a1:=a1) (a2:=a2) (a3:=a3) (a4:=a4) (a5:=a5) (a6:=a6) (a7:=a7) ?_;refine go ?_;intros;refine Cb (Axc s hss) fun _ _=>?_;cases hk:Ex s
 ·have e:Km x.Bl s=none:=by unfold Km;rw [hk];rfl
  rw [e];exact DS
 refine go ?_;refine Cb (Alo x.Bl s _ _ FT hss hg hk) fun z _=>?_;cases es:Bo x.Bl s with
 | none =>
  have e:Km x.Bl s=none:=by unfold Km;rw [hk,es];rfl
  rw [e,Aqv es];refine Hm (x:=Xv) ?_;rintro f1 t1 G1 f2 t2 G2 f3 t3 G3 f4 t4 G4 f5 t5 G5 f6 t6 G6 f7 t7 G7 ez - - - - - - -;rw [ez];refine go ?_;intros;exact AE
 | some y =>
  have e:Km x.Bl s=some (y.1,if s.Cp=2∨s.Cp=4 then Ym y.2 else bz wOk):=by unfold Km;rw [hk,es];rfl
  have hE:=Bhb hg hk es;rw [e,Aqw hg hk es];obtain ⟨m,E⟩:=y;dsimp only at hE ⊢;refine Hm (x:=m) ?_;rintro f1 t1 G1 f2 t2 G2 f3 t3 G3 f4 t4 G4 f5 t5 G5 f6 t6 G6 f7 t7 G7 ez - - - - - - -;rw [ez];refine A4 (E:=A8) (xs:=E) fun F8=>?_;refine go ?_;intros;refine Ep (⟨m,x.Lq⟩:Cs) s1 s2 (a1:=f1) (c1:=t1) (a2:=f2) (c2:=t2) (a3:=f3) (c3:=t3) (a4:=f4) (c4:=t4) (a5:=f5) (c5:=t5) (a6:=f6) (c6:=t6) (a7:=f7) (c7:=t7) ?_;cases b
  ·rw [if_neg (by simpa using hb.symm)];exact DS
  rw [if_pos (by simpa using hb.symm)];exact BS
def Wr (n:Du) (line:ByteArray):Option NR :=
 if line.data.toList=Ajo then Km n ⟨1,0,⟨#[]⟩⟩
 else if line.data.toList=Amj then Km n ⟨4,0,⟨#[]⟩⟩
 else if line.data.toList=Xr then some ((Ri n).1,Ym (Ri n).2)
 else Q4 n (Li n line.data.toList)
theorem Bdi {line:ByteArray} (h:(Gp line).length=1):Gp line=[line.data.toList]:=by
 unfold Gp at h ⊢;obtain ⟨r,hr,hi⟩:=Sx 32 line.data.toList;rw [hr,List.length_cons] at h;have hb:=hi.1 (List.length_eq_zero_iff.1 FJ);exact Wo fun c hc e=>hb (e▸hc)
theorem Bb8 {n:Du} {line:ByteArray} (h:(Gp line).length=1):Pv n line=Wr n line:=by
 have hw:=Bdi h;have h0:atW (Gp line) 0=line.data.toList:=by rw [hw];rfl
 unfold Wr
 split
 ·rename_i e;exact Ac2 (by unfold Jf;rw [h0];exact if_pos ⟨e,h⟩)
 ·rename_i e1
  split
  ·rename_i e;exact Ac2 (by unfold Jf;rw [h0,if_neg (fun c=>e1 c.1),if_neg (fun c=>e1 c.1)];exact if_pos ⟨e,h⟩)
  ·rename_i e2;have hs:Jf (Gp line)=none:=by
    unfold Jf;rw [h0,if_neg (fun c=>e1 c.1),if_neg (fun c=>e1 c.1),if_neg (fun c=>e2 c.1)];exact if_pos FJ
   unfold Pv;rw [hs];dsimp only
   split
   ·rfl
   ·first|rfl|rw [if_pos h]
theorem Axj (x:Cs) (line:ByteArray) (v:Value) (F FT:List Nat) (hg:At x.Bl=true):Fn prog 38 [v,.string line] [.isv Df v x F,Hp FT] [] (fun (_:Vp)=>True) (fun u=>.tuple #[.agg u.cs.toArray,.string (rsC x (Wr x.Bl line)).2]) (fun u=>[.isv Df (.agg u.cs.toArray) (rsC x (Wr x.Bl line)).1 u.F]):=by
 refine enter func38 rfl ntmps38 fun w0=>?_;refine Ct ?_;rintro a1 c1 F1 a2 c2 F2 a3 c3 F3 a4 c4 F4 a5 c5 F5 a6 c6 F6 a7 c7 F7 rfl s1 s2 l1 l2 l3 l4 l5 l6 l7;refine Gz x.Bl (a1:=a1) (a2:=a2) (a3:=a3) (a4:=a4) (a5:=a5) (a6:=a6) (a7:=a7) ?_;refine go ?_;intros;refine Ax rfl (fun h1=>?_) (fun h1=>?_)
 ·rw [show Wr x.Bl line=Km x.Bl ⟨1,0,⟨#[]⟩⟩ by unfold Wr;rw [if_pos (show line.data.toList=Ajo from Dw.1 h1)]];have hP:=fun v F=>Rj x ⟨1,0,⟨#[]⟩⟩ false v F FT hg (Nat.zero_le _) FM;generalize rsC x (Km x.Bl ⟨1,0,⟨#[]⟩⟩)=R at hP ⊢;refine go ?_;refine Cb (hP _ _) fun u _=>?_;refine Ct (x:=R.1) ?_;rintro f1 t1 G1 f2 t2 G2 f3 t3 G3 f4 t4 G4 f5 t5 G5 f6 t6 G6 f7 t7 G7 ez s3 s4 - - - - - - -;rw [ez];refine go ?_;refine Ep R.1 s3 s4 (a1:=f1) (c1:=t1) (a2:=f2) (c2:=t2) (a3:=f3) (c3:=t3) (a4:=f4) (c4:=t4) (a5:=f5) (c5:=t5) (a6:=f6) (c6:=t6) (a7:=f7) (c7:=t7) ?_
  exact AE
 refine go ?_;refine Ax rfl (fun h2=>?_) (fun h2=>?_)
 ·rw [show Wr x.Bl line=Km x.Bl ⟨4,0,⟨#[]⟩⟩ by unfold Wr;rw [if_neg (show ¬line.data.toList=Ajo from fun e=>h1 (Dw.2 e)),if_pos (show line.data.toList=Amj from Dw.1 h2)]];have hP:=fun v F=>Rj x ⟨4,0,⟨#[]⟩⟩ true v F FT hg (Nat.zero_le _) FM;generalize rsC x (Km x.Bl ⟨4,0,⟨#[]⟩⟩)=R at hP ⊢;refine go ?_;refine Cb (hP _ _) fun u _=>?_;refine Ct (x:=R.1) ?_;rintro f1 t1 G1 f2 t2 G2 f3 t3 G3 f4 t4 G4 f5 t5 G5 f6 t6 G6 f7 t7 G7 ez s3 s4 - - - - - - -;rw [ez];refine go ?_
  exact BA
 refine go ?_;refine Ax rfl (fun h3=>?_) (fun h3=>?_)
 ·rw [show Wr x.Bl line=some ((Ri x.Bl).1,Ym (Ri x.Bl).2) by unfold Wr;rw [if_neg (show ¬line.data.toList=Ajo from fun e=>h1 (Dw.2 e)),if_neg (show ¬line.data.toList=Amj from fun e=>h2 (Dw.2 e)),if_pos (show line.data.toList=Xr from Dw.1 h3)]];have hP:=fun v F=>Asz x.Bl v F FT hg;have hE:(Ri x.Bl).2.length≤900000000000∧∀e∈(Ri x.Bl).2,e.size≤100:=⟨by have:=Aup hg;omega,fun e he=>by have:=(Zm (Bg6 hg e he)).2;omega⟩;generalize Ri x.Bl=y at hP hE ⊢;obtain ⟨m,E⟩:=y;dsimp only at hP hE ⊢;refine go ?_;refine Cb (hP _ _) fun z _=>?_;refine Hm (x:=m) ?_
  rintro f1 t1 G1 f2 t2 G2 f3 t3 G3 f4 t4 G4 f5 t5 G5 f6 t6 G6 f7 t7 G7 ez - - - - - - -;rw [ez];refine A4 (E:=A8) (xs:=E) fun F8=>?_;refine go ?_;intros;refine Ep (⟨m,x.Lq⟩:Cs) s1 s2 (a1:=f1) (c1:=t1) (a2:=f2) (c2:=t2) (a3:=f3) (c3:=t3) (a4:=f4) (c4:=t4) (a5:=f5) (c5:=t5) (a6:=f6) (c6:=t6) (a7:=f7) (c7:=t7) ?_;exact BS
 have eW:Wr x.Bl line=Q4 x.Bl (Li x.Bl line.data.toList):=by unfold Wr;rw [if_neg (show ¬line.data.toList=Ajo from fun e=>h1 (Dw.2 e)),if_neg (show ¬line.data.toList=Amj from fun e=>h2 (Dw.2 e)),if_neg (show ¬line.data.toList=Xr from fun e=>h3 (Dw.2 e))]
 rw [eW,Ai1];obtain ⟨e1,e2,e3,e4⟩:=Ii hg;obtain ⟨q2,q8,qn,qu,qe,qt⟩:=Qh hg;have hG:=A1.1 hg;have hS:=Lc hG.s;have hW:=Ec.1 (Fs.1 hG.s).1;have hS1:=hS.l;have hb1:=Pb (fun q hq=>(Db (e3 q hq)).1) x.Bl.down.length;have hb2:=Pb (fun q hq=>(Db (e4 q hq)).1) x.Bl.up.length;rw [List.take_length] at hb1 hb2;have z1:=Ack (k:=qd x.Bl.down) FJ;have z2:=Ack (k:=qd x.Bl.up) FJ;have hld:=Acp x.Bl.Ab.Aa;unfold Mi at hld;refine go ?_;refine Ax rfl (fun h4=>?_) (fun h4=>?_)
 ·rw [show Li x.Bl line.data.toList=some (bz (Lib.itoa (Mi x.Bl.Ab.Aa))) by unfold Li;rw [if_pos (show line.data.toList=Adg from Dw.1 h4)]];refine O3 ?_;intros;refine As [1] [7,8] ?_;refine Ds 0 1 2 3 ?_;refine dt 4 ?_;refine dN 5 ?_;refine oC ?_;refine cb (fun w2 s=>Ui x.Bl.Ab.Aa.Ap x.Bl.Ab.Aa.size _ x.Bl.Ab.Aa.Ao.length _ w2 hW.1.1 hW.1.2 FJ) ?_;refine dk ?_;refine dN 6 ?_;refine oC ?_;refine cb (fun w2 st=>Ael (Ci x.Bl.Ab.Aa.Ap x.Bl.Ab.Aa.Ao.length) FJ FJ w2) ?_;refine dk ?_;refine dN 7 ?_;refine oS ?_;refine Tx ?_;refine dtp 8 ?_;refine dd ?_;refine go ?_
  exact AE
 refine go ?_;refine Ax rfl (fun h5=>?_) (fun h5=>?_)
 ·rw [show Li x.Bl line.data.toList=some (bz (Lib.itoa ((qd x.Bl.down:Nat):Int))++⟨#[32]⟩++bz (Lib.itoa ((qd x.Bl.up:Nat):Int))) by unfold Li;rw [if_neg (show ¬line.data.toList=Adg from fun e=>h4 (Dw.2 e)),if_pos (show line.data.toList=Xs from Dw.1 h5)]];refine go ?_;have hP:=fun v F=>Akk x.Bl v F;simp only [show Rq x.Bl=(((qd x.Bl.down:Nat):Int),((qd x.Bl.up:Nat):Int),true) by unfold Rq;rw [hg];rfl] at hP;refine Cb (hP _ _) fun _ _=>?_;refine O3 ?_;intros;refine As [1] [] ?_;refine Ed 0 1 ?_;refine dt 4 ?_;refine dN 2 ?_;refine oC ?_
  refine cb (fun w2 st=>Ael ((qd x.Bl.down:Nat):Int) FJ FJ w2) ?_;refine dk ?_;refine dt 3 ?_ (hy:=Of rfl rfl (by show _+1≤9223372036854775807;omega));refine dN 5 ?_;refine oC ?_;refine cb (fun w2 st=>Ael ((qd x.Bl.up:Nat):Int) FJ FJ w2) ?_;refine dk ?_;refine dt 6 ?_ (hy:=Of rfl rfl LE);refine dN 7 ?_;refine oS ?_;refine dk ?_;refine dt 8 ?_;refine dd ?_;exact DS
 refine go ?_;refine Ax rfl (fun h6=>?_) (fun h6=>?_)
 ·rw [show Li x.Bl line.data.toList=some (if Aad x.Bl then bz Bf3 else bz wNo) by unfold Li;rw [if_neg (show ¬line.data.toList=Adg from fun e=>h4 (Dw.2 e)),if_neg (show ¬line.data.toList=Xs from fun e=>h5 (Dw.2 e)),if_pos (show line.data.toList=Zh from Dw.1 h6)]];refine go ?_;have hP:=fun v F=>Ai9 x.Bl v F;simp only [show Gw x.Bl=(Aad x.Bl,true) by unfold Gw;rw [hg];rfl] at hP;refine Cb (hP _ _) fun _ _=>?_;cases hst:Aad x.Bl
  ·exact DS
  ·exact DS
 ·rw [show Li x.Bl line.data.toList=none by unfold Li;rw [if_neg (show ¬line.data.toList=Adg from fun e=>h4 (Dw.2 e)),if_neg (show ¬line.data.toList=Xs from fun e=>h5 (Dw.2 e)),if_neg (show ¬line.data.toList=Zh from fun e=>h6 (Dw.2 e))]];exact DS
def X3 (n:Du) (w:Bs) (k:Int):Option NR:=if Rb w≠0 then Km n ⟨Rb w,k,⟨#[]⟩⟩ else Q4 n (Ke n w [k])
theorem Akt {n:Du} {w:Bs} {l:List Int} (h:Gj 1 (l.getD 0 0) ((n.An.Ad.length:Int) - 1)=false):Ke n w l=none:=by unfold Ke;rw [h];rfl
theorem Avy {n:Du} {w:Bs} {k:Int} (h:Gj 1 k ((n.An.Ad.length:Int) - 1)=true):Ke n w [k] =
  if w=Ajn∧Uj n k=true then some (Wf ((Q5 n k.toNat).Al.map (·.Ae)))
  else if w=Ajp∧Uj n k=true∧(Q5 n k.toNat).Be=true then some (Aap (Q5 n k.toNat).Aa)
  else none:=by
 rw [Vv (l:=[k]) h];by_cases h1:w=Ajn∧Uj n k=true
 ·rw [if_pos h1,if_pos ⟨h1.1,rfl,h1.2⟩];rfl
 rw [if_neg h1,if_neg (fun e=>h1 ⟨e.1,e.2.2⟩)];by_cases h2:w=Ajp∧Uj n k=true∧(Q5 n k.toNat).Be=true
 ·rw [if_pos h2,if_pos ⟨h2.1,rfl,h2.2⟩];rfl
 rw [if_neg h2,if_neg (fun e=>h2 ⟨e.1,e.2.2⟩),if_neg (fun e=>by cases e.2.1)]
theorem Avz {n:Du} {a b:Int} (h:Gj 1 a ((n.An.Ad.length:Int) - 1)=true):Ke n Od [a,b] =
  if Uj n a=false then (if Cc b then some (Wf (Lw (Qt n a.toNat) b)) else none) else none:=by
 rw [Vv (l:=[a,b]) h,if_neg (fun e=>by cases e.2.1),if_neg (fun e=>by cases e.2.1)];by_cases h1:Uj n a=false
 ·rw [if_pos h1,if_pos ⟨rfl,rfl,h1⟩];rfl
 ·rw [if_neg h1,if_neg (fun e=>h1 e.2.2)]
theorem Aow {n:Du} {w:Bs} {l:List Int} (h:1 < l.length) (h2:¬(w=Od∧l.length=2)):Ke n w l=none:=by
 unfold Ke
 split
 ·rw [if_neg (fun e=>by omega),if_neg (fun e=>by omega),if_neg (fun e=>h2 ⟨e.1,e.2.1⟩)]
 ·rfl
theorem Axh (x:Cs) (w:ByteArray) (k:Int) (v:Value) (F FT:List Nat) (hg:At x.Bl=true):FV 93 [v,.string w,.int .i64 k] [.isv Df v x F,Hp FT] (.string ((Ke x.Bl w.data.toList [k]).getD ⟨#[63]⟩)):=by
 refine enter func93 rfl ntmps93 fun w0=>?_;refine Ct ?_;rintro a1 c1 F1 a2 c2 F2 a3 c3 F3 a4 c4 F4 a5 c5 F5 a6 c6 F6 a7 c7 F7 rfl s1 s2 l1 l2 l3 l4 l5 l6 l7;refine Iu x.Bl.An (a1:=a1) ?_;obtain ⟨e1,e2,e3,e4⟩:=Ii hg;obtain ⟨q2,q8,qn,qu,qe,qt⟩:=Qh hg;have hG:=A1.1 hg;obtain ⟨-,qr, -, -⟩:=Bm.1 hG.l;refine go ?_;intros;refine ce (fun w s=>Ku _ _ _ _) ?_;rw [show (x.Bl.Ac.length:Int)=(x.Bl.An.Ad.length:Int) by rw [qr]];cases hb:Gj 1 k ((x.Bl.An.Ad.length:Int) - 1)
 ·rw [Akt (l:=[k]) hb];exact AA
 have hb0:=hb;unfold Gj at hb0;simp only [Bool.and_eq_true,decide_eq_true_eq] at hb0;rw [Avy hb];obtain ⟨i,rfl⟩:∃i:Nat,k=(i:Int):=⟨k.toNat,FJ⟩;have h5:i < x.Bl.Ac.length:=FJ
 have er:Q5 x.Bl ((i:Int)).toNat=x.Bl.Ac[i]:=by rw [Int.toNat_natCast];exact Hv h5
 rw [er];have hR:=Eb.1 (e2 _ (List.getElem_mem h5));refine go ?_;refine Cb (Pa x.Bl.An (i:Int) _ F1 (H9 hG.t) FJ) fun _ _=>?_;have hLN:Uj x.Bl (i:Int)=Eu x.Bl.An.Ad (i:Int):=rfl;cases hlf:Eu x.Bl.An.Ad (i:Int)
 ·rw [if_neg (fun e=>by rw [hLN,hlf] at e;cases e.2),if_neg (fun e=>by rw [hLN,hlf] at e;cases e.2.1)];exact AA
 rw [hLN,hlf];refine Kg (xs:=x.Bl.Ac) i ?_;rintro h5b b5 o5 a9 c9 F9 a10 c10 F10 e5 l9 l10;rw [e5];refine Ev x.Bl.Ac[i] ?_;refine go ?_;intros;refine Ax rfl (fun hw=>?_) (fun hw=>?_)
 ·rw [if_pos ⟨(Dw.1 hw:w.data.toList=Ajn),rfl⟩];refine go ?_;refine Cb (Akj x.Bl.Ac[i] _ _) fun z _=>?_;obtain ⟨ra,rc,rF⟩:=z;dsimp only;rw [show E8 x.Bl.Ac[i]=(x.Bl.Ac[i].Al.map (·.Ae),true) by unfold E8;rw [e2 _ (List.getElem_mem h5)];rfl];dsimp only;refine A4 (E:=Bb) (xs:=x.Bl.Ac[i].Al.map (·.Ae)) fun F8=>?_;refine go ?_;have hN:∀f∈x.Bl.Ac[i].Al.map (·.Ae),0≤f∧f≤99999:=fun f hf=>by
   obtain ⟨q,hq,rfl⟩:=List.mem_map.1 hf;have:=Bc.1 (Y7 hR hq).1;omega
  have hL:(x.Bl.Ac[i].Al.map (·.Ae)).length≤1000:=by rw [List.length_map];have:=(Dg.1 hR.q).2.1;omega
  have hP:=Alt (x.Bl.Ac[i].Al.map (·.Ae)) ra rc F8 hN hL;refine Cb hP fun _ _=>?_;exact AA
 rw [if_neg (fun e=>hw (Dw.2 e.1))];by_cases hw2:w=⟨#[115,108,111,116,115]⟩
 ·have hw3:w.data.toList=Ajp:=Dw.1 hw2;refine go ?_;rw [show decide (w=⟨#[115,108,111,116,115]⟩)=true from decide_eq_true hw2];cases hst:x.Bl.Ac[i].Be
  ·rw [if_neg (fun e=>by cases e.2.2)];exact AA
  rw [if_pos ⟨hw3,rfl,rfl⟩];refine B4 x.Bl.Ac[i].Aa (a1:=a9) ?_;refine go ?_;refine Cb (Aw0 x.Bl.Ac[i].Aa _ F9 FT hR.w) fun _ _=>?_;exact AA
 ·rw [if_neg (fun e=>hw2 (Dw.2 e.1))];refine go ?_;rw [show decide (w=⟨#[115,108,111,116,115]⟩)=false from decide_eq_false hw2];exact AA
theorem As3 (x:Cs) (p q:Int) (v:Value) (F:List Nat) (hg:At x.Bl=true):FV 42 [v,.int .i64 p,.int .i64 q] [.isv Df v x F] (.string ((Ke x.Bl Od [p,q]).getD ⟨#[63]⟩)):=by
 refine enter func42 rfl ntmps42 fun w0=>?_;refine Ct ?_;rintro a1 c1 F1 a2 c2 F2 a3 c3 F3 a4 c4 F4 a5 c5 F5 a6 c6 F6 a7 c7 F7 rfl s1 s2 l1 l2 l3 l4 l5 l6 l7;refine Iu x.Bl.An (a1:=a1) ?_;obtain ⟨e1,e2,e3,e4⟩:=Ii hg;obtain ⟨q2,q8,qn,qu,qe,qt⟩:=Qh hg;have hG:=A1.1 hg;obtain ⟨-,qr, -, -⟩:=Bm.1 hG.l;refine go ?_;intros;refine ce (fun w s=>Ku _ _ _ _) ?_;rw [show (x.Bl.Af.length:Int)=(x.Bl.An.Ad.length:Int) by rw [qe]];cases hb:Gj 1 p ((x.Bl.An.Ad.length:Int) - 1)
 ·rw [Akt (l:=[p,q]) hb];exact AA
 have hb0:=hb;unfold Gj at hb0;simp only [Bool.and_eq_true,decide_eq_true_eq] at hb0;rw [Avz hb];obtain ⟨i,rfl⟩:∃i:Nat,p=(i:Int):=⟨p.toNat,FJ⟩;have hie:i < x.Bl.Af.length:=FJ
 have er:Qt x.Bl ((i:Int)).toNat=x.Bl.Af[i]:=by rw [Int.toNat_natCast];exact J3 hie
 rw [er];refine go ?_;refine Cb (Pa x.Bl.An (i:Int) _ F1 (H9 hG.t) FJ) fun _ _=>?_;have hLN:Uj x.Bl (i:Int)=Eu x.Bl.An.Ad (i:Int):=rfl;cases hlf:Eu x.Bl.An.Ad (i:Int)
 rotate_left
 ·rw [hLN,hlf,if_neg FM];exact AA
 rw [hLN,hlf,if_pos rfl];have hgE:=e1 _ (List.getElem_mem hie);have hfn:=Ak8 hgE q;refine Qb (xs:=x.Bl.Af) i ?_;rintro h5b b5 o5 a9 c9 F9 e5 l9;rw [e5];refine Nr x.Bl.Af[i] ?_;refine go ?_;refine Cb (Ai8 x.Bl.Af[i] q _ _) fun z _=>?_;obtain ⟨fa,fc,fF⟩:=z;dsimp only;cases hs:Cc q
 ·rw [show Gm x.Bl.Af[i] q=([],false) by unfold Gm;rw [hs,Bool.and_false];rfl];exact AA
 rw [show Gm x.Bl.Af[i] q=(Lw x.Bl.Af[i] q,true) by unfold Gm;rw [hs,hgE];rfl] at hfn ⊢;dsimp only at hfn ⊢;refine A4 (E:=Bb) (xs:=Lw x.Bl.Af[i] q) fun F8=>?_;refine go ?_;have hP:=Alt (Lw x.Bl.Af[i] q) fa fc F8 hfn.1 hfn.2;refine Cb hP fun _ _=>?_;exact AA
theorem Axi (x:Cs) (w:ByteArray) (k:Int) (v:Value) (F FT:List Nat) (hg:At x.Bl=true):Fn prog 41 [v,.string w,.int .i64 k] [.isv Df v x F,Hp FT] [] (fun (_:Vp)=>True) (fun u=>.tuple #[.agg u.cs.toArray,.string (rsC x (X3 x.Bl w.data.toList k)).2]) (fun u=>[.isv Df (.agg u.cs.toArray) (rsC x (X3 x.Bl w.data.toList k)).1 u.F]):=by
 refine enter func41 rfl ntmps41 fun w0=>?_;refine Ct ?_;rintro a1 c1 F1 a2 c2 F2 a3 c3 F3 a4 c4 F4 a5 c5 F5 a6 c6 F6 a7 c7 F7 rfl s1 s2 l1 l2 l3 l4 l5 l6 l7;refine Gz x.Bl (a1:=a1) (a2:=a2) (a3:=a3) (a4:=a4) (a5:=a5) (a6:=a6) (a7:=a7) ?_;refine go ?_;intros;refine Ax rfl (fun h1=>?_) (fun h1=>?_)
 ·rw [show X3 x.Bl w.data.toList k=Km x.Bl ⟨2,k,⟨#[]⟩⟩ by rw [(Dw.1 h1:w.data.toList=_)];rfl];have hP:=fun v F=>Rj x ⟨2,k,⟨#[]⟩⟩ true v F FT hg (Nat.zero_le _) (by show _=decide ((2:Int)=2∨(2:Int)=4);decide);generalize rsC x (Km x.Bl ⟨2,k,⟨#[]⟩⟩)=R at hP ⊢;refine go ?_;refine Cb (hP _ _) fun u _=>?_;refine Ct (x:=R.1) ?_;rintro f1 t1 G1 f2 t2 G2 f3 t3 G3 f4 t4 G4 f5 t5 G5 f6 t6 G6 f7 t7 G7 ez s3 s4 - - - - - - -;rw [ez];refine go ?_;refine Ep R.1 s3 s4 (a1:=f1) (c1:=t1) (a2:=f2) (c2:=t2) (a3:=f3) (c3:=t3) (a4:=f4) (c4:=t4) (a5:=f5) (c5:=t5) (a6:=f6) (c6:=t6) (a7:=f7) (c7:=t7) ?_
  exact AE
 refine go ?_;refine Ax rfl (fun h2=>?_) (fun h2=>?_)
 ·rw [show X3 x.Bl w.data.toList k=Km x.Bl ⟨5,k,⟨#[]⟩⟩ by rw [(Dw.1 h2:w.data.toList=_)];rfl];have hP:=fun v F=>Rj x ⟨5,k,⟨#[]⟩⟩ false v F FT hg (Nat.zero_le _) (by show _=decide ((5:Int)=2∨(5:Int)=4);decide);generalize rsC x (Km x.Bl ⟨5,k,⟨#[]⟩⟩)=R at hP ⊢;refine go ?_;refine Cb (hP _ _) fun u _=>?_;refine Ct (x:=R.1) ?_;rintro f1 t1 G1 f2 t2 G2 f3 t3 G3 f4 t4 G4 f5 t5 G5 f6 t6 G6 f7 t7 G7 ez s3 s4 - - - - - - -;rw [ez];refine go ?_;refine Ep R.1 s3 s4 (a1:=f1) (c1:=t1) (a2:=f2) (c2:=t2) (a3:=f3) (c3:=t3) (a4:=f4) (c4:=t4) (a5:=f5) (c5:=t5) (a6:=f6) (c6:=t6) (a7:=f7) (c7:=t7) ?_
  exact AE
 refine go ?_;refine Ax rfl (fun h3=>?_) (fun h3=>?_)
 ·rw [show X3 x.Bl w.data.toList k=Km x.Bl ⟨3,k,⟨#[]⟩⟩ by rw [(Dw.1 h3:w.data.toList=_)];rfl];have hP:=fun v F=>Rj x ⟨3,k,⟨#[]⟩⟩ false v F FT hg (Nat.zero_le _) (by show _=decide ((3:Int)=2∨(3:Int)=4);decide);generalize rsC x (Km x.Bl ⟨3,k,⟨#[]⟩⟩)=R at hP ⊢;refine go ?_;refine Cb (hP _ _) fun u _=>?_;refine Ct (x:=R.1) ?_;rintro f1 t1 G1 f2 t2 G2 f3 t3 G3 f4 t4 G4 f5 t5 G5 f6 t6 G6 f7 t7 G7 ez s3 s4 - - - - - - -;rw [ez];refine go ?_;refine Ep R.1 s3 s4 (a1:=f1) (c1:=t1) (a2:=f2) (c2:=t2) (a3:=f3) (c3:=t3) (a4:=f4) (c4:=t4) (a5:=f5) (c5:=t5) (a6:=f6) (c6:=t6) (a7:=f7) (c7:=t7) ?_
  exact AE
 refine go ?_;refine Ax rfl (fun h4=>?_) (fun h4=>?_)
 ·rw [show X3 x.Bl w.data.toList k=Km x.Bl ⟨6,k,⟨#[]⟩⟩ by rw [(Dw.1 h4:w.data.toList=_)];rfl];have hP:=fun v F=>Rj x ⟨6,k,⟨#[]⟩⟩ false v F FT hg (Nat.zero_le _) (by show _=decide ((6:Int)=2∨(6:Int)=4);decide);generalize rsC x (Km x.Bl ⟨6,k,⟨#[]⟩⟩)=R at hP ⊢;refine go ?_;refine Cb (hP _ _) fun u _=>?_;refine Ct (x:=R.1) ?_;rintro f1 t1 G1 f2 t2 G2 f3 t3 G3 f4 t4 G4 f5 t5 G5 f6 t6 G6 f7 t7 G7 ez s3 s4 - - - - - - -;rw [ez];refine go ?_;refine Ep R.1 s3 s4 (a1:=f1) (c1:=t1) (a2:=f2) (c2:=t2) (a3:=f3) (c3:=t3) (a4:=f4) (c4:=t4) (a5:=f5) (c5:=t5) (a6:=f6) (c6:=t6) (a7:=f7) (c7:=t7) ?_
  exact AE
 have eN:X3 x.Bl w.data.toList k=Q4 x.Bl (Ke x.Bl w.data.toList [k]):=by
  unfold X3 Rb;rw [if_neg (show ¬w.data.toList=Aro from fun e=>h1 (Dw.2 e)),if_neg (show ¬w.data.toList=wUp from fun e=>h2 (Dw.2 e)),if_neg (show ¬w.data.toList=Arp from fun e=>h3 (Dw.2 e)),if_neg (show ¬w.data.toList=Bdd from fun e=>h4 (Dw.2 e))];rfl
 rw [eN,Ai1];refine O3 ?_;intros;refine As [1] [] ?_;refine Ds 0 1 2 3 ?_;refine dN 4 ?_;refine oC ?_;refine Cb (Axh x w k _ _ FT hg) fun _ _=>?_;refine dk ?_;refine dN 5 ?_;refine oS ?_;refine dk ?_;refine dt 6 ?_;refine dd ?_;exact DS
theorem Anq {n:Du} {line:ByteArray} {ws:List ByteArray} (hW:wsL ws=Gp line) (h0:1 < ws.length):Pv n line=match Jf (wsL ws) with
  | some s=>Km n s
  | none=>if Sr (ws.drop 1) then Q4 n (Ke n (ws[0]).data.toList (Kk (ws.drop 1))) else none:=by
 have hl:(wsL ws).length=ws.length:=by unfold wsL;rw [List.length_map]
 have hd:¬line.data.toList=Xr:=fun e=>by
  have h2:Gp line=[Xr]:=by unfold Gp;rw [e];rfl
  rw [←hW] at h2;rw [h2] at hl;simp at hl;omega
 have hdr:((wsL ws).drop 1).map bz=ws.drop 1:=by
  unfold wsL;rw [←List.map_drop,List.map_map];exact (List.map_congr_left fun x _=>Yi x).trans (List.map_id _)
 unfold Pv;rw [←hW];cases Jf (wsL ws) with
 | some s=>rfl
 | none =>
  dsimp only;rw [if_neg hd,if_neg FJ,hdr,show atW (wsL ws) 0=(ws[0]).data.toList from Ti FJ]
theorem Bb7 {n:Du} {line:ByteArray} {ws:List ByteArray} (hW:wsL ws=Gp line) (h1:1 < ws.length) (h:(ws[0]'FJ)=⟨#[115,101,110,100]⟩) (hn:ws.length=2) (he:¬ws[1]=⟨#[]⟩):Pv n line=Km n ⟨1,0,ws[1]⟩:=by
 rw [Anq hW h1,Af0 h1 h hn he]
theorem Bb5 {n:Du} {line:ByteArray} {ws:List ByteArray} (hW:wsL ws=Gp line) (h:3 < ws.length):Pv n line=none:=by
 rw [Anq hW FJ,Zd FJ (fun _ e=>by omega) FJ];dsimp only
 split
 ·rw [Aow (by unfold Kk;rw [List.length_map,List.length_drop];omega) (fun e=>by have:=e.2;unfold Kk at this;rw [List.length_map,List.length_drop] at this;omega)];rfl
 ·rfl
theorem Avg {n:Du} {line:ByteArray} {ws:List ByteArray} (hW:wsL ws=Gp line) (h1:1 < ws.length) (hn:ws.length=2) (hs:¬((ws[0]'FJ)=⟨#[115,101,110,100]⟩∧¬ws[1]=⟨#[]⟩)):Pv n line=if (C5 ws[1]).2=true then X3 n (ws[0]'FJ).data.toList (C5 ws[1]).1 else none:=by
 rw [Anq hW h1,Amc h1 hn hs]
 match ws,hn with
 | [a,b],_ =>
  show (match (if Rb a.data.toList≠0∧(C5 b).2=true then some (⟨Rb a.data.toList,(C5 b).1,⟨#[]⟩⟩:Kq) else none) with
   | some s=>Km n s
   | none=>if Sr [b] then Q4 n (Ke n a.data.toList (Kk [b])) else none)=if (C5 b).2=true then X3 n a.data.toList (C5 b).1 else none
  have ho:Sr [b]=(C5 b).2:=by unfold Sr;simp
  have hv:Kk [b]=[(C5 b).1]:=rfl;rw [ho,hv];unfold X3;by_cases hk:Rb a.data.toList≠0
  ·cases hp:(C5 b).2
   ·rw [if_neg (fun e=>by cases e.2)];rfl
   ·rw [if_pos ⟨hk,rfl⟩,if_pos hk];rfl
  ·rw [if_neg (fun e=>hk e.1),if_neg hk]
theorem Al8 {n:Du} {line:ByteArray} {ws:List ByteArray} (hW:wsL ws=Gp line) (h1:1 < ws.length) (h2:2 < ws.length) (hn:ws.length=3):Pv n line=if (C5 ws[1]).2=true∧(C5 ws[2]).2=true∧(ws[0]'FJ).data.toList=Od then Q4 n (Ke n Od [(C5 ws[1]).1,(C5 ws[2]).1]) else none:=by
 rw [Anq hW h1,Zd FJ (fun _ e=>by omega) FJ]
 match ws,hn with
 | [a,b,c],_ =>
  show (if Sr [b,c] then Q4 n (Ke n a.data.toList (Kk [b,c])) else none)=if (C5 b).2=true∧(C5 c).2=true∧a.data.toList=Od then Q4 n (Ke n Od [(C5 b).1,(C5 c).1]) else none
  have ho:Sr [b,c]=((C5 b).2 && (C5 c).2):=by unfold Sr;simp
  have hv:Kk [b,c]=[(C5 b).1,(C5 c).1]:=rfl;rw [ho,hv];by_cases hf:a.data.toList=Od
  ·rw [hf];cases (C5 b).2
   ·rw [if_neg (show ¬(false=true∧(C5 c).2=true∧Od=Od) from fun e=>by cases e.1)];rfl
   cases (C5 c).2
   ·rw [if_neg (show ¬(true=true∧false=true∧Od=Od) from fun e=>by cases e.2.1)];rfl
   rw [if_pos (show true=true∧true=true∧Od=Od from ⟨rfl,rfl,rfl⟩)];rfl
  ·rw [if_neg (show ¬((C5 b).2=true∧(C5 c).2=true∧a.data.toList=Od) from fun e=>hf e.2.2),Aow FK (fun e=>hf e.1)];cases (C5 b).2 <;> cases (C5 c).2 <;> rfl
theorem Zb (s:ByteArray) (hs:s.size≤1000000000):FV 40 [.string s] [] (.tuple #[.int .i64 (C5 s).1,.bool (C5 s).2]):=by
 refine enter func40 rfl ntmps40 fun w0=>?_;refine go ?_;refine Cb (Bax s hs) fun _ _=>?_;exact AA
theorem Ba0 (x:Cs) (line:ByteArray) (v:Value) (F FT:List Nat) (hg:At x.Bl=true) (hl:line.size≤900):Fn prog 16 [v,.string line] [.isv Df v x F,Hp FT] [] (fun (_:Vp)=>True) (fun u=>.tuple #[.agg u.cs.toArray,.string (rsC x (Pv x.Bl line)).2]) (fun u=>[.isv Df (.agg u.cs.toArray) (rsC x (Pv x.Bl line)).1 u.F]):=by
 obtain ⟨hw0,hwl,hws⟩:=Aml line;refine enter func16 rfl ntmps16 fun w0=>?_;refine Ct ?_;rintro a1 c1 F1 a2 c2 F2 a3 c3 F3 a4 c4 F4 a5 c5 F5 a6 c6 F6 a7 c7 F7 rfl s1 s2 l1 l2 l3 l4 l5 l6 l7;refine Gz x.Bl (a1:=a1) (a2:=a2) (a3:=a3) (a4:=a4) (a5:=a5) (a6:=a6) (a7:=a7) ?_;refine go ?_;intros;refine Cb (Alq line 32 FJ) fun q _=>?_;obtain ⟨qa,qc,qF⟩:=q;dsimp only;rw [show (Ee 32 line.data.toList).map bz=Vm line from rfl];generalize hwd:Vm line=ws at *;have hWL:wsL ws=Gp line:=by rw [←hwd];exact Amm line
 refine A4 (E:=A8) (xs:=ws) fun F8=>?_;refine go ?_;refine Ax rfl (fun h1=>?_) (fun h1=>?_)
 ·have hr:=Bb8 (n:=x.Bl) (line:=line) (by rw [←hWL];unfold wsL;rw [List.length_map];omega);rw [hr];have hP:=fun v F=>Axj x line v F FT hg;generalize rsC x (Wr x.Bl line)=R at hP ⊢;refine go ?_;refine Cb (hP _ _) fun u _=>?_;refine Ct (x:=R.1) ?_;rintro f1 t1 G1 f2 t2 G2 f3 t3 G3 f4 t4 G4 f5 t5 G5 f6 t6 G6 f7 t7 G7 ez s3 s4 - - - - - - -;rw [ez];refine go ?_;exact BA
 have hi1:1 < ws.length:=FJ
 have hs1:=hws _ (List.getElem_mem hi1);refine Nq (xs:=ws) 0 ?_;rintro hi0 b0 o0 rfl s0;refine Nq (xs:=ws) 1 ?_;rintro - b1 o1 e9 s9;cases e9;apply Q7;refine E4 [2,4,5,6,7] [0,1,2,3,4,5,6,7,8,9,10,11,12,13,14] (fun b:Bool=>[(24,.bool b)]) (fun _=>[]) (fun b=>b=decide (ws[0]=⟨#[115,101,110,100]⟩∧ws.length=2∧¬ws[1]=⟨#[]⟩)) ?_ fun b hb9=>?_
 ·by_cases hs:ws[0]=⟨#[115,101,110,100]⟩
  ·refine go ?_;rw [show decide (ws[0]=⟨#[115,101,110,100]⟩)=true from decide_eq_true hs];refine go ?_;by_cases hn:ws.length=2
   ·rw [show decide ((ws.length:Int)=2)=true from decide_eq_true FJ];refine go ?_;refine Bt (decide (¬ws[1]=⟨#[]⟩)) ?_;simp [hs,hn]
   ·rw [show decide ((ws.length:Int)=2)=false from decide_eq_false FJ];refine go ?_;refine Bt false ?_;simp [hn]
  ·refine go ?_;rw [show decide (ws[0]=⟨#[115,101,110,100]⟩)=false from decide_eq_false hs];refine go ?_;refine Bt false ?_;simp [hs]
 subst hb9;by_cases hc:ws[0]=⟨#[115,101,110,100]⟩∧ws.length=2∧¬ws[1]=⟨#[]⟩
 ·rw [decide_eq_true hc];rw [Bb7 hWL hi1 hc.1 hc.2.1 hc.2.2];have hP:=fun v F=>Rj x ⟨1,0,ws[1]⟩ false v F FT hg (show (ws[1]).size≤maxLen by unfold maxLen;omega) (by show _=decide ((1:Int)=2∨(1:Int)=4);decide);generalize rsC x (Km x.Bl ⟨1,0,ws[1]⟩)=R at hP ⊢;refine O3 ?_;intros;refine As [0,4] [] ?_;refine Ds 0 1 2 3 ?_;refine dt 4 ?_;refine dN 5 ?_;refine oC ?_;refine Cb (hP _ _) fun u _=>?_;refine Ct (x:=R.1) ?_;rintro f1 t1 G1 f2 t2 G2 f3 t3 G3 f4 t4 G4 f5 t5 G5 f6 t6 G6 f7 t7 G7 ez s3 s4 - - - - - - -;rw [ez];refine dk ?_;refine Ed 6 7 ?_;refine dN 8 ?_;refine oS ?_;refine dk ?_
  refine dt 9 ?_;refine dd ?_;refine go ?_;exact BA
 rw [decide_eq_false hc];refine go ?_;refine Ax rfl (fun h3=>?_) (fun h3=>?_)
 ·rw [Bb5 hWL FJ];exact DS
 refine go ?_;refine Cb (Zb ws[1] FJ) fun _ _=>?_;cases hp:(C5 ws[1]).2
 ·have hr:Pv x.Bl line=none:=by
   by_cases hn:ws.length=2
   ·rw [Avg hWL hi1 hn (fun e=>hc ⟨e.1,hn,e.2⟩),hp];rfl
   ·rw [Al8 hWL hi1 FJ FJ,hp,if_neg (fun e=>by cases e.1)]
  rw [hr];exact DS
 refine go ?_;refine Ax rfl (fun h2=>?_) (fun h2=>?_)
 ·have hn:ws.length=2:=FJ
  rw [Avg hWL hi1 hn (fun e=>hc ⟨e.1,hn,e.2⟩),hp,if_pos rfl];have hP:=fun v F=>Axi x ws[0] (C5 ws[1]).1 v F FT hg;generalize rsC x (X3 x.Bl (ws[0]).data.toList (C5 ws[1]).1)=R at hP ⊢;refine O3 ?_;intros;refine As [1,4] [] ?_;refine Ds 0 1 2 3 ?_;refine dt 4 ?_;refine dN 5 ?_;refine oC ?_;refine Cb (hP _ _) fun u _=>?_;refine Ct (x:=R.1) ?_;rintro f1 t1 G1 f2 t2 G2 f3 t3 G3 f4 t4 G4 f5 t5 G5 f6 t6 G6 f7 t7 G7 ez s3 s4 - - - - - - -;rw [ez];refine dk ?_;refine Ed 6 7 ?_;refine dN 8 ?_;refine oS ?_;refine dk ?_;refine dt 9 ?_;refine dd ?_;refine go ?_
  exact BA
 have hn:ws.length=3:=FJ
 have hi2:2 < ws.length:=FJ
 have hs2:=hws _ (List.getElem_mem hi2);rw [Al8 hWL hi1 hi2 hn,hp];refine Nq (xs:=ws) 2 ?_;rintro - b2 o2 e9 s8;cases e9;refine go ?_;refine Cb (Zb ws[2] FJ) fun _ _=>?_;cases hp2:(C5 ws[2]).2
 ·rw [if_neg (fun e=>by cases e.2.1)];exact DS
 by_cases hf:ws[0]=⟨#[102,97,99,101,115]⟩
 ·rw [if_pos ⟨rfl,rfl,(Dw.1 hf:(ws[0]).data.toList=Od)⟩,Ai1];refine go ?_;rw [show decide (¬ws[0]=⟨#[102,97,99,101,115]⟩)=false from decide_eq_false (fun h=>h hf)];refine O3 ?_;intros;refine As [5] [] ?_;refine Ds 0 1 2 3 ?_;refine dN 4 ?_;refine oC ?_;refine Cb (As3 x (C5 ws[1]).1 (C5 ws[2]).1 _ _ hg) fun _ _=>?_;refine dk ?_;refine dN 5 ?_;refine oS ?_;refine dk ?_;refine dt 6 ?_;refine dd ?_;exact DS
 ·rw [if_neg (fun e=>hf (Dw.2 e.2.2))];refine go ?_;rw [show decide (¬ws[0]=⟨#[102,97,99,101,115]⟩)=true from decide_eq_true hf];exact DS
theorem Bfl {x:Cs} {line:ByteArray}:rsC x (Pv x.Bl line)=(⟨Ic x.Bl line,x.Lq⟩,Q6 x.Bl line):=by
 unfold rsC Ic Q6;cases Pv x.Bl line <;> rfl
theorem Ayg (l:Log) (line Hh:ByteArray) (w:World) (hv:Kv l.C2.data.toList l.pending.data.toList l.count=true) (hc:¬l.count=60) (hr:Lg.Bx line Hh=true) (hz:l.C2.size+l.pending.size≤30000) (h1:line.size≤160) (h2:Hh.size≤200) :
  Calls prog 17 #[.agg #[.string l.C2,.string l.pending,.int .i64 l.count],.agg #[.string line,.string Hh]] w (RB (.tuple #[.agg #[.string (Tc l line Hh).C2,.string (Tc l line Hh).pending,.int .i64 (Tc l line Hh).count],.int .i64 0]) w):=by
 have hcn:=Lg.Af4 hv;obtain ⟨k,hk⟩:∃k:Nat,l.count=k:=⟨l.count.toNat,FJ⟩;have h:=(Ayh l.C2 l.pending line Hh k (by rw [←hk];exact hv) FJ hr hz h1 h2).val w nofun;rw [←hk] at h;unfold Tc;rw [show k=l.count.toNat by omega] at h;exact h
theorem Za (x:Cs) (line:ByteArray) (v:Value) (F FT:List Nat) (hs:Vd x.Bl) (hz:x.Lq.C2.size+x.Lq.pending.size≤1048576) (hl:line.size≤maxLen):Fn prog 5 [v,.string line] [.isv Df v x F,Hp FT] [] (fun (_:Vp)=>True) (fun u=>.tuple #[.agg u.cs.toArray,.string (Fg x line).2]) (fun u=>[.isv Df (.agg u.cs.toArray) (Fg x line).1 u.F]):=by
 refine enter func5 rfl ntmps5 fun w0=>?_;refine Ct ?_;rintro a1 c1 F1 a2 c2 F2 a3 c3 F3 a4 c4 F4 a5 c5 F5 a6 c6 F6 a7 c7 F7 rfl s1 s2 l1 l2 l3 l4 l5 l6 l7;refine Gz x.Bl (a1:=a1) (a2:=a2) (a3:=a3) (a4:=a4) (a5:=a5) (a6:=a6) (a7:=a7) ?_;refine go ?_;intros;refine Cb (Apy x _ F hs) fun u0 _=>?_;refine Ct (x:=x) ?_;rintro f1 t1 G1 f2 t2 G2 f3 t3 G3 f4 t4 G4 f5 t5 G5 f6 t6 G6 f7 t7 G7 ez - - - - - - - - -;rw [ez];refine go ?_;intros;refine Cb (Axg x _ F hz) fun _ _=>?_;unfold Fg;cases hg:Ks x
 ·rw [if_neg FM];exact BK
 rw [if_pos rfl];have hgn:At x.Bl=true:=by unfold Ks at hg;rw [Bool.and_eq_true] at hg;exact hg.1
 have hgl:Kv x.Lq.C2.data.toList x.Lq.pending.data.toList x.Lq.count=true:=by unfold Ks at hg;rw [Bool.and_eq_true] at hg;exact hg.2
 have hsz:=Agk hg;refine go ?_;refine cb (fun w st=>Lg.Zr line ⟨#[]⟩ w hl (Nat.zero_le _)) ?_;rw [show Lg.Bx line ⟨#[]⟩=Vh line from rfl];cases h1:Vh line
 ·have e:Vn x line=(x,bz Bh9):=by unfold Vn;rw [h1];rfl
  rw [e];exact BK
 refine go ?_;refine Ax rfl (fun h2=>?_) (fun h2=>?_)
 ·have e:Vn x line=(x,bz Bde):=by unfold Vn;rw [h1,if_pos rfl,if_pos h2]
  rw [e];exact BK
 have hlz:line.size≤160:=by
  have h:=h1;unfold Vh Lg.Bx Gj at h;simp only [Bool.and_eq_true,decide_eq_true_eq] at h;have:=h.1.1.1.1.2;omega
 rw [Asj ⟨h1,h2⟩];have ht:=Ar8 (Atp (line:=line) hgn);have hgr:=Aa9 h1 ht.1 ht.2;have hgm:=Al7 (line:=line) hgn;refine Ep x s1 s2 (a1:=f1) (c1:=t1) (a2:=f2) (c2:=t2) (a3:=f3) (c3:=t3) (a4:=f4) (c4:=t4) (a5:=f5) (c5:=t5) (a6:=f6) (c6:=t6) (a7:=f7) (c7:=t7) ?_;refine go ?_;refine Cb (Ba0 x line _ _ FT hgn FJ) fun u _=>?_;rw [Bfl];dsimp only;refine Ct (x:=(⟨Ic x.Bl line,x.Lq⟩:Cs)) ?_;rintro g1 u1 K1 g2 u2 K2 g3 u3 K3 g4 u4 K4 g5 u5 K5 g6 u6 K6 g7 u7 K7 ez - - - - - - - - -;rw [ez];refine go ?_;intros;refine Cb (Apy ⟨Ic x.Bl line,x.Lq⟩ _ _ (Aaq hgm)) fun u1 _=>?_
 refine Ct (x:=(⟨Ic x.Bl line,x.Lq⟩:Cs)) ?_;rintro b1 d1 L1 b2 d2 L2 b3 d3 L3 b4 d4 L4 b5 d5 L5 b6 d6 L6 b7 d7 L7 ez - - - - - - - - -;rw [ez];refine go ?_;refine E4 [1,2,4,5,6] [0,1,2,3,4,5,6,18,27,28,37,38] (fun _:Unit=>[(8,.string (Tl (Q6 x.Bl line)))]) (fun _=>[]) (fun _=>True) ?_ fun _ _=>?_
 ·refine Ax rfl (fun h5=>?_) (fun h5=>?_)
  ·have e:Tl (Q6 x.Bl line)=bz Bdf:=by unfold Tl;rw [if_pos FJ]
   rw [e];exact CO
  ·have e:Tl (Q6 x.Bl line)=Q6 x.Bl line:=by unfold Tl;rw [if_neg FJ]
   rw [e];exact CO
 refine go ?_;refine cb (fun w st=>Ayg x.Lq line (Tl (Q6 x.Bl line)) w hgl h2 hgr hsz hlz ht.2) ?_;have hcg:=Agk (Ahr (line:=line) hg);rw [Asj ⟨h1,h2⟩] at hcg;dsimp only at hcg;refine go ?_;refine Ep (⟨Ic x.Bl line,Tc x.Lq line (Tl (Q6 x.Bl line))⟩:Cs) (show (Tc x.Lq line (Tl (Q6 x.Bl line))).C2.size≤maxLen by unfold maxLen;omega) (show (Tc x.Lq line (Tl (Q6 x.Bl line))).pending.size≤maxLen by unfold maxLen;omega) (a1:=b1) (c1:=d1) (a2:=b2) (c2:=d2) (a3:=b3) (c3:=d3) (a4:=b4) (c4:=d4) (a5:=b5) (c5:=d5) (a6:=b6) (c6:=d6) (a7:=b7) (c7:=d7) ?_;exact AE
end Go.Proofs.YtkblpelckhegbaaGreatDoor
namespace Go.Proofs.YtkblpelckhegbaaGreatDoor

theorem Abu {α:Type} {f:α→Nat} {x:α}:∀{xs:List α},x∈xs→f x≤Kn f xs
 | y::r,h=>by
  have e:Kn f (y::r)=f y+1+Kn f r:=by unfold Kn;simp;omega
  rw [e];rcases List.mem_cons.1 h with rfl|h
  ·omega
  ·have:=Abu (f:=f) h;omega
theorem Rw {α:Type} {f:α→Nat} {xs:List α}:xs.length≤Kn f xs:=by unfold Kn;omega
theorem Afy {n:Du} (h:Zj n≤1048576):Vd n:=by
 unfold Zj Oe Ko Jw at h;have h1:=Rw (f:=fun _:Int=>0) (xs:=n.An.Ad);have h2:=Rw (f:=ByteArray.size) (xs:=n.Ab.Aa.Ao);have h3:=Rw (f:=fun _:Hz=>0) (xs:=n.Ab.holds);have h4:=Rw (f:=E9) (xs:=n.Af);have h5:=Rw (f:=Gg) (xs:=n.Ac);have h6:=Rw (f:=Kn Ej) (xs:=n.down);have h7:=Rw (f:=Kn Ej) (xs:=n.up)
 exact {
  t:=FJ
  i:=FJ
  h:=FJ
  e:=FJ
  e1:=fun x hx=>by
   have a:=Abu (f:=E9) hx;have b:=Rw (f:=M5) (xs:=x.Ah);unfold E9 at a h;omega
  e2:=fun x hx y hy=>by
   have a:=Abu (f:=E9) hx;have b:=Abu (f:=M5) hy;have c:=Rw (f:=fun _:Int=>0) (xs:=y.Bj);have d:M5 y=Kn (fun _=>0) y.Bj:=rfl;have e:E9 x=Kn M5 x.Ah:=rfl;omega
  rl:=FJ
  r:=fun x hx=>by
   have a:=Abu (f:=Gg) hx;have b:=Rw (f:=Rv) (xs:=x.Aa.Am);have c:=Rw (f:=fun _:Ay=>0) (xs:=x.Al);have d:Gg x=Kn Rv x.Aa.Am+Kn (fun _=>0) x.Al:=rfl;omega
  d:=FJ
  dq:=fun q hq=>by
   have a:=Abu (f:=Kn Ej) hq;have b:=Rw (f:=Ej) (xs:=q);omega
  u:=FJ
  uq:=fun q hq=>by
   have a:=Abu (f:=Kn Ej) hq;have b:=Rw (f:=Ej) (xs:=q);omega }
theorem Asn {c:Cs} (h:Ks c=true):Ja c≤4294967296:=by
 unfold Ks at h;rw [Bool.and_eq_true] at h;have:=Aso h.1;unfold Ja;omega
theorem Bec {c:Cs} (line:ByteArray) (h:Ja c≤4294967296):Ja (Fg c line).1≤4294967296:=by
 unfold Fg
 split
 ·exact Asn (Ahr GI)
 ·exact h
theorem Y8 (x0:Cs) (x1:ByteArray) (h0:N9 x0≤1048576) (_h1:x1.size≤1048576):Ja (Fg x0 x1).1≤4294967296:=Bec x1 (Ab5 x0 h0)
end Go.Proofs.YtkblpelckhegbaaGreatDoor
namespace Go.Proofs.YtkblpelckhegbaaGreatDoor
open Go.ChangeShapes Go.WideShapes Go.ChangeAt Go.RowKit
theorem Aar {H:Type} {enc:TypeId × Value→H} {P:Program} (hl:laidOutB P=true) {W W':World} (hb:Below W.heap.size W W') :
  ∀(ts:List TypeId) (vs:List Value) (ds:List (DataW H)) (ps:List MemPlace),(∀t∈ts,P.readableRec t=true∧t < P.types.size) →
   DataW.TrodAll enc P W 0 (fun _=>true) true ts vs ds ps→(∀x∈ps,x.block < W.heap.size)→DataW.TrodAll enc P W' 0 (fun b=>decide (b < W.heap.size)) true ts vs ds ps
 | [],vs,ds,ps,_,h,_=>by obtain ⟨rfl,rfl,rfl⟩:=trodAll_nil h;exact rfl
 | t::ts,vs,ds,ps,ht,h,hlt=>by
  obtain ⟨v,vs',d,ds',p,q,rfl,rfl,rfl,h1,h2⟩:=trodAll_cons h;have ⟨a,b⟩:=ht t FK;exact ⟨p,q,Below.trod hl a b h1 hb fun x hx=>hlt x JC,Aar hl hb ts vs' ds' q (fun t h=>ht t JS) h2 fun x hx=>hlt x JC,rfl⟩
theorem Ba3 {H:Type} {enc:TypeId × Value→H} {P:Program} {f:Func} {s:ChangeSpec} {tb:TypeId} (hl:laidOutB P=true) (hr:∀t∈f.params.toList,P.readableRec t=true∧t < P.types.size)
  (hb:P.underlying tb=some .bool) (hres:f.resultTypes = #[tb]) (hv:s.vars=[]) {W W':World} {args:Array Value} {ds gs:List (DataW H)} {before:List MemPlace}
  (hs:s.fn H ds={ results:=[.lit (.bool true)],args:=ds }) (hW:DataW.Whole enc P f.params.toList s.vars false W args.toList ds gs before) (hB:Below W.heap.size W W') :
  s.post enc P f false true false false W args (.bool true) W':=by
 have hlt:=hW.lt;have hW0:=hW;obtain ⟨p,q,hA,hV,rfl,_,_⟩:=hW0;rw [hv] at hV;obtain ⟨rfl,rfl⟩:=trodVars_none hV;refine ⟨ds,[],p++[],[],p,[],hW,?_,?_,?_,hB.frame _,fun h=>by cases h⟩
 ·rw [List.append_nil,hs,hres];exact trodAll_mk1 (shut_bool hb true)
 ·rw [List.append_nil,hs];exact Aar hl hB _ _ _ _ hr hA fun x hx=>hlt x (by simpa using hx)
 ·rw [hv,List.append_nil,hs];exact rfl
def Pe (P:Program) {α:Type} (E:Br α) (t:TypeId):Prop :=
 ∀{H:Type} {enc:TypeId × Value→H} {w:World} {fuel:Nat} {cs:List Value} {x:DataW H × List MemPlace},DataW.trod enc P w 0 (fun _=>true) true fuel t cs=some x→∃y F,E.Ky w cs y F
section
variable {P:Program}
theorem Gc {t:TypeId} (ht:P.underlying t=some (.int .i64)):Pe P Bb t:=fun h=>by
 obtain ⟨n,rfl,_,_⟩:=DataW.trod_int ht h;exact ⟨n,[],rfl,rfl⟩
theorem Wn {t:TypeId} (ht:P.underlying t=some .string):Pe P A8 t:=fun h=>by
 obtain ⟨s,rfl,_,hs⟩:=DataW.trod_string ht h;exact ⟨s,[],rfl,hs,rfl⟩
theorem Ait {t:TypeId} (ht:P.underlying t=some .bool):Pe P Auf t:=fun {_ _ _ fuel _ _} h=>by
 cases fuel with
 | zero=>simp [DataW.trod] at h
 | succ n =>
  unfold DataW.trod at h;rw [ht] at h
  split at h <;> simp_all
  all_goals simp [Auf]
theorem Afu {α:Type} {E:Br α} {e:TypeId} (hsz:P.cellsOf e=E.sz) (he:Pe P E e) {H:Type} {enc:TypeId × Value→H} {w:World} {n b off:Nat} :
  ∀(els:List (DataW H × List MemPlace)) (k:Nat),(∀i,i < els.length→(w.cells? 0 ((⟨b,off,none⟩:Addr).add ((k+i) * P.cellsOf e)) (P.cellsOf e)).bind (DataW.trod enc P w 0 (fun _=>true) true n e)=els[i]?) →
   ∃ys F,ys.length=els.length∧Pn E w b (off+k * E.sz) ys F
 | [],_,_=>⟨[],[],rfl,rfl⟩
 | x::r,k,h=>by
  have h0:=h 0 FK;simp only [Nat.add_zero,List.getElem?_cons_zero,Option.bind_eq_some_iff] at h0;obtain ⟨cs,hc,hx⟩:=h0;obtain ⟨y,F1,hy⟩:=he hx;obtain ⟨ys,F2,hl,hys⟩:=Afu hsz he r (k+1) fun i hi=>by
   have:=h (i+1) IY;rw [show k+1+i=k+(i+1) by omega];exact EN
  refine ⟨y::ys,F1++F2,by simp [hl],cs,F1,F2,rfl,hy,fun j hj=>?_,by rwa [show off+k * E.sz+E.sz=off+(k+1) * E.sz by rw [Nat.add_mul];omega]⟩;obtain ⟨_,hlen,hcell⟩:=World.cells?_some hc;rw [←hcell j (by rw [hsz];exact hj)]
  congr 1
  simp only [Addr.add,hsz]
  split <;> split <;> simp_all <;> omega
theorem Iz {α:Type} {E:Br α} {t e:TypeId} (ht:P.underlying t=some (.slice e)) (hsz:P.cellsOf e=E.sz) (hz:0 < E.sz) (he:Pe P E e):Pe P (Mr E hz) t:=fun h=>by
 rcases DataW.trod_slice ht h with ⟨rfl,_⟩|⟨a,len,cap,elems,rest,n,rfl,rfl,_,_,hlc,hcm,hlen,hel,_,_⟩
 ·exact ⟨[],[],_,rfl,none,0,rfl,⟨FK,FK⟩,.inl ⟨rfl,rfl,fun _=>rfl⟩⟩
 ·by_cases h0:len=0
  ·subst h0;exact ⟨[],[],_,rfl,some a,cap,rfl,⟨FK,FJ⟩,.inl ⟨rfl,rfl,fun e=>by cases e⟩⟩
  ·have hs:a=⟨a.block,a.off,none⟩:=by
    have:=hel 0 FJ;rw [List.getElem?_eq_getElem FJ] at this;simp only [Option.bind_eq_some_iff] at this;obtain ⟨cs,hc,_⟩:=this;obtain ⟨_,hl2,hcell⟩:=World.cells?_some hc;have h1:=hcell 0 FJ;rw [List.getElem?_eq_getElem FJ] at h1;simp [Addr.add,World.cell?] at h1
    split at h1 <;> simp_all
    cases a;simp_all
   obtain ⟨ys,F,hyl,hys⟩:=Afu hsz he elems 0 (n:=n) (b:=a.block) (off:=a.off) (enc:=_) (w:=_) (by
    rw [←hs];intro i hi;rw [Nat.zero_add];exact hel i FJ)
   refine ⟨ys,a.block::F,_,rfl,some a,cap,by rw [hyl,hlen],⟨FJ,FJ⟩,.inr ⟨a.block,a.off,F,by rw [←hs],?_,rfl,by simpa using hys⟩⟩;intro e;rw [e] at hyl;simp at hyl;omega
end
inductive Ye (P:Program):List Field→Nat→(α:Type)→Br α→Prop
 | nil (off:Nat):Ye P [] off Unit Sg
 | cons {f:Field} {r:List Field} {off:Nat} {α β:Type} {A:Br α} {B:Br β} (ho:f.offset=off) (hc:P.cellsOf f.type=A.sz) (hA:Pe P A f.type) (h:Ye P r (off+A.sz) β B):Ye P (f::r) off (α × β) (Ho A B)
theorem Apb {P:Program} {H:Type} {enc:TypeId × Value→H} {w:World} {n:Nat} {cs:List Value} {fs:List Field} {off:Nat} {α:Type} {E:Br α} (h:Ye P fs off α E) :
  (∀f∈fs,∃x,DataW.trod enc P w 0 (fun _=>true) true n f.type ((cs.drop f.offset).take (P.cellsOf f.type))=some x)→off+E.sz=cs.length→∃y F,E.Ky w (cs.drop off) y F:=by
 induction h with
 | nil off=>intro _ hl;exact ⟨(),[],List.drop_of_length_le (by simp [Sg] at hl;omega),rfl⟩
 | @cons f r off α β A B ho hc hA _ ih =>
  intro hf hl;obtain ⟨x,hx⟩:=hf f FK;obtain ⟨y,F1,hy⟩:=hA hx;obtain ⟨y2,F2,hy2⟩:=ih (fun f h=>hf f JS) (by simp only [Ho] at hl;omega);subst ho;exact ⟨(y,y2),F1++F2,_,_,F1,F2,by rw [hc,←List.drop_drop,List.take_append_drop],rfl,hy,hy2⟩
theorem Ha {P:Program} {t:TypeId} {fs:Array Field} {α:Type} {E:Br α} (ht:P.underlying t=some (.struct fs)) (hC:P.cellsOf t=E.sz) (h:Ye P fs.toList 0 α E):Pe P E t:=fun hh=>by
 obtain ⟨xs,n,rfl,_,hcl,hxl,hx⟩:=DataW.trod_struct ht hh;have:=Apb (enc:=_) (w:=_) (n:=n) h (fun f hf=>by
  obtain ⟨i,hi,rfl⟩:=List.getElem_of_mem hf;have:=hx i fs.toList[i] FK;rw [List.getElem?_eq_getElem (by simpa [hxl] using hi)] at this;exact ⟨_,this⟩) (by rw [hcl,hC];simp)
 exact EN
end Go.Proofs.YtkblpelckhegbaaGreatDoor
namespace Go.Proofs.YtkblpelckhegbaaGreatDoor

theorem Ad0 {P:Program} (h:P.funcs.any Func.goes=false) (f:FuncId):P.goes f=false:=by
 have h2:∀g:Nat,(P.funcs[g]?).any Func.goes=false:=fun g=>by
  cases e:P.funcs[g]? with
  | none=>rfl
  | some x =>
   obtain ⟨hg,rfl⟩:=Array.getElem?_eq_some_iff.1 e;have:=(Array.any_eq_false.1 h) g hg;exact EN
 unfold Program.goes;rw [h,Bool.and_false,Bool.or_false]
 first
 | (rw [List.any_eq_false];intro g _;rw [h2];decide)
 | (rw [Array.any_eq_false];intro g _;rw [h2];decide)
theorem Api (c:OpenClaim) {P:Program} (h:P.funcs.any Func.goes=false):false=c.goesBy P:=by
 have hf:∀n,P.goesFrom n=false:=fun n=>by
  unfold Program.goesFrom;cases P.funcNamed n with
  | none=>rfl
  | some f=>exact Ad0 h f
 unfold OpenClaim.goesBy Program.goesAt;rw [hf,Bool.false_or];cases c.start with
 | entering=>rfl
 | _ =>
  symm
  first
  | (rw [List.any_eq_false];intro g _;rw [Ad0 h];decide)
  | (simp only [];rw [List.any_eq_false];intro g _;rw [Ad0 h];decide)
end Go.Proofs.YtkblpelckhegbaaGreatDoor
namespace Go.Proofs.YtkblpelckhegbaaGreatDoor
open Go.RowKit
theorem Bfy (x:Log) (w:World) (z1:x.C2.size≤maxLen) (z2:x.pending.size≤maxLen) (hl:Af5 x≤1048576):Calls prog 19 #[.agg #[.string x.C2,.string x.pending,.int .i64 x.count]] w (RB (.agg #[.string x.C2,.string x.pending,.int .i64 x.count]) w):=(Bfx _ x [] w ⟨_,rfl,rfl,z1,z2,rfl⟩ hl).mono fun e w1 h=>by
 obtain ⟨v,F,rfl,⟨_,rfl,rfl,_,_,rfl⟩,hB⟩:=h;exact ⟨rfl,hB.2.2⟩
theorem Vb (v:Value) (x:Cs) (F:List Nat) (w:World) (h:Jy Df w v x F) (hl:N9 x≤1048576):Calls prog 6 #[v] w (Wt Md x w):=by
 unfold N9 at hl;refine Sd (A:=[.isv Df v x F]) ?_ rfl (En h);clear h w;refine enter func6 rfl ntmps6 fun w0=>?_;refine Ct ?_;rintro a1 c1 F1 a2 c2 F2 a3 c3 F3 a4 c4 F4 a5 c5 F5 a6 c6 F6 a7 c7 F7 rfl z1 z2 - - - - - - -;refine Gz x.Bl (a1:=a1) (a2:=a2) (a3:=a3) (a4:=a4) (a5:=a5) (a6:=a6) (a7:=a7) ?_;refine Ab2 x.Lq z1 z2 ?_;refine go ?_;intros;refine cv (fun w st=>Bfz _ x.Bl (F1++F2++F3++F4++F5++F6++F7) w (st.get (p:=.isv _ _ _ _) FO) FJ) fun y K=>?_;refine Um (v:=y) (x:=x.Bl) (F:=K) ?_;rintro b1 d1 G1 b2 d2 G2 b3 d3 G3 b4 d4 G4 b5 d5 G5 b6 d6 G6 b7 d7 G7 e1 - - - - - - -
 rw [e1];refine go ?_;refine cb (fun w st=>Bfy x.Lq w z1 z2 FJ) ?_;refine go ?_;refine Ry x z1 z2 ?_;exact BE
theorem U1 (va vb:Value) (x:Cs) (Fa Fb:List Nat) (w:World) (ha:Jy Df w va x Fa) (hb:Jy Df w vb x Fb):Calls prog 8 #[va,vb] w (RB (.bool true) w):=by
 refine Fh (A:=[.isv Df va x Fa,.isv Df vb x Fb]) ?_ rfl (N0 ha hb);clear ha hb w;refine enter func8 rfl ntmps8 fun w0=>?_;refine Ct (v:=va) (x:=x) (F:=Fa) ?_;rintro a1 c1 F1 a2 c2 F2 a3 c3 F3 a4 c4 F4 a5 c5 F5 a6 c6 F6 a7 c7 F7 rfl z1 z2 - - - - - - -;refine Ct (v:=vb) (x:=x) (F:=Fb) ?_;rintro b1 d1 G1 b2 d2 G2 b3 d3 G3 b4 d4 G4 b5 d5 G5 b6 d6 G6 b7 d7 G7 rfl z3 z4 - - - - - - -;refine Gz x.Bl (a1:=a1) (F1:=F1) (a2:=a2) (F2:=F2) (a3:=a3) (F3:=F3) (a4:=a4) (F4:=F4) (a5:=a5) (F5:=F5) (a6:=a6) (F6:=F6) (a7:=a7) (F7:=F7) ?_;refine Ab2 x.Lq z1 z2 ?_
 refine Gz x.Bl (a1:=b1) (F1:=G1) (a2:=b2) (F2:=G2) (a3:=b3) (F3:=G3) (a4:=b4) (F4:=G4) (a5:=b5) (F5:=G5) (a6:=b6) (F6:=G6) (a7:=b7) (F7:=G7) ?_;refine Ab2 x.Lq z1 z2 ?_;refine go ?_;intros;refine cb (fun w st=>Beb _ _ x.Bl _ _ w (st.get (p:=.isv _ _ _ _) FO) (st.get (p:=.isv _ _ _ _) FO)) ?_;refine go ?_;refine cb (fun w st=>Bea _ _ x.Lq _ _ w (st.get (p:=.isv _ _ _ _) FO) (st.get (p:=.isv _ _ _ _) FO)) ?_;exact AA
theorem Aq6 (v:Value) (x:Cs) (F:List Nat) (n:Int) (w:World) (h:Jy Df w v x F) (h0:0≤n) (h1:n≤1048576):Calls prog 4 #[v,.int .i64 n] w (RB (.int .i64 (Ze n (N9 x))) w):=by
 refine Fh (A:=[.isv Df v x F]) ?_ rfl (En h);clear h w;unfold N9;refine enter func4 rfl ntmps4 fun w0=>?_;refine Ct ?_;rintro a1 c1 F1 a2 c2 F2 a3 c3 F3 a4 c4 F4 a5 c5 F5 a6 c6 F6 a7 c7 F7 rfl z1 z2 - - - - - - -;refine Gz x.Bl (a1:=a1) (F1:=F1) (a2:=a2) (F2:=F2) (a3:=a3) (F3:=F3) (a4:=a4) (F4:=F4) (a5:=a5) (F5:=F5) (a6:=a6) (F6:=F6) (a7:=a7) (F7:=F7) ?_;refine Ab2 x.Lq z1 z2 ?_;refine go ?_;intros;refine cb (fun w st=>Bfr _ x.Bl (F1++F2++F3++F4++F5++F6++F7) (n) w (st.get (p:=.isv _ _ _ _) FO) FJ FJ) ?_;rcases Nf (n) (Zj x.Bl) with ⟨e1,l1⟩|⟨e1,l1⟩
 ·rw [e1];refine go ?_;refine ret () trivial ?_
  first|rfl|(rw [Lk FJ];rfl)
 rw [e1];clear e1;refine go ?_;refine Ax rfl (fun h=>absurd h FJ) (fun _=>?_);refine go ?_;refine cb (fun w st=>Bfq _ x.Lq [] (n - ((Zj x.Bl:Nat):Int)) w (st.get (p:=.isv _ _ _ _) FO) FJ FJ) ?_;rcases Nf (n - ((Zj x.Bl:Nat):Int)) (Af5 x.Lq) with ⟨e1,l1⟩|⟨e1,l1⟩
 ·rw [e1];refine go ?_;refine ret () trivial ?_
  first|rfl|(rw [Lk FJ];rfl)
 rw [e1];clear e1;refine go ?_;refine Ax rfl (fun h=>absurd h FJ) (fun _=>?_);refine go ?_;refine ret () trivial ?_
 first|rfl|(rw [P2 FJ];exact congrArg (Value.int .i64) FJ)
theorem Rz {α:Type} {E:Br α} {P:Program} {f:FuncId} {v:Value} {xs:List α} {F:List Nat} {mk:Int→α→α} {cn:α→Nat} {k0:Int}
  (h:∀a c q,q=k0+((Hk cn xs 0:Nat):Int)→xs.length≤maxLen→Fn P f [.slice a xs.length c,.int .i64 q] [.sl E (.slice a xs.length c) (Cy mk cn k0 xs) F] [] (fun (_:Unit)=>True) (fun _=>.int .i64 (k0+B8 cn xs)) (fun _=>[])):Fn P f [v,.int .i64 k0] [.sl E v (Cy mk cn k0 xs) F] [] (fun (_:Unit)=>True) (fun _=>.int .i64 (k0+B8 cn xs)) (fun _=>[]):=fun w hH hS=>by
 obtain ⟨-,hs⟩:=hH (.sl E v (Cy mk cn k0 xs) F) FK;obtain ⟨a,c,rfl⟩:=hs.slice;have hl:=hs.len;rw [Bz] at hl hH hS ⊢;exact h a c k0 (by rw [Qm];omega) hl w hH hS
theorem Ve {c:Cx} {fr:Fr} {H:List Pc} {α:Type} {mk:Int→α→α} {cn:α→Nat} {k0:Int} {xs:List α} {k:List It} {x:Code} {cst:Fr} (ks:List Nat) (d1 d2:Nat)
  (round:∀i K,i≤xs.length→K=k0+((Hk cn xs i:Nat):Int)→(i < xs.length→MkF mk cn k0 xs i K)→T c ([(d1,.int .i64 K),(d2,.int .i64 (i:Nat))]++cst) H (.code (.lp (LpN c (fun s:Nat=>[(d1,.int .i64 (k0+((Hk cn xs s:Nat):Int))),(d2,.int .i64 (s:Nat))]++cst) (fun _=>H) (fun s=>s≤xs.length) (fun s=>xs.length - s) (xs.length - i))::k) x))
  (hk:Kf fr ks cst:=by repeat (first|exact Kf.nil|apply Kf.cons GG)) (hf:Mb fr [(d1,.int .i64 (k0+((Hk cn xs 0:Nat):Int))),(d2,.int .i64 ((0:Nat):Int))]:=by exact frE):T c fr H (.code k (Code.loop x)) :=
 D8 ks (fun s:Nat=>[(d1,.int .i64 (k0+((Hk cn xs s:Nat):Int))),(d2,.int .i64 (s:Nat))]) (fun s=>s≤xs.length) (fun s=>xs.length - s) 0 (Nat.zero_le _) (fun s hs=>round s _ hs rfl fun hi=>by
  have h1:=Ql cn xs s hi;have h2:=Aun cn xs (s+1);exact ⟨hi,Aig mk cn xs k0 s hi,FJ,FJ,FJ,by simp [Bz];omega⟩) hk hf
theorem Apk (v:Value) (xs:List Hz) (F:List Nat) (k0:Int) (h0:0≤k0) (h1:k0+B8 Hl xs≤1099511627776):FV 143 [v,.int .i64 k0] [.sl Bn v (Cy Vi Hl k0 xs) F] (.int .i64 (k0+B8 Hl xs)):=Rz fun a c q hq hln=>by
 unfold maxLen at hln;refine enter func143 rfl ntmps143 fun w0=>?_;refine go ?_;rw [hq];refine Ve (mk:=Vi) (cn:=Hl) (k0:=k0) (xs:=xs) [0] 1 5 fun k K hz hK hf=>?_;refine go ?_;refine Ax rfl (fun h3=>?_) (fun h3=>?_)
 ·obtain ⟨hk, -,hnx,hup,hlo, -⟩:=hf FJ;have hc1:Hl xs[k]=1+1:=rfl;have hg:=L9 Vi Hl xs k0 k hk;rw [←hK] at hg;have hml:=Bz Vi Hl xs k0;refine Ww (xs:=Cy Vi Hl k0 xs) k ?_;rintro hi b o e;rw [e];simp only [hg];refine go ?_;refine Ax rfl (fun e=>absurd rfl e) (fun _=>?_);refine go ?_;refine Ax rfl (fun e=>absurd rfl e) (fun _=>?_);refine go ?_;rw [show K+1+1=k0+((Hk Hl xs (k+1):Nat):Int) by omega];exact AJ
 ·obtain rfl:k=xs.length:=FJ
  exact AS
theorem Ah0 (v:Value) (xs:List Ay) (F:List Nat) (k0:Int) (h0:0≤k0) (h1:k0+B8 C9 xs≤1099511627776):FV 146 [v,.int .i64 k0] [.sl Av v (Cy M9 C9 k0 xs) F] (.int .i64 (k0+B8 C9 xs)):=Rz fun a c q hq hln=>by
 unfold maxLen at hln;refine enter func146 rfl ntmps146 fun w0=>?_;refine go ?_;rw [hq];refine Ve (mk:=M9) (cn:=C9) (k0:=k0) (xs:=xs) [0] 1 5 fun k K hz hK hf=>?_;refine go ?_;refine Ax rfl (fun h3=>?_) (fun h3=>?_)
 ·obtain ⟨hk, -,hnx,hup,hlo, -⟩:=hf FJ;have hc1:C9 xs[k]=1+1+1+1:=rfl;have hg:=L9 M9 C9 xs k0 k hk;rw [←hK] at hg;have hml:=Bz M9 C9 xs k0;refine I9 (xs:=Cy M9 C9 k0 xs) k ?_;rintro hi b o e;rw [e];simp only [hg];refine go ?_;refine Ax rfl (fun e=>absurd rfl e) (fun _=>?_);refine go ?_;refine Ax rfl (fun e=>absurd rfl e) (fun _=>?_);refine go ?_;refine Ax rfl (fun e=>absurd rfl e) (fun _=>?_);refine go ?_;refine Ax rfl (fun e=>absurd rfl e) (fun _=>?_);refine go ?_;rw [show K+1+1+1+1=k0+((Hk C9 xs (k+1):Nat):Int) by omega]
  exact AJ
 ·obtain rfl:k=xs.length:=FJ
  exact AS
theorem Aj7 (v:Value) (xs:List Ar) (F:List Nat) (k0:Int) (h0:0≤k0) (h1:k0+B8 Bd xs≤1099511627776):FV 147 [v,.int .i64 k0] [.sl Ak v (Cy Ia Bd k0 xs) F] (.int .i64 (k0+B8 Bd xs)):=Rz fun a c q hq hln=>by
 unfold maxLen at hln;refine enter func147 rfl ntmps147 fun w0=>?_;refine go ?_;rw [hq];refine Ve (mk:=Ia) (cn:=Bd) (k0:=k0) (xs:=xs) [0] 1 5 fun k K hz hK hf=>?_;refine go ?_;refine Ax rfl (fun h3=>?_) (fun h3=>?_)
 ·obtain ⟨hk, -,hnx,hup,hlo, -⟩:=hf FJ;have hc1:Bd xs[k]=1+1+1+1+1:=rfl;have hg:=L9 Ia Bd xs k0 k hk;rw [←hK] at hg;have hml:=Bz Ia Bd xs k0;refine Qq (xs:=Cy Ia Bd k0 xs) k ?_;rintro hi b o e sz;rw [e];simp only [hg];refine go ?_;refine Ax rfl (fun e=>absurd rfl e) (fun _=>?_);refine go ?_;refine Ax rfl (fun e=>absurd rfl e) (fun _=>?_);refine go ?_;refine Ax rfl (fun e=>absurd rfl e) (fun _=>?_);refine go ?_;refine Ax rfl (fun e=>absurd rfl e) (fun _=>?_);refine go ?_;refine As [0] [] ?_;refine Ds 0 1 2 3 ?_;refine Ed 4 5 ?_;refine dN 6 ?_;refine oC ?_
  refine cb (fun w st=>Rl (K+1+1+1+1) w FJ FJ) ?_;refine dk ?_;refine dt 7 ?_;refine dd ?_;refine go ?_;refine Ax rfl (fun e=>absurd rfl e) (fun _=>?_);refine go ?_;rw [show K+1+1+1+1+1=k0+((Hk Bd xs (k+1):Nat):Int) by omega];exact AJ
 ·obtain rfl:k=xs.length:=FJ
  exact AS
theorem Apl (v:Value) (xs:List Gh) (F:List Nat) (k0:Int) (h0:0≤k0) (h1:k0+B8 E5 xs≤1099511627776):FV 145 [v,.int .i64 k0] [.sl B9 v (Cy Ul E5 k0 xs) F] (.int .i64 (k0+B8 E5 xs)):=Rz fun a c q hq hln=>by
 unfold maxLen at hln;refine enter func145 rfl ntmps145 fun w0=>?_;refine go ?_;rw [hq];refine Ve (mk:=Ul) (cn:=E5) (k0:=k0) (xs:=xs) [0] 1 5 fun k K hz hK hf=>?_;refine go ?_;refine Ax rfl (fun h3=>?_) (fun h3=>?_)
 ·obtain ⟨hk, -,hnx,hup,hlo, -⟩:=hf FJ;have hc1:E5 xs[k]=1+1:=rfl;have hg:=L9 Ul E5 xs k0 k hk;rw [←hK] at hg;have hml:=Bz Ul E5 xs k0;refine P4 (xs:=Cy Ul E5 k0 xs) k ?_;rintro hi b o e sz;rw [e];simp only [hg];refine go ?_;refine Ax rfl (fun e=>absurd rfl e) (fun _=>?_);refine go ?_;refine As [0] [] ?_;refine Ds 0 1 2 3 ?_;refine Ed 4 5 ?_;refine dN 6 ?_;refine oC ?_;refine cb (fun w st=>Rl (K+1) w FJ FJ) ?_;refine dk ?_;refine dt 7 ?_;refine dd ?_;refine go ?_;refine Ax rfl (fun e=>absurd rfl e) (fun _=>?_);refine go ?_
  rw [show K+1+1=k0+((Hk E5 xs (k+1):Nat):Int) by omega];exact AJ
 ·obtain rfl:k=xs.length:=FJ
  exact AS
theorem Ahz (v:Value) (xs:List Int) (F:List Nat) (k0:Int) (h0:0≤k0) (h1:k0+B8 El xs≤1099511627776):FV 141 [v,.int .i64 k0] [.sl Bb v (Cy mkI El k0 xs) F] (.int .i64 (k0+B8 El xs)):=Rz fun a c q hq hln=>by
 unfold maxLen at hln;refine enter func141 rfl ntmps141 fun w0=>?_;refine go ?_;rw [hq];refine Ve (mk:=mkI) (cn:=El) (k0:=k0) (xs:=xs) [0] 1 5 fun k K hz hK hf=>?_;refine go ?_;refine Ax rfl (fun h3=>?_) (fun h3=>?_)
 ·obtain ⟨hk, -,hnx,hup,hlo, -⟩:=hf FJ;have hc1:El xs[k]=1:=rfl;have hg:=L9 mkI El xs k0 k hk;rw [←hK] at hg;have hml:=Bz mkI El xs k0;refine I5 (xs:=Cy mkI El k0 xs) k ?_;rintro hi b o e;rw [e];simp only [hg];refine go ?_;refine Ax rfl (fun e=>absurd rfl e) (fun _=>?_);refine go ?_;rw [show K+1=k0+((Hk El xs (k+1):Nat):Int) by omega];exact AJ
 ·obtain rfl:k=xs.length:=FJ
  exact AS
theorem Aj8 (v:Value) (xs:List ByteArray) (F:List Nat) (k0:Int) (h0:0≤k0) (h1:k0+B8 Oo xs≤1099511627776):FV 232 [v,.int .i64 k0] [.sl A8 v (Cy mkS Oo k0 xs) F] (.int .i64 (k0+B8 Oo xs)):=Rz fun a c q hq hln=>by
 unfold maxLen at hln;refine enter func232 rfl ntmps232 fun w0=>?_;refine go ?_;rw [hq];refine Ve (mk:=mkS) (cn:=Oo) (k0:=k0) (xs:=xs) [0] 1 5 fun k K hz hK hf=>?_;refine go ?_;refine Ax rfl (fun h3=>?_) (fun h3=>?_)
 ·obtain ⟨hk, -,hnx,hup,hlo, -⟩:=hf FJ;have hc1:Oo xs[k]=1:=rfl;have hg:=L9 mkS Oo xs k0 k hk;rw [←hK] at hg;have hml:=Bz mkS Oo xs k0;refine Nq (xs:=Cy mkS Oo k0 xs) k ?_;rintro hi b o e sz;rw [e];simp only [hg];refine go ?_;refine As [0] [] ?_;refine Ds 0 1 2 3 ?_;refine dt 4 ?_;refine dN 5 ?_;refine oC ?_;refine cb (fun w st=>Rl (K) w FJ FJ) ?_;refine dk ?_;refine dt 6 ?_;refine dd ?_;refine go ?_;refine Ax rfl (fun e=>absurd rfl e) (fun _=>?_);refine go ?_;rw [show K+1=k0+((Hk Oo xs (k+1):Nat):Int) by omega]
  exact AJ
 ·obtain rfl:k=xs.length:=FJ
  exact AS
theorem Am5 (v:Value) (xs:List Gs) (F:List Nat) (k0:Int) (h0:0≤k0) (h1:k0+B8 Er xs≤1099511627776):FV 144 [v,.int .i64 k0] [.sl Dt v (Cy P0 Er k0 xs) F] (.int .i64 (k0+B8 Er xs)):=Rz fun a c q hq hln=>by
 unfold maxLen at hln;refine enter func144 rfl ntmps144 fun w0=>?_;refine go ?_;rw [hq];refine Ve (mk:=P0) (cn:=Er) (k0:=k0) (xs:=xs) [0] 1 5 fun k K hz hK hf=>?_;refine go ?_;refine Ax rfl (fun h3=>?_) (fun h3=>?_)
 ·obtain ⟨hk, -,hnx,hup,hlo, -⟩:=hf FJ;have hc1:Er xs[k]=1+B8 El xs[k].Bj+1:=rfl;have hg:=L9 P0 Er xs k0 k hk;rw [←hK] at hg;have hml:=Bz P0 Er xs k0;refine U0 (xs:=Cy P0 Er k0 xs) k ?_;rintro hi b o a1 c1 F1 e l1;rw [e];simp only [hg];refine go ?_;refine Ax rfl (fun e=>absurd rfl e) (fun _=>?_);refine go ?_;refine Cb (Ahz _ xs[k].Bj _ (K+1) FJ FJ) fun _ _=>?_;refine go ?_;refine Ax rfl (fun e=>absurd e FJ) (fun _=>?_);refine go ?_;refine Ax rfl (fun e=>absurd rfl e) (fun _=>?_);refine go ?_
  rw [show K+1+((B8 El xs[k].Bj:Nat):Int)+1=k0+((Hk Er xs (k+1):Nat):Int) by omega];exact AJ
 ·obtain rfl:k=xs.length:=FJ
  exact AS
theorem Ahy (v:Value) (xs:List Bf) (F:List Nat) (k0:Int) (h0:0≤k0) (h1:k0+B8 Cg xs≤1099511627776):FV 67 [v,.int .i64 k0] [.sl Bk v (Cy M8 Cg k0 xs) F] (.int .i64 (k0+B8 Cg xs)):=Rz fun a c q hq hln=>by
 unfold maxLen at hln;refine enter func67 rfl ntmps67 fun w0=>?_;refine go ?_;rw [hq];refine Ve (mk:=M8) (cn:=Cg) (k0:=k0) (xs:=xs) [0] 1 5 fun k K hz hK hf=>?_;refine go ?_;refine Ax rfl (fun h3=>?_) (fun h3=>?_)
 ·obtain ⟨hk, -,hnx,hup,hlo, -⟩:=hf FJ;have hc1:Cg xs[k]=1+B8 Er xs[k].Ah:=rfl;have hg:=L9 M8 Cg xs k0 k hk;rw [←hK] at hg;have hml:=Bz M8 Cg xs k0;refine Qb (xs:=Cy M8 Cg k0 xs) k ?_;rintro hi b o a1 c1 F1 e l1;rw [e];simp only [hg];refine go ?_;refine Ax rfl (fun e=>absurd rfl e) (fun _=>?_);refine go ?_;refine Cb (Am5 _ xs[k].Ah _ (K+1) FJ FJ) fun _ _=>?_;refine go ?_;refine Ax rfl (fun e=>absurd e FJ) (fun _=>?_);refine go ?_;rw [show K+1+((B8 Er xs[k].Ah:Nat):Int)=k0+((Hk Cg xs (k+1):Nat):Int) by omega]
  exact AJ
 ·obtain rfl:k=xs.length:=FJ
  exact AS
theorem Agd (v:Value) (xs:List Az) (F:List Nat) (k0:Int) (h0:0≤k0) (h1:k0+B8 Cf xs≤1099511627776):FV 68 [v,.int .i64 k0] [.sl Bi v (Cy Lf Cf k0 xs) F] (.int .i64 (k0+B8 Cf xs)):=Rz fun a c q hq hln=>by
 unfold maxLen at hln;refine enter func68 rfl ntmps68 fun w0=>?_;refine go ?_;rw [hq];refine Ve (mk:=Lf) (cn:=Cf) (k0:=k0) (xs:=xs) [0] 1 5 fun k K hz hK hf=>?_;refine go ?_;refine Ax rfl (fun h3=>?_) (fun h3=>?_)
 ·obtain ⟨hk, -,hnx,hup,hlo, -⟩:=hf FJ;have hc1:Cf xs[k]=1+1+1+B8 E5 xs[k].Aa.Am+B8 C9 xs[k].Al:=rfl;have hg:=L9 Lf Cf xs k0 k hk;rw [←hK] at hg;have hml:=Bz Lf Cf xs k0;refine Kg (xs:=Cy Lf Cf k0 xs) k ?_;rintro hi b o a1 c1 F1 a2 c2 F2 e l1 l2;rw [e];simp only [hg];refine go ?_;refine Ax rfl (fun e=>absurd rfl e) (fun _=>?_);refine go ?_;refine Ax rfl (fun e=>absurd rfl e) (fun _=>?_);refine go ?_;refine Ax rfl (fun e=>absurd rfl e) (fun _=>?_);refine go ?_;refine Cb (Apl _ xs[k].Aa.Am _ (K+1+1+1) FJ FJ) fun _ _=>?_;refine go ?_
  refine Ax rfl (fun e=>absurd e FJ) (fun _=>?_);refine go ?_;refine Cb (Ah0 _ xs[k].Al _ (K+1+1+1+((B8 E5 xs[k].Aa.Am:Nat):Int)) FJ FJ) fun _ _=>?_;refine go ?_;refine Ax rfl (fun e=>absurd e FJ) (fun _=>?_);refine go ?_;rw [show K+1+1+1+((B8 E5 xs[k].Aa.Am:Nat):Int)+((B8 C9 xs[k].Al:Nat):Int)=k0+((Hk Cf xs (k+1):Nat):Int) by omega];exact AJ
 ·obtain rfl:k=xs.length:=FJ
  exact AS
theorem Yo (v:Value) (xs:List (List Ar)) (F:List Nat) (k0:Int) (h0:0≤k0) (h1:k0+B8 (B8 Bd) xs≤1099511627776):FV 69 [v,.int .i64 k0] [.sl (Mr Ak FM) v (Cy (Cy Ia Bd) (B8 Bd) k0 xs) F] (.int .i64 (k0+B8 (B8 Bd) xs)):=Rz fun a c q hq hln=>by
 unfold maxLen at hln;refine enter func69 rfl ntmps69 fun w0=>?_;refine go ?_;rw [hq];refine Ve (mk:=(Cy Ia Bd)) (cn:=(B8 Bd)) (k0:=k0) (xs:=xs) [0] 1 5 fun k K hz hK hf=>?_;refine go ?_;refine Ax rfl (fun h3=>?_) (fun h3=>?_)
 ·obtain ⟨hk, -,hnx,hup,hlo, -⟩:=hf FJ;have hc1:(B8 Bd) xs[k]=B8 Bd xs[k]:=rfl;have hg:=L9 (Cy Ia Bd) (B8 Bd) xs k0 k hk;rw [←hK] at hg;have hml:=Bz (Cy Ia Bd) (B8 Bd) xs k0;refine Np (E:=Ak) (hz:=FM) (xs:=Cy (Cy Ia Bd) (B8 Bd) k0 xs) k ?_;rintro hi b o a1 c1 F1 e l1;rw [e];simp only [hg];refine go ?_;refine Cb (Aj7 _ xs[k] _ (K) FJ FJ) fun _ _=>?_;refine go ?_;refine Ax rfl (fun e=>absurd e FJ) (fun _=>?_);refine go ?_;rw [show K+((B8 Bd xs[k]:Nat):Int)=k0+((Hk (B8 Bd) xs (k+1):Nat):Int) by omega]
  exact AJ
 ·obtain rfl:k=xs.length:=FJ
  exact AS
theorem Ass (v:Value) (x:Qo) (F:List Nat) (k:Int) (h0:0≤k) (h1:k+I2 x≤1099511627776):FV 65 [v,.int .i64 k] [.isv Po v (Abk k x) F] (.int .i64 (k+I2 x)):=by
 unfold I2 at h1 ⊢;refine enter func65 rfl ntmps65 fun w0=>?_;refine N2 (x:=Abk k x) ?_;rintro a1 c1 F1 rfl l1;refine go ?_;intros;refine Cb (Ahz _ x.Ad _ (k) FJ FJ) fun _ _=>?_;exact DY
theorem Ad2 (v:Value) (x:Aw) (F:List Nat) (k:Int) (h0:0≤k) (h1:k+E6 x≤1099511627776):FV 142 [v,.int .i64 k] [.isv Bv v (Nt k x) F] (.int .i64 (k+E6 x)):=by
 unfold E6 at h1 ⊢;refine enter func142 rfl ntmps142 fun w0=>?_;refine Et (x:=Nt k x) ?_;rintro a1 c1 F1 rfl l1;refine go ?_;intros;refine Cb (Aj8 _ x.Ao _ (k) FJ FJ) fun _ _=>?_;exact DY
theorem Am6 (v:Value) (x:Ck) (F:List Nat) (k:Int) (h0:0≤k) (h1:k+Gk x≤1099511627776):FV 66 [v,.int .i64 k] [.isv Do v (Q0 k x) F] (.int .i64 (k+Gk x)):=by
 unfold Gk at h1 ⊢;refine enter func66 rfl ntmps66 fun w0=>?_;refine Ht (x:=Q0 k x) ?_;rintro a1 c1 F1 a2 c2 F2 rfl l1 l2;refine Cv (Nt k x.Aa) ?_;refine go ?_;intros;refine Cb (Ad2 _ x.Aa _ (k) FJ FJ) fun _ _=>?_;refine go ?_;refine Ax rfl (fun e=>absurd e FJ) (fun _=>?_);refine go ?_;refine Cb (Apk _ x.holds _ (k+E6 x.Aa) FJ FJ) fun _ _=>?_;refine go ?_;refine Ax rfl (fun e=>absurd e FJ) (fun _=>?_);refine go ?_;rw [show k+((E6 x.Aa:Nat):Int)+((B8 Hl x.holds:Nat):Int)=k+((E6 x.Aa+B8 Hl x.holds:Nat):Int) by omega];exact BC
theorem Awq (v:Value) (x:Du) (F:List Nat) (k:Int) (h0:0≤k) (h1:k+Vy x≤1099511627776):FV 26 [v,.int .i64 k] [.isv Ny v (U5 k x) F] (.int .i64 (k+Vy x)):=by
 unfold Vy at h1 ⊢;refine enter func26 rfl ntmps26 fun w0=>?_;refine Hm (x:=U5 k x) ?_;rintro a1 c1 F1 a2 c2 F2 a3 c3 F3 a4 c4 F4 a5 c5 F5 a6 c6 F6 a7 c7 F7 rfl - - - - - - -;refine Iu (Abk k x.An) ?_;refine Gt (Q0 (k+I2 x.An) x.Ab) ?_;refine go ?_;intros;refine Cb (Ass _ x.An _ (k) FJ FJ) fun _ _=>?_;refine go ?_;refine Ax rfl (fun e=>absurd e FJ) (fun _=>?_);refine go ?_;refine Cb (Am6 _ x.Ab _ (k+I2 x.An) FJ FJ) fun _ _=>?_;refine go ?_;refine Ax rfl (fun e=>absurd e FJ) (fun _=>?_);refine go ?_
 refine Cb (Ahy _ x.Af _ (k+I2 x.An+Gk x.Ab) FJ FJ) fun _ _=>?_;refine go ?_;refine Ax rfl (fun e=>absurd e FJ) (fun _=>?_);refine go ?_;refine Cb (Agd _ x.Ac _ (k+I2 x.An+Gk x.Ab+(B8 Cg) x.Af) FJ FJ) fun _ _=>?_;refine go ?_;refine Ax rfl (fun e=>absurd e FJ) (fun _=>?_);refine go ?_;refine Cb (Yo _ x.down _ (k+I2 x.An+Gk x.Ab+(B8 Cg) x.Af+(B8 Cf) x.Ac) FJ FJ) fun _ _=>?_;refine go ?_;refine Ax rfl (fun e=>absurd e FJ) (fun _=>?_);refine go ?_
 refine Cb (Yo _ x.up _ (k+I2 x.An+Gk x.Ab+(B8 Cg) x.Af+(B8 Cf) x.Ac+(B8 (B8 Bd)) x.down) FJ FJ) fun _ _=>?_;refine go ?_;refine Ax rfl (fun e=>absurd e FJ) (fun _=>?_);refine go ?_;rw [show k+I2 x.An+Gk x.Ab+(B8 Cg) x.Af+(B8 Cf) x.Ac+(B8 (B8 Bd)) x.down+(B8 (B8 Bd)) x.up=k+((I2 x.An+Gk x.Ab+(B8 Cg) x.Af+(B8 Cf) x.Ac+(B8 (B8 Bd)) x.down+(B8 (B8 Bd)) x.up:Nat):Int) by omega];exact BC
theorem Aj6 (v:Value) (x:Cs) (F:List Nat) (k:Int) (h0:0≤k) (h1:k+Ja x≤1099511627776):FV 10 [v,.int .i64 k] [.isv Df v (Ma k x) F] (.int .i64 (k+Ja x)):=by
 unfold Ja at h1 ⊢;refine enter func10 rfl ntmps10 fun w0=>?_;refine Ct (x:=Ma k x) ?_;rintro a1 c1 F1 a2 c2 F2 a3 c3 F3 a4 c4 F4 a5 c5 F5 a6 c6 F6 a7 c7 F7 rfl - - - - - - - - -;refine Gz (U5 k x.Bl) ?_;refine go ?_;intros;refine Cb (Awq _ x.Bl _ (k) FJ FJ) fun _ _=>?_;exact DY
theorem Aai (v:Value) (x:Cs) (F:List Nat) (k0:Int) (w:World) (h:Jy Df w v (Ma k0 x) F) (p0:0≤k0) (p1:k0+Ja x≤1099511627776):Calls prog 10 #[v,.int .i64 k0] w (RB (.int .i64 (k0+Ja x)) w):=(Aj6 v x F k0 p0 p1).val w (En h)
structure Ay3 where
 g0:Nat
 L0:List Value
 F0:List Nat
theorem Yw (v0:Value) (x0:Cs) (F0 FT:List Nat) (x1:ByteArray) (hx1:x1.size≤maxLen):FV 3 [v0,.string x1] [.isv Df v0 x0 F0,Hp FT] (.bool true):=by
 refine enter func3 rfl ntmps3 fun w0=>?_;refine Bcn (E:=Df) (v:=v0) (x:=x0) (F:=F0) Acu ?_;rintro ca0 rfl hla0 hoa0;have hI:=fun (hsm:Vd x0.Bl) (hzz:x0.Lq.C2.size+x0.Lq.pending.size≤1048576) (hl1:x1.size≤maxLen) V0 F0=>Ado x0 x1 V0 F0 FT hsm hzz hl1;have hS:=fun (hsm:Vd x0.Bl) (hzz:x0.Lq.C2.size+x0.Lq.pending.size≤1048576) (hl1:x1.size≤maxLen) V0 F0=>Za x0 x1 V0 F0 FT hsm hzz hl1;have hV:=Y8 x0 x1;obtain ⟨r0,r1,er⟩:∃r0 r1,Fg x0 x1=(r0,r1):=⟨_,_,rfl⟩;rw [er] at hI hS hV;dsimp only at hI hS hV;refine go ?_;intros;refine Ax rfl (fun h9=>?_) (fun h9=>?_)
 ·exact AA
 have hw1:x1.size≤1048576:=FJ
 refine goL ?_;intros;refine cb (fun w st=>ex1 (fun F h=>Aq6 _ x0 F (1048576) w h FJ FJ) st.rI) ?_;rcases Nf (1048576) (N9 x0) with ⟨e1,l1⟩|⟨e1,l1⟩
 ·rw [e1];refine goL ?_;intros;exact BC
 rw [e1];clear e1;have hw0:N9 x0≤1048576:=FJ
 have hc0:=Ab5 x0 hw0;have hV0:=hV hw0 hw1;have hwn:=hw0;unfold N9 Af5 at hwn;replace hI:=hI (Afy FJ) FJ hx1;replace hS:=hS (Afy FJ) FJ hx1;refine goL ?_;intros;refine cv (fun w st=>ex1 (fun F h=>Vb _ x0 F w h hw0) st.rI) fun y0 K0=>?_;refine An5 Jv fun K0=>?_;refine goL ?_;intros;refine Cb (hS _ _) fun z hz=>?_;obtain ⟨zlw,zFw⟩:=z;dsimp only;refine Bcn (E:=Df) (x:=r0) (F:=zFw) Acu ?_;rintro cs e hlw how;obtain rfl:zlw=cs:=JB
 clear e;refine goL ?_;intros;refine cv (fun w st=>ex1 (fun F h=>Vb _ x0 F w h hw0) st.rI) fun yv0 KX0=>?_;refine Ajf (E:=Md) (x:=x0) (F:=KX0) Xg ?_;rintro cx0 rfl hlx0 hox0;refine goL ?_;intros;refine cm (fun w st=>ex1 (fun F h=>(hI _ F).made w (N0 h (st.get (p:=Hp FT) FO)) (fun _=>rfl)) (st.rO Jv)) fun z hz=>?_;refine O1 ?_;obtain ⟨zlg,zFg⟩:=z;dsimp only;refine Ajf (E:=Md) (x:=r0) (F:=zFg) Xg ?_;rintro cs e hlg hog;obtain rfl:zlg=cs:=JB
 clear e;refine goL ?_;intros;refine cb (fun w st=>ex2 (fun Fa Fb ha hb=>U1 _ _ r0 Fa Fb w ha hb) (st.rO Jv) st.rI) ?_;refine goL ?_;intros;refine Ahg [] ?_;refine dt 0 ?_ (hy:=LI);refine dt 1 ?_ (hy:=LI);refine dN 2 ?_;refine oC ?_;refine cv (fun w st=>ex1 (fun F h=>Vb _ x0 F w h hw0) st.rI) fun y0 K0=>?_;refine An5 Jv fun K0=>?_;refine dk ?_;refine dN 3 ?_;refine oC ?_;refine cb (fun w st=>ex2 (fun Fa Fb ha hb=>U1 _ _ x0 Fa Fb w ha hb) (st.rO Jv) st.rI) ?_;refine dk ?_
 refine dt 4 ?_;refine dd ?_;refine goL ?_;intros;refine Cb (Aak _ x0 _ (1) FJ FJ) fun _ _=>?_;refine goL ?_;intros;refine cb (fun w st=>ex2 (fun Fa Fb ha hb=>U1 _ _ r0 Fa Fb w ha hb) (st.rO Jv) st.rI) ?_;refine goL ?_;intros;refine Cb (Aak _ r0 _ (1) FJ FJ) fun _ _=>?_;refine goL ?_;intros;refine cb (fun w st=>ex1 (fun F h=>Aai _ r0 F (1) w h FJ FJ) (st.rO Jv)) ?_;refine goL ?_;intros;refine cv (fun w st=>ex1 (fun F h=>Vb _ x0 F w h hw0) st.rI) fun y0 K0=>?_;refine An5 Jv fun K0=>?_;refine goL ?_;intros
 refine cm (fun w st=>ex1 (fun F h=>(hI _ F).made w (N0 h (st.get (p:=Hp FT) FO)) (fun _=>rfl)) (st.rI)) fun z hz=>?_;refine O1 ?_;obtain ⟨zlh,zFh⟩:=z;dsimp only;refine Ajf (E:=Md) (x:=r0) (F:=zFh) Xg ?_;rintro cs e hlh hoh;obtain rfl:zlh=cs:=JB
 clear e;refine goL ?_;intros;refine cb (fun w st=>ex2 (fun Fa Fb ha hb=>U1 _ _ r0 Fa Fb w ha hb) (st.rO Jv) st.rI) ?_;refine goL ?_;intros;refine cb (fun w st=>ex1 (fun F h=>Aai _ r0 F (1) w h FJ FJ) (st.rO Jv)) ?_;refine goL ?_;intros;exact BC
theorem Abg (v0:Value) (x0:Cs) (F0:List Nat) (x1:ByteArray) (FT:List Nat) (w:World) (h0:Jy Df w v0 x0 F0) (h1:x1.size≤maxLen) (hT:(Hp FT).P w) :
  Calls prog 3 #[v0,.string x1] w (RB (.bool true) w):=(Yw v0 x0 F0 FT x1 h1).val w (fun p hp=>by
   simp only [List.mem_cons,List.not_mem_nil,or_false] at hp;rcases hp with rfl|rfl
   ·exact h0
   ·exact hT)
theorem Avh : "*" ++ "errors.errorString" = "*errors.errorString" := by decide
theorem Bb1:∀u,prog.typeName? 3 u=some "*errors.errorString" → u=451:=by
 intro u h;exact typeName_ptr_named (nm := "errors.errorString") (by rw [Avh];kernel_rfl) FL FM u (by rw [Avh];exact h)
theorem Bha {W:World} (hL:laidMetH prog Rows.fnExactExecuteCommandRow.laid W) (hsh:W.ShapedOpen prog):(Hp [1,0,4,5]).P W:=by
 rw [MakeChecks.laidMetH_plain _ _ _ FL] at hL;have h3:=hL.tail.tail;have h5:=hL.tail.tail.tail.tail;have h6:=hL.tail.tail.tail.tail.tail;have e:(Rows.laid_internal_strconv_uint64pow10:DataW Unit)=Lib.tabData .u64 Lib.pow10Tab:=FL
 rw [e] at h3;have ht:Lib.TabIs prog W "internal/strconv.uint64pow10" .u64 Lib.pow10Tab:=Lib.tabIs_of_head (g:=1) (t:=429) (e:=389) (n:=20) FL FL underlying429 underlying389 FL FL h3;have hu:prog.underlying 315=some (.interface (prog.methodsAt 315)):=FL
 obtain ⟨a1,s1,hv1, -, -, -⟩:=laid_sentinel (g:=5) (ti:=315) (tp:=451) (te:=453) (ts:=9) h5 FL FL hu Bb1 underlying451 underlying453 rfl rfl underlying9 FL FL;obtain ⟨a2,s2,hv2, -, -, -⟩:=laid_sentinel (g:=4) (ti:=315) (tp:=451) (te:=453) (ts:=9) h6 FL FL hu Bb1 underlying451 underlying453 rfl rfl underlying9 FL FL
 obtain ⟨m,hm⟩:=cell_of_shapedOpen_int (P:=prog) (g:=0) (t:=3) (zero:=#[.int .i64 0]) hsh (of_decide_eq_true FL) FL rfl FL FL underlying3;refine ⟨[],rfl,rfl,⟨ht,⟨m,hm⟩,⟨_,_,hv2⟩,⟨_,_,hv1⟩⟩,rfl,?_⟩;have hc:=Lib.TabIs.cell ht (g:=1) FL 0 (by rw [Lib.pow10Tab_length];omega);have b0:=World.block_lt_of_cell? W ⟨1,0,none⟩ hc;intro b hb;simp only [List.mem_cons,List.not_mem_nil,or_false] at hb;rcases hb with rfl|rfl|rfl|rfl
 ·exact b0
 ·exact World.block_lt_of_cell? W ⟨0,0,none⟩ hm
 ·exact World.block_lt_of_cell? W ⟨4,0,none⟩ (by simpa using World.var?_cell (show prog.globalNamed "strconv.ErrSyntax" = some 4 by kernel_rfl) hv2 0)
 ·exact World.block_lt_of_cell? W ⟨5,0,none⟩ (by simpa using World.var?_cell (show prog.globalNamed "strconv.ErrRange" = some 5 by kernel_rfl) hv1 0)
end Go.Proofs.YtkblpelckhegbaaGreatDoor
