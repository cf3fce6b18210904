/- Part 10 of the proof: 24 texts, one behind the other. -/
import Derived.ProofKit
import Derived.OpenShut
import GoSem.ClaimGoes
import Derived.SevenTiedAt
import Derived.Test.YtcmighgaiacgoaaGreatDoorProg
import Derived.Test.YtcmighgaiacgoaaGreatDoorRows
import Derived.MakeChecks
import Derived.Stop.LaidErr
import Derived.Shelf.Vars
import Derived.LaidLaws
import Derived.Test.YtcmighgaiacgoaaGreatDoorM9
open _root_.Go.Proofs.Tryz
set_option maxRecDepth 100000
set_option maxHeartbeats 8000000
set_option linter.all false
set_option linter.unusedVariables false
set_option linter.unusedSimpArgs false
namespace Go.Proofs.YtcmighgaiacgoaaGreatDoor
theorem AB{p:Prop}(h:p:=by refine Cw Bb (by decide) ?_;refine Cw A8 (by decide) ?_;refine Cw Bm (by decide) ?_;refine Cw Bk (by decide) ?_;refine Cw Bi (by decide) ?_;refine Cw (Ml Ak (by decide)) (by decide) ?_;refine Cw (Ml Ak (by decide)) (by decide) ?_;refine Gk Xn (a1:=none) (c1:=0) (a2:=none) (c2:=0) (a3:=none) (c3:=0) (a4:=none) (c4:=0) (a5:=none) (c5:=0) (a6:=none) (c6:=0) (a7:=none) (c7:=0) ?_;refine go ?_;intros;refine C7 A8 ?_;refine go ?_;refine ret (⟨_,_,_,_,_⟩:StZ) trivial rfl):p:=h
theorem AF{p:Prop}(h:p:=by refine ret (⟨_,_⟩:Xp) trivial rfl):p:=h
theorem BB{p:Prop}(h:p:=by refine D7 R.1 s3 s4 (a1:=f1) (c1:=t1) (a2:=f2) (c2:=t2) (a3:=f3) (c3:=t3) (a4:=f4) (c4:=t4) (a5:=f5) (c5:=t5) (a6:=f6) (c6:=t6) (a7:=f7) (c7:=t7) ?_;exact AF):p:=h
theorem BG{p:Prop}(h:p:=by rw [show Ck n s=(Xn,[],false) by unfold Ck;rw [g1,g2,htk0,e1];rfl];exact AB):p:=h
theorem BI{p:Prop}(h:p:=by refine go ?_;refine D7 x s1 s2 (a1:=f1) (c1:=t1) (a2:=f2) (c2:=t2) (a3:=f3) (c3:=t3) (a4:=f4) (c4:=t4) (a5:=f5) (c5:=t5) (a6:=f6) (c6:=t6) (a7:=f7) (c7:=t7) ?_;exact AF):p:=h
theorem BQ{p:Prop}(h:p:=by refine Og ?_;intros;refine As [1] [3,4] ?_;refine Ec 0 1 ?_;refine dN 2 ?_;refine oC ?_;refine Ca (Ad3 E ⟨#[44,32]⟩ _ _ F8 (by decide) hE.1 hE.2) fun _ _=>?_;refine dk ?_;refine dN 3 ?_;refine oS ?_;refine Tf ?_;refine dtp 4 ?_;refine dd ?_;refine go ?_;exact AF):p:=h
theorem CB{p:Prop}(h:p:=by refine go ?_;refine Ca (Wt (Wa (Bo n s)) _ _ F5 hf1 hf2) fun _ _=>?_;refine go ?_;refine ret (⟨⟨y.1.a1,y.1.c1,y.1.a2,y.1.c2,y.1.a3,y.1.c3,y.1.a4,y.1.c4,y.1.a5,y.1.c5,y.1.a6,y.1.c6,y.1.a7,y.1.c7⟩,_,_,_⟩:RuS) ?_ rfl;rfl):p:=h
theorem CC{p:Prop}(h:p:=by refine dk ?_;refine dN 13 ?_;refine Pf (E:=A8) (xs:=[]) Dx Gz fun a9 c9 F9=>?_;rw [List.nil_append];refine dk ?_;refine dt 14 ?_;refine dN 16 ?_;refine oS ?_;refine dk ?_;refine dd ?_;refine Br (⟨_,a9,c9,F9⟩:L28) trivial):p:=h
theorem CU{p:Prop}(h:p:=by refine ret (⟨_,FN,_,_,_⟩:StZ) trivial rfl):p:=h
theorem DQ{p:Prop}(h:p:=by refine go ?_;exact AF):p:=h
theorem DR{p:Prop}(h:p:=by refine go ?_;intros;exact AZ):p:=h
theorem EI{p:Prop}(h:p:=by refine dd ?_;refine go ?_;refine ret () trivial ?_;unfold Gh;rw [g];rw [if_pos rfl,Ai8 hk3 hlf (by unfold Adr;rw [Hh h5,hst];rfl)];rfl):p:=h
theorem IU{p:Prop}(h:p:=by unfold Ha at hg;rw [Bool.and_eq_true] at hg;exact hg.1):p:=h
theorem JD{p:Prop}(h:p:=by show i < n.Ao.Ad.length;omega):p:=h
theorem LF{p:Prop}(h:p:=by rw [ByteArray.size_append];show _+1+_≤9223372036854775807;omega):p:=h
theorem LJ{p:Prop}(h:p:=by first|exact ydE|exact Auc rfl (by exact A9) (by assumption)):p:=h
end Go.Proofs.YtcmighgaiacgoaaGreatDoor
namespace Go.Proofs.YtcmighgaiacgoaaGreatDoor
open Go.RowKit
theorem Acc {k:Nat} (h:k≤999999):(bz (Lib.itoa ((k:Nat):Int))).size≤6:=by
 rw [Iu,Ql (Int.natCast_nonneg k),Int.natAbs_natCast];exact Ej 5 k (by show _ < 1000000;omega)
theorem Be7 (n:Dv) (line:ByteArray) (v:Value) (F FT:List Nat) (g:At n=true):Fn prog 107 [v,.string line] [.isv Ny v n F,Gs FT] [] (fun (u:ByteArray × Bool)=>Lb n line.data.toList=if u.2 then some u.1 else none) (fun u=>.tuple #[.string u.1,.bool u.2]) (fun _=>[]):=by
 refine enter func107 rfl ntmps107 fun w0=>?_;refine Ho ?_;rintro a1 c1 F1 a2 c2 F2 a3 c3 F3 a4 c4 F4 a5 c5 F5 a6 c6 F6 a7 c7 F7 rfl l1 l2 l3 l4 l5 l6 l7;obtain ⟨e1,e2,e3,e4⟩:=In g;obtain ⟨q2,q8,qn,qu,qe,qt⟩:=P8 g;have hG:=Az.1 g;obtain ⟨-,qr, -, -⟩:=Bl.1 hG.l;have hS:=Lx hG.s;have hW:=Ea.1 (Ff.1 hG.s).1;have hS1:=hS.l;have hb1:=O3 (fun q hq=>(C9 (e3 q hq)).1) n.down.length;have hb2:=O3 (fun q hq=>(C9 (e4 q hq)).1) n.up.length;rw [List.take_length] at hb1 hb2;have z1:=Acc (k:=qd n.down) FH;have z2:=Acc (k:=qd n.up) FH;refine go ?_;intros;refine A1 rfl (fun h1=>?_) (fun h1=>?_)
 ·refine go ?_;refine cb (fun w s=>Iy n.Ab.Aa.Ap n.Ab.Aa.size _ n.Ab.Aa.An.length _ w hW.1.1 hW.1.2 FH) ?_;have hld:=Acg n.Ab.Aa;unfold L8 at hld;refine go ?_;refine cb (fun w st=>Aa5 (Cf n.Ab.Aa.Ap n.Ab.Aa.An.length) FH FH FT w (st.get (p:=Gs FT) FI)) ?_;refine go ?_;refine ret (⟨_,true⟩:ByteArray × Bool) ?_ rfl;show Lb n _=some _;unfold Lb;rw [if_pos (show line.data.toList=Ac7 from Dw.1 h1)];rfl
 refine go ?_;refine A1 rfl (fun h2=>?_) (fun h2=>?_)
 ·refine Og ?_;intros;refine As [0] [] ?_;refine Dq 0 1 5 6 ?_;refine dN 2 ?_;refine oC ?_;refine Ca (Wd n.down _ _ _ FH fun q hq=>(C9 (e3 q hq)).1) fun _ _=>?_;refine dk ?_;refine dN 3 ?_;refine oC ?_;refine cb (fun w st=>Aa5 ((qd n.down:Nat):Int) FH FH FT w (st.get (p:=Gs FT) FI)) ?_;refine dk ?_;refine dt 4 ?_ (hy:=N5 rfl rfl (by show _+1≤9223372036854775807;omega));refine dN 7 ?_;refine oC ?_;refine Ca (Wd n.up _ _ _ FH fun q hq=>(C9 (e4 q hq)).1) fun _ _=>?_;refine dk ?_;refine dN 8 ?_;refine oC ?_
  refine cb (fun w st=>Aa5 ((qd n.up:Nat):Int) FH FH FT w (st.get (p:=Gs FT) FI)) ?_;refine dk ?_;refine dt 9 ?_ (hy:=N5 rfl rfl LF);refine Ec 10 11 ?_;refine dd ?_;refine go ?_;refine ret (⟨_,true⟩:ByteArray × Bool) ?_ rfl;show Lb n _=some _;unfold Lb;rw [if_neg (show ¬line.data.toList=Ac7 from fun e=>h1 (Dw.2 e)),if_pos (show line.data.toList=Xk from Dw.1 h2)]
 refine go ?_;refine A1 rfl (fun h3=>?_) (fun h3=>?_)
 ·refine go ?_;have hP:=fun v=>Ar3 n v F;simp only [show Gh n=(Z8 n,true) by unfold Gh;rw [g];rfl] at hP;refine Ca (hP _) fun _ _=>?_;have e:Lb n line.data.toList=some (if Z8 n then bz Bf2 else bz wNo):=by
   unfold Lb;rw [if_neg (show ¬line.data.toList=Ac7 from fun e=>h1 (Dw.2 e)),if_neg (show ¬line.data.toList=Xk from fun e=>h2 (Dw.2 e)),if_pos (show line.data.toList=Y7 from Dw.1 h3)]
  cases hst:Z8 n
  ·refine go ?_;refine ret (⟨bz wNo,true⟩:ByteArray × Bool) ?_ rfl;rw [e,hst];rfl
  ·refine go ?_;refine ret (⟨bz Bf2,true⟩:ByteArray × Bool) ?_ rfl;rw [e,hst];rfl
 ·refine go ?_;refine ret (⟨⟨#[]⟩,false⟩:ByteArray × Bool) ?_ rfl;unfold Lb;rw [if_neg (show ¬line.data.toList=Ac7 from fun e=>h1 (Dw.2 e)),if_neg (show ¬line.data.toList=Xk from fun e=>h2 (Dw.2 e)),if_neg (show ¬line.data.toList=Y7 from fun e=>h3 (Dw.2 e))];rfl
theorem Vl {n:Dv} {w:Bs} {l:List Int} (h:Ga 1 (l.getD 0 0) ((n.Ao.Ad.length:Int) - 1)=true):J8 n w l =
  if w=Aji∧l.length=1∧Uf n (l.getD 0 0)=true then some (V3 ((Qv n (l.getD 0 0).toNat).Am.map (·.Ae)))
  else if w=Ajk∧l.length=1∧Uf n (l.getD 0 0)=true∧(Qv n (l.getD 0 0).toNat).Bd=true then some (Aak (Qv n (l.getD 0 0).toNat).Aa)
  else if w=N3∧l.length=2∧Uf n (l.getD 0 0)=false then (if B8 (l.getD 1 0) then some (V3 (Lq (Qi n (l.getD 0 0).toNat) (l.getD 1 0))) else none)
  else none:=by unfold J8;rw [if_pos h]
theorem Ak3 {e:Bf} (he:Ba e=true) (k:Int):(∀f∈(Gc e k).1,0≤f∧f≤99999)∧(Gc e k).1.length≤1000:=by
 unfold Gc
 split
 ·refine ⟨fun f hf=>by have:=Ak2 he f hf;omega,?_⟩;unfold Lq
  split
  ·rename_i x hx;have:=(Vq he).2.2 x (List.mem_of_getElem? hx);dsimp only;omega
  ·exact Nat.zero_le _
 ·exact ⟨fun f hf=>(by cases hf),Nat.zero_le _⟩
theorem Bd2 (n:Dv) (w:ByteArray) (l:List Int) (v:Value) (F:List Nat) (a:Option Addr) (c:Nat) (Fl FT:List Nat) (g:At n=true) (hl0:0 < l.length):Fn prog 109 [v,.string w,.slice a l.length c] [.isv Ny v n F,.sl Bb (.slice a l.length c) l Fl,Gs FT] [] (fun (u:ByteArray × Bool)=>J8 n w.data.toList l=if u.2 then some u.1 else none) (fun u=>.tuple #[.string u.1,.bool u.2]) (fun _=>[]):=by
 refine enter func109 rfl ntmps109 fun w0=>?_;refine Ho ?_;rintro a1 c1 F1 a2 c2 F2 a3 c3 F3 a4 c4 F4 a5 c5 F5 a6 c6 F6 a7 c7 F7 rfl l1 l2 l3 l4 l5 l6 l7;obtain ⟨e1,e2,e3,e4⟩:=In g;obtain ⟨q2,q8,qn,qu,qe,qt⟩:=P8 g;have hG:=Az.1 g;obtain ⟨-,qr, -, -⟩:=Bl.1 hG.l;have hS:=Lx hG.s;have hW:=Ea.1 (Ff.1 hG.s).1;have hS1:=hS.l;have hb1:=O3 (fun q hq=>(C9 (e3 q hq)).1) n.down.length;have hb2:=O3 (fun q hq=>(C9 (e4 q hq)).1) n.up.length;rw [List.take_length] at hb1 hb2;refine I3 n.Ao (a1:=a1) ?_;refine I6 (xs:=l) 0 ?_;rintro hi0 b0 o0 rfl;have eg:l.getD 0 0=l[0]:=Qj hi0 0;refine go ?_;intros
 refine ce (fun w s=>Id _ _ _ _) ?_;cases hb:Ga 1 l[0] ((n.Ao.Ad.length:Int) - 1)
 ·refine go ?_;refine ret (⟨⟨#[]⟩,false⟩:ByteArray × Bool) ?_ rfl;unfold J8;rw [eg,hb];rfl
 have hb0:=hb;unfold Ga at hb0;simp only [Bool.and_eq_true,decide_eq_true_eq] at hb0;obtain ⟨i,hi⟩:∃i:Nat,l[0]=(i:Int):=⟨l[0].toNat,FH⟩;have hi8:i < n.Ao.Ad.length:=FH
 have h5:i < n.Ac.length:=FH
 have hie:i < n.Af.length:=FH
 rw [←eg] at hb;have eN:l.getD 0 0=(i:Int):=by rw [eg,hi]
 rw [hi];refine go ?_;refine Ca (Yi n.Ao (i:Int) _ F1) fun _ _=>?_;generalize hlf:Eo n.Ao.Ad (i:Int)=B;have hLN:Uf n (l.getD 0 0)=B:=by rw [eN];exact hlf
 repeat (apply wO;apply oc;rfl;exact ydE)
 apply Xy;apply Abd;apply Qx;apply Tc;apply Qx;have hR:=Ek.1 (e2 _ (List.getElem_mem h5));have er:Qv n (l.getD 0 0).toNat=n.Ac[i]:=by rw [eN,Int.toNat_natCast];exact Hh h5
 refine Ew [1,2,3,6,7,8,9] [0,1,2,3,4,5,6,7,8,9,10,11,12] (fun b:Bool=>[(29,.bool b)]) (fun _=>[]) (fun b=>b=decide (w=⟨#[97,119,97,105,116]⟩∧l.length=1∧B=true)) ?_ fun b hb9=>?_
 ·by_cases hw:w=⟨#[97,119,97,105,116]⟩
  ·refine go ?_;rw [show decide (w=⟨#[97,119,97,105,116]⟩)=true from decide_eq_true hw];refine go ?_;by_cases hn:l.length=1
   ·rw [show decide ((l.length:Int)=1)=true from decide_eq_true FH];refine go ?_;refine Br B ?_;cases B <;> simp [hw,hn]
   ·rw [show decide ((l.length:Int)=1)=false from decide_eq_false FH];refine go ?_;refine Br false ?_;simp [hn]
  ·refine go ?_;rw [show decide (w=⟨#[97,119,97,105,116]⟩)=false from decide_eq_false hw];refine go ?_;refine Br false ?_;simp [hw]
 subst hb9;by_cases hc1:w=⟨#[97,119,97,105,116]⟩∧l.length=1∧B=true
 ·rw [decide_eq_true hc1];refine Kr (xs:=n.Ac) i ?_;rintro h5b b5 o5 a9 c9 F9 a10 c10 F10 e5 l9 l10;rw [e5];refine Ep n.Ac[i] ?_;refine go ?_;refine Ca (Adb n.Ac[i] _ _) fun z _=>?_;obtain ⟨ra,rc,rF⟩:=z;dsimp only;have hP:=Aah (n.Ac[i].Am.map (·.Ae)) ra rc;have ea:E4 n.Ac[i]=(n.Ac[i].Am.map (·.Ae),true):=by unfold E4;rw [e2 _ (List.getElem_mem h5)];rfl
  rw [ea];dsimp only;refine A4 (E:=Bb) (xs:=n.Ac[i].Am.map (·.Ae)) fun F8=>?_;refine go ?_;refine cf (hP F8 FT (fun f hf=>by
   obtain ⟨q,hq,rfl⟩:=List.mem_map.1 hf;have:=Bc.1 (Yy hR hq).1;omega) (by rw [List.length_map];have:=(De.1 hR.q).2.1;omega)) fun _ _=>?_
  refine Ot ?_;refine go ?_;refine ret (⟨_,true⟩:ByteArray × Bool) ?_ rfl;rw [Vl hb,if_pos ⟨Dw.1 hc1.1,hc1.2.1,hLN.trans hc1.2.2⟩,er];rfl
 rw [decide_eq_false hc1];apply Abd;apply c_f;rfl;apply Qx;refine Ew [1,2,3,6,7,8,9] [0,1,2,3,4,5,6,7,8,9,10,11,12] (fun b:Bool=>[(51,.bool b)]) (fun _=>[]) (fun b=>b=decide (w=⟨#[115,108,111,116,115]⟩∧l.length=1∧B=true∧n.Ac[i].Bd=true)) ?_ fun b hb9=>?_
 ·refine Kr (xs:=n.Ac) i ?_;rintro h5b b5 o5 a9 c9 F9 a10 c10 F10 e5 l9 l10;rw [e5];by_cases hw:w=⟨#[115,108,111,116,115]⟩
  ·refine go ?_;rw [show decide (w=⟨#[115,108,111,116,115]⟩)=true from decide_eq_true hw];refine go ?_;by_cases hn:l.length=1
   ·rw [show decide ((l.length:Int)=1)=true from decide_eq_true FH];refine go ?_;cases B
    ·refine go ?_;refine Br false ?_;simp
    ·refine go ?_;refine Br n.Ac[i].Bd ?_;cases n.Ac[i].Bd <;> simp [hw,hn]
   ·rw [show decide ((l.length:Int)=1)=false from decide_eq_false FH];refine go ?_;refine Br false ?_;simp [hn]
  ·refine go ?_;rw [show decide (w=⟨#[115,108,111,116,115]⟩)=false from decide_eq_false hw];refine go ?_;refine Br false ?_;simp [hw]
 subst hb9;by_cases hc2:w=⟨#[115,108,111,116,115]⟩∧l.length=1∧B=true∧n.Ac[i].Bd=true
 ·rw [decide_eq_true hc2];refine Kr (xs:=n.Ac) i ?_;rintro h5b b5 o5 a9 c9 F9 a10 c10 F10 e5 l9 l10;rw [e5];refine By n.Ac[i].Aa (a1:=a9) ?_;refine go ?_;refine Ca (Aq2 n.Ac[i].Aa _ F9 FT hR.w) fun _ _=>?_;refine go ?_;refine ret (⟨_,true⟩:ByteArray × Bool) ?_ rfl;rw [Vl hb,if_neg (fun e=>hc1 ⟨Dw.2 e.1,e.2.1,hLN.symm.trans e.2.2⟩),if_pos ⟨Dw.1 hc2.1,hc2.2.1,hLN.trans hc2.2.2.1,by rw [er];exact hc2.2.2.2⟩,er];rfl
 rw [decide_eq_false hc2];apply Abd;apply c_f;rfl;apply Qx;refine Ew [2,3,6,7,8] [0,1,2,3,4,5,6,7,8,9,10,11,12] (fun b:Bool=>[(77,.bool b)]) (fun _=>[]) (fun b=>b=decide (w=⟨#[102,97,99,101,115]⟩∧l.length=2∧B=false)) ?_ fun b hb9=>?_
 ·by_cases hw:w=⟨#[102,97,99,101,115]⟩
  ·refine go ?_;rw [show decide (w=⟨#[102,97,99,101,115]⟩)=true from decide_eq_true hw];refine go ?_;by_cases hn:l.length=2
   ·rw [show decide ((l.length:Int)=2)=true from decide_eq_true FH];refine go ?_;refine Br (!B) ?_;cases B <;> simp [hw,hn]
   ·rw [show decide ((l.length:Int)=2)=false from decide_eq_false FH];refine go ?_;refine Br false ?_;simp [hn]
  ·refine go ?_;rw [show decide (w=⟨#[102,97,99,101,115]⟩)=false from decide_eq_false hw];refine go ?_;refine Br false ?_;simp [hw]
 subst hb9;by_cases hc3:w=⟨#[102,97,99,101,115]⟩∧l.length=2∧B=false
 rotate_left
 ·rw [decide_eq_false hc3];refine go ?_;refine ret (⟨⟨#[]⟩,false⟩:ByteArray × Bool) ?_ rfl;rw [Vl hb,if_neg (fun e=>hc1 ⟨Dw.2 e.1,e.2.1,hLN.symm.trans e.2.2⟩),if_neg (fun e=>hc2 ⟨Dw.2 e.1,e.2.1,hLN.symm.trans e.2.2.1,by rw [←er];exact e.2.2.2⟩),if_neg (fun e=>hc3 ⟨Dw.2 e.1,e.2.1,hLN.symm.trans e.2.2⟩)];rfl
 rw [decide_eq_true hc3];have hl1:1 < l.length:=FH
 have hfn:=Ak3 (e1 _ (List.getElem_mem hie)) l[1];refine I6 (xs:=l) 1 ?_;rintro hi1 b1 o1 ea1;cases ea1;refine Q6 (xs:=n.Af) i ?_;rintro h5b b5 o5 a9 c9 F9 e5 l9;rw [e5];refine Nf n.Af[i] ?_;refine Og ?_;intros;refine As [1,3,4] [9,10,11,12,13] ?_;refine Dq 0 1 2 3 ?_;refine Dq 4 5 6 7 ?_;refine dN 8 ?_;refine oC ?_;refine Ca (Ar2 n.Af[i] l[1] _ _) fun z _=>?_;obtain ⟨fa,fc,fF⟩:=z;dsimp only;refine A4 (E:=Bb) (xs:=(Gc n.Af[i] l[1]).1) fun F8=>?_;refine dk ?_;refine dtp 9 ?_;refine dtp 10 ?_;refine dtp 11 ?_;refine dtp 12 ?_;refine dtp 13 ?_;refine dd ?_;refine go ?_
 refine Ca (Aah (Gc n.Af[i] l[1]).1 fa fc F8 FT hfn.1 hfn.2) fun _ _=>?_;refine go ?_;refine ret (⟨_,(Gc n.Af[i] l[1]).2⟩:ByteArray × Bool) ?_ rfl;rw [Vl hb,if_neg (fun e=>hc1 ⟨Dw.2 e.1,e.2.1,hLN.symm.trans e.2.2⟩),if_neg (fun e=>hc2 ⟨Dw.2 e.1,e.2.1,hLN.symm.trans e.2.2.1,by rw [←er];exact e.2.2.2⟩),if_pos ⟨Dw.1 hc3.1,hc3.2.1,hLN.trans hc3.2.2⟩,Qj hl1,eN,Int.toNat_natCast,Ju hie];unfold Gc;rw [e1 _ (List.getElem_mem hie),Bool.true_and];cases B8 l[1] <;> rfl
structure NL where
 a1:Option Addr
 c1:Nat
 a2:Option Addr
 c2:Nat
 a3:Option Addr
 c3:Nat
 a4:Option Addr
 c4:Nat
 a5:Option Addr
 c5:Nat
 a6:Option Addr
 c6:Nat
 a7:Option Addr
 c7:Nat
structure RuS where
 z:NL
 t:ByteArray
 b:Bool
 F:List Nat
theorem Bke {p q r:Pc} {w:World} (h:p.P w) (h2:q.P w) (h3:r.P w):Od [p,q,r] w:=fun x hx=>by
 simp at hx;rcases hx with rfl|rfl|rfl
 ·exact h
 ·exact h2
 ·exact h3
def Ve (line:ByteArray):List ByteArray:=(Dm 32 line.data.toList).map bz
theorem Amj (line:ByteArray):wsL (Ve line)=Gg line:=by
 unfold wsL Ve Gg;rw [List.map_map];exact (List.map_congr_left fun x _=>Jo x).trans (List.map_id _)
theorem Ami (line:ByteArray):0 < (Ve line).length∧(Ve line).length≤line.size+1∧∀t∈Ve line,t.size≤line.size:=by
 obtain ⟨r,hr, -⟩:=Sp 32 line.data.toList;obtain ⟨h1,h2⟩:=Ayz line.data.toList;rw [Ct] at h1;unfold Ve;rw [List.length_map];refine ⟨by rw [hr];simp,h1,fun t ht=>?_⟩;obtain ⟨x,hx,rfl⟩:=List.mem_map.1 ht;have:=h2 x hx;rw [Ct] at this;rw [Iu];exact this
theorem Aur {n:Dv} {s:Kh} (hg:At n=true) (hs:Es s=true):(Wa (Bo n s)).length≤900000000000∧∀e∈Wa (Bo n s),e.size≤100:=by
 cases e:Bo n s with
 | none=>exact ⟨Nat.zero_le _,fun e he=>by cases he⟩
 | some y =>
  have h1:=Aq7 hg hs e;refine ⟨by show y.2.length≤_;omega,fun z hz=>?_⟩;have:=(Zc (Att hg hs e z hz)).2;omega
theorem Acr {n:Dv} {line:ByteArray} {s:Kh} (h:I9 (Gg line)=some s):Pn n line=Kd n s:=by unfold Pn;rw [h]
theorem Bb5 {n:Dv} {line:ByteArray} {s:Kh} (h:I9 (Gg line)=some s) (hs:Es s=true):H4 n line=Ib n (Bo n s)∧Pn n line=if (Bo n s).isSome then some (H4 n line,if s.Cp=2∨s.Cp=4 then Yf (Wa (Bo n s)) else bz wOk) else none:=by
 have e:Pn n line=(Bo n s).map fun y=>(y.1,if s.Cp=2∨s.Cp=4 then Yf y.2 else bz wOk):=by rw [Acr h];unfold Kd;rw [if_pos hs]
 unfold H4;rw [e];cases Bo n s with
 | none=>exact ⟨rfl,rfl⟩
 | some y=>exact ⟨rfl,rfl⟩
theorem Acq {n:Dv} {line:ByteArray} {r:Option ByteArray} (h:Pn n line=Qu n r):H4 n line=n:=by
 unfold H4;rw [h];cases r <;> rfl
theorem Bjl (n:Dv) (line:ByteArray) (g:Nat) (a1:Option Addr) (c1:Nat) (a2:Option Addr) (c2:Nat) (a3:Option Addr) (c3:Nat) (a4:Option Addr) (c4:Nat) (a5:Option Addr) (c5:Nat) (a6:Option Addr) (c6:Nat) (a7:Option Addr) (c7:Nat) (F FT:List Nat) (hg:At n=true) (hl:line.size≤900):Fn prog 49 [Il g 0 0,.string line] [Gs FT] [.row g 52 0 [] [.slice a1 n.Ao.Ad.length c1,.int .i64 n.Ab.Aa.Ap,.int .i64 n.Ab.Aa.size,.slice a2 n.Ab.Aa.An.length c2,.int .i64 n.Ab.Ai,.int .i64 n.Ab.quiet,.slice a3 n.Ab.holds.length c3,.slice a4 n.Af.length c4,.slice a5 n.Ac.length c5,.slice a6 n.down.length c6,.slice a7 n.up.length c7] [],.own Zx (.agg #[.slice a1 n.Ao.Ad.length c1,.int .i64 n.Ab.Aa.Ap,.int .i64 n.Ab.Aa.size,.slice a2 n.Ab.Aa.An.length c2,.int .i64 n.Ab.Ai,.int .i64 n.Ab.quiet,.slice a3 n.Ab.holds.length c3,.slice a4 n.Af.length c4,.slice a5 n.Ac.length c5,.slice a6 n.down.length c6,.slice a7 n.up.length c7]) n F] (fun (u:RuS)=>Pn n line=if u.b then some (H4 n line,u.t) else none) (fun u=>.tuple #[.string u.t,.bool u.b]) (fun u=>[.row g 52 0 [] [.slice u.z.a1 (H4 n line).Ao.Ad.length u.z.c1,.int .i64 (H4 n line).Ab.Aa.Ap,.int .i64 (H4 n line).Ab.Aa.size,.slice u.z.a2 (H4 n line).Ab.Aa.An.length u.z.c2,.int .i64 (H4 n line).Ab.Ai,.int .i64 (H4 n line).Ab.quiet,.slice u.z.a3 (H4 n line).Ab.holds.length u.z.c3,.slice u.z.a4 (H4 n line).Af.length u.z.c4,.slice u.z.a5 (H4 n line).Ac.length u.z.c5,.slice u.z.a6 (H4 n line).down.length u.z.c6,.slice u.z.a7 (H4 n line).up.length u.z.c7] [],.own Zx (.agg #[.slice u.z.a1 (H4 n line).Ao.Ad.length u.z.c1,.int .i64 (H4 n line).Ab.Aa.Ap,.int .i64 (H4 n line).Ab.Aa.size,.slice u.z.a2 (H4 n line).Ab.Aa.An.length u.z.c2,.int .i64 (H4 n line).Ab.Ai,.int .i64 (H4 n line).Ab.quiet,.slice u.z.a3 (H4 n line).Ab.holds.length u.z.c3,.slice u.z.a4 (H4 n line).Af.length u.z.c4,.slice u.z.a5 (H4 n line).Ac.length u.z.c5,.slice u.z.a6 (H4 n line).down.length u.z.c6,.slice u.z.a7 (H4 n line).up.length u.z.c7]) (H4 n line) u.F]):=by
 obtain ⟨hw0,hwl,hws⟩:=Ami line;refine enter func49 rfl ntmps49 fun w0=>?_;refine go ?_;refine cn (fun w st=>Avg line ⟨#[32]⟩ FH FK FT w (st.get (p:=Gs FT) FI)) fun a0 c0 F0=>?_;rw [show Lib.splitB ⟨#[32]⟩ 0 (Lib.countB line ⟨#[32]⟩) line=Ve line from Wh 32 line];generalize hwd:Ve line=ws at *;have hWL:wsL ws=Gg line:=by rw [←hwd];exact Amj line
 refine A4 (E:=A8) (xs:=ws) fun F1=>?_;refine go ?_;refine Ca (Bcj ws hw0 a0 c0 F1 FT (fun t ht=>by have:=hws t ht;omega)) fun u hu=>?_;obtain ⟨s,ok⟩:=u;obtain ⟨hs,hst⟩:=hu;dsimp only at hs hst ⊢;rw [hWL] at hst;cases ok
 rotate_left
 ·replace hst:I9 (Gg line)=some s:=hst;refine go ?_;intros;refine Ca (Ajq s hs) fun _ _=>?_;cases hk:Es s
  ·have eN:Pn n line=none:=by rw [Acr hst];unfold Kd;rw [hk];rfl
   have eM:H4 n line=n:=Acq (r:=none) eN;rw [eM,eN];refine go ?_;refine ret (⟨⟨a1,c1,a2,c2,a3,c3,a4,c4,a5,c5,a6,c6,a7,c7⟩,⟨#[]⟩,false,F⟩:RuS) ?_ rfl;rfl
  obtain ⟨eM,eN⟩:=Bb5 (n:=n) hst hk;obtain ⟨hf1,hf2⟩:=Aur hg hk;rw [eN,eM];refine Ys (x:=n) ?_;rintro x1 w1 K1 x2 w2 K2 x3 w3 K3 x4 w4 K4 x5 w5 K5 x6 w6 K6 x7 w7 K7 ev - - - - - - -;simp only [Value.agg.injEq,Array.mk.injEq,List.cons.injEq,Value.slice.injEq,Value.int.injEq,true_and,and_true] at ev;obtain ⟨⟨rfl,rfl⟩,⟨rfl,rfl⟩,⟨rfl,rfl⟩,⟨rfl,rfl⟩,⟨rfl,rfl⟩,⟨rfl,rfl⟩,rfl,rfl⟩:=ev;refine go ?_;refine Ca (Anw n s g a1 c1 K1 a2 c2 K2 a3 c3 K3 a4 c4 K4 a5 c5 K5 a6 c6 K6 a7 c7 K7 FT hg hk hs) fun y _=>?_;refine A4 (E:=A8) (xs:=Wa (Bo n s)) fun F5=>?_;refine P2 (Ib n (Bo n s)) ?_;by_cases k2:s.Cp=2
  ·rw [if_pos (show s.Cp=2∨s.Cp=4 from .inl k2)];refine go ?_;rw [show decide (s.Cp=2)=true from decide_eq_true k2];exact CB
  by_cases k4:s.Cp=4
  ·rw [if_pos (show s.Cp=2∨s.Cp=4 from .inr k4)];refine go ?_;rw [show decide (s.Cp=2)=false from decide_eq_false k2];refine go ?_;refine A1 rfl (fun k5=>?_) (fun k5=>?_)
   rotate_left
   ·exact absurd k4 k5
   exact CB
  ·rw [if_neg (show ¬(s.Cp=2∨s.Cp=4) from fun h=>h.elim k2 k4)];refine go ?_;rw [show decide (s.Cp=2)=false from decide_eq_false k2];refine go ?_;refine A1 rfl (fun k5=>?_) (fun k5=>?_)
   ·exact absurd k5 k4
   refine go ?_;refine ret (⟨⟨y.1.a1,y.1.c1,y.1.a2,y.1.c2,y.1.a3,y.1.c3,y.1.a4,y.1.c4,y.1.a5,y.1.c5,y.1.a6,y.1.c6,y.1.a7,y.1.c7⟩,bz wOk,_,_⟩:RuS) ?_ rfl;rfl
 replace hst:I9 (Gg line)=none:=hst;refine go ?_;intros;refine A1 rfl (fun h1=>?_) (fun h1=>?_)
 ·have eN:Pn n line=some ((Q9 n).1,Yf (Q9 n).2):=by unfold Pn;rw [hst];dsimp only;rw [if_pos (show line.data.toList=Xj from Dw.1 h1)]
  have eM:H4 n line=(Q9 n).1:=by unfold H4;rw [eN]
  rw [eN,eM];have hf1:=Auo hg;refine Ys (x:=n) ?_;rintro x1 w1 K1 x2 w2 K2 x3 w3 K3 x4 w4 K4 x5 w5 K5 x6 w6 K6 x7 w7 K7 ev - - - - - - -;simp only [Value.agg.injEq,Array.mk.injEq,List.cons.injEq,Value.slice.injEq,Value.int.injEq,true_and,and_true] at ev;obtain ⟨⟨rfl,rfl⟩,⟨rfl,rfl⟩,⟨rfl,rfl⟩,⟨rfl,rfl⟩,⟨rfl,rfl⟩,⟨rfl,rfl⟩,rfl,rfl⟩:=ev;refine go ?_;refine Ca (Azf n g a1 c1 K1 a2 c2 K2 a3 c3 K3 a4 c4 K4 a5 c5 K5 a6 c6 K6 a7 c7 K7 FT hg) fun y _=>?_;refine A4 (E:=A8) (xs:=(Q9 n).2) fun F5=>?_;refine P2 (Q9 n).1 ?_;refine go ?_
  refine Ca (Wt (Q9 n).2 _ _ F5 FH (fun e he=>by have:=(Zc (Bg6 hg e he)).2;omega)) fun _ _=>?_;refine go ?_;refine ret (⟨⟨y.1.a1,y.1.c1,y.1.a2,y.1.c2,y.1.a3,y.1.c3,y.1.a4,y.1.c4,y.1.a5,y.1.c5,y.1.a6,y.1.c6,y.1.a7,y.1.c7⟩,_,true,_⟩:RuS) ?_ rfl;rfl
 have hWlen:(Gg line).length=ws.length:=by rw [←hWL];unfold wsL;rw [List.length_map]
 refine go ?_;refine A1 rfl (fun h2=>?_) (fun h2=>?_)
 ·have eN:Pn n line=Qu n (Lb n line.data.toList):=by unfold Pn;rw [hst];dsimp only;rw [if_neg (show ¬line.data.toList=Xj from fun e=>h1 (Dw.2 e)),if_pos FH]
  have eM:=Acq eN;rw [eM,eN];refine go ?_;refine cfr (fun w st=>by obtain ⟨Fq,hq⟩:=st.rO Ac8 (v:=.agg #[.slice a1 n.Ao.Ad.length c1,.int .i64 n.Ab.Aa.Ap,.int .i64 n.Ab.Aa.size,.slice a2 n.Ab.Aa.An.length c2,.int .i64 n.Ab.Ai,.int .i64 n.Ab.quiet,.slice a3 n.Ab.holds.length c3,.slice a4 n.Af.length c4,.slice a5 n.Ac.length c5,.slice a6 n.down.length c6,.slice a7 n.up.length c7]) (x:=n) (F:=F) A9;exact ⟨[.isv Ny _ n Fq,Gs FT],Nn hq (st.get (p:=Gs FT) FL),rfl,Be7 n line _ Fq FT hg⟩) (fun u hu=>?_);refine Ot ?_;refine go ?_
  refine ret (⟨⟨a1,c1,a2,c2,a3,c3,a4,c4,a5,c5,a6,c6,a7,c7⟩,u.1,u.2,F⟩:RuS) ?_ rfl;show Qu n _=if u.2 then some (n,u.1) else none
  rw [hu];cases u.2 <;> rfl
 have hdr:((Gg line).drop 1).map bz=ws.drop 1:=by
  rw [←hWL];unfold wsL;rw [←List.map_drop,List.map_map];exact (List.map_congr_left fun x _=>Ya x).trans (List.map_id _)
 have eN:Pn n line=if Sj (ws.drop 1) then Qu n (J8 n (ws[0]).data.toList (Kb (ws.drop 1))) else none:=by
  unfold Pn;rw [hst];dsimp only;rw [if_neg (show ¬line.data.toList=Xj from fun e=>h1 (Dw.2 e)),if_neg FH,hdr,←hWL,show atW (wsL ws) 0=(ws[0]).data.toList from Tb hw0]
 have hdl:(ws.drop 1).length=ws.length - 1:=List.length_drop ..;refine go ?_;apply wO;refine sld (E:=A8) (xs:=ws) 1 fun a8 c8 F8=>?_;refine go ?_;refine Ca (Aqn (ws.drop 1) a8 c8 F8 FT (fun t ht=>by have:=hws t (List.mem_of_mem_drop ht);omega) FH) fun z _=>?_;cases hp:Sj (ws.drop 1)
 ·rw [hp] at eN;have eM:=Acq (r:=none) eN;have e2:Sv (ws.drop 1)=([],false):=by unfold Sv;rw [hp];rfl
  rw [e2];refine go ?_;rw [eM,eN];refine ret (⟨⟨a1,c1,a2,c2,a3,c3,a4,c4,a5,c5,a6,c6,a7,c7⟩,⟨#[]⟩,false,F⟩:RuS) ?_ rfl;rfl
 rw [hp,if_pos rfl] at eN;have eM:=Acq (r:=J8 n (ws[0]).data.toList (Kb (ws.drop 1))) eN;have e2:Sv (ws.drop 1)=(Kb (ws.drop 1),true):=by unfold Sv;rw [hp];rfl
 rw [eM,eN];have hvl:(Kb (ws.drop 1)).length=ws.length - 1:=by unfold Kb;rw [List.length_map,hdl]
 rw [e2];dsimp only;generalize Kb (ws.drop 1)=vs at *;have hvs:0 < vs.length:=FH
 obtain ⟨lx,la,lc⟩:=z;dsimp only;refine A4 (E:=Bb) (xs:=vs) fun F8=>?_;refine Mx (xs:=ws) 0 ?_;rintro hi0 b0 o0 e0 s0;cases e0;refine Og ?_;intros;refine As [0,5] [8,9,10,11] ?_;refine Dq 0 1 2 3 ?_;refine Ec 4 5 ?_;refine dt 6 ?_;refine dN 7 ?_;refine oC ?_
 refine cfr (fun w st=>by obtain ⟨Fq,hq⟩:=st.rO Ac8 (v:=.agg #[.slice a1 n.Ao.Ad.length c1,.int .i64 n.Ab.Aa.Ap,.int .i64 n.Ab.Aa.size,.slice a2 n.Ab.Aa.An.length c2,.int .i64 n.Ab.Ai,.int .i64 n.Ab.quiet,.slice a3 n.Ab.holds.length c3,.slice a4 n.Af.length c4,.slice a5 n.Ac.length c5,.slice a6 n.down.length c6,.slice a7 n.up.length c7]) (x:=n) (F:=F) A9;exact ⟨[.isv Ny _ n Fq,.sl Bb (.slice la vs.length lc) vs F8,Gs FT],Bke hq (st.get (p:=.sl Bb (.slice la vs.length lc) vs F8) FL) (st.get (p:=Gs FT) FL),rfl,Bd2 n ws[0] vs _ Fq la lc F8 FT hg hvs⟩) (fun u hu=>?_)
 refine Ot ?_;refine dk ?_;refine dtp 8 ?_;refine dtp 9 ?_;refine dtp 10 ?_;refine dtp 11 ?_;refine dd ?_;refine go ?_;refine ret (⟨⟨a1,c1,a2,c2,a3,c3,a4,c4,a5,c5,a6,c6,a7,c7⟩,u.1,u.2,F⟩:RuS) ?_ rfl;show Qu n _=if u.2 then some (n,u.1) else none
 rw [hu];cases u.2 <;> rfl
structure CoS where
 z:NL
 F:List Nat
structure Xp where
 cs:List Value
 F:List Nat
theorem Ay4 (x:Cc) (v:Value) (F:List Nat) (hs:U6 x.Bh):Fn prog 22 [v] [.isv Dd v x F] [] (fun (_:CoS)=>True) (fun z=>.agg #[.slice z.z.a1 x.Bh.Ao.Ad.length z.z.c1,.int .i64 x.Bh.Ab.Aa.Ap,.int .i64 x.Bh.Ab.Aa.size,.slice z.z.a2 x.Bh.Ab.Aa.An.length z.z.c2,.int .i64 x.Bh.Ab.Ai,.int .i64 x.Bh.Ab.quiet,.slice z.z.a3 x.Bh.Ab.holds.length z.z.c3,.slice z.z.a4 x.Bh.Af.length z.z.c4,.slice z.z.a5 x.Bh.Ac.length z.z.c5,.slice z.z.a6 x.Bh.down.length z.z.c6,.slice z.z.a7 x.Bh.up.length z.z.c7,.string x.J0.Cs,.string x.J0.pending,.int .i64 x.J0.count]) (fun z=>[.own Zx (.agg #[.slice z.z.a1 x.Bh.Ao.Ad.length z.z.c1,.int .i64 x.Bh.Ab.Aa.Ap,.int .i64 x.Bh.Ab.Aa.size,.slice z.z.a2 x.Bh.Ab.Aa.An.length z.z.c2,.int .i64 x.Bh.Ab.Ai,.int .i64 x.Bh.Ab.quiet,.slice z.z.a3 x.Bh.Ab.holds.length z.z.c3,.slice z.z.a4 x.Bh.Af.length z.z.c4,.slice z.z.a5 x.Bh.Ac.length z.z.c5,.slice z.z.a6 x.Bh.down.length z.z.c6,.slice z.z.a7 x.Bh.up.length z.z.c7]) x.Bh z.F]):=by
 refine enter func22 rfl ntmps22 fun w0=>?_;refine Co ?_;rintro a1 c1 F1 a2 c2 F2 a3 c3 F3 a4 c4 F4 a5 c5 F5 a6 c6 F6 a7 c7 F7 rfl s1 s2 l1 l2 l3 l4 l5 l6 l7;refine Gk x.Bh (a1:=a1) (a2:=a2) (a3:=a3) (a4:=a4) (a5:=a5) (a6:=a6) (a7:=a7) ?_;refine Og ?_;intros;refine As [1] [6] ?_;refine Dq 0 1 3 4 ?_;refine dN 2 ?_;refine oC ?_;refine Ca (Aon x.Bh _ _ hs) fun z _=>?_;refine P2 x.Bh ?_;refine dk ?_;refine dt 5 ?_;refine dN 6 ?_;refine oS ?_;refine Tf ?_;refine dd ?_;refine go ?_;refine ret (⟨⟨z.a1,z.c1,z.a2,z.c2,z.a3,z.c3,z.a4,z.c4,z.a5,z.c5,z.a6,z.c6,z.a7,z.c7⟩,_⟩:CoS) trivial rfl
theorem Bcn {d p:Bs} {k:Int} (h:Kl d p k=true):d.length+p.length≤30000:=by
 unfold Kl at h;simp only [Bool.and_eq_true,decide_eq_true_eq] at h;exact h.1
theorem Agg {x:Cc} (h:Ha x=true):x.J0.Cs.size+x.J0.pending.size≤30000:=by
 unfold Ha at h;rw [Bool.and_eq_true] at h;have:=Bcn h.2;rw [Ct,Ct] at this;exact this
theorem Awd (x:Cc) (line:ByteArray) (g:Nat) (a1:Option Addr) (c1:Nat) (a2:Option Addr) (c2:Nat) (a3:Option Addr) (c3:Nat) (a4:Option Addr) (c4:Nat) (a5:Option Addr) (c5:Nat) (a6:Option Addr) (c6:Nat) (a7:Option Addr) (c7:Nat) (F FT:List Nat) (hg:Ha x=true) (hl:line.size≤maxLen):Fn prog 23 [Il g 0 0,.string line] [Gs FT] [.row g 55 0 [] [.slice a1 x.Bh.Ao.Ad.length c1,.int .i64 x.Bh.Ab.Aa.Ap,.int .i64 x.Bh.Ab.Aa.size,.slice a2 x.Bh.Ab.Aa.An.length c2,.int .i64 x.Bh.Ab.Ai,.int .i64 x.Bh.Ab.quiet,.slice a3 x.Bh.Ab.holds.length c3,.slice a4 x.Bh.Af.length c4,.slice a5 x.Bh.Ac.length c5,.slice a6 x.Bh.down.length c6,.slice a7 x.Bh.up.length c7,.string x.J0.Cs,.string x.J0.pending,.int .i64 x.J0.count] [],.own Zx (.agg #[.slice a1 x.Bh.Ao.Ad.length c1,.int .i64 x.Bh.Ab.Aa.Ap,.int .i64 x.Bh.Ab.Aa.size,.slice a2 x.Bh.Ab.Aa.An.length c2,.int .i64 x.Bh.Ab.Ai,.int .i64 x.Bh.Ab.quiet,.slice a3 x.Bh.Ab.holds.length c3,.slice a4 x.Bh.Af.length c4,.slice a5 x.Bh.Ac.length c5,.slice a6 x.Bh.down.length c6,.slice a7 x.Bh.up.length c7]) x.Bh F] (fun (_:CoS)=>True) (fun _=>.string (P5 x line).2) (fun u=>[.row g 55 0 [] [.slice u.z.a1 (P5 x line).1.Bh.Ao.Ad.length u.z.c1,.int .i64 (P5 x line).1.Bh.Ab.Aa.Ap,.int .i64 (P5 x line).1.Bh.Ab.Aa.size,.slice u.z.a2 (P5 x line).1.Bh.Ab.Aa.An.length u.z.c2,.int .i64 (P5 x line).1.Bh.Ab.Ai,.int .i64 (P5 x line).1.Bh.Ab.quiet,.slice u.z.a3 (P5 x line).1.Bh.Ab.holds.length u.z.c3,.slice u.z.a4 (P5 x line).1.Bh.Af.length u.z.c4,.slice u.z.a5 (P5 x line).1.Bh.Ac.length u.z.c5,.slice u.z.a6 (P5 x line).1.Bh.down.length u.z.c6,.slice u.z.a7 (P5 x line).1.Bh.up.length u.z.c7,.string (P5 x line).1.J0.Cs,.string (P5 x line).1.J0.pending,.int .i64 (P5 x line).1.J0.count] [],.own Zx (.agg #[.slice u.z.a1 (P5 x line).1.Bh.Ao.Ad.length u.z.c1,.int .i64 (P5 x line).1.Bh.Ab.Aa.Ap,.int .i64 (P5 x line).1.Bh.Ab.Aa.size,.slice u.z.a2 (P5 x line).1.Bh.Ab.Aa.An.length u.z.c2,.int .i64 (P5 x line).1.Bh.Ab.Ai,.int .i64 (P5 x line).1.Bh.Ab.quiet,.slice u.z.a3 (P5 x line).1.Bh.Ab.holds.length u.z.c3,.slice u.z.a4 (P5 x line).1.Bh.Af.length u.z.c4,.slice u.z.a5 (P5 x line).1.Bh.Ac.length u.z.c5,.slice u.z.a6 (P5 x line).1.Bh.down.length u.z.c6,.slice u.z.a7 (P5 x line).1.Bh.up.length u.z.c7]) (P5 x line).1.Bh u.F]):=by
 have hgn:At x.Bh=true:=IU
 have hgl:Kl x.J0.Cs.data.toList x.J0.pending.data.toList x.J0.count=true:=by unfold Ha at hg;rw [Bool.and_eq_true] at hg;exact hg.2
 have hsz:=Agg hg;refine enter func23 rfl ntmps23 fun w0=>?_;refine go ?_;refine cb (fun w st=>Lg.Xs line ⟨#[]⟩ w hl (Nat.zero_le _)) ?_;rw [show Lg.Bv line ⟨#[]⟩=U9 line from rfl];cases h1:U9 line
 ·have e:P5 x line=(x,bz Bf1):=by unfold P5;rw [h1];rfl
  rw [e];refine go ?_;refine ret (⟨⟨a1,c1,a2,c2,a3,c3,a4,c4,a5,c5,a6,c6,a7,c7⟩,F⟩:CoS) trivial rfl
 refine go ?_;refine A1 rfl (fun h2=>?_) (fun h2=>?_)
 ·have e:P5 x line=(x,bz Avo):=by unfold P5;rw [h1,if_pos rfl,if_pos h2]
  rw [e];refine go ?_;refine ret (⟨⟨a1,c1,a2,c2,a3,c3,a4,c4,a5,c5,a6,c6,a7,c7⟩,F⟩:CoS) trivial rfl
 have hlz:line.size≤160:=by
  have h:=h1;unfold U9 Lg.Bv Ga at h;simp only [Bool.and_eq_true,decide_eq_true_eq] at h;have:=h.1.1.1.1.2;omega
 rw [Asl ⟨h1,h2⟩];have ht:=Amv (Anr (line:=line) hgn);have hGd:Zw line.data.toList (Te (Qw x.Bh line)).data.toList:=Je (by rw [←Lg.Oy];exact Aa3 h1 ht.1 ht.2);obtain ⟨xn,⟨d,p,q⟩⟩:=x;dsimp only at hgn hgl hsz h2 ht hGd ⊢;have hcn:=Lg.Afw hgl;obtain ⟨k,rfl⟩:∃k:Nat,q=(k:Int):=⟨q.toNat,FH⟩;refine go ?_
 refine cfr (fun w st=>by obtain ⟨Fq,hq⟩:=st.rO Ac8 (v:=.agg #[.slice a1 xn.Ao.Ad.length c1,.int .i64 xn.Ab.Aa.Ap,.int .i64 xn.Ab.Aa.size,.slice a2 xn.Ab.Aa.An.length c2,.int .i64 xn.Ab.Ai,.int .i64 xn.Ab.quiet,.slice a3 xn.Ab.holds.length c3,.slice a4 xn.Af.length c4,.slice a5 xn.Ac.length c5,.slice a6 xn.down.length c6,.slice a7 xn.up.length c7]) (x:=xn) (F:=F) A9;exact ⟨[.isv Ny _ xn Fq],El hq,rfl,Aon xn _ Fq (Vb hgn)⟩) (fun z _=>?_);refine Ot ?_;refine P2 xn ?_;refine go ?_;intros
 refine Ca (Bjl xn line _ z.a1 z.c1 z.a2 z.c2 z.a3 z.c3 z.a4 z.c4 z.a5 z.c5 z.a6 z.c6 z.a7 z.c7 _ FT hgn FH) fun u hu=>?_;refine go ?_
 refine Ew [0,1] [] (fun _:NL × List Nat=>[(6,.string (Qw xn line))]) (fun z=>[.row g 55 0 [] [.slice z.1.a1 (H4 xn line).Ao.Ad.length z.1.c1,.int .i64 (H4 xn line).Ab.Aa.Ap,.int .i64 (H4 xn line).Ab.Aa.size,.slice z.1.a2 (H4 xn line).Ab.Aa.An.length z.1.c2,.int .i64 (H4 xn line).Ab.Ai,.int .i64 (H4 xn line).Ab.quiet,.slice z.1.a3 (H4 xn line).Ab.holds.length z.1.c3,.slice z.1.a4 (H4 xn line).Af.length z.1.c4,.slice z.1.a5 (H4 xn line).Ac.length z.1.c5,.slice z.1.a6 (H4 xn line).down.length z.1.c6,.slice z.1.a7 (H4 xn line).up.length z.1.c7,.string d,.string p,.int .i64 (k:Int)] [],.own Zx (.agg #[.slice z.1.a1 (H4 xn line).Ao.Ad.length z.1.c1,.int .i64 (H4 xn line).Ab.Aa.Ap,.int .i64 (H4 xn line).Ab.Aa.size,.slice z.1.a2 (H4 xn line).Ab.Aa.An.length z.1.c2,.int .i64 (H4 xn line).Ab.Ai,.int .i64 (H4 xn line).Ab.quiet,.slice z.1.a3 (H4 xn line).Ab.holds.length z.1.c3,.slice z.1.a4 (H4 xn line).Af.length z.1.c4,.slice z.1.a5 (H4 xn line).Ac.length z.1.c5,.slice z.1.a6 (H4 xn line).down.length z.1.c6,.slice z.1.a7 (H4 xn line).up.length z.1.c7]) (H4 xn line) z.2,Gs FT]) (fun _=>True) ?_ fun z _=>?_
 ·cases hb:u.b
  ·rw [hb] at hu;have eM:H4 xn line=xn:=by unfold H4;rw [hu];rfl
   have eT:Qw xn line=⟨#[63]⟩:=by unfold Qw;rw [hu];rfl
   rw [eM,eT];refine go ?_;refine Br (⟨a1,c1,a2,c2,a3,c3,a4,c4,a5,c5,a6,c6,a7,c7⟩,F) trivial
  ·rw [hb] at hu;have eT:Qw xn line=u.t:=by unfold Qw;rw [hu];rfl
   rw [eT];refine go ?_;refine Br (⟨u.z.a1,u.z.c1,u.z.a2,u.z.c2,u.z.a3,u.z.c3,u.z.a4,u.z.c4,u.z.a5,u.z.c5,u.z.a6,u.z.c6,u.z.a7,u.z.c7⟩,u.F) trivial
 refine go ?_;refine Ew [0,1] [0,1,2] (fun _:Unit=>[(6,.string (Te (Qw xn line)))]) (fun _=>[]) (fun _=>True) ?_ fun _ _=>?_
 ·refine A1 rfl (fun h5=>?_) (fun h5=>?_)
  ·have e:Te (Qw xn line)=bz Bde:=by unfold Te;rw [if_pos FH]
   rw [e];exact CM
  ·have e:Te (Qw xn line)=Qw xn line:=by unfold Te;rw [if_neg FH]
   rw [e];exact CM
 have hbs:(Lg.bs (Kz k line.data.toList (Te (Qw xn line)).data.toList)).size≤400:=by
  rw [Lg.Jm];have:=Ad6 (k:=k) FH hGd;omega
 refine Og ?_;intros;refine As [0] [30] ?_;refine Dq 0 1 2 3 ?_;refine Dq 4 5 6 7 ?_;refine Dq 8 9 10 11 ?_;refine Dq 12 13 14 15 ?_;refine Dq 16 17 18 21 ?_;refine Dq 22 23 24 25 ?_;refine dt 26 ?_;refine dN 19 ?_;refine oC ?_;refine cb (fun w st=>Lg.Ye k line (Te (Qw xn line)) _ w FH hGd (Avl (st.get (p:=Gs FT) FL))) ?_;refine dk ?_;refine dt 20 ?_ (hy:=N5 rfl rfl FH);refine Ec 27 28 ?_;refine dt 29 ?_;refine dN 30 ?_;refine oS ?_;refine Tf ?_;refine dd ?_;refine go ?_
 refine ret (⟨⟨z.1.a1,z.1.c1,z.1.a2,z.1.c2,z.1.a3,z.1.c3,z.1.a4,z.1.c4,z.1.a5,z.1.c5,z.1.a6,z.1.c6,z.1.a7,z.1.c7⟩,_⟩:CoS) trivial rfl
structure L28 where
 g:Nat
 a:Option Addr
 c:Nat
 F:List Nat
structure L2S where
 k:Nat
 a:Option Addr
 c:Nat
 F:List Nat
theorem Ba0 (n:Dv) (v:Value) (F:List Nat) (hs:U6 n):Fn prog 71 [v] [.isv Ny v n F] [] (fun (_:Xp)=>True) (fun z=>.agg z.cs.toArray) (fun z=>[.isv Ny (.agg z.cs.toArray) n z.F]):=by
 have hs1:=hs.t;have hs2:=hs.i;have hs3:=hs.h;have hs4:=hs.e;have hs5:=hs.rl;have hs6:=hs.d;have hs7:=hs.u;refine enter func71 rfl ntmps71 fun w0=>?_;refine Ho ?_;rintro a1 c1 F1 a2 c2 F2 a3 c3 F3 a4 c4 F4 a5 c5 F5 a6 c6 F6 a7 c7 F7 rfl l1 l2 l3 l4 l5 l6 l7;refine go ?_;intros;refine Ew [1,2] [0,1,2,3,4,5,6,7,8,9] (fun w:L28=>[(3,Il w.g 0 0)]) (fun w=>[.row w.g 44 0 [] [.int .i64 n.Ab.Aa.Ap,.int .i64 n.Ab.Aa.size,.slice w.a n.Ab.Aa.An.length w.c] [],.ow A8 9 (.slice w.a n.Ab.Aa.An.length w.c) n.Ab.Aa.An w.F]) (fun _=>True) ?_ fun w _=>?_
 ·skip
  refine As [1] [] ?_;refine Dq 0 1 2 3 ?_;refine Dq 4 5 6 7 ?_;refine Dq 9 10 11 12 ?_;refine dM 8 15 ?_ ?_
  ·apply Mp;rfl;intro _;refine C7 A8 ?_;refine dk ?_;refine dM 13 15 ?_ ?_
   ·refine Pf (E:=A8) (xs:=[]) Dx Gz fun a9 c9 F9=>?_;rw [List.nil_append];refine dk ?_;refine dt 14 ?_;refine dN 15 ?_;apply Cr;rfl;intro _;refine dk ?_;refine dN 16 ?_;refine oS ?_;refine dk ?_;refine dd ?_;refine Br (⟨_,a9,c9,F9⟩:L28) trivial
   ·apply Cr;rfl;intro _;exact CC
  ·apply Cr;rfl;intro _;refine dk ?_;refine dN 8 ?_;apply Mp;rfl;intro _;refine C7 A8 ?_;exact CC
 refine go ?_;refine cn (fun w2 st=>Acf _ n.Ao.Ad F1 w2 (st.get (p:=.sl _ _ _ _) FL).2 FH) fun b1 d1 G1=>?_;refine go ?_;intros;rename_i g4;refine As [2,5] [] ?_;refine Dq 0 1 2 3 ?_;refine Dq 4 5 6 8 ?_;refine Ec 9 10 ?_;refine dN 7 ?_;apply Mp;rfl;intro _;refine C7 Bm ?_;refine dk ?_;refine dN 11 ?_;refine Pf (E:=Bm) (xs:=[]) Jj Lc fun b3 d3 G3=>?_;rw [List.nil_append];refine dk ?_;refine Ec 12 13 ?_;refine dN 14 ?_;refine oS ?_;refine dk ?_;refine dd ?_;refine Db B4 149 ?_;refine go ?_
 refine Cd [1,2,4] (fun z:L2S=>[(5,.int .i64 (z.k:Nat))]) (fun z=>[.row g4 52 0 [] [.slice b1 n.Ao.Ad.length d1,.int .i64 n.Ab.Aa.Ap,.int .i64 n.Ab.Aa.size,.slice w.a n.Ab.Aa.An.length w.c,.int .i64 n.Ab.Ai,.int .i64 n.Ab.quiet,.slice b3 n.Ab.holds.length d3,.slice z.a (n.Af.take z.k).length z.c,.slice none 0 0,.slice none 0 0,.slice none 0 0] [],.ow B4 149 (.slice z.a (n.Af.take z.k).length z.c) (n.Af.take z.k) z.F]) (fun z=>z.k≤n.Af.length) (fun z=>n.Af.length - z.k) ⟨0,none,0,[]⟩ (Nat.zero_le _) fun z hz=>?_;obtain ⟨k,za,zc,zF⟩:=z;dsimp only at hz ⊢
 have t4:(n.Af.take k).length≤n.Af.length:=FY
 refine go ?_;refine A1 rfl (fun h1=>?_) (fun h1=>?_)
 ·have hk3:k < n.Af.length:=FH
  refine Q6 (xs:=n.Af) k ?_;rintro hi4 b4 o4 a8 c8 F8 e4 l8;rw [e4];refine Nf n.Af[k] ?_;refine Og ?_;intros;refine As [1,3,10] [11] ?_;refine Dq 0 1 2 3 ?_;refine Ec 4 5 ?_;refine dt 6 ?_;refine dN 7 ?_;refine oC ?_;refine cv (fun w2 st=>Ym _ n.Af[k] F8 w2 (st.get (p:=.isv _ _ _ _) FL) (by have:=hs.e1 _ (List.getElem_mem hk3);omega) (fun x hx=>by have:=hs.e2 _ (List.getElem_mem hk3) x hx;omega)) fun v9 F9=>?_;refine Hp (x:=n.Af[k]) ?_;rintro a9 c9 F10 rfl l9;refine E6 n.Af[k] ?_;refine dk ?_;refine dN 8 ?_;apply Lr;rfl;rfl;rfl;rfl;exact Ll;exact Kv;intro _;refine dk ?_
  refine dN 9 ?_;refine Adi Qq n.Af[k] rfl fun x4 d4 G4=>?_;refine dk ?_;refine dt 10 ?_;refine dN 11 ?_;refine oS ?_;refine Tf ?_;refine dd ?_;rw [←List.take_succ_eq_append_getElem hk3];refine go ?_;rw [show ((k:Nat):Int)+1=((k+1:Nat):Int) by omega];refine Cg ⟨k+1,x4,d4,G4⟩ hk3 (by show n.Af.length - (k+1) < n.Af.length - k;omega)
 rw [show n.Af.take k=n.Af from List.take_of_length_le FH];generalize za=y4;generalize zc=v4;generalize zF=V4;refine Db Bx 156 ?_;refine go ?_
 refine Cd [1,2,4] (fun z:L2S=>[(6,.int .i64 (z.k:Nat))]) (fun z=>[.row g4 52 0 [] [.slice b1 n.Ao.Ad.length d1,.int .i64 n.Ab.Aa.Ap,.int .i64 n.Ab.Aa.size,.slice w.a n.Ab.Aa.An.length w.c,.int .i64 n.Ab.Ai,.int .i64 n.Ab.quiet,.slice b3 n.Ab.holds.length d3,.slice y4 n.Af.length v4,.slice z.a (n.Ac.take z.k).length z.c,.slice none 0 0,.slice none 0 0] [],.ow Bx 156 (.slice z.a (n.Ac.take z.k).length z.c) (n.Ac.take z.k) z.F]) (fun z=>z.k≤n.Ac.length) (fun z=>n.Ac.length - z.k) ⟨0,none,0,[]⟩ (Nat.zero_le _) fun z hz=>?_;obtain ⟨k,za,zc,zF⟩:=z;dsimp only at hz ⊢
 have t4:(n.Ac.take k).length≤n.Ac.length:=FY
 refine go ?_;refine A1 rfl (fun h1=>?_) (fun h1=>?_)
 ·have hk3:k < n.Ac.length:=FH
  refine Kr (xs:=n.Ac) k ?_;rintro hi5 b5 o5 a11 c11 F11 a12 c12 F12 e5 l11 l12;rw [e5];refine Ep n.Ac[k] ?_;refine Og ?_;intros;refine As [1,4,12] [11] ?_;refine Dq 0 1 2 3 ?_;refine Ec 4 5 ?_;refine dt 6 ?_;refine dN 7 ?_;refine oC ?_;refine Ca (Ud n.Ac[k] _ _ (by have:=hs.r _ (List.getElem_mem hk3);omega) (by have:=hs.r _ (List.getElem_mem hk3);omega)) fun s9 _=>?_;refine Ic (x:=n.Ac[k]) ?_;rintro a9 c9 G9 a10 c10 G10 e9 l9 l10;rw [e9];refine Iz n.Ac[k] ?_;refine dk ?_;refine dN 8 ?_;apply Lr;rfl;rfl;rfl;rfl;exact Ll;exact Kv;intro _;refine dk ?_;refine dN 9 ?_
  refine Adi Pj n.Ac[k] rfl fun x4 d4 G4=>?_;refine dk ?_;refine dt 10 ?_;refine dN 11 ?_;refine oS ?_;refine Tf ?_;refine dd ?_;rw [←List.take_succ_eq_append_getElem hk3];refine go ?_;rw [show ((k:Nat):Int)+1=((k+1:Nat):Int) by omega];refine Cg ⟨k+1,x4,d4,G4⟩ hk3 (by show n.Ac.length - (k+1) < n.Ac.length - k;omega)
 rw [show n.Ac.take k=n.Ac from List.take_of_length_le FH];generalize za=y5;generalize zc=v5;generalize zF=V5;refine Db (Ko Ak 233) 158 ?_;refine go ?_
 refine Cd [1,2,4] (fun z:L2S=>[(7,.int .i64 (z.k:Nat))]) (fun z=>[.row g4 52 0 [] [.slice b1 n.Ao.Ad.length d1,.int .i64 n.Ab.Aa.Ap,.int .i64 n.Ab.Aa.size,.slice w.a n.Ab.Aa.An.length w.c,.int .i64 n.Ab.Ai,.int .i64 n.Ab.quiet,.slice b3 n.Ab.holds.length d3,.slice y4 n.Af.length v4,.slice y5 n.Ac.length v5,.slice z.a (n.down.take z.k).length z.c,.slice none 0 0] [],.ow (Ko Ak 233) 158 (.slice z.a (n.down.take z.k).length z.c) (n.down.take z.k) z.F]) (fun z=>z.k≤n.down.length) (fun z=>n.down.length - z.k) ⟨0,none,0,[]⟩ (Nat.zero_le _) fun z hz=>?_;obtain ⟨k,za,zc,zF⟩:=z;dsimp only at hz ⊢
 have t4:(n.down.take k).length≤n.down.length:=FY
 refine go ?_;refine A1 rfl (fun h1=>?_) (fun h1=>?_)
 ·have hk3:k < n.down.length:=FH
  have hq9:=hs.dq _ (List.getElem_mem hk3);refine Nz (E:=Ak) (hz:=FK) (xs:=n.down) k ?_;rintro hi6 b6 o6 a13 c13 F13 e6 l13;rw [e6];refine Og ?_;intros;refine As [0,2,11] [12] ?_;refine Dq 0 1 3 4 ?_;refine Ec 5 6 ?_;refine dt 7 ?_;refine dN 2 ?_;apply Mp;rfl;intro _;refine C7 Ak ?_;refine dk ?_;refine dN 8 ?_;refine Pf (E:=Ak) (xs:=[]) Hg I2 fun a9 c9 F9=>?_;rw [List.nil_append];refine Jt n.down[k] ?_;refine dk ?_;refine dN 9 ?_;apply Lr;rfl;rfl;rfl;rfl;exact Ll;exact Kv;intro _;refine dk ?_;refine dN 10 ?_;refine Adi (V8) n.down[k] rfl fun x4 d4 G4=>?_;refine dk ?_;refine dt 11 ?_
  refine dN 12 ?_;refine oS ?_;refine Tf ?_;refine dd ?_;rw [←List.take_succ_eq_append_getElem hk3];refine go ?_;rw [show ((k:Nat):Int)+1=((k+1:Nat):Int) by omega];refine Cg ⟨k+1,x4,d4,G4⟩ hk3 (by show n.down.length - (k+1) < n.down.length - k;omega)
 rw [show n.down.take k=n.down from List.take_of_length_le FH];generalize za=y6;generalize zc=v6;generalize zF=V6;refine Db (Ko Ak 233) 158 ?_;refine go ?_
 refine Cd [1,2,4] (fun z:L2S=>[(8,.int .i64 (z.k:Nat))]) (fun z=>[.row g4 52 0 [] [.slice b1 n.Ao.Ad.length d1,.int .i64 n.Ab.Aa.Ap,.int .i64 n.Ab.Aa.size,.slice w.a n.Ab.Aa.An.length w.c,.int .i64 n.Ab.Ai,.int .i64 n.Ab.quiet,.slice b3 n.Ab.holds.length d3,.slice y4 n.Af.length v4,.slice y5 n.Ac.length v5,.slice y6 n.down.length v6,.slice z.a (n.up.take z.k).length z.c] [],.ow (Ko Ak 233) 158 (.slice z.a (n.up.take z.k).length z.c) (n.up.take z.k) z.F]) (fun z=>z.k≤n.up.length) (fun z=>n.up.length - z.k) ⟨0,none,0,[]⟩ (Nat.zero_le _) fun z hz=>?_;obtain ⟨k,za,zc,zF⟩:=z;dsimp only at hz ⊢
 have t4:(n.up.take k).length≤n.up.length:=FY
 refine go ?_;refine A1 rfl (fun h1=>?_) (fun h1=>?_)
 ·have hk3:k < n.up.length:=FH
  have hq9:=hs.uq _ (List.getElem_mem hk3);refine Nz (E:=Ak) (hz:=FK) (xs:=n.up) k ?_;rintro hi6 b6 o6 a13 c13 F13 e6 l13;rw [e6];refine Og ?_;intros;refine As [0,2,12] [12] ?_;refine Dq 0 1 3 4 ?_;refine Ec 5 6 ?_;refine dt 7 ?_;refine dN 2 ?_;apply Mp;rfl;intro _;refine C7 Ak ?_;refine dk ?_;refine dN 8 ?_;refine Pf (E:=Ak) (xs:=[]) Hg I2 fun a9 c9 F9=>?_;rw [List.nil_append];refine Jt n.up[k] ?_;refine dk ?_;refine dN 9 ?_;apply Lr;rfl;rfl;rfl;rfl;exact Ll;exact Kv;intro _;refine dk ?_;refine dN 10 ?_;refine Adi (V8) n.up[k] rfl fun x4 d4 G4=>?_;refine dk ?_;refine dt 11 ?_
  refine dN 12 ?_;refine oS ?_;refine Tf ?_;refine dd ?_;rw [←List.take_succ_eq_append_getElem hk3];refine go ?_;rw [show ((k:Nat):Int)+1=((k+1:Nat):Int) by omega];refine Cg ⟨k+1,x4,d4,G4⟩ hk3 (by show n.up.length - (k+1) < n.up.length - k;omega)
 rw [show n.up.take k=n.up from List.take_of_length_le FH];generalize za=y7;generalize zc=v7;generalize zF=V7;refine P2 n ?_;refine go ?_;refine Ac0 Ac8 fun F9=>?_;exact AF
theorem Ap2 (x:Cc) (v:Value) (F:List Nat) (hs:U6 x.Bh):Fn prog 35 [v] [.isv Dd v x F] [] (fun (_:Xp)=>True) (fun z=>.agg z.cs.toArray) (fun z=>[.isv Dd (.agg z.cs.toArray) x z.F]):=by
 refine enter func35 rfl ntmps35 fun w0=>?_;refine Co ?_;rintro a1 c1 F1 a2 c2 F2 a3 c3 F3 a4 c4 F4 a5 c5 F5 a6 c6 F6 a7 c7 F7 rfl s1 s2 l1 l2 l3 l4 l5 l6 l7;refine Gk x.Bh (a1:=a1) (a2:=a2) (a3:=a3) (a4:=a4) (a5:=a5) (a6:=a6) (a7:=a7) ?_;refine Og ?_;intros;refine As [1] [6] ?_;refine Dq 0 1 3 4 ?_;refine dN 2 ?_;refine oC ?_;refine Ca (Ba0 x.Bh _ _ hs) fun z _=>?_;obtain ⟨cs,zF⟩:=z;dsimp only;refine Ho (x:=x.Bh) (v:=.agg cs.toArray) ?_;rintro b1 d1 G1 b2 d2 G2 b3 d3 G3 b4 d4 G4 b5 d5 G5 b6 d6 G6 b7 d7 G7 ev - - - - - - -;obtain rfl:=Uq ev;clear ev;refine dk ?_;refine dt 5 ?_;refine dN 6 ?_
 refine oS ?_;refine Tf ?_;refine dd ?_;refine go ?_;refine D7 x s1 s2 (a1:=b1) (a2:=b2) (a3:=b3) (a4:=b4) (a5:=b5) (a6:=b6) (a7:=b7) ?_;exact AF
end Go.Proofs.YtcmighgaiacgoaaGreatDoor
namespace Go.Proofs.YtcmighgaiacgoaaGreatDoor
open Go.RowKit
open Go.RowKit
theorem Ak8 {α:Type} {O R:Bn α} (hW:Kq O R) {w:World}:∀{xs:List α} {cs:List Value} {G:List Nat},Cy O w cs xs G→∃G',(∀b∈G',b∈G)∧Cy R w cs xs G'
 | [],_,_,h=>⟨[],FI,h.1,rfl⟩
 | x::r,_,_,h=>by
  obtain ⟨c1,c2,F1,F2,rfl,rfl,h1,h2⟩:=h;obtain ⟨G1,s1,r1⟩:=hW.Kn h1;obtain ⟨G2,s2,r2⟩:=Ak8 hW h2;exact ⟨G1++G2,fun b hb=>by rcases List.mem_append.1 hb with hb|hb;simp [s1 b hb];simp [s2 b hb],c1,c2,G1,G2,rfl,rfl,r1,r2⟩
theorem Lv.skip {x:Pc}:∀{B A:List Pc},Lv A B→Lv (x::A) B
 | _,_,.nil=>.nil
 | _,_,.cons hp hr=>.cons (.there hp) hr.skip
theorem Lv.all:∀A:List Pc,Lv A A
 | []=>.nil
 | _::A=>.cons .here (Lv.all A)
section
variable {c:Cx} {fr:Fr} {H:List Pc} {Φ:Gl}
theorem Agq {α:Type} {O R:Bn α} (hW:Kq O R) {cs:List Value} {xs:List α} {G:List Nat} {S:List Pc} (h:∀G',T c fr (.isv (EA R xs.length) (.agg cs.toArray) xs G'::S) Φ) (hp:Cn H (.flat O cs xs G) S:=by exact Da):T c fr H Φ:=.mk fun a w s g=>by
 have s1:=s.pick hp;obtain ⟨-,ho⟩:=s1.on (.flat O cs xs G) FI;obtain ⟨G',hG,hf⟩:=Ak8 hW ho;exact (h G').h a w (s1.conv rfl ⟨_,rfl,rfl,hf⟩ hG) g
theorem Aaz (m:Dv) {l:List Int} {N:Nat} (hT:m.Ao.Ad=l) (hN:N=l.length) (hl:L9 m=true) {a1 a2 a3 a4 a5 a6 a7:Option Addr} {c1 c2 c3 c4 c5 c6 c7:Nat} {F1 FS F4 G4 F5 G5 F6 G6 F7 G7:List Nat} {ys4 ys5 ys6 ys7:List (List Value)} (h4:ys4.length=N) (h5:ys5.length=N) (h6:ys6.length=N) (h7:ys7.length=N)
  (h:∀F,T c fr (.isv Ny (.agg #[.slice a1 N c1,.int .i64 m.Ab.Aa.Ap,.int .i64 m.Ab.Aa.size,.slice a2 m.Ab.Aa.An.length c2,.int .i64 m.Ab.Ai,.int .i64 m.Ab.quiet,.slice a3 m.Ab.holds.length c3,.slice a4 N c4,.slice a5 N c5,.slice a6 N c6,.slice a7 N c7]) m F::H) Φ) (p1:.sl Bb (.slice a1 N c1) l F1∈H:=by exact A9) (p2:.isv Dp (.agg #[.int .i64 m.Ab.Aa.Ap,.int .i64 m.Ab.Aa.size,.slice a2 m.Ab.Aa.An.length c2,.int .i64 m.Ab.Ai,.int .i64 m.Ab.quiet,.slice a3 m.Ab.holds.length c3]) m.Ab FS∈H:=by exact A9) (p4:.sl (EC 2) (.slice a4 N c4) ys4 F4∈H:=by exact A9) (q4:.isv (EA (Bk) N) (.agg ys4.flatten.toArray) m.Af G4∈H:=by exact A9) (p5:.sl (EC 5) (.slice a5 N c5) ys5 F5∈H:=by exact A9) (q5:.isv (EA (Bi) N) (.agg ys5.flatten.toArray) m.Ac G5∈H:=by exact A9) (p6:.sl (EC 1) (.slice a6 N c6) ys6 F6∈H:=by exact A9) (q6:.isv (EA (Ml Ak FK) N) (.agg ys6.flatten.toArray) m.down G6∈H:=by exact A9) (p7:.sl (EC 1) (.slice a7 N c7) ys7 F7∈H:=by exact A9) (q7:.isv (EA (Ml Ak FK) N) (.agg ys7.flatten.toArray) m.up G7∈H:=by exact A9):T c fr H Φ:=by
 obtain ⟨e1,e2,e3,e4⟩:=Bl.1 hl;subst hT hN;refine H3 (hm:=p2) ?_;rintro b2 d2 F2 b3 d3 F3 ev - -;have ev2:=ev;simp only [Value.agg.injEq,Array.mk.injEq,List.cons.injEq,Value.slice.injEq,true_and,and_true] at ev2;obtain ⟨⟨rfl,rfl⟩,rfl,rfl⟩:=ev2;refine Agp (E:=Bk) (xs:=m.Af) rfl FH rfl (fun F8=>?_) (.tail _ (.tail _ p4)) (.tail _ (.tail _ q4));refine Agp (E:=Bi) (xs:=m.Ac) rfl FH rfl (fun F9=>?_) (.tail _ (.tail _ (.tail _ p5))) (.tail _ (.tail _ (.tail _ q5)))
 refine Agp (E:=Ml Ak FK) (xs:=m.down) rfl FH rfl (fun F10=>?_) (.tail _ (.tail _ (.tail _ (.tail _ p6)))) (.tail _ (.tail _ (.tail _ (.tail _ q6))));refine Agp (E:=Ml Ak FK) (xs:=m.up) rfl FH rfl (fun F11=>?_) (.tail _ (.tail _ (.tail _ (.tail _ (.tail _ p7))))) (.tail _ (.tail _ (.tail _ (.tail _ (.tail _ q7)))))
 refine Gk m (a1:=a1) (c1:=c1) (F1:=F1) (a2:=a2) (c2:=c2) (F2:=F2) (a3:=a3) (c3:=c3) (F3:=F3) (a4:=a4) (c4:=c4) (F4:=F8) (a5:=a5) (c5:=c5) (F5:=F9) (a6:=a6) (c6:=c6) (F6:=F10) (a7:=a7) (c7:=c7) (F7:=F11) ?_ (.tail _ (.tail _ (.tail _ (.tail _ (.tail _ (.tail _ p1)))))) (.tail _ (.tail _ (.tail _ (.tail _ (.head _))))) (.tail _ (.tail _ (.tail _ (.tail _ (.tail _ (.head _)))))) (by rw [e1];exact .tail _ (.tail _ (.tail _ (.head _)))) (by rw [e2];exact .tail _ (.tail _ (.head _))) (by rw [e3];exact .tail _ (.head _)) (by rw [e4];exact .head _);rw [e1,e2,e3,e4]
 exact Bjm _ (h _) (.cons .here (Lv.skip (Lv.skip (Lv.skip (Lv.skip (Lv.skip (Lv.skip (Lv.all H))))))))
end
end Go.Proofs.YtcmighgaiacgoaaGreatDoor
namespace Go.Proofs.YtcmighgaiacgoaaGreatDoor
open Go.RowKit
def Sz (x:Cj) (s:ByteArray):Cj:=⟨Df x.Aa s,x.Ai,0,Jw (Df x.Aa s) x.Ai x.holds⟩
theorem Bcb {x:Cj} {s:ByteArray} (h:∀z∈x.holds,x.Ai+1≤z.Ce):Sz x s=Sn x s:=by unfold Sz Sn;rw [Yl h]
theorem Asv (x:Cj) (s:ByteArray) (v:Value) (F:List Nat) (t0:0≤x.Aa.Ap) (t1:x.Aa.Ap≤65535) (hl:x.Aa.An.length≤6) (z1:1≤x.Aa.size) (hm:x.holds.length≤1000) (hn:Ajl x.holds) (hs:s.size≤maxLen) :
  Fn prog 224 [v,.string s] [.isv Dp v x F] [] (fun (_:Amp)=>True) (fun z=>.tuple #[.agg #[.int .i64 (Sz x s).Aa.Ap,.int .i64 (Sz x s).Aa.size,.slice z.a (Sz x s).Aa.An.length z.c,.int .i64 (Sz x s).Ai,.int .i64 (Sz x s).quiet,.slice z.a2 (Sz x s).holds.length z.c2],.agg #[.int .i64 1,.int .i64 (Du x.Aa s).Ae,.int .i64 (Du x.Aa s).Ap,.int .i64 (Du x.Aa s).Fg,.string s]]) (fun z=>[.isv Dp (.agg #[.int .i64 (Sz x s).Aa.Ap,.int .i64 (Sz x s).Aa.size,.slice z.a (Sz x s).Aa.An.length z.c,.int .i64 (Sz x s).Ai,.int .i64 (Sz x s).quiet,.slice z.a2 (Sz x s).holds.length z.c2]) (Sz x s) z.F]):=by
 have hb:=T3 t0 t1;refine enter func224 rfl ntmps224 fun w0=>?_;refine H3 ?_;rintro a1 c1 F1 a2 c2 F2 rfl l1 l2;refine C3 x.Aa ?_;generalize F1=F3;refine go ?_;intros;refine Ca (Ba3 x.Aa s _ F3 hl t0 t1 hs z1) fun y _=>?_;refine Ez (x:=Df x.Aa s) ?_;rintro a5 c5 F5 e5 l5;rw [e5];refine go ?_;intros;refine Ca (Uc x (Df x.Aa s) _ _ F y.2 hb.1 hb.2 FH hn) fun q _=>?_;refine H3 (x:=Y8 x (Df x.Aa s)) ?_;rintro a6 c6 F6 a7 c7 F7 e6 l6 l7;rw [e6];refine go ?_;intros;refine As [0,4] [] ?_;refine Ec 0 1 ?_;refine dN 2 ?_;refine oS ?_;refine dk ?_;refine dN 3 ?_;refine oS ?_;refine dk ?_
 refine dd ?_;refine Hf (Sz x s) ?_;refine go ?_;exact EN
theorem Aw4 (x:Cj) (s:ByteArray) (v:Value) (F:List Nat) (hg:Cz x=true) (hs:s.size≤maxLen) :
  Fn prog 224 [v,.string s] [.isv Dp v x F] [] (fun (_:Amp)=>True) (fun z=>.tuple #[.agg #[.int .i64 (Sn x s).Aa.Ap,.int .i64 (Sn x s).Aa.size,.slice z.a (Sn x s).Aa.An.length z.c,.int .i64 (Sn x s).Ai,.int .i64 (Sn x s).quiet,.slice z.a2 (Sn x s).holds.length z.c2],.agg #[.int .i64 1,.int .i64 (Du x.Aa s).Ae,.int .i64 (Du x.Aa s).Ap,.int .i64 (Du x.Aa s).Fg,.string s]]) (fun z=>[.isv Dp (.agg #[.int .i64 (Sn x s).Aa.Ap,.int .i64 (Sn x s).Aa.size,.slice z.a (Sn x s).Aa.An.length z.c,.int .i64 (Sn x s).Ai,.int .i64 (Sn x s).quiet,.slice z.a2 (Sn x s).holds.length z.c2]) (Sn x s) z.F]):=by
 obtain ⟨gw,hl,t0,t1,k0,k1,hm,hn,hu,hb⟩:=Lx hg;obtain ⟨-,⟨z1, -⟩, -⟩:=Ea.1 gw;have h:=Asv x s v F t0 t1 hl z1 FH (Agt hn) hs;rw [Bcb hu] at h;exact h
theorem Alj (n:Dv) (s:Kh) (v:Value) (F FT:List Nat) (hss:s.data.size≤maxLen) (g1:At n=true) (g2:Es s=true):Fn prog 151 [v,.agg #[.int .i64 s.Cp,.int .i64 s.node,.string s.data]] [.isv Ny v n F,Gs FT] [] (fun (_:StZ)=>True) (fun z=>.tuple #[.agg z.cs.toArray,.slice z.a (Ck n s).2.1.length z.c,.bool (Ck n s).2.2]) (fun z=>[.isv Ny (.agg z.cs.toArray) (Ck n s).1 z.F,.ow A8 9 (.slice z.a (Ck n s).2.1.length z.c) (Ck n s).2.1 z.Fe]):=by
 have hG:=Az.1 g1;have h8:=H8 hG.t;have hn8:=h8.n1;have hn2:=h8.n0;obtain ⟨q1,q2,q3,q4⟩:=Bl.1 hG.l;have hkl:=Vx n.Ao.Ad 0;have hkx:∀x∈Iw n.Ao.Ad 0,0≤x∧x.toNat < n.down.length:=fun x hx=>by have:=L0 (i:=0) h8 hx;omega
 have hd6:∀q∈n.down,q.length≤6:=fun q hq=>(C9 ((In g1).2.2.1 q hq)).1;have hck:=Y2 hG.s;refine enter func151 rfl ntmps151 fun w0=>?_;refine Ho ?_;rintro a1 c1 F1 a2 c2 F2 a3 c3 F3 a4 c4 F4 a5 c5 F5 a6 c6 F6 a7 c7 F7 rfl l1 l2 l3 l4 l5 l6 l7;refine go ?_;intros;refine Ca (Ap0 n _ F g1) fun z _=>?_;obtain ⟨w,y⟩:=z;dsimp only;refine A4 (E:=Bb) (xs:=n.Ao.Ad) fun Ft=>?_;refine Aep (E:=B4) (xs:=n.Af) Qq (m:=2) rfl fun ye Fe Ge he1 he2=>?_;refine Agq (R:=Bk) (xs:=n.Af) Mh fun He=>?_;refine Aep (E:=Bx) (xs:=n.Ac) Pj (m:=5) rfl fun yr Fr Gr hr1 hr2=>?_;refine Agq (R:=Bi) (xs:=n.Ac) R5 fun Hr=>?_
 refine Aep (E:=Ko Ak 233) (xs:=n.down) V8 (m:=1) rfl fun yd Fd Gd hd1 hd2=>?_;refine Agq (R:=Ml Ak FK) (xs:=n.down) (Qt (Kq.refl Ak) FK _) fun Hd=>?_;refine Aep (E:=Ko Ak 233) (xs:=n.up) V8 (m:=1) rfl fun yu Fu Gu hu1 hu2=>?_;refine Agq (R:=Ml Ak FK) (xs:=n.up) (Qt (Kq.refl Ak) FK _) fun Hu=>?_;rw [q1,q2,q3,q4];refine I3 n.Ao (a1:=w.a1) ?_;refine go ?_;intros;refine A1 rfl (fun h1=>?_) (fun h1=>?_)
 ·have e1:Bo n s=some (Aiz n s.data,[]):=by unfold Bo;rw [if_pos h1]
  have hgm:=Nv g1 g2 e1;rw [show Ck n s=(Aiz n s.data,[],true) by unfold Ck;rw [g1,g2,e1];rfl];refine go ?_;refine Ca (Aw4 n.Ab s.data _ _ hG.s hss) fun u _=>?_;refine go ?_;intros;refine As [0,3] [] ?_;refine Dq 0 1 2 4 ?_;refine dM 3 5 ?_ ?_
  ·refine oC ?_;refine Ca (Qm n.Ao 0 _ Ft (Tw h8.z (Int.le_refl _)) ⟨FH,FH⟩) fun v _=>?_;refine A4 (E:=Bb) (xs:=Iw n.Ao.Ad 0) fun Fk=>?_;refine dk ?_;refine dN 5 ?_;apply Lr;rfl;rfl;rfl;rfl;exact Ll;exact Kv;intro _;refine Le (E:=Ak) (xs:=[Du n.Ab.Aa s.data]) (Dc (Du n.Ab.Aa s.data) hss) ?_ FI;refine A4 (E:=Ak) (xs:=[Du n.Ab.Aa s.data]) fun Fp=>?_;refine dk ?_;refine dN 6 ?_;refine oC ?_;refine Ca (Ok n.down (Iw n.Ao.Ad 0) [Du n.Ab.Aa s.data] _ _ _ _ _ _ _ _ _ _ _ _ _ _ _ _ _ _ _ _ _ _ _ _ _ yd Fd Hd _ _ Fk _ _ Fp hkx hd6) fun x _=>?_;refine dk ?_;refine dd ?_
   refine go ?_;intros;refine C7 A8 ?_;refine go ?_;refine Fs (ys:=ye) fun _ w4=>?_;refine Fs (ys:=yr) fun _ w5=>?_;refine Fs (ys:=x.ys) fun _ w6=>?_;refine Fs (ys:=yu) fun _ w7=>?_;refine A4 (E:=EC 2) (xs:=ye) fun _=>?_;refine A4 (E:=EC 5) (xs:=yr) fun _=>?_;refine A4 (E:=EC 1) (xs:=x.ys) fun _=>?_;refine A4 (E:=EC 1) (xs:=yu) fun _=>?_;refine Aaz (Aiz n s.data) (l:=n.Ao.Ad) (N:=n.Ao.Ad.length) rfl rfl (Az.1 hgm).l w4 w5 w6 w7 (a1:=w.a1) (c1:=w.c1) (a2:=u.a) (c2:=u.c) (a3:=u.a2) (c3:=u.c2) (a4:=y.a4) (c4:=y.c4) (a5:=y.a5) (c5:=y.c5) (a6:=y.a6) (c6:=y.c6) (a7:=y.a7) (c7:=y.c7) fun FN=>?_
   exact CU
  ·apply Lr;rfl;rfl;rfl;rfl;exact Ll;exact Kv;intro _;refine Le (E:=Ak) (xs:=[Du n.Ab.Aa s.data]) (Dc (Du n.Ab.Aa s.data) hss) ?_ FI;refine A4 (E:=Ak) (xs:=[Du n.Ab.Aa s.data]) fun Fp=>?_;refine dk ?_;refine dN 3 ?_;refine oC ?_;refine Ca (Qm n.Ao 0 _ Ft (Tw h8.z (Int.le_refl _)) ⟨FH,FH⟩) fun v _=>?_;refine A4 (E:=Bb) (xs:=Iw n.Ao.Ad 0) fun Fk=>?_;refine dk ?_;refine dN 6 ?_;refine oC ?_;refine Ca (Ok n.down (Iw n.Ao.Ad 0) [Du n.Ab.Aa s.data] _ _ _ _ _ _ _ _ _ _ _ _ _ _ _ _ _ _ _ _ _ _ _ _ _ yd Fd Hd _ _ Fk _ _ Fp hkx hd6) fun x _=>?_;refine dk ?_;refine dd ?_
   refine go ?_;intros;refine C7 A8 ?_;refine go ?_;refine Fs (ys:=ye) fun _ w4=>?_;refine Fs (ys:=yr) fun _ w5=>?_;refine Fs (ys:=x.ys) fun _ w6=>?_;refine Fs (ys:=yu) fun _ w7=>?_;refine A4 (E:=EC 2) (xs:=ye) fun _=>?_;refine A4 (E:=EC 5) (xs:=yr) fun _=>?_;refine A4 (E:=EC 1) (xs:=x.ys) fun _=>?_;refine A4 (E:=EC 1) (xs:=yu) fun _=>?_;refine Aaz (Aiz n s.data) (l:=n.Ao.Ad) (N:=n.Ao.Ad.length) rfl rfl (Az.1 hgm).l w4 w5 w6 w7 (a1:=w.a1) (c1:=w.c1) (a2:=u.a) (c2:=u.c) (a3:=u.a2) (c3:=u.c2) (a4:=y.a4) (c4:=y.c4) (a5:=y.a5) (c5:=y.c5) (a6:=y.a6) (c6:=y.c6) (a7:=y.a7) (c7:=y.c7) fun FN=>?_
   exact CU
 refine go ?_;refine A1 rfl (fun h4=>?_) (fun h4=>?_)
 ·refine go ?_;refine A1 rfl (fun hc=>?_) (fun hc=>?_)
  ·have e1:Bo n s=none:=by unfold Bo;rw [if_neg h1,if_pos h4,if_pos hc]
   rw [show Ck n s=(Xn,[],false) by unfold Ck;rw [g1,g2,e1];rfl];exact AB
  ·have e1:Bo n s=some (Gp n):=by unfold Bo;rw [if_neg h1,if_pos h4,if_neg hc]
   have hgm:=Nv g1 g2 e1;rw [show Ck n s=((Gp n).1,(Gp n).2,true) by unfold Ck;rw [g1,g2,e1];rfl];refine go ?_;refine Ca (Axe n w.a1 w.c1 y.a4 y.c4 y.a5 y.c5 y.a6 y.c6 y.a7 y.c7 w.s.a w.s.a2 w.s.c w.s.c2 Ft w.s.F FT ⟨⟨ye,Fe,He⟩,⟨yr,Fr,Hr⟩,⟨yd,Fd,Hd⟩,⟨yu,Fu,Hu⟩⟩ g1 FH) fun x _=>?_;refine go ?_;intros;refine Fs (ys:=x.1.e.ys) fun _ w4=>?_;refine Fs (ys:=x.1.r.ys) fun _ w5=>?_;refine Fs (ys:=x.1.d.ys) fun _ w6=>?_;refine Fs (ys:=x.1.u.ys) fun _ w7=>?_;refine A4 (E:=EC 2) (xs:=x.1.e.ys) fun _=>?_;refine A4 (E:=EC 5) (xs:=x.1.r.ys) fun _=>?_;refine A4 (E:=EC 1) (xs:=x.1.d.ys) fun _=>?_
   refine A4 (E:=EC 1) (xs:=x.1.u.ys) fun _=>?_;refine Aaz ((Gp n).1) (l:=n.Ao.Ad) (N:=n.Ao.Ad.length) (congrArg Qe.Ad (T4 e1)) rfl (Az.1 hgm).l w4 w5 w6 w7 (a1:=w.a1) (c1:=w.c1) (a2:=x.2.1.a) (c2:=x.2.1.c) (a3:=x.2.1.a2) (c3:=x.2.1.c2) (a4:=y.a4) (c4:=y.c4) (a5:=y.a5) (c5:=y.c5) (a6:=y.a6) (c6:=y.c6) (a7:=y.a7) (c7:=y.c7) fun FN=>?_;exact CU
 have htk0:Bo n s=C2 n s:=by unfold Bo;rw [if_neg h1,if_neg h4]
 have hf:Q0 s.node=true:=by
  have:=g2;unfold Es at this;rw [if_neg h1,if_neg h4] at this;simp only [Bool.and_eq_true] at this;exact this.1.2
 obtain ⟨f1,f2⟩:=O0.1 hf;obtain ⟨i,hi⟩:∃i:Nat,s.node=((i:Nat):Int):=⟨s.node.toNat,FH⟩;have i0:i≠0:=FH
 rw [hi];by_cases k5:s.Cp=5
 ·have hu:X4 s=true:=by unfold X4;rw [decide_eq_true k5];rfl
  have hq:∀h:i < n.up.length,Va n s=n.up[i]:=fun h=>by unfold Va;rw [hu,if_pos rfl,hi,Int.toNat_natCast];exact Qj h []
  have hpo:Hb n s=Pb n i:=HS
  refine go ?_;refine Dy rfl rfl (fun g5=>?_) (fun g5=>?_)
  rotate_left
  ·exact absurd k5 g5
  refine go ?_;refine Dy rfl rfl (fun h6=>?_) (fun h6=>?_)
  ·have e1:C2 n s=none:=LB
   exact BG
  have hil:i < n.up.length:=FH
  have hq:=hq hil;refine Fs (ys:=yu) fun hm hlr=>?_;refine Ai0 (ys:=yu) (xs:=n.up) i hm FH FH fun h9 _ Gq=>?_;refine Adu (x:=n.up[i]) fun a9 c9 e9 l9=>?_;have e10:yu[i]=[.slice a9 n.up[i].length c9]:=KH
  refine Pv (E:=EC 1) (xs:=yu) (m:=1) (Me 1) i ?_ FM rfl h9;rintro _ gq Aq cs Bq ea j2 j3 hHq;rw [ea];obtain ⟨j4, -, -⟩:=j3 w0;rw [e10] at j4;subst j4;refine go ?_;refine A1 rfl (fun h7=>?_) (fun h7=>?_)
  ·have e1:C2 n s=none:=IW
   exact BG
  have h0:0 < n.up[i].length:=FH
  refine Sa (xs:=n.up[i]) 0 ?_;rintro hi3 b3 o3 e3 s3;rw [e3];refine go ?_;intros;refine As [2,17] [10] ?_;refine Dq 0 1 2 3 ?_;refine Dq 4 5 6 7 ?_;refine dN 8 ?_;refine sld 1 fun a8 c8 F8=>?_;refine dk ?_;refine dt 9 ?_;refine dN 10 ?_;refine oS ?_;refine Tf ?_;refine dd ?_;refine O5 (E:=EC 1) (xs:=yu) [.slice a8 (n.up[i].drop 1).length c8] hHq (fun _=>⟨rfl,⟨rfl,GT⟩,rfl⟩) ?_;refine Aem (E:=Ak) (x:=n.up[i].drop 1) FK ?_;refine Um (E:=Ml Ak FK) (ys:=yu) (xs:=n.up) (x:=n.up[i].drop 1) i rfl hm FH fun Gv=>?_
  rw [←ea,show n.up.set i (n.up[i].drop 1)=(Pb n i).up from (Ik FH).symm];have hmem:=Pl h0;have hpk:Bt (N1 n.up[i])=true:=Nu (hq▸(M0 (s:=s) g1).1) hmem;have hpz:(N1 n.up[i]).data.size≤maxLen:=by
   exact AN
  have hgp:At (Pb n i)=true:=hpo▸Mb g1;have hGp:=Az.1 hgp;have hPg:=Yu h0;rw [←hPg];generalize hP:N1 n.up[i]=P at *;have htk:C2 n s=some (Q5 (Pb n i) i P,[]):=by
   unfold C2;rw [if_neg FH,hq,if_neg FH,hpo,hP,hi,Int.toNat_natCast];rw [if_neg FH,if_pos k5]
  have hgm:=Nv g1 g2 (htk0.trans htk);rw [show Ck n s=(Q5 (Pb n i) i P,[],true) by unfold Ck;rw [g1,g2,htk0,htk];rfl];refine go ?_;refine A1 rfl (fun k2=>?_) (fun k2=>?_)
  ·exact absurd k2 FH
  refine go ?_;refine A1 rfl (fun m5=>?_) (fun m5=>?_)
  rotate_left
  ·exact absurd k5 m5
  have hdp:∀q∈(Pb n i).down,q.length≤6:=fun q hq=>(C9 ((In hgp).2.2.1 q hq)).1;have hup:∀q∈(Pb n i).up,q.length≤6:=fun q hq=>(C9 ((In hgp).2.2.2 q hq)).1;refine go ?_;refine Ca (Bes (Pb n i) i P w.a1 w.c1 y.a4 y.c4 y.a5 y.c5 y.a6 y.c6 y.a7 y.c7 w.s.a w.s.a2 w.s.c w.s.c2 Ft w.s.F ⟨⟨ye,Fe,He⟩,⟨yr,Fr,Hr⟩,⟨yd,Fd,Hd⟩,⟨yu.set i [.slice a8 (n.up[i].drop 1).length c8],[gq],Gv⟩⟩ hGp.l i0 JD (H8 hGp.t) hGp.s (fun k hk hkl hl=>by obtain ⟨x1,x2,x3,x4,r⟩:=hGp.rn (i:=k) hkl;rw [Ju x1];exact (r.hn hk hl).1) hpk hpz hdp hup) fun x _=>?_;refine go ?_;intros;refine C7 A8 ?_
  refine go ?_;refine Fs (ys:=x.1.e.ys) fun _ w4=>?_;refine Fs (ys:=x.1.r.ys) fun _ w5=>?_;refine Fs (ys:=x.1.d.ys) fun _ w6=>?_;refine Fs (ys:=x.1.u.ys) fun _ w7=>?_;refine A4 (E:=EC 2) (xs:=x.1.e.ys) fun _=>?_;refine A4 (E:=EC 5) (xs:=x.1.r.ys) fun _=>?_;refine A4 (E:=EC 1) (xs:=x.1.d.ys) fun _=>?_;refine A4 (E:=EC 1) (xs:=x.1.u.ys) fun _=>?_
  refine Aaz (Q5 (Pb n i) i P) (l:=n.Ao.Ad) (N:=n.Ao.Ad.length) (congrArg Qe.Ad (T4 (htk0.trans htk))) rfl (Az.1 hgm).l w4 w5 w6 w7 (a1:=w.a1) (c1:=w.c1) (a2:=x.2.a) (c2:=x.2.c) (a3:=x.2.a2) (c3:=x.2.c2) (a4:=y.a4) (c4:=y.c4) (a5:=y.a5) (c5:=y.c5) (a6:=y.a6) (c6:=y.c6) (a7:=y.a7) (c7:=y.c7) fun FN=>?_;exact CU
 by_cases k6:s.Cp=6
 ·have hu:X4 s=true:=by unfold X4;rw [decide_eq_true k6,Bool.or_true]
  have hq:∀h:i < n.up.length,Va n s=n.up[i]:=fun h=>by unfold Va;rw [hu,if_pos rfl,hi,Int.toNat_natCast];exact Qj h []
  have hpo:Hb n s=Pb n i:=HS
  refine go ?_;refine Dy rfl rfl (fun g5=>?_) (fun g5=>?_)
  ·exact absurd g5 FH
  refine go ?_;refine A1 rfl (fun g6=>?_) (fun g6=>?_)
  rotate_left
  ·exact absurd k6 g6
  refine go ?_;refine Dy rfl rfl (fun h6=>?_) (fun h6=>?_)
  ·have e1:C2 n s=none:=LB
   exact BG
  have hil:i < n.up.length:=FH
  have hq:=hq hil;refine Fs (ys:=yu) fun hm hlr=>?_;refine Ai0 (ys:=yu) (xs:=n.up) i hm FH FH fun h9 _ Gq=>?_;refine Adu (x:=n.up[i]) fun a9 c9 e9 l9=>?_;have e10:yu[i]=[.slice a9 n.up[i].length c9]:=KH
  refine Pv (E:=EC 1) (xs:=yu) (m:=1) (Me 1) i ?_ FM rfl h9;rintro _ gq Aq cs Bq ea j2 j3 hHq;rw [ea];obtain ⟨j4, -, -⟩:=j3 w0;rw [e10] at j4;subst j4;refine go ?_;refine A1 rfl (fun h7=>?_) (fun h7=>?_)
  ·have e1:C2 n s=none:=IW
   exact BG
  have h0:0 < n.up[i].length:=FH
  refine Sa (xs:=n.up[i]) 0 ?_;rintro hi3 b3 o3 e3 s3;rw [e3];refine go ?_;intros;refine As [2,17] [10] ?_;refine Dq 0 1 2 3 ?_;refine Dq 4 5 6 7 ?_;refine dN 8 ?_;refine sld 1 fun a8 c8 F8=>?_;refine dk ?_;refine dt 9 ?_;refine dN 10 ?_;refine oS ?_;refine Tf ?_;refine dd ?_;refine O5 (E:=EC 1) (xs:=yu) [.slice a8 (n.up[i].drop 1).length c8] hHq (fun _=>⟨rfl,⟨rfl,GT⟩,rfl⟩) ?_;refine Aem (E:=Ak) (x:=n.up[i].drop 1) FK ?_;refine Um (E:=Ml Ak FK) (ys:=yu) (xs:=n.up) (x:=n.up[i].drop 1) i rfl hm FH fun Gv=>?_
  rw [←ea,show n.up.set i (n.up[i].drop 1)=(Pb n i).up from (Ik FH).symm];have hmem:=Pl h0;have hpk:Bt (N1 n.up[i])=true:=Nu (hq▸(M0 (s:=s) g1).1) hmem;have hpz:(N1 n.up[i]).data.size≤maxLen:=by
   exact AN
  have hgp:At (Pb n i)=true:=hpo▸Mb g1;have hGp:=Az.1 hgp;have hPg:=Yu h0;rw [←hPg];generalize hP:N1 n.up[i]=P at *;have htk:C2 n s=some (Pb n i,[]):=by
   exact FB
  have hgm:=Nv g1 g2 (htk0.trans htk);rw [show Ck n s=(Pb n i,[],true) by unfold Ck;rw [g1,g2,htk0,htk];rfl];refine go ?_;refine A1 rfl (fun k2=>?_) (fun k2=>?_)
  ·exact absurd k2 FH
  refine go ?_;refine A1 rfl (fun m5=>?_) (fun m5=>?_)
  ·exact absurd m5 FH
  refine go ?_;intros;refine C7 A8 ?_;refine go ?_;refine Fs (ys:=ye) fun _ w4=>?_;refine Fs (ys:=yr) fun _ w5=>?_;refine Fs (ys:=yd) fun _ w6=>?_;refine Fs (ys:=(yu.set i [.slice a8 (n.up[i].drop 1).length c8])) fun _ w7=>?_;refine A4 (E:=EC 2) (xs:=ye) fun _=>?_;refine A4 (E:=EC 5) (xs:=yr) fun _=>?_;refine A4 (E:=EC 1) (xs:=yd) fun _=>?_;refine A4 (E:=EC 1) (xs:=(yu.set i [.slice a8 (n.up[i].drop 1).length c8])) fun _=>?_
  refine Aaz (Pb n i) (l:=n.Ao.Ad) (N:=n.Ao.Ad.length) rfl rfl (Az.1 hgm).l w4 w5 w6 w7 (a1:=w.a1) (c1:=w.c1) (a2:=w.s.a) (c2:=w.s.c) (a3:=w.s.a2) (c3:=w.s.c2) (a4:=y.a4) (c4:=y.c4) (a5:=y.a5) (c5:=y.c5) (a6:=y.a6) (c6:=y.c6) (a7:=y.a7) (c7:=y.c7) fun FN=>?_;exact CU
 have hu:X4 s=false:=by unfold X4;rw [decide_eq_false k5,decide_eq_false k6];rfl
 have hq:∀h:i < n.down.length,Va n s=n.down[i]:=fun h=>by unfold Va;rw [hu,if_neg FK,hi,Int.toNat_natCast];exact Qj h []
 have hpo:Hb n s=Rf n i:=by unfold Hb;rw [hu,if_neg FK,hi,Int.toNat_natCast]
 refine go ?_;refine Dy rfl rfl (fun g5=>?_) (fun g5=>?_)
 ·exact absurd g5 k5
 refine go ?_;refine A1 rfl (fun g6=>?_) (fun g6=>?_)
 ·exact absurd g6 k6
 refine go ?_;refine Dy rfl rfl (fun h6=>?_) (fun h6=>?_)
 ·have e1:C2 n s=none:=LB
  exact BG
 have hil:i < n.down.length:=FH
 have hq:=hq hil;refine Fs (ys:=yd) fun hm hlr=>?_;refine Ai0 (ys:=yd) (xs:=n.down) i hm FH FH fun h9 _ Gq=>?_;refine Adu (x:=n.down[i]) fun a9 c9 e9 l9=>?_;have e10:yd[i]=[.slice a9 n.down[i].length c9]:=KH
 refine Pv (E:=EC 1) (xs:=yd) (m:=1) (Me 1) i ?_ FM rfl h9;rintro _ gq Aq cs Bq ea j2 j3 hHq;rw [ea];obtain ⟨j4, -, -⟩:=j3 w0;rw [e10] at j4;subst j4;refine go ?_;refine A1 rfl (fun h7=>?_) (fun h7=>?_)
 ·have e1:C2 n s=none:=IW
  exact BG
 have h0:0 < n.down[i].length:=FH
 refine Sa (xs:=n.down[i]) 0 ?_;rintro hi3 b3 o3 e3 s3;rw [e3];refine go ?_;intros;refine As [2,17] [10] ?_;refine Dq 0 1 2 3 ?_;refine Dq 4 5 6 7 ?_;refine dN 8 ?_;refine sld 1 fun a8 c8 F8=>?_;refine dk ?_;refine dt 9 ?_;refine dN 10 ?_;refine oS ?_;refine Tf ?_;refine dd ?_;refine O5 (E:=EC 1) (xs:=yd) [.slice a8 (n.down[i].drop 1).length c8] hHq (fun _=>⟨rfl,⟨rfl,GT⟩,rfl⟩) ?_;refine Aem (E:=Ak) (x:=n.down[i].drop 1) FK ?_;refine Um (E:=Ml Ak FK) (ys:=yd) (xs:=n.down) (x:=n.down[i].drop 1) i rfl hm FH fun Gv=>?_
 rw [←ea,show n.down.set i (n.down[i].drop 1)=(Rf n i).down from (Ik FH).symm];have hmem:=Pl h0;have hpk:Bt (N1 n.down[i])=true:=Nu (hq▸(M0 (s:=s) g1).1) hmem;have hpz:(N1 n.down[i]).data.size≤maxLen:=by
  exact AN
 have hgp:At (Rf n i)=true:=hpo▸Mb g1;have hGp:=Az.1 hgp;have hPg:=Yu h0;rw [←hPg];generalize hP:N1 n.down[i]=P at *;have htk:C2 n s=if s.Cp=2 then some (C4 (Rf n i) i P) else some (Rf n i,[]):=by
  unfold C2;rw [if_neg FH,hq,if_neg FH,hpo,hP,hi,Int.toNat_natCast]
  split
  ·rfl
  ·first|rfl|rw [if_neg k5]
 have hdp:∀q∈(Rf n i).down,q.length≤6:=fun q hq=>(C9 ((In hgp).2.2.1 q hq)).1;refine go ?_;refine A1 rfl (fun k2=>?_) (fun k2=>?_)
 ·rw [if_pos k2] at htk;have hgm:=Nv g1 g2 (htk0.trans htk);rw [show Ck n s=((C4 (Rf n i) i P).1,(C4 (Rf n i) i P).2,true) by unfold Ck;rw [g1,g2,htk0,htk];rfl];refine go ?_;have hls:(C4 (Rf n i) i P).1.Ab=n.Ab:=by unfold C4;split <;> rfl
  refine As [4,8,20] [] ?_;refine Dq 0 1 2 3 ?_;refine dt 4 ?_;refine dN 5 ?_;refine oC ?_
  refine Ca (Ana (Rf n i) i P w.a1 w.c1 y.a4 y.c4 y.a5 y.c5 y.a6 y.c6 y.a7 y.c7 w.s.a w.s.a2 n.Ab.Aa.An.length w.s.c n.Ab.holds.length w.s.c2 _ _ _ _ Ft ⟨⟨ye,Fe,He⟩,⟨yr,Fr,Hr⟩,⟨yd.set i [.slice a8 (n.down[i].drop 1).length c8],[gq],Gv⟩,⟨yu,Fu,Hu⟩⟩ FT hGp.l JD FH (H8 hGp.t) (fun hl=>by obtain ⟨x1,x2,x3,x4,r⟩:=hGp.rn (i:=i) JD;rw [Hh x2];exact (r.hf i0 hl).2.1) (fun hl=>by obtain ⟨x1,x2,x3,x4,r⟩:=hGp.rn (i:=i) JD;rw [Ju x1];exact (r.hn i0 hl).1) hpk hpz hdp) fun x _=>?_;refine dk ?_
  refine dN 6 ?_;refine oS ?_;refine dk ?_;refine Ec 7 8 ?_;refine dd ?_;refine go ?_;rw [←hls];refine Fs (ys:=x.1.e.ys) fun _ w4=>?_;refine Fs (ys:=x.1.r.ys) fun _ w5=>?_;refine Fs (ys:=x.1.d.ys) fun _ w6=>?_;refine Fs (ys:=x.1.u.ys) fun _ w7=>?_;refine A4 (E:=EC 2) (xs:=x.1.e.ys) fun _=>?_;refine A4 (E:=EC 5) (xs:=x.1.r.ys) fun _=>?_;refine A4 (E:=EC 1) (xs:=x.1.d.ys) fun _=>?_;refine A4 (E:=EC 1) (xs:=x.1.u.ys) fun _=>?_
  refine Aaz ((C4 (Rf n i) i P).1) (l:=n.Ao.Ad) (N:=n.Ao.Ad.length) (congrArg Qe.Ad (T4 (htk0.trans htk))) rfl (Az.1 hgm).l w4 w5 w6 w7 (a1:=w.a1) (c1:=w.c1) (a2:=w.s.a) (c2:=w.s.c) (a3:=w.s.a2) (c3:=w.s.c2) (a4:=y.a4) (c4:=y.c4) (a5:=y.a5) (c5:=y.c5) (a6:=y.a6) (c6:=y.c6) (a7:=y.a7) (c7:=y.c7) fun FN=>?_;refine ret (⟨_,FN,x.2.a,x.2.c,x.2.F⟩:StZ) trivial rfl
 ·rw [if_neg k2] at htk;have hgm:=Nv g1 g2 (htk0.trans htk);rw [show Ck n s=(Rf n i,[],true) by unfold Ck;rw [g1,g2,htk0,htk];rfl];refine go ?_;refine A1 rfl (fun m5=>?_) (fun m5=>?_)
  ·exact absurd m5 k5
  refine go ?_;intros;refine C7 A8 ?_;refine go ?_;refine Fs (ys:=ye) fun _ w4=>?_;refine Fs (ys:=yr) fun _ w5=>?_;refine Fs (ys:=(yd.set i [.slice a8 (n.down[i].drop 1).length c8])) fun _ w6=>?_;refine Fs (ys:=yu) fun _ w7=>?_;refine A4 (E:=EC 2) (xs:=ye) fun _=>?_;refine A4 (E:=EC 5) (xs:=yr) fun _=>?_;refine A4 (E:=EC 1) (xs:=(yd.set i [.slice a8 (n.down[i].drop 1).length c8])) fun _=>?_;refine A4 (E:=EC 1) (xs:=yu) fun _=>?_
  refine Aaz (Rf n i) (l:=n.Ao.Ad) (N:=n.Ao.Ad.length) rfl rfl (Az.1 hgm).l w4 w5 w6 w7 (a1:=w.a1) (c1:=w.c1) (a2:=w.s.a) (c2:=w.s.c) (a3:=w.s.a2) (c3:=w.s.c2) (a4:=y.a4) (c4:=y.c4) (a5:=y.a5) (c5:=y.c5) (a6:=y.a6) (c6:=y.c6) (a7:=y.a7) (c7:=y.c7) fun FN=>?_;exact CU
end Go.Proofs.YtcmighgaiacgoaaGreatDoor
namespace Go.Proofs.YtcmighgaiacgoaaGreatDoor

open Go.RowKit
end Go.Proofs.YtcmighgaiacgoaaGreatDoor
namespace Go.Proofs.YtcmighgaiacgoaaGreatDoor
open Go.RowKit
structure DqS where
 x:NE
 b:Bool
 cs:List Value
 F:List Nat
 a:Option Addr
 c:Nat
 Fe:List Nat
structure DqK where
 k:Nat
 cs:List Value
 F:List Nat
 a:Option Addr
 c:Nat
 Fe:List Nat
theorem Ak5 (w:World):∀xs:List Int,Cy Bb w (xs.map (Value.int .i64)) xs []
 | []=>⟨rfl,rfl⟩
 | x::r=>⟨[.int .i64 x],r.map (Value.int .i64),[],[],rfl,rfl,⟨rfl,rfl⟩,Ak5 w r⟩
theorem Aqy {n:Dv} {s:Kh} (e:Bo n s=none):Ck n s=(Xn,[],false):=by
 unfold Ck
 split
 ·rw [e]
 ·rfl
theorem Aqz {n:Dv} {s:Kh} {r:NE} (g1:At n=true) (g2:Es s=true) (e:Bo n s=some r):Ck n s=(r.1,r.2,true):=by unfold Ck;rw [g1,g2,e];rfl
theorem Asy (n:Dv) (v:Value) (F FT:List Nat) (hg:At n=true):Fn prog 144 [v] [.isv Ny v n F,Gs FT] [] (fun (_:StZ)=>True) (fun z=>.tuple #[.agg z.cs.toArray,.slice z.a (Q9 n).2.length z.c]) (fun z=>[.isv Ny (.agg z.cs.toArray) (Q9 n).1 z.F,.ow A8 9 (.slice z.a (Q9 n).2.length z.c) (Q9 n).2 z.Fe]):=by
 have hwn:=Bdf hg;refine enter func144 rfl ntmps144 fun w0=>?_;refine Ho ?_;rintro a1 c1 F1 a2 c2 F2 a3 c3 F3 a4 c4 F4 a5 c5 F5 a6 c6 F6 a7 c7 F7 rfl l1 l2 l3 l4 l5 l6 l7;refine go ?_;intros;refine Ca (Ap0 n _ F hg) fun z _=>?_;obtain ⟨w,y⟩:=z;dsimp only;refine A4 (E:=Bb) (xs:=n.Ao.Ad) fun Ft=>?_;refine Ac1 Mh (xs:=n.Af) fun He=>?_;refine Ac1 R5 (xs:=n.Ac) fun Hr=>?_;refine Ac1 (Qt (Kq.refl Ak) FK _) (xs:=n.down) fun Hd=>?_;refine Ac1 (Qt (Kq.refl Ak) FK _) (xs:=n.up) fun Hu=>?_;refine H3 (x:=n.Ab) ?_;rintro b2 d2 G2 b3 d3 G3 ev - -
 simp only [Value.agg.injEq,Array.mk.injEq,List.cons.injEq,Value.slice.injEq,true_and,and_true] at ev;obtain ⟨⟨rfl,rfl⟩,rfl,rfl⟩:=ev;refine Gk n (a1:=w.a1) (c1:=w.c1) (a2:=w.s.a) (c2:=w.s.c) (a3:=w.s.a2) (c3:=w.s.c2) (a4:=y.a4) (c4:=y.c4) (a5:=y.a5) (c5:=y.c5) (a6:=y.a6) (c6:=y.c6) (a7:=y.a7) (c7:=y.c7) ?_;refine go ?_;intros;rename_i g4 g5;refine C7 A8 ?_;refine go ?_
 refine Cd [2,4] (fun s:DqS=>[(5,.slice s.a s.x.2.length s.c),(6,.bool s.b)]) (fun s=>[.row g4 52 0 [] s.cs [],.isv Ny (.agg s.cs.toArray) s.x.1 s.F,.ow A8 9 (.slice s.a s.x.2.length s.c) s.x.2 s.Fe]) (fun s=>Wl (n,[]) s.x∧(if s.b then drE s.x else s.x)=Q9 n) (fun s=>if s.b then wN s.x.1+1 else 0) ⟨(n,[]),true,_,_,_,_,_⟩ ⟨.refl hg,rfl⟩ fun s hs0=>?_;obtain ⟨x,b,cs,Fx,ea,ec,eF⟩:=s;obtain ⟨fx,hR⟩:=hs0;dsimp only at fx hR ⊢;refine Ho (x:=x.1) ?_;rintro b1 d1 G1 b2 d2 G2 b3 d3 G3 b4 d4 G4 b5 d5 G5 b6 d6 G6 b7 d7 G7 ev - - - - - - -;obtain rfl:=Uq ev;clear ev;cases b
 ·rw [if_neg FK] at hR;rw [hR];refine go ?_;refine ret (⟨_,Fx,ea,ec,eF⟩:StZ) trivial rfl
 rw [if_pos rfl] at hR;have hG:=Az.1 fx.g;have h8:=H8 hG.t;have hn8:=h8.n1;have hn2:=h8.n0;have hev:=fx.e;simp only [List.length_nil] at hev;refine go ?_;refine Cd [2,4] (fun s:DqK=>[(5,.slice s.a (Ia x s.k).2.length s.c),(6,.bool (Rd x s.k)),(7,.int .i64 ((s.k+1:Nat):Int))]) (fun s=>[.row g4 52 0 [] s.cs [],.isv Ny (.agg s.cs.toArray) (Ia x s.k).1 s.F,.ow A8 9 (.slice s.a (Ia x s.k).2.length s.c) (Ia x s.k).2 s.Fe]) (fun s=>s.k+1≤x.1.Ao.Ad.length) (fun s=>x.1.Ao.Ad.length - s.k) ⟨0,_,_,_,_,_⟩ (by show 0+1≤_;omega) fun s hs0=>?_;obtain ⟨k,cs,Fx,ya,yc,yF⟩:=s;dsimp only at hs0 ⊢
 have rf:=Px fx.g k hs0;have fX:=fx.trans rf.1;have hXt:(Ia x k).1.Ao.Ad.length=x.1.Ao.Ad.length:=by rw [rf.1.t]
 generalize hX:Ia x k=X at fX hXt ⊢;generalize hM:Rd x k=M;refine Ho (x:=X.1) ?_;rintro b1 d1 G1 b2 d2 G2 b3 d3 G3 b4 d4 G4 b5 d5 G5 b6 d6 G6 b7 d7 G7 ev - - - - - - -;obtain rfl:=Uq ev;clear ev;refine go ?_;refine A1 rfl (fun h1=>?_) (fun h1=>?_)
 rotate_left
 ·have hk:x.1.Ao.Ad.length - 1=k:=FH
  have hXr:Xd x=X:=by rw [←hX,←hk];rfl
  have hmi:=Aic fx.g;rw [hk,hM] at hmi;refine go ?_;refine Cg ⟨X,M,_,_,ya,yc,yF⟩ ⟨fX,?_⟩ ?_
  ·cases M
   ·have hz:=hmi.1 rfl;show X=Q9 n;rw [←hR,Aby hz,←hXr,Atn fx.g hz]
   ·have hz:¬Yv x.1=0:=fun h=>by cases hmi.2 h
    show drE X=Q9 n;rw [←hR,Ahf fx.g hz,hXr]
  ·cases M
   ·show 0 < wN x.1+1;omega
   ·have hz:¬Yv x.1=0:=fun h=>by cases hmi.2 h
    have:=(M9 fx.g).2 hz;rw [hXr] at this;show wN X.1+1 < wN x.1+1;omega
 have hj:k+1 < x.1.Ao.Ad.length:=FH
 refine go ?_;intros;refine Le (E:=Bb) (xs:=[2,5]) (fun w=>Ak5 w _) ?_ FK;refine A4 (E:=Bb) (xs:=[2,5]) fun Fk=>?_;refine go ?_;refine Cd [2,4,7,25,26] (fun s:DqK=>[(5,.slice s.a (Ub X (k+1) s.k).2.length s.c),(6,.bool (Ae7 M X (k+1) s.k)),(27,.int .i64 (s.k:Nat))]) (fun s=>[.row g4 52 0 [] s.cs [],.isv Ny (.agg s.cs.toArray) (Ub X (k+1) s.k).1 s.F,.ow A8 9 (.slice s.a (Ub X (k+1) s.k).2.length s.c) (Ub X (k+1) s.k).2 s.Fe]) (fun s=>s.k≤2) (fun s=>2 - s.k) ⟨0,_,_,_,_,_⟩ (Nat.zero_le _) fun s hs1=>?_;obtain ⟨m,cs,Fx,ya,yc,yF⟩:=s;dsimp only at hs1 ⊢
 have fY:=fX.trans (Awq fX.g (i:=k+1) FH FH m hs1);have hYe:=fY.e;simp only [List.length_nil] at hYe;generalize hY:Ub X (k+1) m=Y at fY hYe ⊢;generalize hB:Ae7 M X (k+1) m=B;refine Ho (x:=Y.1) ?_;rintro b1 d1 G1 b2 d2 G2 b3 d3 G3 b4 d4 G4 b5 d5 G5 b6 d6 G6 b7 d7 G7 ev - - - - - - -;obtain rfl:=Uq ev;clear ev;refine go ?_;refine A1 rfl (fun h2=>?_) (fun h2=>?_)
 ·have hm:m < 2:=FH
  have ok:Es (kst m (k+1))=true:=Bkh FH FH hm;refine I6 (xs:=[2,5]) m ?_;rintro hi b9 o9 e9;rw [e9,show ([2,5]:List Int)[m]=(kst m (k+1)).Cp by rcases (show m=0∨m=1 by omega) with rfl|rfl <;> rfl];have gY:=fY.g;refine go ?_;refine Ca (Alj Y.1 (kst m (k+1)) _ _ FT (Nat.zero_le _) gY ok) fun z _=>?_;cases e:Bo Y.1 (kst m (k+1)) with
  | none =>
   rw [Aqy e];have hnY:Ub X (k+1) (m+1)=Y:=by show Nl (Ub X (k+1) m) (kst m (k+1))=Y;rw [hY];exact J3 e
   have hnB:Ae7 M X (k+1) (m+1)=B:=by show (Ae7 M X (k+1) m || (Bo (Ub X (k+1) m).1 (kst m (k+1))).isSome)=B;rw [hY,hB,e];exact Bool.or_false B
   refine Ho (x:=Xn) ?_;rintro f1 t1 G1 f2 t2 G2 f3 t3 G3 f4 t4 G4 f5 t5 G5 f6 t6 G6 f7 t7 G7 ez - - - - - - -;rw [ez];refine go ?_;intros;refine Cg ⟨m+1,_,_,ya,yc,yF⟩ (by show m+1≤2;omega) (by show 2 - (m+1) < 2 - m;omega) (by dsimp only;rw [hnY,hnB];exact frE) (by dsimp only;rw [hnY];exact hsE)
  | some r =>
   rw [Aqz gY ok e];have hnY:Ub X (k+1) (m+1)=(r.1,Y.2++r.2):=by show Nl (Ub X (k+1) m) (kst m (k+1))=_;rw [hY];exact Zt e
   have hnB:Ae7 M X (k+1) (m+1)=true:=by show (Ae7 M X (k+1) m || (Bo (Ub X (k+1) m).1 (kst m (k+1))).isSome)=true;rw [hY,hB,e];exact Bool.or_true B
   have hr:=Aq7 gY ok e;refine Ho (x:=r.1) ?_;rintro f1 t1 G1 f2 t2 G2 f3 t3 G3 f4 t4 G4 f5 t5 G5 f6 t6 G6 f7 t7 G7 ez - - - - - - -;rw [ez];refine A4 (E:=A8) (xs:=r.2) fun F8=>?_;refine go ?_;intros;apply wO;refine Pf (E:=A8) (xs:=Y.2) (ys:=r.2) Dx Gz fun a9 c9 F9=>?_;refine go ?_;refine Cg ⟨m+1,_,z.F,a9,c9,F9⟩ (by show m+1≤2;omega) (by show 2 - (m+1) < 2 - m;omega) (by dsimp only;rw [hnY,hnB];exact frE) (by dsimp only;rw [hnY];exact hsE)
 ·obtain rfl:m=2:=FH
  refine go ?_;refine Cg ⟨k+1,_,_,ya,yc,yF⟩ KG (by show x.1.Ao.Ad.length - (k+1) < x.1.Ao.Ad.length - k;omega) (by dsimp only;rw [Aqe,hX,hM,hB,Aco,hX,hY];exact frE) (by dsimp only;rw [Aco,hX,hY];exact hsE)
theorem Ai5 (n:Dv) (v:Value) (F:List Nat):FV 149 [v] [.isv Ny v n F] (.tuple #[.bool (Gh n).1,.bool (Gh n).2]):=by
 refine enter func149 rfl ntmps149 fun w0=>?_;refine Ho ?_;rintro a1 c1 F1 a2 c2 F2 a3 c3 F3 a4 c4 F4 a5 c5 F5 a6 c6 F6 a7 c7 F7 rfl l1 l2 l3 l4 l5 l6 l7;refine go ?_;intros;refine Ca (Ad0 n _ F) fun _ _=>?_;cases g:At n
 ·refine go ?_;refine ret () trivial ?_;unfold Gh;rw [g];rfl
 obtain ⟨-,e2,e3,e4⟩:=In g;obtain ⟨q2,q8,qn,qu,qe,qt⟩:=P8 g;have hG:=Az.1 g;obtain ⟨-,qr, -, -⟩:=Bl.1 hG.l;have hS1:=(Lx hG.s).l;have hW:=Ea.1 (Ff.1 hG.s).1;refine Og ?_;intros;refine I3 n.Ao (a1:=a1) ?_;refine go ?_;refine Eh [1,2,3] (fun k:Nat=>[(4,.int .i64 (k:Nat))]) (fun k=>1≤k∧k≤n.Ao.Ad.length∧∀j,1≤j→j < k→(n.down.getD j []).length=0∧(n.up.getD j []).length=0∧(Eo n.Ao.Ad ((j:Nat):Int)=true→Adr n j=true)) (fun k=>n.Ao.Ad.length - k) 1 ⟨Nat.le_refl _,FH,fun j a b=>by omega⟩ fun k hk=>?_;obtain ⟨hk1,hk2,hal⟩:=hk;refine go ?_;refine A1 rfl (fun h3=>?_) (fun h3=>?_)
 ·have hk3:k < n.Ao.Ad.length:=FH
  have h5:k < n.Ac.length:=FH
  have hd5:k < n.down.length:=FH
  have hu5:k < n.up.length:=FH
  have m8:=(C9 (e3 _ (List.getElem_mem hd5))).1;have m9:=(C9 (e4 _ (List.getElem_mem hu5))).1;have gd:(n.down.getD k [])=n.down[k]:=Qj hd5 _;have gu:(n.up.getD k [])=n.up[k]:=Qj hu5 _;refine Nz (E:=Ak) (hz:=FK) (xs:=n.down) k ?_;rintro hi1 g1 o1 a8 c8 F8 ea l8;refine Nz (E:=Ak) (hz:=FK) (xs:=n.up) k ?_;rintro hi2 g2 o2 a9 c9 F9 eb l9;rw [ea,eb];refine Og ?_;intros;refine As [0,2,5] [] ?_;refine Dq 0 1 2 3 ?_;refine Dq 4 5 6 7 ?_;refine Dq 8 9 10 11 ?_;refine Ec 12 13 ?_;refine dd ?_;refine go ?_;refine A1 rfl (fun h4=>?_) (fun h4=>?_)
  ·refine go ?_;refine ret () trivial ?_;unfold Gh;rw [g];rw [if_pos rfl,Bck (fun h0=>by
    have hd:=Ab8 (l:=n.down) (i:=k) KJ;have hu:=Ab8 (l:=n.up) (i:=k) KJ;rw [gd] at hd;rw [gu] at hu;omega)]
   rfl
  refine Kr (xs:=n.Ac) k ?_;rintro h5b b5 o5 a10 c10 F10 a11 c11 F11 e5 l10 l11;rw [e5];have hr:=Ek.1 (e2 _ (List.getElem_mem h5));have hr1:=(Kx hr.w).1;have hr2:=(De.1 hr.q).2.1;cases hlf:Eo n.Ao.Ad ((k:Nat):Int)
  ·refine Og ?_;intros;refine As [0,9] [] ?_;refine Ec 0 1 ?_;refine dt 2 ?_;refine dN 3 ?_;refine oC ?_;refine Ca (O1 n.Ao _ _ F1 (H8 hG.t) FH) fun _ _=>?_;rw [hlf];refine dk ?_;refine dt 4 ?_;refine ds 5 ?_;refine ds 6 ?_;refine ds 7 ?_;refine ds 8 ?_;refine dsu 9 ?_;refine dsu 10 ?_;refine dsu 11 ?_;refine dsu 12 ?_;refine dsu 13 ?_;refine dsu 14 ?_;refine dsu 15 ?_;refine dsu 16 ?_;refine dsu 17 ?_;refine ds 18 ?_;refine ds 19 ?_;refine dsu 20 ?_;refine dsu 21 ?_;refine dsu 22 ?_;refine dsu 23 ?_;refine dsu 24 ?_;refine dsu 25 ?_;refine dsu 26 ?_;refine dsu 27 ?_;refine ds 28 ?_
   refine dt 29 ?_;refine dd ?_;refine go ?_;rw [show ((k:Nat):Int)+1=((k+1:Nat):Int) by omega];refine Cg (k+1) ⟨FH,hk3,fun j hj0 hj=>?_⟩ FH;by_cases hjk:j=k
   ·subst hjk;exact ⟨by rw [gd];omega,by rw [gu];omega,fun h=>absurd h KN⟩
   ·exact hal j hj0 FH
  cases hst0:n.Ac[k].Bd
  ·have hst:Agc n.Ac[k]=false:=by unfold Agc;rw [hst0];rfl
   try rw [hst0]
   refine Og ?_;intros;refine As [0,9] [] ?_;refine Ec 0 1 ?_;refine dt 2 ?_;refine dN 3 ?_;refine oC ?_;refine Ca (O1 n.Ao _ _ F1 (H8 hG.t) FH) fun _ _=>?_;rw [hlf];refine dk ?_;refine dt 4 ?_;refine Do 5 ?_;refine Do 6 ?_;refine Do 7 ?_;refine Do 8 ?_;refine ds 9 ?_;refine ds 10 ?_;refine ds 11 ?_;refine ds 12 ?_;refine ds 13 ?_;refine ds 14 ?_;refine ds 15 ?_;refine ds 16 ?_;refine ds 17 ?_;refine Do 18 ?_;refine Do 19 ?_;refine ds 20 ?_;refine ds 21 ?_;refine ds 22 ?_;refine ds 23 ?_;refine ds 24 ?_;refine ds 25 ?_;refine ds 26 ?_;refine ds 27 ?_;refine Do 28 ?_;refine dt 29 ?_
   exact EI
  ·by_cases hz:n.Ac[k].Am.length+n.Ac[k].Aa.Al.length=0
   rotate_left
   ·have hst:Agc n.Ac[k]=false:=by
     unfold Agc;by_cases hz1:((n.Ac[k].Am.length:Int)=0)
     ·rw [decide_eq_false (show ¬((n.Ac[k].Aa.Al.length:Int)=0) by omega),Bool.and_false]
     ·rw [decide_eq_false hz1,Bool.and_false,Bool.false_and]
    try rw [hst0]
    refine Og ?_;intros;refine As [0,9] [] ?_;refine Ec 0 1 ?_;refine dt 2 ?_;refine dN 3 ?_;refine oC ?_;refine Ca (O1 n.Ao _ _ F1 (H8 hG.t) FH) fun _ _=>?_;rw [hlf];refine dk ?_;refine dt 4 ?_;refine Do 5 ?_;refine Do 6 ?_;refine Do 7 ?_;refine Do 8 ?_;refine Do 9 ?_;refine Do 10 ?_;refine Do 11 ?_;refine Do 12 ?_;refine Do 13 ?_;refine Do 14 ?_;refine Do 15 ?_;refine Do 16 ?_;refine Do 17 ?_;rw [show decide ((0:Int) < ((n.Ac[k].Am.length:Int)+(n.Ac[k].Aa.Al.length:Int)))=true from decide_eq_true FH];refine Do 18 ?_;refine Do 19 ?_;refine ds 20 ?_;refine ds 21 ?_
    refine ds 22 ?_;refine ds 23 ?_;refine ds 24 ?_;refine ds 25 ?_;refine ds 26 ?_;refine ds 27 ?_;refine Do 28 ?_;refine dt 29 ?_;exact EI
   ·have hst:Agc n.Ac[k]=true:=by
     unfold Agc;rw [hst0,decide_eq_true (show ((n.Ac[k].Aa.Al.length:Int)=0) by omega),decide_eq_true (show ((n.Ac[k].Am.length:Int)=0) by omega)];rfl
    try rw [hst0]
    refine Og ?_;intros;refine As [0,9] [] ?_;refine Ec 0 1 ?_;refine dt 2 ?_;refine dN 3 ?_;refine oC ?_;refine Ca (O1 n.Ao _ _ F1 (H8 hG.t) FH) fun _ _=>?_;rw [hlf];refine dk ?_;refine dt 4 ?_;refine Do 5 ?_;refine Do 6 ?_;refine Do 7 ?_;refine Do 8 ?_;refine Do 9 ?_;refine Do 10 ?_;refine Do 11 ?_;refine Do 12 ?_;refine Do 13 ?_;refine Do 14 ?_;refine Do 15 ?_;refine Do 16 ?_;refine Do 17 ?_;rw [show decide ((0:Int) < ((n.Ac[k].Am.length:Int)+(n.Ac[k].Aa.Al.length:Int)))=false from decide_eq_false FH];refine Do 18 ?_;refine Do 19 ?_;refine Do 20 ?_;refine Do 21 ?_
    refine Do 22 ?_;refine Do 23 ?_;refine Do 24 ?_;refine Do 25 ?_;refine d1g 26 ?_;apply On.h;refine oC ?_;refine cb (fun w s=>Ue n.Ab.Aa.Ap n.Ab.Aa.size _ n.Ab.Aa.An.length _ w hW.1.1 hW.1.2 FH) ?_;refine dk ?_;refine Do 27 ?_;refine Do 28 ?_;refine dt 29 ?_;refine dd ?_;refine go ?_;refine A1 rfl (fun h6=>?_) (fun h6=>?_)
    ·refine go ?_;refine ret () trivial ?_;unfold Gh;rw [g];rw [if_pos rfl,Ai8 hk3 hlf (by unfold Adr;rw [Hh h5,decide_eq_false h6,Bool.and_false])];rfl
    ·refine go ?_;rw [show ((k:Nat):Int)+1=((k+1:Nat):Int) by omega];refine Cg (k+1) ⟨FH,hk3,fun j hj0 hj=>?_⟩ FH;by_cases hjk:j=k
     ·subst hjk;exact ⟨by rw [gd];omega,by rw [gu];omega,fun h=>by unfold Adr;rw [Hh h5,hst,decide_eq_true (Decidable.not_not.1 h6)];rfl⟩
     ·exact hal j hj0 FH
 ·have hk3:k=n.Ao.Ad.length:=FH
  have hst:Z8 n=true:=by
   refine Aq8 ?_ fun i hi hl=>?_
   ·have d0:=Aci g;have a1:qd n.down=0:=Bbs fun i hi=>by
     rw [←Qj hi []];by_cases h0:i=0
     ·subst h0;exact d0.1
     ·exact (hal i FH FH).1
    have a2:qd n.up=0:=Bbs fun i hi=>by
     rw [←Qj hi []];by_cases h0:i=0
     ·subst h0;exact d0.2
     ·exact (hal i FH FH).2.1
    unfold Yv;omega
   ·by_cases h0:i=0
    ·subst h0;rw [Bfi (H8 hG.t)] at hl;cases hl
    ·exact (hal i FH FH).2.2 hl
  refine go ?_;refine ret () trivial ?_;unfold Gh;rw [g,if_pos rfl,hst];rfl
theorem Ake (x:Ay) (v:Value) (F:List Nat):Fn prog 229 [v] [.isv Bi v x F] [] (fun (_:OwR)=>True) (fun s=>.tuple #[.slice s.a (E4 x).1.length s.c,.bool (E4 x).2]) (fun s=>[.ow Bb 3 (.slice s.a (E4 x).1.length s.c) (E4 x).1 s.F]):=by
 refine enter func229 rfl ntmps229 fun w0=>?_;refine En (v:=v) (x:=x) (F:=F) ?_;rintro a1 c1 F1 a2 c2 F2 rfl l1 l2;unfold maxLen at l1 l2;refine go ?_;intros;rename_i g0;refine Ca (Alh x _ F) fun _ _=>?_;refine C7 Bb ?_;cases g1:Bv x
 ·rw [show E4 x=([],false) by unfold E4;rw [g1];rfl];exact ED
 have g5:=Ek.1 g1;have hq8:=(De.1 g5.q).2.1;rw [show E4 x=(x.Am.map (·.Ae),true) by unfold E4;rw [g1];rfl];refine go ?_;refine Cd [1,2,3] (fun s:AwS=>[(5,.int .i64 (s.i:Nat)),(4,.slice s.a ((x.Am.take s.i).map (·.Ae)).length s.c)]) (fun s=>[.ow Bb 3 (.slice s.a ((x.Am.take s.i).map (·.Ae)).length s.c) ((x.Am.take s.i).map (·.Ae)) s.F]) (fun s=>s.i≤x.Am.length) (fun s=>x.Am.length - s.i) ⟨0,some ⟨g0,0,none⟩,0,[g0]⟩ (Nat.zero_le _) fun s hs=>?_;obtain ⟨i,a3,c3,F3⟩:=s;dsimp only at hs ⊢;have hl3:((x.Am.take i).map (·.Ae)).length≤i:=FO
 refine go ?_;refine A1 rfl (fun h4=>?_) (fun h4=>?_)
 ·have hi:i < x.Am.length:=FH
  have eo:(x.Am.take (i+1)).map (·.Ae)=(x.Am.take i).map (·.Ae)++[x.Am[i].Ae]:=KT
  exact BU
 have hi:i=x.Am.length:=FH
 subst hi;rw [List.take_length];exact ED
def rsC (x:Cc) (o:Option NR):Cc × ByteArray:=match o with
 | some r=>(⟨r.1,x.J0⟩,r.2)
 | none=>(x,⟨#[63]⟩)
theorem Aix {x:Cc} {r:Option ByteArray}:rsC x (Qu x.Bh r)=(x,r.getD ⟨#[63]⟩):=by cases r <;> rfl
theorem Bhb {n:Dv} {s:Kh} {y:NE} (hg:At n=true) (hs:Es s=true) (e:Bo n s=some y):y.2.length≤900000000000∧∀e∈y.2,e.size≤100:=by
 have:=Aur hg hs;rw [e] at this;exact this
theorem Ra (x:Cc) (s:Kh) (b:Bool) (v:Value) (F FT:List Nat) (hg:At x.Bh=true) (hss:s.data.size≤maxLen) (hb:b=decide (s.Cp=2∨s.Cp=4)):Fn prog 75 [v,.agg #[.int .i64 s.Cp,.int .i64 s.node,.string s.data],.bool b] [.isv Dd v x F,Gs FT] [] (fun (_:Xp)=>True) (fun u=>.tuple #[.agg u.cs.toArray,.string (rsC x (Kd x.Bh s)).2]) (fun u=>[.isv Dd (.agg u.cs.toArray) (rsC x (Kd x.Bh s)).1 u.F]):=by
 refine enter func75 rfl ntmps75 fun w0=>?_;refine Co ?_;rintro a1 c1 F1 a2 c2 F2 a3 c3 F3 a4 c4 F4 a5 c5 F5 a6 c6 F6 a7 c7 F7 rfl s1 s2 l1 l2 l3 l4 l5 l6 l7;refine Gk x.Bh (a1:=a1) (a2:=a2) (a3:=a3) (a4:=a4) (a5:=a5) (a6:=a6) (a7:=a7) ?_;refine go ?_;intros;refine Ca (Axd s hss) fun _ _=>?_;cases hk:Es s
 ·have e:Kd x.Bh s=none:=by unfold Kd;rw [hk];rfl
  rw [e];exact DQ
 refine go ?_;refine Ca (Alj x.Bh s _ _ FT hss hg hk) fun z _=>?_;cases es:Bo x.Bh s with
 | none =>
  have e:Kd x.Bh s=none:=by unfold Kd;rw [hk,es];rfl
  rw [e,Aqy es];refine Ho (x:=Xn) ?_;rintro f1 t1 G1 f2 t2 G2 f3 t3 G3 f4 t4 G4 f5 t5 G5 f6 t6 G6 f7 t7 G7 ez - - - - - - -;rw [ez];refine go ?_;intros;exact AF
 | some y =>
  have e:Kd x.Bh s=some (y.1,if s.Cp=2∨s.Cp=4 then Yf y.2 else bz wOk):=by unfold Kd;rw [hk,es];rfl
  have hE:=Bhb hg hk es;rw [e,Aqz hg hk es];obtain ⟨m,E⟩:=y;dsimp only at hE ⊢;refine Ho (x:=m) ?_;rintro f1 t1 G1 f2 t2 G2 f3 t3 G3 f4 t4 G4 f5 t5 G5 f6 t6 G6 f7 t7 G7 ez - - - - - - -;rw [ez];refine A4 (E:=A8) (xs:=E) fun F8=>?_;refine go ?_;intros;refine D7 (⟨m,x.J0⟩:Cc) s1 s2 (a1:=f1) (c1:=t1) (a2:=f2) (c2:=t2) (a3:=f3) (c3:=t3) (a4:=f4) (c4:=t4) (a5:=f5) (c5:=t5) (a6:=f6) (c6:=t6) (a7:=f7) (c7:=t7) ?_;cases b
  ·rw [if_neg (by simpa using hb.symm)];exact DQ
  rw [if_pos (by simpa using hb.symm)];exact BQ
def Wk (n:Dv) (line:ByteArray):Option NR :=
 if line.data.toList=Ajj then Kd n ⟨1,0,⟨#[]⟩⟩
 else if line.data.toList=Amg then Kd n ⟨4,0,⟨#[]⟩⟩
 else if line.data.toList=Xj then some ((Q9 n).1,Yf (Q9 n).2)
 else Qu n (Lb n line.data.toList)
theorem Bdh {line:ByteArray} (h:(Gg line).length=1):Gg line=[line.data.toList]:=by
 unfold Gg at h ⊢;obtain ⟨r,hr,hi⟩:=Sp 32 line.data.toList;rw [hr,List.length_cons] at h;have hb:=hi.1 (List.length_eq_zero_iff.1 FH);exact Wg fun c hc e=>hb (e▸hc)
theorem Bb9 {n:Dv} {line:ByteArray} (h:(Gg line).length=1):Pn n line=Wk n line:=by
 have hw:=Bdh h;have h0:atW (Gg line) 0=line.data.toList:=by rw [hw];rfl
 unfold Wk
 split
 ·rename_i e;exact Acr (by unfold I9;rw [h0];exact if_pos ⟨e,h⟩)
 ·rename_i e1
  split
  ·rename_i e;exact Acr (by unfold I9;rw [h0,if_neg (fun c=>e1 c.1),if_neg (fun c=>e1 c.1)];exact if_pos ⟨e,h⟩)
  ·rename_i e2;have hs:I9 (Gg line)=none:=by
    unfold I9;rw [h0,if_neg (fun c=>e1 c.1),if_neg (fun c=>e1 c.1),if_neg (fun c=>e2 c.1)];exact if_pos FH
   unfold Pn;rw [hs];dsimp only
   split
   ·rfl
   ·first|rfl|rw [if_pos h]
theorem Axj (x:Cc) (line:ByteArray) (v:Value) (F FT:List Nat) (hg:At x.Bh=true):Fn prog 74 [v,.string line] [.isv Dd v x F,Gs FT] [] (fun (_:Xp)=>True) (fun u=>.tuple #[.agg u.cs.toArray,.string (rsC x (Wk x.Bh line)).2]) (fun u=>[.isv Dd (.agg u.cs.toArray) (rsC x (Wk x.Bh line)).1 u.F]):=by
 refine enter func74 rfl ntmps74 fun w0=>?_;refine Co ?_;rintro a1 c1 F1 a2 c2 F2 a3 c3 F3 a4 c4 F4 a5 c5 F5 a6 c6 F6 a7 c7 F7 rfl s1 s2 l1 l2 l3 l4 l5 l6 l7;refine Gk x.Bh (a1:=a1) (a2:=a2) (a3:=a3) (a4:=a4) (a5:=a5) (a6:=a6) (a7:=a7) ?_;refine go ?_;intros;refine A1 rfl (fun h1=>?_) (fun h1=>?_)
 ·rw [show Wk x.Bh line=Kd x.Bh ⟨1,0,⟨#[]⟩⟩ by unfold Wk;rw [if_pos (show line.data.toList=Ajj from Dw.1 h1)]];have hP:=fun v F=>Ra x ⟨1,0,⟨#[]⟩⟩ false v F FT hg (Nat.zero_le _) FK;generalize rsC x (Kd x.Bh ⟨1,0,⟨#[]⟩⟩)=R at hP ⊢;refine go ?_;refine Ca (hP _ _) fun u _=>?_;refine Co (x:=R.1) ?_;rintro f1 t1 G1 f2 t2 G2 f3 t3 G3 f4 t4 G4 f5 t5 G5 f6 t6 G6 f7 t7 G7 ez s3 s4 - - - - - - -;rw [ez];refine go ?_;refine D7 R.1 s3 s4 (a1:=f1) (c1:=t1) (a2:=f2) (c2:=t2) (a3:=f3) (c3:=t3) (a4:=f4) (c4:=t4) (a5:=f5) (c5:=t5) (a6:=f6) (c6:=t6) (a7:=f7) (c7:=t7) ?_
  exact AF
 refine go ?_;refine A1 rfl (fun h2=>?_) (fun h2=>?_)
 ·rw [show Wk x.Bh line=Kd x.Bh ⟨4,0,⟨#[]⟩⟩ by unfold Wk;rw [if_neg (show ¬line.data.toList=Ajj from fun e=>h1 (Dw.2 e)),if_pos (show line.data.toList=Amg from Dw.1 h2)]];have hP:=fun v F=>Ra x ⟨4,0,⟨#[]⟩⟩ true v F FT hg (Nat.zero_le _) FK;generalize rsC x (Kd x.Bh ⟨4,0,⟨#[]⟩⟩)=R at hP ⊢;refine go ?_;refine Ca (hP _ _) fun u _=>?_;refine Co (x:=R.1) ?_;rintro f1 t1 G1 f2 t2 G2 f3 t3 G3 f4 t4 G4 f5 t5 G5 f6 t6 G6 f7 t7 G7 ez s3 s4 - - - - - - -;rw [ez];refine go ?_
  exact BB
 refine go ?_;refine A1 rfl (fun h3=>?_) (fun h3=>?_)
 ·rw [show Wk x.Bh line=some ((Q9 x.Bh).1,Yf (Q9 x.Bh).2) by unfold Wk;rw [if_neg (show ¬line.data.toList=Ajj from fun e=>h1 (Dw.2 e)),if_neg (show ¬line.data.toList=Amg from fun e=>h2 (Dw.2 e)),if_pos (show line.data.toList=Xj from Dw.1 h3)]];have hP:=fun v F=>Asy x.Bh v F FT hg;have hE:(Q9 x.Bh).2.length≤900000000000∧∀e∈(Q9 x.Bh).2,e.size≤100:=⟨by have:=Auo hg;omega,fun e he=>by have:=(Zc (Bg6 hg e he)).2;omega⟩;generalize Q9 x.Bh=y at hP hE ⊢;obtain ⟨m,E⟩:=y;dsimp only at hP hE ⊢;refine go ?_;refine Ca (hP _ _) fun z _=>?_;refine Ho (x:=m) ?_
  rintro f1 t1 G1 f2 t2 G2 f3 t3 G3 f4 t4 G4 f5 t5 G5 f6 t6 G6 f7 t7 G7 ez - - - - - - -;rw [ez];refine A4 (E:=A8) (xs:=E) fun F8=>?_;refine go ?_;intros;refine D7 (⟨m,x.J0⟩:Cc) s1 s2 (a1:=f1) (c1:=t1) (a2:=f2) (c2:=t2) (a3:=f3) (c3:=t3) (a4:=f4) (c4:=t4) (a5:=f5) (c5:=t5) (a6:=f6) (c6:=t6) (a7:=f7) (c7:=t7) ?_;exact BQ
 have eW:Wk x.Bh line=Qu x.Bh (Lb x.Bh line.data.toList):=by unfold Wk;rw [if_neg (show ¬line.data.toList=Ajj from fun e=>h1 (Dw.2 e)),if_neg (show ¬line.data.toList=Amg from fun e=>h2 (Dw.2 e)),if_neg (show ¬line.data.toList=Xj from fun e=>h3 (Dw.2 e))]
 rw [eW,Aix];obtain ⟨e1,e2,e3,e4⟩:=In hg;obtain ⟨q2,q8,qn,qu,qe,qt⟩:=P8 hg;have hG:=Az.1 hg;have hS:=Lx hG.s;have hW:=Ea.1 (Ff.1 hG.s).1;have hS1:=hS.l;have hb1:=O3 (fun q hq=>(C9 (e3 q hq)).1) x.Bh.down.length;have hb2:=O3 (fun q hq=>(C9 (e4 q hq)).1) x.Bh.up.length;rw [List.take_length] at hb1 hb2;have z1:=Acc (k:=qd x.Bh.down) FH;have z2:=Acc (k:=qd x.Bh.up) FH;have hld:=Acg x.Bh.Ab.Aa;unfold L8 at hld;refine go ?_;refine A1 rfl (fun h4=>?_) (fun h4=>?_)
 ·rw [show Lb x.Bh line.data.toList=some (bz (Lib.itoa (L8 x.Bh.Ab.Aa))) by unfold Lb;rw [if_pos (show line.data.toList=Ac7 from Dw.1 h4)]];refine Og ?_;intros;refine As [1] [7,8] ?_;refine Dq 0 1 2 3 ?_;refine dt 4 ?_;refine dN 5 ?_;refine oC ?_;refine cb (fun w2 s=>Ue x.Bh.Ab.Aa.Ap x.Bh.Ab.Aa.size _ x.Bh.Ab.Aa.An.length _ w2 hW.1.1 hW.1.2 FH) ?_;refine dk ?_;refine dN 6 ?_;refine oC ?_;refine cb (fun w2 st=>Aed (Cf x.Bh.Ab.Aa.Ap x.Bh.Ab.Aa.An.length) FH FH w2) ?_;refine dk ?_;refine dN 7 ?_;refine oS ?_;refine Tf ?_;refine dtp 8 ?_;refine dd ?_;refine go ?_
  exact AF
 refine go ?_;refine A1 rfl (fun h5=>?_) (fun h5=>?_)
 ·rw [show Lb x.Bh line.data.toList=some (bz (Lib.itoa ((qd x.Bh.down:Nat):Int))++⟨#[32]⟩++bz (Lib.itoa ((qd x.Bh.up:Nat):Int))) by unfold Lb;rw [if_neg (show ¬line.data.toList=Ac7 from fun e=>h4 (Dw.2 e)),if_pos (show line.data.toList=Xk from Dw.1 h5)]];refine go ?_;have hP:=fun v F=>Akf x.Bh v F;simp only [show Rj x.Bh=(((qd x.Bh.down:Nat):Int),((qd x.Bh.up:Nat):Int),true) by unfold Rj;rw [hg];rfl] at hP;refine Ca (hP _ _) fun _ _=>?_;refine Og ?_;intros;refine As [1] [] ?_;refine Ec 0 1 ?_;refine dt 4 ?_;refine dN 2 ?_;refine oC ?_
  refine cb (fun w2 st=>Aed ((qd x.Bh.down:Nat):Int) FH FH w2) ?_;refine dk ?_;refine dt 3 ?_ (hy:=N5 rfl rfl (by show _+1≤9223372036854775807;omega));refine dN 5 ?_;refine oC ?_;refine cb (fun w2 st=>Aed ((qd x.Bh.up:Nat):Int) FH FH w2) ?_;refine dk ?_;refine dt 6 ?_ (hy:=N5 rfl rfl LF);refine dN 7 ?_;refine oS ?_;refine dk ?_;refine dt 8 ?_;refine dd ?_;exact DQ
 refine go ?_;refine A1 rfl (fun h6=>?_) (fun h6=>?_)
 ·rw [show Lb x.Bh line.data.toList=some (if Z8 x.Bh then bz Bf2 else bz wNo) by unfold Lb;rw [if_neg (show ¬line.data.toList=Ac7 from fun e=>h4 (Dw.2 e)),if_neg (show ¬line.data.toList=Xk from fun e=>h5 (Dw.2 e)),if_pos (show line.data.toList=Y7 from Dw.1 h6)]];refine go ?_;have hP:=fun v F=>Ai5 x.Bh v F;simp only [show Gh x.Bh=(Z8 x.Bh,true) by unfold Gh;rw [hg];rfl] at hP;refine Ca (hP _ _) fun _ _=>?_;cases hst:Z8 x.Bh
  ·exact DQ
  ·exact DQ
 ·rw [show Lb x.Bh line.data.toList=none by unfold Lb;rw [if_neg (show ¬line.data.toList=Ac7 from fun e=>h4 (Dw.2 e)),if_neg (show ¬line.data.toList=Xk from fun e=>h5 (Dw.2 e)),if_neg (show ¬line.data.toList=Y7 from fun e=>h6 (Dw.2 e))]];exact DQ
def Xv (n:Dv) (w:Bs) (k:Int):Option NR:=if Q1 w≠0 then Kd n ⟨Q1 w,k,⟨#[]⟩⟩ else Qu n (J8 n w [k])
theorem Ako {n:Dv} {w:Bs} {l:List Int} (h:Ga 1 (l.getD 0 0) ((n.Ao.Ad.length:Int) - 1)=false):J8 n w l=none:=by unfold J8;rw [h];rfl
theorem Avz {n:Dv} {w:Bs} {k:Int} (h:Ga 1 k ((n.Ao.Ad.length:Int) - 1)=true):J8 n w [k] =
  if w=Aji∧Uf n k=true then some (V3 ((Qv n k.toNat).Am.map (·.Ae)))
  else if w=Ajk∧Uf n k=true∧(Qv n k.toNat).Bd=true then some (Aak (Qv n k.toNat).Aa)
  else none:=by
 rw [Vl (l:=[k]) h];by_cases h1:w=Aji∧Uf n k=true
 ·rw [if_pos h1,if_pos ⟨h1.1,rfl,h1.2⟩];rfl
 rw [if_neg h1,if_neg (fun e=>h1 ⟨e.1,e.2.2⟩)];by_cases h2:w=Ajk∧Uf n k=true∧(Qv n k.toNat).Bd=true
 ·rw [if_pos h2,if_pos ⟨h2.1,rfl,h2.2⟩];rfl
 rw [if_neg h2,if_neg (fun e=>h2 ⟨e.1,e.2.2⟩),if_neg (fun e=>by cases e.2.1)]
theorem Av0 {n:Dv} {a b:Int} (h:Ga 1 a ((n.Ao.Ad.length:Int) - 1)=true):J8 n N3 [a,b] =
  if Uf n a=false then (if B8 b then some (V3 (Lq (Qi n a.toNat) b)) else none) else none:=by
 rw [Vl (l:=[a,b]) h,if_neg (fun e=>by cases e.2.1),if_neg (fun e=>by cases e.2.1)];by_cases h1:Uf n a=false
 ·rw [if_pos h1,if_pos ⟨rfl,rfl,h1⟩];rfl
 ·rw [if_neg h1,if_neg (fun e=>h1 e.2.2)]
theorem Aoz {n:Dv} {w:Bs} {l:List Int} (h:1 < l.length) (h2:¬(w=N3∧l.length=2)):J8 n w l=none:=by
 unfold J8
 split
 ·rw [if_neg (fun e=>by omega),if_neg (fun e=>by omega),if_neg (fun e=>h2 ⟨e.1,e.2.1⟩)]
 ·rfl
theorem Axh (x:Cc) (w:ByteArray) (k:Int) (v:Value) (F FT:List Nat) (hg:At x.Bh=true):FV 153 [v,.string w,.int .i64 k] [.isv Dd v x F,Gs FT] (.string ((J8 x.Bh w.data.toList [k]).getD ⟨#[63]⟩)):=by
 refine enter func153 rfl ntmps153 fun w0=>?_;refine Co ?_;rintro a1 c1 F1 a2 c2 F2 a3 c3 F3 a4 c4 F4 a5 c5 F5 a6 c6 F6 a7 c7 F7 rfl s1 s2 l1 l2 l3 l4 l5 l6 l7;refine I3 x.Bh.Ao (a1:=a1) ?_;obtain ⟨e1,e2,e3,e4⟩:=In hg;obtain ⟨q2,q8,qn,qu,qe,qt⟩:=P8 hg;have hG:=Az.1 hg;obtain ⟨-,qr, -, -⟩:=Bl.1 hG.l;refine go ?_;intros;refine ce (fun w s=>Kk _ _ _ _) ?_;rw [show (x.Bh.Ac.length:Int)=(x.Bh.Ao.Ad.length:Int) by rw [qr]];cases hb:Ga 1 k ((x.Bh.Ao.Ad.length:Int) - 1)
 ·rw [Ako (l:=[k]) hb];exact AA
 have hb0:=hb;unfold Ga at hb0;simp only [Bool.and_eq_true,decide_eq_true_eq] at hb0;rw [Avz hb];obtain ⟨i,rfl⟩:∃i:Nat,k=(i:Int):=⟨k.toNat,FH⟩;have h5:i < x.Bh.Ac.length:=FH
 have er:Qv x.Bh ((i:Int)).toNat=x.Bh.Ac[i]:=by rw [Int.toNat_natCast];exact Hh h5
 rw [er];have hR:=Ek.1 (e2 _ (List.getElem_mem h5));refine go ?_;refine Ca (O1 x.Bh.Ao (i:Int) _ F1 (H8 hG.t) FH) fun _ _=>?_;have hLN:Uf x.Bh (i:Int)=Eo x.Bh.Ao.Ad (i:Int):=rfl;cases hlf:Eo x.Bh.Ao.Ad (i:Int)
 ·rw [if_neg (fun e=>by rw [hLN,hlf] at e;cases e.2),if_neg (fun e=>by rw [hLN,hlf] at e;cases e.2.1)];exact AA
 rw [hLN,hlf];refine Kr (xs:=x.Bh.Ac) i ?_;rintro h5b b5 o5 a9 c9 F9 a10 c10 F10 e5 l9 l10;rw [e5];refine Ep x.Bh.Ac[i] ?_;refine go ?_;intros;refine A1 rfl (fun hw=>?_) (fun hw=>?_)
 ·rw [if_pos ⟨(Dw.1 hw:w.data.toList=Aji),rfl⟩];refine go ?_;refine Ca (Ake x.Bh.Ac[i] _ _) fun z _=>?_;obtain ⟨ra,rc,rF⟩:=z;dsimp only;rw [show E4 x.Bh.Ac[i]=(x.Bh.Ac[i].Am.map (·.Ae),true) by unfold E4;rw [e2 _ (List.getElem_mem h5)];rfl];dsimp only;refine A4 (E:=Bb) (xs:=x.Bh.Ac[i].Am.map (·.Ae)) fun F8=>?_;refine go ?_;have hN:∀f∈x.Bh.Ac[i].Am.map (·.Ae),0≤f∧f≤99999:=fun f hf=>by
   obtain ⟨q,hq,rfl⟩:=List.mem_map.1 hf;have:=Bc.1 (Yy hR hq).1;omega
  have hL:(x.Bh.Ac[i].Am.map (·.Ae)).length≤1000:=by rw [List.length_map];have:=(De.1 hR.q).2.1;omega
  have hP:=Alo (x.Bh.Ac[i].Am.map (·.Ae)) ra rc F8 hN hL;refine Ca hP fun _ _=>?_;exact AA
 rw [if_neg (fun e=>hw (Dw.2 e.1))];by_cases hw2:w=⟨#[115,108,111,116,115]⟩
 ·have hw3:w.data.toList=Ajk:=Dw.1 hw2;refine go ?_;rw [show decide (w=⟨#[115,108,111,116,115]⟩)=true from decide_eq_true hw2];cases hst:x.Bh.Ac[i].Bd
  ·rw [if_neg (fun e=>by cases e.2.2)];exact AA
  rw [if_pos ⟨hw3,rfl,rfl⟩];refine By x.Bh.Ac[i].Aa (a1:=a9) ?_;refine go ?_;refine Ca (Aw1 x.Bh.Ac[i].Aa _ F9 FT hR.w) fun _ _=>?_;exact AA
 ·rw [if_neg (fun e=>hw2 (Dw.2 e.1))];refine go ?_;rw [show decide (w=⟨#[115,108,111,116,115]⟩)=false from decide_eq_false hw2];exact AA
theorem As2 (x:Cc) (p q:Int) (v:Value) (F:List Nat) (hg:At x.Bh=true):FV 78 [v,.int .i64 p,.int .i64 q] [.isv Dd v x F] (.string ((J8 x.Bh N3 [p,q]).getD ⟨#[63]⟩)):=by
 refine enter func78 rfl ntmps78 fun w0=>?_;refine Co ?_;rintro a1 c1 F1 a2 c2 F2 a3 c3 F3 a4 c4 F4 a5 c5 F5 a6 c6 F6 a7 c7 F7 rfl s1 s2 l1 l2 l3 l4 l5 l6 l7;refine I3 x.Bh.Ao (a1:=a1) ?_;obtain ⟨e1,e2,e3,e4⟩:=In hg;obtain ⟨q2,q8,qn,qu,qe,qt⟩:=P8 hg;have hG:=Az.1 hg;obtain ⟨-,qr, -, -⟩:=Bl.1 hG.l;refine go ?_;intros;refine ce (fun w s=>Kk _ _ _ _) ?_;rw [show (x.Bh.Af.length:Int)=(x.Bh.Ao.Ad.length:Int) by rw [qe]];cases hb:Ga 1 p ((x.Bh.Ao.Ad.length:Int) - 1)
 ·rw [Ako (l:=[p,q]) hb];exact AA
 have hb0:=hb;unfold Ga at hb0;simp only [Bool.and_eq_true,decide_eq_true_eq] at hb0;rw [Av0 hb];obtain ⟨i,rfl⟩:∃i:Nat,p=(i:Int):=⟨p.toNat,FH⟩;have hie:i < x.Bh.Af.length:=FH
 have er:Qi x.Bh ((i:Int)).toNat=x.Bh.Af[i]:=by rw [Int.toNat_natCast];exact Ju hie
 rw [er];refine go ?_;refine Ca (O1 x.Bh.Ao (i:Int) _ F1 (H8 hG.t) FH) fun _ _=>?_;have hLN:Uf x.Bh (i:Int)=Eo x.Bh.Ao.Ad (i:Int):=rfl;cases hlf:Eo x.Bh.Ao.Ad (i:Int)
 rotate_left
 ·rw [hLN,hlf,if_neg FK];exact AA
 rw [hLN,hlf,if_pos rfl];have hgE:=e1 _ (List.getElem_mem hie);have hfn:=Ak3 hgE q;refine Q6 (xs:=x.Bh.Af) i ?_;rintro h5b b5 o5 a9 c9 F9 e5 l9;rw [e5];refine Nf x.Bh.Af[i] ?_;refine go ?_;refine Ca (Ai4 x.Bh.Af[i] q _ _) fun z _=>?_;obtain ⟨fa,fc,fF⟩:=z;dsimp only;cases hs:B8 q
 ·rw [show Gc x.Bh.Af[i] q=([],false) by unfold Gc;rw [hs,Bool.and_false];rfl];exact AA
 rw [show Gc x.Bh.Af[i] q=(Lq x.Bh.Af[i] q,true) by unfold Gc;rw [hs,hgE];rfl] at hfn ⊢;dsimp only at hfn ⊢;refine A4 (E:=Bb) (xs:=Lq x.Bh.Af[i] q) fun F8=>?_;refine go ?_;have hP:=Alo (Lq x.Bh.Af[i] q) fa fc F8 hfn.1 hfn.2;refine Ca hP fun _ _=>?_;exact AA
theorem Axi (x:Cc) (w:ByteArray) (k:Int) (v:Value) (F FT:List Nat) (hg:At x.Bh=true):Fn prog 77 [v,.string w,.int .i64 k] [.isv Dd v x F,Gs FT] [] (fun (_:Xp)=>True) (fun u=>.tuple #[.agg u.cs.toArray,.string (rsC x (Xv x.Bh w.data.toList k)).2]) (fun u=>[.isv Dd (.agg u.cs.toArray) (rsC x (Xv x.Bh w.data.toList k)).1 u.F]):=by
 refine enter func77 rfl ntmps77 fun w0=>?_;refine Co ?_;rintro a1 c1 F1 a2 c2 F2 a3 c3 F3 a4 c4 F4 a5 c5 F5 a6 c6 F6 a7 c7 F7 rfl s1 s2 l1 l2 l3 l4 l5 l6 l7;refine Gk x.Bh (a1:=a1) (a2:=a2) (a3:=a3) (a4:=a4) (a5:=a5) (a6:=a6) (a7:=a7) ?_;refine go ?_;intros;refine A1 rfl (fun h1=>?_) (fun h1=>?_)
 ·rw [show Xv x.Bh w.data.toList k=Kd x.Bh ⟨2,k,⟨#[]⟩⟩ by rw [(Dw.1 h1:w.data.toList=_)];rfl];have hP:=fun v F=>Ra x ⟨2,k,⟨#[]⟩⟩ true v F FT hg (Nat.zero_le _) (by show _=decide ((2:Int)=2∨(2:Int)=4);decide);generalize rsC x (Kd x.Bh ⟨2,k,⟨#[]⟩⟩)=R at hP ⊢;refine go ?_;refine Ca (hP _ _) fun u _=>?_;refine Co (x:=R.1) ?_;rintro f1 t1 G1 f2 t2 G2 f3 t3 G3 f4 t4 G4 f5 t5 G5 f6 t6 G6 f7 t7 G7 ez s3 s4 - - - - - - -;rw [ez];refine go ?_;refine D7 R.1 s3 s4 (a1:=f1) (c1:=t1) (a2:=f2) (c2:=t2) (a3:=f3) (c3:=t3) (a4:=f4) (c4:=t4) (a5:=f5) (c5:=t5) (a6:=f6) (c6:=t6) (a7:=f7) (c7:=t7) ?_
  exact AF
 refine go ?_;refine A1 rfl (fun h2=>?_) (fun h2=>?_)
 ·rw [show Xv x.Bh w.data.toList k=Kd x.Bh ⟨5,k,⟨#[]⟩⟩ by rw [(Dw.1 h2:w.data.toList=_)];rfl];have hP:=fun v F=>Ra x ⟨5,k,⟨#[]⟩⟩ false v F FT hg (Nat.zero_le _) (by show _=decide ((5:Int)=2∨(5:Int)=4);decide);generalize rsC x (Kd x.Bh ⟨5,k,⟨#[]⟩⟩)=R at hP ⊢;refine go ?_;refine Ca (hP _ _) fun u _=>?_;refine Co (x:=R.1) ?_;rintro f1 t1 G1 f2 t2 G2 f3 t3 G3 f4 t4 G4 f5 t5 G5 f6 t6 G6 f7 t7 G7 ez s3 s4 - - - - - - -;rw [ez];refine go ?_;refine D7 R.1 s3 s4 (a1:=f1) (c1:=t1) (a2:=f2) (c2:=t2) (a3:=f3) (c3:=t3) (a4:=f4) (c4:=t4) (a5:=f5) (c5:=t5) (a6:=f6) (c6:=t6) (a7:=f7) (c7:=t7) ?_
  exact AF
 refine go ?_;refine A1 rfl (fun h3=>?_) (fun h3=>?_)
 ·rw [show Xv x.Bh w.data.toList k=Kd x.Bh ⟨3,k,⟨#[]⟩⟩ by rw [(Dw.1 h3:w.data.toList=_)];rfl];have hP:=fun v F=>Ra x ⟨3,k,⟨#[]⟩⟩ false v F FT hg (Nat.zero_le _) (by show _=decide ((3:Int)=2∨(3:Int)=4);decide);generalize rsC x (Kd x.Bh ⟨3,k,⟨#[]⟩⟩)=R at hP ⊢;refine go ?_;refine Ca (hP _ _) fun u _=>?_;refine Co (x:=R.1) ?_;rintro f1 t1 G1 f2 t2 G2 f3 t3 G3 f4 t4 G4 f5 t5 G5 f6 t6 G6 f7 t7 G7 ez s3 s4 - - - - - - -;rw [ez];refine go ?_;refine D7 R.1 s3 s4 (a1:=f1) (c1:=t1) (a2:=f2) (c2:=t2) (a3:=f3) (c3:=t3) (a4:=f4) (c4:=t4) (a5:=f5) (c5:=t5) (a6:=f6) (c6:=t6) (a7:=f7) (c7:=t7) ?_
  exact AF
 refine go ?_;refine A1 rfl (fun h4=>?_) (fun h4=>?_)
 ·rw [show Xv x.Bh w.data.toList k=Kd x.Bh ⟨6,k,⟨#[]⟩⟩ by rw [(Dw.1 h4:w.data.toList=_)];rfl];have hP:=fun v F=>Ra x ⟨6,k,⟨#[]⟩⟩ false v F FT hg (Nat.zero_le _) (by show _=decide ((6:Int)=2∨(6:Int)=4);decide);generalize rsC x (Kd x.Bh ⟨6,k,⟨#[]⟩⟩)=R at hP ⊢;refine go ?_;refine Ca (hP _ _) fun u _=>?_;refine Co (x:=R.1) ?_;rintro f1 t1 G1 f2 t2 G2 f3 t3 G3 f4 t4 G4 f5 t5 G5 f6 t6 G6 f7 t7 G7 ez s3 s4 - - - - - - -;rw [ez];refine go ?_;refine D7 R.1 s3 s4 (a1:=f1) (c1:=t1) (a2:=f2) (c2:=t2) (a3:=f3) (c3:=t3) (a4:=f4) (c4:=t4) (a5:=f5) (c5:=t5) (a6:=f6) (c6:=t6) (a7:=f7) (c7:=t7) ?_
  exact AF
 have eN:Xv x.Bh w.data.toList k=Qu x.Bh (J8 x.Bh w.data.toList [k]):=by
  unfold Xv Q1;rw [if_neg (show ¬w.data.toList=Arr from fun e=>h1 (Dw.2 e)),if_neg (show ¬w.data.toList=wUp from fun e=>h2 (Dw.2 e)),if_neg (show ¬w.data.toList=Ars from fun e=>h3 (Dw.2 e)),if_neg (show ¬w.data.toList=Bdd from fun e=>h4 (Dw.2 e))];rfl
 rw [eN,Aix];refine Og ?_;intros;refine As [1] [] ?_;refine Dq 0 1 2 3 ?_;refine dN 4 ?_;refine oC ?_;refine Ca (Axh x w k _ _ FT hg) fun _ _=>?_;refine dk ?_;refine dN 5 ?_;refine oS ?_;refine dk ?_;refine dt 6 ?_;refine dd ?_;exact DQ
theorem Ans {n:Dv} {line:ByteArray} {ws:List ByteArray} (hW:wsL ws=Gg line) (h0:1 < ws.length):Pn n line=match I9 (wsL ws) with
  | some s=>Kd n s
  | none=>if Sj (ws.drop 1) then Qu n (J8 n (ws[0]).data.toList (Kb (ws.drop 1))) else none:=by
 have hl:(wsL ws).length=ws.length:=by unfold wsL;rw [List.length_map]
 have hd:¬line.data.toList=Xj:=fun e=>by
  have h2:Gg line=[Xj]:=by unfold Gg;rw [e];rfl
  rw [←hW] at h2;rw [h2] at hl;simp at hl;omega
 have hdr:((wsL ws).drop 1).map bz=ws.drop 1:=by
  unfold wsL;rw [←List.map_drop,List.map_map];exact (List.map_congr_left fun x _=>Ya x).trans (List.map_id _)
 unfold Pn;rw [←hW];cases I9 (wsL ws) with
 | some s=>rfl
 | none =>
  dsimp only;rw [if_neg hd,if_neg FH,hdr,show atW (wsL ws) 0=(ws[0]).data.toList from Tb FH]
theorem Bb8 {n:Dv} {line:ByteArray} {ws:List ByteArray} (hW:wsL ws=Gg line) (h1:1 < ws.length) (h:(ws[0]'FH)=⟨#[115,101,110,100]⟩) (hn:ws.length=2) (he:¬ws[1]=⟨#[]⟩):Pn n line=Kd n ⟨1,0,ws[1]⟩:=by
 rw [Ans hW h1,Afs h1 h hn he]
theorem Bb6 {n:Dv} {line:ByteArray} {ws:List ByteArray} (hW:wsL ws=Gg line) (h:3 < ws.length):Pn n line=none:=by
 rw [Ans hW FH,Y3 FH (fun _ e=>by omega) FH];dsimp only
 split
 ·rw [Aoz (by unfold Kb;rw [List.length_map,List.length_drop];omega) (fun e=>by have:=e.2;unfold Kb at this;rw [List.length_map,List.length_drop] at this;omega)];rfl
 ·rfl
theorem Avf {n:Dv} {line:ByteArray} {ws:List ByteArray} (hW:wsL ws=Gg line) (h1:1 < ws.length) (hn:ws.length=2) (hs:¬((ws[0]'FH)=⟨#[115,101,110,100]⟩∧¬ws[1]=⟨#[]⟩)):Pn n line=if (C1 ws[1]).2=true then Xv n (ws[0]'FH).data.toList (C1 ws[1]).1 else none:=by
 rw [Ans hW h1,Al9 h1 hn hs]
 match ws,hn with
 | [a,b],_ =>
  show (match (if Q1 a.data.toList≠0∧(C1 b).2=true then some (⟨Q1 a.data.toList,(C1 b).1,⟨#[]⟩⟩:Kh) else none) with
   | some s=>Kd n s
   | none=>if Sj [b] then Qu n (J8 n a.data.toList (Kb [b])) else none)=if (C1 b).2=true then Xv n a.data.toList (C1 b).1 else none
  have ho:Sj [b]=(C1 b).2:=by unfold Sj;simp
  have hv:Kb [b]=[(C1 b).1]:=rfl;rw [ho,hv];unfold Xv;by_cases hk:Q1 a.data.toList≠0
  ·cases hp:(C1 b).2
   ·rw [if_neg (fun e=>by cases e.2)];rfl
   ·rw [if_pos ⟨hk,rfl⟩,if_pos hk];rfl
  ·rw [if_neg (fun e=>hk e.1),if_neg hk]
theorem Al5 {n:Dv} {line:ByteArray} {ws:List ByteArray} (hW:wsL ws=Gg line) (h1:1 < ws.length) (h2:2 < ws.length) (hn:ws.length=3):Pn n line=if (C1 ws[1]).2=true∧(C1 ws[2]).2=true∧(ws[0]'FH).data.toList=N3 then Qu n (J8 n N3 [(C1 ws[1]).1,(C1 ws[2]).1]) else none:=by
 rw [Ans hW h1,Y3 FH (fun _ e=>by omega) FH]
 match ws,hn with
 | [a,b,c],_ =>
  show (if Sj [b,c] then Qu n (J8 n a.data.toList (Kb [b,c])) else none)=if (C1 b).2=true∧(C1 c).2=true∧a.data.toList=N3 then Qu n (J8 n N3 [(C1 b).1,(C1 c).1]) else none
  have ho:Sj [b,c]=((C1 b).2 && (C1 c).2):=by unfold Sj;simp
  have hv:Kb [b,c]=[(C1 b).1,(C1 c).1]:=rfl;rw [ho,hv];by_cases hf:a.data.toList=N3
  ·rw [hf];cases (C1 b).2
   ·rw [if_neg (show ¬(false=true∧(C1 c).2=true∧N3=N3) from fun e=>by cases e.1)];rfl
   cases (C1 c).2
   ·rw [if_neg (show ¬(true=true∧false=true∧N3=N3) from fun e=>by cases e.2.1)];rfl
   rw [if_pos (show true=true∧true=true∧N3=N3 from ⟨rfl,rfl,rfl⟩)];rfl
  ·rw [if_neg (show ¬((C1 b).2=true∧(C1 c).2=true∧a.data.toList=N3) from fun e=>hf e.2.2),Aoz FI (fun e=>hf e.1)];cases (C1 b).2 <;> cases (C1 c).2 <;> rfl
theorem Y1 (s:ByteArray) (hs:s.size≤1000000000):FV 76 [.string s] [] (.tuple #[.int .i64 (C1 s).1,.bool (C1 s).2]):=by
 refine enter func76 rfl ntmps76 fun w0=>?_;refine go ?_;refine Ca (Bay s hs) fun _ _=>?_;exact AA
theorem Ba1 (x:Cc) (line:ByteArray) (v:Value) (F FT:List Nat) (hg:At x.Bh=true) (hl:line.size≤900):Fn prog 37 [v,.string line] [.isv Dd v x F,Gs FT] [] (fun (_:Xp)=>True) (fun u=>.tuple #[.agg u.cs.toArray,.string (rsC x (Pn x.Bh line)).2]) (fun u=>[.isv Dd (.agg u.cs.toArray) (rsC x (Pn x.Bh line)).1 u.F]):=by
 obtain ⟨hw0,hwl,hws⟩:=Ami line;refine enter func37 rfl ntmps37 fun w0=>?_;refine Co ?_;rintro a1 c1 F1 a2 c2 F2 a3 c3 F3 a4 c4 F4 a5 c5 F5 a6 c6 F6 a7 c7 F7 rfl s1 s2 l1 l2 l3 l4 l5 l6 l7;refine Gk x.Bh (a1:=a1) (a2:=a2) (a3:=a3) (a4:=a4) (a5:=a5) (a6:=a6) (a7:=a7) ?_;refine go ?_;intros;refine Ca (Ad2 line 32 FH) fun q _=>?_;obtain ⟨qa,qc,qF⟩:=q;dsimp only;rw [show (Dm 32 line.data.toList).map bz=Ve line from rfl];generalize hwd:Ve line=ws at *;have hWL:wsL ws=Gg line:=by rw [←hwd];exact Amj line
 refine A4 (E:=A8) (xs:=ws) fun F8=>?_;refine go ?_;refine A1 rfl (fun h1=>?_) (fun h1=>?_)
 ·have hr:=Bb9 (n:=x.Bh) (line:=line) (by rw [←hWL];unfold wsL;rw [List.length_map];omega);rw [hr];have hP:=fun v F=>Axj x line v F FT hg;generalize rsC x (Wk x.Bh line)=R at hP ⊢;refine go ?_;refine Ca (hP _ _) fun u _=>?_;refine Co (x:=R.1) ?_;rintro f1 t1 G1 f2 t2 G2 f3 t3 G3 f4 t4 G4 f5 t5 G5 f6 t6 G6 f7 t7 G7 ez s3 s4 - - - - - - -;rw [ez];refine go ?_;exact BB
 have hi1:1 < ws.length:=FH
 have hs1:=hws _ (List.getElem_mem hi1);refine Mx (xs:=ws) 0 ?_;rintro hi0 b0 o0 rfl s0;refine Mx (xs:=ws) 1 ?_;rintro - b1 o1 e9 s9;cases e9;apply Qx;refine Ew [2,4,5,6,7] [0,1,2,3,4,5,6,7,8,9,10,11,12,13,14] (fun b:Bool=>[(24,.bool b)]) (fun _=>[]) (fun b=>b=decide (ws[0]=⟨#[115,101,110,100]⟩∧ws.length=2∧¬ws[1]=⟨#[]⟩)) ?_ fun b hb9=>?_
 ·by_cases hs:ws[0]=⟨#[115,101,110,100]⟩
  ·refine go ?_;rw [show decide (ws[0]=⟨#[115,101,110,100]⟩)=true from decide_eq_true hs];refine go ?_;by_cases hn:ws.length=2
   ·rw [show decide ((ws.length:Int)=2)=true from decide_eq_true FH];refine go ?_;refine Br (decide (¬ws[1]=⟨#[]⟩)) ?_;simp [hs,hn]
   ·rw [show decide ((ws.length:Int)=2)=false from decide_eq_false FH];refine go ?_;refine Br false ?_;simp [hn]
  ·refine go ?_;rw [show decide (ws[0]=⟨#[115,101,110,100]⟩)=false from decide_eq_false hs];refine go ?_;refine Br false ?_;simp [hs]
 subst hb9;by_cases hc:ws[0]=⟨#[115,101,110,100]⟩∧ws.length=2∧¬ws[1]=⟨#[]⟩
 ·rw [decide_eq_true hc];rw [Bb8 hWL hi1 hc.1 hc.2.1 hc.2.2];have hP:=fun v F=>Ra x ⟨1,0,ws[1]⟩ false v F FT hg (show (ws[1]).size≤maxLen by unfold maxLen;omega) (by show _=decide ((1:Int)=2∨(1:Int)=4);decide);generalize rsC x (Kd x.Bh ⟨1,0,ws[1]⟩)=R at hP ⊢;refine Og ?_;intros;refine As [0,4] [] ?_;refine Dq 0 1 2 3 ?_;refine dt 4 ?_;refine dN 5 ?_;refine oC ?_;refine Ca (hP _ _) fun u _=>?_;refine Co (x:=R.1) ?_;rintro f1 t1 G1 f2 t2 G2 f3 t3 G3 f4 t4 G4 f5 t5 G5 f6 t6 G6 f7 t7 G7 ez s3 s4 - - - - - - -;rw [ez];refine dk ?_;refine Ec 6 7 ?_;refine dN 8 ?_;refine oS ?_;refine dk ?_
  refine dt 9 ?_;refine dd ?_;refine go ?_;exact BB
 rw [decide_eq_false hc];refine go ?_;refine A1 rfl (fun h3=>?_) (fun h3=>?_)
 ·rw [Bb6 hWL FH];exact DQ
 refine go ?_;refine Ca (Y1 ws[1] FH) fun _ _=>?_;cases hp:(C1 ws[1]).2
 ·have hr:Pn x.Bh line=none:=by
   by_cases hn:ws.length=2
   ·rw [Avf hWL hi1 hn (fun e=>hc ⟨e.1,hn,e.2⟩),hp];rfl
   ·rw [Al5 hWL hi1 FH FH,hp,if_neg (fun e=>by cases e.1)]
  rw [hr];exact DQ
 refine go ?_;refine A1 rfl (fun h2=>?_) (fun h2=>?_)
 ·have hn:ws.length=2:=FH
  rw [Avf hWL hi1 hn (fun e=>hc ⟨e.1,hn,e.2⟩),hp,if_pos rfl];have hP:=fun v F=>Axi x ws[0] (C1 ws[1]).1 v F FT hg;generalize rsC x (Xv x.Bh (ws[0]).data.toList (C1 ws[1]).1)=R at hP ⊢;refine Og ?_;intros;refine As [1,4] [] ?_;refine Dq 0 1 2 3 ?_;refine dt 4 ?_;refine dN 5 ?_;refine oC ?_;refine Ca (hP _ _) fun u _=>?_;refine Co (x:=R.1) ?_;rintro f1 t1 G1 f2 t2 G2 f3 t3 G3 f4 t4 G4 f5 t5 G5 f6 t6 G6 f7 t7 G7 ez s3 s4 - - - - - - -;rw [ez];refine dk ?_;refine Ec 6 7 ?_;refine dN 8 ?_;refine oS ?_;refine dk ?_;refine dt 9 ?_;refine dd ?_;refine go ?_
  exact BB
 have hn:ws.length=3:=FH
 have hi2:2 < ws.length:=FH
 have hs2:=hws _ (List.getElem_mem hi2);rw [Al5 hWL hi1 hi2 hn,hp];refine Mx (xs:=ws) 2 ?_;rintro - b2 o2 e9 s8;cases e9;refine go ?_;refine Ca (Y1 ws[2] FH) fun _ _=>?_;cases hp2:(C1 ws[2]).2
 ·rw [if_neg (fun e=>by cases e.2.1)];exact DQ
 by_cases hf:ws[0]=⟨#[102,97,99,101,115]⟩
 ·rw [if_pos ⟨rfl,rfl,(Dw.1 hf:(ws[0]).data.toList=N3)⟩,Aix];refine go ?_;rw [show decide (¬ws[0]=⟨#[102,97,99,101,115]⟩)=false from decide_eq_false (fun h=>h hf)];refine Og ?_;intros;refine As [5] [] ?_;refine Dq 0 1 2 3 ?_;refine dN 4 ?_;refine oC ?_;refine Ca (As2 x (C1 ws[1]).1 (C1 ws[2]).1 _ _ hg) fun _ _=>?_;refine dk ?_;refine dN 5 ?_;refine oS ?_;refine dk ?_;refine dt 6 ?_;refine dd ?_;exact DQ
 ·rw [if_neg (fun e=>hf (Dw.2 e.2.2))];refine go ?_;rw [show decide (¬ws[0]=⟨#[102,97,99,101,115]⟩)=true from decide_eq_true hf];exact DQ
theorem Bfk {x:Cc} {line:ByteArray}:rsC x (Pn x.Bh line)=(⟨H4 x.Bh line,x.J0⟩,Qw x.Bh line):=by
 unfold rsC H4 Qw;cases Pn x.Bh line <;> rfl
theorem Ayh (l:Log) (line Gw:ByteArray) (w:World) (hv:Kl l.Cs.data.toList l.pending.data.toList l.count=true) (hc:¬l.count=60) (hr:Lg.Bv line Gw=true) (hz:l.Cs.size+l.pending.size≤30000) (h1:line.size≤160) (h2:Gw.size≤200) :
  Calls prog 38 #[.agg #[.string l.Cs,.string l.pending,.int .i64 l.count],.agg #[.string line,.string Gw]] w (RB (.tuple #[.agg #[.string (Sy l line Gw).Cs,.string (Sy l line Gw).pending,.int .i64 (Sy l line Gw).count],.int .i64 0]) w):=by
 have hcn:=Lg.Afw hv;obtain ⟨k,hk⟩:∃k:Nat,l.count=k:=⟨l.count.toNat,FH⟩;have h:=(Ayi l.Cs l.pending line Gw k (by rw [←hk];exact hv) FH hr hz h1 h2).val w nofun;rw [←hk] at h;unfold Sy;rw [show k=l.count.toNat by omega] at h;exact h
theorem Y0 (x:Cc) (line:ByteArray) (v:Value) (F FT:List Nat) (hs:U6 x.Bh) (hz:x.J0.Cs.size+x.J0.pending.size≤1048576) (hl:line.size≤maxLen):Fn prog 17 [v,.string line] [.isv Dd v x F,Gs FT] [] (fun (_:Xp)=>True) (fun u=>.tuple #[.agg u.cs.toArray,.string (Md x line).2]) (fun u=>[.isv Dd (.agg u.cs.toArray) (Md x line).1 u.F]):=by
 refine enter func17 rfl ntmps17 fun w0=>?_;refine Co ?_;rintro a1 c1 F1 a2 c2 F2 a3 c3 F3 a4 c4 F4 a5 c5 F5 a6 c6 F6 a7 c7 F7 rfl s1 s2 l1 l2 l3 l4 l5 l6 l7;refine Gk x.Bh (a1:=a1) (a2:=a2) (a3:=a3) (a4:=a4) (a5:=a5) (a6:=a6) (a7:=a7) ?_;refine go ?_;intros;refine Ca (Ap2 x _ F hs) fun u0 _=>?_;refine Co (x:=x) ?_;rintro f1 t1 G1 f2 t2 G2 f3 t3 G3 f4 t4 G4 f5 t5 G5 f6 t6 G6 f7 t7 G7 ez - - - - - - - - -;rw [ez];refine go ?_;intros;refine Ca (Aln x _ F hz) fun _ _=>?_;unfold Md;cases hg:Ha x
 ·rw [if_neg FK];exact BI
 rw [if_pos rfl];have hgn:At x.Bh=true:=IU
 have hgl:Kl x.J0.Cs.data.toList x.J0.pending.data.toList x.J0.count=true:=by unfold Ha at hg;rw [Bool.and_eq_true] at hg;exact hg.2
 have hsz:=Agg hg;refine go ?_;refine cb (fun w st=>Lg.Zi line ⟨#[]⟩ w hl (Nat.zero_le _)) ?_;rw [show Lg.Bv line ⟨#[]⟩=U9 line from rfl];cases h1:U9 line
 ·have e:P5 x line=(x,bz Bf1):=by unfold P5;rw [h1];rfl
  rw [e];exact BI
 refine go ?_;refine A1 rfl (fun h2=>?_) (fun h2=>?_)
 ·have e:P5 x line=(x,bz Avo):=by unfold P5;rw [h1,if_pos rfl,if_pos h2]
  rw [e];exact BI
 have hlz:line.size≤160:=by
  have h:=h1;unfold U9 Lg.Bv Ga at h;simp only [Bool.and_eq_true,decide_eq_true_eq] at h;have:=h.1.1.1.1.2;omega
 rw [Asl ⟨h1,h2⟩];have ht:=Amv (Anr (line:=line) hgn);have hgr:=Aa3 h1 ht.1 ht.2;have hgm:=Al4 (line:=line) hgn;refine D7 x s1 s2 (a1:=f1) (c1:=t1) (a2:=f2) (c2:=t2) (a3:=f3) (c3:=t3) (a4:=f4) (c4:=t4) (a5:=f5) (c5:=t5) (a6:=f6) (c6:=t6) (a7:=f7) (c7:=t7) ?_;refine go ?_;refine Ca (Ba1 x line _ _ FT hgn FH) fun u _=>?_;rw [Bfk];dsimp only;refine Co (x:=(⟨H4 x.Bh line,x.J0⟩:Cc)) ?_;rintro g1 u1 K1 g2 u2 K2 g3 u3 K3 g4 u4 K4 g5 u5 K5 g6 u6 K6 g7 u7 K7 ez - - - - - - - - -;rw [ez];refine go ?_;intros;refine Ca (Ap2 ⟨H4 x.Bh line,x.J0⟩ _ _ (Vb hgm)) fun u1 _=>?_
 refine Co (x:=(⟨H4 x.Bh line,x.J0⟩:Cc)) ?_;rintro b1 d1 L1 b2 d2 L2 b3 d3 L3 b4 d4 L4 b5 d5 L5 b6 d6 L6 b7 d7 L7 ez - - - - - - - - -;rw [ez];refine go ?_;refine Ew [1,2,4,5,6] [0,1,2,3,4,5,6,18,27,28,37,38] (fun _:Unit=>[(8,.string (Te (Qw x.Bh line)))]) (fun _=>[]) (fun _=>True) ?_ fun _ _=>?_
 ·refine A1 rfl (fun h5=>?_) (fun h5=>?_)
  ·have e:Te (Qw x.Bh line)=bz Bde:=by unfold Te;rw [if_pos FH]
   rw [e];exact CM
  ·have e:Te (Qw x.Bh line)=Qw x.Bh line:=by unfold Te;rw [if_neg FH]
   rw [e];exact CM
 refine go ?_;refine cb (fun w st=>Ayh x.J0 line (Te (Qw x.Bh line)) w hgl h2 hgr hsz hlz ht.2) ?_;have hcg:=Agg (Apc (line:=line) hg);rw [Asl ⟨h1,h2⟩] at hcg;dsimp only at hcg;refine go ?_;refine D7 (⟨H4 x.Bh line,Sy x.J0 line (Te (Qw x.Bh line))⟩:Cc) (show (Sy x.J0 line (Te (Qw x.Bh line))).Cs.size≤maxLen by unfold maxLen;omega) (show (Sy x.J0 line (Te (Qw x.Bh line))).pending.size≤maxLen by unfold maxLen;omega) (a1:=b1) (c1:=d1) (a2:=b2) (c2:=d2) (a3:=b3) (c3:=d3) (a4:=b4) (c4:=d4) (a5:=b5) (c5:=d5) (a6:=b6) (c6:=d6) (a7:=b7) (c7:=d7) ?_;exact AF
structure RsS where
 k:Nat
 z:NL
 F:List Nat
 a:Option Addr
 c:Nat
 Fa:List Nat
theorem Axl (t:Bs):(Dm 10 t).length≤t.length+1∧∀u∈Dm 10 t,u.length≤t.length:=by
 have hcb:=Lib.countB_le ⟨#[10]⟩ FK (bz t).size (bz t) (Nat.le_refl _);have hlen:=Lib.splitB_all ⟨#[10]⟩ FK 0 _ (bz t) rfl;rw [Wh,Jo,List.length_map] at hlen;rw [Iu] at hcb;refine ⟨FH,fun u hu=>?_⟩;have h:bz u∈(Dm 10 t).map bz:=List.mem_map.2 ⟨u,hu,rfl⟩;have e:=Wh 10 (bz t);rw [Jo] at e;rw [←e] at h;have:=To ⟨#[10]⟩ (bz t).size _ (bz t) (Nat.le_refl _) (bz u) h;rw [Iu,Iu] at this;exact this
theorem Alq (t:ByteArray):(Qn t).length≤t.size+1∧∀l∈Qn t,l.size≤t.size:=by
 obtain ⟨h1,h2⟩:=Axl t.data.toList;rw [Ct] at h1;unfold Qn;rw [List.length_map];refine ⟨h1,fun l hl=>?_⟩;obtain ⟨u,hu,rfl⟩:=List.mem_map.1 hl;have:=h2 u hu;rw [Ct] at this;rw [Iu];exact this
theorem Al1 {c:Cc} {l:ByteArray} (hg:Ha c=true):(P5 c l).2.size≤200:=by
 unfold P5
 split
 ·split
  ·show (bz Avo).size≤200;decide
  ·exact (Amv (Anr IU)).2
 ·show (bz Bf1).size≤200;decide
theorem Ape {x:Cc} {ls:List ByteArray} {k:Nat} (h:k < ls.length):Ch x (ls.take (k+1))=((P5 (Ch x (ls.take k)).1 ls[k]).1,(Ch x (ls.take k)).2++[(P5 (Ch x (ls.take k)).1 ls[k]).2]):=by
 rw [List.take_succ_eq_append_getElem h,Ahn]
theorem Aoq (x:Cc) (t:ByteArray) (v:Value) (F FT:List Nat) (hs:U6 x.Bh) (hz:x.J0.Cs.size+x.J0.pending.size≤1048576) (hl:t.size≤1048576):Fn prog 7 [v,.string t] [.isv Dd v x F,Gs FT] [] (fun (_:OwR)=>True) (fun z=>.tuple #[.slice z.a (Ht x t).1.length z.c,.bool (Ht x t).2]) (fun z=>[.ow A8 9 (.slice z.a (Ht x t).1.length z.c) (Ht x t).1 z.F]):=by
 obtain ⟨hll,hls⟩:=Alq t;refine enter func7 rfl ntmps7 fun w0=>?_;refine Co ?_;rintro a1 c1 F1 a2 c2 F2 a3 c3 F3 a4 c4 F4 a5 c5 F5 a6 c6 F6 a7 c7 F7 rfl s1 s2 l1 l2 l3 l4 l5 l6 l7;refine Gk x.Bh (a1:=a1) (a2:=a2) (a3:=a3) (a4:=a4) (a5:=a5) (a6:=a6) (a7:=a7) ?_;refine Db A8 9 ?_;refine go ?_;intros;refine cn (fun w st=>Avg t ⟨#[10]⟩ FH FK FT w (st.get (p:=Gs FT) FI)) fun a0 c0 F0=>?_;rw [show Lib.splitB ⟨#[10]⟩ 0 (Lib.countB t ⟨#[10]⟩) t=Qn t from Wh 10 t]
 have hres:Ht x t=if Ha x && decide ((Qn t).length≤30) && decide (t.size≤4000) then ((Ch x (Qn t)).2,true) else ([],false):=rfl
 generalize Qn t=ls at *;refine A4 (E:=A8) (xs:=ls) fun F1=>?_;refine go ?_;intros;refine Ca (Adg x _ F FT hz) fun _ _=>?_;cases hg:Ha x
 ·rw [hres,hg,if_neg FI];exact DR
 refine go ?_;intros;by_cases h30:30 < ls.length
 ·rw [hres,hg,if_neg FO,show decide ((ls.length:Int) > 30)=true from decide_eq_true FH];exact DR
 rw [show decide ((ls.length:Int) > 30)=false from decide_eq_false FH];refine go ?_;intros;by_cases h4:4000 < t.size
 ·rw [hres,hg,if_neg FO,show decide ((t.size:Int) > 4000)=true from decide_eq_true FH];exact DR
 rw [show decide ((t.size:Int) > 4000)=false from decide_eq_false FH];rw [hres,hg,if_pos FO];refine go ?_;intros;refine Ca (Ay4 x _ F hs) fun y _=>?_;refine go ?_;intros;rename_i g
 refine Cd [4,5,7,28,29] (fun z:RsS=>[(30,.int .i64 (z.k:Nat)),(8,.slice z.a (Ch x (ls.take z.k)).2.length z.c)]) (fun z=>[.row g 55 0 [] [.slice z.z.a1 (Ch x (ls.take z.k)).1.Bh.Ao.Ad.length z.z.c1,.int .i64 (Ch x (ls.take z.k)).1.Bh.Ab.Aa.Ap,.int .i64 (Ch x (ls.take z.k)).1.Bh.Ab.Aa.size,.slice z.z.a2 (Ch x (ls.take z.k)).1.Bh.Ab.Aa.An.length z.z.c2,.int .i64 (Ch x (ls.take z.k)).1.Bh.Ab.Ai,.int .i64 (Ch x (ls.take z.k)).1.Bh.Ab.quiet,.slice z.z.a3 (Ch x (ls.take z.k)).1.Bh.Ab.holds.length z.z.c3,.slice z.z.a4 (Ch x (ls.take z.k)).1.Bh.Af.length z.z.c4,.slice z.z.a5 (Ch x (ls.take z.k)).1.Bh.Ac.length z.z.c5,.slice z.z.a6 (Ch x (ls.take z.k)).1.Bh.down.length z.z.c6,.slice z.z.a7 (Ch x (ls.take z.k)).1.Bh.up.length z.z.c7,.string (Ch x (ls.take z.k)).1.J0.Cs,.string (Ch x (ls.take z.k)).1.J0.pending,.int .i64 (Ch x (ls.take z.k)).1.J0.count] [],.own Zx (.agg #[.slice z.z.a1 (Ch x (ls.take z.k)).1.Bh.Ao.Ad.length z.z.c1,.int .i64 (Ch x (ls.take z.k)).1.Bh.Ab.Aa.Ap,.int .i64 (Ch x (ls.take z.k)).1.Bh.Ab.Aa.size,.slice z.z.a2 (Ch x (ls.take z.k)).1.Bh.Ab.Aa.An.length z.z.c2,.int .i64 (Ch x (ls.take z.k)).1.Bh.Ab.Ai,.int .i64 (Ch x (ls.take z.k)).1.Bh.Ab.quiet,.slice z.z.a3 (Ch x (ls.take z.k)).1.Bh.Ab.holds.length z.z.c3,.slice z.z.a4 (Ch x (ls.take z.k)).1.Bh.Af.length z.z.c4,.slice z.z.a5 (Ch x (ls.take z.k)).1.Bh.Ac.length z.z.c5,.slice z.z.a6 (Ch x (ls.take z.k)).1.Bh.down.length z.z.c6,.slice z.z.a7 (Ch x (ls.take z.k)).1.Bh.up.length z.z.c7]) (Ch x (ls.take z.k)).1.Bh z.F,.ow A8 9 (.slice z.a (Ch x (ls.take z.k)).2.length z.c) (Ch x (ls.take z.k)).2 z.Fa]) (fun z=>z.k≤ls.length) (fun z=>ls.length - z.k) ⟨0,⟨y.z.a1,y.z.c1,y.z.a2,y.z.c2,y.z.a3,y.z.c3,y.z.a4,y.z.c4,y.z.a5,y.z.c5,y.z.a6,y.z.c6,y.z.a7,y.z.c7⟩,_,none,0,[]⟩ (Nat.zero_le _) fun z hk=>?_
 have hgk:=Aa2 (ls.take z.k) hg;have hrk:(Ch x (ls.take z.k)).2.length≤30:=by rw [Zd,List.length_take];omega
 refine go ?_;intros;refine A1 rfl (fun h1=>?_) (fun h1=>?_)
 ·have hh:z.k < ls.length:=FH
  have hsz:=hls _ (List.getElem_mem hh);have hst:=Ape (x:=x) hh;refine Mx (xs:=ls) z.k ?_;rintro hi0 b0 o0 e0 s0;cases e0;refine go ?_;intros;refine Ca (Awd (Ch x (ls.take z.k)).1 ls[z.k] g z.z.a1 z.z.c1 z.z.a2 z.z.c2 z.z.a3 z.z.c3 z.z.a4 z.z.c4 z.z.a5 z.z.c5 z.z.a6 z.z.c6 z.z.a7 z.z.c7 _ FT hgk s0) fun u _=>?_;refine go ?_;intros;apply wO;refine Ps (Air (s:=(P5 (Ch x (ls.take z.k)).1 ls[z.k]).2) (by have:=Al1 (l:=ls[z.k]) hgk;unfold maxLen;omega)) Dx fun a9 c9 F9=>?_;refine go ?_;intros
  rw [show ((z.k:Nat):Int)+1=((z.k+1:Nat):Int) by omega,show (Ch x (ls.take z.k)).2++[(P5 (Ch x (ls.take z.k)).1 ls[z.k]).2]=(Ch x (ls.take (z.k+1))).2 by rw [hst],show (P5 (Ch x (ls.take z.k)).1 ls[z.k]).1=(Ch x (ls.take (z.k+1))).1 by rw [hst]];refine Cg ⟨z.k+1,⟨u.z.a1,u.z.c1,u.z.a2,u.z.c2,u.z.a3,u.z.c3,u.z.a4,u.z.c4,u.z.a5,u.z.c5,u.z.a6,u.z.c6,u.z.a7,u.z.c7⟩,u.F,a9,c9,F9⟩ hh (by show ls.length - (z.k+1) < ls.length - z.k;omega)
 rw [show ls.take z.k=ls from List.take_of_length_le FH];exact DR
theorem Awc {c:Cc} {l:ByteArray} (hg:Ha c=true):Md c l=P5 c l:=by unfold Md;rw [hg,if_pos rfl]
theorem Apo {c:Cc} (hg:Ha c=true):At c.Bh=true:=by unfold Ha at hg;rw [Bool.and_eq_true] at hg;exact hg.1
theorem Agb (x:Cc) (t:ByteArray) (v:Value) (F FT:List Nat) (hz:x.J0.Cs.size+x.J0.pending.size≤1048576) (hl:t.size≤1048576):Fn prog 5 [v,.string t] [.isv Dd v x F,Gs FT] [] (fun (_:OwR)=>True) (fun z=>.tuple #[.slice z.a (Ht x t).1.length z.c,.bool (Ht x t).2]) (fun z=>[.ow A8 9 (.slice z.a (Ht x t).1.length z.c) (Ht x t).1 z.F]):=by
 obtain ⟨hll,hls⟩:=Alq t;refine enter func5 rfl ntmps5 fun w0=>?_;refine Co ?_;rintro a1 c1 F1 a2 c2 F2 a3 c3 F3 a4 c4 F4 a5 c5 F5 a6 c6 F6 a7 c7 F7 rfl s1 s2 l1 l2 l3 l4 l5 l6 l7;refine Gk x.Bh (a1:=a1) (a2:=a2) (a3:=a3) (a4:=a4) (a5:=a5) (a6:=a6) (a7:=a7) ?_;refine go ?_;intros;rename_i g g0;refine Ca (Ad2 t 10 FH) fun q _=>?_;refine C7 A8 ?_;obtain ⟨qa,qc,qF⟩:=q;dsimp only;rw [show (Dm 10 t.data.toList).map bz=Qn t from rfl];have hres:Ht x t=if Ha x && decide ((Qn t).length≤30) && decide (t.size≤4000) then ((Ch x (Qn t)).2,true) else ([],false):=rfl
 generalize Qn t=ls at *;refine A4 (E:=A8) (xs:=ls) fun F1=>?_;refine go ?_;intros;refine Ca (Aln x _ F hz) fun _ _=>?_;cases hg:Ha x
 ·rw [hres,hg,if_neg FI];exact DR
 refine go ?_;intros;by_cases h4:4000 < t.size
 ·rw [hres,hg,if_neg FO,show decide ((t.size:Int) > 4000)=true from decide_eq_true FH];exact DR
 rw [show decide ((t.size:Int) > 4000)=false from decide_eq_false FH];refine go ?_;intros;by_cases h30:30 < ls.length
 ·rw [hres,hg,if_neg FO,show decide ((ls.length:Int) > 30)=true from decide_eq_true FH];exact DR
 rw [show decide ((ls.length:Int) > 30)=false from decide_eq_false FH];rw [hres,hg,if_pos FO];refine go ?_;intros
 refine Cd [2,4,5,7] (fun z:RsS=>[(9,.int .i64 (z.k:Nat)),(6,.slice z.a (Ch x (ls.take z.k)).2.length z.c)]) (fun z=>[.row g 55 0 [] [.slice z.z.a1 (Ch x (ls.take z.k)).1.Bh.Ao.Ad.length z.z.c1,.int .i64 (Ch x (ls.take z.k)).1.Bh.Ab.Aa.Ap,.int .i64 (Ch x (ls.take z.k)).1.Bh.Ab.Aa.size,.slice z.z.a2 (Ch x (ls.take z.k)).1.Bh.Ab.Aa.An.length z.z.c2,.int .i64 (Ch x (ls.take z.k)).1.Bh.Ab.Ai,.int .i64 (Ch x (ls.take z.k)).1.Bh.Ab.quiet,.slice z.z.a3 (Ch x (ls.take z.k)).1.Bh.Ab.holds.length z.z.c3,.slice z.z.a4 (Ch x (ls.take z.k)).1.Bh.Af.length z.z.c4,.slice z.z.a5 (Ch x (ls.take z.k)).1.Bh.Ac.length z.z.c5,.slice z.z.a6 (Ch x (ls.take z.k)).1.Bh.down.length z.z.c6,.slice z.z.a7 (Ch x (ls.take z.k)).1.Bh.up.length z.z.c7,.string (Ch x (ls.take z.k)).1.J0.Cs,.string (Ch x (ls.take z.k)).1.J0.pending,.int .i64 (Ch x (ls.take z.k)).1.J0.count] [],.isv Dd (.agg #[.slice z.z.a1 (Ch x (ls.take z.k)).1.Bh.Ao.Ad.length z.z.c1,.int .i64 (Ch x (ls.take z.k)).1.Bh.Ab.Aa.Ap,.int .i64 (Ch x (ls.take z.k)).1.Bh.Ab.Aa.size,.slice z.z.a2 (Ch x (ls.take z.k)).1.Bh.Ab.Aa.An.length z.z.c2,.int .i64 (Ch x (ls.take z.k)).1.Bh.Ab.Ai,.int .i64 (Ch x (ls.take z.k)).1.Bh.Ab.quiet,.slice z.z.a3 (Ch x (ls.take z.k)).1.Bh.Ab.holds.length z.z.c3,.slice z.z.a4 (Ch x (ls.take z.k)).1.Bh.Af.length z.z.c4,.slice z.z.a5 (Ch x (ls.take z.k)).1.Bh.Ac.length z.z.c5,.slice z.z.a6 (Ch x (ls.take z.k)).1.Bh.down.length z.z.c6,.slice z.z.a7 (Ch x (ls.take z.k)).1.Bh.up.length z.z.c7,.string (Ch x (ls.take z.k)).1.J0.Cs,.string (Ch x (ls.take z.k)).1.J0.pending,.int .i64 (Ch x (ls.take z.k)).1.J0.count]) (Ch x (ls.take z.k)).1 z.F,.ow A8 9 (.slice z.a (Ch x (ls.take z.k)).2.length z.c) (Ch x (ls.take z.k)).2 z.Fa]) (fun z=>z.k≤ls.length) (fun z=>ls.length - z.k) ⟨0,⟨a1,c1,a2,c2,a3,c3,a4,c4,a5,c5,a6,c6,a7,c7⟩,F,some ⟨g0,0,none⟩,0,[g0]⟩ (Nat.zero_le _) fun z hk=>?_
 have hgk:=Aa2 (ls.take z.k) hg;have hrk:(Ch x (ls.take z.k)).2.length≤30:=by rw [Zd,List.length_take];omega
 refine go ?_;intros;refine A1 rfl (fun h1=>?_) (fun h1=>?_)
 ·have hh:z.k < ls.length:=FH
  have hsz:=hls _ (List.getElem_mem hh);have hst:=Ape (x:=x) hh;have hP:=fun v F=>Y0 (Ch x (ls.take z.k)).1 ls[z.k] v F FT (Vb (Apo hgk)) (by have:=Agg hgk;omega) GC;rw [Awc hgk] at hP;refine Mx (xs:=ls) z.k ?_;rintro hi0 b0 o0 e0 s0;cases e0;refine Og ?_;intros;refine As [0,1] [6,7,8,9,10] ?_;refine Dq 0 1 2 3 ?_;refine dt 4 ?_;refine dN 5 ?_;refine oC ?_;refine Ca (hP _ _) fun u _=>?_;refine Co (x:=(P5 (Ch x (ls.take z.k)).1 ls[z.k]).1) ?_;rintro f1 t1 G1 f2 t2 G2 f3 t3 G3 f4 t4 G4 f5 t5 G5 f6 t6 G6 f7 t7 G7 ez q1 q2 - - - - - - -;rw [ez];refine dk ?_;refine dtp 6 ?_
  refine dtp 7 ?_;refine dtp 8 ?_;refine dN 9 ?_;refine oS ?_;refine Tf ?_;refine dtp 10 ?_;refine dd ?_;refine D7 (P5 (Ch x (ls.take z.k)).1 ls[z.k]).1 q1 q2 (a1:=f1) (c1:=t1) (a2:=f2) (c2:=t2) (a3:=f3) (c3:=t3) (a4:=f4) (c4:=t4) (a5:=f5) (c5:=t5) (a6:=f6) (c6:=t6) (a7:=f7) (c7:=t7) ?_;refine go ?_;intros;apply wO;refine Ps (Air (s:=(P5 (Ch x (ls.take z.k)).1 ls[z.k]).2) (by have:=Al1 (l:=ls[z.k]) hgk;unfold maxLen;omega)) Dx fun a9 c9 F9=>?_;refine go ?_;intros
  rw [show ((z.k:Nat):Int)+1=((z.k+1:Nat):Int) by omega,show (Ch x (ls.take z.k)).2++[(P5 (Ch x (ls.take z.k)).1 ls[z.k]).2]=(Ch x (ls.take (z.k+1))).2 by rw [hst],show (P5 (Ch x (ls.take z.k)).1 ls[z.k]).1=(Ch x (ls.take (z.k+1))).1 by rw [hst]];refine Cg ⟨z.k+1,⟨f1,t1,f2,t2,f3,t3,f4,t4,f5,t5,f6,t6,f7,t7⟩,_,a9,c9,F9⟩ hh (by show ls.length - (z.k+1) < ls.length - z.k;omega)
 rw [show ls.take z.k=ls from List.take_of_length_le FH];exact DR
end Go.Proofs.YtcmighgaiacgoaaGreatDoor
namespace Go.Proofs.YtcmighgaiacgoaaGreatDoor

theorem Abm {α:Type} {f:α→Nat} {x:α}:∀{xs:List α},x∈xs→f x≤Ke f xs
 | y::r,h=>by
  have e:Ke f (y::r)=f y+1+Ke f r:=by unfold Ke;simp;omega
  rw [e];rcases List.mem_cons.1 h with rfl|h
  ·omega
  ·have:=Abm (f:=f) h;omega
theorem Rp {α:Type} {f:α→Nat} {xs:List α}:xs.length≤Ke f xs:=by unfold Ke;omega
theorem Afq {n:Dv} (h:Y9 n≤1048576):U6 n:=by
 unfold Y9 N4 Kg Jr at h;have h1:=Rp (f:=fun _:Int=>0) (xs:=n.Ao.Ad);have h2:=Rp (f:=ByteArray.size) (xs:=n.Ab.Aa.An);have h3:=Rp (f:=fun _:Hx=>0) (xs:=n.Ab.holds);have h4:=Rp (f:=E5) (xs:=n.Af);have h5:=Rp (f:=Fv) (xs:=n.Ac);have h6:=Rp (f:=Ke Eg) (xs:=n.down);have h7:=Rp (f:=Ke Eg) (xs:=n.up)
 exact {
  t:=FH
  i:=FH
  h:=FH
  e:=FH
  e1:=fun x hx=>by
   have a:=Abm (f:=E5) hx;have b:=Rp (f:=Mv) (xs:=x.Ah);unfold E5 at a h;omega
  e2:=fun x hx y hy=>by
   have a:=Abm (f:=E5) hx;have b:=Abm (f:=Mv) hy;have c:=Rp (f:=fun _:Int=>0) (xs:=y.Bj);have d:Mv y=Ke (fun _=>0) y.Bj:=rfl;have e:E5 x=Ke Mv x.Ah:=rfl;omega
  rl:=FH
  r:=fun x hx=>by
   have a:=Abm (f:=Fv) hx;have b:=Rp (f:=Ro) (xs:=x.Aa.Al);have c:=Rp (f:=fun _:Ax=>0) (xs:=x.Am);have d:Fv x=Ke Ro x.Aa.Al+Ke (fun _=>0) x.Am:=rfl;omega
  d:=FH
  dq:=fun q hq=>by
   have a:=Abm (f:=Ke Eg) hq;have b:=Rp (f:=Eg) (xs:=q);omega
  u:=FH
  uq:=fun q hq=>by
   have a:=Abm (f:=Ke Eg) hq;have b:=Rp (f:=Eg) (xs:=q);omega }
theorem Aga (x0:Cc) (x1:ByteArray) (_h0:Nw x0≤1048576) (_h1:x1.size≤1048576):Dj Nh (Ht x0 x1).1≤4294967296:=by
 unfold Ht
 split
 ·rename_i h;unfold Aqh at h;simp only [Bool.and_eq_true,decide_eq_true_eq] at h;have h1:=Aum Nh 1 (Ch x0 (Qn x1)).2 (fun _ _=>by simp [Nh]);rw [Zd] at h1;dsimp only;omega
 ·decide
end Go.Proofs.YtcmighgaiacgoaaGreatDoor
namespace Go.Proofs.YtcmighgaiacgoaaGreatDoor
open Go.ChangeShapes Go.WideShapes Go.ChangeAt Go.RowKit
theorem Aal {H:Type} {enc:TypeId × Value→H} {P:Program} (hl:laidOutB P=true) {W W':World} (hb:Below W.heap.size W W') :
  ∀(ts:List TypeId) (vs:List Value) (ds:List (DataW H)) (ps:List MemPlace),(∀t∈ts,P.readableRec t=true∧t < P.types.size) →
   DataW.TrodAll enc P W 0 (fun _=>true) true ts vs ds ps→(∀x∈ps,x.block < W.heap.size)→DataW.TrodAll enc P W' 0 (fun b=>decide (b < W.heap.size)) true ts vs ds ps
 | [],vs,ds,ps,_,h,_=>by obtain ⟨rfl,rfl,rfl⟩:=trodAll_nil h;exact rfl
 | t::ts,vs,ds,ps,ht,h,hlt=>by
  obtain ⟨v,vs',d,ds',p,q,rfl,rfl,rfl,h1,h2⟩:=trodAll_cons h;have ⟨a,b⟩:=ht t FI;exact ⟨p,q,Below.trod hl a b h1 hb fun x hx=>hlt x JC,Aal hl hb ts vs' ds' q (fun t h=>ht t JS) h2 fun x hx=>hlt x JC,rfl⟩
theorem Ba4 {H:Type} {enc:TypeId × Value→H} {P:Program} {f:Func} {s:ChangeSpec} {tb:TypeId} (hl:laidOutB P=true) (hr:∀t∈f.params.toList,P.readableRec t=true∧t < P.types.size)
  (hb:P.underlying tb=some .bool) (hres:f.resultTypes = #[tb]) (hv:s.vars=[]) {W W':World} {args:Array Value} {ds gs:List (DataW H)} {before:List MemPlace}
  (hs:s.fn H ds={ results:=[.lit (.bool true)],args:=ds }) (hW:DataW.Whole enc P f.params.toList s.vars false W args.toList ds gs before) (hB:Below W.heap.size W W') :
  s.post enc P f false true false false W args (.bool true) W':=by
 have hlt:=hW.lt;have hW0:=hW;obtain ⟨p,q,hA,hV,rfl,_,_⟩:=hW0;rw [hv] at hV;obtain ⟨rfl,rfl⟩:=trodVars_none hV;refine ⟨ds,[],p++[],[],p,[],hW,?_,?_,?_,hB.frame _,fun h=>by cases h⟩
 ·rw [List.append_nil,hs,hres];exact trodAll_mk1 (shut_bool hb true)
 ·rw [List.append_nil,hs];exact Aal hl hB _ _ _ _ hr hA fun x hx=>hlt x (by simpa using hx)
 ·rw [hv,List.append_nil,hs];exact rfl
def O6 (P:Program) {α:Type} (E:Bn α) (t:TypeId):Prop :=
 ∀{H:Type} {enc:TypeId × Value→H} {w:World} {fuel:Nat} {cs:List Value} {x:DataW H × List MemPlace},DataW.trod enc P w 0 (fun _=>true) true fuel t cs=some x→∃y F,E.Kn w cs y F
section
variable {P:Program}
theorem Fm {t:TypeId} (ht:P.underlying t=some (.int .i64)):O6 P Bb t:=fun h=>by
 obtain ⟨n,rfl,_,_⟩:=DataW.trod_int ht h;exact ⟨n,[],rfl,rfl⟩
theorem Wf {t:TypeId} (ht:P.underlying t=some .string):O6 P A8 t:=fun h=>by
 obtain ⟨s,rfl,_,hs⟩:=DataW.trod_string ht h;exact ⟨s,[],rfl,hs,rfl⟩
theorem Aio {t:TypeId} (ht:P.underlying t=some .bool):O6 P Aue t:=fun {_ _ _ fuel _ _} h=>by
 cases fuel with
 | zero=>simp [DataW.trod] at h
 | succ n =>
  unfold DataW.trod at h;rw [ht] at h
  split at h <;> simp_all
  all_goals simp [Aue]
theorem Afm {α:Type} {E:Bn α} {e:TypeId} (hsz:P.cellsOf e=E.sz) (he:O6 P E e) {H:Type} {enc:TypeId × Value→H} {w:World} {n b off:Nat} :
  ∀(els:List (DataW H × List MemPlace)) (k:Nat),(∀i,i < els.length→(w.cells? 0 ((⟨b,off,none⟩:Addr).add ((k+i) * P.cellsOf e)) (P.cellsOf e)).bind (DataW.trod enc P w 0 (fun _=>true) true n e)=els[i]?) →
   ∃ys F,ys.length=els.length∧Pg E w b (off+k * E.sz) ys F
 | [],_,_=>⟨[],[],rfl,rfl⟩
 | x::r,k,h=>by
  have h0:=h 0 FI;simp only [Nat.add_zero,List.getElem?_cons_zero,Option.bind_eq_some_iff] at h0;obtain ⟨cs,hc,hx⟩:=h0;obtain ⟨y,F1,hy⟩:=he hx;obtain ⟨ys,F2,hl,hys⟩:=Afm hsz he r (k+1) fun i hi=>by
   have:=h (i+1) IZ;rw [show k+1+i=k+(i+1) by omega];exact EM
  refine ⟨y::ys,F1++F2,by simp [hl],cs,F1,F2,rfl,hy,fun j hj=>?_,by rwa [show off+k * E.sz+E.sz=off+(k+1) * E.sz by rw [Nat.add_mul];omega]⟩;obtain ⟨_,hlen,hcell⟩:=World.cells?_some hc;rw [←hcell j (by rw [hsz];exact hj)]
  congr 1
  simp only [Addr.add,hsz]
  split <;> split <;> simp_all <;> omega
theorem Ir {α:Type} {E:Bn α} {t e:TypeId} (ht:P.underlying t=some (.slice e)) (hsz:P.cellsOf e=E.sz) (hz:0 < E.sz) (he:O6 P E e):O6 P (Ml E hz) t:=fun h=>by
 rcases DataW.trod_slice ht h with ⟨rfl,_⟩|⟨a,len,cap,elems,rest,n,rfl,rfl,_,_,hlc,hcm,hlen,hel,_,_⟩
 ·exact ⟨[],[],_,rfl,none,0,rfl,⟨FI,FI⟩,.inl ⟨rfl,rfl,fun _=>rfl⟩⟩
 ·by_cases h0:len=0
  ·subst h0;exact ⟨[],[],_,rfl,some a,cap,rfl,⟨FI,FH⟩,.inl ⟨rfl,rfl,fun e=>by cases e⟩⟩
  ·have hs:a=⟨a.block,a.off,none⟩:=by
    have:=hel 0 FH;rw [List.getElem?_eq_getElem FH] at this;simp only [Option.bind_eq_some_iff] at this;obtain ⟨cs,hc,_⟩:=this;obtain ⟨_,hl2,hcell⟩:=World.cells?_some hc;have h1:=hcell 0 FH;rw [List.getElem?_eq_getElem FH] at h1;simp [Addr.add,World.cell?] at h1
    split at h1 <;> simp_all
    cases a;simp_all
   obtain ⟨ys,F,hyl,hys⟩:=Afm hsz he elems 0 (n:=n) (b:=a.block) (off:=a.off) (enc:=_) (w:=_) (by
    rw [←hs];intro i hi;rw [Nat.zero_add];exact hel i FH)
   refine ⟨ys,a.block::F,_,rfl,some a,cap,by rw [hyl,hlen],⟨FH,FH⟩,.inr ⟨a.block,a.off,F,by rw [←hs],?_,rfl,by simpa using hys⟩⟩;intro e;rw [e] at hyl;simp at hyl;omega
end
inductive X5 (P:Program):List Field→Nat→(α:Type)→Bn α→Prop
 | nil (off:Nat):X5 P [] off Unit R6
 | cons {f:Field} {r:List Field} {off:Nat} {α β:Type} {A:Bn α} {B:Bn β} (ho:f.offset=off) (hc:P.cellsOf f.type=A.sz) (hA:O6 P A f.type) (h:X5 P r (off+A.sz) β B):X5 P (f::r) off (α × β) (Hc A B)
theorem Aph {P:Program} {H:Type} {enc:TypeId × Value→H} {w:World} {n:Nat} {cs:List Value} {fs:List Field} {off:Nat} {α:Type} {E:Bn α} (h:X5 P fs off α E) :
  (∀f∈fs,∃x,DataW.trod enc P w 0 (fun _=>true) true n f.type ((cs.drop f.offset).take (P.cellsOf f.type))=some x)→off+E.sz=cs.length→∃y F,E.Kn w (cs.drop off) y F:=by
 induction h with
 | nil off=>intro _ hl;exact ⟨(),[],List.drop_of_length_le (by simp [R6] at hl;omega),rfl⟩
 | @cons f r off α β A B ho hc hA _ ih =>
  intro hf hl;obtain ⟨x,hx⟩:=hf f FI;obtain ⟨y,F1,hy⟩:=hA hx;obtain ⟨y2,F2,hy2⟩:=ih (fun f h=>hf f JS) (by simp only [Hc] at hl;omega);subst ho;exact ⟨(y,y2),F1++F2,_,_,F1,F2,by rw [hc,←List.drop_drop,List.take_append_drop],rfl,hy,hy2⟩
theorem Gm {P:Program} {t:TypeId} {fs:Array Field} {α:Type} {E:Bn α} (ht:P.underlying t=some (.struct fs)) (hC:P.cellsOf t=E.sz) (h:X5 P fs.toList 0 α E):O6 P E t:=fun hh=>by
 obtain ⟨xs,n,rfl,_,hcl,hxl,hx⟩:=DataW.trod_struct ht hh;have:=Aph (enc:=_) (w:=_) (n:=n) h (fun f hf=>by
  obtain ⟨i,hi,rfl⟩:=List.getElem_of_mem hf;have:=hx i fs.toList[i] FI;rw [List.getElem?_eq_getElem (by simpa [hxl] using hi)] at this;exact ⟨_,this⟩) (by rw [hcl,hC];simp)
 exact EM
end Go.Proofs.YtcmighgaiacgoaaGreatDoor
namespace Go.Proofs.YtcmighgaiacgoaaGreatDoor

theorem Adq {P:Program} (h:P.funcs.any Func.goes=false) (f:FuncId):P.goes f=false:=by
 have h2:∀g:Nat,(P.funcs[g]?).any Func.goes=false:=fun g=>by
  cases e:P.funcs[g]? with
  | none=>rfl
  | some x =>
   obtain ⟨hg,rfl⟩:=Array.getElem?_eq_some_iff.1 e;have:=(Array.any_eq_false.1 h) g hg;exact EM
 unfold Program.goes;rw [h,Bool.and_false,Bool.or_false]
 first
 | (rw [List.any_eq_false];intro g _;rw [h2];decide)
 | (rw [Array.any_eq_false];intro g _;rw [h2];decide)
theorem Apn (c:OpenClaim) {P:Program} (h:P.funcs.any Func.goes=false):false=c.goesBy P:=by
 have hf:∀n,P.goesFrom n=false:=fun n=>by
  unfold Program.goesFrom;cases P.funcNamed n with
  | none=>rfl
  | some f=>exact Adq h f
 unfold OpenClaim.goesBy Program.goesAt;rw [hf,Bool.false_or];cases c.start with
 | entering=>rfl
 | _ =>
  symm
  first
  | (rw [List.any_eq_false];intro g _;rw [Adq h];decide)
  | (simp only [];rw [List.any_eq_false];intro g _;rw [Adq h];decide)
end Go.Proofs.YtcmighgaiacgoaaGreatDoor
namespace Go.Proofs.YtcmighgaiacgoaaGreatDoor
open Go.RowKit
theorem Bfw (x:Log) (w:World) (z1:x.Cs.size≤maxLen) (z2:x.pending.size≤maxLen) (hl:Afx x≤1048576):Calls prog 19 #[.agg #[.string x.Cs,.string x.pending,.int .i64 x.count]] w (RB (.agg #[.string x.Cs,.string x.pending,.int .i64 x.count]) w):=(Bfv _ x [] w ⟨_,rfl,rfl,z1,z2,rfl⟩ hl).mono fun e w1 h=>by
 obtain ⟨v,F,rfl,⟨_,rfl,rfl,_,_,rfl⟩,hB⟩:=h;exact ⟨rfl,hB.2.2⟩
theorem U4 (v:Value) (x:Cc) (F:List Nat) (w:World) (h:Jz Dd w v x F) (hl:Nw x≤1048576):Calls prog 6 #[v] w (Wm Oe x w):=by
 unfold Nw at hl;refine Ry (A:=[.isv Dd v x F]) ?_ rfl (El h);clear h w;refine enter func6 rfl ntmps6 fun w0=>?_;refine Co ?_;rintro a1 c1 F1 a2 c2 F2 a3 c3 F3 a4 c4 F4 a5 c5 F5 a6 c6 F6 a7 c7 F7 rfl z1 z2 - - - - - - -;refine Gk x.Bh (a1:=a1) (a2:=a2) (a3:=a3) (a4:=a4) (a5:=a5) (a6:=a6) (a7:=a7) ?_;refine Abu x.J0 z1 z2 ?_;refine go ?_;intros;refine cv (fun w st=>Bfx _ x.Bh (F1++F2++F3++F4++F5++F6++F7) w (st.get (p:=.isv _ _ _ _) FL) FH) fun y K=>?_;refine Ys (v:=y) (x:=x.Bh) (F:=K) ?_;rintro b1 d1 G1 b2 d2 G2 b3 d3 G3 b4 d4 G4 b5 d5 G5 b6 d6 G6 b7 d7 G7 e1 - - - - - - -
 rw [e1];refine go ?_;refine cb (fun w st=>Bfw x.J0 w z1 z2 FH) ?_;refine go ?_;refine Aab x z1 z2 ?_;exact AX
theorem Ao7 (va vb:Value) (x:Cc) (Fa Fb:List Nat) (w:World) (ha:Jz Dd w va x Fa) (hb:Jz Dd w vb x Fb):Calls prog 9 #[va,vb] w (RB (.bool true) w):=by
 refine E7 (A:=[.isv Dd va x Fa,.isv Dd vb x Fb]) ?_ rfl (Nn ha hb);clear ha hb w;refine enter func9 rfl ntmps9 fun w0=>?_;refine Co (v:=va) (x:=x) (F:=Fa) ?_;rintro a1 c1 F1 a2 c2 F2 a3 c3 F3 a4 c4 F4 a5 c5 F5 a6 c6 F6 a7 c7 F7 rfl z1 z2 - - - - - - -;refine Co (v:=vb) (x:=x) (F:=Fb) ?_;rintro b1 d1 G1 b2 d2 G2 b3 d3 G3 b4 d4 G4 b5 d5 G5 b6 d6 G6 b7 d7 G7 rfl z3 z4 - - - - - - -;refine Gk x.Bh (a1:=a1) (F1:=F1) (a2:=a2) (F2:=F2) (a3:=a3) (F3:=F3) (a4:=a4) (F4:=F4) (a5:=a5) (F5:=F5) (a6:=a6) (F6:=F6) (a7:=a7) (F7:=F7) ?_;refine Abu x.J0 z1 z2 ?_
 refine Gk x.Bh (a1:=b1) (F1:=G1) (a2:=b2) (F2:=G2) (a3:=b3) (F3:=G3) (a4:=b4) (F4:=G4) (a5:=b5) (F5:=G5) (a6:=b6) (F6:=G6) (a7:=b7) (F7:=G7) ?_;refine Abu x.J0 z1 z2 ?_;refine go ?_;intros;refine cb (fun w st=>Beb _ _ x.Bh _ _ w (st.get (p:=.isv _ _ _ _) FL) (st.get (p:=.isv _ _ _ _) FL)) ?_;refine go ?_;refine cb (fun w st=>Bea _ _ x.J0 _ _ w (st.get (p:=.isv _ _ _ _) FL) (st.get (p:=.isv _ _ _ _) FL)) ?_;exact AA
theorem Aq9 (v:Value) (x:Cc) (F:List Nat) (n:Int) (w:World) (h:Jz Dd w v x F) (h0:0≤n) (h1:n≤1048576):Calls prog 4 #[v,.int .i64 n] w (RB (.int .i64 (Y4 n (Nw x))) w):=by
 refine E7 (A:=[.isv Dd v x F]) ?_ rfl (El h);clear h w;unfold Nw;refine enter func4 rfl ntmps4 fun w0=>?_;refine Co ?_;rintro a1 c1 F1 a2 c2 F2 a3 c3 F3 a4 c4 F4 a5 c5 F5 a6 c6 F6 a7 c7 F7 rfl z1 z2 - - - - - - -;refine Gk x.Bh (a1:=a1) (F1:=F1) (a2:=a2) (F2:=F2) (a3:=a3) (F3:=F3) (a4:=a4) (F4:=F4) (a5:=a5) (F5:=F5) (a6:=a6) (F6:=F6) (a7:=a7) (F7:=F7) ?_;refine Abu x.J0 z1 z2 ?_;refine go ?_;intros;refine cb (fun w st=>Bfp _ x.Bh (F1++F2++F3++F4++F5++F6++F7) (n) w (st.get (p:=.isv _ _ _ _) FL) FH FH) ?_;rcases M5 (n) (Y9 x.Bh) with ⟨e1,l1⟩|⟨e1,l1⟩
 ·rw [e1];refine go ?_;refine ret () trivial ?_
  first|rfl|(rw [Ld FH];rfl)
 rw [e1];clear e1;refine go ?_;refine A1 rfl (fun h=>absurd h FH) (fun _=>?_);refine go ?_;refine cb (fun w st=>Bfo _ x.J0 [] (n - ((Y9 x.Bh:Nat):Int)) w (st.get (p:=.isv _ _ _ _) FL) FH FH) ?_;rcases M5 (n - ((Y9 x.Bh:Nat):Int)) (Afx x.J0) with ⟨e1,l1⟩|⟨e1,l1⟩
 ·rw [e1];refine go ?_;refine ret () trivial ?_
  first|rfl|(rw [Ld FH];rfl)
 rw [e1];clear e1;refine go ?_;refine A1 rfl (fun h=>absurd h FH) (fun _=>?_);refine go ?_;refine ret () trivial ?_
 first|rfl|(rw [Pt FH];exact congrArg (Value.int .i64) FH)
end Go.Proofs.YtcmighgaiacgoaaGreatDoor
namespace Go.Proofs.YtcmighgaiacgoaaGreatDoor

open Go.RowKit
end Go.Proofs.YtcmighgaiacgoaaGreatDoor
namespace Go.Proofs.YtcmighgaiacgoaaGreatDoor
open Go.RowKit
structure Bgv where
 u0:Value
 F0:List Nat
theorem Af6 (v0:Value) (x0:Cc) (F0 FT:List Nat) (x1:ByteArray) (hx1:x1.size≤maxLen):FV 3 [v0,.string x1] [.isv Dd v0 x0 F0,Gs FT] (.bool true):=by
 refine enter func3 rfl ntmps3 fun w0=>?_;refine Bh6 (E:=Dd) (v:=v0) (x:=x0) (F:=F0) Anj ?_;rintro ca0 rfl hla0 hoa0;have hI:=fun (hsm:U6 x0.Bh) (hzz:x0.J0.Cs.size+x0.J0.pending.size≤1048576) (hl1:x1.size≤1048576) V0 F0=>Aoq x0 x1 V0 F0 FT hsm hzz hl1;have hS:=fun (hsm:U6 x0.Bh) (hzz:x0.J0.Cs.size+x0.J0.pending.size≤1048576) (hl1:x1.size≤1048576) V0 F0=>Agb x0 x1 V0 F0 FT hzz hl1;have hV:=Aga x0 x1;obtain ⟨r0,r1,er⟩:∃r0 r1,Ht x0 x1=(r0,r1):=⟨_,_,rfl⟩;rw [er] at hI hS hV;dsimp only at hI hS hV;refine go ?_;intros;refine A1 rfl (fun h9=>?_) (fun h9=>?_)
 ·refine go ?_;intros;exact BD
 have hw1:x1.size≤1048576:=FH
 refine goL ?_;intros;refine cb (fun w st=>ex1 (fun F h=>Aq9 _ x0 F (1048576) w h FH FH) st.rI) ?_;rcases M5 (1048576) (Nw x0) with ⟨e1,l1⟩|⟨e1,l1⟩
 ·rw [e1];refine goL ?_;intros;exact BD
 rw [e1];clear e1;have hw0:Nw x0≤1048576:=FH
 have hc0:=Amw x0 hw0;have hV0:=hV hw0 hw1;have hwn:=hw0;unfold Nw Afx at hwn;replace hI:=hI (Afq FH) FH hw1;replace hS:=hS (Afq FH) FH hw1;refine goL ?_;intros;refine cv (fun w st=>ex1 (fun F h=>U4 _ x0 F w h hw0) st.rI) fun y0 K0=>?_;refine An7 Qs fun K0=>?_;refine goL ?_;intros;refine Ca (hS _ _) fun z hz=>?_;refine Ac1 (Kq.refl _) (xs:=r0) fun Z0=>?_;refine goL ?_;intros;refine cv (fun w st=>ex1 (fun F h=>U4 _ x0 F w h hw0) st.rI) fun yv0 KX0=>?_;refine Aty (E:=Oe) (x:=x0) (F:=KX0) Ank ?_;rintro cx0 rfl hlx0 hox0;refine goL ?_;intros
 refine cm (fun w st=>ex1 (fun F h=>(hI _ F).made w (Nn h (st.get (p:=Gs FT) FL)) (fun _=>rfl)) (st.rO Qs)) fun z hz=>?_;refine Ot ?_;refine goL ?_;intros;refine cb (fun w st=>ex2 (fun Fa Fb ha hb=>Uv _ _ r0 Fa Fb w ha hb) (st.rL ((Kq.refl _))) st.rS) ?_;refine goL ?_;intros;refine Ahc [] ?_;refine dt 0 ?_ (hy:=LJ);refine dt 1 ?_ (hy:=LJ);refine dN 2 ?_;refine oC ?_;refine cv (fun w st=>ex1 (fun F h=>U4 _ x0 F w h hw0) st.rI) fun y0 K0=>?_
 refine An7 Qs fun K0=>?_;refine dk ?_;refine dN 3 ?_;refine oC ?_;refine cb (fun w st=>ex2 (fun Fa Fb ha hb=>Ao7 _ _ x0 Fa Fb w ha hb) (st.rO Qs) st.rI) ?_;refine dk ?_;refine dt 4 ?_;refine dd ?_;refine goL ?_;intros;refine Ca (Aj4 _ x0 _ (1) FH FH) fun _ _=>?_;refine goL ?_;intros;refine cb (fun w st=>ex2 (fun Fa Fb ha hb=>Uv _ _ r0 Fa Fb w ha hb) (st.rL ((Kq.refl _))) st.rS) ?_;refine goL ?_;intros;refine Ca (Baf (fun w h hn=>Aj6 _ r0 _ (1) w h hn FH FH)) fun _ _=>?_;refine goL ?_;intros
 refine cb (fun w st=>ex1 (fun F h=>Aae _ r0 F (1) w h FH FH) (st.rL ((Kq.refl _)))) ?_;refine goL ?_;intros;refine cv (fun w st=>ex1 (fun F h=>U4 _ x0 F w h hw0) st.rI) fun y0 K0=>?_;refine An7 Qs fun K0=>?_;refine goL ?_;intros;refine cm (fun w st=>ex1 (fun F h=>(hI _ F).made w (Nn h (st.get (p:=Gs FT) FL)) (fun _=>rfl)) (st.rI)) fun z hz=>?_;refine Ot ?_;refine goL ?_;intros;refine cb (fun w st=>ex2 (fun Fa Fb ha hb=>Uv _ _ r0 Fa Fb w ha hb) (st.rL ((Kq.refl _))) st.rS) ?_;refine goL ?_;intros
 refine cb (fun w st=>ex1 (fun F h=>Aae _ r0 F (1) w h FH FH) (st.rL ((Kq.refl _)))) ?_;refine goL ?_;intros;exact BD
theorem Aj3 (v0:Value) (x0:Cc) (F0:List Nat) (x1:ByteArray) (FT:List Nat) (w:World) (h0:Jz Dd w v0 x0 F0) (h1:x1.size≤maxLen) (hT:(Gs FT).P w) :
  Calls prog 3 #[v0,.string x1] w (RB (.bool true) w):=(Af6 v0 x0 F0 FT x1 h1).val w (fun p hp=>by
   simp only [List.mem_cons,List.not_mem_nil,or_false] at hp;rcases hp with rfl|rfl
   ·exact h0
   ·exact hT)
theorem Avh : "*" ++ "errors.errorString" = "*errors.errorString" := by decide
theorem Bb2:∀u,prog.typeName? 3 u=some "*errors.errorString" → u=452:=by
 intro u h;exact typeName_ptr_named (nm := "errors.errorString") (by rw [Avh];kernel_rfl) FJ FK u (by rw [Avh];exact h)
theorem Bha {W:World} (hL:laidMetH prog Rows.fnExactRunScriptRow.laid W) (hsh:W.ShapedOpen prog):(Gs [3,0,4,5]).P W:=by
 rw [MakeChecks.laidMetH_plain _ _ _ FJ] at hL;have h3:=hL.tail.tail;have h5:=hL.tail.tail.tail.tail;have h6:=hL.tail.tail.tail.tail.tail;have e:(Rows.laid_internal_strconv_uint64pow10:DataW Unit)=Lib.tabData .u64 Lib.pow10Tab:=FJ
 rw [e] at h3;have ht:Lib.TabIs prog W "internal/strconv.uint64pow10" .u64 Lib.pow10Tab:=Lib.tabIs_of_head (g:=3) (t:=429) (e:=388) (n:=20) FJ FJ underlying429 underlying388 FJ FJ h3;have hu:prog.underlying 303=some (.interface (prog.methodsAt 303)):=FJ
 obtain ⟨a1,s1,hv1, -, -, -⟩:=laid_sentinel (g:=5) (ti:=303) (tp:=452) (te:=454) (ts:=9) h5 FJ FJ hu Bb2 underlying452 underlying454 rfl rfl underlying9 FJ FJ;obtain ⟨a2,s2,hv2, -, -, -⟩:=laid_sentinel (g:=4) (ti:=303) (tp:=452) (te:=454) (ts:=9) h6 FJ FJ hu Bb2 underlying452 underlying454 rfl rfl underlying9 FJ FJ
 obtain ⟨m,hm⟩:=cell_of_shapedOpen_int (P:=prog) (g:=0) (t:=3) (zero:=#[.int .i64 0]) hsh (of_decide_eq_true FJ) FJ rfl FJ FJ underlying3;refine ⟨[],rfl,rfl,⟨ht,⟨m,hm⟩,⟨_,_,hv2⟩,⟨_,_,hv1⟩⟩,rfl,?_⟩;have hc:=Lib.TabIs.cell ht (g:=3) FJ 0 (by rw [Lib.pow10Tab_length];omega);have b0:=World.block_lt_of_cell? W ⟨3,0,none⟩ hc;intro b hb;simp only [List.mem_cons,List.not_mem_nil,or_false] at hb;rcases hb with rfl|rfl|rfl|rfl
 ·exact b0
 ·exact World.block_lt_of_cell? W ⟨0,0,none⟩ hm
 ·exact World.block_lt_of_cell? W ⟨4,0,none⟩ (by simpa using World.var?_cell (show prog.globalNamed "strconv.ErrSyntax" = some 4 by kernel_rfl) hv2 0)
 ·exact World.block_lt_of_cell? W ⟨5,0,none⟩ (by simpa using World.var?_cell (show prog.globalNamed "strconv.ErrRange" = some 5 by kernel_rfl) hv1 0)
end Go.Proofs.YtcmighgaiacgoaaGreatDoor
