/- Part 11 of the proof: 16 texts, one behind the other. -/
import Derived.ProofKit
import Derived.OpenShut
import Derived.Test.YtkagnmekdkchiaaGreatDoorRows
import Derived.MakeChecks
import Derived.Stop.LaidErr
import Derived.Shelf.Vars
import Derived.LaidLaws
import Derived.Test.YtkagnmekdkchiaaGreatDoorCards
import Derived.Test.YtkagnmekdkchiaaGreatDoorTie
import Derived.LaidMore
import Derived.Lay
import Derived.SevenTiedAt
import Derived.Stop.Joined
import Derived.Test.YtkagnmekdkchiaaGreatDoorM10
open _root_.Go.Proofs.Tryz
set_option maxRecDepth 100000
set_option maxHeartbeats 8000000
set_option linter.all false
set_option linter.unusedVariables false
set_option linter.unusedSimpArgs false
namespace Go.Proofs.YtkagnmekdkchiaaGreatDoor
theorem AA{p:Prop}(h:p:=by refine ret (⟨[.slice a1 x.As.Al.Ad.length c1,.int .i64 x.As.Aa.Ab.Ao,.int .i64 x.As.Aa.Ab.size,.slice a2 x.As.Aa.Ab.Ak.length c2,.int .i64 x.As.Aa.Ai,.int .i64 x.As.Aa.quiet,.slice a3 x.As.Aa.holds.length c3,.slice a4 x.As.Ae.length c4,.slice a5 x.As.Ac.length c5,.slice a6 x.As.down.length c6,.slice a7 x.As.up.length c7,.string x.Eb.Bh,.string x.Eb.pending,.int .i64 x.Eb.count],_⟩:Vi) trivial rfl):p:=h
theorem AC{p:Prop}(h:p:=by refine ret (⟨[.slice f1 R.1.As.Al.Ad.length t1,.int .i64 R.1.As.Aa.Ab.Ao,.int .i64 R.1.As.Aa.Ab.size,.slice f2 R.1.As.Aa.Ab.Ak.length t2,.int .i64 R.1.As.Aa.Ai,.int .i64 R.1.As.Aa.quiet,.slice f3 R.1.As.Aa.holds.length t3,.slice f4 R.1.As.Ae.length t4,.slice f5 R.1.As.Ac.length t5,.slice f6 R.1.As.down.length t6,.slice f7 R.1.As.up.length t7,.string R.1.Eb.Bh,.string R.1.Eb.pending,.int .i64 R.1.Eb.count],_⟩:Vi) trivial rfl):p:=h
theorem AE{p:Prop}(h:p:=by refine ret (⟨[.slice none 0 0,.int .i64 0,.int .i64 0,.slice none 0 0,.int .i64 0,.int .i64 0,.slice none 0 0,.slice none 0 0,.slice none 0 0,.slice none 0 0,.slice none 0 0],_,_,_,_⟩:StZ) trivial rfl):p:=h
theorem AF{p:Prop}(h:p:=by refine go ?_;intros;refine Du x s1 s2 (a1:=f1) (c1:=t1) (a2:=f2) (c2:=t2) (a3:=f3) (c3:=t3) (a4:=f4) (c4:=t4) (a5:=f5) (c5:=t5) (a6:=f6) (c6:=t6) (a7:=f7) (c7:=t7) ?_;refine ret (⟨[.slice f1 x.As.Al.Ad.length t1,.int .i64 x.As.Aa.Ab.Ao,.int .i64 x.As.Aa.Ab.size,.slice f2 x.As.Aa.Ab.Ak.length t2,.int .i64 x.As.Aa.Ai,.int .i64 x.As.Aa.quiet,.slice f3 x.As.Aa.holds.length t3,.slice f4 x.As.Ae.length t4,.slice f5 x.As.Ac.length t5,.slice f6 x.As.down.length t6,.slice f7 x.As.up.length t7,.string x.Eb.Bh,.string x.Eb.pending,.int .i64 x.Eb.count],_⟩:Vi) trivial rfl):p:=h
theorem AK{p:Prop}(h:p:=by refine ret (⟨[.slice f1 m.Al.Ad.length t1,.int .i64 m.Aa.Ab.Ao,.int .i64 m.Aa.Ab.size,.slice f2 m.Aa.Ab.Ak.length t2,.int .i64 m.Aa.Ai,.int .i64 m.Aa.quiet,.slice f3 m.Aa.holds.length t3,.slice f4 m.Ae.length t4,.slice f5 m.Ac.length t5,.slice f6 m.down.length t6,.slice f7 m.up.length t7,.string x.Eb.Bh,.string x.Eb.pending,.int .i64 x.Eb.count],_⟩:Vi) trivial rfl):p:=h
theorem AX{p:Prop}(h:p:=by refine ret (⟨[.slice w.a1 n.Al.Ad.length w.c1,.int .i64 ((Pi n s.data).Aa).Ab.Ao,.int .i64 ((Pi n s.data).Aa).Ab.size,.slice u.a ((Pi n s.data).Aa).Ab.Ak.length u.c,.int .i64 ((Pi n s.data).Aa).Ai,.int .i64 ((Pi n s.data).Aa).quiet,.slice u.a2 ((Pi n s.data).Aa).holds.length u.c2,.slice y.a4 n.Al.Ad.length y.c4,.slice y.a5 n.Al.Ad.length y.c5,.slice y.a6 n.Al.Ad.length y.c6,.slice y.a7 n.Al.Ad.length y.c7],FN,_,_,_⟩:StZ) trivial rfl):p:=h
theorem AZ{p:Prop}(h:p:=by refine Du R.1 s3 s4 (a1:=f1) (c1:=t1) (a2:=f2) (c2:=t2) (a3:=f3) (c3:=t3) (a4:=f4) (c4:=t4) (a5:=f5) (c5:=t5) (a6:=f6) (c6:=t6) (a7:=f7) (c7:=t7) ?_;exact AC):p:=h
theorem DU{p:Prop}(h:p:=by refine dt 29 ?_;refine dd ?_;refine go ?_;intros;refine ret () trivial ?_;unfold Fh;rw [g];rw [if_pos rfl,Agd hk3 hlf (by unfold Abc;rw [Gh h5,hst];rfl)];rfl):p:=h
theorem EG{p:Prop}(h:p:=by refine go ?_;intros;exact AA):p:=h
theorem HC{p:Prop}(h:p:=by first|exact ydE|exact Ze rfl (by exact Bp) (by assumption)):p:=h
theorem IY{p:Prop}(h:p:=by show i < n.Al.Ad.length;omega):p:=h
end Go.Proofs.YtkagnmekdkchiaaGreatDoor
namespace Go.Proofs.YtkagnmekdkchiaaGreatDoor
open Go.RowKit
theorem Ah8 (n:Dt) (s:Jp) (v:Value) (F FT:List Nat) (hss:s.data.size≤maxLen) (g1:Aw n=true) (g2:Ek s=true):Fn prog 87 [v,.agg #[.int .i64 s.Ct,.int .i64 s.node,.string s.data]] [.isv O1 v n F,Gc FT] [] (fun (_:StZ)=>True) (fun z=>.tuple #[.agg z.cs.toArray,.slice z.a (Cj n s).2.1.length z.c,.bool (Cj n s).2.2]) (fun z=>[.isv O1 (.agg z.cs.toArray) (Cj n s).1 z.F,.ow A8 9 (.slice z.a (Cj n s).2.1.length z.c) (Cj n s).2.1 z.Fe]):=by
 have hG:=Ay.1 g1;have h8:=Gn hG.t;have hn8:=h8.n1;have hn2:=h8.n0;obtain ⟨q1,q2,q3,q4⟩:=Bk.1 hG.l;have hkl:=T6 n.Al.Ad 0;have hkx:∀x∈H3 n.Al.Ad 0,0≤x∧x.toNat < n.down.length:=fun x hx=>by have:=La (i:=0) h8 hx;omega
 have hd6:∀q∈n.down,q.length≤6:=fun q hq=>(C6 ((Hw g1).2.2.1 q hq)).1;have hck:=Wy hG.s;refine enter func87 rfl ntmps87 fun w0=>?_;refine Ia ?_;rintro a1 c1 F1 a2 c2 F2 a3 c3 F3 a4 c4 F4 a5 c5 F5 a6 c6 F6 a7 c7 F7 rfl l1 l2 l3 l4 l5 l6 l7;refine go ?_;intros;refine cf (Alu n _ F g1) fun z _=>?_;refine Ar ?_;obtain ⟨w,y⟩:=z;dsimp only;refine A4 (E:=Bc) (xs:=n.Al.Ad) fun Ft=>?_;refine Ab6 (E:=Bj) (xs:=n.Ae) Ra (m:=2) rfl fun ye Fe Ge he1 he2=>?_;refine Ad6 (R:=Bt) (xs:=n.Ae) Lk fun He=>?_;refine Ab6 (E:=Bg) (xs:=n.Ac) Qb (m:=5) rfl fun yr Fr Gr hr1 hr2=>?_
 refine Ad6 (R:=B4) (xs:=n.Ac) Qd fun Hr=>?_;refine Ab6 (E:=Fv Aj 159) (xs:=n.down) Ua (m:=1) rfl fun yd Fd Gd hd1 hd2=>?_;refine Ad6 (R:=Nn Aj GM) (xs:=n.down) (Pj (Kv.refl Aj) GM _) fun Hd=>?_;refine Ab6 (E:=Fv Aj 159) (xs:=n.up) Ua (m:=1) rfl fun yu Fu Gu hu1 hu2=>?_;refine Ad6 (R:=Nn Aj GM) (xs:=n.up) (Pj (Kv.refl Aj) GM _) fun Hu=>?_;rw [q1,q2,q3,q4];refine Kq n.Al (a1:=w.a1) ?_;refine go ?_;intros;refine Be rfl (fun h1=>?_) (fun h1=>?_)
 ·have e1:Bo n s=some (Pi n s.data,[]):=by unfold Bo;rw [if_pos h1]
  have hgm:=Mw g1 g2 e1;rw [show Cj n s=(Pi n s.data,[],true) by unfold Cj;rw [g1,g2,e1];rfl];refine go ?_;intros;refine cf (Ar8 n.Aa s.data _ _ hG.s hss) fun u _=>?_;refine Ar ?_;refine go ?_;intros;refine At [0,3] [] ?_;refine Dk 0 1 2 4 ?_;refine dM 3 5 ?_ ?_
  ·refine oC ?_;refine cf (Pe n.Al 0 _ Ft (Rq h8.z (Int.le_refl _)) ⟨GJ,GJ⟩) fun v _=>?_;refine Ar ?_;refine A4 (E:=Bc) (xs:=H3 n.Al.Ad 0) fun Fk=>?_;refine dk ?_;refine dN 5 ?_;apply Km;rfl;rfl;rfl;rfl;exact Ke;exact Jy;intro _;refine Ic (E:=Aj) (xs:=[Dm n.Aa.Ab s.data]) (C8 (Dm n.Aa.Ab s.data) hss) ?_ GL;refine A4 (E:=Aj) (xs:=[Dm n.Aa.Ab s.data]) fun Fp=>?_;refine dk ?_;refine dN 6 ?_;refine oC ?_;refine cf (Nf n.down (H3 n.Al.Ad 0) [Dm n.Aa.Ab s.data] _ _ _ _ _ _ _ _ _ _ _ _ _ _ _ _ _ _ _ _ _ _ _ _ _ yd Fd Hd _ _ Fk _ _ Fp hkx hd6) fun x _=>?_;refine Ar ?_;refine dk ?_
   refine dd ?_;refine go ?_;intros;refine C4 A8 ?_;refine go ?_;intros;refine E5 (ys:=ye) fun _ w4=>?_;refine E5 (ys:=yr) fun _ w5=>?_;refine E5 (ys:=x.ys) fun _ w6=>?_;refine E5 (ys:=yu) fun _ w7=>?_;refine A4 (E:=EC 2) (xs:=ye) fun _=>?_;refine A4 (E:=EC 5) (xs:=yr) fun _=>?_;refine A4 (E:=EC 1) (xs:=x.ys) fun _=>?_;refine A4 (E:=EC 1) (xs:=yu) fun _=>?_
   refine Yu (Pi n s.data) (l:=n.Al.Ad) (N:=n.Al.Ad.length) rfl rfl (Ay.1 hgm).l w4 w5 w6 w7 (a1:=w.a1) (c1:=w.c1) (a2:=u.a) (c2:=u.c) (a3:=u.a2) (c3:=u.c2) (a4:=y.a4) (c4:=y.c4) (a5:=y.a5) (c5:=y.c5) (a6:=y.a6) (c6:=y.c6) (a7:=y.a7) (c7:=y.c7) fun FN=>?_
   exact AX
  ·apply Km;rfl;rfl;rfl;rfl;exact Ke;exact Jy;intro _;refine Ic (E:=Aj) (xs:=[Dm n.Aa.Ab s.data]) (C8 (Dm n.Aa.Ab s.data) hss) ?_ GL;refine A4 (E:=Aj) (xs:=[Dm n.Aa.Ab s.data]) fun Fp=>?_;refine dk ?_;refine dN 3 ?_;refine oC ?_;refine cf (Pe n.Al 0 _ Ft (Rq h8.z (Int.le_refl _)) ⟨GJ,GJ⟩) fun v _=>?_;refine Ar ?_;refine A4 (E:=Bc) (xs:=H3 n.Al.Ad 0) fun Fk=>?_;refine dk ?_;refine dN 6 ?_;refine oC ?_;refine cf (Nf n.down (H3 n.Al.Ad 0) [Dm n.Aa.Ab s.data] _ _ _ _ _ _ _ _ _ _ _ _ _ _ _ _ _ _ _ _ _ _ _ _ _ yd Fd Hd _ _ Fk _ _ Fp hkx hd6) fun x _=>?_;refine Ar ?_;refine dk ?_
   refine dd ?_;refine go ?_;intros;refine C4 A8 ?_;refine go ?_;intros;refine E5 (ys:=ye) fun _ w4=>?_;refine E5 (ys:=yr) fun _ w5=>?_;refine E5 (ys:=x.ys) fun _ w6=>?_;refine E5 (ys:=yu) fun _ w7=>?_;refine A4 (E:=EC 2) (xs:=ye) fun _=>?_;refine A4 (E:=EC 5) (xs:=yr) fun _=>?_;refine A4 (E:=EC 1) (xs:=x.ys) fun _=>?_;refine A4 (E:=EC 1) (xs:=yu) fun _=>?_
   refine Yu (Pi n s.data) (l:=n.Al.Ad) (N:=n.Al.Ad.length) rfl rfl (Ay.1 hgm).l w4 w5 w6 w7 (a1:=w.a1) (c1:=w.c1) (a2:=u.a) (c2:=u.c) (a3:=u.a2) (c3:=u.c2) (a4:=y.a4) (c4:=y.c4) (a5:=y.a5) (c5:=y.c5) (a6:=y.a6) (c6:=y.c6) (a7:=y.a7) (c7:=y.c7) fun FN=>?_
   exact AX
 refine go ?_;intros;refine Be rfl (fun h4=>?_) (fun h4=>?_)
 ·refine go ?_;intros;refine Be rfl (fun hc=>?_) (fun hc=>?_)
  ·have e1:Bo n s=none:=by unfold Bo;rw [if_neg h1,if_pos h4,if_pos hc]
   rw [show Cj n s=(P6,[],false) by unfold Cj;rw [g1,g2,e1];rfl];refine Cf Bc GM ?_;refine Cf A8 GM ?_;refine Cf Bi GM ?_;refine Cf Bt GM ?_;refine Cf B4 GM ?_;refine Cf (Nn Aj GM) GM ?_;refine Cf (Nn Aj GM) GM ?_;refine Jm P6 (a1:=none) (c1:=0) (a2:=none) (c2:=0) (a3:=none) (c3:=0) (a4:=none) (c4:=0) (a5:=none) (c5:=0) (a6:=none) (c6:=0) (a7:=none) (c7:=0) ?_;refine go ?_;intros;refine C4 A8 ?_;refine go ?_;intros
   exact AE
  ·have e1:Bo n s=some (Et n):=by unfold Bo;rw [if_neg h1,if_pos h4,if_neg hc]
   have hgm:=Mw g1 g2 e1;rw [show Cj n s=((Et n).1,(Et n).2,true) by unfold Cj;rw [g1,g2,e1];rfl];refine go ?_;intros;refine cf (Ash n w.a1 w.c1 y.a4 y.c4 y.a5 y.c5 y.a6 y.c6 y.a7 y.c7 w.s.a w.s.a2 w.s.c w.s.c2 Ft w.s.F FT ⟨⟨ye,Fe,He⟩,⟨yr,Fr,Hr⟩,⟨yd,Fd,Hd⟩,⟨yu,Fu,Hu⟩⟩ g1 GJ) fun x _=>?_;refine Ar ?_;refine go ?_;intros;refine E5 (ys:=x.1.e.ys) fun _ w4=>?_;refine E5 (ys:=x.1.r.ys) fun _ w5=>?_;refine E5 (ys:=x.1.d.ys) fun _ w6=>?_;refine E5 (ys:=x.1.u.ys) fun _ w7=>?_;refine A4 (E:=EC 2) (xs:=x.1.e.ys) fun _=>?_;refine A4 (E:=EC 5) (xs:=x.1.r.ys) fun _=>?_
   refine A4 (E:=EC 1) (xs:=x.1.d.ys) fun _=>?_;refine A4 (E:=EC 1) (xs:=x.1.u.ys) fun _=>?_;refine Yu ((Et n).1) (l:=n.Al.Ad) (N:=n.Al.Ad.length) (congrArg Me.Ad (Rt e1)) rfl (Ay.1 hgm).l w4 w5 w6 w7 (a1:=w.a1) (c1:=w.c1) (a2:=x.2.1.a) (c2:=x.2.1.c) (a3:=x.2.1.a2) (c3:=x.2.1.c2) (a4:=y.a4) (c4:=y.c4) (a5:=y.a5) (c5:=y.c5) (a6:=y.a6) (c6:=y.c6) (a7:=y.a7) (c7:=y.c7) fun FN=>?_
   refine ret (⟨[.slice w.a1 n.Al.Ad.length w.c1,.int .i64 (((Et n).1).Aa).Ab.Ao,.int .i64 (((Et n).1).Aa).Ab.size,.slice x.2.1.a (((Et n).1).Aa).Ab.Ak.length x.2.1.c,.int .i64 (((Et n).1).Aa).Ai,.int .i64 (((Et n).1).Aa).quiet,.slice x.2.1.a2 (((Et n).1).Aa).holds.length x.2.1.c2,.slice y.a4 n.Al.Ad.length y.c4,.slice y.a5 n.Al.Ad.length y.c5,.slice y.a6 n.Al.Ad.length y.c6,.slice y.a7 n.Al.Ad.length y.c7],FN,_,_,_⟩:StZ) trivial rfl
 have htk0:Bo n s=C0 n s:=by unfold Bo;rw [if_neg h1,if_neg h4]
 have hf:Pm s.node=true:=by
  have:=g2;unfold Ek at this;rw [if_neg h1,if_neg h4] at this;simp only [Bool.and_eq_true] at this;exact this.1.2
 obtain ⟨f1,f2⟩:=Ns.1 hf;obtain ⟨i,hi⟩:∃i:Nat,s.node=((i:Nat):Int):=⟨s.node.toNat,GJ⟩;have i0:i≠0:=by omega
 rw [hi];by_cases k5:s.Ct=5
 ·have hu:Vx s=true:=by unfold Vx;rw [decide_eq_true k5];rfl
  have hq:∀h:i < n.up.length,Th n s=n.up[i]:=fun h=>by unfold Th;rw [hu,if_pos rfl,hi,Int.toNat_natCast];exact Pa h []
  have hpo:Ga n s=Ko n i:=by unfold Ga;rw [hu,if_pos rfl,hi,Int.toNat_natCast]
  refine go ?_;intros;refine Dj rfl rfl (fun g5=>?_) (fun g5=>?_)
  rotate_left
  ·exact absurd k5 g5
  refine go ?_;intros;refine Dj rfl rfl (fun h6=>?_) (fun h6=>?_)
  ·have e1:C0 n s=none:=by unfold C0;rw [if_pos GJ]
   rw [show Cj n s=(P6,[],false) by unfold Cj;rw [g1,g2,htk0,e1];rfl];refine Cf Bc GM ?_;refine Cf A8 GM ?_;refine Cf Bi GM ?_;refine Cf Bt GM ?_;refine Cf B4 GM ?_;refine Cf (Nn Aj GM) GM ?_;refine Cf (Nn Aj GM) GM ?_;refine Jm P6 (a1:=none) (c1:=0) (a2:=none) (c2:=0) (a3:=none) (c3:=0) (a4:=none) (c4:=0) (a5:=none) (c5:=0) (a6:=none) (c6:=0) (a7:=none) (c7:=0) ?_;refine go ?_;intros;refine C4 A8 ?_;refine go ?_;intros
   exact AE
  have hil:i < n.up.length:=by omega
  have hq:=hq hil;refine E5 (ys:=yu) fun hm hlr=>?_;refine Af4 (ys:=yu) (xs:=n.up) i hm GJ GJ fun h9 _ Gq=>?_;refine Abf (x:=n.up[i]) fun a9 c9 e9 l9=>?_;have e10:yu[i]=[.slice a9 n.up[i].length c9]:=by simpa using e9
  refine R5 (E:=EC 1) (xs:=yu) (m:=1) (Lh 1) i ?_ GP rfl h9;rintro _ gq Aq cs Bq ea j2 j3 hHq;rw [ea];obtain ⟨j4, -, -⟩:=j3 w0;rw [e10] at j4;subst j4;refine go ?_;intros;refine Be rfl (fun h7=>?_) (fun h7=>?_)
  ·have e1:C0 n s=none:=by unfold C0;rw [if_neg GJ,hq,if_pos GJ]
   rw [show Cj n s=(P6,[],false) by unfold Cj;rw [g1,g2,htk0,e1];rfl];refine Cf Bc GM ?_;refine Cf A8 GM ?_;refine Cf Bi GM ?_;refine Cf Bt GM ?_;refine Cf B4 GM ?_;refine Cf (Nn Aj GM) GM ?_;refine Cf (Nn Aj GM) GM ?_;refine Jm P6 (a1:=none) (c1:=0) (a2:=none) (c2:=0) (a3:=none) (c3:=0) (a4:=none) (c4:=0) (a5:=none) (c5:=0) (a6:=none) (c6:=0) (a7:=none) (c7:=0) ?_;refine go ?_;intros;refine C4 A8 ?_;refine go ?_;intros
   exact AE
  have h0:0 < n.up[i].length:=by omega
  refine Qh (xs:=n.up[i]) 0 ?_;rintro hi3 b3 o3 e3 s3;rw [e3];refine go ?_;intros;refine At [2,17] [10] ?_;refine Dk 0 1 2 3 ?_;refine Dk 4 5 6 7 ?_;refine dN 8 ?_;refine sld 1 fun a8 c8 F8=>?_;refine dk ?_;refine dt 9 ?_;refine dN 10 ?_;refine oS ?_;refine Rn ?_;refine dd ?_;refine Qv (E:=EC 1) (xs:=yu) [.slice a8 (n.up[i].drop 1).length c8] hHq (fun _=>⟨rfl,⟨rfl,HK⟩,rfl⟩) ?_;refine Ab1 (E:=Aj) (x:=n.up[i].drop 1) GM ?_;refine Sm (E:=Nn Aj GM) (ys:=yu) (xs:=n.up) (x:=n.up[i].drop 1) i rfl hm GJ fun Gv=>?_
  rw [←ea,show n.up.set i (n.up[i].drop 1)=(Ko n i).up from (Hq GJ).symm];have hmem:=N8 h0;have hpk:By (My n.up[i])=true:=Mu (hq▸(Lz (s:=s) g1).1) hmem;have hpz:(My n.up[i]).data.size≤maxLen:=by
   exact AU
  have hgp:Aw (Ko n i)=true:=hpo▸Ld g1;have hGp:=Ay.1 hgp;have hPg:=Wq h0;rw [←hPg];generalize hP:My n.up[i]=P at *;have htk:C0 n s=some (Oy (Ko n i) i P,[]):=by
   unfold C0;rw [if_neg GJ,hq,if_neg GJ,hpo,hP,hi,Int.toNat_natCast];rw [if_neg GJ,if_pos k5]
  have hgm:=Mw g1 g2 (htk0.trans htk);rw [show Cj n s=(Oy (Ko n i) i P,[],true) by unfold Cj;rw [g1,g2,htk0,htk];rfl];refine go ?_;intros;refine Be rfl (fun k2=>?_) (fun k2=>?_)
  ·exact absurd k2 GJ
  refine go ?_;intros;refine Be rfl (fun m5=>?_) (fun m5=>?_)
  rotate_left
  ·exact absurd k5 m5
  have hdp:∀q∈(Ko n i).down,q.length≤6:=fun q hq=>(C6 ((Hw hgp).2.2.1 q hq)).1;have hup:∀q∈(Ko n i).up,q.length≤6:=fun q hq=>(C6 ((Hw hgp).2.2.2 q hq)).1;refine go ?_;intros;refine cf (Azi (Ko n i) i P w.a1 w.c1 y.a4 y.c4 y.a5 y.c5 y.a6 y.c6 y.a7 y.c7 w.s.a w.s.a2 w.s.c w.s.c2 Ft w.s.F ⟨⟨ye,Fe,He⟩,⟨yr,Fr,Hr⟩,⟨yd,Fd,Hd⟩,⟨yu.set i [.slice a8 (n.up[i].drop 1).length c8],[gq],Gv⟩⟩ hGp.l i0 IY (Gn hGp.t) hGp.s (fun k hk hkl hl=>by obtain ⟨x1,x2,x3,x4,r⟩:=hGp.rn (i:=k) hkl;rw [I5 x1];exact (r.hn hk hl).1) hpk hpz hdp hup) fun x _=>?_;refine Ar ?_;refine go ?_;intros
  refine C4 A8 ?_;refine go ?_;intros;refine E5 (ys:=x.1.e.ys) fun _ w4=>?_;refine E5 (ys:=x.1.r.ys) fun _ w5=>?_;refine E5 (ys:=x.1.d.ys) fun _ w6=>?_;refine E5 (ys:=x.1.u.ys) fun _ w7=>?_;refine A4 (E:=EC 2) (xs:=x.1.e.ys) fun _=>?_;refine A4 (E:=EC 5) (xs:=x.1.r.ys) fun _=>?_;refine A4 (E:=EC 1) (xs:=x.1.d.ys) fun _=>?_;refine A4 (E:=EC 1) (xs:=x.1.u.ys) fun _=>?_
  refine Yu (Oy (Ko n i) i P) (l:=n.Al.Ad) (N:=n.Al.Ad.length) (congrArg Me.Ad (Rt (htk0.trans htk))) rfl (Ay.1 hgm).l w4 w5 w6 w7 (a1:=w.a1) (c1:=w.c1) (a2:=x.2.a) (c2:=x.2.c) (a3:=x.2.a2) (c3:=x.2.c2) (a4:=y.a4) (c4:=y.c4) (a5:=y.a5) (c5:=y.c5) (a6:=y.a6) (c6:=y.c6) (a7:=y.a7) (c7:=y.c7) fun FN=>?_
  refine ret (⟨[.slice w.a1 n.Al.Ad.length w.c1,.int .i64 ((Oy (Ko n i) i P).Aa).Ab.Ao,.int .i64 ((Oy (Ko n i) i P).Aa).Ab.size,.slice x.2.a ((Oy (Ko n i) i P).Aa).Ab.Ak.length x.2.c,.int .i64 ((Oy (Ko n i) i P).Aa).Ai,.int .i64 ((Oy (Ko n i) i P).Aa).quiet,.slice x.2.a2 ((Oy (Ko n i) i P).Aa).holds.length x.2.c2,.slice y.a4 n.Al.Ad.length y.c4,.slice y.a5 n.Al.Ad.length y.c5,.slice y.a6 n.Al.Ad.length y.c6,.slice y.a7 n.Al.Ad.length y.c7],FN,_,_,_⟩:StZ) trivial rfl
 by_cases k6:s.Ct=6
 ·have hu:Vx s=true:=by unfold Vx;rw [decide_eq_true k6,Bool.or_true]
  have hq:∀h:i < n.up.length,Th n s=n.up[i]:=fun h=>by unfold Th;rw [hu,if_pos rfl,hi,Int.toNat_natCast];exact Pa h []
  have hpo:Ga n s=Ko n i:=by unfold Ga;rw [hu,if_pos rfl,hi,Int.toNat_natCast]
  refine go ?_;intros;refine Dj rfl rfl (fun g5=>?_) (fun g5=>?_)
  ·exact absurd g5 GJ
  refine go ?_;intros;refine Be rfl (fun g6=>?_) (fun g6=>?_)
  rotate_left
  ·exact absurd k6 g6
  refine go ?_;intros;refine Dj rfl rfl (fun h6=>?_) (fun h6=>?_)
  ·have e1:C0 n s=none:=by unfold C0;rw [if_pos GJ]
   rw [show Cj n s=(P6,[],false) by unfold Cj;rw [g1,g2,htk0,e1];rfl];refine Cf Bc GM ?_;refine Cf A8 GM ?_;refine Cf Bi GM ?_;refine Cf Bt GM ?_;refine Cf B4 GM ?_;refine Cf (Nn Aj GM) GM ?_;refine Cf (Nn Aj GM) GM ?_;refine Jm P6 (a1:=none) (c1:=0) (a2:=none) (c2:=0) (a3:=none) (c3:=0) (a4:=none) (c4:=0) (a5:=none) (c5:=0) (a6:=none) (c6:=0) (a7:=none) (c7:=0) ?_;refine go ?_;intros;refine C4 A8 ?_;refine go ?_;intros
   exact AE
  have hil:i < n.up.length:=by omega
  have hq:=hq hil;refine E5 (ys:=yu) fun hm hlr=>?_;refine Af4 (ys:=yu) (xs:=n.up) i hm GJ GJ fun h9 _ Gq=>?_;refine Abf (x:=n.up[i]) fun a9 c9 e9 l9=>?_;have e10:yu[i]=[.slice a9 n.up[i].length c9]:=by simpa using e9
  refine R5 (E:=EC 1) (xs:=yu) (m:=1) (Lh 1) i ?_ GP rfl h9;rintro _ gq Aq cs Bq ea j2 j3 hHq;rw [ea];obtain ⟨j4, -, -⟩:=j3 w0;rw [e10] at j4;subst j4;refine go ?_;intros;refine Be rfl (fun h7=>?_) (fun h7=>?_)
  ·have e1:C0 n s=none:=by unfold C0;rw [if_neg GJ,hq,if_pos GJ]
   rw [show Cj n s=(P6,[],false) by unfold Cj;rw [g1,g2,htk0,e1];rfl];refine Cf Bc GM ?_;refine Cf A8 GM ?_;refine Cf Bi GM ?_;refine Cf Bt GM ?_;refine Cf B4 GM ?_;refine Cf (Nn Aj GM) GM ?_;refine Cf (Nn Aj GM) GM ?_;refine Jm P6 (a1:=none) (c1:=0) (a2:=none) (c2:=0) (a3:=none) (c3:=0) (a4:=none) (c4:=0) (a5:=none) (c5:=0) (a6:=none) (c6:=0) (a7:=none) (c7:=0) ?_;refine go ?_;intros;refine C4 A8 ?_;refine go ?_;intros
   exact AE
  have h0:0 < n.up[i].length:=by omega
  refine Qh (xs:=n.up[i]) 0 ?_;rintro hi3 b3 o3 e3 s3;rw [e3];refine go ?_;intros;refine At [2,17] [10] ?_;refine Dk 0 1 2 3 ?_;refine Dk 4 5 6 7 ?_;refine dN 8 ?_;refine sld 1 fun a8 c8 F8=>?_;refine dk ?_;refine dt 9 ?_;refine dN 10 ?_;refine oS ?_;refine Rn ?_;refine dd ?_;refine Qv (E:=EC 1) (xs:=yu) [.slice a8 (n.up[i].drop 1).length c8] hHq (fun _=>⟨rfl,⟨rfl,HK⟩,rfl⟩) ?_;refine Ab1 (E:=Aj) (x:=n.up[i].drop 1) GM ?_;refine Sm (E:=Nn Aj GM) (ys:=yu) (xs:=n.up) (x:=n.up[i].drop 1) i rfl hm GJ fun Gv=>?_
  rw [←ea,show n.up.set i (n.up[i].drop 1)=(Ko n i).up from (Hq GJ).symm];have hmem:=N8 h0;have hpk:By (My n.up[i])=true:=Mu (hq▸(Lz (s:=s) g1).1) hmem;have hpz:(My n.up[i]).data.size≤maxLen:=by
   exact AU
  have hgp:Aw (Ko n i)=true:=hpo▸Ld g1;have hGp:=Ay.1 hgp;have hPg:=Wq h0;rw [←hPg];generalize hP:My n.up[i]=P at *;have htk:C0 n s=some (Ko n i,[]):=by
   exact FY
  have hgm:=Mw g1 g2 (htk0.trans htk);rw [show Cj n s=(Ko n i,[],true) by unfold Cj;rw [g1,g2,htk0,htk];rfl];refine go ?_;intros;refine Be rfl (fun k2=>?_) (fun k2=>?_)
  ·exact absurd k2 GJ
  refine go ?_;intros;refine Be rfl (fun m5=>?_) (fun m5=>?_)
  ·exact absurd m5 GJ
  refine go ?_;intros;refine C4 A8 ?_;refine go ?_;intros;refine E5 (ys:=ye) fun _ w4=>?_;refine E5 (ys:=yr) fun _ w5=>?_;refine E5 (ys:=yd) fun _ w6=>?_;refine E5 (ys:=(yu.set i [.slice a8 (n.up[i].drop 1).length c8])) fun _ w7=>?_;refine A4 (E:=EC 2) (xs:=ye) fun _=>?_;refine A4 (E:=EC 5) (xs:=yr) fun _=>?_;refine A4 (E:=EC 1) (xs:=yd) fun _=>?_;refine A4 (E:=EC 1) (xs:=(yu.set i [.slice a8 (n.up[i].drop 1).length c8])) fun _=>?_
  refine Yu (Ko n i) (l:=n.Al.Ad) (N:=n.Al.Ad.length) rfl rfl (Ay.1 hgm).l w4 w5 w6 w7 (a1:=w.a1) (c1:=w.c1) (a2:=w.s.a) (c2:=w.s.c) (a3:=w.s.a2) (c3:=w.s.c2) (a4:=y.a4) (c4:=y.c4) (a5:=y.a5) (c5:=y.c5) (a6:=y.a6) (c6:=y.c6) (a7:=y.a7) (c7:=y.c7) fun FN=>?_
  refine ret (⟨[.slice w.a1 n.Al.Ad.length w.c1,.int .i64 ((Ko n i).Aa).Ab.Ao,.int .i64 ((Ko n i).Aa).Ab.size,.slice w.s.a ((Ko n i).Aa).Ab.Ak.length w.s.c,.int .i64 ((Ko n i).Aa).Ai,.int .i64 ((Ko n i).Aa).quiet,.slice w.s.a2 ((Ko n i).Aa).holds.length w.s.c2,.slice y.a4 n.Al.Ad.length y.c4,.slice y.a5 n.Al.Ad.length y.c5,.slice y.a6 n.Al.Ad.length y.c6,.slice y.a7 n.Al.Ad.length y.c7],FN,_,_,_⟩:StZ) trivial rfl
 have hu:Vx s=false:=by unfold Vx;rw [decide_eq_false k5,decide_eq_false k6];rfl
 have hq:∀h:i < n.down.length,Th n s=n.down[i]:=fun h=>by unfold Th;rw [hu,if_neg GM,hi,Int.toNat_natCast];exact Pa h []
 have hpo:Ga n s=Mi n i:=by unfold Ga;rw [hu,if_neg GM,hi,Int.toNat_natCast]
 refine go ?_;intros;refine Dj rfl rfl (fun g5=>?_) (fun g5=>?_)
 ·exact absurd g5 k5
 refine go ?_;intros;refine Be rfl (fun g6=>?_) (fun g6=>?_)
 ·exact absurd g6 k6
 refine go ?_;intros;refine Dj rfl rfl (fun h6=>?_) (fun h6=>?_)
 ·have e1:C0 n s=none:=by unfold C0;rw [if_pos GJ]
  rw [show Cj n s=(P6,[],false) by unfold Cj;rw [g1,g2,htk0,e1];rfl];refine Cf Bc GM ?_;refine Cf A8 GM ?_;refine Cf Bi GM ?_;refine Cf Bt GM ?_;refine Cf B4 GM ?_;refine Cf (Nn Aj GM) GM ?_;refine Cf (Nn Aj GM) GM ?_;refine Jm P6 (a1:=none) (c1:=0) (a2:=none) (c2:=0) (a3:=none) (c3:=0) (a4:=none) (c4:=0) (a5:=none) (c5:=0) (a6:=none) (c6:=0) (a7:=none) (c7:=0) ?_;refine go ?_;intros;refine C4 A8 ?_;refine go ?_;intros
  exact AE
 have hil:i < n.down.length:=by omega
 have hq:=hq hil;refine E5 (ys:=yd) fun hm hlr=>?_;refine Af4 (ys:=yd) (xs:=n.down) i hm GJ GJ fun h9 _ Gq=>?_;refine Abf (x:=n.down[i]) fun a9 c9 e9 l9=>?_;have e10:yd[i]=[.slice a9 n.down[i].length c9]:=by simpa using e9
 refine R5 (E:=EC 1) (xs:=yd) (m:=1) (Lh 1) i ?_ GP rfl h9;rintro _ gq Aq cs Bq ea j2 j3 hHq;rw [ea];obtain ⟨j4, -, -⟩:=j3 w0;rw [e10] at j4;subst j4;refine go ?_;intros;refine Be rfl (fun h7=>?_) (fun h7=>?_)
 ·have e1:C0 n s=none:=by unfold C0;rw [if_neg GJ,hq,if_pos GJ]
  rw [show Cj n s=(P6,[],false) by unfold Cj;rw [g1,g2,htk0,e1];rfl];refine Cf Bc GM ?_;refine Cf A8 GM ?_;refine Cf Bi GM ?_;refine Cf Bt GM ?_;refine Cf B4 GM ?_;refine Cf (Nn Aj GM) GM ?_;refine Cf (Nn Aj GM) GM ?_;refine Jm P6 (a1:=none) (c1:=0) (a2:=none) (c2:=0) (a3:=none) (c3:=0) (a4:=none) (c4:=0) (a5:=none) (c5:=0) (a6:=none) (c6:=0) (a7:=none) (c7:=0) ?_;refine go ?_;intros;refine C4 A8 ?_;refine go ?_;intros
  exact AE
 have h0:0 < n.down[i].length:=by omega
 refine Qh (xs:=n.down[i]) 0 ?_;rintro hi3 b3 o3 e3 s3;rw [e3];refine go ?_;intros;refine At [2,17] [10] ?_;refine Dk 0 1 2 3 ?_;refine Dk 4 5 6 7 ?_;refine dN 8 ?_;refine sld 1 fun a8 c8 F8=>?_;refine dk ?_;refine dt 9 ?_;refine dN 10 ?_;refine oS ?_;refine Rn ?_;refine dd ?_;refine Qv (E:=EC 1) (xs:=yd) [.slice a8 (n.down[i].drop 1).length c8] hHq (fun _=>⟨rfl,⟨rfl,HK⟩,rfl⟩) ?_;refine Ab1 (E:=Aj) (x:=n.down[i].drop 1) GM ?_;refine Sm (E:=Nn Aj GM) (ys:=yd) (xs:=n.down) (x:=n.down[i].drop 1) i rfl hm GJ fun Gv=>?_
 rw [←ea,show n.down.set i (n.down[i].drop 1)=(Mi n i).down from (Hq GJ).symm];have hmem:=N8 h0;have hpk:By (My n.down[i])=true:=Mu (hq▸(Lz (s:=s) g1).1) hmem;have hpz:(My n.down[i]).data.size≤maxLen:=by
  exact AU
 have hgp:Aw (Mi n i)=true:=hpo▸Ld g1;have hGp:=Ay.1 hgp;have hPg:=Wq h0;rw [←hPg];generalize hP:My n.down[i]=P at *;have htk:C0 n s=if s.Ct=2 then some (Cq (Mi n i) i P) else some (Mi n i,[]):=by
  unfold C0;rw [if_neg GJ,hq,if_neg GJ,hpo,hP,hi,Int.toNat_natCast]
  split
  ·rfl
  ·first|rfl|rw [if_neg k5]
 have hdp:∀q∈(Mi n i).down,q.length≤6:=fun q hq=>(C6 ((Hw hgp).2.2.1 q hq)).1;refine go ?_;intros;refine Be rfl (fun k2=>?_) (fun k2=>?_)
 ·rw [if_pos k2] at htk;have hgm:=Mw g1 g2 (htk0.trans htk);rw [show Cj n s=((Cq (Mi n i) i P).1,(Cq (Mi n i) i P).2,true) by unfold Cj;rw [g1,g2,htk0,htk];rfl];refine go ?_;intros;have hls:(Cq (Mi n i) i P).1.Aa=n.Aa:=by unfold Cq;split <;> rfl
  refine At [4,8,20] [] ?_;refine Dk 0 1 2 3 ?_;refine dt 4 ?_;refine dN 5 ?_;refine oC ?_
  refine cf (Ajw (Mi n i) i P w.a1 w.c1 y.a4 y.c4 y.a5 y.c5 y.a6 y.c6 y.a7 y.c7 w.s.a w.s.a2 n.Aa.Ab.Ak.length w.s.c n.Aa.holds.length w.s.c2 _ _ _ _ Ft ⟨⟨ye,Fe,He⟩,⟨yr,Fr,Hr⟩,⟨yd.set i [.slice a8 (n.down[i].drop 1).length c8],[gq],Gv⟩,⟨yu,Fu,Hu⟩⟩ FT hGp.l IY GJ (Gn hGp.t) (fun hl=>by obtain ⟨x1,x2,x3,x4,r⟩:=hGp.rn (i:=i) IY;rw [Gh x2];exact (r.hf i0 hl).2.1) (fun hl=>by obtain ⟨x1,x2,x3,x4,r⟩:=hGp.rn (i:=i) IY;rw [I5 x1];exact (r.hn i0 hl).1) hpk hpz hdp) fun x _=>?_;refine Ar ?_
  refine dk ?_;refine dN 6 ?_;refine oS ?_;refine dk ?_;refine Dy 7 8 ?_;refine dd ?_;refine go ?_;intros;rw [←hls];refine E5 (ys:=x.1.e.ys) fun _ w4=>?_;refine E5 (ys:=x.1.r.ys) fun _ w5=>?_;refine E5 (ys:=x.1.d.ys) fun _ w6=>?_;refine E5 (ys:=x.1.u.ys) fun _ w7=>?_;refine A4 (E:=EC 2) (xs:=x.1.e.ys) fun _=>?_;refine A4 (E:=EC 5) (xs:=x.1.r.ys) fun _=>?_;refine A4 (E:=EC 1) (xs:=x.1.d.ys) fun _=>?_;refine A4 (E:=EC 1) (xs:=x.1.u.ys) fun _=>?_
  refine Yu ((Cq (Mi n i) i P).1) (l:=n.Al.Ad) (N:=n.Al.Ad.length) (congrArg Me.Ad (Rt (htk0.trans htk))) rfl (Ay.1 hgm).l w4 w5 w6 w7 (a1:=w.a1) (c1:=w.c1) (a2:=w.s.a) (c2:=w.s.c) (a3:=w.s.a2) (c3:=w.s.c2) (a4:=y.a4) (c4:=y.c4) (a5:=y.a5) (c5:=y.c5) (a6:=y.a6) (c6:=y.c6) (a7:=y.a7) (c7:=y.c7) fun FN=>?_
  refine ret (⟨[.slice w.a1 n.Al.Ad.length w.c1,.int .i64 (((Cq (Mi n i) i P).1).Aa).Ab.Ao,.int .i64 (((Cq (Mi n i) i P).1).Aa).Ab.size,.slice w.s.a (((Cq (Mi n i) i P).1).Aa).Ab.Ak.length w.s.c,.int .i64 (((Cq (Mi n i) i P).1).Aa).Ai,.int .i64 (((Cq (Mi n i) i P).1).Aa).quiet,.slice w.s.a2 (((Cq (Mi n i) i P).1).Aa).holds.length w.s.c2,.slice y.a4 n.Al.Ad.length y.c4,.slice y.a5 n.Al.Ad.length y.c5,.slice y.a6 n.Al.Ad.length y.c6,.slice y.a7 n.Al.Ad.length y.c7],FN,x.2.a,x.2.c,x.2.F⟩:StZ) trivial rfl
 ·rw [if_neg k2] at htk;have hgm:=Mw g1 g2 (htk0.trans htk);rw [show Cj n s=(Mi n i,[],true) by unfold Cj;rw [g1,g2,htk0,htk];rfl];refine go ?_;intros;refine Be rfl (fun m5=>?_) (fun m5=>?_)
  ·exact absurd m5 k5
  refine go ?_;intros;refine C4 A8 ?_;refine go ?_;intros;refine E5 (ys:=ye) fun _ w4=>?_;refine E5 (ys:=yr) fun _ w5=>?_;refine E5 (ys:=(yd.set i [.slice a8 (n.down[i].drop 1).length c8])) fun _ w6=>?_;refine E5 (ys:=yu) fun _ w7=>?_;refine A4 (E:=EC 2) (xs:=ye) fun _=>?_;refine A4 (E:=EC 5) (xs:=yr) fun _=>?_;refine A4 (E:=EC 1) (xs:=(yd.set i [.slice a8 (n.down[i].drop 1).length c8])) fun _=>?_;refine A4 (E:=EC 1) (xs:=yu) fun _=>?_
  refine Yu (Mi n i) (l:=n.Al.Ad) (N:=n.Al.Ad.length) rfl rfl (Ay.1 hgm).l w4 w5 w6 w7 (a1:=w.a1) (c1:=w.c1) (a2:=w.s.a) (c2:=w.s.c) (a3:=w.s.a2) (c3:=w.s.c2) (a4:=y.a4) (c4:=y.c4) (a5:=y.a5) (c5:=y.c5) (a6:=y.a6) (c6:=y.c6) (a7:=y.a7) (c7:=y.c7) fun FN=>?_
  refine ret (⟨[.slice w.a1 n.Al.Ad.length w.c1,.int .i64 ((Mi n i).Aa).Ab.Ao,.int .i64 ((Mi n i).Aa).Ab.size,.slice w.s.a ((Mi n i).Aa).Ab.Ak.length w.s.c,.int .i64 ((Mi n i).Aa).Ai,.int .i64 ((Mi n i).Aa).quiet,.slice w.s.a2 ((Mi n i).Aa).holds.length w.s.c2,.slice y.a4 n.Al.Ad.length y.c4,.slice y.a5 n.Al.Ad.length y.c5,.slice y.a6 n.Al.Ad.length y.c6,.slice y.a7 n.Al.Ad.length y.c7],FN,_,_,_⟩:StZ) trivial rfl
end Go.Proofs.YtkagnmekdkchiaaGreatDoor
namespace Go.Proofs.YtkagnmekdkchiaaGreatDoor

open Go.RowKit
end Go.Proofs.YtkagnmekdkchiaaGreatDoor
namespace Go.Proofs.YtkagnmekdkchiaaGreatDoor
open Go.RowKit
structure DqS where
 x:NE
 b:Bool
 cs:List Value
 F:List Nat
 a:Option Addr
 c:Nat
 Fe:List Nat
structure DqK where
 k:Nat
 cs:List Value
 F:List Nat
 a:Option Addr
 c:Nat
 Fe:List Nat
theorem Aht (w:World):∀xs:List Int,Cw Bc w (xs.map (Value.int .i64)) xs []
 | []=>⟨rfl,rfl⟩
 | x::r=>⟨[.int .i64 x],r.map (Value.int .i64),[],[],rfl,rfl,⟨rfl,rfl⟩,Aht w r⟩
theorem Amq {n:Dt} {s:Jp} (e:Bo n s=none):Cj n s=(P6,[],false):=by
 unfold Cj
 split
 ·rw [e]
 ·rfl
theorem Amr {n:Dt} {s:Jp} {r:NE} (g1:Aw n=true) (g2:Ek s=true) (e:Bo n s=some r):Cj n s=(r.1,r.2,true):=by unfold Cj;rw [g1,g2,e];rfl
theorem Aoe (n:Dt) (v:Value) (F FT:List Nat) (hg:Aw n=true):Fn prog 81 [v] [.isv O1 v n F,Gc FT] [] (fun (_:StZ)=>True) (fun z=>.tuple #[.agg z.cs.toArray,.slice z.a (Pv n).2.length z.c]) (fun z=>[.isv O1 (.agg z.cs.toArray) (Pv n).1 z.F,.ow A8 9 (.slice z.a (Pv n).2.length z.c) (Pv n).2 z.Fe]):=by
 have hwn:=Ax8 hg;refine enter func81 rfl ntmps81 fun w0=>?_;refine Ia ?_;rintro a1 c1 F1 a2 c2 F2 a3 c3 F3 a4 c4 F4 a5 c5 F5 a6 c6 F6 a7 c7 F7 rfl l1 l2 l3 l4 l5 l6 l7;refine go ?_;intros;refine cf (Alu n _ F hg) fun z _=>?_;refine Ar ?_;obtain ⟨w,y⟩:=z;dsimp only;refine A4 (E:=Bc) (xs:=n.Al.Ad) fun Ft=>?_;refine Ad7 Lk (xs:=n.Ae) fun He=>?_;refine Ad7 Qd (xs:=n.Ac) fun Hr=>?_;refine Ad7 (Pj (Kv.refl Aj) GM _) (xs:=n.down) fun Hd=>?_;refine Ad7 (Pj (Kv.refl Aj) GM _) (xs:=n.up) fun Hu=>?_;refine Jh (x:=n.Aa) ?_;rintro b2 d2 G2 b3 d3 G3 ev - -
 simp only [Value.agg.injEq,Array.mk.injEq,List.cons.injEq,Value.slice.injEq,true_and,and_true] at ev;obtain ⟨⟨rfl,rfl⟩,rfl,rfl⟩:=ev;refine Jm n (a1:=w.a1) (c1:=w.c1) (a2:=w.s.a) (c2:=w.s.c) (a3:=w.s.a2) (c3:=w.s.c2) (a4:=y.a4) (c4:=y.c4) (a5:=y.a5) (c5:=y.c5) (a6:=y.a6) (c6:=y.c6) (a7:=y.a7) (c7:=y.c7) ?_;refine go ?_;intros;rename_i g4 g5;refine C4 A8 ?_;refine go ?_;intros
 refine Ck [2,4] (fun s:DqS=>[(5,.slice s.a s.x.2.length s.c),(6,.bool s.b)]) (fun s=>[.row g4 48 0 [] s.cs [],.isv O1 (.agg s.cs.toArray) s.x.1 s.F,.ow A8 9 (.slice s.a s.x.2.length s.c) s.x.2 s.Fe]) (fun s=>Uj (n,[]) s.x∧(if s.b then drE s.x else s.x)=Pv n) (fun s=>if s.b then wN s.x.1+1 else 0) ⟨(n,[]),true,_,_,_,_,_⟩ ⟨.refl hg,rfl⟩ fun s hs0=>?_;obtain ⟨x,b,cs,Fx,ea,ec,eF⟩:=s;obtain ⟨fx,hR⟩:=hs0;dsimp only at fx hR ⊢;refine Ia (x:=x.1) ?_;rintro b1 d1 G1 b2 d2 G2 b3 d3 G3 b4 d4 G4 b5 d5 G5 b6 d6 G6 b7 d7 G7 ev - - - - - - -
 obtain rfl:cs=[.slice b1 x.1.Al.Ad.length d1,.int .i64 x.1.Aa.Ab.Ao,.int .i64 x.1.Aa.Ab.size,.slice b2 x.1.Aa.Ab.Ak.length d2,.int .i64 x.1.Aa.Ai,.int .i64 x.1.Aa.quiet,.slice b3 x.1.Aa.holds.length d3,.slice b4 x.1.Ae.length d4,.slice b5 x.1.Ac.length d5,.slice b6 x.1.down.length d6,.slice b7 x.1.up.length d7]:=by simpa using ev
 clear ev;cases b
 ·rw [if_neg GM] at hR;rw [hR];refine go ?_;intros;refine ret (⟨_,Fx,ea,ec,eF⟩:StZ) trivial rfl
 rw [if_pos rfl] at hR;have hG:=Ay.1 fx.g;have h8:=Gn hG.t;have hn8:=h8.n1;have hn2:=h8.n0;have hev:=fx.e;simp only [List.length_nil] at hev;refine go ?_;intros;refine Ck [2,4] (fun s:DqK=>[(5,.slice s.a (Hg x s.k).2.length s.c),(6,.bool (Py x s.k)),(7,.int .i64 ((s.k+1:Nat):Int))]) (fun s=>[.row g4 48 0 [] s.cs [],.isv O1 (.agg s.cs.toArray) (Hg x s.k).1 s.F,.ow A8 9 (.slice s.a (Hg x s.k).2.length s.c) (Hg x s.k).2 s.Fe]) (fun s=>s.k+1≤x.1.Al.Ad.length) (fun s=>x.1.Al.Ad.length - s.k) ⟨0,_,_,_,_,_⟩ (by show 0+1≤_;omega) fun s hs0=>?_;obtain ⟨k,cs,Fx,ya,yc,yF⟩:=s;dsimp only at hs0 ⊢
 have rf:=Oe fx.g k hs0;have fX:=fx.trans rf.1;have hXt:(Hg x k).1.Al.Ad.length=x.1.Al.Ad.length:=by rw [rf.1.t]
 generalize hX:Hg x k=X at fX hXt ⊢;generalize hM:Py x k=M;refine Ia (x:=X.1) ?_;rintro b1 d1 G1 b2 d2 G2 b3 d3 G3 b4 d4 G4 b5 d5 G5 b6 d6 G6 b7 d7 G7 ev - - - - - - -;obtain rfl:cs=[.slice b1 X.1.Al.Ad.length d1,.int .i64 X.1.Aa.Ab.Ao,.int .i64 X.1.Aa.Ab.size,.slice b2 X.1.Aa.Ab.Ak.length d2,.int .i64 X.1.Aa.Ai,.int .i64 X.1.Aa.quiet,.slice b3 X.1.Aa.holds.length d3,.slice b4 X.1.Ae.length d4,.slice b5 X.1.Ac.length d5,.slice b6 X.1.down.length d6,.slice b7 X.1.up.length d7]:=by simpa using ev
 clear ev;refine go ?_;intros;refine Be rfl (fun h1=>?_) (fun h1=>?_)
 rotate_left
 ·have hk:x.1.Al.Ad.length - 1=k:=by omega
  have hXr:U7 x=X:=by rw [←hX,←hk];rfl
  have hmi:=Afj fx.g;rw [hk,hM] at hmi;refine go ?_;intros;refine Cu ⟨X,M,_,_,ya,yc,yF⟩ ⟨fX,?_⟩ ?_
  ·cases M
   ·have hz:=hmi.1 rfl;show X=Pv n;rw [←hR,Zt hz,←hXr,Aoz fx.g hz]
   ·have hz:¬Wr x.1=0:=fun h=>by cases hmi.2 h
    show drE X=Pv n;rw [←hR,Aev fx.g hz,hXr]
  ·cases M
   ·show 0 < wN x.1+1;omega
   ·have hz:¬Wr x.1=0:=fun h=>by cases hmi.2 h
    have:=(Mc fx.g).2 hz;rw [hXr] at this;show wN X.1+1 < wN x.1+1;omega
 have hj:k+1 < x.1.Al.Ad.length:=by omega
 refine go ?_;intros;refine Ic (E:=Bc) (xs:=[2,5]) (fun w=>Aht w _) ?_ GM;refine A4 (E:=Bc) (xs:=[2,5]) fun Fk=>?_;refine go ?_;intros;refine Ck [2,4,7,25,26] (fun s:DqK=>[(5,.slice s.a (R7 X (k+1) s.k).2.length s.c),(6,.bool (Aco M X (k+1) s.k)),(27,.int .i64 (s.k:Nat))]) (fun s=>[.row g4 48 0 [] s.cs [],.isv O1 (.agg s.cs.toArray) (R7 X (k+1) s.k).1 s.F,.ow A8 9 (.slice s.a (R7 X (k+1) s.k).2.length s.c) (R7 X (k+1) s.k).2 s.Fe]) (fun s=>s.k≤2) (fun s=>2 - s.k) ⟨0,_,_,_,_,_⟩ (Nat.zero_le _) fun s hs1=>?_;obtain ⟨m,cs,Fx,ya,yc,yF⟩:=s;dsimp only at hs1 ⊢
 have fY:=fX.trans (Arv fX.g (i:=k+1) GJ GJ m hs1);have hYe:=fY.e;simp only [List.length_nil] at hYe;generalize hY:R7 X (k+1) m=Y at fY hYe ⊢;generalize hB:Aco M X (k+1) m=B;refine Ia (x:=Y.1) ?_;rintro b1 d1 G1 b2 d2 G2 b3 d3 G3 b4 d4 G4 b5 d5 G5 b6 d6 G6 b7 d7 G7 ev - - - - - - -
 obtain rfl:cs=[.slice b1 Y.1.Al.Ad.length d1,.int .i64 Y.1.Aa.Ab.Ao,.int .i64 Y.1.Aa.Ab.size,.slice b2 Y.1.Aa.Ab.Ak.length d2,.int .i64 Y.1.Aa.Ai,.int .i64 Y.1.Aa.quiet,.slice b3 Y.1.Aa.holds.length d3,.slice b4 Y.1.Ae.length d4,.slice b5 Y.1.Ac.length d5,.slice b6 Y.1.down.length d6,.slice b7 Y.1.up.length d7]:=by simpa using ev
 clear ev;refine go ?_;intros;refine Be rfl (fun h2=>?_) (fun h2=>?_)
 ·have hm:m < 2:=by omega
  have ok:Ek (kst m (k+1))=true:=Be8 GJ GJ hm;refine Io (xs:=[2,5]) m ?_;rintro hi b9 o9 e9;rw [e9,show ([2,5]:List Int)[m]=(kst m (k+1)).Ct by rcases (show m=0∨m=1 by omega) with rfl|rfl <;> rfl];have gY:=fY.g;refine go ?_;intros;refine cf (Ah8 Y.1 (kst m (k+1)) _ _ FT (Nat.zero_le _) gY ok) fun z _=>?_;refine Ar ?_;cases e:Bo Y.1 (kst m (k+1)) with
  | none =>
   rw [Amq e];have hnY:R7 X (k+1) (m+1)=Y:=by show Mm (R7 X (k+1) m) (kst m (k+1))=Y;rw [hY];exact Jd e
   have hnB:Aco M X (k+1) (m+1)=B:=by show (Aco M X (k+1) m || (Bo (R7 X (k+1) m).1 (kst m (k+1))).isSome)=B;rw [hY,hB,e];exact Bool.or_false B
   refine Ia (x:=P6) ?_;rintro f1 t1 G1 f2 t2 G2 f3 t3 G3 f4 t4 G4 f5 t5 G5 f6 t6 G6 f7 t7 G7 ez - - - - - - -;rw [ez];refine go ?_;intros;refine Cu ⟨m+1,_,_,ya,yc,yF⟩ (by show m+1≤2;omega) (by show 2 - (m+1) < 2 - m;omega) (by dsimp only;rw [hnY,hnB];exact frE) (by dsimp only;rw [hnY];exact hsE)
  | some r =>
   rw [Amr gY ok e];have hnY:R7 X (k+1) (m+1)=(r.1,Y.2++r.2):=by show Mm (R7 X (k+1) m) (kst m (k+1))=_;rw [hY];exact Xt e
   have hnB:Aco M X (k+1) (m+1)=true:=by show (Aco M X (k+1) m || (Bo (R7 X (k+1) m).1 (kst m (k+1))).isSome)=true;rw [hY,hB,e];exact Bool.or_true B
   have hr:=Amz gY ok e;refine Ia (x:=r.1) ?_;rintro f1 t1 G1 f2 t2 G2 f3 t3 G3 f4 t4 G4 f5 t5 G5 f6 t6 G6 f7 t7 G7 ez - - - - - - -;rw [ez];refine A4 (E:=A8) (xs:=r.2) fun F8=>?_;refine go ?_;intros;apply wO;refine N3 (E:=A8) (xs:=Y.2) (ys:=r.2) Dp Hi fun a9 c9 F9=>?_;refine go ?_;intros;refine Cu ⟨m+1,_,z.F,a9,c9,F9⟩ (by show m+1≤2;omega) (by show 2 - (m+1) < 2 - m;omega) (by dsimp only;rw [hnY,hnB];exact frE) (by dsimp only;rw [hnY];exact hsE)
 ·obtain rfl:m=2:=by omega
  refine go ?_;intros;refine Cu ⟨k+1,_,_,ya,yc,yF⟩ JS (by show x.1.Al.Ad.length - (k+1) < x.1.Al.Ad.length - k;omega) (by dsimp only;rw [Al4,hX,hM,hB,Aaj,hX,hY];exact frE) (by dsimp only;rw [Aaj,hX,hY];exact hsE)
theorem Af9 (n:Dt) (v:Value) (F:List Nat):Fn prog 85 [v] [.isv O1 v n F] [] (fun (_:Unit)=>True) (fun _=>.tuple #[.bool (Fh n).1,.bool (Fh n).2]) (fun _=>[]):=by
 refine enter func85 rfl ntmps85 fun w0=>?_;refine Ia ?_;rintro a1 c1 F1 a2 c2 F2 a3 c3 F3 a4 c4 F4 a5 c5 F5 a6 c6 F6 a7 c7 F7 rfl l1 l2 l3 l4 l5 l6 l7;refine go ?_;intros;refine cf (Abl n _ F) fun _ _=>?_;refine Ar ?_;cases g:Aw n
 ·exact GB
 obtain ⟨-,e2,e3,e4⟩:=Hw g;obtain ⟨q2,q8,qn,qu,qe,qt⟩:=Oo g;have hG:=Ay.1 g;obtain ⟨-,qr, -, -⟩:=Bk.1 hG.l;have hS1:=(Kx hG.s).l;have hW:=Dz.1 (Ez.1 hG.s).1;refine M7 ?_;intros;refine Kq n.Al (a1:=a1) ?_;refine go ?_;intros;refine Ev [1,2,3] (fun k:Nat=>[(4,.int .i64 (k:Nat))]) (fun k=>1≤k∧k≤n.Al.Ad.length∧∀j,1≤j→j < k→(n.down.getD j []).length=0∧(n.up.getD j []).length=0∧(Ed n.Al.Ad ((j:Nat):Int)=true→Abc n j=true)) (fun k=>n.Al.Ad.length - k) 1 ⟨Nat.le_refl _,GJ,fun j a b=>by omega⟩ fun k hk=>?_;obtain ⟨hk1,hk2,hal⟩:=hk;refine go ?_;intros;refine Be rfl (fun h3=>?_) (fun h3=>?_)
 ·have hk3:k < n.Al.Ad.length:=by omega
  have h5:k < n.Ac.length:=by omega
  have hd5:k < n.down.length:=by omega
  have hu5:k < n.up.length:=by omega
  have m8:=(C6 (e3 _ (List.getElem_mem hd5))).1;have m9:=(C6 (e4 _ (List.getElem_mem hu5))).1;have gd:(n.down.getD k [])=n.down[k]:=Pa hd5 _;have gu:(n.up.getD k [])=n.up[k]:=Pa hu5 _;refine O6 (E:=Aj) (hz:=GM) (xs:=n.down) k ?_;rintro hi1 g1 o1 a8 c8 F8 ea l8;refine O6 (E:=Aj) (hz:=GM) (xs:=n.up) k ?_;rintro hi2 g2 o2 a9 c9 F9 eb l9;rw [ea,eb];refine M7 ?_;intros;refine At [0,2,5] [] ?_;refine Dk 0 1 2 3 ?_;refine Dk 4 5 6 7 ?_;refine Dk 8 9 10 11 ?_;refine Dy 12 13 ?_;refine dd ?_;refine go ?_;intros;refine Be rfl (fun h4=>?_) (fun h4=>?_)
  ·refine go ?_;intros;refine ret () trivial ?_;unfold Fh;rw [g];rw [if_pos rfl,Axf (fun h0=>by
    have hd:=Zz (l:=n.down) (i:=k) JT;have hu:=Zz (l:=n.up) (i:=k) JT;rw [gd] at hd;rw [gu] at hu;omega)]
   rfl
  refine Jt (xs:=n.Ac) k ?_;rintro h5b b5 o5 a10 c10 F10 a11 c11 F11 e5 l10 l11;rw [e5];have hr:=D9.1 (e2 _ (List.getElem_mem h5));have hr1:=(J0 hr.w).1;have hr2:=(C9.1 hr.q).2.1;cases hlf:Ed n.Al.Ad ((k:Nat):Int)
  ·refine M7 ?_;intros;refine At [0,9] [] ?_;refine Dy 0 1 ?_;refine dt 2 ?_;refine dN 3 ?_;refine oC ?_;refine cf (Nt n.Al _ _ F1 (Gn hG.t) GJ) fun _ _=>?_;refine Ar ?_;rw [hlf];refine dk ?_;refine dt 4 ?_;refine ds 5 ?_;refine ds 6 ?_;refine ds 7 ?_;refine ds 8 ?_;refine Zf 9 ?_;refine Zf 10 ?_;refine Zf 11 ?_;refine Zf 12 ?_;refine Zf 13 ?_;refine Zf 14 ?_;refine Zf 15 ?_;refine Zf 16 ?_;refine Zf 17 ?_;refine ds 18 ?_;refine ds 19 ?_;refine Zf 20 ?_;refine Zf 21 ?_;refine Zf 22 ?_;refine Zf 23 ?_;refine Zf 24 ?_;refine Zf 25 ?_;refine Zf 26 ?_;refine Zf 27 ?_;refine ds 28 ?_
   refine dt 29 ?_;refine dd ?_;refine go ?_;intros;rw [show ((k:Nat):Int)+1=((k+1:Nat):Int) by omega];refine Cu (k+1) ⟨GJ,hk3,fun j hj0 hj=>?_⟩ GJ;by_cases hjk:j=k
   ·subst hjk;exact ⟨by rw [gd];omega,by rw [gu];omega,fun h=>absurd h JV⟩
   ·exact hal j hj0 GJ
  cases hst0:n.Ac[k].Bd
  ·have hst:Adr n.Ac[k]=false:=by unfold Adr;rw [hst0];rfl
   try rw [hst0]
   refine M7 ?_;intros;refine At [0,9] [] ?_;refine Dy 0 1 ?_;refine dt 2 ?_;refine dN 3 ?_;refine oC ?_;refine cf (Nt n.Al _ _ F1 (Gn hG.t) GJ) fun _ _=>?_;refine Ar ?_;rw [hlf];refine dk ?_;refine dt 4 ?_;refine Di 5 ?_;refine Di 6 ?_;refine Di 7 ?_;refine Di 8 ?_;refine ds 9 ?_;refine ds 10 ?_;refine ds 11 ?_;refine ds 12 ?_;refine ds 13 ?_;refine ds 14 ?_;refine ds 15 ?_;refine ds 16 ?_;refine ds 17 ?_;refine Di 18 ?_;refine Di 19 ?_;refine ds 20 ?_;refine ds 21 ?_;refine ds 22 ?_;refine ds 23 ?_;refine ds 24 ?_;refine ds 25 ?_;refine ds 26 ?_;refine ds 27 ?_;refine Di 28 ?_
   exact DU
  ·by_cases hz:n.Ac[k].Am.length+n.Ac[k].Ab.Ap.length=0
   rotate_left
   ·have hst:Adr n.Ac[k]=false:=by
     unfold Adr;by_cases hz1:((n.Ac[k].Am.length:Int)=0)
     ·rw [decide_eq_false (show ¬((n.Ac[k].Ab.Ap.length:Int)=0) by omega),Bool.and_false]
     ·rw [decide_eq_false hz1,Bool.and_false,Bool.false_and]
    try rw [hst0]
    refine M7 ?_;intros;refine At [0,9] [] ?_;refine Dy 0 1 ?_;refine dt 2 ?_;refine dN 3 ?_;refine oC ?_;refine cf (Nt n.Al _ _ F1 (Gn hG.t) GJ) fun _ _=>?_;refine Ar ?_;rw [hlf];refine dk ?_;refine dt 4 ?_;refine Di 5 ?_;refine Di 6 ?_;refine Di 7 ?_;refine Di 8 ?_;refine Di 9 ?_;refine Di 10 ?_;refine Di 11 ?_;refine Di 12 ?_;refine Di 13 ?_;refine Di 14 ?_;refine Di 15 ?_;refine Di 16 ?_;refine Di 17 ?_;rw [show decide ((0:Int) < ((n.Ac[k].Am.length:Int)+(n.Ac[k].Ab.Ap.length:Int)))=true from decide_eq_true GJ];refine Di 18 ?_;refine Di 19 ?_;refine ds 20 ?_;refine ds 21 ?_
    refine ds 22 ?_;refine ds 23 ?_;refine ds 24 ?_;refine ds 25 ?_;refine ds 26 ?_;refine ds 27 ?_;refine Di 28 ?_;exact DU
   ·have hst:Adr n.Ac[k]=true:=by
     unfold Adr;rw [hst0,decide_eq_true (show ((n.Ac[k].Ab.Ap.length:Int)=0) by omega),decide_eq_true (show ((n.Ac[k].Am.length:Int)=0) by omega)];rfl
    try rw [hst0]
    refine M7 ?_;intros;refine At [0,9] [] ?_;refine Dy 0 1 ?_;refine dt 2 ?_;refine dN 3 ?_;refine oC ?_;refine cf (Nt n.Al _ _ F1 (Gn hG.t) GJ) fun _ _=>?_;refine Ar ?_;rw [hlf];refine dk ?_;refine dt 4 ?_;refine Di 5 ?_;refine Di 6 ?_;refine Di 7 ?_;refine Di 8 ?_;refine Di 9 ?_;refine Di 10 ?_;refine Di 11 ?_;refine Di 12 ?_;refine Di 13 ?_;refine Di 14 ?_;refine Di 15 ?_;refine Di 16 ?_;refine Di 17 ?_;rw [show decide ((0:Int) < ((n.Ac[k].Am.length:Int)+(n.Ac[k].Ab.Ap.length:Int)))=false from decide_eq_false GJ];refine Di 18 ?_;refine Di 19 ?_;refine Di 20 ?_
    refine Di 21 ?_;refine Di 22 ?_;refine Di 23 ?_;refine Di 24 ?_;refine Di 25 ?_;refine d1g 26 ?_;apply On.h;refine oC ?_;refine cb (fun w s=>Sd n.Aa.Ab.Ao n.Aa.Ab.size _ n.Aa.Ab.Ak.length _ w hW.1.1 hW.1.2 GJ) ?_;refine dk ?_;refine Di 27 ?_;refine Di 28 ?_;refine dt 29 ?_;refine dd ?_;refine go ?_;intros;refine Be rfl (fun h6=>?_) (fun h6=>?_)
    ·refine go ?_;intros;refine ret () trivial ?_;unfold Fh;rw [g];rw [if_pos rfl,Agd hk3 hlf (by unfold Abc;rw [Gh h5,decide_eq_false h6,Bool.and_false])];rfl
    ·refine go ?_;intros;rw [show ((k:Nat):Int)+1=((k+1:Nat):Int) by omega];refine Cu (k+1) ⟨GJ,hk3,fun j hj0 hj=>?_⟩ GJ;by_cases hjk:j=k
     ·subst hjk;exact ⟨by rw [gd];omega,by rw [gu];omega,fun h=>by unfold Abc;rw [Gh h5,hst,decide_eq_true (Decidable.not_not.1 h6)];rfl⟩
     ·exact hal j hj0 GJ
 ·have hk3:k=n.Al.Ad.length:=by omega
  have hst:X4 n=true:=by
   refine Am0 ?_ fun i hi hl=>?_
   ·have d0:=Aaa g;have a1:qd n.down=0:=Awn fun i hi=>by
     rw [←Pa hi []];by_cases h0:i=0
     ·subst h0;exact d0.1
     ·exact (hal i GJ GJ).1
    have a2:qd n.up=0:=Awn fun i hi=>by
     rw [←Pa hi []];by_cases h0:i=0
     ·subst h0;exact d0.2
     ·exact (hal i GJ GJ).2.1
    unfold Wr;omega
   ·by_cases h0:i=0
    ·subst h0;rw [Baa (Gn hG.t)] at hl;cases hl
    ·exact (hal i GJ GJ).2.2 hl
  refine go ?_;intros;refine ret () trivial ?_;unfold Fh;rw [g,if_pos rfl,hst];rfl
theorem Ag6 (x:A9) (v:Value) (F:List Nat):Fn prog 143 [v] [.isv B4 v x F] [] (fun (_:OwR)=>True) (fun s=>.tuple #[.slice s.a (Ep x).1.length s.c,.bool (Ep x).2]) (fun s=>[.ow Bc 3 (.slice s.a (Ep x).1.length s.c) (Ep x).1 s.F]):=by
 refine enter func143 rfl ntmps143 fun w0=>?_;refine Gt (v:=v) (x:=x) (F:=F) ?_;rintro a1 c1 F1 a2 c2 F2 rfl l1 l2;unfold maxLen at l1 l2;refine go ?_;intros;rename_i g0;refine cf (Ah6 x _ F) fun _ _=>?_;refine Ar ?_;refine C4 Bc ?_;cases g1:Bz x
 ·rw [show Ep x=([],false) by unfold Ep;rw [g1];rfl];exact BB
 have g5:=D9.1 g1;have hq8:=(C9.1 g5.q).2.1;rw [show Ep x=(x.Am.map (·.Af),true) by unfold Ep;rw [g1];rfl];refine go ?_;intros;refine Ck [1,2,3] (fun s:AwS=>[(5,.int .i64 (s.i:Nat)),(4,.slice s.a ((x.Am.take s.i).map (·.Af)).length s.c)]) (fun s=>[.ow Bc 3 (.slice s.a ((x.Am.take s.i).map (·.Af)).length s.c) ((x.Am.take s.i).map (·.Af)) s.F]) (fun s=>s.i≤x.Am.length) (fun s=>x.Am.length - s.i) ⟨0,some ⟨g0,0,none⟩,0,[g0]⟩ (Nat.zero_le _) fun s hs=>?_;obtain ⟨i,a3,c3,F3⟩:=s;dsimp only at hs ⊢;have hl3:((x.Am.take i).map (·.Af)).length≤i:=by simp;omega
 refine go ?_;intros;refine Be rfl (fun h4=>?_) (fun h4=>?_)
 ·have hi:i < x.Am.length:=by omega
  have eo:(x.Am.take (i+1)).map (·.Af)=(x.Am.take i).map (·.Af)++[x.Am[i].Af]:=by rw [List.take_add_one,List.getElem?_eq_getElem hi,List.map_append];rfl
  exact BU
 have hi:i=x.Am.length:=by omega
 subst hi;rw [List.take_length];exact BB
def rsC (x:C7) (o:Option NR):C7 × ByteArray:=match o with
 | some r=>(⟨r.1,x.Eb⟩,r.2)
 | none=>(x,⟨#[63]⟩)
theorem Af2 {x:C7} {r:Option ByteArray}:rsC x (Pk x.As r)=(x,r.getD ⟨#[63]⟩):=by cases r <;> rfl
theorem Bb2 {n:Dt} {s:Jp} {y:NE} (hg:Aw n=true) (hs:Ek s=true) (e:Bo n s=some y):y.2.length≤900000000000∧∀e∈y.2,e.size≤100:=by
 have:=Ap0 hg hs;rw [e] at this;exact this
theorem Pw (x:C7) (s:Jp) (b:Bool) (v:Value) (F FT:List Nat) (hg:Aw x.As=true) (hss:s.data.size≤maxLen) (hb:b=decide (s.Ct=2∨s.Ct=4)):Fn prog 45 [v,.agg #[.int .i64 s.Ct,.int .i64 s.node,.string s.data],.bool b] [.isv Hj v x F,Gc FT] [] (fun (_:Vi)=>True) (fun u=>.tuple #[.agg u.cs.toArray,.string (rsC x (Jo x.As s)).2]) (fun u=>[.isv Hj (.agg u.cs.toArray) (rsC x (Jo x.As s)).1 u.F]):=by
 refine enter func45 rfl ntmps45 fun w0=>?_;refine Dh ?_;rintro a1 c1 F1 a2 c2 F2 a3 c3 F3 a4 c4 F4 a5 c5 F5 a6 c6 F6 a7 c7 F7 rfl s1 s2 l1 l2 l3 l4 l5 l6 l7;refine Jm x.As (a1:=a1) (a2:=a2) (a3:=a3) (a4:=a4) (a5:=a5) (a6:=a6) (a7:=a7) ?_;refine go ?_;intros;refine cf (Asg s hss) fun _ _=>?_;refine Ar ?_;cases hk:Ek s
 ·have e:Jo x.As s=none:=by unfold Jo;rw [hk];rfl
  rw [e];exact EG
 refine go ?_;intros;refine cf (Ah8 x.As s _ _ FT hss hg hk) fun z _=>?_;refine Ar ?_;cases es:Bo x.As s with
 | none =>
  have e:Jo x.As s=none:=by unfold Jo;rw [hk,es];rfl
  rw [e,Amq es];refine Ia (x:=P6) ?_;rintro f1 t1 G1 f2 t2 G2 f3 t3 G3 f4 t4 G4 f5 t5 G5 f6 t6 G6 f7 t7 G7 ez - - - - - - -;rw [ez];exact EG
 | some y =>
  have e:Jo x.As s=some (y.1,if s.Ct=2∨s.Ct=4 then Wd y.2 else bz wOk):=by unfold Jo;rw [hk,es];rfl
  have hE:=Bb2 hg hk es;rw [e,Amr hg hk es];obtain ⟨m,E⟩:=y;dsimp only at hE ⊢;refine Ia (x:=m) ?_;rintro f1 t1 G1 f2 t2 G2 f3 t3 G3 f4 t4 G4 f5 t5 G5 f6 t6 G6 f7 t7 G7 ez - - - - - - -;rw [ez];refine A4 (E:=A8) (xs:=E) fun F8=>?_;refine go ?_;intros;refine Du (⟨m,x.Eb⟩:C7) s1 s2 (a1:=f1) (c1:=t1) (a2:=f2) (c2:=t2) (a3:=f3) (c3:=t3) (a4:=f4) (c4:=t4) (a5:=f5) (c5:=t5) (a6:=f6) (c6:=t6) (a7:=f7) (c7:=t7) ?_;cases b
  ·rw [if_neg (by simpa using hb.symm)];refine go ?_;intros;exact AK
  rw [if_pos (by simpa using hb.symm)];refine M7 ?_;intros;refine At [1] [3,4] ?_;refine Dy 0 1 ?_;refine dN 2 ?_;refine oC ?_;refine cf (Abo E ⟨#[44,32]⟩ _ _ F8 GM hE.1 hE.2) fun _ _=>?_;refine Ar ?_;refine dk ?_;refine dN 3 ?_;refine oS ?_;refine Rn ?_;refine dtp 4 ?_;refine dd ?_;refine go ?_;intros
  exact AK
def Ui (n:Dt) (line:ByteArray):Option NR :=
 if line.data.toList=Agm then Jo n ⟨1,0,⟨#[]⟩⟩
 else if line.data.toList=Ai4 then Jo n ⟨4,0,⟨#[]⟩⟩
 else if line.data.toList=Ve then some ((Pv n).1,Wd (Pv n).2)
 else Pk n (J9 n line.data.toList)
theorem Aya {line:ByteArray} (h:(Fc line).length=1):Fc line=[line.data.toList]:=by
 unfold Fc at h ⊢;obtain ⟨r,hr,hi⟩:=Ov 32 line.data.toList;rw [hr,List.length_cons] at h;have hb:=hi.1 (List.length_eq_zero_iff.1 GJ);exact Nv fun c hc e=>hb (e▸hc)
theorem Aw4 {n:Dt} {line:ByteArray} (h:(Fc line).length=1):Oa n line=Ui n line:=by
 have hw:=Aya h;have h0:atW (Fc line) 0=line.data.toList:=by rw [hw];rfl
 unfold Ui
 split
 ·rename_i e;exact Aam (by unfold Ii;rw [h0];exact if_pos ⟨e,h⟩)
 ·rename_i e1
  split
  ·rename_i e;exact Aam (by unfold Ii;rw [h0,if_neg (fun c=>e1 c.1),if_neg (fun c=>e1 c.1)];exact if_pos ⟨e,h⟩)
  ·rename_i e2;have hs:Ii (Fc line)=none:=by
    unfold Ii;rw [h0,if_neg (fun c=>e1 c.1),if_neg (fun c=>e1 c.1),if_neg (fun c=>e2 c.1)];exact if_pos GJ
   unfold Oa;rw [hs];dsimp only
   split
   ·rfl
   ·first|rfl|rw [if_pos h]
theorem Aso (x:C7) (line:ByteArray) (v:Value) (F FT:List Nat) (hg:Aw x.As=true):Fn prog 44 [v,.string line] [.isv Hj v x F,Gc FT] [] (fun (_:Vi)=>True) (fun u=>.tuple #[.agg u.cs.toArray,.string (rsC x (Ui x.As line)).2]) (fun u=>[.isv Hj (.agg u.cs.toArray) (rsC x (Ui x.As line)).1 u.F]):=by
 refine enter func44 rfl ntmps44 fun w0=>?_;refine Dh ?_;rintro a1 c1 F1 a2 c2 F2 a3 c3 F3 a4 c4 F4 a5 c5 F5 a6 c6 F6 a7 c7 F7 rfl s1 s2 l1 l2 l3 l4 l5 l6 l7;refine Jm x.As (a1:=a1) (a2:=a2) (a3:=a3) (a4:=a4) (a5:=a5) (a6:=a6) (a7:=a7) ?_;refine go ?_;intros;refine Be rfl (fun h1=>?_) (fun h1=>?_)
 ·rw [show Ui x.As line=Jo x.As ⟨1,0,⟨#[]⟩⟩ by unfold Ui;rw [if_pos (show line.data.toList=Agm from Do.1 h1)]];have hP:=fun v F=>Pw x ⟨1,0,⟨#[]⟩⟩ false v F FT hg (Nat.zero_le _) GM;generalize rsC x (Jo x.As ⟨1,0,⟨#[]⟩⟩)=R at hP ⊢;refine go ?_;intros;refine cf (hP _ _) fun u _=>?_;refine Ar ?_;refine Dh (x:=R.1) ?_;rintro f1 t1 G1 f2 t2 G2 f3 t3 G3 f4 t4 G4 f5 t5 G5 f6 t6 G6 f7 t7 G7 ez s3 s4 - - - - - - -;rw [ez];refine go ?_;intros;refine Du R.1 s3 s4 (a1:=f1) (c1:=t1) (a2:=f2) (c2:=t2) (a3:=f3) (c3:=t3) (a4:=f4) (c4:=t4) (a5:=f5) (c5:=t5) (a6:=f6) (c6:=t6) (a7:=f7) (c7:=t7) ?_
  exact AC
 refine go ?_;intros;refine Be rfl (fun h2=>?_) (fun h2=>?_)
 ·rw [show Ui x.As line=Jo x.As ⟨4,0,⟨#[]⟩⟩ by unfold Ui;rw [if_neg (show ¬line.data.toList=Agm from fun e=>h1 (Do.2 e)),if_pos (show line.data.toList=Ai4 from Do.1 h2)]];have hP:=fun v F=>Pw x ⟨4,0,⟨#[]⟩⟩ true v F FT hg (Nat.zero_le _) GM;generalize rsC x (Jo x.As ⟨4,0,⟨#[]⟩⟩)=R at hP ⊢;refine go ?_;intros;refine cf (hP _ _) fun u _=>?_;refine Ar ?_;refine Dh (x:=R.1) ?_;rintro f1 t1 G1 f2 t2 G2 f3 t3 G3 f4 t4 G4 f5 t5 G5 f6 t6 G6 f7 t7 G7 ez s3 s4 - - - - - - -;rw [ez];refine go ?_;intros
  exact AZ
 refine go ?_;intros;refine Be rfl (fun h3=>?_) (fun h3=>?_)
 ·rw [show Ui x.As line=some ((Pv x.As).1,Wd (Pv x.As).2) by unfold Ui;rw [if_neg (show ¬line.data.toList=Agm from fun e=>h1 (Do.2 e)),if_neg (show ¬line.data.toList=Ai4 from fun e=>h2 (Do.2 e)),if_pos (show line.data.toList=Ve from Do.1 h3)]];have hP:=fun v F=>Aoe x.As v F FT hg;have hE:(Pv x.As).2.length≤900000000000∧∀e∈(Pv x.As).2,e.size≤100:=⟨by have:=Apy hg;omega,fun e he=>by have:=(Xc (Bbx hg e he)).2;omega⟩;generalize Pv x.As=y at hP hE ⊢;obtain ⟨m,E⟩:=y;dsimp only at hP hE ⊢;refine go ?_;intros;refine cf (hP _ _) fun z _=>?_;refine Ar ?_;refine Ia (x:=m) ?_
  rintro f1 t1 G1 f2 t2 G2 f3 t3 G3 f4 t4 G4 f5 t5 G5 f6 t6 G6 f7 t7 G7 ez - - - - - - -;rw [ez];refine A4 (E:=A8) (xs:=E) fun F8=>?_;refine go ?_;intros;refine Du (⟨m,x.Eb⟩:C7) s1 s2 (a1:=f1) (c1:=t1) (a2:=f2) (c2:=t2) (a3:=f3) (c3:=t3) (a4:=f4) (c4:=t4) (a5:=f5) (c5:=t5) (a6:=f6) (c6:=t6) (a7:=f7) (c7:=t7) ?_;refine M7 ?_;intros;refine At [1] [3,4] ?_;refine Dy 0 1 ?_;refine dN 2 ?_;refine oC ?_;refine cf (Abo E ⟨#[44,32]⟩ _ _ F8 GM hE.1 hE.2) fun _ _=>?_;refine Ar ?_;refine dk ?_;refine dN 3 ?_;refine oS ?_;refine Rn ?_;refine dtp 4 ?_;refine dd ?_;refine go ?_;intros
  exact AK
 have eW:Ui x.As line=Pk x.As (J9 x.As line.data.toList):=by unfold Ui;rw [if_neg (show ¬line.data.toList=Agm from fun e=>h1 (Do.2 e)),if_neg (show ¬line.data.toList=Ai4 from fun e=>h2 (Do.2 e)),if_neg (show ¬line.data.toList=Ve from fun e=>h3 (Do.2 e))]
 rw [eW,Af2];obtain ⟨e1,e2,e3,e4⟩:=Hw hg;obtain ⟨q2,q8,qn,qu,qe,qt⟩:=Oo hg;have hG:=Ay.1 hg;have hS:=Kx hG.s;have hW:=Dz.1 (Ez.1 hG.s).1;have hS1:=hS.l;have hb1:=Nu (fun q hq=>(C6 (e3 q hq)).1) x.As.down.length;have hb2:=Nu (fun q hq=>(C6 (e4 q hq)).1) x.As.up.length;rw [List.take_length] at hb1 hb2;have z1:=Z5 (k:=qd x.As.down) GJ;have z2:=Z5 (k:=qd x.As.up) GJ;have hld:=Z9 x.As.Aa.Ab;unfold Lb at hld;refine go ?_;intros;refine Be rfl (fun h4=>?_) (fun h4=>?_)
 ·rw [show J9 x.As line.data.toList=some (bz (Lib.itoa (Lb x.As.Aa.Ab))) by unfold J9;rw [if_pos (show line.data.toList=Aau from Do.1 h4)]];refine M7 ?_;intros;refine At [1] [7,8] ?_;refine Dk 0 1 2 3 ?_;refine dt 4 ?_;refine dN 5 ?_;refine oC ?_;refine cb (fun w2 s=>Sd x.As.Aa.Ab.Ao x.As.Aa.Ab.size _ x.As.Aa.Ab.Ak.length _ w2 hW.1.1 hW.1.2 GJ) ?_;refine dk ?_;refine dN 6 ?_;refine oC ?_;refine cb (fun w2 st=>Tg (Ce x.As.Aa.Ab.Ao x.As.Aa.Ab.Ak.length) GJ GJ w2) ?_;refine dk ?_;refine dN 7 ?_;refine oS ?_;refine Rn ?_;refine dtp 8 ?_;refine dd ?_;refine go ?_;intros
  exact AA
 refine go ?_;intros;refine Be rfl (fun h5=>?_) (fun h5=>?_)
 ·rw [show J9 x.As line.data.toList=some (bz (Lib.itoa ((qd x.As.down:Nat):Int))++⟨#[32]⟩++bz (Lib.itoa ((qd x.As.up:Nat):Int))) by unfold J9;rw [if_neg (show ¬line.data.toList=Aau from fun e=>h4 (Do.2 e)),if_pos (show line.data.toList=Vf from Do.1 h5)]];refine go ?_;intros;have hP:=fun v F=>Ag7 x.As v F;simp only [show P0 x.As=(((qd x.As.down:Nat):Int),((qd x.As.up:Nat):Int),true) by unfold P0;rw [hg];rfl] at hP;refine cf (hP _ _) fun _ _=>?_;refine Ar ?_;refine M7 ?_;intros;refine At [1] [] ?_;refine Dy 0 1 ?_;refine dt 4 ?_;refine dN 2 ?_;refine oC ?_
  refine cb (fun w2 st=>Tg ((qd x.As.down:Nat):Int) GJ GJ w2) ?_;refine dk ?_;refine dt 3 ?_ (hy:=M2 rfl rfl (by show _+1≤9223372036854775807;omega));refine dN 5 ?_;refine oC ?_;refine cb (fun w2 st=>Tg ((qd x.As.up:Nat):Int) GJ GJ w2) ?_;refine dk ?_;refine dt 6 ?_ (hy:=M2 rfl rfl KM);refine dN 7 ?_;refine oS ?_;refine dk ?_;refine dt 8 ?_;refine dd ?_;refine go ?_;intros
  exact AA
 refine go ?_;intros;refine Be rfl (fun h6=>?_) (fun h6=>?_)
 ·rw [show J9 x.As line.data.toList=some (if X4 x.As then bz Bar else bz wNo) by unfold J9;rw [if_neg (show ¬line.data.toList=Aau from fun e=>h4 (Do.2 e)),if_neg (show ¬line.data.toList=Vf from fun e=>h5 (Do.2 e)),if_pos (show line.data.toList=W7 from Do.1 h6)]];refine go ?_;intros;have hP:=fun v F=>Af9 x.As v F;simp only [show Fh x.As=(X4 x.As,true) by unfold Fh;rw [hg];rfl] at hP;refine cf (hP _ _) fun _ _=>?_;refine Ar ?_;cases hst:X4 x.As
  ·exact EG
  ·exact EG
 ·rw [show J9 x.As line.data.toList=none by unfold J9;rw [if_neg (show ¬line.data.toList=Aau from fun e=>h4 (Do.2 e)),if_neg (show ¬line.data.toList=Vf from fun e=>h5 (Do.2 e)),if_neg (show ¬line.data.toList=W7 from fun e=>h6 (Do.2 e))]];refine go ?_;intros
  exact AA
def Vq (n:Dt) (w:Bs) (k:Int):Option NR:=if Pn w≠0 then Jo n ⟨Pn w,k,⟨#[]⟩⟩ else Pk n (Jf n w [k])
theorem Ahe {n:Dt} {w:Bs} {l:List Int} (h:Eu 1 (l.getD 0 0) ((n.Al.Ad.length:Int) - 1)=false):Jf n w l=none:=by unfold Jf;rw [h];rfl
theorem Aq6 {n:Dt} {w:Bs} {k:Int} (h:Eu 1 k ((n.Al.Ad.length:Int) - 1)=true):Jf n w [k] =
  if w=Agl∧Se n k=true then some (T9 ((Pl n k.toNat).Am.map (·.Af)))
  else if w=Agn∧Se n k=true∧(Pl n k.toNat).Bd=true then some (Ye (Pl n k.toNat).Ab)
  else none:=by
 rw [Ts (l:=[k]) h];by_cases h1:w=Agl∧Se n k=true
 ·rw [if_pos h1,if_pos ⟨h1.1,rfl,h1.2⟩];rfl
 rw [if_neg h1,if_neg (fun e=>h1 ⟨e.1,e.2.2⟩)];by_cases h2:w=Agn∧Se n k=true∧(Pl n k.toNat).Bd=true
 ·rw [if_pos h2,if_pos ⟨h2.1,rfl,h2.2⟩];rfl
 rw [if_neg h2,if_neg (fun e=>h2 ⟨e.1,e.2.2⟩),if_neg (fun e=>by cases e.2.1)]
theorem Aq7 {n:Dt} {a b:Int} (h:Eu 1 a ((n.Al.Ad.length:Int) - 1)=true):Jf n M0 [a,b] =
  if Se n a=false then (if B9 b then some (T9 (Kl (O9 n a.toNat) b)) else none) else none:=by
 rw [Ts (l:=[a,b]) h,if_neg (fun e=>by cases e.2.1),if_neg (fun e=>by cases e.2.1)];by_cases h1:Se n a=false
 ·rw [if_pos h1,if_pos ⟨rfl,rfl,h1⟩];rfl
 ·rw [if_neg h1,if_neg (fun e=>h1 e.2.2)]
theorem Ak6 {n:Dt} {w:Bs} {l:List Int} (h:1 < l.length) (h2:¬(w=M0∧l.length=2)):Jf n w l=none:=by
 unfold Jf
 split
 ·rw [if_neg (fun e=>by omega),if_neg (fun e=>by omega),if_neg (fun e=>h2 ⟨e.1,e.2.1⟩)]
 ·rfl
theorem Asm (x:C7) (w:ByteArray) (k:Int) (v:Value) (F FT:List Nat) (hg:Aw x.As=true):Fn prog 89 [v,.string w,.int .i64 k] [.isv Hj v x F,Gc FT] [] (fun (_:Unit)=>True) (fun _=>.string ((Jf x.As w.data.toList [k]).getD ⟨#[63]⟩)) (fun _=>[]):=by
 refine enter func89 rfl ntmps89 fun w0=>?_;refine Dh ?_;rintro a1 c1 F1 a2 c2 F2 a3 c3 F3 a4 c4 F4 a5 c5 F5 a6 c6 F6 a7 c7 F7 rfl s1 s2 l1 l2 l3 l4 l5 l6 l7;refine Kq x.As.Al (a1:=a1) ?_;obtain ⟨e1,e2,e3,e4⟩:=Hw hg;obtain ⟨q2,q8,qn,qu,qe,qt⟩:=Oo hg;have hG:=Ay.1 hg;obtain ⟨-,qr, -, -⟩:=Bk.1 hG.l;refine go ?_;intros;refine ce (fun w s=>Iq _ _ _ _) ?_;rw [show (x.As.Ac.length:Int)=(x.As.Al.Ad.length:Int) by rw [qr]];cases hb:Eu 1 k ((x.As.Al.Ad.length:Int) - 1)
 ·rw [Ahe (l:=[k]) hb];exact AB
 have hb0:=hb;unfold Eu at hb0;simp only [Bool.and_eq_true,decide_eq_true_eq] at hb0;rw [Aq6 hb];obtain ⟨i,rfl⟩:∃i:Nat,k=(i:Int):=⟨k.toNat,GJ⟩;have h5:i < x.As.Ac.length:=by omega
 have er:Pl x.As ((i:Int)).toNat=x.As.Ac[i]:=by rw [Int.toNat_natCast];exact Gh h5
 rw [er];have hR:=D9.1 (e2 _ (List.getElem_mem h5));refine go ?_;intros;refine cf (Nt x.As.Al (i:Int) _ F1 (Gn hG.t) GJ) fun _ _=>?_;refine Ar ?_;have hLN:Se x.As (i:Int)=Ed x.As.Al.Ad (i:Int):=rfl;cases hlf:Ed x.As.Al.Ad (i:Int)
 ·rw [if_neg (fun e=>by rw [hLN,hlf] at e;cases e.2),if_neg (fun e=>by rw [hLN,hlf] at e;cases e.2.1)];exact AB
 rw [hLN,hlf];refine Jt (xs:=x.As.Ac) i ?_;rintro h5b b5 o5 a9 c9 F9 a10 c10 F10 e5 l9 l10;rw [e5];refine Ee x.As.Ac[i] ?_;refine go ?_;intros;refine Be rfl (fun hw=>?_) (fun hw=>?_)
 ·rw [if_pos ⟨(Do.1 hw:w.data.toList=Agl),rfl⟩];refine go ?_;intros;refine cf (Ag6 x.As.Ac[i] _ _) fun z _=>?_;refine Ar ?_;obtain ⟨ra,rc,rF⟩:=z;dsimp only;rw [show Ep x.As.Ac[i]=(x.As.Ac[i].Am.map (·.Af),true) by unfold Ep;rw [e2 _ (List.getElem_mem h5)];rfl];dsimp only;refine A4 (E:=Bc) (xs:=x.As.Ac[i].Am.map (·.Af)) fun F8=>?_;refine go ?_;intros;have hN:∀f∈x.As.Ac[i].Am.map (·.Af),0≤f∧f≤99999:=fun f hf=>by
   obtain ⟨q,hq,rfl⟩:=List.mem_map.1 hf;have:=Bb.1 (Wu hR hq).1;omega
  have hL:(x.As.Ac[i].Am.map (·.Af)).length≤1000:=by rw [List.length_map];have:=(C9.1 hR.q).2.1;omega
  have hP:=Aib (x.As.Ac[i].Am.map (·.Af)) ra rc F8 hN hL;refine cf hP fun _ _=>?_;refine Ar ?_;exact AB
 rw [if_neg (fun e=>hw (Do.2 e.1))];by_cases hw2:w=⟨#[115,108,111,116,115]⟩
 ·have hw3:w.data.toList=Agn:=Do.1 hw2;refine go ?_;intros;rw [show decide (w=⟨#[115,108,111,116,115]⟩)=true from decide_eq_true hw2];cases hst:x.As.Ac[i].Bd
  ·rw [if_neg (fun e=>by cases e.2.2)];exact AB
  rw [if_pos ⟨hw3,rfl,rfl⟩];refine Ci x.As.Ac[i].Ab (a1:=a9) ?_;refine go ?_;intros;refine cf (Ar6 x.As.Ac[i].Ab _ F9 FT hR.w) fun _ _=>?_;refine Ar ?_;exact AB
 ·rw [if_neg (fun e=>hw2 (Do.2 e.1))];refine go ?_;intros;rw [show decide (w=⟨#[115,108,111,116,115]⟩)=false from decide_eq_false hw2];exact AB
theorem Aoi (x:C7) (p q:Int) (v:Value) (F:List Nat) (hg:Aw x.As=true):Fn prog 48 [v,.int .i64 p,.int .i64 q] [.isv Hj v x F] [] (fun (_:Unit)=>True) (fun _=>.string ((Jf x.As M0 [p,q]).getD ⟨#[63]⟩)) (fun _=>[]):=by
 refine enter func48 rfl ntmps48 fun w0=>?_;refine Dh ?_;rintro a1 c1 F1 a2 c2 F2 a3 c3 F3 a4 c4 F4 a5 c5 F5 a6 c6 F6 a7 c7 F7 rfl s1 s2 l1 l2 l3 l4 l5 l6 l7;refine Kq x.As.Al (a1:=a1) ?_;obtain ⟨e1,e2,e3,e4⟩:=Hw hg;obtain ⟨q2,q8,qn,qu,qe,qt⟩:=Oo hg;have hG:=Ay.1 hg;obtain ⟨-,qr, -, -⟩:=Bk.1 hG.l;refine go ?_;intros;refine ce (fun w s=>Iq _ _ _ _) ?_;rw [show (x.As.Ae.length:Int)=(x.As.Al.Ad.length:Int) by rw [qe]];cases hb:Eu 1 p ((x.As.Al.Ad.length:Int) - 1)
 ·rw [Ahe (l:=[p,q]) hb];exact AB
 have hb0:=hb;unfold Eu at hb0;simp only [Bool.and_eq_true,decide_eq_true_eq] at hb0;rw [Aq7 hb];obtain ⟨i,rfl⟩:∃i:Nat,p=(i:Int):=⟨p.toNat,GJ⟩;have hie:i < x.As.Ae.length:=by omega
 have er:O9 x.As ((i:Int)).toNat=x.As.Ae[i]:=by rw [Int.toNat_natCast];exact I5 hie
 rw [er];refine go ?_;intros;refine cf (Nt x.As.Al (i:Int) _ F1 (Gn hG.t) GJ) fun _ _=>?_;refine Ar ?_;have hLN:Se x.As (i:Int)=Ed x.As.Al.Ad (i:Int):=rfl;cases hlf:Ed x.As.Al.Ad (i:Int)
 rotate_left
 ·rw [hLN,hlf,if_neg GM];exact AB
 rw [hLN,hlf,if_pos rfl];have hgE:=e1 _ (List.getElem_mem hie);have hfn:=Ahr hgE q;refine Pr (xs:=x.As.Ae) i ?_;rintro h5b b5 o5 a9 c9 F9 e5 l9;rw [e5];refine Mg x.As.Ae[i] ?_;refine go ?_;intros;refine cf (Af8 x.As.Ae[i] q _ _) fun z _=>?_;refine Ar ?_;obtain ⟨fa,fc,fF⟩:=z;dsimp only;cases hs:B9 q
 ·rw [show E8 x.As.Ae[i] q=([],false) by unfold E8;rw [hs,Bool.and_false];rfl];exact AB
 rw [show E8 x.As.Ae[i] q=(Kl x.As.Ae[i] q,true) by unfold E8;rw [hs,hgE];rfl] at hfn ⊢;dsimp only at hfn ⊢;refine A4 (E:=Bc) (xs:=Kl x.As.Ae[i] q) fun F8=>?_;refine go ?_;intros;have hP:=Aib (Kl x.As.Ae[i] q) fa fc F8 hfn.1 hfn.2;refine cf hP fun _ _=>?_;refine Ar ?_;exact AB
theorem Asn (x:C7) (w:ByteArray) (k:Int) (v:Value) (F FT:List Nat) (hg:Aw x.As=true):Fn prog 47 [v,.string w,.int .i64 k] [.isv Hj v x F,Gc FT] [] (fun (_:Vi)=>True) (fun u=>.tuple #[.agg u.cs.toArray,.string (rsC x (Vq x.As w.data.toList k)).2]) (fun u=>[.isv Hj (.agg u.cs.toArray) (rsC x (Vq x.As w.data.toList k)).1 u.F]):=by
 refine enter func47 rfl ntmps47 fun w0=>?_;refine Dh ?_;rintro a1 c1 F1 a2 c2 F2 a3 c3 F3 a4 c4 F4 a5 c5 F5 a6 c6 F6 a7 c7 F7 rfl s1 s2 l1 l2 l3 l4 l5 l6 l7;refine Jm x.As (a1:=a1) (a2:=a2) (a3:=a3) (a4:=a4) (a5:=a5) (a6:=a6) (a7:=a7) ?_;refine go ?_;intros;refine Be rfl (fun h1=>?_) (fun h1=>?_)
 ·rw [show Vq x.As w.data.toList k=Jo x.As ⟨2,k,⟨#[]⟩⟩ by rw [(Do.1 h1:w.data.toList=_)];rfl];have hP:=fun v F=>Pw x ⟨2,k,⟨#[]⟩⟩ true v F FT hg (Nat.zero_le _) (by show _=decide ((2:Int)=2∨(2:Int)=4);decide);generalize rsC x (Jo x.As ⟨2,k,⟨#[]⟩⟩)=R at hP ⊢;refine go ?_;intros;refine cf (hP _ _) fun u _=>?_;refine Ar ?_;refine Dh (x:=R.1) ?_;rintro f1 t1 G1 f2 t2 G2 f3 t3 G3 f4 t4 G4 f5 t5 G5 f6 t6 G6 f7 t7 G7 ez s3 s4 - - - - - - -;rw [ez];refine go ?_;intros
  exact AZ
 refine go ?_;intros;refine Be rfl (fun h2=>?_) (fun h2=>?_)
 ·rw [show Vq x.As w.data.toList k=Jo x.As ⟨5,k,⟨#[]⟩⟩ by rw [(Do.1 h2:w.data.toList=_)];rfl];have hP:=fun v F=>Pw x ⟨5,k,⟨#[]⟩⟩ false v F FT hg (Nat.zero_le _) (by show _=decide ((5:Int)=2∨(5:Int)=4);decide);generalize rsC x (Jo x.As ⟨5,k,⟨#[]⟩⟩)=R at hP ⊢;refine go ?_;intros;refine cf (hP _ _) fun u _=>?_;refine Ar ?_;refine Dh (x:=R.1) ?_;rintro f1 t1 G1 f2 t2 G2 f3 t3 G3 f4 t4 G4 f5 t5 G5 f6 t6 G6 f7 t7 G7 ez s3 s4 - - - - - - -;rw [ez];refine go ?_;intros
  exact AZ
 refine go ?_;intros;refine Be rfl (fun h3=>?_) (fun h3=>?_)
 ·rw [show Vq x.As w.data.toList k=Jo x.As ⟨3,k,⟨#[]⟩⟩ by rw [(Do.1 h3:w.data.toList=_)];rfl];have hP:=fun v F=>Pw x ⟨3,k,⟨#[]⟩⟩ false v F FT hg (Nat.zero_le _) (by show _=decide ((3:Int)=2∨(3:Int)=4);decide);generalize rsC x (Jo x.As ⟨3,k,⟨#[]⟩⟩)=R at hP ⊢;refine go ?_;intros;refine cf (hP _ _) fun u _=>?_;refine Ar ?_;refine Dh (x:=R.1) ?_;rintro f1 t1 G1 f2 t2 G2 f3 t3 G3 f4 t4 G4 f5 t5 G5 f6 t6 G6 f7 t7 G7 ez s3 s4 - - - - - - -;rw [ez];refine go ?_;intros
  exact AZ
 refine go ?_;intros;refine Be rfl (fun h4=>?_) (fun h4=>?_)
 ·rw [show Vq x.As w.data.toList k=Jo x.As ⟨6,k,⟨#[]⟩⟩ by rw [(Do.1 h4:w.data.toList=_)];rfl];have hP:=fun v F=>Pw x ⟨6,k,⟨#[]⟩⟩ false v F FT hg (Nat.zero_le _) (by show _=decide ((6:Int)=2∨(6:Int)=4);decide);generalize rsC x (Jo x.As ⟨6,k,⟨#[]⟩⟩)=R at hP ⊢;refine go ?_;intros;refine cf (hP _ _) fun u _=>?_;refine Ar ?_;refine Dh (x:=R.1) ?_;rintro f1 t1 G1 f2 t2 G2 f3 t3 G3 f4 t4 G4 f5 t5 G5 f6 t6 G6 f7 t7 G7 ez s3 s4 - - - - - - -;rw [ez];refine go ?_;intros
  exact AZ
 have eN:Vq x.As w.data.toList k=Pk x.As (Jf x.As w.data.toList [k]):=by
  unfold Vq Pn;rw [if_neg (show ¬w.data.toList=Ana from fun e=>h1 (Do.2 e)),if_neg (show ¬w.data.toList=wUp from fun e=>h2 (Do.2 e)),if_neg (show ¬w.data.toList=Anb from fun e=>h3 (Do.2 e)),if_neg (show ¬w.data.toList=Ax5 from fun e=>h4 (Do.2 e))];rfl
 rw [eN,Af2];refine M7 ?_;intros;refine At [1] [] ?_;refine Dk 0 1 2 3 ?_;refine dN 4 ?_;refine oC ?_;refine cf (Asm x w k _ _ FT hg) fun _ _=>?_;refine Ar ?_;refine dk ?_;refine dN 5 ?_;refine oS ?_;refine dk ?_;refine dt 6 ?_;refine dd ?_;refine go ?_;intros
 exact AA
theorem Aj5 {n:Dt} {line:ByteArray} {ws:List ByteArray} (hW:Zd ws=Fc line) (h0:1 < ws.length):Oa n line=match Ii (Zd ws) with
  | some s=>Jo n s
  | none=>if Qq (ws.drop 1) then Pk n (Jf n (ws[0]).data.toList (Jl (ws.drop 1))) else none:=by
 have hl:(Zd ws).length=ws.length:=by unfold Zd;rw [List.length_map]
 have hd:¬line.data.toList=Ve:=fun e=>by
  have h2:Fc line=[Ve]:=by unfold Fc;rw [e];rfl
  rw [←hW] at h2;rw [h2] at hl;simp at hl;omega
 have hdr:((Zd ws).drop 1).map bz=ws.drop 1:=by
  unfold Zd;rw [←List.map_drop,List.map_map];exact (List.map_congr_left fun x _=>V8 x).trans (List.map_id _)
 unfold Oa;rw [←hW];cases Ii (Zd ws) with
 | some s=>rfl
 | none =>
  dsimp only;rw [if_neg hd,if_neg GJ,hdr,show atW (Zd ws) 0=(ws[0]).data.toList from Q6 GJ]
theorem Aw3 {n:Dt} {line:ByteArray} {ws:List ByteArray} (hW:Zd ws=Fc line) (h1:1 < ws.length) (h:(ws[0]'GJ)=⟨#[115,101,110,100]⟩) (hn:ws.length=2) (he:¬ws[1]=⟨#[]⟩):Oa n line=Jo n ⟨1,0,ws[1]⟩:=by
 rw [Aj5 hW h1,Ac9 h1 h hn he]
theorem Aw1 {n:Dt} {line:ByteArray} {ws:List ByteArray} (hW:Zd ws=Fc line) (h:3 < ws.length):Oa n line=none:=by
 rw [Aj5 hW GJ,Wz GJ (fun _ e=>by omega) GJ];dsimp only
 split
 ·rw [Ak6 (by unfold Jl;rw [List.length_map,List.length_drop];omega) (fun e=>by have:=e.2;unfold Jl at this;rw [List.length_map,List.length_drop] at this;omega)];rfl
 ·rfl
theorem Aqn {n:Dt} {line:ByteArray} {ws:List ByteArray} (hW:Zd ws=Fc line) (h1:1 < ws.length) (hn:ws.length=2) (hs:¬((ws[0]'GJ)=⟨#[115,101,110,100]⟩∧¬ws[1]=⟨#[]⟩)):Oa n line=if (Cc ws[1]).2=true then Vq n (ws[0]'GJ).data.toList (Cc ws[1]).1 else none:=by
 rw [Aj5 hW h1,Aix h1 hn hs]
 match ws,hn with
 | [a,b],_ =>
  show (match (if Pn a.data.toList≠0∧(Cc b).2=true then some (⟨Pn a.data.toList,(Cc b).1,⟨#[]⟩⟩:Jp) else none) with
   | some s=>Jo n s
   | none=>if Qq [b] then Pk n (Jf n a.data.toList (Jl [b])) else none)=if (Cc b).2=true then Vq n a.data.toList (Cc b).1 else none
  have ho:Qq [b]=(Cc b).2:=by unfold Qq;simp
  have hv:Jl [b]=[(Cc b).1]:=rfl;rw [ho,hv];unfold Vq;by_cases hk:Pn a.data.toList≠0
  ·cases hp:(Cc b).2
   ·rw [if_neg (fun e=>by cases e.2)];rfl
   ·rw [if_pos ⟨hk,rfl⟩,if_pos hk];rfl
  ·rw [if_neg (fun e=>hk e.1),if_neg hk]
theorem Ait {n:Dt} {line:ByteArray} {ws:List ByteArray} (hW:Zd ws=Fc line) (h1:1 < ws.length) (h2:2 < ws.length) (hn:ws.length=3):Oa n line=if (Cc ws[1]).2=true∧(Cc ws[2]).2=true∧(ws[0]'GJ).data.toList=M0 then Pk n (Jf n M0 [(Cc ws[1]).1,(Cc ws[2]).1]) else none:=by
 rw [Aj5 hW h1,Wz GJ (fun _ e=>by omega) GJ]
 match ws,hn with
 | [a,b,c],_ =>
  show (if Qq [b,c] then Pk n (Jf n a.data.toList (Jl [b,c])) else none)=if (Cc b).2=true∧(Cc c).2=true∧a.data.toList=M0 then Pk n (Jf n M0 [(Cc b).1,(Cc c).1]) else none
  have ho:Qq [b,c]=((Cc b).2 && (Cc c).2):=by unfold Qq;simp
  have hv:Jl [b,c]=[(Cc b).1,(Cc c).1]:=rfl;rw [ho,hv];by_cases hf:a.data.toList=M0
  ·rw [hf];cases (Cc b).2
   ·rw [if_neg (show ¬(false=true∧(Cc c).2=true∧M0=M0) from fun e=>by cases e.1)];rfl
   cases (Cc c).2
   ·rw [if_neg (show ¬(true=true∧false=true∧M0=M0) from fun e=>by cases e.2.1)];rfl
   rw [if_pos (show true=true∧true=true∧M0=M0 from ⟨rfl,rfl,rfl⟩)];rfl
  ·rw [if_neg (show ¬((Cc b).2=true∧(Cc c).2=true∧a.data.toList=M0) from fun e=>hf e.2.2),Ak6 GL (fun e=>hf e.1)];cases (Cc b).2 <;> cases (Cc c).2 <;> rfl
theorem Wx (s:ByteArray) (hs:s.size≤1000000000):Fn prog 46 [.string s] [] [] (fun (_:Unit)=>True) (fun _=>.tuple #[.int .i64 (Cc s).1,.bool (Cc s).2]) (fun _=>[]):=by
 refine enter func46 rfl ntmps46 fun w0=>?_;refine go ?_;intros;refine cf (Avu s hs) fun _ _=>?_;refine Ar ?_;exact AB
theorem Avx (x:C7) (line:ByteArray) (v:Value) (F FT:List Nat) (hg:Aw x.As=true) (hl:line.size≤900):Fn prog 26 [v,.string line] [.isv Hj v x F,Gc FT] [] (fun (_:Vi)=>True) (fun u=>.tuple #[.agg u.cs.toArray,.string (rsC x (Oa x.As line)).2]) (fun u=>[.isv Hj (.agg u.cs.toArray) (rsC x (Oa x.As line)).1 u.F]):=by
 obtain ⟨hw0,hwl,hws⟩:=Ai6 line;refine enter func26 rfl ntmps26 fun w0=>?_;refine Dh ?_;rintro a1 c1 F1 a2 c2 F2 a3 c3 F3 a4 c4 F4 a5 c5 F5 a6 c6 F6 a7 c7 F7 rfl s1 s2 l1 l2 l3 l4 l5 l6 l7;refine Jm x.As (a1:=a1) (a2:=a2) (a3:=a3) (a4:=a4) (a5:=a5) (a6:=a6) (a7:=a7) ?_;refine go ?_;intros;refine cf (Asi line 32 GJ) fun q _=>?_;refine Ar ?_;obtain ⟨qa,qc,qF⟩:=q;dsimp only;rw [show (Cv 32 line.data.toList).map bz=Tl line from rfl];generalize hwd:Tl line=ws at *;have hWL:Zd ws=Fc line:=by rw [←hwd];exact Ai7 line
 refine A4 (E:=A8) (xs:=ws) fun F8=>?_;refine go ?_;intros;refine Be rfl (fun h1=>?_) (fun h1=>?_)
 ·have hr:=Aw4 (n:=x.As) (line:=line) (by rw [←hWL];unfold Zd;rw [List.length_map];omega);rw [hr];have hP:=fun v F=>Aso x line v F FT hg;generalize rsC x (Ui x.As line)=R at hP ⊢;refine go ?_;intros;refine cf (hP _ _) fun u _=>?_;refine Ar ?_;refine Dh (x:=R.1) ?_;rintro f1 t1 G1 f2 t2 G2 f3 t3 G3 f4 t4 G4 f5 t5 G5 f6 t6 G6 f7 t7 G7 ez s3 s4 - - - - - - -;rw [ez];refine go ?_;intros;refine Du R.1 s3 s4 (a1:=f1) (c1:=t1) (a2:=f2) (c2:=t2) (a3:=f3) (c3:=t3) (a4:=f4) (c4:=t4) (a5:=f5) (c5:=t5) (a6:=f6) (c6:=t6) (a7:=f7) (c7:=t7) ?_
  exact AC
 have hi1:1 < ws.length:=by omega
 have hs1:=hws _ (List.getElem_mem hi1);refine M9 (xs:=ws) 0 ?_;rintro hi0 b0 o0 rfl s0;refine M9 (xs:=ws) 1 ?_;rintro - b1 o1 e9 s9;cases e9;apply Sx;refine Eg [2,4,5,6,7] [0,1,2,3,4,5,6,7,8,9,10,11,12,13,14] (fun b:Bool=>[(24,.bool b)]) (fun _=>[]) (fun b=>b=decide (ws[0]=⟨#[115,101,110,100]⟩∧ws.length=2∧¬ws[1]=⟨#[]⟩)) ?_ fun b hb9=>?_
 ·by_cases hs:ws[0]=⟨#[115,101,110,100]⟩
  ·refine go ?_;intros;rw [show decide (ws[0]=⟨#[115,101,110,100]⟩)=true from decide_eq_true hs];refine go ?_;intros;by_cases hn:ws.length=2
   ·rw [show decide ((ws.length:Int)=2)=true from decide_eq_true GJ];refine go ?_;intros;refine Bw (decide (¬ws[1]=⟨#[]⟩)) ?_;simp [hs,hn]
   ·rw [show decide ((ws.length:Int)=2)=false from decide_eq_false GJ];exact FG
  ·refine go ?_;intros;rw [show decide (ws[0]=⟨#[115,101,110,100]⟩)=false from decide_eq_false hs];refine go ?_;intros;refine Bw false ?_;simp [hs]
 subst hb9;by_cases hc:ws[0]=⟨#[115,101,110,100]⟩∧ws.length=2∧¬ws[1]=⟨#[]⟩
 ·rw [decide_eq_true hc];rw [Aw3 hWL hi1 hc.1 hc.2.1 hc.2.2];have hP:=fun v F=>Pw x ⟨1,0,ws[1]⟩ false v F FT hg (show (ws[1]).size≤maxLen by unfold maxLen;omega) (by show _=decide ((1:Int)=2∨(1:Int)=4);decide);generalize rsC x (Jo x.As ⟨1,0,ws[1]⟩)=R at hP ⊢;refine M7 ?_;intros;refine At [0,4] [] ?_;refine Dk 0 1 2 3 ?_;refine dt 4 ?_;refine dN 5 ?_;refine oC ?_;refine cf (hP _ _) fun u _=>?_;refine Ar ?_;refine Dh (x:=R.1) ?_;rintro f1 t1 G1 f2 t2 G2 f3 t3 G3 f4 t4 G4 f5 t5 G5 f6 t6 G6 f7 t7 G7 ez s3 s4 - - - - - - -;rw [ez];refine dk ?_;refine Dy 6 7 ?_;refine dN 8 ?_;refine oS ?_
  refine dk ?_;refine dt 9 ?_;refine dd ?_;refine go ?_;intros;refine Du R.1 s3 s4 (a1:=f1) (c1:=t1) (a2:=f2) (c2:=t2) (a3:=f3) (c3:=t3) (a4:=f4) (c4:=t4) (a5:=f5) (c5:=t5) (a6:=f6) (c6:=t6) (a7:=f7) (c7:=t7) ?_
  exact AC
 rw [decide_eq_false hc];refine go ?_;intros;refine Be rfl (fun h3=>?_) (fun h3=>?_)
 ·rw [Aw1 hWL GJ];exact EG
 refine go ?_;intros;refine cf (Wx ws[1] GJ) fun _ _=>?_;refine Ar ?_;cases hp:(Cc ws[1]).2
 ·have hr:Oa x.As line=none:=by
   by_cases hn:ws.length=2
   ·rw [Aqn hWL hi1 hn (fun e=>hc ⟨e.1,hn,e.2⟩),hp];rfl
   ·rw [Ait hWL hi1 GJ GJ,hp,if_neg (fun e=>by cases e.1)]
  rw [hr];exact EG
 refine go ?_;intros;refine Be rfl (fun h2=>?_) (fun h2=>?_)
 ·have hn:ws.length=2:=by omega
  rw [Aqn hWL hi1 hn (fun e=>hc ⟨e.1,hn,e.2⟩),hp,if_pos rfl];have hP:=fun v F=>Asn x ws[0] (Cc ws[1]).1 v F FT hg;generalize rsC x (Vq x.As (ws[0]).data.toList (Cc ws[1]).1)=R at hP ⊢;refine M7 ?_;intros;refine At [1,4] [] ?_;refine Dk 0 1 2 3 ?_;refine dt 4 ?_;refine dN 5 ?_;refine oC ?_;refine cf (hP _ _) fun u _=>?_;refine Ar ?_;refine Dh (x:=R.1) ?_;rintro f1 t1 G1 f2 t2 G2 f3 t3 G3 f4 t4 G4 f5 t5 G5 f6 t6 G6 f7 t7 G7 ez s3 s4 - - - - - - -;rw [ez];refine dk ?_;refine Dy 6 7 ?_;refine dN 8 ?_;refine oS ?_;refine dk ?_;refine dt 9 ?_;refine dd ?_;refine go ?_;intros
  exact AZ
 have hn:ws.length=3:=by omega
 have hi2:2 < ws.length:=by omega
 have hs2:=hws _ (List.getElem_mem hi2);rw [Ait hWL hi1 hi2 hn,hp];refine M9 (xs:=ws) 2 ?_;rintro - b2 o2 e9 s8;cases e9;refine go ?_;intros;refine cf (Wx ws[2] GJ) fun _ _=>?_;refine Ar ?_;cases hp2:(Cc ws[2]).2
 ·rw [if_neg (fun e=>by cases e.2.1)];exact EG
 by_cases hf:ws[0]=⟨#[102,97,99,101,115]⟩
 ·rw [if_pos ⟨rfl,rfl,(Do.1 hf:(ws[0]).data.toList=M0)⟩,Af2];refine go ?_;intros;rw [show decide (¬ws[0]=⟨#[102,97,99,101,115]⟩)=false from decide_eq_false (fun h=>h hf)];refine M7 ?_;intros;refine At [5] [] ?_;refine Dk 0 1 2 3 ?_;refine dN 4 ?_;refine oC ?_;refine cf (Aoi x (Cc ws[1]).1 (Cc ws[2]).1 _ _ hg) fun _ _=>?_;refine Ar ?_;refine dk ?_;refine dN 5 ?_;refine oS ?_;refine dk ?_;refine dt 6 ?_;refine dd ?_;refine go ?_;intros
  exact AA
 ·rw [if_neg (fun e=>hf (Do.2 e.2.2))];refine go ?_;intros;rw [show decide (¬ws[0]=⟨#[102,97,99,101,115]⟩)=true from decide_eq_true hf];exact EG
theorem Bac {x:C7} {line:ByteArray}:rsC x (Oa x.As line)=(⟨E7 x.As line,x.Eb⟩,Of x.As line):=by
 unfold rsC E7 Of;cases Oa x.As line <;> rfl
theorem Ati (l:Log) (line E6:ByteArray) (w:World) (hv:H2 l.Bh.data.toList l.pending.data.toList l.count=true) (hc:¬l.count=60) (hr:Lg.Bz line E6=true) (hz:l.Bh.size+l.pending.size≤30000) (h1:line.size≤160) (h2:E6.size≤200) :
  Calls prog 27 #[.agg #[.string l.Bh,.string l.pending,.int .i64 l.count],.agg #[.string line,.string E6]] w fun e w'=>e=.returned (.tuple #[.agg #[.string (Pg l line E6).Bh,.string (Pg l line E6).pending,.int .i64 (Pg l line E6).count],.int .i64 0])∧Below w.heap.size w w':=by
 have hcn:=Lg.Add hv;obtain ⟨k,hk⟩:∃k:Nat,l.count=k:=⟨l.count.toNat,GJ⟩;have h:=(Atj l.Bh l.pending line E6 k (by rw [←hk];exact hv) GJ hr hz h1 h2).val w nofun;rw [←hk] at h;unfold Pg;rw [show k=l.count.toNat by omega] at h;exact h
theorem Ww (x:C7) (line:ByteArray) (v:Value) (F FT:List Nat) (hs:Aei x.As) (hz:x.Eb.Bh.size+x.Eb.pending.size≤1048576) (hl:line.size≤maxLen):Fn prog 15 [v,.string line] [.isv Hj v x F,Gc FT] [] (fun (_:Vi)=>True) (fun u=>.tuple #[.agg u.cs.toArray,.string (Lf x line).2]) (fun u=>[.isv Hj (.agg u.cs.toArray) (Lf x line).1 u.F]):=by
 refine enter func15 rfl ntmps15 fun w0=>?_;refine Dh ?_;rintro a1 c1 F1 a2 c2 F2 a3 c3 F3 a4 c4 F4 a5 c5 F5 a6 c6 F6 a7 c7 F7 rfl s1 s2 l1 l2 l3 l4 l5 l6 l7;refine Jm x.As (a1:=a1) (a2:=a2) (a3:=a3) (a4:=a4) (a5:=a5) (a6:=a6) (a7:=a7) ?_;refine go ?_;intros;refine cf (Alv x _ F hs) fun u0 _=>?_;refine Ar ?_;refine Dh (x:=x) ?_;rintro f1 t1 G1 f2 t2 G2 f3 t3 G3 f4 t4 G4 f5 t5 G5 f6 t6 G6 f7 t7 G7 ez - - - - - - - - -;rw [ez];refine go ?_;intros;refine cf (Asl x _ F hz) fun _ _=>?_;refine Ar ?_;unfold Lf;cases hg:I0 x
 ·rw [if_neg GM];exact AF
 rw [if_pos rfl];have hgn:Aw x.As=true:=by unfold I0 at hg;rw [Bool.and_eq_true] at hg;exact hg.1
 have hgl:H2 x.Eb.Bh.data.toList x.Eb.pending.data.toList x.Eb.count=true:=by unfold I0 at hg;rw [Bool.and_eq_true] at hg;exact hg.2
 have hsz:=Adv hg;refine go ?_;intros;refine cb (fun w st=>Lg.Xj line ⟨#[]⟩ w hl (Nat.zero_le _)) ?_;rw [show Lg.Bz line ⟨#[]⟩=Tf line from rfl];cases h1:Tf line
 ·have e:Q7 x line=(x,bz Bc2):=by unfold Q7;rw [h1];rfl
  rw [e];exact AF
 refine go ?_;intros;refine Be rfl (fun h2=>?_) (fun h2=>?_)
 ·have e:Q7 x line=(x,bz Ax6):=by unfold Q7;rw [h1,if_pos rfl,if_pos h2]
  rw [e];exact AF
 have hlz:line.size≤160:=by
  have h:=h1;unfold Tf Lg.Bz Eu at h;simp only [Bool.and_eq_true,decide_eq_true_eq] at h;have:=h.1.1.1.1.2;omega
 rw [An1 ⟨h1,h2⟩];have ht:=Ant (Ao0 (line:=line) hgn);have hgr:=Yx h1 ht.1 ht.2;have hgm:=Ais (line:=line) hgn;refine Du x s1 s2 (a1:=f1) (c1:=t1) (a2:=f2) (c2:=t2) (a3:=f3) (c3:=t3) (a4:=f4) (c4:=t4) (a5:=f5) (c5:=t5) (a6:=f6) (c6:=t6) (a7:=f7) (c7:=t7) ?_;refine go ?_;intros;refine cf (Avx x line _ _ FT hgn GJ) fun u _=>?_;refine Ar ?_;rw [Bac];dsimp only;refine Dh (x:=(⟨E7 x.As line,x.Eb⟩:C7)) ?_;rintro g1 u1 K1 g2 u2 K2 g3 u3 K3 g4 u4 K4 g5 u5 K5 g6 u6 K6 g7 u7 K7 ez - - - - - - - - -;rw [ez];refine go ?_;intros;refine cf (Alv ⟨E7 x.As line,x.Eb⟩ _ _ (Ti hgm)) fun u1 _=>?_
 refine Ar ?_;refine Dh (x:=(⟨E7 x.As line,x.Eb⟩:C7)) ?_;rintro b1 d1 L1 b2 d2 L2 b3 d3 L3 b4 d4 L4 b5 d5 L5 b6 d6 L6 b7 d7 L7 ez - - - - - - - - -;rw [ez];refine go ?_;intros;refine Eg [1,2,4,5,6] [0,1,2,3,4,5,6,18,27,28,37,38] (fun _:Unit=>[(8,.string (Pt (Of x.As line)))]) (fun _=>[]) (fun _=>True) ?_ fun _ _=>?_
 ·refine Be rfl (fun h5=>?_) (fun h5=>?_)
  ·have e:Pt (Of x.As line)=bz Ax7:=by unfold Pt;rw [if_pos GJ]
   rw [e];exact BV
  ·have e:Pt (Of x.As line)=Of x.As line:=by unfold Pt;rw [if_neg GJ]
   rw [e];exact BV
 refine go ?_;intros;refine cb (fun w st=>Ati x.Eb line (Pt (Of x.As line)) w hgl h2 hgr hsz hlz ht.2) ?_;have hcg:=Adv (Ae0 (line:=line) hg);rw [An1 ⟨h1,h2⟩] at hcg;dsimp only at hcg;refine go ?_;intros;refine Du (⟨E7 x.As line,Pg x.Eb line (Pt (Of x.As line))⟩:C7) (show (Pg x.Eb line (Pt (Of x.As line))).Bh.size≤maxLen by unfold maxLen;omega) (show (Pg x.Eb line (Pt (Of x.As line))).pending.size≤maxLen by unfold maxLen;omega) (a1:=b1) (c1:=d1) (a2:=b2) (c2:=d2) (a3:=b3) (c3:=d3) (a4:=b4) (c4:=d4) (a5:=b5) (c5:=d5) (a6:=b6) (c6:=d6) (a7:=b7) (c7:=d7) ?_
 refine ret (⟨[.slice b1 (E7 x.As line).Al.Ad.length d1,.int .i64 (E7 x.As line).Aa.Ab.Ao,.int .i64 (E7 x.As line).Aa.Ab.size,.slice b2 (E7 x.As line).Aa.Ab.Ak.length d2,.int .i64 (E7 x.As line).Aa.Ai,.int .i64 (E7 x.As line).Aa.quiet,.slice b3 (E7 x.As line).Aa.holds.length d3,.slice b4 (E7 x.As line).Ae.length d4,.slice b5 (E7 x.As line).Ac.length d5,.slice b6 (E7 x.As line).down.length d6,.slice b7 (E7 x.As line).up.length d7,.string (Pg x.Eb line (Pt (Of x.As line))).Bh,.string (Pg x.Eb line (Pt (Of x.As line))).pending,.int .i64 (Pg x.Eb line (Pt (Of x.As line))).count],_⟩:Vi) trivial rfl
structure RsS where
 k:Nat
 z:NL
 F:List Nat
 a:Option Addr
 c:Nat
 Fa:List Nat
theorem Arh {c:C7} {l:ByteArray} (hg:I0 c=true):Lf c l=Q7 c l:=by unfold Lf;rw [hg,if_pos rfl]
theorem Alj {c:C7} (hg:I0 c=true):Aw c.As=true:=by unfold I0 at hg;rw [Bool.and_eq_true] at hg;exact hg.1
structure RpS where
 k:Nat
 x:C7
 z:NL
 F:List Nat
theorem Ac5 {c:C7} {i:Nat}:Re c [] i=i:=rfl
theorem Aai {c:C7} {e:Im} {r:List Im} {i:Nat}:Re c (e::r) i=if (Q7 c e.Eh).2=e.E6 then Re (Q7 c e.Eh).1 r (i+1) else i:=rfl
theorem Ac0 {t:Me} {f y:Int} (h:(Fg t f y).2=true):I0 (Fg t f y).1=true:=by
 unfold Fg at h ⊢;cases e:(Er t f y).2
 ·rw [e] at h;cases h
 ·rw [if_pos rfl];unfold I0;have hg:Aw (Er t f y).1=true:=by
   unfold Er at e ⊢;cases g:(Gg t && Ch ⟨⟨f,y,[]⟩,0,0,[]⟩)
   ·rw [g] at e;cases e
   ·rw [if_pos rfl];rw [Bool.and_eq_true] at g;exact Al6 g.1 g.2
  rw [hg];show (true && H2 [] [] 0)=true;decide
theorem Ajd (l:Log) (v:Value) (F FT:List Nat) (hw:Td l≤1048576):Fn prog 18 [v] [.isv Zl v l F,Gc FT] [] (fun (_:Option Addr × Nat × List Nat)=>True) (fun s=>.tuple #[.slice s.1 (Lg.Mv l).1.length s.2.1,.bool (Lg.Mv l).2]) (fun s=>[.ow Hp 60 (.slice s.1 (Lg.Mv l).1.length s.2.1) (Lg.Mv l).1 s.2.2]):=by
 unfold Td at hw;refine enter func18 rfl ntmps18 fun w0=>?_;refine U4 (v:=v) (x:=l) ?_;rintro _ rfl s1 s2;refine go ?_;intros;refine cf (Ajb l.Bh l.pending l.count FT GJ) fun _ _=>?_;refine Ar ?_;unfold Lg.Mv;cases hv:H2 l.Bh.data.toList l.pending.data.toList l.count
 ·rw [if_neg GM];refine go ?_;intros;refine Br Hp 60 ?_;refine ret (none,0,[]) trivial rfl
 rw [if_pos rfl];refine go ?_;intros;refine cf (Yb (l.Bh++l.pending) IV FT) fun z _=>?_;refine Ar ?_;rw [Lg.Hb];refine go ?_;intros;refine ret z.1 trivial rfl
theorem Az5 {l:Log}:Lg.Mv l=if Xe l then (Ug l,true) else ([],false):=rfl
theorem Akx (t:Me) (f y:Int) (l:Log) (v0 v3:Value) (F0 F3 FT:List Nat) (hw:Td l≤1048576):Fn prog 9 [v0,.int .i64 f,.int .i64 y,v3] [.isv Kt v0 t F0,.isv Zl v3 l F3,Gc FT] [] (fun (_:Unit)=>True) (fun _=>.tuple #[.int .i64 (Mj t f y l).1,.bool (Mj t f y l).2]) (fun _=>[]):=by
 refine enter func9 rfl ntmps9 fun w0=>?_;refine Lx (v:=v0) ?_;rintro a0 c0 K0 rfl l0;refine U4 (v:=v3) (x:=l) ?_;rintro _ rfl s1 s2;have hN:=fun v F=>Aje t f y v F;have hgood:=Ac0 (t:=t) (f:=f) (y:=y);unfold Mj;generalize Fg t f y=R at hN hgood ⊢;refine go ?_;intros;refine cf (hN _ _) fun s _=>?_;refine Ar ?_;obtain ⟨cs,sF⟩:=s;dsimp only;refine Aac (x:=R.1) ?_;rintro f1 t1 G1 f2 t2 G2 f3 t3 G3 f4 t4 G4 f5 t5 G5 f6 t6 G6 f7 t7 G7 ez s3 s4 - - - - - - -;rw [ez];refine Np R.1.As ?_;refine go ?_;intros;rename_i g;refine cf (Ajd l _ _ FT hw) fun z _=>?_;refine Ar ?_;obtain ⟨ra,rc,rF⟩:=z;dsimp only
 rw [Az5];cases hr:R.2
 ·rw [Bool.false_and,if_neg GM];exact AB
 rw [Bool.true_and];cases hgl:Xe l
 ·rw [if_neg GM,if_neg GM];exact AB
 rw [if_pos rfl,if_pos rfl];dsimp only;have hel:(Ug l).length≤1000000:=by
  unfold Ug;rw [List.length_map];have:=(Js (l.Bh.data.toList++l.pending.data.toList)).2;omega
 generalize Ug l=es at hel ⊢;refine A4 (E:=Hp) (xs:=es) fun F8=>?_;have hg0:=hgood hr;refine go ?_;intros
 refine Ck [8,9,10,12,34,35] (fun z:RpS=>[(36,.int .i64 (z.k:Nat))]) (fun z=>[.row g 50 0 [] [.slice z.z.a1 z.x.As.Al.Ad.length z.z.c1,.int .i64 z.x.As.Aa.Ab.Ao,.int .i64 z.x.As.Aa.Ab.size,.slice z.z.a2 z.x.As.Aa.Ab.Ak.length z.z.c2,.int .i64 z.x.As.Aa.Ai,.int .i64 z.x.As.Aa.quiet,.slice z.z.a3 z.x.As.Aa.holds.length z.z.c3,.slice z.z.a4 z.x.As.Ae.length z.z.c4,.slice z.z.a5 z.x.As.Ac.length z.z.c5,.slice z.z.a6 z.x.As.down.length z.z.c6,.slice z.z.a7 z.x.As.up.length z.z.c7,.string z.x.Eb.Bh,.string z.x.Eb.pending,.int .i64 z.x.Eb.count] [],.own Zm (.agg #[.slice z.z.a1 z.x.As.Al.Ad.length z.z.c1,.int .i64 z.x.As.Aa.Ab.Ao,.int .i64 z.x.As.Aa.Ab.size,.slice z.z.a2 z.x.As.Aa.Ab.Ak.length z.z.c2,.int .i64 z.x.As.Aa.Ai,.int .i64 z.x.As.Aa.quiet,.slice z.z.a3 z.x.As.Aa.holds.length z.z.c3,.slice z.z.a4 z.x.As.Ae.length z.z.c4,.slice z.z.a5 z.x.As.Ac.length z.z.c5,.slice z.z.a6 z.x.As.down.length z.z.c6,.slice z.z.a7 z.x.As.up.length z.z.c7]) z.x.As z.F]) (fun z=>z.k≤es.length∧I0 z.x=true∧Re R.1 es 0=Re z.x (es.drop z.k) z.k) (fun z=>es.length - z.k) ⟨0,R.1,⟨f1,t1,f2,t2,f3,t3,f4,t4,f5,t5,f6,t6,f7,t7⟩,_⟩ ⟨Nat.zero_le _,hg0,rfl⟩ fun z hz=>?_
 obtain ⟨hk,hgk,hrp⟩:=hz;refine go ?_;intros;refine Be rfl (fun h1=>?_) (fun h1=>?_)
 ·have hh:z.k < es.length:=by omega
  rw [List.drop_eq_getElem_cons hh,Aai] at hrp;refine Ach (xs:=es) z.k ?_;rintro hi0 b0 o0 e0 q1 q2;cases e0;refine M7 ?_;intros;refine At [0] [] ?_;refine Dk 0 1 3 4 ?_;refine dN 2 ?_;refine oC ?_;refine cf (Ari z.x es[z.k].Eh g z.z.a1 z.z.c1 z.z.a2 z.z.c2 z.z.a3 z.z.c3 z.z.a4 z.z.c4 z.z.a5 z.z.c5 z.z.a6 z.z.c6 z.z.a7 z.z.c7 _ FT hgk q1) fun u _=>?_;refine Ar ?_;refine dk ?_;refine dt 5 ?_;refine dd ?_;refine go ?_;intros;refine Be rfl (fun h2=>?_) (fun h2=>?_)
  ·rw [if_neg h2] at hrp;refine go ?_;intros;rw [hrp];exact BD
  ·rw [if_pos (Decidable.not_not.1 h2)] at hrp;refine go ?_;intros;rw [show ((z.k:Nat):Int)+1=((z.k+1:Nat):Int) by omega];refine Cu ⟨z.k+1,(Q7 z.x es[z.k].Eh).1,⟨u.z.a1,u.z.c1,u.z.a2,u.z.c2,u.z.a3,u.z.c3,u.z.a4,u.z.c4,u.z.a5,u.z.c5,u.z.a6,u.z.c6,u.z.a7,u.z.c7⟩,u.F⟩ ⟨hh,Ae0 hgk,hrp⟩ ID
 have hk2:z.k=es.length:=by omega
 rw [show es.drop z.k=[] from List.drop_of_length_le GJ,Ac5,hk2] at hrp;refine go ?_;intros;rw [hrp];exact BD
theorem Ab3 (l:Log) (v:Value) (F:List Nat) (hw:Td l≤1048576) (hg:Xe l=true):Fn prog 14 [v] [.isv Zl v l F] [] (fun (_:Option Addr × Nat × List Nat)=>True) (fun s=>.tuple #[.slice s.1 (Ug l).length s.2.1,.bool true]) (fun s=>[.ow Hp 60 (.slice s.1 (Ug l).length s.2.1) (Ug l) s.2.2]):=by
 unfold Td at hw;refine enter func14 rfl ntmps14 fun w0=>?_;refine U4 (v:=v) (x:=l) ?_;rintro _ rfl s1 s2;refine go ?_;intros;refine cf (Z8 l.Bh l.pending l.count GJ) fun _ _=>?_;refine Ar ?_;rw [show H2 l.Bh.data.toList l.pending.data.toList l.count=true from hg];refine go ?_;intros;refine cf (Lg.Abn (l.Bh++l.pending) IV) fun z _=>?_;refine Ar ?_;rw [show (Bn (l.Bh++l.pending).data.toList).map Lg.Oz=Ug l by unfold Ug;rw [Hb]];exact BO
theorem Adq (t:Me) (f y:Int) (l:Log) (v0 v3:Value) (F0 F3 FT:List Nat) (hw:Td l≤1048576):Fn prog 6 [v0,.int .i64 f,.int .i64 y,v3] [.isv Kt v0 t F0,.isv Zl v3 l F3,Gc FT] [] (fun (_:Unit)=>True) (fun _=>.tuple #[.int .i64 (Mj t f y l).1,.bool (Mj t f y l).2]) (fun _=>[]):=by
 have hw2:=hw;unfold Td at hw2;refine enter func6 rfl ntmps6 fun w0=>?_;refine Lx (v:=v0) ?_;rintro a0 c0 K0 rfl l0;refine U4 (v:=v3) (x:=l) ?_;rintro _ rfl s1 s2;have hN:=fun v F=>Ab4 t f y v F;have hgood:=Ac0 (t:=t) (f:=f) (y:=y);unfold Mj;generalize Fg t f y=R at hN hgood ⊢;refine go ?_;intros;refine cf (hN _ _) fun s _=>?_;refine Ar ?_;obtain ⟨cs,sF⟩:=s;dsimp only;refine Aac (x:=R.1) ?_;rintro f1 t1 G1 f2 t2 G2 f3 t3 G3 f4 t4 G4 f5 t5 G5 f6 t6 G6 f7 t7 G7 ez s3 s4 - - - - - - -;rw [ez];refine N5 R.1 s3 s4 ?_;refine Xs Akj fun F9=>?_;cases hr:R.2
 ·rw [Bool.false_and,if_neg GM];exact AB
 rw [Bool.true_and];refine go ?_;intros;rename_i g;refine cf (Z8 l.Bh l.pending l.count GJ) fun _ _=>?_;refine Ar ?_;rw [show H2 l.Bh.data.toList l.pending.data.toList l.count=Xe l from rfl];cases hgl:Xe l
 ·rw [if_neg GM];exact AB
 rw [if_pos rfl];dsimp only;refine go ?_;intros;refine cf (Ab3 l _ _ hw hgl) fun z _=>?_;refine Ar ?_;obtain ⟨ra,rc,rF⟩:=z;dsimp only;have hel:(Ug l).length≤1000000:=by
  unfold Ug;rw [List.length_map];have:=(Js (l.Bh.data.toList++l.pending.data.toList)).2;omega
 generalize Ug l=es at hel ⊢;refine A4 (E:=Hp) (xs:=es) fun F8=>?_;have hg0:=hgood hr;refine go ?_;intros
 refine Ck [8,9,10,12] (fun z:RpS=>[(15,.int .i64 (z.k:Nat))]) (fun z=>[.row g 50 0 [] [.slice z.z.a1 z.x.As.Al.Ad.length z.z.c1,.int .i64 z.x.As.Aa.Ab.Ao,.int .i64 z.x.As.Aa.Ab.size,.slice z.z.a2 z.x.As.Aa.Ab.Ak.length z.z.c2,.int .i64 z.x.As.Aa.Ai,.int .i64 z.x.As.Aa.quiet,.slice z.z.a3 z.x.As.Aa.holds.length z.z.c3,.slice z.z.a4 z.x.As.Ae.length z.z.c4,.slice z.z.a5 z.x.As.Ac.length z.z.c5,.slice z.z.a6 z.x.As.down.length z.z.c6,.slice z.z.a7 z.x.As.up.length z.z.c7,.string z.x.Eb.Bh,.string z.x.Eb.pending,.int .i64 z.x.Eb.count] [],.isv Hj (.agg #[.slice z.z.a1 z.x.As.Al.Ad.length z.z.c1,.int .i64 z.x.As.Aa.Ab.Ao,.int .i64 z.x.As.Aa.Ab.size,.slice z.z.a2 z.x.As.Aa.Ab.Ak.length z.z.c2,.int .i64 z.x.As.Aa.Ai,.int .i64 z.x.As.Aa.quiet,.slice z.z.a3 z.x.As.Aa.holds.length z.z.c3,.slice z.z.a4 z.x.As.Ae.length z.z.c4,.slice z.z.a5 z.x.As.Ac.length z.z.c5,.slice z.z.a6 z.x.As.down.length z.z.c6,.slice z.z.a7 z.x.As.up.length z.z.c7,.string z.x.Eb.Bh,.string z.x.Eb.pending,.int .i64 z.x.Eb.count]) z.x z.F]) (fun z=>z.k≤es.length∧I0 z.x=true∧Re R.1 es 0=Re z.x (es.drop z.k) z.k) (fun z=>es.length - z.k) ⟨0,R.1,⟨f1,t1,f2,t2,f3,t3,f4,t4,f5,t5,f6,t6,f7,t7⟩,_⟩ ⟨Nat.zero_le _,hg0,rfl⟩ fun z hz=>?_
 obtain ⟨hk,hgk,hrp⟩:=hz;refine go ?_;intros;refine Be rfl (fun h1=>?_) (fun h1=>?_)
 ·have hh:z.k < es.length:=by omega
  rw [List.drop_eq_getElem_cons hh,Aai] at hrp;refine Ach (xs:=es) z.k ?_;rintro hi0 b0 o0 e0 q1 q2;cases e0;have hP:=fun v F=>Ww z.x es[z.k].Eh v F FT (Ti (Alj hgk)) (by have:=Adv hgk;omega) q1;rw [Arh hgk] at hP;refine M7 ?_;intros;refine At [0,1] [7,8,9,10,11] ?_;refine Dk 0 1 2 3 ?_;refine Dy 4 5 ?_;refine dN 6 ?_;refine oC ?_;refine cf (hP _ _) fun u _=>?_;refine Ar ?_;refine Dh (x:=(Q7 z.x es[z.k].Eh).1) ?_;rintro f1 t1 G1 f2 t2 G2 f3 t3 G3 f4 t4 G4 f5 t5 G5 f6 t6 G6 f7 t7 G7 ez p3 p4 - - - - - - -;rw [ez];refine dk ?_;refine dtp 7 ?_;refine dtp 8 ?_;refine dtp 9 ?_;refine dN 10 ?_
  refine oS ?_;refine Rn ?_;refine dtp 11 ?_;refine dd ?_;refine Du (Q7 z.x es[z.k].Eh).1 p3 p4 (a1:=f1) (c1:=t1) (a2:=f2) (c2:=t2) (a3:=f3) (c3:=t3) (a4:=f4) (c4:=t4) (a5:=f5) (c5:=t5) (a6:=f6) (c6:=t6) (a7:=f7) (c7:=t7) ?_;refine go ?_;intros;refine Be rfl (fun h2=>?_) (fun h2=>?_)
  ·rw [if_neg h2] at hrp;refine go ?_;intros;rw [hrp];exact BD
  ·rw [if_pos (Decidable.not_not.1 h2)] at hrp;refine go ?_;intros;rw [show ((z.k:Nat):Int)+1=((z.k+1:Nat):Int) by omega];refine Cu ⟨z.k+1,(Q7 z.x es[z.k].Eh).1,⟨f1,t1,f2,t2,f3,t3,f4,t4,f5,t5,f6,t6,f7,t7⟩,_⟩ ⟨hh,Ae0 hgk,hrp⟩ ID
 have hk2:z.k=es.length:=by omega
 rw [show es.drop z.k=[] from List.drop_of_length_le GJ,Ac5,hk2] at hrp;refine go ?_;intros;rw [hrp];exact BD
end Go.Proofs.YtkagnmekdkchiaaGreatDoor
namespace Go.Proofs.YtkagnmekdkchiaaGreatDoor
open Go.ChangeShapes Go.WideShapes Go.ChangeAt Go.RowKit
theorem Yf {H:Type} {enc:TypeId × Value→H} {P:Program} (hl:laidOutB P=true) {W W':World} (hb:Below W.heap.size W W') :
  ∀(ts:List TypeId) (vs:List Value) (ds:List (DataW H)) (ps:List MemPlace),(∀t∈ts,P.readableRec t=true∧t < P.types.size) →
   DataW.TrodAll enc P W 0 (fun _=>true) true ts vs ds ps→(∀x∈ps,x.block < W.heap.size)→DataW.TrodAll enc P W' 0 (fun b=>decide (b < W.heap.size)) true ts vs ds ps
 | [],vs,ds,ps,_,h,_=>by obtain ⟨rfl,rfl,rfl⟩:=trodAll_nil h;exact rfl
 | t::ts,vs,ds,ps,ht,h,hlt=>by
  obtain ⟨v,vs',d,ds',p,q,rfl,rfl,rfl,h1,h2⟩:=trodAll_cons h;have ⟨a,b⟩:=ht t GL;exact ⟨p,q,Below.trod hl a b h1 hb fun x hx=>hlt x IX,Yf hl hb ts vs' ds' q (fun t h=>ht t JB) h2 fun x hx=>hlt x IX,rfl⟩
theorem Avz {H:Type} {enc:TypeId × Value→H} {P:Program} {f:Func} {s:ChangeSpec} {tb:TypeId} (hl:laidOutB P=true) (hr:∀t∈f.params.toList,P.readableRec t=true∧t < P.types.size)
  (hb:P.underlying tb=some .bool) (hres:f.resultTypes = #[tb]) (hv:s.vars=[]) {W W':World} {args:Array Value} {ds gs:List (DataW H)} {before:List MemPlace}
  (hs:s.fn H ds={ results:=[.lit (.bool true)],args:=ds }) (hW:DataW.Whole enc P f.params.toList s.vars false W args.toList ds gs before) (hB:Below W.heap.size W W') :
  s.post enc P f false true false false W args (.bool true) W':=by
 have hlt:=hW.lt;have hW0:=hW;obtain ⟨p,q,hA,hV,rfl,_,_⟩:=hW0;rw [hv] at hV;obtain ⟨rfl,rfl⟩:=trodVars_none hV;refine ⟨ds,[],p++[],[],p,[],hW,?_,?_,?_,hB.frame _,fun h=>by cases h⟩
 ·rw [List.append_nil,hs,hres];exact trodAll_mk1 (shut_bool hb true)
 ·rw [List.append_nil,hs];exact Yf hl hB _ _ _ _ hr hA fun x hx=>hlt x (by simpa using hx)
 ·rw [hv,List.append_nil,hs];exact rfl
def Zo (P:Program) {α:Type} (E:Bx α) (t:TypeId):Prop :=
 ∀{H:Type} {enc:TypeId × Value→H} {w:World} {fuel:Nat} {cs:List Value} {x:DataW H × List MemPlace},DataW.trod enc P w 0 (fun _=>true) true fuel t cs=some x→∃y F,E.Lo w cs y F
section
variable {P:Program}
theorem Aio {t:TypeId} (ht:P.underlying t=some (.int .i64)):Zo P Bc t:=fun h=>by
 obtain ⟨n,rfl,_,_⟩:=DataW.trod_int ht h;exact ⟨n,[],rfl,rfl⟩
theorem Aip {t:TypeId} (ht:P.underlying t=some .string):Zo P A8 t:=fun h=>by
 obtain ⟨s,rfl,_,hs⟩:=DataW.trod_string ht h;exact ⟨s,[],rfl,hs,rfl⟩
theorem Ac3 {α:Type} {E:Bx α} {e:TypeId} (hsz:P.cellsOf e=E.sz) (he:Zo P E e) {H:Type} {enc:TypeId × Value→H} {w:World} {n b off:Nat} :
  ∀(els:List (DataW H × List MemPlace)) (k:Nat),(∀i,i < els.length→(w.cells? 0 ((⟨b,off,none⟩:Addr).add ((k+i) * P.cellsOf e)) (P.cellsOf e)).bind (DataW.trod enc P w 0 (fun _=>true) true n e)=els[i]?) →
   ∃ys F,ys.length=els.length∧N4 E w b (off+k * E.sz) ys F
 | [],_,_=>⟨[],[],rfl,rfl⟩
 | x::r,k,h=>by
  have h0:=h 0 GL;simp only [Nat.add_zero,List.getElem?_cons_zero,Option.bind_eq_some_iff] at h0;obtain ⟨cs,hc,hx⟩:=h0;obtain ⟨y,F1,hy⟩:=he hx;obtain ⟨ys,F2,hl,hys⟩:=Ac3 hsz he r (k+1) fun i hi=>by
   have:=h (i+1) IW;rw [show k+1+i=k+(i+1) by omega];exact GF
  refine ⟨y::ys,F1++F2,by simp [hl],cs,F1,F2,rfl,hy,fun j hj=>?_,by rwa [show off+k * E.sz+E.sz=off+(k+1) * E.sz by rw [Nat.add_mul];omega]⟩;obtain ⟨_,hlen,hcell⟩:=World.cells?_some hc;rw [←hcell j (by rw [hsz];exact hj)]
  congr 1
  simp only [Addr.add,hsz]
  split <;> split <;> simp_all <;> omega
theorem Amm {α:Type} {E:Bx α} {t e:TypeId} (ht:P.underlying t=some (.slice e)) (hsz:P.cellsOf e=E.sz) (hz:0 < E.sz) (he:Zo P E e):Zo P (Nn E hz) t:=fun h=>by
 rcases DataW.trod_slice ht h with ⟨rfl,_⟩|⟨a,len,cap,elems,rest,n,rfl,rfl,_,_,hlc,hcm,hlen,hel,_,_⟩
 ·exact ⟨[],[],_,rfl,none,0,rfl,⟨GL,GL⟩,.inl ⟨rfl,rfl,fun _=>rfl⟩⟩
 ·by_cases h0:len=0
  ·subst h0;exact ⟨[],[],_,rfl,some a,cap,rfl,⟨GL,GJ⟩,.inl ⟨rfl,rfl,fun e=>by cases e⟩⟩
  ·have hs:a=⟨a.block,a.off,none⟩:=by
    have:=hel 0 GJ;rw [List.getElem?_eq_getElem GJ] at this;simp only [Option.bind_eq_some_iff] at this;obtain ⟨cs,hc,_⟩:=this;obtain ⟨_,hl2,hcell⟩:=World.cells?_some hc;have h1:=hcell 0 GJ;rw [List.getElem?_eq_getElem GJ] at h1;simp [Addr.add,World.cell?] at h1
    split at h1 <;> simp_all
    cases a;simp_all
   obtain ⟨ys,F,hyl,hys⟩:=Ac3 hsz he elems 0 (n:=n) (b:=a.block) (off:=a.off) (enc:=_) (w:=_) (by
    rw [←hs];intro i hi;rw [Nat.zero_add];exact hel i GJ)
   refine ⟨ys,a.block::F,_,rfl,some a,cap,by rw [hyl,hlen],⟨GJ,GJ⟩,.inr ⟨a.block,a.off,F,by rw [←hs],?_,rfl,by simpa using hys⟩⟩;intro e;rw [e] at hyl;simp at hyl;omega
end
inductive Vy (P:Program):List Field→Nat→(α:Type)→Bx α→Prop
 | nil (off:Nat):Vy P [] off Unit Akr
 | cons {f:Field} {r:List Field} {off:Nat} {α β:Type} {A:Bx α} {B:Bx β} (ho:f.offset=off) (hc:P.cellsOf f.type=A.sz) (hA:Zo P A f.type) (h:Vy P r (off+A.sz) β B):Vy P (f::r) off (α × β) (Ace A B)
theorem Ale {P:Program} {H:Type} {enc:TypeId × Value→H} {w:World} {n:Nat} {cs:List Value} {fs:List Field} {off:Nat} {α:Type} {E:Bx α} (h:Vy P fs off α E) :
  (∀f∈fs,∃x,DataW.trod enc P w 0 (fun _=>true) true n f.type ((cs.drop f.offset).take (P.cellsOf f.type))=some x)→off+E.sz=cs.length→∃y F,E.Lo w (cs.drop off) y F:=by
 induction h with
 | nil off=>intro _ hl;exact ⟨(),[],List.drop_of_length_le (by simp [Akr] at hl;omega),rfl⟩
 | @cons f r off α β A B ho hc hA _ ih =>
  intro hf hl;obtain ⟨x,hx⟩:=hf f GL;obtain ⟨y,F1,hy⟩:=hA hx;obtain ⟨y2,F2,hy2⟩:=ih (fun f h=>hf f JB) (by simp only [Ace] at hl;omega);subst ho;exact ⟨(y,y2),F1++F2,_,_,F1,F2,by rw [hc,←List.drop_drop,List.take_append_drop],rfl,hy,hy2⟩
theorem Aaf {P:Program} {t:TypeId} {fs:Array Field} {α:Type} {E:Bx α} (ht:P.underlying t=some (.struct fs)) (hC:P.cellsOf t=E.sz) (h:Vy P fs.toList 0 α E):Zo P E t:=fun hh=>by
 obtain ⟨xs,n,rfl,_,hcl,hxl,hx⟩:=DataW.trod_struct ht hh;have:=Ale (enc:=_) (w:=_) (n:=n) h (fun f hf=>by
  obtain ⟨i,hi,rfl⟩:=List.getElem_of_mem hf;have:=hx i fs.toList[i] GL;rw [List.getElem?_eq_getElem (by simpa [hxl] using hi)] at this;exact ⟨_,this⟩) (by rw [hcl,hC];simp)
 exact GF
end Go.Proofs.YtkagnmekdkchiaaGreatDoor
namespace Go.Proofs.YtkagnmekdkchiaaGreatDoor
open Go.RowKit
structure Uk where
theorem Adl (v0:Value) (x0:Me) (F0:List Nat) (x1:Int) (x2:Int) (v3:Value) (x3:Log) (F3 FT:List Nat):Fn prog 3 [v0,.int .i64 x1,.int .i64 x2,v3] [.isv Kt v0 x0 F0,.isv Zl v3 x3 F3,Gc FT] [] (fun (_:Unit)=>True) (fun _=>.bool true) (fun _=>[]):=by
 refine enter func3 rfl ntmps3 fun w0=>?_;refine Bcx (E:=Kt) (v:=v0) (x:=x0) (F:=F0) As0 ?_;rintro ca0 rfl hla0 hoa0;refine U4 (v:=v3) (x:=x3) (F:=F3) ?_;rintro _ rfl hs3 hs4;have hI:=fun (hlw:Td x3≤1048576) V0 F0 V3 F3=>Akx x0 x1 x2 x3 V0 V3 F0 F3 FT hlw;have hS:=fun (hlw:Td x3≤1048576) V0 F0 V3 F3=>Adq x0 x1 x2 x3 V0 V3 F0 F3 FT hlw;obtain ⟨r0,r1,er⟩:∃r0 r1,Mj x0 x1 x2 x3=(r0,r1):=⟨_,_,rfl⟩;rw [er] at hI hS;dsimp only at hI hS;refine goL ?_;intros;refine cb (fun w st=>ex1 (fun F h=>Axh _ x0 F (1048576) w h GJ GJ) st.rI) ?_;rcases Ao8 (1048576) (Tm x0) with ⟨e1,l1⟩|⟨e1,l1⟩
 ·rw [e1];refine goL ?_;intros;exact BD
 rw [e1];clear e1;have hw0:Tm x0≤1048576:=by omega
 refine goL ?_;intros;refine cb (fun w st=>ex1 (fun F h=>Bah _ x3 F (1048576 - (Tm x0)) w h GJ GJ) st.rI) ?_;rcases Ao8 (1048576 - (Tm x0)) (Td x3) with ⟨e1,l1⟩|⟨e1,l1⟩
 ·rw [e1];refine goL ?_;intros;exact BD
 rw [e1];clear e1;have hw3:Td x3≤1048576:=by omega
 have hc0:=Arb x0 hw0;replace hI:=hI hw3;replace hS:=hS hw3;refine goL ?_;intros;refine Apu [1,2,4,7,8] (fun s:Uk=>[(10,.int .i64 r0),(11,.bool r1)]) (fun s=>[]) (fun _=>True) ?_ fun s _=>?_
 ·refine goL ?_;intros;refine Aes [] ?_;refine dt 0 ?_ (hy:=HC);refine Dy 2 3 ?_;refine dt 4 ?_ (hy:=HC);refine dN 1 ?_;refine oC ?_;refine cv (fun w st=>ex1 (fun F h=>Agk _ x0 F w h hw0) st.rI) fun y0 K0=>?_;refine Ad8 Xu fun K0=>?_;refine dk ?_;refine dN 5 ?_;refine oC ?_;refine cv (fun w st=>ex1 (fun F h=>Aqt _ x3 F w h hw3) st.rI) fun y3 K3=>?_;refine Ad8 (Kv.refl Zl) fun K3=>?_;refine U4 (x:=x3) (F:=K3) ?_;rintro _ rfl - -;refine dk ?_;refine dN 6 ?_;refine oC ?_
  refine cf (hS _ _ _ _) fun z hz=>?_;refine Ar ?_;refine dk ?_;refine Dk 7 8 9 10 ?_;refine dt 11 ?_;refine dd ?_;refine goL ?_;intros;refine Bw (⟨⟩:Uk) trivial
 obtain ⟨⟩:=s;refine goL ?_;intros;refine cv (fun w st=>ex1 (fun F h=>Agk _ x0 F w h hw0) st.rI) fun yv0 KX0=>?_;refine Bcy (E:=Apo) (x:=x0) (F:=KX0) As1 ?_;rintro cx0 rfl hlx0 hox0;refine goL ?_;intros;refine Apu [4,8,10,11,12] (fun s:Uk=>[(13,.int .i64 r0),(14,.bool r1)]) (fun s=>[]) (fun _=>True) ?_ fun s _=>?_
 ·refine goL ?_;intros;refine Aes [] ?_;refine dt 0 ?_ (hy:=HC);refine Dy 1 2 ?_;refine dt 3 ?_ (hy:=HC);refine dN 4 ?_;refine oC ?_;refine cv (fun w st=>ex1 (fun F h=>Aqt _ x3 F w h hw3) st.rI) fun y3 K3=>?_;refine Ad8 (Kv.refl Zl) fun K3=>?_;refine U4 (x:=x3) (F:=K3) ?_;rintro _ rfl - -;refine dk ?_;refine dN 5 ?_;refine oC ?_;refine cb (fun w st=>ex2 (fun F F2 h h2=>(hI _ F _ F2).val w (Bb6 h h2 (st.get (p:=Gc FT) GO))) (st.rO Xu) st.rI) ?_;refine dk ?_
  refine Dk 6 7 8 9 ?_;refine dt 10 ?_;refine dd ?_;refine goL ?_;intros;refine Bw (⟨⟩:Uk) trivial
 obtain ⟨⟩:=s;refine goL ?_;intros;refine Aes [] ?_;refine dt 0 ?_ (hy:=HC);refine dt 1 ?_ (hy:=HC);refine dN 2 ?_;refine oC ?_;refine cv (fun w st=>ex1 (fun F h=>Agk _ x0 F w h hw0) st.rI) fun y0 K0=>?_;refine Ad8 Xu fun K0=>?_;refine dk ?_;refine dN 3 ?_;refine oC ?_;refine cb (fun w st=>ex2 (fun Fa Fb ha hb=>Au3 _ _ x0 Fa Fb w ha hb) (st.rO Xu) st.rI) ?_;refine dk ?_;refine dt 4 ?_;refine dd ?_;refine goL ?_;intros;exact BD
theorem Ag3 (v0:Value) (x0:Me) (F0:List Nat) (x1:Int) (x2:Int) (v3:Value) (x3:Log) (F3 FT:List Nat) (w:World) (h0:N0 Kt w v0 x0 F0) (h3:N0 Zl w v3 x3 F3) (hT:(Gc FT).P w) :
  Calls prog 3 #[v0,.int .i64 x1,.int .i64 x2,v3] w fun e' w'=>e'=.returned (.bool true)∧Below w.heap.size w w':=(Adl v0 x0 F0 x1 x2 v3 x3 F3 FT).val w (Bb6 (p:=.isv Kt v0 x0 F0) (q:=.isv Zl v3 x3 F3) h0 h3 hT)
theorem Aqo : "*" ++ "errors.errorString" = "*errors.errorString" := by decide
theorem Awx:∀u,prog.typeName? 3 u=some "*errors.errorString" → u=360:=by
 intro u h;exact typeName_ptr_named (nm := "errors.errorString") (by rw [Aqo];kernel_rfl) GK GM u (by rw [Aqo];exact h)
theorem Bb1 {W:World} (hL:laidMetH prog Rows.fnExactReplayLogRow.laid W) (hsh:W.ShapedOpen prog):(Gc [1,0,4,5]).P W:=by
 rw [MakeChecks.laidMetH_plain _ _ _ GK] at hL;have h3:=hL.tail.tail;have h5:=hL.tail.tail.tail.tail;have h6:=hL.tail.tail.tail.tail.tail;have e:(Rows.laid_internal_strconv_uint64pow10:DataW Unit)=Lib.tabData .u64 Lib.pow10Tab:=by kernel_rfl
 rw [e] at h3;have ht:Lib.TabIs prog W "internal/strconv.uint64pow10" .u64 Lib.pow10Tab:=Lib.tabIs_of_head (g:=1) (t:=329) (e:=280) (n:=20) GK GK underlying329 underlying280 GK GK h3;have hu:prog.underlying 199=some (.interface (prog.methodsAt 199)):=by kernel_rfl
 obtain ⟨a1,s1,hv1, -, -, -⟩:=laid_sentinel (g:=5) (ti:=199) (tp:=360) (te:=362) (ts:=9) h5 GK GK hu Awx underlying360 underlying362 rfl rfl underlying9 GK GK;obtain ⟨a2,s2,hv2, -, -, -⟩:=laid_sentinel (g:=4) (ti:=199) (tp:=360) (te:=362) (ts:=9) h6 GK GK hu Awx underlying360 underlying362 rfl rfl underlying9 GK GK
 obtain ⟨m,hm⟩:=cell_of_shapedOpen_int (P:=prog) (g:=0) (t:=3) (zero:=#[.int .i64 0]) hsh (of_decide_eq_true GK) GK rfl GK GK underlying3;refine ⟨[],rfl,rfl,⟨ht,⟨m,hm⟩,⟨_,_,hv2⟩,⟨_,_,hv1⟩⟩,rfl,?_⟩;have hc:=Lib.TabIs.cell ht (g:=1) GK 0 (by rw [Lib.pow10Tab_length];omega);have b0:=World.block_lt_of_cell? W ⟨1,0,none⟩ hc;intro b hb;simp only [List.mem_cons,List.not_mem_nil,or_false] at hb;rcases hb with rfl|rfl|rfl|rfl
 ·exact b0
 ·exact World.block_lt_of_cell? W ⟨0,0,none⟩ hm
 ·exact World.block_lt_of_cell? W ⟨4,0,none⟩ (by simpa using World.var?_cell (show prog.globalNamed "strconv.ErrSyntax" = some 4 by kernel_rfl) hv2 0)
 ·exact World.block_lt_of_cell? W ⟨5,0,none⟩ (by simpa using World.var?_cell (show prog.globalNamed "strconv.ErrRange" = some 5 by kernel_rfl) hv1 0)
end Go.Proofs.YtkagnmekdkchiaaGreatDoor
namespace Go.Proofs.YtkagnmekdkchiaaGreatDoor
open Go.RowKit Go.ChangeShapes Go.WideShapes Go.ChangeAt
theorem Aos:Zo prog Kt 24:=fun hh=>by
 obtain ⟨y,F,hy⟩:=Aaf (E:=(Ace (Nn Bc GM) Akr)) underlying24 GK (.cons rfl GK (Amm underlying22 GK GM (Aio underlying3)) (.nil _)) hh;obtain ⟨_,_,_,_,rfl,rfl,⟨u0,rfl,hs0⟩,⟨rfl,rfl⟩⟩:=hy;exact ⟨⟨y.1⟩,_,u0,rfl,by simpa using hs0⟩
theorem As9:Zo prog Zl 26:=fun hh=>by
 obtain ⟨y,F,hy⟩:=Aaf (E:=(Ace A8 (Ace A8 (Ace Bc Akr)))) underlying26 GK (.cons rfl GK (Aip underlying9) (.cons rfl GK (Aip underlying9) (.cons rfl GK (Aio underlying3) (.nil _)))) hh;obtain ⟨_,_,_,_,rfl,rfl,⟨rfl,s0,rfl⟩,⟨_,_,_,_,rfl,rfl,⟨rfl,s1,rfl⟩,⟨_,_,_,_,rfl,rfl,⟨rfl,rfl⟩,⟨rfl,rfl⟩⟩⟩⟩:=hy;exact ⟨⟨y.1,y.2.1,y.2.2.1⟩,[],rfl,s0,s1,rfl⟩
theorem Abq (os:Os) (Bd:os.Started) (H:Type) (enc:TypeId × Value→H) :
  ReturnsInHanded {} Tryz.checked os 3 .any (fun w args=>(Rows.fnExactReplayLogSpec.pre enc prog f3 Rows.fnExactReplayLogRow.domain false w args∧laidMetH prog Rows.fnExactReplayLogRow.laid w)∧sizedMet enc prog f3 (OpenSpec.ofChange Rows.fnExactReplayLogSpec) false w args)
   (Rows.fnExactReplayLogSpec.post enc prog f3 false true false false):=by
 have core:∀(W:World) (base:Nat) (args:Array Value) (ds gs:List (DataW H)) (before:List MemPlace),
   (∀(j:Nat) t v,f3.params[j]?=some t→args[j]?=some v→Value.okWide prog W .any base t v)→DataW.Whole enc prog f3.params.toList Rows.fnExactReplayLogSpec.vars false W args.toList ds gs before →
   W.ShapedOpen prog→laidMetH prog Rows.fnExactReplayLogRow.laid W→Calls prog 3 args W fun e W'=>∃v,e=.returned v∧Rows.fnExactReplayLogSpec.post enc prog f3 false true false false W args v W':=by
  intro W base args ds gs before hval0 hW hsh hL;have hval:∀(j:Nat) t v,f3.params[j]?=some t→args[j]?=some v→Value.okWide prog W .any base t v:=hval0;have hW':=hW;obtain ⟨p,q,hA0,hV,rfl,hfz,hnd⟩:=hW;have hA:DataW.TrodAll enc prog W 0 (fun _=>true) true f3.params.toList args.toList ds p:=hA0;rw [params3] at hA hval;obtain ⟨v0,vs0,d0,ds0,p0,q0,hargs,rfl,rfl,h0,hr0⟩:=trodAll_cons hA;obtain ⟨v1,vs1,d1,ds1,p1,q1,rfl,rfl,rfl,h1,hr1⟩:=trodAll_cons hr0;obtain ⟨v2,vs2,d2,ds2,p2,q2,rfl,rfl,rfl,h2,hr2⟩:=trodAll_cons hr1;obtain ⟨v3,vs3,d3,ds3,p3,q3,rfl,rfl,rfl,h3,hr3⟩:=trodAll_cons hr2
  obtain ⟨rfl,rfl,rfl⟩:=trodAll_nil hr3;obtain rfl:args = #[v0,v1,v2,v3]:=by cases args;simp_all
  obtain ⟨cs0,rfl,hsz0⟩:=okWide_struct underlying24 (hval 0 24 v0 rfl rfl);obtain ⟨fuel0,hf0⟩:=h0;obtain ⟨x0,F0,hx0⟩:=Aos hf0;obtain ⟨c1,rfl⟩:=okWide_int underlying3 (hval 1 3 v1 rfl rfl);obtain ⟨c2,rfl⟩:=okWide_int underlying3 (hval 2 3 v2 rfl rfl);obtain ⟨cs3,rfl,hsz3⟩:=okWide_struct underlying26 (hval 3 26 v3 rfl rfl);obtain ⟨fuel3,hf3⟩:=h3;obtain ⟨x3,F3,hx3⟩:=As9 hf3
  refine (Ag3 _ x0 F0 c1 c2 _ x3 F3 _ W ⟨cs0.toList,GL,by simpa [Value.cells] using hx0⟩ ⟨cs3.toList,GL,by simpa [Value.cells] using hx3⟩ (Bb1 hL hsh)).mono fun e W' ⟨he,hB⟩=>⟨_,he,Avz (tb:=4) GK ?_ underlying4 GK rfl rfl hW' hB⟩;rw [params3];intro t ht;simp only [List.mem_cons,List.not_mem_nil,or_false] at ht;rcases ht with rfl|rfl|rfl|rfl <;> exact ⟨GK,of_decide_eq_true GK⟩
 refine returnsInHanded_of_calls (C:=Tryz.checked) GK Bd GK
  (ChangeSpec.witness_shaped (enc:=enc) (C:=Tryz.checked) (os:=os) (X:=fun w _=>laidMetH prog Rows.fnExactReplayLogRow.laid w) false (World.laidAll prog os Rows.fnExactReplayLogRow.laid) #[.agg #[.slice none 0 0],.int .i64 0,.int .i64 0,.agg #[.string ⟨#[]⟩,.string ⟨#[]⟩,.int .i64 0]] 8 (World.laidAll_os _ _ _)
   (World.shaped_of_ZipB GK GK) GK GK GK
   (by rw [MakeChecks.laidMetH_plain _ _ _ GK];exact laidMet_laidAll _ GK GK)) ?_
 intro w tape i _ hsh _ hok hpre _;obtain ⟨_,_,_,fn2,hfn2,_,_,_,_,hval⟩:=hok;obtain rfl:fn2=f3:=Option.some.inj (hfn2.symm.trans func3);obtain ⟨⟨⟨ds,gs,before,hw,_⟩,hL⟩,_⟩:=hpre;have hw2:=DataW.Whole.of_heap (w':=w.forCall tape i) GV hw;refine (core (w.forCall tape i) w.heap.size i.args ds gs before hval hw2 hsh (hL.of_heap GV)).mono fun e W' ⟨v,he,hp⟩=>?_;subst he;exact ChangeSpec.post_blind hp
end Go.Proofs.YtkagnmekdkchiaaGreatDoor
