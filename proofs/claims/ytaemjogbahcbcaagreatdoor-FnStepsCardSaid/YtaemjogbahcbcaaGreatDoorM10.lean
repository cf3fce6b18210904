/- Part 10 of the proof: 19 texts, one behind the other. -/
import Derived.Laws.StructEq
import Derived.Test.YtaemjogbahcbcaaGreatDoorRows
import Derived.MakeChecks
import Derived.Stop.LaidErr
import Derived.ProofKit
import Derived.OpenShut
import Derived.Test.YtaemjogbahcbcaaGreatDoorM9
open _root_.Go.Proofs.Tryz
set_option maxRecDepth 100000
set_option maxHeartbeats 8000000
set_option linter.all false
set_option linter.unusedVariables false
set_option linter.unusedSimpArgs false
namespace Go.Proofs.YtaemjogbahcbcaaGreatDoor
open Go.RowKit
structure NtD where
 n:En
 cs:List Value
 F:List Nat
 s:O8
structure NtW where
 n:En
 cs:List Value
 F:List Nat
 i:Nat
 s:O8
structure Aqb (B:Nat) (z:NtW):Prop where
 g:A8 z.n=true
 i:z.i≤23
 s:Hq (B+400+200 * (23 - z.i)) z.s
theorem Zq {n:En} (h:A8 n=true):2≤n.Ar.Ad.length∧n.Ar.Ad.length≤8∧n.down.length≤8∧n.up.length=n.down.length∧n.Ah.length=n.Ar.Ad.length∧n.down.length=n.Ar.Ad.length:=by
 have hG:=Bo.1 h
 have h1:=(Ll hG.t).n0
 have h2:=(Ll hG.t).n1
 obtain ⟨q1,q2,q3,q4⟩:=Bz.1 hG.l
 exact ⟨h1,h2,by omega,by omega,by omega,by omega⟩
theorem Akd {n:En} {p:Aw} (h:∀q∈n.down++n.up,q.length≤6):∀q∈n.down++n.up.set 1 [p],q.length≤6:=fun q hq=>by
 rcases List.mem_append.1 hq with hq|hq
 ·exact h q (List.mem_append_left _ hq)
 ·rcases List.mem_or_eq_of_mem_set hq with hq|rfl
  ·exact h q (List.mem_append_right _ hq)
  ·exact (by decide:1≤6)
theorem Sc {n:En} (h:A8 n=true):∀q∈n.down++n.up,q.length≤6:=fun q hq=>by
 obtain ⟨-, -,e3,e4⟩:=No h
 rcases List.mem_append.1 hq with hq|hq
 ·exact (Io (e3 q hq)).1
 ·exact (Io (e4 q hq)).1
theorem Anf (B g:Nat) (F:S8) (s:O8) (FT:List Nat) (ok:Hq B s) (hB:B≤600000000000) :
  Fn prog 31 [Eo g 0 0] [.sl E9 (.slice F.a F.Bm.length F.c) F.Bm F.bs,Li FT] [.row g 67 0 [] [.slice F.a F.Bm.length F.c,.int .i64 (s.k:Nat),.int .u64 s.Dq] []] (fun (z:NtD)=>(2≤z.n.Ar.Ad.length∧z.n.Ar.Ad.length≤8∧z.n.down.length≤8∧z.n.up.length=z.n.down.length∧∀q∈z.n.down++z.n.up,q.length≤6)∧Hq (B+9000) z.s) (fun z=>.agg z.cs.toArray)
   (fun z=>[.isv Lr (.agg z.cs.toArray) z.n z.F,.row g 67 0 [] [.slice F.a F.Bm.length F.c,.int .i64 (z.s.k:Nat),.int .u64 z.s.Dq] []]):=by
 refine enter func31 rfl ntmps31 fun w0=>?_
 refine go ?_;intros
 refine cf (Aen B g F s ok (by omega)) fun t ht=>?_
 refine Ao ?_
 obtain ⟨ht1,ht2⟩:=ht
 refine go ?_;intros
 refine cf (P9 _ g F t.s ht2 (by omega)) fun m hm=>?_
 refine Ao ?_
 obtain ⟨hm1,hm2⟩:=hm
 refine go ?_;intros
 refine cf (Ek _ g F 6 m.2 hm2 (by omega) (by omega)) fun y hy=>?_
 refine Ao ?_
 obtain ⟨k1,s1⟩:=y
 obtain ⟨r1,h1⟩:=hy
 dsimp only at r1 h1 ⊢
 have r1:k1≤5:=by omega
 refine Jq ?_;intros
 refine Ax (E:=Be) (xs:=t.l) fun Ft=>?_
 refine Ky ⟨t.l⟩ ?_
 refine go ?_;intros
 refine cf (Uj ⟨t.l⟩ m.1 (1+(k1:Nat)) _ _) fun z _=>?_
 refine Ao ?_
 obtain ⟨en,gn⟩:=X7 (t:=⟨t.l⟩) (f:=m.1) (y:=1+(k1:Nat)) ht1 hm1.1 hm1.2 (by omega) (by omega)
 rw [en]
 obtain ⟨cs,F0⟩:=z
 dsimp only
 generalize hN:Rn ⟨t.l⟩ m.1 (1+(k1:Nat))=N at *
 refine K9 N0 fun F0=>?_
 refine C9 (x:=N) ?_
 rintro b01 d01 G01 b02 d02 G02 b03 d03 G03 b04 d04 G04 b05 d05 G05 b06 d06 G06 b07 d07 G07 ev - - - - - - -
 obtain rfl:cs=[.slice b01 N.Ar.Ad.length d01,.int .i64 N.Ab.Aa.Ak,.int .i64 N.Ab.Aa.size,.slice b02 N.Ab.Aa.Aj.length d02,.int .i64 N.Ab.Ai,.int .i64 N.Ab.quiet,.slice b03 N.Ab.holds.length d03,.slice b04 N.Ah.length d04,.slice b05 N.Ae.length d05,.slice b06 N.down.length d06,.slice b07 N.up.length d07]:=by simpa using ev
 clear ev
 refine go ?_;intros
 rename_i g3
 refine cf (Ek _ g F 24 s1 h1 (by omega) (by omega)) fun y hy=>?_
 refine Ao ?_
 obtain ⟨r0,s2⟩:=y
 obtain ⟨hr0,h2⟩:=hy
 dsimp only at hr0 h2 ⊢
 have hr0:r0≤23:=by omega
 refine go ?_;intros
 refine Cq [0,2,3] (fun z:NtW=>[(5,.int .i64 (z.i:Nat))]) (fun z=>[.row g3 37 0 [] z.cs [],.isv Lr (.agg z.cs.toArray) z.n z.F,.row g 67 0 [] [.slice F.a F.Bm.length F.c,.int .i64 (z.s.k:Nat),.int .u64 z.s.Dq] []]) (Aqb B) (fun z=>z.i) ⟨N,_,_,r0,s2⟩ ⟨gn,hr0,h2.mono (by show _≤B+400+200 * (23 - r0);omega)⟩ fun z hz=>?_
 obtain ⟨x,cs,Fx,zi,zs⟩:=z
 obtain ⟨z1,z2,z4⟩:=hz
 obtain ⟨q2,q8,qd,qu,qe,qt⟩:=Zq z1
 have qq:=Sc z1
 dsimp only at z1 z2 z4 q2 q8 qd qu qe qt qq ⊢
 refine C9 (x:=x) ?_
 rintro b1 d1 G1 b2 d2 G2 b3 d3 G3 b4 d4 G4 b5 d5 G5 b6 d6 G6 b7 d7 G7 ev - - - - - - -
 obtain rfl:cs=[.slice b1 x.Ar.Ad.length d1,.int .i64 x.Ab.Aa.Ak,.int .i64 x.Ab.Aa.size,.slice b2 x.Ab.Aa.Aj.length d2,.int .i64 x.Ab.Ai,.int .i64 x.Ab.quiet,.slice b3 x.Ab.holds.length d3,.slice b4 x.Ah.length d4,.slice b5 x.Ae.length d5,.slice b6 x.down.length d6,.slice b7 x.up.length d7]:=by simpa using ev
 clear ev
 refine go ?_;intros
 refine Bd rfl (fun h3=>?_) (fun h3=>?_)
 ·have hi0:0 < zi:=by omega
  refine Jq ?_;intros
  refine Av [7] [5,6,7,8,10,11,12] ?_
  refine T4 0 ?_
  refine T4 1 ?_
  refine T4 2 ?_
  refine Nn 3 9 (by kernel_rfl) (by rw [List.getElem?_toArray];rfl) (by rw [List.getElem?_toArray];rfl) ?_ ?_
  ·apply At;rfl;kernel_rfl;exact Bb
   refine cf (Ww _ g F _ x _ _ (by omega) (by omega) (by omega) (by omega) qq z4 (by omega)) fun t ht=>?_
   refine Ao ?_
   obtain ⟨t1,t2,t3⟩:=ht
   refine dk ?_
   refine Nn 4 9 (by kernel_rfl) (by rw [List.getElem?_toArray];rfl) (by rw [List.getElem?_toArray];rfl) ?_ ?_
   ·apply At;rfl;kernel_rfl;exact Bb
    refine cf (L0 x t.t _ _ FT t2 z1 t1) fun y _=>?_
    refine Ao ?_
    obtain ⟨ys,yF,ya,yc,yG⟩:=y
    dsimp only
    refine C9 (x:=(As x t.t).1) ?_
    rintro e1 f1 K1 e2 f2 K2 e3 f3 K3 e4 f4 K4 e5 f5 K5 e6 f6 K6 e7 f7 K7 ev - - - - - - -
    obtain rfl:ys=[.slice e1 (As x t.t).1.Ar.Ad.length f1,.int .i64 (As x t.t).1.Ab.Aa.Ak,.int .i64 (As x t.t).1.Ab.Aa.size,.slice e2 (As x t.t).1.Ab.Aa.Aj.length f2,.int .i64 (As x t.t).1.Ab.Ai,.int .i64 (As x t.t).1.Ab.quiet,.slice e3 (As x t.t).1.Ab.holds.length f3,.slice e4 (As x t.t).1.Ah.length f4,.slice e5 (As x t.t).1.Ae.length f5,.slice e6 (As x t.t).1.down.length f6,.slice e7 (As x t.t).1.up.length f7]:=by simpa using ev
    clear ev
    refine dk ?_
    refine M4 5 ?_
    refine M4 6 ?_
    refine M4 7 ?_
    refine M4 8 ?_
    refine dO 9 (by kernel_rfl) (by rw [List.getElem?_toArray];rfl) ?_
    apply Bv;rfl;intro _
    refine dk ?_
    refine dO 10 (by kernel_rfl) (by rw [List.getElem?_toArray];rfl) ?_
    apply Cf;rfl;rfl;rfl;(first|exact AggC.s|exact OneC.s);rfl;exact Ci;exact Cg;rfl
    refine Lv ?_
    refine M4 11 ?_
    refine M4 12 ?_
    refine dd ?_
    rename_i g6
    cases eb:(As x t.t).2.2
    ·refine go ?_;intros
     rw [show ((zi:Nat):Int) - 1=((zi - 1:Nat):Int) by omega]
     refine Co ⟨x,_,_,zi - 1,t.s⟩ ⟨z1,by show zi - 1≤23;omega,t3.mono (by show _≤B+400+200 * (23 - (zi - 1));omega)⟩ (by show zi - 1 < zi;omega)
    ·refine go ?_;intros
     rw [show ((zi:Nat):Int) - 1=((zi - 1:Nat):Int) by omega]
     refine Co ⟨(As x t.t).1,_,_,zi - 1,t.s⟩ ⟨Mr eb,by show zi - 1≤23;omega,t3.mono (by show _≤B+400+200 * (23 - (zi - 1));omega)⟩ (by show zi - 1 < zi;omega)
   ·apply Bv;rfl;intro _
    refine dk ?_
    refine dO 4 (by kernel_rfl) (by rw [List.getElem?_toArray];rfl) ?_
    apply At;rfl;kernel_rfl;exact Bb
    refine cf (L0 x t.t _ _ FT t2 z1 t1) fun y _=>?_
    refine Ao ?_
    obtain ⟨ys,yF,ya,yc,yG⟩:=y
    dsimp only
    refine C9 (x:=(As x t.t).1) ?_
    rintro e1 f1 K1 e2 f2 K2 e3 f3 K3 e4 f4 K4 e5 f5 K5 e6 f6 K6 e7 f7 K7 ev - - - - - - -
    obtain rfl:ys=[.slice e1 (As x t.t).1.Ar.Ad.length f1,.int .i64 (As x t.t).1.Ab.Aa.Ak,.int .i64 (As x t.t).1.Ab.Aa.size,.slice e2 (As x t.t).1.Ab.Aa.Aj.length f2,.int .i64 (As x t.t).1.Ab.Ai,.int .i64 (As x t.t).1.Ab.quiet,.slice e3 (As x t.t).1.Ab.holds.length f3,.slice e4 (As x t.t).1.Ah.length f4,.slice e5 (As x t.t).1.Ae.length f5,.slice e6 (As x t.t).1.down.length f6,.slice e7 (As x t.t).1.up.length f7]:=by simpa using ev
    clear ev
    refine dk ?_
    refine M4 5 ?_
    refine M4 6 ?_
    refine M4 7 ?_
    refine M4 8 ?_
    refine dO 10 (by kernel_rfl) (by rw [List.getElem?_toArray];rfl) ?_
    apply Cf;rfl;rfl;rfl;(first|exact AggC.s|exact OneC.s);rfl;exact Ci;exact Cg;rfl
    refine Lv ?_
    refine M4 11 ?_
    refine M4 12 ?_
    refine dd ?_
    rename_i g6
    cases eb:(As x t.t).2.2
    ·refine go ?_;intros
     rw [show ((zi:Nat):Int) - 1=((zi - 1:Nat):Int) by omega]
     refine Co ⟨x,_,_,zi - 1,t.s⟩ ⟨z1,by show zi - 1≤23;omega,t3.mono (by show _≤B+400+200 * (23 - (zi - 1));omega)⟩ (by show zi - 1 < zi;omega)
    ·refine go ?_;intros
     rw [show ((zi:Nat):Int) - 1=((zi - 1:Nat):Int) by omega]
     refine Co ⟨(As x t.t).1,_,_,zi - 1,t.s⟩ ⟨Mr eb,by show zi - 1≤23;omega,t3.mono (by show _≤B+400+200 * (23 - (zi - 1));omega)⟩ (by show zi - 1 < zi;omega)
  ·apply Bv;rfl;intro _
   refine dk ?_
   refine dO 3 (by kernel_rfl) (by rw [List.getElem?_toArray];rfl) ?_
   apply At;rfl;kernel_rfl;exact Bb
   refine cf (Ww _ g F _ x _ _ (by omega) (by omega) (by omega) (by omega) qq z4 (by omega)) fun t ht=>?_
   refine Ao ?_
   obtain ⟨t1,t2,t3⟩:=ht
   refine dk ?_
   refine dO 4 (by kernel_rfl) (by rw [List.getElem?_toArray];rfl) ?_
   apply At;rfl;kernel_rfl;exact Bb
   refine cf (L0 x t.t _ _ FT t2 z1 t1) fun y _=>?_
   refine Ao ?_
   obtain ⟨ys,yF,ya,yc,yG⟩:=y
   dsimp only
   refine C9 (x:=(As x t.t).1) ?_
   rintro e1 f1 K1 e2 f2 K2 e3 f3 K3 e4 f4 K4 e5 f5 K5 e6 f6 K6 e7 f7 K7 ev - - - - - - -
   obtain rfl:ys=[.slice e1 (As x t.t).1.Ar.Ad.length f1,.int .i64 (As x t.t).1.Ab.Aa.Ak,.int .i64 (As x t.t).1.Ab.Aa.size,.slice e2 (As x t.t).1.Ab.Aa.Aj.length f2,.int .i64 (As x t.t).1.Ab.Ai,.int .i64 (As x t.t).1.Ab.quiet,.slice e3 (As x t.t).1.Ab.holds.length f3,.slice e4 (As x t.t).1.Ah.length f4,.slice e5 (As x t.t).1.Ae.length f5,.slice e6 (As x t.t).1.down.length f6,.slice e7 (As x t.t).1.up.length f7]:=by simpa using ev
   clear ev
   refine dk ?_
   refine M4 5 ?_
   refine M4 6 ?_
   refine M4 7 ?_
   refine M4 8 ?_
   refine dO 10 (by kernel_rfl) (by rw [List.getElem?_toArray];rfl) ?_
   apply Cf;rfl;rfl;rfl;(first|exact AggC.s|exact OneC.s);rfl;exact Ci;exact Cg;rfl
   refine Lv ?_
   refine M4 11 ?_
   refine M4 12 ?_
   refine dd ?_
   rename_i g6
   cases eb:(As x t.t).2.2
   ·refine go ?_;intros
    rw [show ((zi:Nat):Int) - 1=((zi - 1:Nat):Int) by omega]
    refine Co ⟨x,_,_,zi - 1,t.s⟩ ⟨z1,by show zi - 1≤23;omega,t3.mono (by show _≤B+400+200 * (23 - (zi - 1));omega)⟩ (by show zi - 1 < zi;omega)
   ·refine go ?_;intros
    rw [show ((zi:Nat):Int) - 1=((zi - 1:Nat):Int) by omega]
    refine Co ⟨(As x t.t).1,_,_,zi - 1,t.s⟩ ⟨Mr eb,by show zi - 1≤23;omega,t3.mono (by show _≤B+400+200 * (23 - (zi - 1));omega)⟩ (by show zi - 1 < zi;omega)
 refine go ?_;intros
 refine cf (Ek _ g F 32 zs z4 (by omega) (by omega)) fun y hy=>?_
 refine Ao ?_
 obtain ⟨r6,s6⟩:=y
 obtain ⟨hr6,h6⟩:=hy
 dsimp only at hr6 h6 ⊢
 have hr6:r6≤31:=by omega
 refine go ?_;intros
 refine Bd rfl (fun e0=>?_) (fun e0=>?_)
 ·refine go ?_;intros
  refine cf (Ake _ g F s6 h6 (by omega)) fun y hy=>?_
  refine Ao ?_
  obtain ⟨hy1,hy2,hy3⟩:=hy
  refine Ej (x:=y.y) ?_
  rintro a2 c2 L2 a3 c3 L3 ev - -
  simp only [Value.agg.injEq,Array.mk.injEq,List.cons.injEq,Value.slice.injEq,true_and,and_true] at ev
  obtain ⟨⟨rfl,rfl⟩,rfl,rfl⟩:=ev
  refine go ?_;intros
  refine Ga ⟨x.Ar,y.y,x.Ah,x.Ae,x.down,x.up⟩ (a1:=b1) (a2:=y.a) (a3:=y.a2) (a4:=b4) (a5:=b5) (a6:=b6) (a7:=b7) ?_
  refine ret ⟨⟨x.Ar,y.y,x.Ah,x.Ae,x.down,x.up⟩,_,_,y.s⟩ ⟨⟨q2,q8,qd,qu,qq⟩,hy3.mono (by omega)⟩ rfl
 refine go ?_;intros
 refine Bd rfl (fun e1=>?_) (fun e1=>?_)
 ·refine go ?_;intros
  refine cf (Aen _ g F s6 h6 (by omega)) fun y hy=>?_
  refine Ao ?_
  obtain ⟨hy1,hy2⟩:=hy
  refine Ax (E:=Be) (xs:=y.l) fun Ft=>?_
  refine go ?_;intros
  refine Ga ⟨⟨y.l⟩,x.Ab,x.Ah,x.Ae,x.down,x.up⟩ (a1:=y.a) (a2:=b2) (a3:=b3) (a4:=b4) (a5:=b5) (a6:=b6) (a7:=b7) ?_
  refine ret ⟨⟨⟨y.l⟩,x.Ab,x.Ah,x.Ae,x.down,x.up⟩,_,_,y.s⟩ ⟨⟨hy1.n0,hy1.n1,qd,qu,qq⟩,hy2.mono (by omega)⟩ rfl
 refine go ?_;intros
 refine Bd rfl (fun e2=>?_) (fun e2=>?_)
 ·refine Wy (Al8 Al (by decide)) (xs:=x.up) (m:=1) rfl fun ys Fy Gy hyl hym=>?_
  refine Jq ?_;intros
  refine C1 (EC 1) ?_
  refine go ?_;intros
  apply wO
  refine Kx (ys:=ys) (Mm 1) (E7 1) (fun a7 c7 F7=>?_) (hn:=hyl.symm) (h63:=by simp only [List.length_nil];omega) (hby:=by simp only [List.length_nil];omega)
  rw [List.nil_append]
  refine go ?_;intros
  have h1u:1 < ys.length:=by omega
  obtain ⟨v9,e9⟩:∃v,ys[1]=[v]:=List.length_eq_one_iff.1 (hym _ (List.getElem_mem h1u))
  refine Ob (E:=EC 1) (xs:=ys) (m:=1) (E7 1) 1 ?_ (by repeat (first|exact .here|apply Cu.there)) rfl h1u
  rintro _ gq A cq Bq rfl k2 k3 hH
  obtain ⟨k4, -, -⟩:=k3 w0
  rw [e9] at k4
  subst k4
  dsimp only [List.append]
  refine Jq ?_;intros
  refine Av [11] [6] ?_
  refine dt 0 ?_
  refine dt 1 ?_
  refine dt 2 ?_
  refine dO 3 (by kernel_rfl) (by rw [List.getElem?_toArray];rfl) ?_
  apply At;rfl;kernel_rfl;exact Bb
  refine cf (Aby _ g F s6 h6 (by omega)) fun p hp=>?_
  refine Ao ?_
  obtain ⟨hp1,hp2⟩:=hp
  refine dk ?_
  refine dO 4 (by kernel_rfl) (by rw [List.getElem?_toArray];rfl) ?_
  apply Hh;rfl;rfl;rfl;rfl;exact Gz;exact Gp;intro _
  rename_i gp
  refine Ee (E:=Al) (xs:=[p.1]) (Cz p.1 hp1) ?_ (by simp)
  refine Ax (E:=Al) (xs:=[p.1]) fun Fp=>?_
  refine dk ?_
  refine dt 5 ?_
  refine dO 6 (by kernel_rfl) (by rw [List.getElem?_toArray];rfl) ?_
  apply Cf;rfl;rfl;rfl;(first|exact AggC.s|exact OneC.s);rfl;exact Ci;exact Cg;rfl
  refine Lv ?_
  refine dd ?_
  refine Nc (E:=EC 1) (xs:=ys) [.slice (some ⟨gp,0,none⟩) 1 1] hH (fun w=>⟨rfl,⟨rfl,by simp [Value.oneCell']⟩,rfl⟩) ?_
  refine To (E:=Al) (x:=[p.1]) (by decide) ?_
  refine Nb (E:=Kj Al (by decide)) (ys:=ys) (xs:=x.up) (x:=[p.1]) 1 rfl hym (by omega) fun G'=>?_
  refine Ax (E:=EC 1) (xs:=ys.set 1 [.slice (some ⟨gp,0,none⟩) 1 1]) fun F8=>?_
  refine Ms (E:=Kj Al (by decide)) (m:=1) (ys:=ys.set 1 [.slice (some ⟨gp,0,none⟩) 1 1]) (xs:=x.up.set 1 [p.1]) rfl (by simp [hyl]) rfl fun F9=>?_
  rw [show ys.length=(x.up.set 1 [p.1]).length by simp [hyl]]
  refine go ?_;intros
  refine Ga ⟨x.Ar,x.Ab,x.Ah,x.Ae,x.down,x.up.set 1 [p.1]⟩ (a1:=b1) (a2:=b2) (a3:=b3) (a4:=b4) (a5:=b5) (a6:=b6) ?_
  refine ret ⟨⟨x.Ar,x.Ab,x.Ah,x.Ae,x.down,x.up.set 1 [p.1]⟩,_,_,p.2⟩ ⟨⟨q2,q8,qd,by show (x.up.set 1 [p.1]).length=x.down.length;rw [List.length_set];exact qu,Akd qq⟩,hp2.mono (by omega)⟩ rfl
 refine go ?_;intros
 refine Bd rfl (fun e3=>?_) (fun e3=>?_)
 ·refine Wy Aa2 (xs:=x.Ah) (m:=2) rfl fun ys Fy Gy hyl hym=>?_
  refine Jq ?_;intros
  refine C1 (EC 2) ?_
  refine go ?_;intros
  apply wO
  refine Kx (ys:=ys) (Mm 2) (E7 2) (fun a7 c7 F7=>?_) (hn:=hyl.symm) (h63:=by simp only [List.length_nil];omega) (hby:=by simp only [List.length_nil];omega)
  rw [List.nil_append]
  refine go ?_;intros
  have h1u:1 < ys.length:=by omega
  obtain ⟨v9,u9,e9⟩:∃v u,ys[1]=[v,u]:=by
   have h2:=hym _ (List.getElem_mem h1u)
   match hY:ys[1],h2 with
   | [v,u],_=>exact ⟨v,u,rfl⟩
  refine Ob (E:=EC 2) (xs:=ys) (m:=2) (E7 2) 1 ?_ (by repeat (first|exact .here|apply Cu.there)) rfl h1u
  rintro _ gq A cq Bq rfl k2 k3 hH
  obtain ⟨k4, -, -⟩:=k3 w0
  rw [e9] at k4
  subst k4
  dsimp only [List.append]
  refine Jq ?_;intros
  refine Av [11] [5] ?_
  refine dt 0 ?_
  refine dt 1 ?_
  refine dt 2 ?_
  refine dO 3 (by kernel_rfl) (by rw [List.getElem?_toArray];rfl) ?_
  apply At;rfl;kernel_rfl;exact Bb
  refine cf (Afy _ g F s6 h6 (by omega)) fun p hp=>?_
  refine Ao ?_
  obtain ⟨hp1,hp2⟩:=hp
  refine dk ?_
  refine dt 4 ?_
  refine dO 5 (by kernel_rfl) (by rw [List.getElem?_toArray];rfl) ?_
  apply Cf;rfl;rfl;rfl;(first|exact AggC.s|exact OneC.s);rfl;exact Ci;exact Cg;rfl
  refine Lv ?_
  refine dd ?_
  refine Nc (E:=EC 2) (xs:=ys) [.int .i64 p.y.Ai,.slice p.a p.y.Af.length p.c] hH (fun w=>⟨rfl,⟨rfl,by simp [Value.oneCell']⟩,rfl⟩) ?_
  refine Nb (E:=Bh) (ys:=ys) (xs:=x.Ah) (x:=p.y) 1 rfl hym (by omega) fun G'=>?_
  refine Ax (E:=EC 2) (xs:=ys.set 1 [.int .i64 p.y.Ai,.slice p.a p.y.Af.length p.c]) fun F8=>?_
  refine Ms (E:=Bh) (m:=2) (ys:=ys.set 1 [.int .i64 p.y.Ai,.slice p.a p.y.Af.length p.c]) (xs:=x.Ah.set 1 p.y) rfl (by simp [hyl]) rfl fun F9=>?_
  rw [show ys.length=(x.Ah.set 1 p.y).length by simp [hyl]]
  refine go ?_;intros
  refine Ga ⟨x.Ar,x.Ab,x.Ah.set 1 p.y,x.Ae,x.down,x.up⟩ (a1:=b1) (a2:=b2) (a3:=b3) (a5:=b5) (a6:=b6) (a7:=b7) ?_
  refine ret ⟨⟨x.Ar,x.Ab,x.Ah.set 1 p.y,x.Ae,x.down,x.up⟩,_,_,p.s⟩ ⟨⟨q2,q8,qd,qu,qq⟩,hp2.mono (by omega)⟩ rfl
 refine go ?_;intros
 refine Ga x (a1:=b1) (a2:=b2) (a3:=b3) (a4:=b4) (a5:=b5) (a6:=b6) (a7:=b7) ?_
 refine ret ⟨x,_,_,s6⟩ ⟨⟨q2,q8,qd,qu,qq⟩,h6.mono (by omega)⟩ rfl
structure NtT where
 n:En
 cs:List Value
 F:List Nat
 t:Fa
theorem Abq (v:Value) (Bm:List Int) (G FT:List Nat):Fn prog 6 [v] [.sl E9 v Bm G,Li FT] [] (fun (z:NtT)=>z.t.data.size≤maxLen∧∀q∈z.n.down++z.n.up,q.length≤6) (fun z=>.tuple #[.agg z.cs.toArray,.agg #[.int .i64 z.t.Cm,.int .i64 z.t.node,.string z.t.data]]) (fun z=>[.isv Lr (.agg z.cs.toArray) z.n z.F]):=by
 refine enter func6 rfl ntmps6 fun w0=>?_
 refine Qw (E:=E9) ?_
 rintro a c rfl l1 l2
 refine go ?_;intros
 rename_i gc
 refine cf (Anf 0 _ ⟨Bm,a,c,G⟩ ⟨0,0⟩ FT ⟨Nat.le_refl _,by decide,by decide⟩ (by omega)) fun z hz=>?_
 refine Ao ?_
 obtain ⟨⟨q2,q8,qd,qu,qq⟩,hz2⟩:=hz
 obtain ⟨x,cs,Fx,zs⟩:=z
 dsimp only at q2 q8 qd qu qq hz2 ⊢
 refine C9 (x:=x) ?_
 rintro b1 d1 G1 b2 d2 G2 b3 d3 G3 b4 d4 G4 b5 d5 G5 b6 d6 G6 b7 d7 G7 ev - - - - - - -
 obtain rfl:cs=[.slice b1 x.Ar.Ad.length d1,.int .i64 x.Ab.Aa.Ak,.int .i64 x.Ab.Aa.size,.slice b2 x.Ab.Aa.Aj.length d2,.int .i64 x.Ab.Ai,.int .i64 x.Ab.quiet,.slice b3 x.Ab.holds.length d3,.slice b4 x.Ah.length d4,.slice b5 x.Ae.length d5,.slice b6 x.down.length d6,.slice b7 x.up.length d7]:=by simpa using ev
 clear ev
 refine Jq ?_;intros
 refine Av [0] [4,5] ?_
 refine dt 0 ?_
 refine dt 1 ?_
 refine dt 2 ?_
 refine dO 3 (by kernel_rfl) (by rw [List.getElem?_toArray];rfl) ?_
 apply At;rfl;kernel_rfl;exact Bb
 refine cf (Uv _ _ ⟨Bm,a,c,G⟩ zs x _ Fx q2 q8 qd qu qq hz2 (by omega)) fun t ht=>?_
 refine Ao ?_
 obtain ⟨t1,t2⟩:=ht
 refine dk ?_
 refine dO 4 (by kernel_rfl) (by rw [List.getElem?_toArray];rfl) ?_
 apply Cf;rfl;rfl;rfl;(first|exact AggC.s|exact OneC.s);rfl;exact Ci;exact Cg;rfl
 refine Lv ?_
 refine dO 5 (by kernel_rfl) (by rw [List.getElem?_toArray];rfl) ?_
 apply Cf;rfl;rfl;rfl;(first|exact AggC.s|exact OneC.s);rfl;exact Ci;exact Cg;rfl
 refine Lv ?_
 refine dd ?_
 refine go ?_;intros
 refine ret ⟨x,_,Fx,t.t⟩ ⟨t1,qq⟩ rfl
structure RnT where
 n:En
 cs:List Value
 Fn:List Nat
 l:List Fa
 a:Option Addr
 c:Nat
 F:List Nat
structure RnD where
 l:List Fa
 a:Option Addr
 c:Nat
 F:List Nat
 i:Nat
 s:O8
structure RnA (z:RnD):Prop where
 i:z.i≤7
 l:z.l.length+z.i≤7
 s:Hq (9100+300 * (7 - z.i)) z.s
structure RnB (z:RnD):Prop where
 i:z.i≤32
 l:z.l.length≤8+z.i
 s:Hq (12000+10 * z.i) z.s
theorem W4 (v:Value) (Bm:List Int) (G FT:List Nat):Fn prog 16 [v] [.sl E9 v Bm G,Li FT] [] (fun (z:StD)=>z.t.data.size≤maxLen) (fun z=>.agg #[.int .i64 z.t.Cm,.int .i64 z.t.node,.string z.t.data]) (fun z=>[]):=by
 refine enter func16 rfl ntmps16 fun w0=>?_
 refine Qw (E:=E9) ?_
 rintro a c rfl l1 l2
 refine go ?_;intros
 rename_i gc
 refine cf (Aen 0 _ ⟨Bm,a,c,G⟩ ⟨0,0⟩ ⟨Nat.le_refl _,by decide,by decide⟩ (by omega)) fun t ht=>?_
 refine Ao ?_
 obtain ⟨ht1,ht2⟩:=ht
 refine Jq ?_;intros
 refine Ax (E:=Be) (xs:=t.l) fun Ft=>?_
 refine Ky ⟨t.l⟩ ?_
 refine go ?_;intros
 refine cf (Uj ⟨t.l⟩ 0 3 _ _) fun z _=>?_
 refine Ao ?_
 obtain ⟨en,gn⟩:=X7 (t:=⟨t.l⟩) (f:=0) (y:=3) ht1 (by omega) (by omega) (by omega) (by omega)
 rw [en]
 obtain ⟨cs,F0⟩:=z
 dsimp only
 generalize hN:Rn ⟨t.l⟩ 0 3=N at *
 obtain ⟨q2,q8,qd,qu,qe,qt⟩:=Zq gn
 refine K9 N0 fun F0=>?_
 refine C9 (x:=N) ?_
 rintro b1 d1 G1 b2 d2 G2 b3 d3 G3 b4 d4 G4 b5 d5 G5 b6 d6 G6 b7 d7 G7 ev - - - - - - -
 obtain rfl:cs=[.slice b1 N.Ar.Ad.length d1,.int .i64 N.Ab.Aa.Ak,.int .i64 N.Ab.Aa.size,.slice b2 N.Ab.Aa.Aj.length d2,.int .i64 N.Ab.Ai,.int .i64 N.Ab.quiet,.slice b3 N.Ab.holds.length d3,.slice b4 N.Ah.length d4,.slice b5 N.Ae.length d5,.slice b6 N.down.length d6,.slice b7 N.up.length d7]:=by simpa using ev
 clear ev
 refine go ?_;intros
 refine cf (Uv _ _ ⟨Bm,a,c,G⟩ t.s N _ F0 q2 q8 qd qu (Sc gn) ht2 (by omega)) fun u hu=>?_
 refine Ao ?_
 refine go ?_;intros
 refine ret u hu.1 rfl
theorem Adl (v:Value) (Bm:List Int) (G FT:List Nat):Fn prog 13 [v] [.sl E9 v Bm G,Li FT] [] (fun (z:RnT)=>z.l.length≤1000∧∀q∈z.n.down++z.n.up,q.length≤6) (fun z=>.tuple #[.agg z.cs.toArray,.slice z.a z.l.length z.c]) (fun z=>[.isv Lr (.agg z.cs.toArray) z.n z.Fn,.sl Kk (.slice z.a z.l.length z.c) z.l z.F]):=by
 refine enter func13 rfl ntmps13 fun w0=>?_
 refine Qw (E:=E9) ?_
 rintro a c rfl l1 l2
 refine go ?_;intros
 rename_i gc
 refine cf (Anf 0 _ ⟨Bm,a,c,G⟩ ⟨0,0⟩ FT ⟨Nat.le_refl _,by decide,by decide⟩ (by omega)) fun z hz=>?_
 refine Ao ?_
 obtain ⟨⟨q2,q8,qd,qu,qq⟩,hz2⟩:=hz
 obtain ⟨x,cs,Fx,zs⟩:=z
 dsimp only at q2 q8 qd qu qq hz2 ⊢
 refine C9 (x:=x) ?_
 rintro b1 d1 G1 b2 d2 G2 b3 d3 G3 b4 d4 G4 b5 d5 G5 b6 d6 G6 b7 d7 G7 ev - - - - - - -
 obtain rfl:cs=[.slice b1 x.Ar.Ad.length d1,.int .i64 x.Ab.Aa.Ak,.int .i64 x.Ab.Aa.size,.slice b2 x.Ab.Aa.Aj.length d2,.int .i64 x.Ab.Ai,.int .i64 x.Ab.quiet,.slice b3 x.Ab.holds.length d3,.slice b4 x.Ah.length d4,.slice b5 x.Ae.length d5,.slice b6 x.down.length d6,.slice b7 x.up.length d7]:=by simpa using ev
 clear ev
 refine Jq ?_;intros
 refine C1 Kk ?_
 refine go ?_;intros
 refine cf (Ek _ _ ⟨Bm,a,c,G⟩ 8 zs hz2 (by omega) (by omega)) fun y hy=>?_
 refine Ao ?_
 obtain ⟨r0,s2⟩:=y
 obtain ⟨hr0,h2⟩:=hy
 dsimp only at hr0 h2 ⊢
 have hr0:r0≤7:=by omega
 refine go ?_;intros
 refine Cq [2,3,4,5] (fun z:RnD=>[(6,.slice z.a z.l.length z.c),(7,.int .i64 (z.i:Nat))]) (fun z=>[.ow Kk 39 (.slice z.a z.l.length z.c) z.l z.F,.row gc 67 0 [] [.slice a Bm.length c,.int .i64 (z.s.k:Nat),.int .u64 z.s.Dq] []]) RnA (fun z=>z.i) ⟨[],_,_,_,r0,s2⟩ ⟨hr0,by show 0+r0≤7;omega,h2.mono (by show _≤9100+300 * (7 - r0);omega)⟩ fun z hz=>?_
 obtain ⟨z1,z2,z3⟩:=hz
 refine go ?_;intros
 refine Bd rfl (fun h3=>?_) (fun h3=>?_)
 ·have hi0:0 < z.i:=by omega
  refine go ?_;intros
  refine cf (Ww _ _ ⟨Bm,a,c,G⟩ z.s x _ Fx q2 q8 qd qu qq z3 (by omega)) fun t ht=>?_
  refine Ao ?_
  obtain ⟨t1,t2,t3⟩:=ht
  refine go ?_;intros
  apply wO
  refine Lh (Xk t.t t2) Vf fun a9 c9 F9=>?_
  refine go ?_;intros
  rw [show ((z.i:Nat):Int) - 1=((z.i - 1:Nat):Int) by omega]
  refine Co ⟨z.l++[t.t],a9,c9,F9,z.i - 1,t.s⟩ ⟨by show z.i - 1≤7;omega,by show (z.l++[_]).length+(z.i - 1)≤7;simp;omega,t3.mono (by show _≤9100+300 * (7 - (z.i - 1));omega)⟩ (by show z.i - 1 < z.i;omega)
 refine go ?_;intros
 refine cf (Ek _ _ ⟨Bm,a,c,G⟩ 24 z.s z3 (by omega) (by omega)) fun y hy=>?_
 refine Ao ?_
 obtain ⟨r6,s6⟩:=y
 obtain ⟨hr6,h6⟩:=hy
 dsimp only at hr6 h6 ⊢
 have hr6:r6≤23:=by omega
 refine go ?_;intros
 refine Bd rfl (fun e0=>?_) (fun e0=>?_)
 ·refine go ?_;intros
  refine cf (Uv _ _ ⟨Bm,a,c,G⟩ s6 x _ Fx q2 q8 qd qu qq h6 (by omega)) fun t ht=>?_
  refine Ao ?_
  obtain ⟨t2,t3⟩:=ht
  refine go ?_;intros
  apply wO
  refine Lh (Xk t.t t2) Vf fun a9 c9 F9=>?_
  refine go ?_;intros
  refine Ax (E:=Kk) (xs:=z.l++[t.t]) fun Fs=>?_
  refine ret ⟨x,_,Fx,z.l++[t.t],a9,c9,Fs⟩ ⟨by show (z.l++[_]).length≤1000;simp;omega,qq⟩ rfl
 refine go ?_;intros
 refine Bd rfl (fun e1=>?_) (fun e1=>?_)
 ·refine go ?_;intros
  refine Cq [2,3,4,5] (fun z:RnD=>[(6,.slice z.a z.l.length z.c),(8,.int .i64 (z.i:Nat))]) (fun z=>[.ow Kk 39 (.slice z.a z.l.length z.c) z.l z.F,.row gc 67 0 [] [.slice a Bm.length c,.int .i64 (z.s.k:Nat),.int .u64 z.s.Dq] []]) RnB (fun z=>32 - z.i) ⟨z.l,z.a,z.c,_,0,s6⟩ ⟨by show 0≤32;omega,by show z.l.length≤8+0;omega,h6.mono (by show _≤12000+10 * 0;omega)⟩ fun z hz=>?_
  obtain ⟨z1,z2,z3⟩:=hz
  refine go ?_;intros
  refine cf (Ek _ _ ⟨Bm,a,c,G⟩ 2 z.s z3 (by omega) (by omega)) fun y hy=>?_
  refine Ao ?_
  obtain ⟨r5,s5⟩:=y
  obtain ⟨hr5,h5⟩:=hy
  dsimp only at hr5 h5 ⊢
  have hr5:r5≤1:=by omega
  refine go ?_;intros
  refine Cw rfl rfl (fun g1=>?_) (fun g1=>?_)
  ·refine go ?_;intros
   refine Bd rfl (fun g2=>?_) (fun g2=>?_)
   ·refine go ?_;intros
    apply wO
    refine Lh (Xk ⟨4,0,⟨#[]⟩⟩ (Nat.zero_le _)) Vf fun a9 c9 F9=>?_
    refine go ?_;intros
    rw [show ((z.i:Nat):Int)+1=((z.i+1:Nat):Int) by omega]
    refine Co ⟨z.l++[⟨4,0,⟨#[]⟩⟩],a9,c9,F9,z.i+1,s5⟩ ⟨by show z.i+1≤32;omega,by show (z.l++[_]).length≤8+(z.i+1);simp;omega,h5.mono (by show _≤12000+10 * (z.i+1);omega)⟩ (by show 32 - (z.i+1) < 32 - z.i;omega)
   ·refine go ?_;intros
    refine Ax (E:=Kk) (xs:=z.l) fun Fs=>?_
    refine ret ⟨x,_,Fx,z.l,z.a,z.c,Fs⟩ ⟨by show z.l.length≤1000;omega,qq⟩ rfl
  ·refine go ?_;intros
   refine Ax (E:=Kk) (xs:=z.l) fun Fs=>?_
   refine ret ⟨x,_,Fx,z.l,z.a,z.c,Fs⟩ ⟨by show z.l.length≤1000;omega,qq⟩ rfl
 ·refine go ?_;intros
  refine Ax (E:=Kk) (xs:=z.l) fun Fs=>?_
  refine ret ⟨x,_,Fx,z.l,z.a,z.c,Fs⟩ ⟨by show z.l.length≤1000;omega,qq⟩ rfl
theorem Amj (s:G0) (w:World):(Op.equalIn 10000 188 (.agg #[.bool s.Sd,.string s.Df]) (.agg #[.bool s.Sd,.string s.Df])).run prog w=.ok true w:=by
 have u1:=underlying4
 have u2:=underlying9
 have hS:prog.underlying 188=some (.struct (prog.fieldsOf 188)):=by kernel_rfl
 rw [show (10000:Nat)=9999+1 from rfl,run_equalIn_agg w 9999 188 _ _ hS (by kernel_rfl)]
 have a1:=Tryz.isAgg4
 have a2:=Tryz.isAgg9
 simp only [Program.fieldsOf,underlying188]
 go_simp
theorem Ahx {n:Nat} {fr:Fr} {H:List Pc} {x y:Operand} {ty t':TypeId} {s:G0} (hx:ev fr x=some (.agg #[.bool s.Sd,.string s.Df])) (hy:ev fr y=some (.agg #[.bool s.Sd,.string s.Df])):Yd prog n fr H (.binOp .neq 188 x y t') ty (.bool false):=.mk fun c w d pos Ca gd hA _=>by
 have h2:(eqGuard .neq 188 x y (.agg #[.bool s.Sd,.string s.Df]) (.agg #[.bool s.Sd,.string s.Df])).run prog w=.ok () w:=run_eqGuard_agg w _ _ _ _ _ _ (by kernel_rfl)
 simp only [execOp,hA.ev hx,hA.ev hy,Sem.run_bind,h2,Result.andThen_ok,run_neq_struct,Amj,Sem.run_pure]
 rfl
theorem Akv (v v2:Value) (x:Am) (F F2:List Nat):Fn prog 95 [v,v2] [.isv Bj v x F,.isv Bj v2 x F2] [] (fun (_:Unit)=>True) (fun _=>.bool true) (fun _=>[]):=by
 refine enter func95 rfl ntmps95 fun w0=>?_
 refine Ck (v:=v) (x:=x) (F:=F) ?_
 rintro a c F3 rfl l1
 unfold maxLen at l1
 refine Ck (v:=v2) (x:=x) (F:=F2) ?_
 rintro a2 c2 F4 rfl l3
 refine go ?_;intros
 refine Cw rfl rfl (fun h=>?_) (fun h=>?_)
 ·exact absurd rfl h
 refine go ?_;intros
 refine Bd rfl (fun h2=>?_) (fun h2=>?_)
 ·exact absurd rfl h2
 refine go ?_;intros
 refine Ds [2,3,4] (fun k:Nat=>[(5,.int .i64 k)]) (fun k=>k≤x.An.length) (fun k=>x.An.length - k) 0 (Nat.zero_le _) fun k hk=>?_
 refine go ?_;intros
 refine Bd rfl (fun h3=>?_) (fun h3=>?_)
 ·have hk3:k < x.An.length:=by omega
  refine Mh (a:=a) (xs:=x.An) k ?_
  rintro hi b o e s1
  rw [e]
  refine Mh (a:=a2) (xs:=x.An) k ?_
  rintro hi2 b2 o2 e2 s2
  rw [e2]
  refine Jq ?_;intros
  refine Av [0,1,2,3] [] ?_
  refine dt 0 ?_
  refine dt 1 ?_
  refine dt 2 ?_
  refine dt 3 ?_
  refine dt 4 ?_
  refine dt 5 ?_
  refine dt 6 ?_
  refine dt 7 ?_
  refine dt 8 ?_
  refine dt 9 ?_
  refine dt 10 ?_ (hy:=Ahx rfl rfl)
  refine dd ?_
  refine go ?_;intros
  refine Co (k+1) hk3 (by omega)
 ·refine go ?_;intros
  refine ret () trivial rfl
theorem Aec (s:A1) (w:World):(Op.equalIn 10000 165 (.agg #[.int .i64 s.Ac,.int .i64 s.Ff,.int .i64 s.By,.int .i64 s.Dc]) (.agg #[.int .i64 s.Ac,.int .i64 s.Ff,.int .i64 s.By,.int .i64 s.Dc])).run prog w=.ok true w:=by
 have u0:=underlying3
 have a0:=Tryz.isAgg3
 have hS:prog.underlying 165=some (.struct (prog.fieldsOf 165)):=by kernel_rfl
 rw [show (10000:Nat)=9999+1 from rfl,run_equalIn_agg w 9999 165 _ _ hS (by kernel_rfl)]
 simp only [Program.fieldsOf,underlying165]
 go_simp
theorem Abl {n:Nat} {fr:Fr} {H:List Pc} {x y:Operand} {ty t':TypeId} {s:A1} (hx:ev fr x=some (.agg #[.int .i64 s.Ac,.int .i64 s.Ff,.int .i64 s.By,.int .i64 s.Dc])) (hy:ev fr y=some (.agg #[.int .i64 s.Ac,.int .i64 s.Ff,.int .i64 s.By,.int .i64 s.Dc])):Yd prog n fr H (.binOp .neq 165 x y t') ty (.bool false):=.mk fun c w d pos Ca gd hA _=>by
 have h2:(eqGuard .neq 165 x y (.agg #[.int .i64 s.Ac,.int .i64 s.Ff,.int .i64 s.By,.int .i64 s.Dc]) (.agg #[.int .i64 s.Ac,.int .i64 s.Ff,.int .i64 s.By,.int .i64 s.Dc])).run prog w=.ok () w:=run_eqGuard_agg w _ _ _ _ _ _ (by kernel_rfl)
 simp only [execOp,hA.ev hx,hA.ev hy,Sem.run_bind,h2,Result.andThen_ok,run_neq_struct,Aec,Sem.run_pure]
 rfl
theorem Ade (a a2:Option Addr) (c c2:Nat) (xs:List A1) (F F2:List Nat) (hl:xs.length≤9223372036854775807):Fn prog 96 [.slice a xs.length c,.slice a2 xs.length c2] [.sl Ay (.slice a xs.length c) xs F,.sl Ay (.slice a2 xs.length c2) xs F2] [] (fun (_:Unit)=>True) (fun _=>.bool true) (fun _=>[]):=by
 refine enter func96 rfl ntmps96 fun w0=>?_
 refine go ?_;intros
 refine Bd rfl (fun h2=>?_) (fun h2=>?_)
 ·exact absurd rfl h2
 refine go ?_;intros
 refine Ds [0,1,4] (fun k:Nat=>[(5,.int .i64 k)]) (fun k=>k≤xs.length) (fun k=>xs.length - k) 0 (Nat.zero_le _) fun k hk=>?_
 refine go ?_;intros
 refine Bd rfl (fun h3=>?_) (fun h3=>?_)
 ·have hk3:k < xs.length:=by omega
  refine Hb (a:=a) (xs:=xs) k ?_
  rintro hi b o e
  rw [e]
  refine Hb (a:=a2) (xs:=xs) k ?_
  rintro hi2 b2 o2 e2
  rw [e2]
  refine Jq ?_;intros
  refine Av [0,1] [] ?_
  refine dt 0 ?_
  refine dt 1 ?_
  refine dt 2 ?_
  refine dt 3 ?_
  refine dt 4 ?_
  refine dt 5 ?_
  refine dt 6 ?_
  refine dt 7 ?_
  refine dt 8 ?_ (hy:=Abl rfl rfl)
  refine dd ?_
  refine go ?_;intros
  refine Co (k+1) hk3 (by omega)
 ·refine go ?_;intros
  refine ret () trivial rfl
theorem Add (v v2:Value) (x:A7) (F F2:List Nat):Fn prog 41 [v,v2] [.isv Bn v x F,.isv Bn v2 x F2] [] (fun (_:Unit)=>True) (fun _=>.bool true) (fun _=>[]):=by
 refine enter func41 rfl ntmps41 fun w0=>?_
 refine E4 (v:=v) (x:=x) (F:=F) ?_
 rintro a1 c1 F3 a2 c2 F4 rfl l1 l2
 unfold maxLen at l1 l2
 refine B8 x.Aa (a1:=a1) ?_
 generalize F3=F5
 refine E4 (v:=v2) (x:=x) (F:=F2) ?_
 rintro a3 c3 F6 a4 c4 F7 rfl l3 l4
 refine B8 x.Aa (a1:=a3) ?_
 generalize F6=F8
 cases hs:x.Bf
 all_goals
  refine go ?_;intros
  refine Cw rfl rfl (fun h=>?_) (fun h=>?_)
  rotate_left
  ·exact absurd rfl h
  refine go ?_;intros
  refine cf (Akv _ _ x.Aa F5 F8) fun _ _=>?_
  refine Ao ?_
  refine go ?_;intros
  refine cf (Ade a2 a4 c2 c4 x.Ap F4 F7 (by omega)) fun _ _=>?_
  refine Ao ?_
  refine go ?_;intros
  refine ret () trivial rfl
theorem Abj (v v2:Value) (x:En) (F F2:List Nat) (hs:∀q∈x.down++x.up,q.length≤1000000000):Fn prog 9 [v,v2] [.isv Lr v x F,.isv Lr v2 x F2] [] (fun (_:Unit)=>True) (fun _=>.bool true) (fun _=>[]):=by
 refine enter func9 rfl ntmps9 fun w0=>?_
 refine C9 (v:=v) (x:=x) (F:=F) ?_
 rintro a1 c1 F1 a2 c2 G2 a3 c3 F3 a4 c4 F4 a5 c5 F5 a6 c6 F6 a7 c7 F7 rfl - - - l4 l5 l6 l7
 refine Dt x.Ab (a1:=a2) ?_
 refine C9 (v:=v2) (x:=x) (F:=F2) ?_
 rintro b1 d1 H1 b2 d2 H2 b3 d3 H3 b4 d4 H4 b5 d5 H5 b6 d6 H6 b7 d7 H7 rfl - - - - - - -
 refine Dt x.Ab (a1:=b2) (a2:=b3) ?_
 unfold maxLen at l4 l5 l6 l7
 refine go ?_;intros
 refine cf (Abi _ _ x.Ar.Ad _ _) fun _ _=>?_
 refine Ao ?_
 refine go ?_;intros
 refine cf (Ahr _ _ x.Ab _ _) fun _ _=>?_
 refine Ao ?_
 refine go ?_;intros
 refine Cw rfl rfl (fun h=>?_) (fun h=>?_)
 ·exact absurd rfl h
 refine go ?_;intros
 refine Cw rfl rfl (fun h=>?_) (fun h=>?_)
 ·exact absurd rfl h
 refine go ?_;intros
 refine Cw rfl rfl (fun h=>?_) (fun h=>?_)
 ·exact absurd rfl h
 refine go ?_;intros
 refine Bd rfl (fun h=>?_) (fun h=>?_)
 ·exact absurd rfl h
 refine go ?_;intros
 refine Ds [2,3,4] (fun k:Nat=>[(5,.int .i64 k)]) (fun k=>k≤x.Ah.length) (fun k=>x.Ah.length - k) 0 (Nat.zero_le _) fun k hk=>?_
 refine go ?_;intros
 refine Bd rfl (fun h3=>?_) (fun h3=>?_)
 ·have hk3:k < x.Ah.length:=by omega
  refine Of (a:=a4) (xs:=x.Ah) k ?_
  rintro hia ga oa ma da La ea -
  rw [ea]
  refine Eq x.Ah[k] ?_
  refine Of (a:=b4) (xs:=x.Ah) k ?_
  rintro hib gb ob mb db Lb eb -
  rw [eb]
  refine Eq x.Ah[k] ?_
  refine Jq ?_;intros
  refine Av [1,4,6,7] [] ?_
  refine dt 0 ?_
  refine dt 1 ?_
  refine dt 2 ?_
  refine dt 3 ?_
  refine dt 4 ?_
  refine dt 5 ?_
  refine dt 6 ?_
  refine dt 7 ?_
  refine dt 8 ?_
  refine dt 9 ?_
  refine dO 10 (by kernel_rfl) (by rw [List.getElem?_toArray];rfl) ?_
  apply At;rfl;kernel_rfl;exact Bb
  refine cf (Aeo _ _ x.Ah[k] _ _) fun _ _=>?_
  refine Ao ?_
  refine dk ?_
  refine dt 11 ?_
  refine dd ?_
  refine go ?_;intros
  refine Co (k+1) hk3 (by omega)
 refine go ?_;intros
 refine Ds [2,3,4] (fun k:Nat=>[(6,.int .i64 k)]) (fun k=>k≤x.Ae.length) (fun k=>x.Ae.length - k) 0 (Nat.zero_le _) fun k hk=>?_
 refine go ?_;intros
 refine Bd rfl (fun h3=>?_) (fun h3=>?_)
 ·have hk3:k < x.Ae.length:=by omega
  refine Mz (a:=a5) (xs:=x.Ae) k ?_
  rintro hia ga oa ma da La na fa Ma ea - -
  rw [ea]
  refine Eh x.Ae[k] ?_
  refine Mz (a:=b5) (xs:=x.Ae) k ?_
  rintro hib gb ob mb db Lb nb fb Mb eb - -
  rw [eb]
  refine Eh x.Ae[k] ?_
  refine Jq ?_;intros
  refine Av [1,5,8,9] [] ?_
  refine dt 0 ?_
  refine dt 1 ?_
  refine dt 2 ?_
  refine dt 3 ?_
  refine dt 4 ?_
  refine dt 5 ?_
  refine dt 6 ?_
  refine dt 7 ?_
  refine dt 8 ?_
  refine dt 9 ?_
  refine dO 10 (by kernel_rfl) (by rw [List.getElem?_toArray];rfl) ?_
  apply At;rfl;kernel_rfl;exact Bb
  refine cf (Add _ _ x.Ae[k] _ _) fun _ _=>?_
  refine Ao ?_
  refine dk ?_
  refine dt 11 ?_
  refine dd ?_
  refine go ?_;intros
  refine Co (k+1) hk3 (by omega)
 refine go ?_;intros
 refine Ds [2,3,4] (fun k:Nat=>[(7,.int .i64 k)]) (fun k=>k≤x.down.length) (fun k=>x.down.length - k) 0 (Nat.zero_le _) fun k hk=>?_
 refine go ?_;intros
 refine Bd rfl (fun h3=>?_) (fun h3=>?_)
 ·have hk3:k < x.down.length:=by omega
  refine M0 (E:=Al) (hz:=by decide) (a:=a6) (xs:=x.down) k ?_
  rintro hia ga oa ma da La ea -
  rw [ea]
  refine M0 (E:=Al) (hz:=by decide) (a:=b6) (xs:=x.down) k ?_
  rintro hib gb ob mb db Lb eb -
  rw [eb]
  refine Jq ?_;intros
  refine Av [0,2,4,5] [] ?_
  refine dt 0 ?_
  refine dt 1 ?_
  refine dt 2 ?_
  refine dt 3 ?_
  refine dt 4 ?_
  refine dt 5 ?_
  refine dt 6 ?_
  refine dt 7 ?_
  refine dt 8 ?_
  refine dt 9 ?_
  refine dO 10 (by kernel_rfl) (by rw [List.getElem?_toArray];rfl) ?_
  apply At;rfl;kernel_rfl;exact Bb
  refine cf (Yx ma mb da db x.down[k] _ _ (hs _ (List.mem_append_left _ (List.getElem_mem hk3)))) fun _ _=>?_
  refine Ao ?_
  refine dk ?_
  refine dt 11 ?_
  refine dd ?_
  refine go ?_;intros
  refine Co (k+1) hk3 (by omega)
 refine go ?_;intros
 refine Ds [2,3,4] (fun k:Nat=>[(8,.int .i64 k)]) (fun k=>k≤x.up.length) (fun k=>x.up.length - k) 0 (Nat.zero_le _) fun k hk=>?_
 refine go ?_;intros
 refine Bd rfl (fun h3=>?_) (fun h3=>?_)
 ·have hk3:k < x.up.length:=by omega
  refine M0 (E:=Al) (hz:=by decide) (a:=a7) (xs:=x.up) k ?_
  rintro hia ga oa ma da La ea -
  rw [ea]
  refine M0 (E:=Al) (hz:=by decide) (a:=b7) (xs:=x.up) k ?_
  rintro hib gb ob mb db Lb eb -
  rw [eb]
  refine Jq ?_;intros
  refine Av [0,2,4,5] [] ?_
  refine dt 0 ?_
  refine dt 1 ?_
  refine dt 2 ?_
  refine dt 3 ?_
  refine dt 4 ?_
  refine dt 5 ?_
  refine dt 6 ?_
  refine dt 7 ?_
  refine dt 8 ?_
  refine dt 9 ?_
  refine dO 10 (by kernel_rfl) (by rw [List.getElem?_toArray];rfl) ?_
  apply At;rfl;kernel_rfl;exact Bb
  refine cf (Yx ma mb da db x.up[k] _ _ (hs _ (List.mem_append_right _ (List.getElem_mem hk3)))) fun _ _=>?_
  refine Ao ?_
  refine dk ?_
  refine dt 11 ?_
  refine dd ?_
  refine go ?_;intros
  refine Co (k+1) hk3 (by omega)
 refine go ?_;intros
 refine ret () trivial rfl
structure DrS where
 x:NE
 z:NV
 a:Option Addr
 c:Nat
 F:List Nat
structure DrK where
 k:Nat
 z:NV
 a:Option Addr
 c:Nat
 F:List Nat
theorem Ahn {n:En} {s:Fa} (hg:A8 n=true) (hs:Dg s=true):n.Ar.Ad.length=(Fm n (Cd n s)).Ar.Ad.length∧n.Ah.length=(Fm n (Cd n s)).Ah.length∧n.Ae.length=(Fm n (Cd n s)).Ae.length∧n.down.length=(Fm n (Cd n s)).down.length∧n.up.length=(Fm n (Cd n s)).up.length:=by
 cases e:Cd n s with
 | none=>exact ⟨rfl,rfl,rfl,rfl,rfl⟩
 | some r=>exact Ae6 hg (Id hg hs e) (Ol e)
theorem Aok (n:En) (s:Fa) (g:Nat) (a1:Option Addr) (c1:Nat) (F1:List Nat) (a2:Option Addr) (c2:Nat) (F2:List Nat) (a3:Option Addr) (c3:Nat) (F3:List Nat) (a4:Option Addr) (c4:Nat) (F4:List Nat) (a5:Option Addr) (c5:Nat) (F5:List Nat) (a6:Option Addr) (c6:Nat) (F6:List Nat) (a7:Option Addr) (c7:Nat) (F7:List Nat) (FT:List Nat) (hg:A8 n=true) (hs:Dg s=true) (hss:s.data.size≤maxLen) :
  Fn prog 34 [Eo g 0 0,.agg #[.int .i64 (s).Cm,.int .i64 (s).node,.string (s).data]] [Li FT] [.row g 37 0 [] [.slice a1 n.Ar.Ad.length c1,.int .i64 n.Ab.Aa.Ak,.int .i64 n.Ab.Aa.size,.slice a2 n.Ab.Aa.Aj.length c2,.int .i64 n.Ab.Ai,.int .i64 n.Ab.quiet,.slice a3 n.Ab.holds.length c3,.slice a4 n.Ah.length c4,.slice a5 n.Ae.length c5,.slice a6 n.down.length c6,.slice a7 n.up.length c7] [],.ow Be 3 (.slice a1 n.Ar.Ad.length c1) n.Ar.Ad F1,.ow A6 9 (.slice a2 n.Ab.Aa.Aj.length c2) n.Ab.Aa.Aj F2,.ow Bi 134 (.slice a3 n.Ab.holds.length c3) n.Ab.holds F3,.ow B4 77 (.slice a4 n.Ah.length c4) n.Ah F4,.ow Bt 84 (.slice a5 n.Ae.length c5) n.Ae F5,.ow (H9 Al 110) 86 (.slice a6 n.down.length c6) n.down F6,.ow (H9 Al 110) 86 (.slice a7 n.up.length c7) n.up F7] (fun (_:NV × KA)=>True) (fun z=>.tuple #[.slice z.2.a (Aa4 (Cd n s)).length z.2.c,.bool (Cd n s).isSome]) (fun z=>[.row g 37 0 [] [.slice z.1.a1 (Fm n (Cd n s)).Ar.Ad.length z.1.c1,.int .i64 (Fm n (Cd n s)).Ab.Aa.Ak,.int .i64 (Fm n (Cd n s)).Ab.Aa.size,.slice z.1.a2 (Fm n (Cd n s)).Ab.Aa.Aj.length z.1.c2,.int .i64 (Fm n (Cd n s)).Ab.Ai,.int .i64 (Fm n (Cd n s)).Ab.quiet,.slice z.1.a3 (Fm n (Cd n s)).Ab.holds.length z.1.c3,.slice z.1.a4 (Fm n (Cd n s)).Ah.length z.1.c4,.slice z.1.a5 (Fm n (Cd n s)).Ae.length z.1.c5,.slice z.1.a6 (Fm n (Cd n s)).down.length z.1.c6,.slice z.1.a7 (Fm n (Cd n s)).up.length z.1.c7] [],.ow Be 3 (.slice z.1.a1 (Fm n (Cd n s)).Ar.Ad.length z.1.c1) (Fm n (Cd n s)).Ar.Ad z.1.F1,.ow A6 9 (.slice z.1.a2 (Fm n (Cd n s)).Ab.Aa.Aj.length z.1.c2) (Fm n (Cd n s)).Ab.Aa.Aj z.1.F2,.ow Bi 134 (.slice z.1.a3 (Fm n (Cd n s)).Ab.holds.length z.1.c3) (Fm n (Cd n s)).Ab.holds z.1.F3,.ow B4 77 (.slice z.1.a4 (Fm n (Cd n s)).Ah.length z.1.c4) (Fm n (Cd n s)).Ah z.1.F4,.ow Bt 84 (.slice z.1.a5 (Fm n (Cd n s)).Ae.length z.1.c5) (Fm n (Cd n s)).Ae z.1.F5,.ow (H9 Al 110) 86 (.slice z.1.a6 (Fm n (Cd n s)).down.length z.1.c6) (Fm n (Cd n s)).down z.1.F6,.ow (H9 Al 110) 86 (.slice z.1.a7 (Fm n (Cd n s)).up.length z.1.c7) (Fm n (Cd n s)).up z.1.F7,.ow A6 9 (.slice z.2.a (Aa4 (Cd n s)).length z.2.c) (Aa4 (Cd n s)) z.2.F]):=by
 obtain ⟨k1,k2,k3,k4,k5⟩:=Ahn hg hs
 have h:=Akh n s g a1 c1 F1 a2 c2 F2 a3 c3 F3 a4 c4 F4 a5 c5 F5 a6 c6 F6 a7 c7 F7 FT hg hs hss
 rw [←k1,←k2,←k3,←k4,←k5]
 exact h
theorem Ui (s:Fa) (hss:s.data.size≤maxLen):Fn prog 18 [.agg #[.int .i64 s.Cm,.int .i64 s.node,.string s.data]] [] [] (fun (_:Unit)=>True) (fun _=>.bool (Dg s)) (fun _=>[]):=by
 refine enter func18 rfl ntmps18 fun w0=>?_
 refine go ?_;intros
 refine cf (U9 s hss) fun _ _=>?_
 refine Ao ?_
 refine go ?_;intros
 refine ret () trivial rfl
theorem Qa (n:En) (v:Value) (F:List Nat):Fn prog 12 [v] [.isv Lr v n F] [] (fun (_:Unit)=>True) (fun _=>.bool (A8 n)) (fun _=>[]):=by
 refine enter func12 rfl ntmps12 fun w0=>?_
 refine C9 ?_
 rintro a1 c1 F1 a2 c2 F2 a3 c3 F3 a4 c4 F4 a5 c5 F5 a6 c6 F6 a7 c7 F7 rfl l1 l2 l3 l4 l5 l6 l7
 refine go ?_;intros
 refine cf (U7 n _ F) fun _ _=>?_
 refine Ao ?_
 refine go ?_;intros
 refine ret () trivial rfl
end Go.Proofs.YtaemjogbahcbcaaGreatDoor
namespace Go.Proofs.YtaemjogbahcbcaaGreatDoor

open Go.RowKit
open Go.RowKit
open Go.RowKit
end Go.Proofs.YtaemjogbahcbcaaGreatDoor
namespace Go.Proofs.YtaemjogbahcbcaaGreatDoor
open Go.RowKit
theorem Zb (n:En) (s:Fa) (v:Value) (F FT:List Nat) (hss:s.data.size≤maxLen):Fn prog 8 [v,.agg #[.int .i64 s.Cm,.int .i64 s.node,.string s.data]] [.isv Lr v n F,Li FT] [] (fun (_:Rd)=>True) (fun z=>.tuple #[.agg z.cs.toArray,.slice z.a (As n s).2.1.length z.c,.bool (As n s).2.2]) (fun z=>[.isv Lr (.agg z.cs.toArray) (As n s).1 z.F,.ow A6 9 (.slice z.a (As n s).2.1.length z.c) (As n s).2.1 z.Fe]):=by
 refine enter func8 rfl ntmps8 fun w0=>?_
 refine C9 ?_
 rintro a1 c1 F1 a2 c2 F2 a3 c3 F3 a4 c4 F4 a5 c5 F5 a6 c6 F6 a7 c7 F7 rfl l1 l2 l3 l4 l5 l6 l7
 refine go ?_;intros
 refine cf (U7 n _ F) fun _ _=>?_
 refine Ao ?_
 cases g1:A8 n
 ·rw [Qu (n:=n) (s:=s) (by rw [g1];rfl)]
  refine Ba Be (by decide) ?_
  refine Ba A6 (by decide) ?_
  refine Ba Bi (by decide) ?_
  refine Ba Bh (by decide) ?_
  refine Ba Bn (by decide) ?_
  refine Ba (Kj Al (by decide)) (by decide) ?_
  refine Ba (Kj Al (by decide)) (by decide) ?_
  refine Ga Kd (a1:=none) (c1:=0) (a2:=none) (c2:=0) (a3:=none) (c3:=0) (a4:=none) (c4:=0) (a5:=none) (c5:=0) (a6:=none) (c6:=0) (a7:=none) (c7:=0) ?_
  refine go ?_;intros
  refine C1 A6 ?_
  refine go ?_;intros
  refine ret (⟨[.slice none 0 0,.int .i64 0,.int .i64 0,.slice none 0 0,.int .i64 0,.int .i64 0,.slice none 0 0,.slice none 0 0,.slice none 0 0,.slice none 0 0,.slice none 0 0],_,_,_,_⟩:Rd) trivial rfl
 refine go ?_;intros
 refine cf (U9 s hss) fun _ _=>?_
 refine Ao ?_
 cases g2:Dg s
 ·rw [Qu (n:=n) (s:=s) (by rw [g1,g2];rfl)]
  refine Ba Be (by decide) ?_
  refine Ba A6 (by decide) ?_
  refine Ba Bi (by decide) ?_
  refine Ba Bh (by decide) ?_
  refine Ba Bn (by decide) ?_
  refine Ba (Kj Al (by decide)) (by decide) ?_
  refine Ba (Kj Al (by decide)) (by decide) ?_
  refine Ga Kd (a1:=none) (c1:=0) (a2:=none) (c2:=0) (a3:=none) (c3:=0) (a4:=none) (c4:=0) (a5:=none) (c5:=0) (a6:=none) (c6:=0) (a7:=none) (c7:=0) ?_
  refine go ?_;intros
  refine C1 A6 ?_
  refine go ?_;intros
  refine ret (⟨[.slice none 0 0,.int .i64 0,.int .i64 0,.slice none 0 0,.int .i64 0,.int .i64 0,.slice none 0 0,.slice none 0 0,.slice none 0 0,.slice none 0 0,.slice none 0 0],_,_,_,_⟩:Rd) trivial rfl
 refine go ?_;intros
 refine cf (L0 n s _ F FT hss g1 g2) fun z _=>?_
 refine Ao ?_
 refine C9 ?_
 rintro b1 d1 G1 b2 d2 G2 b3 d3 G3 b4 d4 G4 b5 d5 G5 b6 d6 G6 b7 d7 G7 ez - - - - - - -
 rw [ez]
 refine go ?_;intros
 refine ret (⟨_,z.F,z.a,z.c,z.Fe⟩:Rd) trivial rfl
structure DqS where
 x:NE
 b:Bool
 cs:List Value
 F:List Nat
 a:Option Addr
 c:Nat
 Fe:List Nat
structure DqK where
 k:Nat
 cs:List Value
 F:List Nat
 a:Option Addr
 c:Nat
 Fe:List Nat
theorem Ac3 {n:En} {s:Fa} (e:Cd n s=none):As n s=(Kd,[],false):=by
 unfold As
 split
 ·rw [e]
 ·rfl
theorem Ac4 {n:En} {s:Fa} {r:NE} (g1:A8 n=true) (g2:Dg s=true) (e:Cd n s=some r):As n s=(r.1,r.2,true):=by unfold As;rw [g1,g2,e];rfl
structure FnS where
 k:Nat
 z:NV
 a:Option Addr
 c:Nat
 F:List Nat
theorem Ak4 (fid:FuncId) (bd caps:List Value) (A:List Pc) (hA:A.all (fun p=>!p.mu)=true) (xs:List Fa) (a:Option Addr) (c:Nat) (F:List Nat) (p:Fa→Bool) (hb:Mv prog fid=true) (hl:xs.length≤1000000000)
  (hp:∀x∈xs,∀w,Mc A w→Calls prog fid (bd++[(.agg #[.int .i64 (x).Cm,.int .i64 (x).node,.string (x).data]:Value)]++caps).toArray w fun e w'=>e=.returned (.bool (p x))∧Below w.heap.size w w') :
  Fn prog 177 [.slice a xs.length c,.func (.func fid) bd.toArray caps.toArray] (.sl Kk (.slice a xs.length c) xs F::A) [] (fun (_:Unit)=>True) (fun _=>.int .i64 (N2 p xs)) (fun _=>[]):=by
 refine enter func177 rfl ntmps177 (fun w0=>?_) rfl (by simpa [Pc.mu] using hA) .nil
 refine go ?_;intros
 refine Ds [0,1,4,7] (fun k:Nat=>[(8,.int .i64 (k:Nat))]) (fun k=>k≤xs.length∧∀j (_:j < k) (hj:j < xs.length),p xs[j]=false) (fun k=>xs.length - k) 0 ⟨Nat.zero_le _,fun j h=>by omega⟩ fun k hk=>?_
 obtain ⟨hk1,hk2⟩:=hk
 refine go ?_;intros
 refine Bd rfl (fun h5=>?_) (fun h5=>?_)
 ·have hh:k < xs.length:=by omega
  refine go ?_;intros
  refine Uw (xs:=xs) k ?_
  rintro hi b o e sz
  rw [e]
  refine go ?_;intros
  apply wO
  refine Si rfl rfl hb Bb ?_
  refine cb (fun w st=>hp xs[k] (List.getElem_mem hh) w (fun q hq=>st.on q (by simp [hq]))) ?_
  cases hpk:p xs[k]
  ·refine go ?_;intros
   refine Pn ?_
   refine Co (hH:=Ib _) (k+1) ⟨hh,fun j hj h=>?_⟩ (by omega)
   rcases Nat.lt_or_eq_of_le (Nat.lt_succ_iff.1 hj) with h2|rfl
   ·exact hk2 j h2 h
   ·exact hpk
  ·refine go ?_;intros
   refine ret () trivial ?_
   rw [Lk hh hk2 hpk];rfl
 ·obtain rfl:k=xs.length:=by omega
  refine go ?_;intros
  refine ret () trivial ?_
  rw [J3 (fun j hj=>hk2 j hj hj)];rfl
theorem Ak0 (fid:FuncId) (bd caps:List Value) (A:List Pc) (hA:A.all (fun p=>!p.mu)=true) (xs:List Fa) (a:Option Addr) (c:Nat) (F:List Nat) (p:Fa→Bool) (hb:Mv prog fid=true) (hl:xs.length≤1000000000)
  (hp:∀x∈xs,∀w,Mc A w→Calls prog fid (bd++[(.agg #[.int .i64 (x).Cm,.int .i64 (x).node,.string (x).data]:Value)]++caps).toArray w fun e w'=>e=.returned (.bool (p x))∧Below w.heap.size w w') :
  Fn prog 114 [.slice a xs.length c,.func (.func fid) bd.toArray caps.toArray] (.sl Kk (.slice a xs.length c) xs F::A) [] (fun (_:Unit)=>True) (fun _=>.bool (xs.any p)) (fun _=>[]):=by
 refine enter func114 rfl ntmps114 (fun w0=>?_) rfl (by simpa [Pc.mu] using hA) .nil
 refine go ?_;intros
 refine cb (fun w st=>(Ak4 fid bd caps A hA xs a c F p hb hl hp).val w (fun q hq=>st.on q (by simpa using hq)) (by simpa [Pc.mu] using hA)) ?_
 refine go ?_;intros
 refine ret () trivial ?_
 rw [Oy];rfl
theorem Yj {n:En} {l:List Fa} (h:Ph n l=false):Ec n l=(Kd,[],0,false):=by unfold Ec;rw [h];rfl
theorem Wv {n:En} {l:List Fa} (h:Ph n l=true) {q:NE × Nat} (e:L9 (n,[]) l 0=q):Ec n l=(q.1.1,q.1.2,(q.2:Int),true):=by unfold Ec;rw [h,e];rfl
theorem Sj {n:En} {l:List Fa}:Ph n l=true↔A8 n=true∧l.length≤30∧∀s∈l,Dg s=true:=by
 unfold Ph
 simp only [Bool.and_eq_true,decide_eq_true_eq,List.all_eq_true]
 exact ⟨fun ⟨⟨a,b⟩,c⟩=>⟨a,b,c⟩,fun ⟨a,b,c⟩=>⟨⟨a,b⟩,c⟩⟩
theorem Aj8 {l:List Fa} {i:Nat} (hi:i < l.length) (x:NE):L9 x (l.drop i) i=match Cd x.1 l[i] with
  | none=>(x,i)
  | some y=>L9 (y.1,x.2++y.2) (l.drop (i+1)) (i+1):=by
 rw [List.drop_eq_getElem_cons hi];rfl
structure RnS where
 i:Nat
 x:NE
 z:NV
 a:Option Addr
 c:Nat
 F:List Nat
structure RqS where
 i:Nat
 x:NE
 cs:List Value
 F:List Nat
 a:Option Addr
 c:Nat
 Fe:List Nat
theorem Anr (s:Fa) (hs:s.data.size≤maxLen):Fn prog 115 [.agg #[.int .i64 (s).Cm,.int .i64 (s).node,.string (s).data]] [] [] (fun (_:Unit)=>True) (fun _=>.bool (!Dg s)) (fun _=>[]):=by
 refine enter func115 rfl ntmps115 fun w0=>?_
 refine go ?_;intros
 refine cf (Pk s hs) fun _ _=>?_
 refine Ao ?_
 refine go ?_;intros
 refine ret () trivial rfl
theorem Adp (l:List Fa) (a:Option Addr) (c:Nat) (F:List Nat) (hl:l.length≤9223372036854775807):Fn prog 48 [.slice a l.length c,.int .i64 30] [.sl Kk (.slice a l.length c) l F] [] (fun (_:Unit)=>True) (fun _=>.bool (decide (l.length≤30) && l.all Dg)) (fun _=>[]):=by
 refine enter func48 rfl ntmps48 fun w0=>?_
 refine Rt (E:=Kk) (xs:=l) (fun s:Fa=>s.data.size≤maxLen) (fun w cs x F h=>by obtain ⟨_,h,_⟩:=h;exact h) ?_
 intro hz
 refine go ?_;intros
 refine Cw rfl rfl (fun h1=>?_) (fun h1=>?_)
 ·refine go ?_;intros
  refine cb (fun w st=>(Ak0 115 [] [] [] rfl l a c F (fun s=>!Dg s) (by kernel_rfl) (by omega) (fun s hs w _=>(Anr s (hz s hs)).val w (by intro q hq;cases hq))).val w (Ia (st.get (p:=.sl Kk (.slice a l.length c) l F) (by exact Bw)))) ?_
  refine go ?_;intros
  refine ret () trivial ?_
  rw [decide_eq_true (show l.length≤30 by omega),List.not_any_eq_all_not];simp;rfl
 ·refine go ?_;intros
  refine ret () trivial ?_
  rw [decide_eq_false (show ¬l.length≤30 by omega)];rfl
theorem Aif (n:En) (l:List Fa) (v:Value) (F:List Nat) (a:Option Addr) (c:Nat) (Fl FT:List Nat):Fn prog 14 [v,.slice a l.length c] [.isv Lr v n F,.sl Kk (.slice a l.length c) l Fl,Li FT] [] (fun (_:Rd)=>True) (fun z=>.tuple #[.agg z.cs.toArray,.slice z.a (Ec n l).2.1.length z.c,.int .i64 (Ec n l).2.2.1,.bool (Ec n l).2.2.2]) (fun z=>[.own Afs (.agg z.cs.toArray) (Ec n l).1 z.F,.ow A6 9 (.slice z.a (Ec n l).2.1.length z.c) (Ec n l).2.1 z.Fe]):=by
 refine enter func14 rfl ntmps14 fun w0=>?_
 refine Rt (E:=Kk) (xs:=l) (fun s:Fa=>s.data.size≤maxLen) (fun w cs x F h=>by obtain ⟨_,h,_⟩:=h;exact h) ?_
 intro hz
 refine Qw (E:=Kk) (xs:=l) ?_
 rintro a0 c0 e0 hl1 hl2
 simp only [Value.slice.injEq,true_and] at e0
 obtain ⟨rfl,rfl⟩:=e0
 refine C9 ?_
 rintro a1 c1 F1 a2 c2 F2 a3 c3 F3 a4 c4 F4 a5 c5 F5 a6 c6 F6 a7 c7 F7 rfl l1 l2 l3 l4 l5 l6 l7
 refine B7 Be 3 ?_
 refine B7 A6 9 ?_
 refine B7 Bi 134 ?_
 refine B7 B4 77 ?_
 refine B7 Bt 84 ?_
 refine B7 (H9 Al 110) 86 ?_
 refine B7 (H9 Al 110) 86 ?_
 refine M2 Kd ?_
 refine B7 A6 9 ?_
 refine go ?_;intros
 refine cf (Md n _ F) fun _ _=>?_
 refine Ao ?_
 cases g1:A8 n
 ·rw [Yj (n:=n) (l:=l) (by unfold Ph;rw [g1];rfl)]
  refine go ?_;intros
  refine ret (⟨[.slice none 0 0,.int .i64 0,.int .i64 0,.slice none 0 0,.int .i64 0,.int .i64 0,.slice none 0 0,.slice none 0 0,.slice none 0 0,.slice none 0 0,.slice none 0 0],_,none,0,[]⟩:Rd) trivial rfl
 refine go ?_;intros
 refine cf (Adp l a c Fl (by omega)) fun _ _=>?_
 refine Ao ?_
 cases g2:(decide (l.length≤30) && l.all Dg)
 ·rw [Yj (n:=n) (l:=l) (by unfold Ph;rw [Bool.and_assoc,g1,g2];rfl)]
  refine go ?_;intros
  refine ret (⟨[.slice none 0 0,.int .i64 0,.int .i64 0,.slice none 0 0,.int .i64 0,.int .i64 0,.slice none 0 0,.slice none 0 0,.slice none 0 0,.slice none 0 0,.slice none 0 0],_,none,0,[]⟩:Rd) trivial rfl
 have hok:Ph n l=true:=by unfold Ph;rw [Bool.and_assoc,g1,g2];rfl
 obtain ⟨-,h30,hall⟩:=Sj.1 hok
 refine go ?_;intros
 refine cf (Abs n _ F (Sv g1)) fun z _=>?_
 refine Ao ?_
 refine go ?_;intros
 rename_i g
 refine B7 A6 9 ?_
 refine go ?_;intros
 refine Cq [1,4,8,25,26] (fun s:RnS=>[(9,.slice s.a s.x.2.length s.c),(27,.int .i64 (s.i:Nat))]) (fun s=>[.row g 37 0 [] [.slice s.z.a1 s.x.1.Ar.Ad.length s.z.c1,.int .i64 s.x.1.Ab.Aa.Ak,.int .i64 s.x.1.Ab.Aa.size,.slice s.z.a2 s.x.1.Ab.Aa.Aj.length s.z.c2,.int .i64 s.x.1.Ab.Ai,.int .i64 s.x.1.Ab.quiet,.slice s.z.a3 s.x.1.Ab.holds.length s.z.c3,.slice s.z.a4 s.x.1.Ah.length s.z.c4,.slice s.z.a5 s.x.1.Ae.length s.z.c5,.slice s.z.a6 s.x.1.down.length s.z.c6,.slice s.z.a7 s.x.1.up.length s.z.c7] [],.ow Be 3 (.slice s.z.a1 s.x.1.Ar.Ad.length s.z.c1) s.x.1.Ar.Ad s.z.F1,.ow A6 9 (.slice s.z.a2 s.x.1.Ab.Aa.Aj.length s.z.c2) s.x.1.Ab.Aa.Aj s.z.F2,.ow Bi 134 (.slice s.z.a3 s.x.1.Ab.holds.length s.z.c3) s.x.1.Ab.holds s.z.F3,.ow B4 77 (.slice s.z.a4 s.x.1.Ah.length s.z.c4) s.x.1.Ah s.z.F4,.ow Bt 84 (.slice s.z.a5 s.x.1.Ae.length s.z.c5) s.x.1.Ae s.z.F5,.ow (H9 Al 110) 86 (.slice s.z.a6 s.x.1.down.length s.z.c6) s.x.1.down s.z.F6,.ow (H9 Al 110) 86 (.slice s.z.a7 s.x.1.up.length s.z.c7) s.x.1.up s.z.F7,.ow A6 9 (.slice s.a s.x.2.length s.c) s.x.2 s.F]) (fun s=>s.i≤l.length∧A8 s.x.1=true∧s.x.2.length≤400000 * s.i∧L9 s.x (l.drop s.i) s.i=L9 (n,[]) l 0) (fun s=>l.length - s.i) ⟨0,(n,[]),z,none,0,[]⟩ ⟨Nat.zero_le _,g1,Nat.le_refl _,rfl⟩ fun s hs0=>?_
 obtain ⟨i,x,⟨x1,w1,K1,x2,w2,K2,x3,w3,K3,x4,w4,K4,x5,w5,K5,x6,w6,K6,x7,w7,K7⟩,ea,ec,eF⟩:=s
 obtain ⟨hi,gx,hx,hR⟩:=hs0
 dsimp only at hi gx hx hR ⊢
 refine go ?_;intros
 refine Bd rfl (fun h4=>?_) (fun h4=>?_)
 ·have hil:i < l.length:=by omega
  have hok1:=hall l[i] (List.getElem_mem hil)
  rw [Aj8 hil] at hR
  refine Uw (xs:=l) i ?_
  rintro hi2 b9 o9 e9 s9
  rw [e9]
  refine go ?_;intros
  refine cf (Aok x.1 l[i] g x1 w1 K1 x2 w2 K2 x3 w3 K3 x4 w4 K4 x5 w5 K5 x6 w6 K6 x7 w7 K7 FT gx hok1 s9) fun y _=>?_
  refine Ao ?_
  cases e:Cd x.1 l[i] with
  | none =>
   rw [e] at hR
   rw [Wv hok hR.symm]
   refine go ?_;intros
   refine M2 x.1 ?_
   refine ret (⟨[.slice y.1.a1 x.1.Ar.Ad.length y.1.c1,.int .i64 x.1.Ab.Aa.Ak,.int .i64 x.1.Ab.Aa.size,.slice y.1.a2 x.1.Ab.Aa.Aj.length y.1.c2,.int .i64 x.1.Ab.Ai,.int .i64 x.1.Ab.quiet,.slice y.1.a3 x.1.Ab.holds.length y.1.c3,.slice y.1.a4 x.1.Ah.length y.1.c4,.slice y.1.a5 x.1.Ae.length y.1.c5,.slice y.1.a6 x.1.down.length y.1.c6,.slice y.1.a7 x.1.up.length y.1.c7],_,_,_,_⟩:Rd) trivial rfl
  | some r =>
   rw [e] at hR
   have hr:=Id gx hok1 e
   have hf:=Ul gx hok1 e
   have hl9:(x.2++r.2).length=x.2.length+r.2.length:=List.length_append
   change T _ _ (.row g 37 0 [] [.slice y.1.a1 r.1.Ar.Ad.length y.1.c1,.int .i64 r.1.Ab.Aa.Ak,.int .i64 r.1.Ab.Aa.size,.slice y.1.a2 r.1.Ab.Aa.Aj.length y.1.c2,.int .i64 r.1.Ab.Ai,.int .i64 r.1.Ab.quiet,.slice y.1.a3 r.1.Ab.holds.length y.1.c3,.slice y.1.a4 r.1.Ah.length y.1.c4,.slice y.1.a5 r.1.Ae.length y.1.c5,.slice y.1.a6 r.1.down.length y.1.c6,.slice y.1.a7 r.1.up.length y.1.c7] []::.ow Be 3 (.slice y.1.a1 r.1.Ar.Ad.length y.1.c1) r.1.Ar.Ad y.1.F1::.ow A6 9 (.slice y.1.a2 r.1.Ab.Aa.Aj.length y.1.c2) r.1.Ab.Aa.Aj y.1.F2::.ow Bi 134 (.slice y.1.a3 r.1.Ab.holds.length y.1.c3) r.1.Ab.holds y.1.F3::.ow B4 77 (.slice y.1.a4 r.1.Ah.length y.1.c4) r.1.Ah y.1.F4::.ow Bt 84 (.slice y.1.a5 r.1.Ae.length y.1.c5) r.1.Ae y.1.F5::.ow (H9 Al 110) 86 (.slice y.1.a6 r.1.down.length y.1.c6) r.1.down y.1.F6::.ow (H9 Al 110) 86 (.slice y.1.a7 r.1.up.length y.1.c7) r.1.up y.1.F7::.ow A6 9 (.slice y.2.a r.2.length y.2.c) r.2 y.2.F::_) _
   refine Ax (E:=A6) (xs:=r.2) fun F8=>?_
   refine go ?_;intros
   apply wO
   refine Kx (E:=A6) (xs:=x.2) (ys:=r.2) Du Fc fun a9 c9 F9=>?_
   refine go ?_;intros
   refine Co ⟨i+1,(r.1,x.2++r.2),y.1,a9,c9,F9⟩ ⟨hil,hr,by show (x.2++r.2).length≤400000 * (i+1);omega,hR⟩ (by show l.length - (i+1) < l.length - i;omega)
 ·obtain rfl:i=l.length:=by omega
  rw [List.drop_length] at hR
  rw [Wv hok hR.symm]
  refine go ?_;intros
  refine M2 x.1 ?_
  refine ret (⟨[.slice x1 x.1.Ar.Ad.length w1,.int .i64 x.1.Ab.Aa.Ak,.int .i64 x.1.Ab.Aa.size,.slice x2 x.1.Ab.Aa.Aj.length w2,.int .i64 x.1.Ab.Ai,.int .i64 x.1.Ab.quiet,.slice x3 x.1.Ab.holds.length w3,.slice x4 x.1.Ah.length w4,.slice x5 x.1.Ae.length w5,.slice x6 x.1.down.length w6,.slice x7 x.1.up.length w7],_,_,_,_⟩:Rd) trivial rfl
theorem Abc (n:En) (l:List Fa) (v:Value) (F:List Nat) (a:Option Addr) (c:Nat) (Fl FT:List Nat):Fn prog 15 [v,.slice a l.length c] [.isv Lr v n F,.sl Kk (.slice a l.length c) l Fl,Li FT] [] (fun (_:Rd)=>True) (fun z=>.tuple #[.agg z.cs.toArray,.slice z.a (Ec n l).2.1.length z.c,.int .i64 (Ec n l).2.2.1,.bool (Ec n l).2.2.2]) (fun z=>[.isv Lr (.agg z.cs.toArray) (Ec n l).1 z.F,.ow A6 9 (.slice z.a (Ec n l).2.1.length z.c) (Ec n l).2.1 z.Fe]):=by
 refine enter func15 rfl ntmps15 fun w0=>?_
 refine Rt (E:=Kk) (xs:=l) (fun s:Fa=>s.data.size≤maxLen) (fun w cs x F h=>by obtain ⟨_,h,_⟩:=h;exact h) ?_
 intro hz
 refine Qw (E:=Kk) (xs:=l) ?_
 rintro a0 c0 e0 hl1 hl2
 simp only [Value.slice.injEq,true_and] at e0
 obtain ⟨rfl,rfl⟩:=e0
 refine C9 ?_
 rintro a1 c1 F1 a2 c2 F2 a3 c3 F3 a4 c4 F4 a5 c5 F5 a6 c6 F6 a7 c7 F7 rfl l1 l2 l3 l4 l5 l6 l7
 refine go ?_;intros
 refine cf (U7 n _ F) fun _ _=>?_
 refine Ao ?_
 refine C1 A6 ?_
 cases g1:A8 n
 ·rw [Yj (n:=n) (l:=l) (by unfold Ph;rw [g1];rfl)]
  refine Ba Be (by decide) ?_
  refine Ba A6 (by decide) ?_
  refine Ba Bi (by decide) ?_
  refine Ba Bh (by decide) ?_
  refine Ba Bn (by decide) ?_
  refine Ba (Kj Al (by decide)) (by decide) ?_
  refine Ba (Kj Al (by decide)) (by decide) ?_
  refine Ga Kd (a1:=none) (c1:=0) (a2:=none) (c2:=0) (a3:=none) (c3:=0) (a4:=none) (c4:=0) (a5:=none) (c5:=0) (a6:=none) (c6:=0) (a7:=none) (c7:=0) ?_
  refine go ?_;intros
  refine ret (⟨[.slice none 0 0,.int .i64 0,.int .i64 0,.slice none 0 0,.int .i64 0,.int .i64 0,.slice none 0 0,.slice none 0 0,.slice none 0 0,.slice none 0 0,.slice none 0 0],_,_,_,_⟩:Rd) trivial rfl
 refine go ?_;intros
 refine Bd rfl (fun h3=>?_) (fun h3=>?_)
 ·rw [Yj (n:=n) (l:=l) (by unfold Ph;rw [decide_eq_false (show ¬l.length≤30 by omega)];simp)]
  refine Ba Be (by decide) ?_
  refine Ba A6 (by decide) ?_
  refine Ba Bi (by decide) ?_
  refine Ba Bh (by decide) ?_
  refine Ba Bn (by decide) ?_
  refine Ba (Kj Al (by decide)) (by decide) ?_
  refine Ba (Kj Al (by decide)) (by decide) ?_
  refine Ga Kd (a1:=none) (c1:=0) (a2:=none) (c2:=0) (a3:=none) (c3:=0) (a4:=none) (c4:=0) (a5:=none) (c5:=0) (a6:=none) (c6:=0) (a7:=none) (c7:=0) ?_
  refine go ?_;intros
  refine ret (⟨[.slice none 0 0,.int .i64 0,.int .i64 0,.slice none 0 0,.int .i64 0,.int .i64 0,.slice none 0 0,.slice none 0 0,.slice none 0 0,.slice none 0 0,.slice none 0 0],_,_,_,_⟩:Rd) trivial rfl
 have h30:l.length≤30:=by omega
 refine go ?_;intros
 refine Ds [0,1,2,4,8] (fun k:Nat=>[(9,.int .i64 (k:Nat))]) (fun k=>k≤l.length∧∀j,j < k→∀h:j < l.length,Dg l[j]=true) (fun k=>l.length - k) 0 ⟨Nat.zero_le _,fun j h=>by omega⟩ fun k hk=>?_
 obtain ⟨hk1,hk2⟩:=hk
 refine go ?_;intros
 refine Bd rfl (fun h5=>?_) (fun h5=>?_)
 ·have hkl:k < l.length:=by omega
  refine Uw (xs:=l) k ?_
  rintro hi2 b9 o9 e9 s9
  rw [e9]
  refine go ?_;intros
  refine cf (U9 l[k] s9) fun _ _=>?_
  refine Ao ?_
  cases g2:Dg l[k]
  ·rw [Yj (n:=n) (l:=l) (by unfold Ph;rw [show l.all Dg=false from List.all_eq_false.2 ⟨l[k],List.getElem_mem hkl,by simp [g2]⟩];simp)]
   refine Ba Be (by decide) ?_
   refine Ba A6 (by decide) ?_
   refine Ba Bi (by decide) ?_
   refine Ba Bh (by decide) ?_
   refine Ba Bn (by decide) ?_
   refine Ba (Kj Al (by decide)) (by decide) ?_
   refine Ba (Kj Al (by decide)) (by decide) ?_
   refine Ga Kd (a1:=none) (c1:=0) (a2:=none) (c2:=0) (a3:=none) (c3:=0) (a4:=none) (c4:=0) (a5:=none) (c5:=0) (a6:=none) (c6:=0) (a7:=none) (c7:=0) ?_
   refine go ?_;intros
   refine ret (⟨[.slice none 0 0,.int .i64 0,.int .i64 0,.slice none 0 0,.int .i64 0,.int .i64 0,.slice none 0 0,.slice none 0 0,.slice none 0 0,.slice none 0 0,.slice none 0 0],_,_,_,_⟩:Rd) trivial rfl
  ·refine go ?_;intros
   refine Co (k+1) ⟨hkl,fun j hj h=>?_⟩ (by show l.length - (k+1) < l.length - k;omega)
   rcases Nat.lt_or_eq_of_le (Nat.lt_succ_iff.1 hj) with h'|rfl
   ·exact hk2 j h' h
   ·exact g2
 obtain rfl:k=l.length:=by omega
 have hall:∀s∈l,Dg s=true:=fun s hs=>by obtain ⟨j,hj,rfl⟩:=List.getElem_of_mem hs;exact hk2 j hj hj
 have hok:Ph n l=true:=Sj.2 ⟨g1,h30,hall⟩
 refine go ?_;intros
 refine cf (Aci n _ F g1) fun z _=>?_
 refine Ao ?_
 obtain ⟨w,y⟩:=z
 dsimp only
 refine Ax (E:=Be) (xs:=n.Ar.Ad) fun Ft=>?_
 refine Wz I0 (xs:=n.Ah) fun He=>?_
 refine Wz Pp (xs:=n.Ae) fun Hr=>?_
 refine Wz (Qc (Ls.refl Al) (by decide) _) (xs:=n.down) fun Hd=>?_
 refine Wz (Qc (Ls.refl Al) (by decide) _) (xs:=n.up) fun Hu=>?_
 refine Ej (x:=n.Ab) ?_
 rintro b2 d2 G2 b3 d3 G3 ev - -
 simp only [Value.agg.injEq,Array.mk.injEq,List.cons.injEq,Value.slice.injEq,true_and,and_true] at ev
 obtain ⟨⟨rfl,rfl⟩,rfl,rfl⟩:=ev
 refine Ga n (a1:=w.a1) (c1:=w.c1) (a2:=w.s.a) (c2:=w.s.c) (a3:=w.s.a2) (c3:=w.s.c2) (a4:=y.a4) (c4:=y.c4) (a5:=y.a5) (c5:=y.c5) (a6:=y.a6) (c6:=y.c6) (a7:=y.a7) (c7:=y.c7) ?_
 refine go ?_;intros
 rename_i g4
 refine Cq [1,4,10] (fun s:RqS=>[(8,.slice s.a s.x.2.length s.c),(11,.int .i64 (s.i:Nat))]) (fun s=>[.row g4 37 0 [] s.cs [],.isv Lr (.agg s.cs.toArray) s.x.1 s.F,.ow A6 9 (.slice s.a s.x.2.length s.c) s.x.2 s.Fe]) (fun s=>s.i≤l.length∧A8 s.x.1=true∧s.x.2.length≤400000 * s.i∧L9 s.x (l.drop s.i) s.i=L9 (n,[]) l 0) (fun s=>l.length - s.i) ⟨0,(n,[]),_,_,_,_,_⟩ ⟨Nat.zero_le _,g1,Nat.le_refl _,rfl⟩ fun s hs0=>?_
 obtain ⟨i,x,cs,Fx,ea,ec,eF⟩:=s
 obtain ⟨hi,gx,hx,hR⟩:=hs0
 dsimp only at hi gx hx hR ⊢
 refine C9 (x:=x.1) ?_
 rintro b1 d1 G1 b2 d2 G2 b3 d3 G3 b4 d4 G4 b5 d5 G5 b6 d6 G6 b7 d7 G7 ev - - - - - - -
 obtain rfl:cs=[.slice b1 x.1.Ar.Ad.length d1,.int .i64 x.1.Ab.Aa.Ak,.int .i64 x.1.Ab.Aa.size,.slice b2 x.1.Ab.Aa.Aj.length d2,.int .i64 x.1.Ab.Ai,.int .i64 x.1.Ab.quiet,.slice b3 x.1.Ab.holds.length d3,.slice b4 x.1.Ah.length d4,.slice b5 x.1.Ae.length d5,.slice b6 x.1.down.length d6,.slice b7 x.1.up.length d7]:=by simpa using ev
 clear ev
 refine go ?_;intros
 refine Bd rfl (fun h4=>?_) (fun h4=>?_)
 ·have hil:i < l.length:=by omega
  have hok1:=hall l[i] (List.getElem_mem hil)
  rw [Aj8 hil] at hR
  refine Uw (xs:=l) i ?_
  rintro hi2 b9 o9 e9 s9
  rw [e9]
  cases e:Cd x.1 l[i] with
  | none =>
   rw [e] at hR
   rw [Wv hok hR.symm]
   refine go ?_;intros
   refine Av [0,8] [] ?_
   refine dt 0 ?_
   refine dt 1 ?_
   refine dt 2 ?_
   refine dt 3 ?_
   refine dt 4 ?_
   refine Nn 5 10 (by kernel_rfl) (by rw [List.getElem?_toArray];rfl) (by rw [List.getElem?_toArray];rfl) ?_ ?_
   ·apply At;rfl;kernel_rfl;exact Bb
    refine cf (L0 x.1 l[i] _ _ FT s9 gx hok1) fun z _=>?_
    refine Ao ?_
    rw [Ac3 e]
    refine C9 (x:=Kd) ?_
    rintro f1 t1 G1 f2 t2 G2 f3 t3 G3 f4 t4 G4 f5 t5 G5 f6 t6 G6 f7 t7 G7 ez - - - - - - -
    rw [ez]
    refine dk ?_
    refine dt 6 ?_
    refine dt 7 ?_
    refine dt 8 ?_
    refine dt 9 ?_
    refine dO 10 (by kernel_rfl) (by rw [List.getElem?_toArray];rfl) ?_
    apply Bv;rfl;intro _
    refine dk ?_
    refine dO 11 (by kernel_rfl) (by rw [List.getElem?_toArray];rfl) ?_
    apply Cf;rfl;rfl;rfl;(first|exact AggC.s|exact OneC.s);rfl;exact Ci;exact Cg;rfl
    refine dk ?_
    refine dt 12 ?_
    refine dt 13 ?_
    refine dd ?_
    refine go ?_;intros
    refine ret (⟨_,Fx,ea,ec,eF⟩:Rd) trivial rfl
   ·apply Bv;rfl;intro _
    refine dk ?_
    refine dO 5 (by kernel_rfl) (by rw [List.getElem?_toArray];rfl) ?_
    apply At;rfl;kernel_rfl;exact Bb
    refine cf (L0 x.1 l[i] _ _ FT s9 gx hok1) fun z _=>?_
    refine Ao ?_
    rw [Ac3 e]
    refine C9 (x:=Kd) ?_
    rintro f1 t1 G1 f2 t2 G2 f3 t3 G3 f4 t4 G4 f5 t5 G5 f6 t6 G6 f7 t7 G7 ez - - - - - - -
    rw [ez]
    refine dk ?_
    refine dt 6 ?_
    refine dt 7 ?_
    refine dt 8 ?_
    refine dt 9 ?_
    refine dO 11 (by kernel_rfl) (by rw [List.getElem?_toArray];rfl) ?_
    apply Cf;rfl;rfl;rfl;(first|exact AggC.s|exact OneC.s);rfl;exact Ci;exact Cg;rfl
    refine dk ?_
    refine dt 12 ?_
    refine dt 13 ?_
    refine dd ?_
    refine go ?_;intros
    refine ret (⟨_,Fx,ea,ec,eF⟩:Rd) trivial rfl
  | some r =>
   rw [e] at hR
   have hr:=Id gx hok1 e
   have hf:=Ul gx hok1 e
   have hl9:(x.2++r.2).length=x.2.length+r.2.length:=List.length_append
   refine go ?_;intros
   refine Av [0,8] [] ?_
   refine dt 0 ?_
   refine dt 1 ?_
   refine dt 2 ?_
   refine dt 3 ?_
   refine dt 4 ?_
   refine Nn 5 10 (by kernel_rfl) (by rw [List.getElem?_toArray];rfl) (by rw [List.getElem?_toArray];rfl) ?_ ?_
   ·apply At;rfl;kernel_rfl;exact Bb
    refine cf (L0 x.1 l[i] _ _ FT s9 gx hok1) fun z _=>?_
    refine Ao ?_
    rw [Ac4 gx hok1 e]
    refine C9 (x:=r.1) ?_
    rintro f1 t1 G1 f2 t2 G2 f3 t3 G3 f4 t4 G4 f5 t5 G5 f6 t6 G6 f7 t7 G7 ez - - - - - - -
    rw [ez]
    refine dk ?_
    refine dt 6 ?_
    refine dt 7 ?_
    refine dt 8 ?_
    refine dt 9 ?_
    refine dO 10 (by kernel_rfl) (by rw [List.getElem?_toArray];rfl) ?_
    apply Bv;rfl;intro _
    refine dk ?_
    refine dO 11 (by kernel_rfl) (by rw [List.getElem?_toArray];rfl) ?_
    apply Cf;rfl;rfl;rfl;(first|exact AggC.s|exact OneC.s);rfl;exact Ci;exact Cg;rfl
    refine dk ?_
    refine dt 12 ?_
    refine dt 13 ?_
    refine dd ?_
    refine Ax (E:=A6) (xs:=r.2) fun F8=>?_
    refine go ?_;intros
    apply wO
    refine Kx (E:=A6) (xs:=x.2) (ys:=r.2) Du Fc fun a9 c9 F9=>?_
    refine go ?_;intros
    refine Co ⟨i+1,(r.1,x.2++r.2),_,z.F,a9,c9,F9⟩ ⟨hil,hr,by show (x.2++r.2).length≤400000 * (i+1);omega,hR⟩ (by show l.length - (i+1) < l.length - i;omega)
   ·apply Bv;rfl;intro _
    refine dk ?_
    refine dO 5 (by kernel_rfl) (by rw [List.getElem?_toArray];rfl) ?_
    apply At;rfl;kernel_rfl;exact Bb
    refine cf (L0 x.1 l[i] _ _ FT s9 gx hok1) fun z _=>?_
    refine Ao ?_
    rw [Ac4 gx hok1 e]
    refine C9 (x:=r.1) ?_
    rintro f1 t1 G1 f2 t2 G2 f3 t3 G3 f4 t4 G4 f5 t5 G5 f6 t6 G6 f7 t7 G7 ez - - - - - - -
    rw [ez]
    refine dk ?_
    refine dt 6 ?_
    refine dt 7 ?_
    refine dt 8 ?_
    refine dt 9 ?_
    refine dO 11 (by kernel_rfl) (by rw [List.getElem?_toArray];rfl) ?_
    apply Cf;rfl;rfl;rfl;(first|exact AggC.s|exact OneC.s);rfl;exact Ci;exact Cg;rfl
    refine dk ?_
    refine dt 12 ?_
    refine dt 13 ?_
    refine dd ?_
    refine Ax (E:=A6) (xs:=r.2) fun F8=>?_
    refine go ?_;intros
    apply wO
    refine Kx (E:=A6) (xs:=x.2) (ys:=r.2) Du Fc fun a9 c9 F9=>?_
    refine go ?_;intros
    refine Co ⟨i+1,(r.1,x.2++r.2),_,z.F,a9,c9,F9⟩ ⟨hil,hr,by show (x.2++r.2).length≤400000 * (i+1);omega,hR⟩ (by show l.length - (i+1) < l.length - i;omega)
 ·obtain rfl:i=l.length:=by omega
  rw [List.drop_length] at hR
  rw [Wv hok hR.symm]
  refine go ?_;intros
  refine ret (⟨_,Fx,_,_,_⟩:Rd) trivial rfl
theorem Ajf (b:Bool):decide (¬b=b)=false:=by simp
theorem eqB (b:Bool):decide (b=b)=true:=by simp
theorem Aql (b:Int):decide (¬b=b)=false:=by simp
theorem Aky:∀q∈Kd.down++Kd.up,q.length≤6:=fun q hq=>by cases hq
theorem Ahh (n:En) (s:Fa):(∀q∈(As n s).1.down++(As n s).1.up,q.length≤6)∧((As n s).2.2=true→A8 (As n s).1=true):=by
 refine ⟨?_,Mr⟩
 cases g:(As n s).2.2
 ·have:(As n s).1=Kd:=by
   unfold As at g ⊢
   split
   ·rename_i h
    rw [if_pos h] at g
    split at g
    ·cases g
    ·rfl
   ·rfl
  rw [this];exact Aky
 ·exact Sc (Mr g)
theorem Aj4 (n:En) (l:List Fa):(∀q∈(Ec n l).1.down++(Ec n l).1.up,q.length≤6)∧((Ec n l).2.2.2=true→Ph n l=true):=by
 unfold Ec
 split
 ·rename_i h
  refine ⟨?_,fun _=>h⟩
  have h2:=Sj.1 h
  exact Sc (Yi l (x:=(n,[])) (i:=0) h2.1 h2.2.2).1
 ·exact ⟨Aky,fun h=>by cases h⟩
structure RsS where
 i:Nat
 y:NE
 cs:List Value
 F:List Nat
 a:Option Addr
 c:Nat
 Fe:List Nat
structure RsC (l:List Fa) (q:NE × Nat) (z:RsS):Prop where
 i:z.i≤q.2
 g:A8 z.y.1=true
 e:z.y.2.length≤400000 * z.i
 r:L9 z.y (l.drop z.i) z.i=q
theorem Aml (v:Value) (Bm:List Int) (G FT:List Nat):Fn prog 3 [v] [.sl E9 v Bm G,Li FT] [] (fun (_:Unit)=>True) (fun _=>.bool true) (fun _=>[]):=by
 refine enter func3 rfl ntmps3 fun w0=>?_
 refine go ?_;intros
 refine cb (fun w st=>(Aol v Bm G).val w (Ia (st.get (p:=.sl E9 v Bm G) (by simp)))) ?_
 refine go ?_;intros
 refine Bd rfl (fun h=>?_) (fun h=>?_)
 ·refine go ?_;intros
  refine ret () trivial rfl
 refine go ?_;intros
 refine cf (Abq v Bm G FT) fun z hz=>?_
 refine Ao ?_
 obtain ⟨hs,hzq⟩:=hz
 obtain ⟨x,cs,Fx,s⟩:=z
 dsimp only at hs hzq ⊢
 refine C9 (x:=x) ?_
 rintro b1 d1 G1 b2 d2 G2 b3 d3 G3 b4 d4 G4 b5 d5 G5 b6 d6 G6 b7 d7 G7 ev - - - - - - -
 obtain rfl:cs=[.slice b1 x.Ar.Ad.length d1,.int .i64 x.Ab.Aa.Ak,.int .i64 x.Ab.Aa.size,.slice b2 x.Ab.Aa.Aj.length d2,.int .i64 x.Ab.Ai,.int .i64 x.Ab.quiet,.slice b3 x.Ab.holds.length d3,.slice b4 x.Ah.length d4,.slice b5 x.Ae.length d5,.slice b6 x.down.length d6,.slice b7 x.up.length d7]:=by simpa using ev
 clear ev
 refine go ?_;intros
 have hP:=Pq x s (.agg #[.slice b1 x.Ar.Ad.length d1,.int .i64 x.Ab.Aa.Ak,.int .i64 x.Ab.Aa.size,.slice b2 x.Ab.Aa.Aj.length d2,.int .i64 x.Ab.Ai,.int .i64 x.Ab.quiet,.slice b3 x.Ab.holds.length d3,.slice b4 x.Ah.length d4,.slice b5 x.Ae.length d5,.slice b6 x.down.length d6,.slice b7 x.up.length d7]) Fx FT hs
 have hQ:=Zb x s (.agg #[.slice b1 x.Ar.Ad.length d1,.int .i64 x.Ab.Aa.Ak,.int .i64 x.Ab.Aa.size,.slice b2 x.Ab.Aa.Aj.length d2,.int .i64 x.Ab.Ai,.int .i64 x.Ab.quiet,.slice b3 x.Ab.holds.length d3,.slice b4 x.Ah.length d4,.slice b5 x.Ae.length d5,.slice b6 x.down.length d6,.slice b7 x.up.length d7]) Fx FT hs
 obtain ⟨M,es,b,e⟩:∃M es b,As x s=(M,es,b):=⟨_,_,_,rfl⟩
 have hq:=Ahh x s
 rw [e] at hP hQ hq
 dsimp only at hP hQ hq
 refine cf hP fun p9 _=>?_
 refine Ao ?_
 obtain ⟨pcs,pF,pa,pc,pG⟩:=p9
 dsimp only
 refine K9 N0 fun F5=>?_
 refine Ax (E:=A6) (xs:=es) fun F6=>?_
 refine C9 (x:=M) ?_
 rintro e1 f1 K1 e2 f2 K2 e3 f3 K3 e4 f4 K4 e5 f5 K5 e6 f6 K6 e7 f7 K7 ev - - - - - - -
 obtain rfl:pcs=[.slice e1 M.Ar.Ad.length f1,.int .i64 M.Ab.Aa.Ak,.int .i64 M.Ab.Aa.size,.slice e2 M.Ab.Aa.Aj.length f2,.int .i64 M.Ab.Ai,.int .i64 M.Ab.quiet,.slice e3 M.Ab.holds.length f3,.slice e4 M.Ah.length f4,.slice e5 M.Ae.length f5,.slice e6 M.down.length f6,.slice e7 M.up.length f7]:=by simpa using ev
 clear ev
 refine go ?_;intros
 refine cf hQ fun q9 _=>?_
 refine Ao ?_
 obtain ⟨qcs,qF,qa,qc,qG⟩:=q9
 dsimp only
 refine Ax (E:=A6) (xs:=es) fun F7=>?_
 refine C9 (x:=M) ?_
 rintro u1 m1 R1 u2 m2 R2 u3 m3 R3 u4 m4 R4 u5 m5 R5 u6 m6 R6 u7 m7 R7 ev - - - - - - -
 obtain rfl:qcs=[.slice u1 M.Ar.Ad.length m1,.int .i64 M.Ab.Aa.Ak,.int .i64 M.Ab.Aa.size,.slice u2 M.Ab.Aa.Aj.length m2,.int .i64 M.Ab.Ai,.int .i64 M.Ab.quiet,.slice u3 M.Ab.holds.length m3,.slice u4 M.Ah.length m4,.slice u5 M.Ae.length m5,.slice u6 M.down.length m6,.slice u7 M.up.length m7]:=by simpa using ev
 clear ev
 repeat (first|(apply wO;apply oc;rfl;exact ydE)|(apply wO;apply Bv;rfl;intro _)|(apply wO;apply Cf;rfl;rfl;rfl;(first|exact AggC.s|exact OneC.s);rfl;exact Ci;exact Cg;rfl))
 apply Adf
 apply Ag6
 apply Xe
 refine Ep [0,2] [] (fun _:Unit=>[(81,.bool false)]) (fun _=>[.sl E9 v Bm G,Li FT]) (fun _=>True) ?_ fun _ _=>?_
 ·cases b
  ·replace hq:=hq.1
   refine Av [0,10,21] [] ?_
   refine dt 0 ?_
   refine dt 1 ?_
   refine dt 2 ?_
   rw [Ajf]
   refine dt 3 ?_
   refine Dm 4 ?_
   refine Dm 5 ?_
   refine Xg 6 ?_
   apply On.h
   apply At;rfl;kernel_rfl;exact Bb
   refine cf (Abj _ _ M _ _ fun q9 h9=>Nat.le_trans (hq q9 h9) (by decide)) fun _ _=>?_
   refine Ao ?_
   refine dk ?_
   refine Dm 7 ?_
   refine dt 8 ?_
   refine dt 9 ?_
   refine Dm 10 ?_
   refine Dm 11 ?_
   refine Xg 12 ?_
   apply On.h
   apply At;rfl;kernel_rfl;exact Bb
   refine cf (Rw _ _ es _ _) fun _ _=>?_
   refine Ao ?_
   refine dk ?_
   refine Dm 13 ?_
   refine dt 14 ?_
   refine dt 15 ?_
   refine Dm 16 ?_
   refine Dm 18 ?_
   refine Xg 17 ?_
   apply On.h
   apply At;rfl;kernel_rfl;exact Bb
   refine cf (Md x _ Fx) fun _ _=>?_
   refine Ao ?_
   refine dk ?_
   refine Xg 19 ?_
   apply On.h
   apply At;rfl;kernel_rfl;exact Bb
   refine cf (Qa x _ Fx) fun _ _=>?_
   refine Ao ?_
   refine dk ?_
   refine Dm 20 ?_
   rw [Ajf]
   refine dt 21 ?_
   refine dt 22 ?_
   refine Dm 23 ?_
   refine Dm 24 ?_
   refine ds 25 ?_
   refine ds 26 ?_
   refine ds 27 ?_
   refine Dm 28 ?_
   refine dt 29 ?_
   refine dd ?_
   refine B6 () trivial
  ·have hM:=hq.2 rfl
   replace hq:=hq.1
   refine Av [0,10,21] [] ?_
   refine dt 0 ?_
   refine dt 1 ?_
   refine dt 2 ?_
   rw [Ajf]
   refine dt 3 ?_
   refine Dm 4 ?_
   refine Dm 5 ?_
   refine Xg 6 ?_
   apply On.h
   apply At;rfl;kernel_rfl;exact Bb
   refine cf (Abj _ _ M _ _ fun q9 h9=>Nat.le_trans (hq q9 h9) (by decide)) fun _ _=>?_
   refine Ao ?_
   refine dk ?_
   refine Dm 7 ?_
   refine dt 8 ?_
   refine dt 9 ?_
   refine Dm 10 ?_
   refine Dm 11 ?_
   refine Xg 12 ?_
   apply On.h
   apply At;rfl;kernel_rfl;exact Bb
   refine cf (Rw _ _ es _ _) fun _ _=>?_
   refine Ao ?_
   refine dk ?_
   refine Dm 13 ?_
   refine dt 14 ?_
   refine dt 15 ?_
   refine Dm 16 ?_
   refine Dm 18 ?_
   refine Xg 17 ?_
   apply On.h
   apply At;rfl;kernel_rfl;exact Bb
   refine cf (Md x _ Fx) fun _ _=>?_
   refine Ao ?_
   refine dk ?_
   refine Xg 19 ?_
   apply On.h
   apply At;rfl;kernel_rfl;exact Bb
   refine cf (Qa x _ Fx) fun _ _=>?_
   refine Ao ?_
   refine dk ?_
   refine Dm 20 ?_
   rw [Ajf]
   refine dt 21 ?_
   refine dt 22 ?_
   refine Dm 23 ?_
   refine Dm 24 ?_
   refine Dm 25 ?_
   refine Xg 26 ?_
   apply On.h
   apply At;rfl;kernel_rfl;exact Bb
   refine cf (Md M _ F5) fun _ _=>?_
   refine Ao ?_
   rw [hM]
   refine dk ?_
   refine Dm 27 ?_
   refine Dm 28 ?_
   refine dt 29 ?_
   refine dd ?_
   refine B6 () trivial
 refine go ?_;intros
 refine cf (Adl v Bm G FT) fun z hz=>?_
 refine Ao ?_
 obtain ⟨hl,hzq⟩:=hz
 obtain ⟨x,cs,Fx,l,la,lc,Fl⟩:=z
 dsimp only at hl hzq ⊢
 refine Rt (E:=Kk) (xs:=l) (fun s:Fa=>s.data.size≤maxLen) (fun w cs x F h=>by obtain ⟨_,h,_⟩:=h;exact h) ?_
 intro hz9
 refine C9 (x:=x) ?_
 rintro b1 d1 G1 b2 d2 G2 b3 d3 G3 b4 d4 G4 b5 d5 G5 b6 d6 G6 b7 d7 G7 ev - - - - - - -
 obtain rfl:cs=[.slice b1 x.Ar.Ad.length d1,.int .i64 x.Ab.Aa.Ak,.int .i64 x.Ab.Aa.size,.slice b2 x.Ab.Aa.Aj.length d2,.int .i64 x.Ab.Ai,.int .i64 x.Ab.quiet,.slice b3 x.Ab.holds.length d3,.slice b4 x.Ah.length d4,.slice b5 x.Ae.length d5,.slice b6 x.down.length d6,.slice b7 x.up.length d7]:=by simpa using ev
 clear ev
 refine go ?_;intros
 have hP:=Aif x l (.agg #[.slice b1 x.Ar.Ad.length d1,.int .i64 x.Ab.Aa.Ak,.int .i64 x.Ab.Aa.size,.slice b2 x.Ab.Aa.Aj.length d2,.int .i64 x.Ab.Ai,.int .i64 x.Ab.quiet,.slice b3 x.Ab.holds.length d3,.slice b4 x.Ah.length d4,.slice b5 x.Ae.length d5,.slice b6 x.down.length d6,.slice b7 x.up.length d7]) Fx la lc Fl FT
 have hQ:=Abc x l (.agg #[.slice b1 x.Ar.Ad.length d1,.int .i64 x.Ab.Aa.Ak,.int .i64 x.Ab.Aa.size,.slice b2 x.Ab.Aa.Aj.length d2,.int .i64 x.Ab.Ai,.int .i64 x.Ab.quiet,.slice b3 x.Ab.holds.length d3,.slice b4 x.Ah.length d4,.slice b5 x.Ae.length d5,.slice b6 x.down.length d6,.slice b7 x.up.length d7]) Fx la lc Fl FT
 obtain ⟨M,es,k,b,e⟩:∃M es k b,Ec x l=(M,es,k,b):=⟨_,_,_,_,rfl⟩
 have hq:=Aj4 x l
 rw [e] at hP hQ hq
 dsimp only at hP hQ hq
 refine cf hP fun p9 _=>?_
 refine Ao ?_
 obtain ⟨pcs,pF,pa,pc,pG⟩:=p9
 dsimp only
 refine K9 N0 fun F5=>?_
 refine Ax (E:=A6) (xs:=es) fun F6=>?_
 refine C9 (x:=M) ?_
 rintro e1 f1 K1 e2 f2 K2 e3 f3 K3 e4 f4 K4 e5 f5 K5 e6 f6 K6 e7 f7 K7 ev - - - - - - -
 obtain rfl:pcs=[.slice e1 M.Ar.Ad.length f1,.int .i64 M.Ab.Aa.Ak,.int .i64 M.Ab.Aa.size,.slice e2 M.Ab.Aa.Aj.length f2,.int .i64 M.Ab.Ai,.int .i64 M.Ab.quiet,.slice e3 M.Ab.holds.length f3,.slice e4 M.Ah.length f4,.slice e5 M.Ae.length f5,.slice e6 M.down.length f6,.slice e7 M.up.length f7]:=by simpa using ev
 clear ev
 refine go ?_;intros
 refine cf hQ fun q9 _=>?_
 refine Ao ?_
 obtain ⟨qcs,qF,qa,qc,qG⟩:=q9
 dsimp only
 refine Ax (E:=A6) (xs:=es) fun F7=>?_
 refine C9 (x:=M) ?_
 rintro u1 m1 R1 u2 m2 R2 u3 m3 R3 u4 m4 R4 u5 m5 R5 u6 m6 R6 u7 m7 R7 ev - - - - - - -
 obtain rfl:qcs=[.slice u1 M.Ar.Ad.length m1,.int .i64 M.Ab.Aa.Ak,.int .i64 M.Ab.Aa.size,.slice u2 M.Ab.Aa.Aj.length m2,.int .i64 M.Ab.Ai,.int .i64 M.Ab.quiet,.slice u3 M.Ab.holds.length m3,.slice u4 M.Ah.length m4,.slice u5 M.Ae.length m5,.slice u6 M.down.length m6,.slice u7 M.up.length m7]:=by simpa using ev
 clear ev
 refine go ?_;intros
 rw [Ajf]
 refine go ?_;intros
 rw [Aql]
 refine go ?_;intros
 refine cf (Abj _ _ M _ _ fun q9 h9=>Nat.le_trans (hq.1 q9 h9) (by decide)) fun _ _=>?_
 refine Ao ?_
 refine go ?_;intros
 refine cf (Rw _ _ es _ _) fun _ _=>?_
 refine Ao ?_
 refine go ?_;intros
 refine Ep [0] [] (fun _:Unit=>[]) (fun _=>[.sl E9 v Bm G,Li FT]) (fun _=>True) ?_ fun _ _=>?_
 ·cases b
  ·refine go ?_;intros
   refine B6 () trivial
  have hok:=hq.2 rfl
  replace hq:=hq.1
  obtain ⟨g1,h30,hall⟩:=Sj.1 hok
  obtain ⟨q1,qk,hQq⟩:∃q1 qk,L9 (x,[]) l 0=(q1,qk):=⟨_,_,rfl⟩
  have hM:M=q1.1∧es=q1.2∧k=(qk:Int):=by
   have e2:=e
   unfold Ec at e2
   rw [if_pos hok,hQq] at e2
   simp only [Prod.mk.injEq] at e2
   exact ⟨e2.1.symm,e2.2.1.symm,e2.2.2.1.symm⟩
  obtain ⟨rfl,rfl,rfl⟩:=hM
  have hqi:=Yi l (x:=(x,[])) (i:=0) g1 hall
  rw [hQq] at hqi
  obtain ⟨hq1g, -, -, -,hqk⟩:=hqi
  dsimp only at hq1g hqk
  refine go ?_;intros
  rename_i gn _
  refine C1 A6 ?_
  refine go ?_;intros
  refine Cq [0,2,12,13,14,15,21] (fun z:RsS=>[(22,.slice z.a z.y.2.length z.c),(23,.int .i64 (z.i:Nat))]) (fun z=>[.row gn 37 0 [] z.cs [],.isv Lr (.agg z.cs.toArray) z.y.1 z.F,.ow A6 9 (.slice z.a z.y.2.length z.c) z.y.2 z.Fe]) (RsC l (q1,qk)) (fun z=>qk - z.i) ⟨0,(x,[]),_,_,_,_,_⟩ ⟨Nat.zero_le _,g1,Nat.le_refl _,hQq⟩ fun z hz=>?_
  obtain ⟨i,y,cs,yF,ya,yc,yG⟩:=z
  obtain ⟨hi,gy,hey,hr⟩:=hz
  dsimp only at hi gy hey hr ⊢
  refine C9 (x:=y.1) ?_
  rintro u1 m1 R1 u2 m2 R2 u3 m3 R3 u4 m4 R4 u5 m5 R5 u6 m6 R6 u7 m7 R7 ev - - - - - - -
  obtain rfl:cs=[.slice u1 y.1.Ar.Ad.length m1,.int .i64 y.1.Ab.Aa.Ak,.int .i64 y.1.Ab.Aa.size,.slice u2 y.1.Ab.Aa.Aj.length m2,.int .i64 y.1.Ab.Ai,.int .i64 y.1.Ab.quiet,.slice u3 y.1.Ab.holds.length m3,.slice u4 y.1.Ah.length m4,.slice u5 y.1.Ae.length m5,.slice u6 y.1.down.length m6,.slice u7 y.1.up.length m7]:=by simpa using ev
  clear ev
  refine go ?_;intros
  refine Bd rfl (fun h3=>?_) (fun h3=>?_)
  ·have hi2:i < qk:=by omega
   obtain ⟨hl2,r,e5,hrest⟩:=Amh hr hi2
   have hok1:=hall l[i] (List.getElem_mem hl2)
   have hr9:=Id gy hok1 e5
   have hf:=Ul gy hok1 e5
   have hl9:(y.2++r.2).length=y.2.length+r.2.length:=List.length_append
   refine Uw (xs:=l) i ?_
   rintro hi9 b9 o9 e9 s9
   rw [e9]
   refine Jq ?_;intros
   refine Av [0,8] [6,7,8,9,11,12,13] ?_
   refine T4 0 ?_
   refine T4 1 ?_
   refine T4 2 ?_
   refine T4 3 ?_
   refine T4 4 ?_
   refine Nn 5 10 (by kernel_rfl) (by rw [List.getElem?_toArray];rfl) (by rw [List.getElem?_toArray];rfl) ?_ ?_
   ·apply At;rfl;kernel_rfl;exact Bb
    refine cf (Pq y.1 l[i] _ yF FT s9) fun p9 _=>?_
    refine Ao ?_
    rw [Yq gy hok1 e5]
    obtain ⟨pcs,pF,pa,pc,pG⟩:=p9
    dsimp only
    refine K9 N0 fun F5=>?_
    refine Ax (E:=A6) (xs:=r.2) fun F6=>?_
    refine C9 (x:=r.1) ?_
    rintro e1 f1 K1 e2 f2 K2 e3 f3 K3 e4 f4 K4 e5 f5 K5 e6 f6 K6 e7 f7 K7 ev - - - - - - -
    obtain rfl:pcs=[.slice e1 r.1.Ar.Ad.length f1,.int .i64 r.1.Ab.Aa.Ak,.int .i64 r.1.Ab.Aa.size,.slice e2 r.1.Ab.Aa.Aj.length f2,.int .i64 r.1.Ab.Ai,.int .i64 r.1.Ab.quiet,.slice e3 r.1.Ab.holds.length f3,.slice e4 r.1.Ah.length f4,.slice e5 r.1.Ae.length f5,.slice e6 r.1.down.length f6,.slice e7 r.1.up.length f7]:=by simpa using ev
    clear ev
    refine dk ?_
    refine M4 6 ?_
    refine M4 7 ?_
    refine M4 8 ?_
    refine M4 9 ?_
    refine dO 10 (by kernel_rfl) (by rw [List.getElem?_toArray];rfl) ?_
    apply Bv;rfl;intro _
    refine dk ?_
    refine dO 11 (by kernel_rfl) (by rw [List.getElem?_toArray];rfl) ?_
    apply Cf;rfl;rfl;rfl;(first|exact AggC.s|exact OneC.s);rfl;exact Ci;exact Cg;rfl
    refine Lv ?_
    refine M4 12 ?_
    refine M4 13 ?_
    refine dd ?_
    refine go ?_;intros
    apply wO
    refine Kx (E:=A6) (xs:=y.2) (ys:=r.2) Du Fc fun a9 c9 F9=>?_
    refine go ?_;intros
    rw [show ((i:Nat):Int)+1=((i+1:Nat):Int) by omega]
    refine Co ⟨i+1,(r.1,y.2++r.2),_,_,a9,c9,F9⟩ ⟨by show i+1≤qk;omega,hr9,by show (y.2++r.2).length≤400000 * (i+1);omega,hrest⟩ (by show qk - (i+1) < qk - i;omega)
   ·apply Bv;rfl;intro _
    refine dk ?_
    refine dO 5 (by kernel_rfl) (by rw [List.getElem?_toArray];rfl) ?_
    apply At;rfl;kernel_rfl;exact Bb
    refine cf (Pq y.1 l[i] _ yF FT s9) fun p9 _=>?_
    refine Ao ?_
    rw [Yq gy hok1 e5]
    obtain ⟨pcs,pF,pa,pc,pG⟩:=p9
    dsimp only
    refine K9 N0 fun F5=>?_
    refine Ax (E:=A6) (xs:=r.2) fun F6=>?_
    refine C9 (x:=r.1) ?_
    rintro e1 f1 K1 e2 f2 K2 e3 f3 K3 e4 f4 K4 e5 f5 K5 e6 f6 K6 e7 f7 K7 ev - - - - - - -
    obtain rfl:pcs=[.slice e1 r.1.Ar.Ad.length f1,.int .i64 r.1.Ab.Aa.Ak,.int .i64 r.1.Ab.Aa.size,.slice e2 r.1.Ab.Aa.Aj.length f2,.int .i64 r.1.Ab.Ai,.int .i64 r.1.Ab.quiet,.slice e3 r.1.Ab.holds.length f3,.slice e4 r.1.Ah.length f4,.slice e5 r.1.Ae.length f5,.slice e6 r.1.down.length f6,.slice e7 r.1.up.length f7]:=by simpa using ev
    clear ev
    refine dk ?_
    refine M4 6 ?_
    refine M4 7 ?_
    refine M4 8 ?_
    refine M4 9 ?_
    refine dO 11 (by kernel_rfl) (by rw [List.getElem?_toArray];rfl) ?_
    apply Cf;rfl;rfl;rfl;(first|exact AggC.s|exact OneC.s);rfl;exact Ci;exact Cg;rfl
    refine Lv ?_
    refine M4 12 ?_
    refine M4 13 ?_
    refine dd ?_
    refine go ?_;intros
    apply wO
    refine Kx (E:=A6) (xs:=y.2) (ys:=r.2) Du Fc fun a9 c9 F9=>?_
    refine go ?_;intros
    rw [show ((i:Nat):Int)+1=((i+1:Nat):Int) by omega]
    refine Co ⟨i+1,(r.1,y.2++r.2),_,_,a9,c9,F9⟩ ⟨by show i+1≤qk;omega,hr9,by show (y.2++r.2).length≤400000 * (i+1);omega,hrest⟩ (by show qk - (i+1) < qk - i;omega)
  ·have hi2:i=qk:=by omega
   obtain ⟨hq1,hend⟩:=Aj7 hr (by show qk≤i;omega)
   dsimp only at hq1
   subst hq1
   subst hi2
   refine go ?_;intros
   refine cf (Abj _ _ q1.1 _ _ fun q9 h9=>Nat.le_trans (hq q9 h9) (by decide)) fun _ _=>?_
   refine Ao ?_
   refine Ax (E:=A6) (xs:=q1.2) fun F77=>?_
   refine go ?_;intros
   refine cf (Rw _ _ q1.2 _ _) fun _ _=>?_
   refine Ao ?_
   refine go ?_;intros
   refine Bd rfl (fun h4=>?_) (fun h4=>?_)
   ·have hl2:i < l.length:=by omega
    replace hend:=hend hl2
    refine Uw (xs:=l) i ?_
    rintro hi9 b9 o9 e9 s9
    rw [e9]
    refine Jq ?_;intros
    refine Av [0,21] [6,7,8,9,11,12,13] ?_
    refine T4 0 ?_
    refine T4 1 ?_
    refine T4 2 ?_
    refine T4 3 ?_
    refine T4 4 ?_
    refine Nn 5 10 (by kernel_rfl) (by rw [List.getElem?_toArray];rfl) (by rw [List.getElem?_toArray];rfl) ?_ ?_
    ·apply At;rfl;kernel_rfl;exact Bb
     refine cf (Pq q1.1 (l[i]) _ F5 FT s9) fun p9 _=>?_
     refine Ao ?_
     have hno:=Vm hend
     obtain ⟨M3,es3,b3,e3⟩:∃M3 es3 b3,As q1.1 (l[i])=(M3,es3,b3):=⟨_,_,_,rfl⟩
     rw [e3] at hno ⊢
     dsimp only at hno ⊢
     subst hno
     obtain ⟨pcs,pF,pa,pc,pG⟩:=p9
     dsimp only
     refine K9 N0 fun F55=>?_
     refine Ax (E:=A6) (xs:=es3) fun F6=>?_
     refine C9 (x:=M3) ?_
     rintro e1 f1 K1 e2 f2 K2 e3 f3 K3 e4 f4 K4 e5 f5 K5 e6 f6 K6 e7 f7 K7 ev - - - - - - -
     obtain rfl:pcs=[.slice e1 M3.Ar.Ad.length f1,.int .i64 M3.Ab.Aa.Ak,.int .i64 M3.Ab.Aa.size,.slice e2 M3.Ab.Aa.Aj.length f2,.int .i64 M3.Ab.Ai,.int .i64 M3.Ab.quiet,.slice e3 M3.Ab.holds.length f3,.slice e4 M3.Ah.length f4,.slice e5 M3.Ae.length f5,.slice e6 M3.down.length f6,.slice e7 M3.up.length f7]:=by simpa using ev
     clear ev
     refine dk ?_
     refine M4 6 ?_
     refine M4 7 ?_
     refine M4 8 ?_
     refine M4 9 ?_
     refine dO 10 (by kernel_rfl) (by rw [List.getElem?_toArray];rfl) ?_
     apply Bv;rfl;intro _
     refine dk ?_
     refine dO 11 (by kernel_rfl) (by rw [List.getElem?_toArray];rfl) ?_
     apply Cf;rfl;rfl;rfl;(first|exact AggC.s|exact OneC.s);rfl;exact Ci;exact Cg;rfl
     refine Lv ?_
     refine M4 12 ?_
     refine M4 13 ?_
     refine dd ?_
     refine go ?_;intros
     refine B6 () trivial
    ·apply Bv;rfl;intro _
     refine dk ?_
     refine dO 5 (by kernel_rfl) (by rw [List.getElem?_toArray];rfl) ?_
     apply At;rfl;kernel_rfl;exact Bb
     refine cf (Pq q1.1 (l[i]) _ F5 FT s9) fun p9 _=>?_
     refine Ao ?_
     have hno:=Vm hend
     obtain ⟨M3,es3,b3,e3⟩:∃M3 es3 b3,As q1.1 (l[i])=(M3,es3,b3):=⟨_,_,_,rfl⟩
     rw [e3] at hno ⊢
     dsimp only at hno ⊢
     subst hno
     obtain ⟨pcs,pF,pa,pc,pG⟩:=p9
     dsimp only
     refine K9 N0 fun F55=>?_
     refine Ax (E:=A6) (xs:=es3) fun F6=>?_
     refine C9 (x:=M3) ?_
     rintro e1 f1 K1 e2 f2 K2 e3 f3 K3 e4 f4 K4 e5 f5 K5 e6 f6 K6 e7 f7 K7 ev - - - - - - -
     obtain rfl:pcs=[.slice e1 M3.Ar.Ad.length f1,.int .i64 M3.Ab.Aa.Ak,.int .i64 M3.Ab.Aa.size,.slice e2 M3.Ab.Aa.Aj.length f2,.int .i64 M3.Ab.Ai,.int .i64 M3.Ab.quiet,.slice e3 M3.Ab.holds.length f3,.slice e4 M3.Ah.length f4,.slice e5 M3.Ae.length f5,.slice e6 M3.down.length f6,.slice e7 M3.up.length f7]:=by simpa using ev
     clear ev
     refine dk ?_
     refine M4 6 ?_
     refine M4 7 ?_
     refine M4 8 ?_
     refine M4 9 ?_
     refine dO 11 (by kernel_rfl) (by rw [List.getElem?_toArray];rfl) ?_
     apply Cf;rfl;rfl;rfl;(first|exact AggC.s|exact OneC.s);rfl;exact Ci;exact Cg;rfl
     refine Lv ?_
     refine M4 12 ?_
     refine M4 13 ?_
     refine dd ?_
     refine go ?_;intros
     refine B6 () trivial
   ·refine go ?_;intros
    refine B6 () trivial
 refine go ?_;intros
 refine cf (W4 v Bm G FT) fun z hz=>?_
 refine Ao ?_
 obtain ⟨s,zs⟩:=z
 dsimp only at hz ⊢
 refine Jq ?_;intros
 refine Av [0] [] ?_
 refine dt 0 ?_
 refine dt 2 ?_
 refine dO 1 (by kernel_rfl) (by rw [List.getElem?_toArray];rfl) ?_
 apply At;rfl;kernel_rfl;exact Bb
 refine cf (Pk s hz) fun _ _=>?_
 refine Ao ?_
 refine dk ?_
 refine dO 3 (by kernel_rfl) (by rw [List.getElem?_toArray];rfl) ?_
 apply At;rfl;kernel_rfl;exact Bb
 refine cf (Ui s hz) fun _ _=>?_
 refine Ao ?_
 refine dk ?_
 refine dt 4 ?_
 rw [eqB]
 refine dt 5 ?_
 refine dd ?_
 refine go ?_;intros
 refine ret () trivial rfl
theorem Anz {W:World} (hL:laidMetH prog Rows.fnStepsRow.laid W) (_:W.ShapedOpen prog):(Li [3]).P W:=by
 rw [MakeChecks.laidMetH_plain _ _ _ (by kernel_rfl)] at hL
 have h3:=hL.tail.tail
 have e:(Rows.laid_internal_strconv_uint64pow10:DataW Unit)=Lib.tabData .u64 Lib.pow10Tab:=by kernel_rfl
 rw [e] at h3
 have ht:Lib.TabIs prog W "internal/strconv.uint64pow10" .u64 Lib.pow10Tab:=Lib.tabIs_of_head (g:=3) (t:=296) (e:=65) (n:=20) (by kernel_rfl) (by kernel_rfl) underlying296 underlying65 (by kernel_rfl) (by kernel_rfl) h3
 have hc:=Lib.TabIs.cell ht (g:=3) (by kernel_rfl) 0 (by rw [Lib.pow10Tab_length];omega)
 refine ⟨[],rfl,rfl,ht,rfl,fun b hb=>?_⟩
 simp only [List.mem_cons,List.not_mem_nil,or_false] at hb
 subst hb
 exact World.block_lt_of_cell? W ⟨3,0,none⟩ hc
end Go.Proofs.YtaemjogbahcbcaaGreatDoor
namespace Go.Proofs.YtaemjogbahcbcaaGreatDoor
open Go.ChangeShapes Go.WideShapes Go.ChangeAt Go.RowKit
theorem Sw {H:Type} {enc:TypeId × Value→H} {P:Program} (hl:laidOutB P=true) {W W':World} (hb:Below W.heap.size W W') :
  ∀(ts:List TypeId) (vs:List Value) (ds:List (DataW H)) (ps:List MemPlace),(∀t∈ts,P.readableRec t=true∧t < P.types.size) →
   DataW.TrodAll enc P W 0 (fun _=>true) true ts vs ds ps→(∀x∈ps,x.block < W.heap.size)→DataW.TrodAll enc P W' 0 (fun b=>decide (b < W.heap.size)) true ts vs ds ps
 | [],vs,ds,ps,_,h,_=>by obtain ⟨rfl,rfl,rfl⟩:=trodAll_nil h;exact rfl
 | t::ts,vs,ds,ps,ht,h,hlt=>by
  obtain ⟨v,vs',d,ds',p,q,rfl,rfl,rfl,h1,h2⟩:=trodAll_cons h
  have ⟨a,b⟩:=ht t (by simp)
  exact ⟨p,q,Below.trod hl a b h1 hb fun x hx=>hlt x (by simp [hx]),Sw hl hb ts vs' ds' q (fun t h=>ht t (by simp [h])) h2 fun x hx=>hlt x (by simp [hx]),rfl⟩
theorem Ai8 {H:Type} {enc:TypeId × Value→H} {P:Program} {f:Func} {s:ChangeSpec} {tb:TypeId} (hl:laidOutB P=true) (hr:∀t∈f.params.toList,P.readableRec t=true∧t < P.types.size)
  (hb:P.underlying tb=some .bool) (hres:f.resultTypes = #[tb]) (hv:s.vars=[]) {W W':World} {args:Array Value} {ds gs:List (DataW H)} {before:List MemPlace}
  (hs:s.fn H ds={ results:=[.lit (.bool true)],args:=ds }) (hW:DataW.Whole enc P f.params.toList s.vars false W args.toList ds gs before) (hB:Below W.heap.size W W') :
  s.post enc P f false true false false W args (.bool true) W':=by
 have hlt:=hW.lt
 have hW0:=hW
 obtain ⟨p,q,hA,hV,rfl,_,_⟩:=hW0
 rw [hv] at hV
 obtain ⟨rfl,rfl⟩:=trodVars_none hV
 refine ⟨ds,[],p++[],[],p,[],hW,?_,?_,?_,hB.frame _,fun h=>by cases h⟩
 ·rw [List.append_nil,hs,hres]
  exact trodAll_mk1 (shut_bool hb true)
 ·rw [List.append_nil,hs]
  exact Sw hl hB _ _ _ _ hr hA fun x hx=>hlt x (by simpa using hx)
 ·rw [hv,List.append_nil,hs];exact rfl
def Abv (P:Program) {α:Type} (E:Bp α) (t:TypeId):Prop :=
 ∀{H:Type} {enc:TypeId × Value→H} {w:World} {fuel:Nat} {cs:List Value} {x:DataW H × List MemPlace},DataW.trod enc P w 0 (fun _=>true) true fuel t cs=some x→∃y F,E.Jg w cs y F
section
variable {P:Program}
theorem V9 {α:Type} {E:Bp α} {e:TypeId} (hsz:P.cellsOf e=E.sz) (he:Abv P E e) {H:Type} {enc:TypeId × Value→H} {w:World} {n b off:Nat} :
  ∀(els:List (DataW H × List MemPlace)) (k:Nat),(∀i,i < els.length→(w.cells? 0 ((⟨b,off,none⟩:Addr).add ((k+i) * P.cellsOf e)) (P.cellsOf e)).bind (DataW.trod enc P w 0 (fun _=>true) true n e)=els[i]?) →
   ∃ys F,ys.length=els.length∧Lc E w b (off+k * E.sz) ys F
 | [],_,_=>⟨[],[],rfl,rfl⟩
 | x::r,k,h=>by
  have h0:=h 0 (by simp)
  simp only [Nat.add_zero,List.getElem?_cons_zero,Option.bind_eq_some_iff] at h0
  obtain ⟨cs,hc,hx⟩:=h0
  obtain ⟨y,F1,hy⟩:=he hx
  obtain ⟨ys,F2,hl,hys⟩:=V9 hsz he r (k+1) fun i hi=>by
   have:=h (i+1) (by simpa using hi)
   rw [show k+1+i=k+(i+1) by omega]
   simpa using this
  refine ⟨y::ys,F1++F2,by simp [hl],cs,F1,F2,rfl,hy,fun j hj=>?_,by rwa [show off+k * E.sz+E.sz=off+(k+1) * E.sz by rw [Nat.add_mul];omega]⟩
  obtain ⟨_,hlen,hcell⟩:=World.cells?_some hc
  rw [←hcell j (by rw [hsz];exact hj)]
  congr 1
  simp only [Addr.add,hsz]
  split <;> split <;> simp_all <;> omega
theorem Ac1 {α:Type} {E:Bp α} {t e:TypeId} (ht:P.underlying t=some (.slice e)) (hsz:P.cellsOf e=E.sz) (hz:0 < E.sz) (he:Abv P E e):Abv P (Kj E hz) t:=fun h=>by
 rcases DataW.trod_slice ht h with ⟨rfl,_⟩|⟨a,len,cap,elems,rest,n,rfl,rfl,_,_,hlc,hcm,hlen,hel,_,_⟩
 ·exact ⟨[],[],_,rfl,none,0,rfl,⟨by simp,by simp⟩,.inl ⟨rfl,rfl,fun _=>rfl⟩⟩
 ·by_cases h0:len=0
  ·subst h0
   exact ⟨[],[],_,rfl,some a,cap,rfl,⟨by simp,by omega⟩,.inl ⟨rfl,rfl,fun e=>by cases e⟩⟩
  ·have hs:a=⟨a.block,a.off,none⟩:=by
    have:=hel 0 (by omega)
    rw [List.getElem?_eq_getElem (by omega)] at this
    simp only [Option.bind_eq_some_iff] at this
    obtain ⟨cs,hc,_⟩:=this
    obtain ⟨_,hl2,hcell⟩:=World.cells?_some hc
    have h1:=hcell 0 (by omega)
    rw [List.getElem?_eq_getElem (by omega)] at h1
    simp [Addr.add,World.cell?] at h1
    split at h1 <;> simp_all
    cases a;simp_all
   obtain ⟨ys,F,hyl,hys⟩:=V9 hsz he elems 0 (n:=n) (b:=a.block) (off:=a.off) (enc:=_) (w:=_) (by
    rw [←hs];intro i hi;rw [Nat.zero_add];exact hel i (by omega))
   refine ⟨ys,a.block::F,_,rfl,some a,cap,by rw [hyl,hlen],⟨by omega,by omega⟩,.inr ⟨a.block,a.off,F,by rw [←hs],?_,rfl,by simpa using hys⟩⟩
   intro e;rw [e] at hyl;simp at hyl;omega
end
inductive W5 (P:Program):List Field→Nat→(α:Type)→Bp α→Prop
 | nil (off:Nat):W5 P [] off Unit Am4
 | cons {f:Field} {r:List Field} {off:Nat} {α β:Type} {A:Bp α} {B:Bp β} (ho:f.offset=off) (hc:P.cellsOf f.type=A.sz) (hA:Abv P A f.type) (h:W5 P r (off+A.sz) β B):W5 P (f::r) off (α × β) (Ah3 A B)
end Go.Proofs.YtaemjogbahcbcaaGreatDoor
