/- Part 10 of the proof: 22 texts, one behind the other. -/
import Derived.Laws.StructEq
import Derived.Test.YtaemjogbahcbcaaGreatDoorRows
import Derived.MakeChecks
import Derived.Stop.LaidErr
import Derived.ProofKit
import Derived.OpenShut
import Derived.Test.YtaemjogbahcbcaaGreatDoorM9
open _root_.Go.Proofs.Tryz
set_option maxRecDepth 100000
set_option maxHeartbeats 8000000
set_option linter.all false
set_option linter.unusedVariables false
set_option linter.unusedSimpArgs false
namespace Go.Proofs.YtaemjogbahcbcaaGreatDoor
open Go.RowKit
structure OkE (m:Nat) (y:Bl):Prop where
 k0:0≤y.Ai
 k1:y.Ai≤30+m
 l:y.Ah.length≤m
 f:∀x∈y.Ah,x.Bi.length≤m
 mm:m≤100
theorem Alx {m y} (h:OkE m y) (hm:m+1≤100:=by omega):OkE (m+1) (D8 y):=by
 have:=h.k0;have:=h.k1
 have hl:=List.length_filter_le (fun x:Fb=>!decide (x.Ca≤y.Ai+1)) y.Ah
 exact ⟨by show 0≤y.Ai+1;omega,by show y.Ai+1≤30+((m+1:Nat):Int);omega,by show (y.Ah.filter _).length≤_;have:=h.l;omega,fun x hx=>by have:=h.f x (List.mem_filter.1 hx).1;omega,hm⟩
theorem Aom {m y} (h:OkE m y) {n f:Int} (hm:m+1≤100:=by omega):OkE (m+1) (Lf y n f):=by
 have:=h.k0;have:=h.k1;have hl:=h.l
 have hf:∀x∈y.Ah,x.Bi.length≤m+1:=fun x hx=>by have:=h.f x hx;omega
 unfold Lf
 split
 ·rename_i x hx
  refine ⟨h.k0,by show y.Ai≤30+((m+1:Nat):Int);omega,by show (y.Ah.set _ _).length≤m+1;rw [List.length_set];omega,fun z hz=>?_,hm⟩
  rcases List.mem_or_eq_of_mem_set hz with h'|rfl
  ·exact hf z h'
  ·have:=h.f x (List.mem_of_getElem? hx)
   have:=Al2 x.Bi f
   show (Ok x.Bi f).length≤m+1
   omega
 ·split
  ·refine ⟨h.k0,by show y.Ai≤30+((m+1:Nat):Int);omega,by show (y.Ah++[_]).length≤m+1;simp;omega,fun z hz=>?_,hm⟩
   rcases List.mem_append.1 hz with h'|h'
   ·exact hf z h'
   ·simp at h';subst h';simp
  ·exact ⟨h.k0,by show y.Ai≤30+((m+1:Nat):Int);omega,by omega,hf,hm⟩
structure ElD where
 y:Bl
 a:Option Addr
 c:Nat
 F:List Nat
 i:Nat
 s:Ps
theorem Ahz (B g:Nat) (F:T3) (s:Ps) (ok:Ia B s) (hB:B≤700000000000) :
  Fn prog 73 [Ez g 0 0] [.sl Gf (.slice F.a F.Br.length F.c) F.Br F.bs] [.row g 67 0 [] [.slice F.a F.Br.length F.c,.int .i64 (s.k:Nat),.int .u64 s.D7] []] (fun (z:ElD)=>z.y.Ah.length≤1000∧Ia (B+2000) z.s) (fun s=>.agg #[.int .i64 s.y.Ai,.slice s.a s.y.Ah.length s.c])
   (fun s=>[.isv Bn (.agg #[.int .i64 s.y.Ai,.slice s.a s.y.Ah.length s.c]) s.y s.F,.row g 67 0 [] [.slice F.a F.Br.length F.c,.int .i64 (s.s.k:Nat),.int .u64 s.s.D7] []]):=by
 refine enter func73 rfl ntmps73 fun w0=>?_
 refine go ?_;intros
 refine cf (Ey B g F 30 s ok (by omega) (by omega)) fun y hy=>?_
 refine Ap ?_
 obtain ⟨r1,s1⟩:=y
 obtain ⟨hy1,hy2⟩:=hy
 dsimp only at hy1 hy2 ⊢
 have hr1:r1≤29:=by omega
 refine go ?_;intros
 rename_i gg
 refine cf (Q0 _ g F s1 hy2 (by omega)) fun n hn=>?_
 refine Ap ?_
 obtain ⟨hn1,hn2⟩:=hn
 refine go ?_;intros
 refine cf (Ey _ g F 10 n.2 hn2 (by omega) (by omega)) fun y hy=>?_
 refine Ap ?_
 obtain ⟨r0,s2⟩:=y
 obtain ⟨hz1,hz2⟩:=hy
 dsimp only at hz1 hz2 ⊢
 have hr0:r0≤9:=by omega
 refine Bw Da (by decide) ?_
 refine E7 ⟨(r1:Int),[]⟩ ?_
 refine go ?_;intros
 refine Cp [0,2,3,4] (fun z:ElD=>[(5,.int .i64 (z.i:Nat))]) (fun z=>[.row gg 77 0 [] [.int .i64 z.y.Ai,.slice z.a z.y.Ah.length z.c] [],.isv Bn (.agg #[.int .i64 z.y.Ai,.slice z.a z.y.Ah.length z.c]) z.y z.F,.row g 67 0 [] [.slice F.a F.Br.length F.c,.int .i64 (z.s.k:Nat),.int .u64 z.s.D7] []]) (fun z=>OkE (r0 - z.i) z.y∧z.i≤r0∧Ia (B+20+50 * (r0 - z.i)) z.s) (fun z=>z.i) ⟨⟨(r1:Int),[]⟩,none,0,[],r0,s2⟩ ⟨⟨by show (0:Int)≤(r1:Int);omega,by show (r1:Int)≤_;omega,by simp,by simp,by omega⟩,Nat.le_refl _,hz2.mono (by show _≤B+20+50 * (r0 - r0);omega)⟩ fun z hz=>?_
 obtain ⟨z1,z2,z3⟩:=hz
 refine go ?_;intros
 refine Bg rfl (fun h2=>?_) (fun h2=>?_)
 ·have hi0:0 < z.i:=by omega
  refine go ?_;intros
  refine cf (Aly _ g F 5 z.s z3 (by omega) (by omega)) fun p hp=>?_
  refine Ap ?_
  obtain ⟨b4,s4⟩:=p
  obtain ⟨-,z4⟩:=hp
  dsimp only at z4 ⊢
  cases b4
  ·refine go ?_;intros
   refine As [1] [10,11,12] ?_
   refine dt 0 ?_
   refine dt 1 ?_
   refine dt 2 ?_
   refine dt 5 ?_
   refine dO 3 (by kernel_rfl) (by rw [List.getElem?_toArray];rfl) ?_
   apply At;rfl;kernel_rfl;exact Bf
   refine cf (Ey _ g F 6 s4 z4 (by omega) (by omega)) fun p hp=>?_
   refine Ap ?_
   obtain ⟨p1,p2⟩:=hp
   refine dk ?_
   refine dO 4 (by kernel_rfl) (by rw [List.getElem?_toArray];rfl) ?_
   apply At;rfl;kernel_rfl;exact Bf
   refine ce (fun w s=>Fh _ _ _ (by omega) (by omega)) ?_
   refine dk ?_
   refine dO 6 (by kernel_rfl) (by rw [List.getElem?_toArray];rfl) ?_
   apply At;rfl;kernel_rfl;exact Bf
   refine cf (Ey _ g F 7 p.2 p2 (by omega) (by omega)) fun q hq=>?_
   refine Ap ?_
   obtain ⟨q1,q2⟩:=hq
   refine dk ?_
   refine dt 7 ?_
   refine dO 8 (by kernel_rfl) (by rw [List.getElem?_toArray];rfl) ?_
   apply At;rfl;kernel_rfl;exact Bf
   refine cf (Rd z.y (Cg n.1 (p.1:Nat)) (1+(q.1:Nat)) _ z.F (by have:=z1.l;omega) (fun x hx=>by have:=z1.f x hx;omega) (by have:=z1.k0;omega) (by have:=z1.k1;omega)) fun u _=>?_
   refine Ap ?_
   refine N0 Jj fun F7=>?_
   refine Ep (v:=u.1) ?_
   rintro a6 c6 F6 e6 l6
   rw [e6]
   refine dk ?_
   refine dt 9 ?_
   refine Ua 10 ?_
   refine Ua 11 ?_
   refine dO 12 (by kernel_rfl) (by rw [List.getElem?_toArray];rfl) ?_
   apply Cs;rfl;rfl;rfl;(first|exact AggC.s|exact OneC.s);rfl;exact Cu;exact Ct;rfl
   refine Ng ?_
   refine dd ?_
   refine go ?_;intros
   rw [show ((z.i:Nat):Int) - 1=((z.i - 1:Nat):Int) by omega]
   refine Ck ⟨(Lf z.y (Cg n.1 (p.1:Nat)) (1+(q.1:Nat))),a6,c6,F7,z.i - 1,q.2⟩ ⟨by rw [show r0 - (z.i - 1)=r0 - z.i+1 by omega];exact Aom z1,by show z.i - 1≤r0;omega,q2.mono (by show _≤B+20+50 * (r0 - (z.i - 1));omega)⟩ (by show z.i - 1 < z.i;omega)
  ·refine go ?_;intros
   refine cr (fun w st=>Abb _ z.y z.F w (st.get (p:=.isv Bn (.agg #[.int .i64 z.y.Ai,.slice z.a z.y.Ah.length z.c]) z.y z.F) (by simp)) (Kt.2 ⟨z1.k0,by have:=z1.k1;have:=z1.mm;omega⟩) (by have:=z1.l;omega) (fun x hx=>by have:=z1.f x hx;omega)) fun u F7=>?_
   refine Ep (v:=u) ?_
   rintro a6 c6 F6 rfl l6
   refine go ?_;intros
   rw [show ((z.i:Nat):Int) - 1=((z.i - 1:Nat):Int) by omega]
   refine Ck ⟨D8 z.y,a6,c6,F7,z.i - 1,s4⟩ ⟨by rw [show r0 - (z.i - 1)=r0 - z.i+1 by omega];exact Alx z1,by show z.i - 1≤r0;omega,z4.mono (by show _≤B+20+50 * (r0 - (z.i - 1));omega)⟩ (by show z.i - 1 < z.i;omega)
 ·have hl7:=z1.l
  refine go ?_;intros
  refine cf (Ey _ g F 24 z.s z3 (by omega) (by omega)) fun p hp=>?_
  refine Ap ?_
  obtain ⟨r,s3⟩:=p
  obtain ⟨-,hp⟩:=hp
  dsimp only at hp ⊢
  refine go ?_;intros
  refine Bg rfl (fun e0=>?_) (fun e0=>?_)
  ·refine Ep (x:=z.y) (F:=z.F) ?_
   rintro b1 d1 G1 e5 m1
   simp only [Value.agg.injEq,Array.mk.injEq,List.cons.injEq,Value.slice.injEq,Value.int.injEq,true_and,and_true] at e5
   obtain ⟨rfl,rfl⟩:=e5
   refine Jm ?_;intros
   refine Ei (xs:=[-1,9999,10000]) (fun w=>Jv w _) ?_ (by decide)
   refine A1 (E:=Bd) fun G=>?_
   refine go ?_;intros
   refine cf (Mz _ g F _ [-1,9999,10000] G s3 hp (by omega) (by decide) (by decide)) fun q hq=>?_
   refine Ap ?_
   refine go ?_;intros
   refine E7 ⟨q.1,z.y.Ah⟩ ?_
   refine ret ⟨⟨q.1,z.y.Ah⟩,_,_,_,0,q.2⟩ ⟨by show z.y.Ah.length≤1000;omega,hq.2.mono (by omega)⟩ rfl
  refine go ?_;intros
  refine Bg rfl (fun e1=>?_) (fun e1=>?_)
  ·refine Ep (x:=z.y) (F:=z.F) ?_
   rintro b1 d1 G1 e5 m1
   simp only [Value.agg.injEq,Array.mk.injEq,List.cons.injEq,Value.slice.injEq,Value.int.injEq,true_and,and_true] at e5
   obtain ⟨rfl,rfl⟩:=e5
   refine Ye Ri (xs:=z.y.Ah) (m:=3) rfl fun ys Fy Gy hyl hym=>?_
   refine Jm ?_;intros
   refine As [4] [18] ?_
   refine dt 1 ?_
   refine dt 2 ?_
   refine dt 4 ?_
   refine dt 6 ?_
   refine dt 9 ?_
   refine dt 10 ?_
   refine dt 11 ?_
   refine dO 0 (by kernel_rfl) (by rw [List.getElem?_toArray];rfl) ?_
   apply Jw;rfl;intro _
   refine C9 (EC 3) ?_
   refine dk ?_
   refine dO 3 (by kernel_rfl) (by rw [List.getElem?_toArray];rfl) ?_
   refine Lx (ys:=ys) (M6 3) (Ga 3) (fun a7 c7 F7=>?_) (hn:=hyl.symm) (h63:=by simp only [List.length_nil];omega) (hby:=by simp only [List.length_nil];omega)
   rw [List.nil_append]
   refine dk ?_
   refine dO 5 (by kernel_rfl) (by rw [List.getElem?_toArray];rfl) ?_
   apply At;rfl;kernel_rfl;exact Bf
   refine cf (Py _ g F s3 hp (by omega)) fun q hq=>?_
   refine Ap ?_
   refine dk ?_
   refine dO 7 (by kernel_rfl) (by rw [List.getElem?_toArray];rfl) ?_
   apply At;rfl;kernel_rfl;exact Bf
   refine cf (Ey _ g F 9 q.2 hq (by omega) (by omega)) fun r hr=>?_
   refine Ap ?_
   obtain ⟨hr1,hr2⟩:=hr
   refine dk ?_
   refine Ov 8 12 (by kernel_rfl) (by rw [List.getElem?_toArray];rfl) (by rw [List.getElem?_toArray];rfl) ?_ ?_
   ·apply Ho;rfl;rfl;rfl;rfl;exact Hl;exact Hg;intro _
    rename_i gf
    refine Ei (E:=Bd) (xs:=[(r.1:Int)]) (Mi _) ?_ (by simp)
    refine A1 (E:=Bd) fun F10=>?_
    refine dk ?_
    refine dO 12 (by kernel_rfl) (by rw [List.getElem?_toArray];rfl) ?_
    apply At;rfl;kernel_rfl;exact Bf
    refine cf (Ey _ g F 9 r.2 hr2 (by omega) (by omega)) fun t ht=>?_
    refine Ap ?_
    obtain ⟨ht1,ht2⟩:=ht
    have hk0:=z1.k0
    have hk1:=z1.k1
    refine dk ?_
    refine dt 13 ?_
    refine dt 14 ?_
    refine dO 15 (by kernel_rfl) (by rw [List.getElem?_toArray];rfl) ?_
    apply Ho;rfl;rfl;rfl;rfl;exact Hl;exact Hg;intro _
    refine Pg ⟨q.1,[(r.1:Int)],z.y.Ai+(t.1:Nat)⟩ ?_
    refine dk ?_
    refine dO 16 (by kernel_rfl) (by rw [List.getElem?_toArray];rfl) ?_
    refine Mf (ys:=[([.int .i64 q.1,.slice (some ⟨gf,0,none⟩) 1 1,.int .i64 (z.y.Ai+(t.1:Nat))]:List Value)]) (Sn (m:=3) (cs:=[.int .i64 q.1,.slice (some ⟨gf,0,none⟩) 1 1,.int .i64 (z.y.Ai+(t.1:Nat))]) rfl (by simp [Value.oneCell'])) (M6 3) (fun a9 c9 F11=>?_)
    refine dk ?_
    refine dt 17 ?_
    refine dO 18 (by kernel_rfl) (by rw [List.getElem?_toArray];rfl) ?_
    apply Cs;rfl;rfl;rfl;(first|exact AggC.s|exact OneC.s);rfl;exact Cu;exact Ct;rfl
    refine Ng ?_
    refine dd ?_
    refine go ?_;intros
    refine A1 (E:=EC 3) fun F8=>?_
    refine Aez (E:=Da) (x:=⟨q.1,[(r.1:Int)],z.y.Ai+(t.1:Nat)⟩) ?_
    refine Amv (E:=Da) (c1:=ys.flatten) (c2:=[.int .i64 q.1,.slice (some ⟨gf,0,none⟩) 1 1,.int .i64 (z.y.Ai+(t.1:Nat))]) (x1:=z.y.Ah) (x2:=[⟨q.1,[(r.1:Int)],z.y.Ai+(t.1:Nat)⟩]) rfl rfl ?_
    refine Nc (E:=Da) (m:=3) (v:=.agg (ys.flatten++([.int .i64 q.1,.slice (some ⟨gf,0,none⟩) 1 1,.int .i64 (z.y.Ai+(t.1:Nat))]:List Value)).toArray) (ys:=ys++[([.int .i64 q.1,.slice (some ⟨gf,0,none⟩) 1 1,.int .i64 (z.y.Ai+(t.1:Nat))]:List Value)]) (xs:=z.y.Ah++[(⟨q.1,[(r.1:Int)],z.y.Ai+(t.1:Nat)⟩:Fb)]) rfl (by simp [hyl]) (by simp) fun F9=>?_
    rw [show (ys++[([.int .i64 q.1,.slice (some ⟨gf,0,none⟩) 1 1,.int .i64 (z.y.Ai+(t.1:Nat))]:List Value)]).length=(z.y.Ah++[(⟨q.1,[(r.1:Int)],z.y.Ai+(t.1:Nat)⟩:Fb)]).length by simp [hyl]]
    refine E7 ⟨z.y.Ai,z.y.Ah++[⟨q.1,[(r.1:Int)],z.y.Ai+(t.1:Nat)⟩]⟩ ?_
    refine ret ⟨⟨z.y.Ai,z.y.Ah++[⟨q.1,[(r.1:Int)],z.y.Ai+(t.1:Nat)⟩]⟩,_,_,_,0,t.2⟩ ⟨by show (z.y.Ah++[_]).length≤1000;simp;omega,ht2.mono (by omega)⟩ rfl
   ·apply At;rfl;kernel_rfl;exact Bf
    refine cf (Ey _ g F 9 r.2 hr2 (by omega) (by omega)) fun t ht=>?_
    refine Ap ?_
    obtain ⟨ht1,ht2⟩:=ht
    have hk0:=z1.k0
    have hk1:=z1.k1
    refine dk ?_
    refine dt 13 ?_
    refine dO 8 (by kernel_rfl) (by rw [List.getElem?_toArray];rfl) ?_
    apply Ho;rfl;rfl;rfl;rfl;exact Hl;exact Hg;intro _
    rename_i gf
    refine Ei (E:=Bd) (xs:=[(r.1:Int)]) (Mi _) ?_ (by simp)
    refine A1 (E:=Bd) fun F10=>?_
    refine dk ?_
    refine dt 14 ?_
    refine dO 15 (by kernel_rfl) (by rw [List.getElem?_toArray];rfl) ?_
    apply Ho;rfl;rfl;rfl;rfl;exact Hl;exact Hg;intro _
    refine Pg ⟨q.1,[(r.1:Int)],z.y.Ai+(t.1:Nat)⟩ ?_
    refine dk ?_
    refine dO 16 (by kernel_rfl) (by rw [List.getElem?_toArray];rfl) ?_
    refine Mf (ys:=[([.int .i64 q.1,.slice (some ⟨gf,0,none⟩) 1 1,.int .i64 (z.y.Ai+(t.1:Nat))]:List Value)]) (Sn (m:=3) (cs:=[.int .i64 q.1,.slice (some ⟨gf,0,none⟩) 1 1,.int .i64 (z.y.Ai+(t.1:Nat))]) rfl (by simp [Value.oneCell'])) (M6 3) (fun a9 c9 F11=>?_)
    refine dk ?_
    refine dt 17 ?_
    refine dO 18 (by kernel_rfl) (by rw [List.getElem?_toArray];rfl) ?_
    apply Cs;rfl;rfl;rfl;(first|exact AggC.s|exact OneC.s);rfl;exact Cu;exact Ct;rfl
    refine Ng ?_
    refine dd ?_
    refine go ?_;intros
    refine A1 (E:=EC 3) fun F8=>?_
    refine Aez (E:=Da) (x:=⟨q.1,[(r.1:Int)],z.y.Ai+(t.1:Nat)⟩) ?_
    refine Amv (E:=Da) (c1:=ys.flatten) (c2:=[.int .i64 q.1,.slice (some ⟨gf,0,none⟩) 1 1,.int .i64 (z.y.Ai+(t.1:Nat))]) (x1:=z.y.Ah) (x2:=[⟨q.1,[(r.1:Int)],z.y.Ai+(t.1:Nat)⟩]) rfl rfl ?_
    refine Nc (E:=Da) (m:=3) (v:=.agg (ys.flatten++([.int .i64 q.1,.slice (some ⟨gf,0,none⟩) 1 1,.int .i64 (z.y.Ai+(t.1:Nat))]:List Value)).toArray) (ys:=ys++[([.int .i64 q.1,.slice (some ⟨gf,0,none⟩) 1 1,.int .i64 (z.y.Ai+(t.1:Nat))]:List Value)]) (xs:=z.y.Ah++[(⟨q.1,[(r.1:Int)],z.y.Ai+(t.1:Nat)⟩:Fb)]) rfl (by simp [hyl]) (by simp) fun F9=>?_
    rw [show (ys++[([.int .i64 q.1,.slice (some ⟨gf,0,none⟩) 1 1,.int .i64 (z.y.Ai+(t.1:Nat))]:List Value)]).length=(z.y.Ah++[(⟨q.1,[(r.1:Int)],z.y.Ai+(t.1:Nat)⟩:Fb)]).length by simp [hyl]]
    refine E7 ⟨z.y.Ai,z.y.Ah++[⟨q.1,[(r.1:Int)],z.y.Ai+(t.1:Nat)⟩]⟩ ?_
    refine ret ⟨⟨z.y.Ai,z.y.Ah++[⟨q.1,[(r.1:Int)],z.y.Ai+(t.1:Nat)⟩]⟩,_,_,_,0,t.2⟩ ⟨by show (z.y.Ah++[_]).length≤1000;simp;omega,ht2.mono (by omega)⟩ rfl
  refine go ?_;intros
  refine Bg rfl (fun e2=>?_) (fun e2=>?_)
  ·refine Ep (x:=z.y) (F:=z.F) ?_
   rintro b1 d1 G1 e5 m1
   simp only [Value.agg.injEq,Array.mk.injEq,List.cons.injEq,Value.slice.injEq,Value.int.injEq,true_and,and_true] at e5
   obtain ⟨rfl,rfl⟩:=e5
   have hk0:=z1.k0
   have hk1:=z1.k1
   refine Ye Ri (xs:=z.y.Ah) (m:=3) rfl fun ys Fy Gy hyl hym=>?_
   refine Jm ?_;intros
   refine As [4] [11] ?_
   refine dt 1 ?_
   refine dt 2 ?_
   refine dt 4 ?_
   refine dt 5 ?_
   refine dt 6 ?_
   refine dt 7 ?_
   refine Ov 0 8 (by kernel_rfl) (by rw [List.getElem?_toArray];rfl) (by rw [List.getElem?_toArray];rfl) ?_ ?_
   ·apply Jw;rfl;intro _
    refine C9 (EC 3) ?_
    refine dk ?_
    refine Ov 3 8 (by kernel_rfl) (by rw [List.getElem?_toArray];rfl) (by rw [List.getElem?_toArray];rfl) ?_ ?_
    ·refine Lx (ys:=ys) (M6 3) (Ga 3) (fun a7 c7 F7=>?_) (hn:=hyl.symm) (h63:=by simp only [List.length_nil];omega) (hby:=by simp only [List.length_nil];omega)
     rw [List.nil_append]
     refine dk ?_
     refine dO 8 (by kernel_rfl) (by rw [List.getElem?_toArray];rfl) ?_
     apply Ho;rfl;rfl;rfl;rfl;exact Hl;exact Hg;intro _
     refine Bw Bd (by decide) ?_
     refine Pg ⟨77,[],z.y.Ai+2⟩ ?_
     refine dk ?_
     refine dO 9 (by kernel_rfl) (by rw [List.getElem?_toArray];rfl) ?_
     refine Mf (ys:=[([.int .i64 77,.slice none 0 0,.int .i64 (z.y.Ai+2)]:List Value)]) (Sn (m:=3) (cs:=[.int .i64 77,.slice none 0 0,.int .i64 (z.y.Ai+2)]) rfl (by simp [Value.oneCell'])) (M6 3) (fun a9 c9 F11=>?_)
     refine dk ?_
     refine dt 10 ?_
     refine dO 11 (by kernel_rfl) (by rw [List.getElem?_toArray];rfl) ?_
     apply Cs;rfl;rfl;rfl;(first|exact AggC.s|exact OneC.s);rfl;exact Cu;exact Ct;rfl
     refine Ng ?_
     refine dd ?_
     refine go ?_;intros
     refine A1 (E:=EC 3) fun F8=>?_
     refine Aez (E:=Da) (x:=⟨77,[],z.y.Ai+2⟩) ?_
     refine Amv (E:=Da) (c1:=ys.flatten) (c2:=[.int .i64 77,.slice none 0 0,.int .i64 (z.y.Ai+2)]) (x1:=z.y.Ah) (x2:=[⟨77,[],z.y.Ai+2⟩]) rfl rfl ?_
     refine Nc (E:=Da) (m:=3) (v:=.agg (ys.flatten++([.int .i64 77,.slice none 0 0,.int .i64 (z.y.Ai+2)]:List Value)).toArray) (ys:=ys++[([.int .i64 77,.slice none 0 0,.int .i64 (z.y.Ai+2)]:List Value)]) (xs:=z.y.Ah++[(⟨77,[],z.y.Ai+2⟩:Fb)]) rfl (by simp [hyl]) (by simp) fun F9=>?_
     rw [show (ys++[([.int .i64 77,.slice none 0 0,.int .i64 (z.y.Ai+2)]:List Value)]).length=(z.y.Ah++[(⟨77,[],z.y.Ai+2⟩:Fb)]).length by simp [hyl]]
     refine E7 ⟨z.y.Ai,z.y.Ah++[⟨77,[],z.y.Ai+2⟩]⟩ ?_
     refine ret ⟨⟨z.y.Ai,z.y.Ah++[⟨77,[],z.y.Ai+2⟩]⟩,_,_,_,0,s3⟩ ⟨by show (z.y.Ah++[_]).length≤1000;simp;omega,hp.mono (by omega)⟩ rfl
    ·apply Ho;rfl;rfl;rfl;rfl;exact Hl;exact Hg;intro _
     refine Bw Bd (by decide) ?_
     refine Pg ⟨77,[],z.y.Ai+2⟩ ?_
     refine dk ?_
     refine dO 3 (by kernel_rfl) (by rw [List.getElem?_toArray];rfl) ?_
     refine Lx (ys:=ys) (M6 3) (Ga 3) (fun a7 c7 F7=>?_) (hn:=hyl.symm) (h63:=by simp only [List.length_nil];omega) (hby:=by simp only [List.length_nil];omega)
     rw [List.nil_append]
     refine dk ?_
     refine dO 9 (by kernel_rfl) (by rw [List.getElem?_toArray];rfl) ?_
     refine Mf (ys:=[([.int .i64 77,.slice none 0 0,.int .i64 (z.y.Ai+2)]:List Value)]) (Sn (m:=3) (cs:=[.int .i64 77,.slice none 0 0,.int .i64 (z.y.Ai+2)]) rfl (by simp [Value.oneCell'])) (M6 3) (fun a9 c9 F11=>?_)
     refine dk ?_
     refine dt 10 ?_
     refine dO 11 (by kernel_rfl) (by rw [List.getElem?_toArray];rfl) ?_
     apply Cs;rfl;rfl;rfl;(first|exact AggC.s|exact OneC.s);rfl;exact Cu;exact Ct;rfl
     refine Ng ?_
     refine dd ?_
     refine go ?_;intros
     refine A1 (E:=EC 3) fun F8=>?_
     refine Aez (E:=Da) (x:=⟨77,[],z.y.Ai+2⟩) ?_
     refine Amv (E:=Da) (c1:=ys.flatten) (c2:=[.int .i64 77,.slice none 0 0,.int .i64 (z.y.Ai+2)]) (x1:=z.y.Ah) (x2:=[⟨77,[],z.y.Ai+2⟩]) rfl rfl ?_
     refine Nc (E:=Da) (m:=3) (v:=.agg (ys.flatten++([.int .i64 77,.slice none 0 0,.int .i64 (z.y.Ai+2)]:List Value)).toArray) (ys:=ys++[([.int .i64 77,.slice none 0 0,.int .i64 (z.y.Ai+2)]:List Value)]) (xs:=z.y.Ah++[(⟨77,[],z.y.Ai+2⟩:Fb)]) rfl (by simp [hyl]) (by simp) fun F9=>?_
     rw [show (ys++[([.int .i64 77,.slice none 0 0,.int .i64 (z.y.Ai+2)]:List Value)]).length=(z.y.Ah++[(⟨77,[],z.y.Ai+2⟩:Fb)]).length by simp [hyl]]
     refine E7 ⟨z.y.Ai,z.y.Ah++[⟨77,[],z.y.Ai+2⟩]⟩ ?_
     refine ret ⟨⟨z.y.Ai,z.y.Ah++[⟨77,[],z.y.Ai+2⟩]⟩,_,_,_,0,s3⟩ ⟨by show (z.y.Ah++[_]).length≤1000;simp;omega,hp.mono (by omega)⟩ rfl
   ·apply Ho;rfl;rfl;rfl;rfl;exact Hl;exact Hg;intro _
    refine Bw Bd (by decide) ?_
    refine Pg ⟨77,[],z.y.Ai+2⟩ ?_
    refine dk ?_
    refine dO 0 (by kernel_rfl) (by rw [List.getElem?_toArray];rfl) ?_
    apply Jw;rfl;intro _
    refine C9 (EC 3) ?_
    refine dk ?_
    refine dO 3 (by kernel_rfl) (by rw [List.getElem?_toArray];rfl) ?_
    refine Lx (ys:=ys) (M6 3) (Ga 3) (fun a7 c7 F7=>?_) (hn:=hyl.symm) (h63:=by simp only [List.length_nil];omega) (hby:=by simp only [List.length_nil];omega)
    rw [List.nil_append]
    refine dk ?_
    refine dO 9 (by kernel_rfl) (by rw [List.getElem?_toArray];rfl) ?_
    refine Mf (ys:=[([.int .i64 77,.slice none 0 0,.int .i64 (z.y.Ai+2)]:List Value)]) (Sn (m:=3) (cs:=[.int .i64 77,.slice none 0 0,.int .i64 (z.y.Ai+2)]) rfl (by simp [Value.oneCell'])) (M6 3) (fun a9 c9 F11=>?_)
    refine dk ?_
    refine dt 10 ?_
    refine dO 11 (by kernel_rfl) (by rw [List.getElem?_toArray];rfl) ?_
    apply Cs;rfl;rfl;rfl;(first|exact AggC.s|exact OneC.s);rfl;exact Cu;exact Ct;rfl
    refine Ng ?_
    refine dd ?_
    refine go ?_;intros
    refine A1 (E:=EC 3) fun F8=>?_
    refine Aez (E:=Da) (x:=⟨77,[],z.y.Ai+2⟩) ?_
    refine Amv (E:=Da) (c1:=ys.flatten) (c2:=[.int .i64 77,.slice none 0 0,.int .i64 (z.y.Ai+2)]) (x1:=z.y.Ah) (x2:=[⟨77,[],z.y.Ai+2⟩]) rfl rfl ?_
    refine Nc (E:=Da) (m:=3) (v:=.agg (ys.flatten++([.int .i64 77,.slice none 0 0,.int .i64 (z.y.Ai+2)]:List Value)).toArray) (ys:=ys++[([.int .i64 77,.slice none 0 0,.int .i64 (z.y.Ai+2)]:List Value)]) (xs:=z.y.Ah++[(⟨77,[],z.y.Ai+2⟩:Fb)]) rfl (by simp [hyl]) (by simp) fun F9=>?_
    rw [show (ys++[([.int .i64 77,.slice none 0 0,.int .i64 (z.y.Ai+2)]:List Value)]).length=(z.y.Ah++[(⟨77,[],z.y.Ai+2⟩:Fb)]).length by simp [hyl]]
    refine E7 ⟨z.y.Ai,z.y.Ah++[⟨77,[],z.y.Ai+2⟩]⟩ ?_
    refine ret ⟨⟨z.y.Ai,z.y.Ah++[⟨77,[],z.y.Ai+2⟩]⟩,_,_,_,0,s3⟩ ⟨by show (z.y.Ah++[_]).length≤1000;simp;omega,hp.mono (by omega)⟩ rfl
  ·refine go ?_;intros
   refine ret ⟨z.y,z.a,z.c,z.F,0,s3⟩ ⟨by show z.y.Ah.length≤1000;omega,hp.mono (by omega)⟩ rfl
structure NtD where
 n:D9
 cs:List Value
 F:List Nat
 s:Ps
structure NtW where
 n:D9
 cs:List Value
 F:List Nat
 i:Nat
 s:Ps
structure As2 (B:Nat) (z:NtW):Prop where
 g:Ax z.n=true
 i:z.i≤23
 s:Ia (B+400+200 * (23 - z.i)) z.s
theorem Qm {n:D9} (h:Ax n=true):2≤n.Am.Ac.length∧n.Am.Ac.length≤8∧n.down.length≤8∧n.up.length=n.down.length∧n.Af.length=n.Am.Ac.length∧n.down.length=n.Am.Ac.length:=by
 have hG:=A8.1 h
 have h1:=(Ff hG.t).n0
 have h2:=(Ff hG.t).n1
 obtain ⟨q1,q2,q3,q4⟩:=Bm.1 hG.l
 exact ⟨h1,h2,by omega,by omega,by omega,by omega⟩
theorem Amn {n:D9} {p:Av} (h:∀q∈n.down++n.up,q.length≤6):∀q∈n.down++n.up.set 1 [p],q.length≤6:=fun q hq=>by
 rcases List.mem_append.1 hq with hq|hq
 ·exact h q (List.mem_append_left _ hq)
 ·rcases List.mem_or_eq_of_mem_set hq with hq|rfl
  ·exact h q (List.mem_append_right _ hq)
  ·exact (by decide:1≤6)
theorem V7 {n:D9} (h:Ax n=true):∀q∈n.down++n.up,q.length≤6:=fun q hq=>by
 obtain ⟨-, -,e3,e4⟩:=Iw h
 rcases List.mem_append.1 hq with hq|hq
 ·exact (Do (e3 q hq)).1
 ·exact (Do (e4 q hq)).1
theorem Asc (B g:Nat) (F:T3) (s:Ps) (FT:List Nat) (ok:Ia B s) (hB:B≤600000000000) :
  Fn prog 31 [Ez g 0 0] [.sl Gf (.slice F.a F.Br.length F.c) F.Br F.bs,Lw FT] [.row g 67 0 [] [.slice F.a F.Br.length F.c,.int .i64 (s.k:Nat),.int .u64 s.D7] []] (fun (z:NtD)=>(2≤z.n.Am.Ac.length∧z.n.Am.Ac.length≤8∧z.n.down.length≤8∧z.n.up.length=z.n.down.length∧∀q∈z.n.down++z.n.up,q.length≤6)∧Ia (B+9000) z.s) (fun z=>.agg z.cs.toArray)
   (fun z=>[.isv Le (.agg z.cs.toArray) z.n z.F,.row g 67 0 [] [.slice F.a F.Br.length F.c,.int .i64 (z.s.k:Nat),.int .u64 z.s.D7] []]):=by
 refine enter func31 rfl ntmps31 fun w0=>?_
 refine go ?_;intros
 refine cf (Agh B g F s ok (by omega)) fun t ht=>?_
 refine Ap ?_
 obtain ⟨ht1,ht2⟩:=ht
 refine go ?_;intros
 refine cf (Q0 _ g F t.s ht2 (by omega)) fun m hm=>?_
 refine Ap ?_
 obtain ⟨hm1,hm2⟩:=hm
 refine go ?_;intros
 refine cf (Ey _ g F 6 m.2 hm2 (by omega) (by omega)) fun y hy=>?_
 refine Ap ?_
 obtain ⟨k1,s1⟩:=y
 obtain ⟨r1,h1⟩:=hy
 dsimp only at r1 h1 ⊢
 have r1:k1≤5:=by omega
 refine Jm ?_;intros
 refine A1 (E:=Bd) (xs:=t.l) fun Ft=>?_
 refine Ju ⟨t.l⟩ ?_
 refine go ?_;intros
 refine cf (Vq ⟨t.l⟩ m.1 (1+(k1:Nat)) _ _) fun z _=>?_
 refine Ap ?_
 obtain ⟨en,gn⟩:=Afx (t:=⟨t.l⟩) (f:=m.1) (y:=1+(k1:Nat)) ht1 hm1.1 hm1.2 (by omega) (by omega)
 rw [en]
 obtain ⟨cs,F0⟩:=z
 dsimp only
 generalize hN:Pl ⟨t.l⟩ m.1 (1+(k1:Nat))=N at *
 refine N0 S0 fun F0=>?_
 refine Di (x:=N) ?_
 rintro b01 d01 G01 b02 d02 G02 b03 d03 G03 b04 d04 G04 b05 d05 G05 b06 d06 G06 b07 d07 G07 ev - - - - - - -
 obtain rfl:cs=[.slice b01 N.Am.Ac.length d01,.int .i64 N.Ab.Aa.Al,.int .i64 N.Ab.Aa.size,.slice b02 N.Ab.Aa.Aj.length d02,.int .i64 N.Ab.Ai,.int .i64 N.Ab.quiet,.slice b03 N.Ab.holds.length d03,.slice b04 N.Af.length d04,.slice b05 N.Ad.length d05,.slice b06 N.down.length d06,.slice b07 N.up.length d07]:=by simpa using ev
 clear ev
 refine go ?_;intros
 rename_i g3
 refine cf (Ey _ g F 24 s1 h1 (by omega) (by omega)) fun y hy=>?_
 refine Ap ?_
 obtain ⟨r0,s2⟩:=y
 obtain ⟨hr0,h2⟩:=hy
 dsimp only at hr0 h2 ⊢
 have hr0:r0≤23:=by omega
 refine go ?_;intros
 refine Cp [0,2,3] (fun z:NtW=>[(5,.int .i64 (z.i:Nat))]) (fun z=>[.row g3 37 0 [] z.cs [],.isv Le (.agg z.cs.toArray) z.n z.F,.row g 67 0 [] [.slice F.a F.Br.length F.c,.int .i64 (z.s.k:Nat),.int .u64 z.s.D7] []]) (As2 B) (fun z=>z.i) ⟨N,_,_,r0,s2⟩ ⟨gn,hr0,h2.mono (by show _≤B+400+200 * (23 - r0);omega)⟩ fun z hz=>?_
 obtain ⟨x,cs,Fx,zi,zs⟩:=z
 obtain ⟨z1,z2,z4⟩:=hz
 obtain ⟨q2,q8,qd,qu,qe,qt⟩:=Qm z1
 have qq:=V7 z1
 dsimp only at z1 z2 z4 q2 q8 qd qu qe qt qq ⊢
 refine Di (x:=x) ?_
 rintro b1 d1 G1 b2 d2 G2 b3 d3 G3 b4 d4 G4 b5 d5 G5 b6 d6 G6 b7 d7 G7 ev - - - - - - -
 obtain rfl:cs=[.slice b1 x.Am.Ac.length d1,.int .i64 x.Ab.Aa.Al,.int .i64 x.Ab.Aa.size,.slice b2 x.Ab.Aa.Aj.length d2,.int .i64 x.Ab.Ai,.int .i64 x.Ab.quiet,.slice b3 x.Ab.holds.length d3,.slice b4 x.Af.length d4,.slice b5 x.Ad.length d5,.slice b6 x.down.length d6,.slice b7 x.up.length d7]:=by simpa using ev
 clear ev
 refine go ?_;intros
 refine Bg rfl (fun h3=>?_) (fun h3=>?_)
 ·have hi0:0 < zi:=by omega
  refine Jm ?_;intros
  refine As [7] [5,6,7,8,10,11,12] ?_
  refine dtl 0 ?_
  refine dtl 1 ?_
  refine dtl 2 ?_
  refine Ov 3 9 (by kernel_rfl) (by rw [List.getElem?_toArray];rfl) (by rw [List.getElem?_toArray];rfl) ?_ ?_
  ·apply At;rfl;kernel_rfl;exact Bf
   refine cf (Ahg _ g F _ x _ _ (by omega) (by omega) (by omega) (by omega) qq z4 (by omega)) fun t ht=>?_
   refine Ap ?_
   obtain ⟨t1,t2,t3⟩:=ht
   refine dk ?_
   refine Ov 4 9 (by kernel_rfl) (by rw [List.getElem?_toArray];rfl) (by rw [List.getElem?_toArray];rfl) ?_ ?_
   ·apply At;rfl;kernel_rfl;exact Bf
    refine cf (Tg x t.t _ _ FT t2 z1 t1) fun y _=>?_
    refine Ap ?_
    obtain ⟨ys,yF,ya,yc,yG⟩:=y
    dsimp only
    refine Di (x:=(Aw x t.t).1) ?_
    rintro e1 f1 K1 e2 f2 K2 e3 f3 K3 e4 f4 K4 e5 f5 K5 e6 f6 K6 e7 f7 K7 ev - - - - - - -
    obtain rfl:ys=[.slice e1 (Aw x t.t).1.Am.Ac.length f1,.int .i64 (Aw x t.t).1.Ab.Aa.Al,.int .i64 (Aw x t.t).1.Ab.Aa.size,.slice e2 (Aw x t.t).1.Ab.Aa.Aj.length f2,.int .i64 (Aw x t.t).1.Ab.Ai,.int .i64 (Aw x t.t).1.Ab.quiet,.slice e3 (Aw x t.t).1.Ab.holds.length f3,.slice e4 (Aw x t.t).1.Af.length f4,.slice e5 (Aw x t.t).1.Ad.length f5,.slice e6 (Aw x t.t).1.down.length f6,.slice e7 (Aw x t.t).1.up.length f7]:=by simpa using ev
    clear ev
    refine dk ?_
    refine Ua 5 ?_
    refine Ua 6 ?_
    refine Ua 7 ?_
    refine Ua 8 ?_
    refine dO 9 (by kernel_rfl) (by rw [List.getElem?_toArray];rfl) ?_
    apply Ce;rfl;intro _
    refine dk ?_
    refine dO 10 (by kernel_rfl) (by rw [List.getElem?_toArray];rfl) ?_
    apply Cs;rfl;rfl;rfl;(first|exact AggC.s|exact OneC.s);rfl;exact Cu;exact Ct;rfl
    refine Ng ?_
    refine Ua 11 ?_
    refine Ua 12 ?_
    refine dd ?_
    rename_i g6
    cases eb:(Aw x t.t).2.2
    ·refine go ?_;intros
     rw [show ((zi:Nat):Int) - 1=((zi - 1:Nat):Int) by omega]
     refine Ck ⟨x,_,_,zi - 1,t.s⟩ ⟨z1,by show zi - 1≤23;omega,t3.mono (by show _≤B+400+200 * (23 - (zi - 1));omega)⟩ (by show zi - 1 < zi;omega)
    ·refine go ?_;intros
     rw [show ((zi:Nat):Int) - 1=((zi - 1:Nat):Int) by omega]
     refine Ck ⟨(Aw x t.t).1,_,_,zi - 1,t.s⟩ ⟨Rr eb,by show zi - 1≤23;omega,t3.mono (by show _≤B+400+200 * (23 - (zi - 1));omega)⟩ (by show zi - 1 < zi;omega)
   ·apply Ce;rfl;intro _
    refine dk ?_
    refine dO 4 (by kernel_rfl) (by rw [List.getElem?_toArray];rfl) ?_
    apply At;rfl;kernel_rfl;exact Bf
    refine cf (Tg x t.t _ _ FT t2 z1 t1) fun y _=>?_
    refine Ap ?_
    obtain ⟨ys,yF,ya,yc,yG⟩:=y
    dsimp only
    refine Di (x:=(Aw x t.t).1) ?_
    rintro e1 f1 K1 e2 f2 K2 e3 f3 K3 e4 f4 K4 e5 f5 K5 e6 f6 K6 e7 f7 K7 ev - - - - - - -
    obtain rfl:ys=[.slice e1 (Aw x t.t).1.Am.Ac.length f1,.int .i64 (Aw x t.t).1.Ab.Aa.Al,.int .i64 (Aw x t.t).1.Ab.Aa.size,.slice e2 (Aw x t.t).1.Ab.Aa.Aj.length f2,.int .i64 (Aw x t.t).1.Ab.Ai,.int .i64 (Aw x t.t).1.Ab.quiet,.slice e3 (Aw x t.t).1.Ab.holds.length f3,.slice e4 (Aw x t.t).1.Af.length f4,.slice e5 (Aw x t.t).1.Ad.length f5,.slice e6 (Aw x t.t).1.down.length f6,.slice e7 (Aw x t.t).1.up.length f7]:=by simpa using ev
    clear ev
    refine dk ?_
    refine Ua 5 ?_
    refine Ua 6 ?_
    refine Ua 7 ?_
    refine Ua 8 ?_
    refine dO 10 (by kernel_rfl) (by rw [List.getElem?_toArray];rfl) ?_
    apply Cs;rfl;rfl;rfl;(first|exact AggC.s|exact OneC.s);rfl;exact Cu;exact Ct;rfl
    refine Ng ?_
    refine Ua 11 ?_
    refine Ua 12 ?_
    refine dd ?_
    rename_i g6
    cases eb:(Aw x t.t).2.2
    ·refine go ?_;intros
     rw [show ((zi:Nat):Int) - 1=((zi - 1:Nat):Int) by omega]
     refine Ck ⟨x,_,_,zi - 1,t.s⟩ ⟨z1,by show zi - 1≤23;omega,t3.mono (by show _≤B+400+200 * (23 - (zi - 1));omega)⟩ (by show zi - 1 < zi;omega)
    ·refine go ?_;intros
     rw [show ((zi:Nat):Int) - 1=((zi - 1:Nat):Int) by omega]
     refine Ck ⟨(Aw x t.t).1,_,_,zi - 1,t.s⟩ ⟨Rr eb,by show zi - 1≤23;omega,t3.mono (by show _≤B+400+200 * (23 - (zi - 1));omega)⟩ (by show zi - 1 < zi;omega)
  ·apply Ce;rfl;intro _
   refine dk ?_
   refine dO 3 (by kernel_rfl) (by rw [List.getElem?_toArray];rfl) ?_
   apply At;rfl;kernel_rfl;exact Bf
   refine cf (Ahg _ g F _ x _ _ (by omega) (by omega) (by omega) (by omega) qq z4 (by omega)) fun t ht=>?_
   refine Ap ?_
   obtain ⟨t1,t2,t3⟩:=ht
   refine dk ?_
   refine dO 4 (by kernel_rfl) (by rw [List.getElem?_toArray];rfl) ?_
   apply At;rfl;kernel_rfl;exact Bf
   refine cf (Tg x t.t _ _ FT t2 z1 t1) fun y _=>?_
   refine Ap ?_
   obtain ⟨ys,yF,ya,yc,yG⟩:=y
   dsimp only
   refine Di (x:=(Aw x t.t).1) ?_
   rintro e1 f1 K1 e2 f2 K2 e3 f3 K3 e4 f4 K4 e5 f5 K5 e6 f6 K6 e7 f7 K7 ev - - - - - - -
   obtain rfl:ys=[.slice e1 (Aw x t.t).1.Am.Ac.length f1,.int .i64 (Aw x t.t).1.Ab.Aa.Al,.int .i64 (Aw x t.t).1.Ab.Aa.size,.slice e2 (Aw x t.t).1.Ab.Aa.Aj.length f2,.int .i64 (Aw x t.t).1.Ab.Ai,.int .i64 (Aw x t.t).1.Ab.quiet,.slice e3 (Aw x t.t).1.Ab.holds.length f3,.slice e4 (Aw x t.t).1.Af.length f4,.slice e5 (Aw x t.t).1.Ad.length f5,.slice e6 (Aw x t.t).1.down.length f6,.slice e7 (Aw x t.t).1.up.length f7]:=by simpa using ev
   clear ev
   refine dk ?_
   refine Ua 5 ?_
   refine Ua 6 ?_
   refine Ua 7 ?_
   refine Ua 8 ?_
   refine dO 10 (by kernel_rfl) (by rw [List.getElem?_toArray];rfl) ?_
   apply Cs;rfl;rfl;rfl;(first|exact AggC.s|exact OneC.s);rfl;exact Cu;exact Ct;rfl
   refine Ng ?_
   refine Ua 11 ?_
   refine Ua 12 ?_
   refine dd ?_
   rename_i g6
   cases eb:(Aw x t.t).2.2
   ·refine go ?_;intros
    rw [show ((zi:Nat):Int) - 1=((zi - 1:Nat):Int) by omega]
    refine Ck ⟨x,_,_,zi - 1,t.s⟩ ⟨z1,by show zi - 1≤23;omega,t3.mono (by show _≤B+400+200 * (23 - (zi - 1));omega)⟩ (by show zi - 1 < zi;omega)
   ·refine go ?_;intros
    rw [show ((zi:Nat):Int) - 1=((zi - 1:Nat):Int) by omega]
    refine Ck ⟨(Aw x t.t).1,_,_,zi - 1,t.s⟩ ⟨Rr eb,by show zi - 1≤23;omega,t3.mono (by show _≤B+400+200 * (23 - (zi - 1));omega)⟩ (by show zi - 1 < zi;omega)
 refine go ?_;intros
 refine cf (Ey _ g F 32 zs z4 (by omega) (by omega)) fun y hy=>?_
 refine Ap ?_
 obtain ⟨r6,s6⟩:=y
 obtain ⟨hr6,h6⟩:=hy
 dsimp only at hr6 h6 ⊢
 have hr6:r6≤31:=by omega
 refine go ?_;intros
 refine Bg rfl (fun e0=>?_) (fun e0=>?_)
 ·refine go ?_;intros
  refine cf (Amo _ g F s6 h6 (by omega)) fun y hy=>?_
  refine Ap ?_
  obtain ⟨hy1,hy2,hy3⟩:=hy
  refine Ex (x:=y.y) ?_
  rintro a2 c2 L2 a3 c3 L3 ev - -
  simp only [Value.agg.injEq,Array.mk.injEq,List.cons.injEq,Value.slice.injEq,true_and,and_true] at ev
  obtain ⟨⟨rfl,rfl⟩,rfl,rfl⟩:=ev
  refine go ?_;intros
  refine Is ⟨x.Am,y.y,x.Af,x.Ad,x.down,x.up⟩ (a1:=b1) (a2:=y.a) (a3:=y.a2) (a4:=b4) (a5:=b5) (a6:=b6) (a7:=b7) ?_
  refine ret ⟨⟨x.Am,y.y,x.Af,x.Ad,x.down,x.up⟩,_,_,y.s⟩ ⟨⟨q2,q8,qd,qu,qq⟩,hy3.mono (by omega)⟩ rfl
 refine go ?_;intros
 refine Bg rfl (fun e1=>?_) (fun e1=>?_)
 ·refine go ?_;intros
  refine cf (Agh _ g F s6 h6 (by omega)) fun y hy=>?_
  refine Ap ?_
  obtain ⟨hy1,hy2⟩:=hy
  refine A1 (E:=Bd) (xs:=y.l) fun Ft=>?_
  refine go ?_;intros
  refine Is ⟨⟨y.l⟩,x.Ab,x.Af,x.Ad,x.down,x.up⟩ (a1:=y.a) (a2:=b2) (a3:=b3) (a4:=b4) (a5:=b5) (a6:=b6) (a7:=b7) ?_
  refine ret ⟨⟨⟨y.l⟩,x.Ab,x.Af,x.Ad,x.down,x.up⟩,_,_,y.s⟩ ⟨⟨hy1.n0,hy1.n1,qd,qu,qq⟩,hy2.mono (by omega)⟩ rfl
 refine go ?_;intros
 refine Bg rfl (fun e2=>?_) (fun e2=>?_)
 ·refine Ye (Aop Ak (by decide)) (xs:=x.up) (m:=1) rfl fun ys Fy Gy hyl hym=>?_
  refine Jm ?_;intros
  refine C9 (EC 1) ?_
  refine go ?_;intros
  apply wO
  refine Lx (ys:=ys) (M6 1) (Ga 1) (fun a7 c7 F7=>?_) (hn:=hyl.symm) (h63:=by simp only [List.length_nil];omega) (hby:=by simp only [List.length_nil];omega)
  rw [List.nil_append]
  refine go ?_;intros
  have h1u:1 < ys.length:=by omega
  obtain ⟨v9,e9⟩:∃v,ys[1]=[v]:=List.length_eq_one_iff.1 (hym _ (List.getElem_mem h1u))
  refine N6 (E:=EC 1) (xs:=ys) (m:=1) (Ga 1) 1 ?_ (by repeat (first|exact .here|apply C0.there)) rfl h1u
  rintro _ gq A cq Bq rfl k2 k3 hH
  obtain ⟨k4, -, -⟩:=k3 w0
  rw [e9] at k4
  subst k4
  dsimp only [List.append]
  refine Jm ?_;intros
  refine As [11] [6] ?_
  refine dt 0 ?_
  refine dt 1 ?_
  refine dt 2 ?_
  refine dO 3 (by kernel_rfl) (by rw [List.getElem?_toArray];rfl) ?_
  apply At;rfl;kernel_rfl;exact Bf
  refine cf (Adk _ g F s6 h6 (by omega)) fun p hp=>?_
  refine Ap ?_
  obtain ⟨hp1,hp2⟩:=hp
  refine dk ?_
  refine dO 4 (by kernel_rfl) (by rw [List.getElem?_toArray];rfl) ?_
  apply Ho;rfl;rfl;rfl;rfl;exact Hl;exact Hg;intro _
  rename_i gp
  refine Ei (E:=Ak) (xs:=[p.1]) (C5 p.1 hp1) ?_ (by simp)
  refine A1 (E:=Ak) (xs:=[p.1]) fun Fp=>?_
  refine dk ?_
  refine dt 5 ?_
  refine dO 6 (by kernel_rfl) (by rw [List.getElem?_toArray];rfl) ?_
  apply Cs;rfl;rfl;rfl;(first|exact AggC.s|exact OneC.s);rfl;exact Cu;exact Ct;rfl
  refine Ng ?_
  refine dd ?_
  refine Nd (E:=EC 1) (xs:=ys) [.slice (some ⟨gp,0,none⟩) 1 1] hH (fun w=>⟨rfl,⟨rfl,by simp [Value.oneCell']⟩,rfl⟩) ?_
  refine Um (E:=Ak) (x:=[p.1]) (by decide) ?_
  refine Nv (E:=Md Ak (by decide)) (ys:=ys) (xs:=x.up) (x:=[p.1]) 1 rfl hym (by omega) fun G'=>?_
  refine A1 (E:=EC 1) (xs:=ys.set 1 [.slice (some ⟨gp,0,none⟩) 1 1]) fun F8=>?_
  refine Nc (E:=Md Ak (by decide)) (m:=1) (ys:=ys.set 1 [.slice (some ⟨gp,0,none⟩) 1 1]) (xs:=x.up.set 1 [p.1]) rfl (by simp [hyl]) rfl fun F9=>?_
  rw [show ys.length=(x.up.set 1 [p.1]).length by simp [hyl]]
  refine go ?_;intros
  refine Is ⟨x.Am,x.Ab,x.Af,x.Ad,x.down,x.up.set 1 [p.1]⟩ (a1:=b1) (a2:=b2) (a3:=b3) (a4:=b4) (a5:=b5) (a6:=b6) ?_
  refine ret ⟨⟨x.Am,x.Ab,x.Af,x.Ad,x.down,x.up.set 1 [p.1]⟩,_,_,p.2⟩ ⟨⟨q2,q8,qd,by show (x.up.set 1 [p.1]).length=x.down.length;rw [List.length_set];exact qu,Amn qq⟩,hp2.mono (by omega)⟩ rfl
 refine go ?_;intros
 refine Bg rfl (fun e3=>?_) (fun e3=>?_)
 ·refine Ye Acn (xs:=x.Af) (m:=2) rfl fun ys Fy Gy hyl hym=>?_
  refine Jm ?_;intros
  refine C9 (EC 2) ?_
  refine go ?_;intros
  apply wO
  refine Lx (ys:=ys) (M6 2) (Ga 2) (fun a7 c7 F7=>?_) (hn:=hyl.symm) (h63:=by simp only [List.length_nil];omega) (hby:=by simp only [List.length_nil];omega)
  rw [List.nil_append]
  refine go ?_;intros
  have h1u:1 < ys.length:=by omega
  obtain ⟨v9,u9,e9⟩:∃v u,ys[1]=[v,u]:=by
   have h2:=hym _ (List.getElem_mem h1u)
   match hY:ys[1],h2 with
   | [v,u],_=>exact ⟨v,u,rfl⟩
  refine N6 (E:=EC 2) (xs:=ys) (m:=2) (Ga 2) 1 ?_ (by repeat (first|exact .here|apply C0.there)) rfl h1u
  rintro _ gq A cq Bq rfl k2 k3 hH
  obtain ⟨k4, -, -⟩:=k3 w0
  rw [e9] at k4
  subst k4
  dsimp only [List.append]
  refine Jm ?_;intros
  refine As [11] [5] ?_
  refine dt 0 ?_
  refine dt 1 ?_
  refine dt 2 ?_
  refine dO 3 (by kernel_rfl) (by rw [List.getElem?_toArray];rfl) ?_
  apply At;rfl;kernel_rfl;exact Bf
  refine cf (Ahz _ g F s6 h6 (by omega)) fun p hp=>?_
  refine Ap ?_
  obtain ⟨hp1,hp2⟩:=hp
  refine dk ?_
  refine dt 4 ?_
  refine dO 5 (by kernel_rfl) (by rw [List.getElem?_toArray];rfl) ?_
  apply Cs;rfl;rfl;rfl;(first|exact AggC.s|exact OneC.s);rfl;exact Cu;exact Ct;rfl
  refine Ng ?_
  refine dd ?_
  refine Nd (E:=EC 2) (xs:=ys) [.int .i64 p.y.Ai,.slice p.a p.y.Ah.length p.c] hH (fun w=>⟨rfl,⟨rfl,by simp [Value.oneCell']⟩,rfl⟩) ?_
  refine Nv (E:=Bn) (ys:=ys) (xs:=x.Af) (x:=p.y) 1 rfl hym (by omega) fun G'=>?_
  refine A1 (E:=EC 2) (xs:=ys.set 1 [.int .i64 p.y.Ai,.slice p.a p.y.Ah.length p.c]) fun F8=>?_
  refine Nc (E:=Bn) (m:=2) (ys:=ys.set 1 [.int .i64 p.y.Ai,.slice p.a p.y.Ah.length p.c]) (xs:=x.Af.set 1 p.y) rfl (by simp [hyl]) rfl fun F9=>?_
  rw [show ys.length=(x.Af.set 1 p.y).length by simp [hyl]]
  refine go ?_;intros
  refine Is ⟨x.Am,x.Ab,x.Af.set 1 p.y,x.Ad,x.down,x.up⟩ (a1:=b1) (a2:=b2) (a3:=b3) (a5:=b5) (a6:=b6) (a7:=b7) ?_
  refine ret ⟨⟨x.Am,x.Ab,x.Af.set 1 p.y,x.Ad,x.down,x.up⟩,_,_,p.s⟩ ⟨⟨q2,q8,qd,qu,qq⟩,hp2.mono (by omega)⟩ rfl
 refine go ?_;intros
 refine Is x (a1:=b1) (a2:=b2) (a3:=b3) (a4:=b4) (a5:=b5) (a6:=b6) (a7:=b7) ?_
 refine ret ⟨x,_,_,s6⟩ ⟨⟨q2,q8,qd,qu,qq⟩,h6.mono (by omega)⟩ rfl
structure NtT where
 n:D9
 cs:List Value
 F:List Nat
 t:Li
theorem Q3 (v:Value) (Br:List Int) (G FT:List Nat):Fn prog 53 [v] [.sl Gf v Br G,Lw FT] [] (fun (z:NtD)=>∀q∈z.n.down++z.n.up,q.length≤6) (fun z=>.agg z.cs.toArray) (fun z=>[.isv Le (.agg z.cs.toArray) z.n z.F]):=by
 refine enter func53 rfl ntmps53 fun w0=>?_
 refine Tp (E:=Gf) ?_
 rintro a c rfl l1 l2
 refine go ?_;intros
 rename_i gc
 refine cf (Asc 0 _ ⟨Br,a,c,G⟩ ⟨0,0⟩ FT ⟨Nat.le_refl _,by decide,by decide⟩ (by omega)) fun z hz=>?_
 refine Ap ?_
 obtain ⟨⟨q2,q8,qd,qu,qq⟩,hz2⟩:=hz
 obtain ⟨x,cs,Fx,zs⟩:=z
 dsimp only at q2 q8 qd qu qq hz2 ⊢
 refine Di (x:=x) ?_
 rintro b1 d1 G1 b2 d2 G2 b3 d3 G3 b4 d4 G4 b5 d5 G5 b6 d6 G6 b7 d7 G7 ev - - - - - - -
 obtain rfl:cs=[.slice b1 x.Am.Ac.length d1,.int .i64 x.Ab.Aa.Al,.int .i64 x.Ab.Aa.size,.slice b2 x.Ab.Aa.Aj.length d2,.int .i64 x.Ab.Ai,.int .i64 x.Ab.quiet,.slice b3 x.Ab.holds.length d3,.slice b4 x.Af.length d4,.slice b5 x.Ad.length d5,.slice b6 x.down.length d6,.slice b7 x.up.length d7]:=by simpa using ev
 clear ev
 refine go ?_;intros
 refine ret ⟨x,_,Fx,zs⟩ qq rfl
theorem Aby (v:Value) (Br:List Int) (G FT:List Nat):Fn prog 19 [v] [.sl Gf v Br G,Lw FT] [] (fun (z:NtD)=>∀q∈z.n.down++z.n.up,q.length≤6) (fun z=>.agg z.cs.toArray) (fun z=>[.isv Le (.agg z.cs.toArray) z.n z.F]):=by
 refine enter func19 rfl ntmps19 fun w0=>?_
 refine go ?_;intros
 refine cf (Q3 v Br G FT) fun z hz=>?_
 refine Ap ?_
 obtain ⟨x,cs,Fx,zs⟩:=z
 dsimp only at hz ⊢
 refine Di (x:=x) ?_
 rintro b1 d1 G1 b2 d2 G2 b3 d3 G3 b4 d4 G4 b5 d5 G5 b6 d6 G6 b7 d7 G7 ev - - - - - - -
 obtain rfl:cs=[.slice b1 x.Am.Ac.length d1,.int .i64 x.Ab.Aa.Al,.int .i64 x.Ab.Aa.size,.slice b2 x.Ab.Aa.Aj.length d2,.int .i64 x.Ab.Ai,.int .i64 x.Ab.quiet,.slice b3 x.Ab.holds.length d3,.slice b4 x.Af.length d4,.slice b5 x.Ad.length d5,.slice b6 x.down.length d6,.slice b7 x.up.length d7]:=by simpa using ev
 clear ev
 refine go ?_;intros
 refine ret ⟨x,_,Fx,zs⟩ hz rfl
theorem Aaa (v:Value) (Br:List Int) (G FT:List Nat):Fn prog 23 [v] [.sl Gf v Br G,Lw FT] [] (fun (z:NtD)=>∀q∈z.n.down++z.n.up,q.length≤6) (fun z=>.agg z.cs.toArray) (fun z=>[.isv Le (.agg z.cs.toArray) z.n z.F]):=by
 refine enter func23 rfl ntmps23 fun w0=>?_
 refine go ?_;intros
 refine cf (Q3 v Br G FT) fun z hz=>?_
 refine Ap ?_
 obtain ⟨x,cs,Fx,zs⟩:=z
 dsimp only at hz ⊢
 refine Di (x:=x) ?_
 rintro b1 d1 G1 b2 d2 G2 b3 d3 G3 b4 d4 G4 b5 d5 G5 b6 d6 G6 b7 d7 G7 ev - - - - - - -
 obtain rfl:cs=[.slice b1 x.Am.Ac.length d1,.int .i64 x.Ab.Aa.Al,.int .i64 x.Ab.Aa.size,.slice b2 x.Ab.Aa.Aj.length d2,.int .i64 x.Ab.Ai,.int .i64 x.Ab.quiet,.slice b3 x.Ab.holds.length d3,.slice b4 x.Af.length d4,.slice b5 x.Ad.length d5,.slice b6 x.down.length d6,.slice b7 x.up.length d7]:=by simpa using ev
 clear ev
 refine go ?_;intros
 refine ret ⟨x,_,Fx,zs⟩ hz rfl
theorem Yl (v:Value) (Br:List Int) (G FT:List Nat):Fn prog 25 [v] [.sl Gf v Br G,Lw FT] [] (fun (z:NtD)=>∀q∈z.n.down++z.n.up,q.length≤6) (fun z=>.agg z.cs.toArray) (fun z=>[.isv Le (.agg z.cs.toArray) z.n z.F]):=by
 refine enter func25 rfl ntmps25 fun w0=>?_
 refine go ?_;intros
 refine cf (Q3 v Br G FT) fun z hz=>?_
 refine Ap ?_
 obtain ⟨x,cs,Fx,zs⟩:=z
 dsimp only at hz ⊢
 refine Di (x:=x) ?_
 rintro b1 d1 G1 b2 d2 G2 b3 d3 G3 b4 d4 G4 b5 d5 G5 b6 d6 G6 b7 d7 G7 ev - - - - - - -
 obtain rfl:cs=[.slice b1 x.Am.Ac.length d1,.int .i64 x.Ab.Aa.Al,.int .i64 x.Ab.Aa.size,.slice b2 x.Ab.Aa.Aj.length d2,.int .i64 x.Ab.Ai,.int .i64 x.Ab.quiet,.slice b3 x.Ab.holds.length d3,.slice b4 x.Af.length d4,.slice b5 x.Ad.length d5,.slice b6 x.down.length d6,.slice b7 x.up.length d7]:=by simpa using ev
 clear ev
 refine go ?_;intros
 refine ret ⟨x,_,Fx,zs⟩ hz rfl
structure RnT where
 n:D9
 cs:List Value
 Fn:List Nat
 l:List Li
 a:Option Addr
 c:Nat
 F:List Nat
structure RnD where
 l:List Li
 a:Option Addr
 c:Nat
 F:List Nat
 i:Nat
 s:Ps
structure RnA (z:RnD):Prop where
 i:z.i≤7
 l:z.l.length+z.i≤7
 s:Ia (9100+300 * (7 - z.i)) z.s
structure RnB (z:RnD):Prop where
 i:z.i≤32
 l:z.l.length≤8+z.i
 s:Ia (12000+10 * z.i) z.s
theorem Ao2 (s:Hq) (w:World):(Op.equalIn 10000 188 (.agg #[.bool s.Te,.string s.Dt]) (.agg #[.bool s.Te,.string s.Dt])).run prog w=.ok true w:=by
 have u1:=underlying4
 have u2:=underlying9
 have hS:prog.underlying 188=some (.struct (prog.fieldsOf 188)):=by kernel_rfl
 rw [show (10000:Nat)=9999+1 from rfl,run_equalIn_agg w 9999 188 _ _ hS (by kernel_rfl)]
 have a1:=Tryz.isAgg4
 have a2:=Tryz.isAgg9
 simp only [Program.fieldsOf,underlying188]
 go_simp
theorem Ajz {n:Nat} {fr:Fr} {H:List Pc} {x y:Operand} {ty t':TypeId} {s:Hq} (hx:ev fr x=some (.agg #[.bool s.Te,.string s.Dt])) (hy:ev fr y=some (.agg #[.bool s.Te,.string s.Dt])):Yd prog n fr H (.binOp .neq 188 x y t') ty (.bool false):=.mk fun c w d pos Cg gd hA _=>by
 have h2:(eqGuard .neq 188 x y (.agg #[.bool s.Te,.string s.Dt]) (.agg #[.bool s.Te,.string s.Dt])).run prog w=.ok () w:=run_eqGuard_agg w _ _ _ _ _ _ (by kernel_rfl)
 simp only [execOp,hA.ev hx,hA.ev hy,Sem.run_bind,h2,Result.andThen_ok,run_neq_struct,Ao2,Sem.run_pure]
 rfl
theorem Am7 (v v2:Value) (x:An) (F F2:List Nat):Fn prog 95 [v,v2] [.isv Bo v x F,.isv Bo v2 x F2] [] (fun (_:Unit)=>True) (fun _=>.bool true) (fun _=>[]):=by
 refine enter func95 rfl ntmps95 fun w0=>?_
 refine Co (v:=v) (x:=x) (F:=F) ?_
 rintro a c F3 rfl l1
 unfold maxLen at l1
 refine Co (v:=v2) (x:=x) (F:=F2) ?_
 rintro a2 c2 F4 rfl l3
 refine go ?_;intros
 refine Dc rfl rfl (fun h=>?_) (fun h=>?_)
 ·exact absurd rfl h
 refine go ?_;intros
 refine Bg rfl (fun h2=>?_) (fun h2=>?_)
 ·exact absurd rfl h2
 refine go ?_;intros
 refine Dv [2,3,4] (fun k:Nat=>[(5,.int .i64 k)]) (fun k=>k≤x.Ao.length) (fun k=>x.Ao.length - k) 0 (Nat.zero_le _) fun k hk=>?_
 refine go ?_;intros
 refine Bg rfl (fun h3=>?_) (fun h3=>?_)
 ·have hk3:k < x.Ao.length:=by omega
  refine M0 (a:=a) (xs:=x.Ao) k ?_
  rintro hi b o e s1
  rw [e]
  refine M0 (a:=a2) (xs:=x.Ao) k ?_
  rintro hi2 b2 o2 e2 s2
  rw [e2]
  refine Jm ?_;intros
  refine As [0,1,2,3] [] ?_
  refine dt 0 ?_
  refine dt 1 ?_
  refine dt 2 ?_
  refine dt 3 ?_
  refine dt 4 ?_
  refine dt 5 ?_
  refine dt 6 ?_
  refine dt 7 ?_
  refine dt 8 ?_
  refine dt 9 ?_
  refine dt 10 ?_ (hy:=Ajz rfl rfl)
  refine dd ?_
  refine go ?_;intros
  refine Ck (k+1) hk3 (by omega)
 ·refine go ?_;intros
  refine ret () trivial rfl
theorem Af4 (s:A4) (w:World):(Op.equalIn 10000 165 (.agg #[.int .i64 s.Ae,.int .i64 s.Gj,.int .i64 s.Ca,.int .i64 s.Dn]) (.agg #[.int .i64 s.Ae,.int .i64 s.Gj,.int .i64 s.Ca,.int .i64 s.Dn])).run prog w=.ok true w:=by
 have u0:=underlying3
 have a0:=Tryz.isAgg3
 have hS:prog.underlying 165=some (.struct (prog.fieldsOf 165)):=by kernel_rfl
 rw [show (10000:Nat)=9999+1 from rfl,run_equalIn_agg w 9999 165 _ _ hS (by kernel_rfl)]
 simp only [Program.fieldsOf,underlying165]
 go_simp
theorem Ac6 {n:Nat} {fr:Fr} {H:List Pc} {x y:Operand} {ty t':TypeId} {s:A4} (hx:ev fr x=some (.agg #[.int .i64 s.Ae,.int .i64 s.Gj,.int .i64 s.Ca,.int .i64 s.Dn])) (hy:ev fr y=some (.agg #[.int .i64 s.Ae,.int .i64 s.Gj,.int .i64 s.Ca,.int .i64 s.Dn])):Yd prog n fr H (.binOp .neq 165 x y t') ty (.bool false):=.mk fun c w d pos Cg gd hA _=>by
 have h2:(eqGuard .neq 165 x y (.agg #[.int .i64 s.Ae,.int .i64 s.Gj,.int .i64 s.Ca,.int .i64 s.Dn]) (.agg #[.int .i64 s.Ae,.int .i64 s.Gj,.int .i64 s.Ca,.int .i64 s.Dn])).run prog w=.ok () w:=run_eqGuard_agg w _ _ _ _ _ _ (by kernel_rfl)
 simp only [execOp,hA.ev hx,hA.ev hy,Sem.run_bind,h2,Result.andThen_ok,run_neq_struct,Af4,Sem.run_pure]
 rfl
theorem Ae3 (a a2:Option Addr) (c c2:Nat) (xs:List A4) (F F2:List Nat) (hl:xs.length≤9223372036854775807):Fn prog 96 [.slice a xs.length c,.slice a2 xs.length c2] [.sl Ay (.slice a xs.length c) xs F,.sl Ay (.slice a2 xs.length c2) xs F2] [] (fun (_:Unit)=>True) (fun _=>.bool true) (fun _=>[]):=by
 refine enter func96 rfl ntmps96 fun w0=>?_
 refine go ?_;intros
 refine Bg rfl (fun h2=>?_) (fun h2=>?_)
 ·exact absurd rfl h2
 refine go ?_;intros
 refine Dv [0,1,4] (fun k:Nat=>[(5,.int .i64 k)]) (fun k=>k≤xs.length) (fun k=>xs.length - k) 0 (Nat.zero_le _) fun k hk=>?_
 refine go ?_;intros
 refine Bg rfl (fun h3=>?_) (fun h3=>?_)
 ·have hk3:k < xs.length:=by omega
  refine Hv (a:=a) (xs:=xs) k ?_
  rintro hi b o e
  rw [e]
  refine Hv (a:=a2) (xs:=xs) k ?_
  rintro hi2 b2 o2 e2
  rw [e2]
  refine Jm ?_;intros
  refine As [0,1] [] ?_
  refine dt 0 ?_
  refine dt 1 ?_
  refine dt 2 ?_
  refine dt 3 ?_
  refine dt 4 ?_
  refine dt 5 ?_
  refine dt 6 ?_
  refine dt 7 ?_
  refine dt 8 ?_ (hy:=Ac6 rfl rfl)
  refine dd ?_
  refine go ?_;intros
  refine Ck (k+1) hk3 (by omega)
 ·refine go ?_;intros
  refine ret () trivial rfl
theorem Ae2 (v v2:Value) (x:Bb) (F F2:List Nat):Fn prog 41 [v,v2] [.isv B4 v x F,.isv B4 v2 x F2] [] (fun (_:Unit)=>True) (fun _=>.bool true) (fun _=>[]):=by
 refine enter func41 rfl ntmps41 fun w0=>?_
 refine E8 (v:=v) (x:=x) (F:=F) ?_
 rintro a1 c1 F3 a2 c2 F4 rfl l1 l2
 unfold maxLen at l1 l2
 refine Cf x.Aa (a1:=a1) ?_
 generalize F3=F5
 refine E8 (v:=v2) (x:=x) (F:=F2) ?_
 rintro a3 c3 F6 a4 c4 F7 rfl l3 l4
 refine Cf x.Aa (a1:=a3) ?_
 generalize F6=F8
 cases hs:x.Bh
 all_goals
  refine go ?_;intros
  refine Dc rfl rfl (fun h=>?_) (fun h=>?_)
  rotate_left
  ·exact absurd rfl h
  refine go ?_;intros
  refine cf (Am7 _ _ x.Aa F5 F8) fun _ _=>?_
  refine Ap ?_
  refine go ?_;intros
  refine cf (Ae3 a2 a4 c2 c4 x.Ar F4 F7 (by omega)) fun _ _=>?_
  refine Ap ?_
  refine go ?_;intros
  refine ret () trivial rfl
theorem Agj (v v2:Value) (x:D9) (F F2:List Nat) (hs:∀q∈x.down++x.up,q.length≤1000000000):Fn prog 9 [v,v2] [.isv Le v x F,.isv Le v2 x F2] [] (fun (_:Unit)=>True) (fun _=>.bool true) (fun _=>[]):=by
 refine enter func9 rfl ntmps9 fun w0=>?_
 refine Di (v:=v) (x:=x) (F:=F) ?_
 rintro a1 c1 F1 a2 c2 G2 a3 c3 F3 a4 c4 F4 a5 c5 F5 a6 c6 F6 a7 c7 F7 rfl - - - l4 l5 l6 l7
 refine Dr x.Ab (a1:=a2) ?_
 refine Di (v:=v2) (x:=x) (F:=F2) ?_
 rintro b1 d1 H1 b2 d2 H2 b3 d3 H3 b4 d4 H4 b5 d5 H5 b6 d6 H6 b7 d7 H7 rfl - - - - - - -
 refine Dr x.Ab (a1:=b2) (a2:=b3) ?_
 unfold maxLen at l4 l5 l6 l7
 refine go ?_;intros
 refine cf (Ac3 _ _ x.Am.Ac _ _) fun _ _=>?_
 refine Ap ?_
 refine go ?_;intros
 refine cf (Ajt _ _ x.Ab _ _) fun _ _=>?_
 refine Ap ?_
 refine go ?_;intros
 refine Dc rfl rfl (fun h=>?_) (fun h=>?_)
 ·exact absurd rfl h
 refine go ?_;intros
 refine Dc rfl rfl (fun h=>?_) (fun h=>?_)
 ·exact absurd rfl h
 refine go ?_;intros
 refine Dc rfl rfl (fun h=>?_) (fun h=>?_)
 ·exact absurd rfl h
 refine go ?_;intros
 refine Bg rfl (fun h=>?_) (fun h=>?_)
 ·exact absurd rfl h
 refine go ?_;intros
 refine Dv [2,3,4] (fun k:Nat=>[(5,.int .i64 k)]) (fun k=>k≤x.Af.length) (fun k=>x.Af.length - k) 0 (Nat.zero_le _) fun k hk=>?_
 refine go ?_;intros
 refine Bg rfl (fun h3=>?_) (fun h3=>?_)
 ·have hk3:k < x.Af.length:=by omega
  refine O1 (a:=a4) (xs:=x.Af) k ?_
  rintro hia ga oa ma da La ea -
  rw [ea]
  refine E7 x.Af[k] ?_
  refine O1 (a:=b4) (xs:=x.Af) k ?_
  rintro hib gb ob mb db Lb eb -
  rw [eb]
  refine E7 x.Af[k] ?_
  refine Jm ?_;intros
  refine As [1,4,6,7] [] ?_
  refine dt 0 ?_
  refine dt 1 ?_
  refine dt 2 ?_
  refine dt 3 ?_
  refine dt 4 ?_
  refine dt 5 ?_
  refine dt 6 ?_
  refine dt 7 ?_
  refine dt 8 ?_
  refine dt 9 ?_
  refine dO 10 (by kernel_rfl) (by rw [List.getElem?_toArray];rfl) ?_
  apply At;rfl;kernel_rfl;exact Bf
  refine cf (Agi _ _ x.Af[k] _ _) fun _ _=>?_
  refine Ap ?_
  refine dk ?_
  refine dt 11 ?_
  refine dd ?_
  refine go ?_;intros
  refine Ck (k+1) hk3 (by omega)
 refine go ?_;intros
 refine Dv [2,3,4] (fun k:Nat=>[(6,.int .i64 k)]) (fun k=>k≤x.Ad.length) (fun k=>x.Ad.length - k) 0 (Nat.zero_le _) fun k hk=>?_
 refine go ?_;intros
 refine Bg rfl (fun h3=>?_) (fun h3=>?_)
 ·have hk3:k < x.Ad.length:=by omega
  refine Lj (a:=a5) (xs:=x.Ad) k ?_
  rintro hia ga oa ma da La na fa Ma ea - -
  rw [ea]
  refine Em x.Ad[k] ?_
  refine Lj (a:=b5) (xs:=x.Ad) k ?_
  rintro hib gb ob mb db Lb nb fb Mb eb - -
  rw [eb]
  refine Em x.Ad[k] ?_
  refine Jm ?_;intros
  refine As [1,5,8,9] [] ?_
  refine dt 0 ?_
  refine dt 1 ?_
  refine dt 2 ?_
  refine dt 3 ?_
  refine dt 4 ?_
  refine dt 5 ?_
  refine dt 6 ?_
  refine dt 7 ?_
  refine dt 8 ?_
  refine dt 9 ?_
  refine dO 10 (by kernel_rfl) (by rw [List.getElem?_toArray];rfl) ?_
  apply At;rfl;kernel_rfl;exact Bf
  refine cf (Ae2 _ _ x.Ad[k] _ _) fun _ _=>?_
  refine Ap ?_
  refine dk ?_
  refine dt 11 ?_
  refine dd ?_
  refine go ?_;intros
  refine Ck (k+1) hk3 (by omega)
 refine go ?_;intros
 refine Dv [2,3,4] (fun k:Nat=>[(7,.int .i64 k)]) (fun k=>k≤x.down.length) (fun k=>x.down.length - k) 0 (Nat.zero_le _) fun k hk=>?_
 refine go ?_;intros
 refine Bg rfl (fun h3=>?_) (fun h3=>?_)
 ·have hk3:k < x.down.length:=by omega
  refine Kw (E:=Ak) (hz:=by decide) (a:=a6) (xs:=x.down) k ?_
  rintro hia ga oa ma da La ea -
  rw [ea]
  refine Kw (E:=Ak) (hz:=by decide) (a:=b6) (xs:=x.down) k ?_
  rintro hib gb ob mb db Lb eb -
  rw [eb]
  refine Jm ?_;intros
  refine As [0,2,4,5] [] ?_
  refine dt 0 ?_
  refine dt 1 ?_
  refine dt 2 ?_
  refine dt 3 ?_
  refine dt 4 ?_
  refine dt 5 ?_
  refine dt 6 ?_
  refine dt 7 ?_
  refine dt 8 ?_
  refine dt 9 ?_
  refine dO 10 (by kernel_rfl) (by rw [List.getElem?_toArray];rfl) ?_
  apply At;rfl;kernel_rfl;exact Bf
  refine cf (Z7 ma mb da db x.down[k] _ _ (hs _ (List.mem_append_left _ (List.getElem_mem hk3)))) fun _ _=>?_
  refine Ap ?_
  refine dk ?_
  refine dt 11 ?_
  refine dd ?_
  refine go ?_;intros
  refine Ck (k+1) hk3 (by omega)
 refine go ?_;intros
 refine Dv [2,3,4] (fun k:Nat=>[(8,.int .i64 k)]) (fun k=>k≤x.up.length) (fun k=>x.up.length - k) 0 (Nat.zero_le _) fun k hk=>?_
 refine go ?_;intros
 refine Bg rfl (fun h3=>?_) (fun h3=>?_)
 ·have hk3:k < x.up.length:=by omega
  refine Kw (E:=Ak) (hz:=by decide) (a:=a7) (xs:=x.up) k ?_
  rintro hia ga oa ma da La ea -
  rw [ea]
  refine Kw (E:=Ak) (hz:=by decide) (a:=b7) (xs:=x.up) k ?_
  rintro hib gb ob mb db Lb eb -
  rw [eb]
  refine Jm ?_;intros
  refine As [0,2,4,5] [] ?_
  refine dt 0 ?_
  refine dt 1 ?_
  refine dt 2 ?_
  refine dt 3 ?_
  refine dt 4 ?_
  refine dt 5 ?_
  refine dt 6 ?_
  refine dt 7 ?_
  refine dt 8 ?_
  refine dt 9 ?_
  refine dO 10 (by kernel_rfl) (by rw [List.getElem?_toArray];rfl) ?_
  apply At;rfl;kernel_rfl;exact Bf
  refine cf (Z7 ma mb da db x.up[k] _ _ (hs _ (List.mem_append_right _ (List.getElem_mem hk3)))) fun _ _=>?_
  refine Ap ?_
  refine dk ?_
  refine dt 11 ?_
  refine dd ?_
  refine go ?_;intros
  refine Ck (k+1) hk3 (by omega)
 refine go ?_;intros
 refine ret () trivial rfl
structure DrS where
 x:NE
 z:NV
 a:Option Addr
 c:Nat
 F:List Nat
structure DrK where
 k:Nat
 z:NV
 a:Option Addr
 c:Nat
 F:List Nat
theorem rdQ {w:World} {t:TypeId} {a:Option Addr} {n c:Nat} {l:List (List Av)} {F:List Nat} (h:(Pc.ow (Hi Ak 110) t (.slice a n c) l F).P w):∃F',(Pc.sl (Md Ak (by decide)) (.slice a n c) l F').P w:=by
 obtain ⟨F', -,hs⟩:=h.2.sl (Pq (Me.refl Ak) (by decide) _)
 exact ⟨F',by decide,hs⟩
theorem Qy (l:List (List Av)) (a:Option Addr) (c:Nat) (F:List Nat) (hl:l.length≤8) (hq:∀q∈l,q.length≤6):Fn prog 56 [.slice a l.length c] [.sl (Md Ak (by decide)) (.slice a l.length c) l F] [] (fun (_:Unit)=>True) (fun _=>.int .i64 ((qd l:Nat):Int)) (fun _=>[]):=by
 refine enter func56 rfl ntmps56 fun w0=>?_
 refine go ?_;intros
 refine Dv [6,7] (fun k:Nat=>[(3,.int .i64 ((qd (l.take k):Nat):Int)),(8,.int .i64 (k:Nat))]) (fun k=>k≤l.length) (fun k=>l.length - k) 0 (Nat.zero_le _) fun k hk=>?_
 have h6:=Rl hq k
 refine go ?_;intros
 refine Bg rfl (fun h1=>?_) (fun h1=>?_)
 ·have hh:k < l.length:=by omega
  have h7:=hq l[k] (List.getElem_mem hh)
  refine Kw (E:=Ak) (hz:=by decide) (xs:=l) k ?_
  rintro hi6 b6 o6 a11 c11 F11 rfl l11
  refine go ?_;intros
  rw [show ((qd (l.take k):Nat):Int)+(l[k].length:Int)=((qd (l.take (k+1)):Nat):Int) by rw [Acp hh];omega]
  refine Ck (k+1) hh (by show l.length - (k+1) < l.length - k;omega)
 ·obtain rfl:k=l.length:=by omega
  refine go ?_;intros
  refine ret () trivial ?_
  rw [List.take_length];rfl
theorem Ajn {n:D9} {s:Li} (hg:Ax n=true) (hs:Ij s=true):n.Am.Ac.length=(Fs n (By n s)).Am.Ac.length∧n.Af.length=(Fs n (By n s)).Af.length∧n.Ad.length=(Fs n (By n s)).Ad.length∧n.down.length=(Fs n (By n s)).down.length∧n.up.length=(Fs n (By n s)).up.length:=by
 cases e:By n s with
 | none=>exact ⟨rfl,rfl,rfl,rfl,rfl⟩
 | some r=>exact Ag2 hg (Ku hg hs e) (O9 e)
theorem Agc (n:D9) (s:Li) (g:Nat) (a1:Option Addr) (c1:Nat) (F1:List Nat) (a2:Option Addr) (c2:Nat) (F2:List Nat) (a3:Option Addr) (c3:Nat) (F3:List Nat) (a4:Option Addr) (c4:Nat) (F4:List Nat) (a5:Option Addr) (c5:Nat) (F5:List Nat) (a6:Option Addr) (c6:Nat) (F6:List Nat) (a7:Option Addr) (c7:Nat) (F7:List Nat) (FT:List Nat) (hg:Ax n=true) (hs:Ij s=true) (hss:s.data.size≤maxLen) :
  Fn prog 34 [Ez g 0 0,.agg #[.int .i64 (s).Df,.int .i64 (s).node,.string (s).data]] [Lw FT] [.row g 37 0 [] [.slice a1 n.Am.Ac.length c1,.int .i64 n.Ab.Aa.Al,.int .i64 n.Ab.Aa.size,.slice a2 n.Ab.Aa.Aj.length c2,.int .i64 n.Ab.Ai,.int .i64 n.Ab.quiet,.slice a3 n.Ab.holds.length c3,.slice a4 n.Af.length c4,.slice a5 n.Ad.length c5,.slice a6 n.down.length c6,.slice a7 n.up.length c7] [],.ow Bd 3 (.slice a1 n.Am.Ac.length c1) n.Am.Ac F1,.ow Ba 9 (.slice a2 n.Ab.Aa.Aj.length c2) n.Ab.Aa.Aj F2,.ow Bj 134 (.slice a3 n.Ab.holds.length c3) n.Ab.holds F3,.ow Bt 77 (.slice a4 n.Af.length c4) n.Af F4,.ow Bk 84 (.slice a5 n.Ad.length c5) n.Ad F5,.ow (Hi Ak 110) 86 (.slice a6 n.down.length c6) n.down F6,.ow (Hi Ak 110) 86 (.slice a7 n.up.length c7) n.up F7] (fun (_:NV × KA)=>True) (fun z=>.tuple #[.slice z.2.a (Vi (By n s)).length z.2.c,.bool (By n s).isSome]) (fun z=>[.row g 37 0 [] [.slice z.1.a1 (Fs n (By n s)).Am.Ac.length z.1.c1,.int .i64 (Fs n (By n s)).Ab.Aa.Al,.int .i64 (Fs n (By n s)).Ab.Aa.size,.slice z.1.a2 (Fs n (By n s)).Ab.Aa.Aj.length z.1.c2,.int .i64 (Fs n (By n s)).Ab.Ai,.int .i64 (Fs n (By n s)).Ab.quiet,.slice z.1.a3 (Fs n (By n s)).Ab.holds.length z.1.c3,.slice z.1.a4 (Fs n (By n s)).Af.length z.1.c4,.slice z.1.a5 (Fs n (By n s)).Ad.length z.1.c5,.slice z.1.a6 (Fs n (By n s)).down.length z.1.c6,.slice z.1.a7 (Fs n (By n s)).up.length z.1.c7] [],.ow Bd 3 (.slice z.1.a1 (Fs n (By n s)).Am.Ac.length z.1.c1) (Fs n (By n s)).Am.Ac z.1.F1,.ow Ba 9 (.slice z.1.a2 (Fs n (By n s)).Ab.Aa.Aj.length z.1.c2) (Fs n (By n s)).Ab.Aa.Aj z.1.F2,.ow Bj 134 (.slice z.1.a3 (Fs n (By n s)).Ab.holds.length z.1.c3) (Fs n (By n s)).Ab.holds z.1.F3,.ow Bt 77 (.slice z.1.a4 (Fs n (By n s)).Af.length z.1.c4) (Fs n (By n s)).Af z.1.F4,.ow Bk 84 (.slice z.1.a5 (Fs n (By n s)).Ad.length z.1.c5) (Fs n (By n s)).Ad z.1.F5,.ow (Hi Ak 110) 86 (.slice z.1.a6 (Fs n (By n s)).down.length z.1.c6) (Fs n (By n s)).down z.1.F6,.ow (Hi Ak 110) 86 (.slice z.1.a7 (Fs n (By n s)).up.length z.1.c7) (Fs n (By n s)).up z.1.F7,.ow Ba 9 (.slice z.2.a (Vi (By n s)).length z.2.c) (Vi (By n s)) z.2.F]):=by
 obtain ⟨k1,k2,k3,k4,k5⟩:=Ajn hg hs
 have h:=Aq6 n s g a1 c1 F1 a2 c2 F2 a3 c3 F3 a4 c4 F4 a5 c5 F5 a6 c6 F6 a7 c7 F7 FT hg hs hss
 rw [←k1,←k2,←k3,←k4,←k5]
 exact h
theorem Ajr {n:D9} (hg:Ax n=true) (hc:n.Ab.Ai < 9999):n.Am.Ac.length=(Bz n).1.Am.Ac.length∧n.Af.length=(Bz n).1.Af.length∧n.Ad.length=(Bz n).1.Ad.length∧n.down.length=(Bz n).1.down.length∧n.up.length=(Bz n).1.up.length:=Ag2 hg (Rv hg hc) (P4 _ _)
theorem Aq7 (n:D9) (g:Nat) (a1:Option Addr) (c1:Nat) (F1:List Nat) (a2:Option Addr) (c2:Nat) (F2:List Nat) (a3:Option Addr) (c3:Nat) (F3:List Nat) (a4:Option Addr) (c4:Nat) (F4:List Nat) (a5:Option Addr) (c5:Nat) (F5:List Nat) (a6:Option Addr) (c6:Nat) (F6:List Nat) (a7:Option Addr) (c7:Nat) (F7:List Nat) (FT:List Nat) (hg:Ax n=true) (hc:n.Ab.Ai < 9999) :
  Fn prog 82 [Ez g 0 0] [Lw FT] [.row g 37 0 [] [.slice a1 n.Am.Ac.length c1,.int .i64 n.Ab.Aa.Al,.int .i64 n.Ab.Aa.size,.slice a2 n.Ab.Aa.Aj.length c2,.int .i64 n.Ab.Ai,.int .i64 n.Ab.quiet,.slice a3 n.Ab.holds.length c3,.slice a4 n.Af.length c4,.slice a5 n.Ad.length c5,.slice a6 n.down.length c6,.slice a7 n.up.length c7] [],.ow Bd 3 (.slice a1 n.Am.Ac.length c1) n.Am.Ac F1,.ow Ba 9 (.slice a2 n.Ab.Aa.Aj.length c2) n.Ab.Aa.Aj F2,.ow Bj 134 (.slice a3 n.Ab.holds.length c3) n.Ab.holds F3,.ow Bt 77 (.slice a4 n.Af.length c4) n.Af F4,.ow Bk 84 (.slice a5 n.Ad.length c5) n.Ad F5,.ow (Hi Ak 110) 86 (.slice a6 n.down.length c6) n.down F6,.ow (Hi Ak 110) 86 (.slice a7 n.up.length c7) n.up F7] (fun (_:NV × KA)=>True) (fun z=>.slice z.2.a (Bz n).2.length z.2.c) (fun z=>[.row g 37 0 [] [.slice z.1.a1 (Bz n).1.Am.Ac.length z.1.c1,.int .i64 (Bz n).1.Ab.Aa.Al,.int .i64 (Bz n).1.Ab.Aa.size,.slice z.1.a2 (Bz n).1.Ab.Aa.Aj.length z.1.c2,.int .i64 (Bz n).1.Ab.Ai,.int .i64 (Bz n).1.Ab.quiet,.slice z.1.a3 (Bz n).1.Ab.holds.length z.1.c3,.slice z.1.a4 (Bz n).1.Af.length z.1.c4,.slice z.1.a5 (Bz n).1.Ad.length z.1.c5,.slice z.1.a6 (Bz n).1.down.length z.1.c6,.slice z.1.a7 (Bz n).1.up.length z.1.c7] [],.ow Bd 3 (.slice z.1.a1 (Bz n).1.Am.Ac.length z.1.c1) (Bz n).1.Am.Ac z.1.F1,.ow Ba 9 (.slice z.1.a2 (Bz n).1.Ab.Aa.Aj.length z.1.c2) (Bz n).1.Ab.Aa.Aj z.1.F2,.ow Bj 134 (.slice z.1.a3 (Bz n).1.Ab.holds.length z.1.c3) (Bz n).1.Ab.holds z.1.F3,.ow Bt 77 (.slice z.1.a4 (Bz n).1.Af.length z.1.c4) (Bz n).1.Af z.1.F4,.ow Bk 84 (.slice z.1.a5 (Bz n).1.Ad.length z.1.c5) (Bz n).1.Ad z.1.F5,.ow (Hi Ak 110) 86 (.slice z.1.a6 (Bz n).1.down.length z.1.c6) (Bz n).1.down z.1.F6,.ow (Hi Ak 110) 86 (.slice z.1.a7 (Bz n).1.up.length z.1.c7) (Bz n).1.up z.1.F7,.ow Ba 9 (.slice z.2.a (Bz n).2.length z.2.c) (Bz n).2 z.2.F]):=by
 obtain ⟨k1,k2,k3,k4,k5⟩:=Ajr hg hc
 have h:=Agq n g a1 c1 F1 a2 c2 F2 a3 c3 F3 a4 c4 F4 a5 c5 F5 a6 c6 F6 a7 c7 F7 FT hg hc
 rw [←k1,←k2,←k3,←k4,←k5]
 exact h
theorem Add (n:D9) (g:Nat) (a1:Option Addr) (c1:Nat) (F1:List Nat) (a2:Option Addr) (c2:Nat) (F2:List Nat) (a3:Option Addr) (c3:Nat) (F3:List Nat) (a4:Option Addr) (c4:Nat) (F4:List Nat) (a5:Option Addr) (c5:Nat) (F5:List Nat) (a6:Option Addr) (c6:Nat) (F6:List Nat) (a7:Option Addr) (c7:Nat) (F7:List Nat) (FT:List Nat) (hg:Ax n=true) :
  Fn prog 121 [Ez g 0 0] [Lw FT] [.row g 37 0 [] [.slice a1 n.Am.Ac.length c1,.int .i64 n.Ab.Aa.Al,.int .i64 n.Ab.Aa.size,.slice a2 n.Ab.Aa.Aj.length c2,.int .i64 n.Ab.Ai,.int .i64 n.Ab.quiet,.slice a3 n.Ab.holds.length c3,.slice a4 n.Af.length c4,.slice a5 n.Ad.length c5,.slice a6 n.down.length c6,.slice a7 n.up.length c7] [],.ow Bd 3 (.slice a1 n.Am.Ac.length c1) n.Am.Ac F1,.ow Ba 9 (.slice a2 n.Ab.Aa.Aj.length c2) n.Ab.Aa.Aj F2,.ow Bj 134 (.slice a3 n.Ab.holds.length c3) n.Ab.holds F3,.ow Bt 77 (.slice a4 n.Af.length c4) n.Af F4,.ow Bk 84 (.slice a5 n.Ad.length c5) n.Ad F5,.ow (Hi Ak 110) 86 (.slice a6 n.down.length c6) n.down F6,.ow (Hi Ak 110) 86 (.slice a7 n.up.length c7) n.up F7] (fun (_:NV × KA)=>True) (fun z=>.slice z.2.a (Nh n).2.length z.2.c) (fun z=>[.row g 37 0 [] [.slice z.1.a1 (Nh n).1.Am.Ac.length z.1.c1,.int .i64 (Nh n).1.Ab.Aa.Al,.int .i64 (Nh n).1.Ab.Aa.size,.slice z.1.a2 (Nh n).1.Ab.Aa.Aj.length z.1.c2,.int .i64 (Nh n).1.Ab.Ai,.int .i64 (Nh n).1.Ab.quiet,.slice z.1.a3 (Nh n).1.Ab.holds.length z.1.c3,.slice z.1.a4 (Nh n).1.Af.length z.1.c4,.slice z.1.a5 (Nh n).1.Ad.length z.1.c5,.slice z.1.a6 (Nh n).1.down.length z.1.c6,.slice z.1.a7 (Nh n).1.up.length z.1.c7] [],.ow Bd 3 (.slice z.1.a1 (Nh n).1.Am.Ac.length z.1.c1) (Nh n).1.Am.Ac z.1.F1,.ow Ba 9 (.slice z.1.a2 (Nh n).1.Ab.Aa.Aj.length z.1.c2) (Nh n).1.Ab.Aa.Aj z.1.F2,.ow Bj 134 (.slice z.1.a3 (Nh n).1.Ab.holds.length z.1.c3) (Nh n).1.Ab.holds z.1.F3,.ow Bt 77 (.slice z.1.a4 (Nh n).1.Af.length z.1.c4) (Nh n).1.Af z.1.F4,.ow Bk 84 (.slice z.1.a5 (Nh n).1.Ad.length z.1.c5) (Nh n).1.Ad z.1.F5,.ow (Hi Ak 110) 86 (.slice z.1.a6 (Nh n).1.down.length z.1.c6) (Nh n).1.down z.1.F6,.ow (Hi Ak 110) 86 (.slice z.1.a7 (Nh n).1.up.length z.1.c7) (Nh n).1.up z.1.F7,.ow Ba 9 (.slice z.2.a (Nh n).2.length z.2.c) (Nh n).2 z.2.F]):=by
 have hwn:=Ana hg
 refine enter func121 rfl ntmps121 fun w0=>?_
 refine Cb Ba 9 ?_
 refine go ?_;intros
 refine Cp [0] (fun s:DrS=>[(3,.slice s.a s.x.2.length s.c)]) (fun s=>[.row g 37 0 [] [.slice s.z.a1 s.x.1.Am.Ac.length s.z.c1,.int .i64 s.x.1.Ab.Aa.Al,.int .i64 s.x.1.Ab.Aa.size,.slice s.z.a2 s.x.1.Ab.Aa.Aj.length s.z.c2,.int .i64 s.x.1.Ab.Ai,.int .i64 s.x.1.Ab.quiet,.slice s.z.a3 s.x.1.Ab.holds.length s.z.c3,.slice s.z.a4 s.x.1.Af.length s.z.c4,.slice s.z.a5 s.x.1.Ad.length s.z.c5,.slice s.z.a6 s.x.1.down.length s.z.c6,.slice s.z.a7 s.x.1.up.length s.z.c7] [],.ow Bd 3 (.slice s.z.a1 s.x.1.Am.Ac.length s.z.c1) s.x.1.Am.Ac s.z.F1,.ow Ba 9 (.slice s.z.a2 s.x.1.Ab.Aa.Aj.length s.z.c2) s.x.1.Ab.Aa.Aj s.z.F2,.ow Bj 134 (.slice s.z.a3 s.x.1.Ab.holds.length s.z.c3) s.x.1.Ab.holds s.z.F3,.ow Bt 77 (.slice s.z.a4 s.x.1.Af.length s.z.c4) s.x.1.Af s.z.F4,.ow Bk 84 (.slice s.z.a5 s.x.1.Ad.length s.z.c5) s.x.1.Ad s.z.F5,.ow (Hi Ak 110) 86 (.slice s.z.a6 s.x.1.down.length s.z.c6) s.x.1.down s.z.F6,.ow (Hi Ak 110) 86 (.slice s.z.a7 s.x.1.up.length s.z.c7) s.x.1.up s.z.F7,.ow Ba 9 (.slice s.a s.x.2.length s.c) s.x.2 s.F]) (fun s=>Q4 (n,[]) s.x∧drE s.x=Nh n) (fun s=>wN s.x.1) ⟨(n,[]),⟨a1,c1,F1,a2,c2,F2,a3,c3,F3,a4,c4,F4,a5,c5,F5,a6,c6,F6,a7,c7,F7⟩,none,0,[]⟩ ⟨.refl hg,rfl⟩ fun s hs0=>?_
 obtain ⟨x,⟨x1,w1,K1,x2,w2,K2,x3,w3,K3,x4,w4,K4,x5,w5,K5,x6,w6,K6,x7,w7,K7⟩,ea,ec,eF⟩:=s
 obtain ⟨fx,hR⟩:=hs0
 dsimp only at fx hR ⊢
 have hG:=A8.1 fx.g
 have h8:=Ff hG.t
 have hn8:=h8.n1
 have hn2:=h8.n0
 obtain ⟨q1,q2,q3,q4⟩:=Bm.1 hG.l
 obtain ⟨-, -,hd6,hu6⟩:=Iw fx.g
 have hd6:∀q∈x.1.down,q.length≤6:=fun q hq=>(Do (hd6 q hq)).1
 have hu6:∀q∈x.1.up,q.length≤6:=fun q hq=>(Do (hu6 q hq)).1
 have hb1:=Rl hd6 x.1.down.length
 have hb2:=Rl hu6 x.1.up.length
 rw [List.take_length] at hb1 hb2
 have hev:=fx.e
 simp only [List.length_nil] at hev
 refine go ?_;intros
 refine As [0] [] ?_
 refine dt 0 ?_
 refine dt 1 ?_
 refine dt 2 ?_
 refine dt 3 ?_
 refine dt 5 ?_
 refine dt 6 ?_
 refine dt 7 ?_
 refine dt 8 ?_
 refine dO 4 (by kernel_rfl) (by rw [List.getElem?_toArray];rfl) ?_
 apply At;rfl;kernel_rfl;exact Bf
 refine cfr (fun w st=>by obtain ⟨Fq,hq⟩:=rdQ (st.get (p:=.ow (Hi Ak 110) 86 (.slice x6 x.1.down.length w6) x.1.down K6) (by exact B8));exact ⟨_,Il hq,rfl,Qy _ _ _ Fq (by omega) (by assumption)⟩) (fun _ _=>?_)
 refine Ap ?_
 refine dk ?_
 refine dO 9 (by kernel_rfl) (by rw [List.getElem?_toArray];rfl) ?_
 apply At;rfl;kernel_rfl;exact Bf
 refine cfr (fun w st=>by obtain ⟨Fq,hq⟩:=rdQ (st.get (p:=.ow (Hi Ak 110) 86 (.slice x7 x.1.up.length w7) x.1.up K7) (by exact B8));exact ⟨_,Il hq,rfl,Qy _ _ _ Fq (by omega) (by assumption)⟩) (fun _ _=>?_)
 refine Ap ?_
 refine dk ?_
 refine dt 10 ?_
 refine dt 11 ?_
 refine dd ?_
 refine go ?_;intros
 refine Bg rfl (fun h1=>?_) (fun h1=>?_)
 ·have hq0:¬Rk x.1=0:=by unfold Rk;omega
  obtain ⟨fR,hw⟩:=Lv fx.g
  have hw:=hw hq0
  refine go ?_;intros
  refine Cp [0,24] (fun y:DrK=>[(3,.slice y.a (Eg x y.k).2.length y.c),(25,.int .i64 (y.k:Nat))]) (fun y=>[.row g 37 0 [] [.slice y.z.a1 (Eg x y.k).1.Am.Ac.length y.z.c1,.int .i64 (Eg x y.k).1.Ab.Aa.Al,.int .i64 (Eg x y.k).1.Ab.Aa.size,.slice y.z.a2 (Eg x y.k).1.Ab.Aa.Aj.length y.z.c2,.int .i64 (Eg x y.k).1.Ab.Ai,.int .i64 (Eg x y.k).1.Ab.quiet,.slice y.z.a3 (Eg x y.k).1.Ab.holds.length y.z.c3,.slice y.z.a4 (Eg x y.k).1.Af.length y.z.c4,.slice y.z.a5 (Eg x y.k).1.Ad.length y.z.c5,.slice y.z.a6 (Eg x y.k).1.down.length y.z.c6,.slice y.z.a7 (Eg x y.k).1.up.length y.z.c7] [],.ow Bd 3 (.slice y.z.a1 (Eg x y.k).1.Am.Ac.length y.z.c1) (Eg x y.k).1.Am.Ac y.z.F1,.ow Ba 9 (.slice y.z.a2 (Eg x y.k).1.Ab.Aa.Aj.length y.z.c2) (Eg x y.k).1.Ab.Aa.Aj y.z.F2,.ow Bj 134 (.slice y.z.a3 (Eg x y.k).1.Ab.holds.length y.z.c3) (Eg x y.k).1.Ab.holds y.z.F3,.ow Bt 77 (.slice y.z.a4 (Eg x y.k).1.Af.length y.z.c4) (Eg x y.k).1.Af y.z.F4,.ow Bk 84 (.slice y.z.a5 (Eg x y.k).1.Ad.length y.z.c5) (Eg x y.k).1.Ad y.z.F5,.ow (Hi Ak 110) 86 (.slice y.z.a6 (Eg x y.k).1.down.length y.z.c6) (Eg x y.k).1.down y.z.F6,.ow (Hi Ak 110) 86 (.slice y.z.a7 (Eg x y.k).1.up.length y.z.c7) (Eg x y.k).1.up y.z.F7,.ow Ba 9 (.slice y.a (Eg x y.k).2.length y.c) (Eg x y.k).2 y.F]) (fun y=>y.k≤x.1.Am.Ac.length) (fun y=>x.1.Am.Ac.length - y.k) ⟨0,⟨x1,w1,K1,x2,w2,K2,x3,w3,K3,x4,w4,K4,x5,w5,K5,x6,w6,K6,x7,w7,K7⟩,ea,ec,eF⟩ (Nat.zero_le _) fun y hy0=>?_
  obtain ⟨j,⟨x1,w1,K1,x2,w2,K2,x3,w3,K3,x4,w4,K4,x5,w5,K5,x6,w6,K6,x7,w7,K7⟩,ya,yc,yF⟩:=y
  dsimp only at hy0 ⊢
  have fJ:=Xs fx.g j hy0
  have fX:=fx.trans fJ
  generalize hX:Eg x j=X at fJ fX ⊢
  refine go ?_;intros
  refine Bg rfl (fun h2=>?_) (fun h2=>?_)
  ·have hj:j < x.1.Am.Ac.length:=by omega
   have hXt:X.1.Am.Ac.length=x.1.Am.Ac.length:=by rw [fJ.t]
   have hG:=A8.1 fX.g
   obtain ⟨q1,q2,q3,q4⟩:=Bm.1 hG.l
   have hjd:j < X.1.down.length:=by omega
   have hsd:=Tk (n:=X.1) (i:=j) (by omega)
   rw [N7 hjd] at hsd
   have hz1:=Ve fX.g
   have hev2:=fX.e
   simp only [List.length_nil] at hev2
   refine go ?_;intros
   refine V5 (xs:=X.1.down) (m:=1) j ?_ rfl (by omega)
   rintro _ g6 A6 cs6 B6 p6 q6 G6 Gi6 H6 e6 - hc6 hH6
   rw [e6]
   refine Tj ?_
   rintro a6 c6 ev6 l6
   obtain rfl:cs6=[.slice a6 X.1.down[j].length c6]:=by simpa using ev6
   refine go ?_;intros
   refine Bg rfl (fun h4=>?_) (fun h4=>?_)
   ·have j1:1≤j:=by
     rcases Nat.eq_zero_or_pos j with rfl|h
     ·have:=hz1.1;rw [N7 hjd] at this;omega
     ·exact h
    have ok:=Aqs j1 (by omega)
    refine Jt X.1.down[j] ?_
    refine Rw _ hH6 rfl fun J6=>?_
    rw [List.set_getElem_self]
    refine go ?_;intros
    refine cf (Agc X.1 (Hy j) g x1 w1 K1 x2 w2 K2 x3 w3 K3 x4 w4 K4 x5 w5 K5 _ w6 J6 x7 w7 K7 FT fX.g ok (Nat.zero_le _)) fun z _=>?_
    refine Ap ?_
    have hfe:=fX.trans (Aq8 fX.g (i:=j) (by omega))
    have hfe2:=hfe.e
    have htl:(Kr X (Hy j)).2.length=X.2.length+(Vi (By X.1 (Hy j))).length:=List.length_append
    simp only [List.length_nil] at hfe2
    refine A1 (E:=Ba) (xs:=Vi (By X.1 (Hy j))) fun F8=>?_
    refine go ?_;intros
    apply wO
    refine Lx (E:=Ba) (xs:=X.2) (ys:=Vi (By X.1 (Hy j))) Ed Hf fun a9 c9 F9=>?_
    generalize hX1:Kr X (Hy j)=X1 at hfe hfe2 htl
    rw [show X.2++Vi (By X.1 (Hy j))=X1.2 by rw [←hX1];rfl,show Fs X.1 (By X.1 (Hy j))=X1.1 by rw [←hX1];rfl]
    have fX1:Q4 X X1:=by rw [←hX1];exact Aq8 fX.g (by rw [hXt];exact hj)
    have hG1:=A8.1 fX1.g
    obtain ⟨r1,r2,r3,r4⟩:=Bm.1 hG1.l
    have hX1t:X1.1.Am.Ac.length=x.1.Am.Ac.length:=by rw [fX1.t];exact hXt
    have hju:j < X1.1.up.length:=by omega
    have hsu:=Rq (n:=X1.1) (i:=j) (by omega)
    rw [N7 hju] at hsu
    have hz0:=Ve fX1.g
    refine go ?_;intros
    refine V5 (xs:=X1.1.up) (m:=1) j ?_ rfl (by omega)
    rintro _ g7 A7 cs7 B7 p7 q7 G7 Gi7 H7 e7 - hc7 hH7
    rw [e7]
    refine Tj ?_
    rintro a7 c7 ev7 l7
    obtain rfl:cs7=[.slice a7 X1.1.up[j].length c7]:=by simpa using ev7
    refine go ?_;intros
    refine Bg rfl (fun h3=>?_) (fun h3=>?_)
    ·have j1:1≤j:=by
      rcases Nat.eq_zero_or_pos j with rfl|h
      ·have:=hz0.2;rw [N7 hju] at this;omega
      ·exact h
     have ok:=Aoo j1 (by omega)
     have hnx:Eg x (j+1)=(Fs X1.1 (By X1.1 (J0 j)),X1.2):=by
      show Kr (Kr (Eg x j) (Hy j)) (J0 j)=_
      rw [hX,hX1]
      exact Prod.ext rfl (Aq9 fX1.g (i:=j) (by omega)).2
     refine Jt X1.1.up[j] ?_
     refine Rw _ hH7 rfl fun J7=>?_
     rw [List.set_getElem_self]
     refine go ?_;intros
     refine cf (Agc X1.1 (J0 j) g z.1.a1 z.1.c1 z.1.F1 z.1.a2 z.1.c2 z.1.F2 z.1.a3 z.1.c3 z.1.F3 z.1.a4 z.1.c4 z.1.F4 z.1.a5 z.1.c5 z.1.F5 z.1.a6 z.1.c6 z.1.F6 _ z.1.c7 J7 FT fX1.g ok (Nat.zero_le _)) fun y _=>?_
     refine Ap ?_
     refine go ?_;intros
     refine Ck ⟨j+1,⟨y.1.a1,y.1.c1,y.1.F1,y.1.a2,y.1.c2,y.1.F2,y.1.a3,y.1.c3,y.1.F3,y.1.a4,y.1.c4,y.1.F4,y.1.a5,y.1.c5,y.1.F5,y.1.a6,y.1.c6,y.1.F6,y.1.a7,y.1.c7,y.1.F7⟩,a9,c9,F9⟩ (by show j+1≤_;omega) (by show x.1.Am.Ac.length - (j+1) < x.1.Am.Ac.length - j;omega) (by dsimp only;rw [hnx];exact frE) (by dsimp only;rw [hnx];exact hsE)
    ·have hnx:Eg x (j+1)=X1:=by
      show Kr (Kr (Eg x j) (Hy j)) (J0 j)=_
      rw [hX,hX1]
      exact Ir (by rw [hsu,if_pos (by omega)])
     refine Jt X1.1.up[j] ?_
     refine Rw _ hH7 rfl fun J7=>?_
     rw [List.set_getElem_self]
     refine go ?_;intros
     refine Ck ⟨j+1,⟨z.1.a1,z.1.c1,z.1.F1,z.1.a2,z.1.c2,z.1.F2,z.1.a3,z.1.c3,z.1.F3,z.1.a4,z.1.c4,z.1.F4,z.1.a5,z.1.c5,z.1.F5,z.1.a6,z.1.c6,z.1.F6,_,z.1.c7,J7⟩,a9,c9,F9⟩ (by show j+1≤_;omega) (by show x.1.Am.Ac.length - (j+1) < x.1.Am.Ac.length - j;omega) (by dsimp only;rw [hnx];exact frE) (by dsimp only;rw [hnx];exact hsE)
   ·have htn:Kr X (Hy j)=X:=Ir (by rw [hsd,if_pos (by omega)])
    refine Jt X.1.down[j] ?_
    refine Rw _ hH6 rfl fun J6=>?_
    rw [List.set_getElem_self]
    obtain ⟨X1,hX1⟩:∃X1,Kr X (Hy j)=X1:=⟨_,rfl⟩
    have hXX:X1=X:=by rw [←hX1,htn]
    subst hXX
    have fX1:Q4 X1 X1:=.refl fX.g
    have hG1:=A8.1 fX1.g
    obtain ⟨r1,r2,r3,r4⟩:=Bm.1 hG1.l
    have hX1t:X1.1.Am.Ac.length=x.1.Am.Ac.length:=by rw [fX1.t];exact hXt
    have hju:j < X1.1.up.length:=by omega
    have hsu:=Rq (n:=X1.1) (i:=j) (by omega)
    rw [N7 hju] at hsu
    have hz0:=Ve fX1.g
    refine go ?_;intros
    refine V5 (xs:=X1.1.up) (m:=1) j ?_ rfl (by omega)
    rintro _ g7 A7 cs7 B7 p7 q7 G7 Gi7 H7 e7 - hc7 hH7
    rw [e7]
    refine Tj ?_
    rintro a7 c7 ev7 l7
    obtain rfl:cs7=[.slice a7 X1.1.up[j].length c7]:=by simpa using ev7
    refine go ?_;intros
    refine Bg rfl (fun h3=>?_) (fun h3=>?_)
    ·have j1:1≤j:=by
      rcases Nat.eq_zero_or_pos j with rfl|h
      ·have:=hz0.2;rw [N7 hju] at this;omega
      ·exact h
     have ok:=Aoo j1 (by omega)
     have hnx:Eg x (j+1)=(Fs X1.1 (By X1.1 (J0 j)),X1.2):=by
      show Kr (Kr (Eg x j) (Hy j)) (J0 j)=_
      rw [hX,hX1]
      exact Prod.ext rfl (Aq9 fX1.g (i:=j) (by omega)).2
     refine Jt X1.1.up[j] ?_
     refine Rw _ hH7 rfl fun J7=>?_
     rw [List.set_getElem_self]
     refine go ?_;intros
     refine cf (Agc X1.1 (J0 j) g x1 w1 K1 x2 w2 K2 x3 w3 K3 x4 w4 K4 x5 w5 K5 _ w6 J6 _ w7 J7 FT fX1.g ok (Nat.zero_le _)) fun y _=>?_
     refine Ap ?_
     refine go ?_;intros
     refine Ck ⟨j+1,⟨y.1.a1,y.1.c1,y.1.F1,y.1.a2,y.1.c2,y.1.F2,y.1.a3,y.1.c3,y.1.F3,y.1.a4,y.1.c4,y.1.F4,y.1.a5,y.1.c5,y.1.F5,y.1.a6,y.1.c6,y.1.F6,y.1.a7,y.1.c7,y.1.F7⟩,ya,yc,yF⟩ (by show j+1≤_;omega) (by show x.1.Am.Ac.length - (j+1) < x.1.Am.Ac.length - j;omega) (by dsimp only;rw [hnx];exact frE) (by dsimp only;rw [hnx];exact hsE)
    ·have hnx:Eg x (j+1)=X1:=by
      show Kr (Kr (Eg x j) (Hy j)) (J0 j)=_
      rw [hX,hX1]
      exact Ir (by rw [hsu,if_pos (by omega)])
     refine Jt X1.1.up[j] ?_
     refine Rw _ hH7 rfl fun J7=>?_
     rw [List.set_getElem_self]
     refine go ?_;intros
     refine Ck ⟨j+1,⟨x1,w1,K1,x2,w2,K2,x3,w3,K3,x4,w4,K4,x5,w5,K5,_,w6,J6,_,w7,J7⟩,ya,yc,yF⟩ (by show j+1≤_;omega) (by show x.1.Am.Ac.length - (j+1) < x.1.Am.Ac.length - j;omega) (by dsimp only;rw [hnx];exact frE) (by dsimp only;rw [hnx];exact hsE)
  ·obtain rfl:j=x.1.Am.Ac.length:=by omega
   have hX:=hX
   rw [Af6 fx.g] at hX
   refine go ?_;intros
   refine Ck ⟨X,⟨x1,w1,K1,x2,w2,K2,x3,w3,K3,x4,w4,K4,x5,w5,K5,x6,w6,K6,x7,w7,K7⟩,ya,yc,yF⟩ ⟨fX,by rw [←hR,Yw fx.g hq0,hX]⟩ (by show wN X.1 < wN x.1;rw [←hX];exact hw)
 ·have hq0:Rk x.1=0:=by unfold Rk;omega
  rw [Sm hq0] at hR
  rw [hR]
  refine go ?_;intros
  refine ret (⟨x1,w1,K1,x2,w2,K2,x3,w3,K3,x4,w4,K4,x5,w5,K5,x6,w6,K6,x7,w7,K7⟩,⟨0,ea,ec,eF⟩) trivial rfl
theorem Aao (n:D9) (v:Value) (F:List Nat):Fn prog 22 [v] [.isv Le v n F] [] (fun (_:Unit)=>True) (fun _=>.tuple #[.int .i64 (I7 n).1,.int .i64 (I7 n).2.1,.bool (I7 n).2.2]) (fun _=>[]):=by
 refine enter func22 rfl ntmps22 fun w0=>?_
 refine Di ?_
 rintro a1 c1 F1 a2 c2 F2 a3 c3 F3 a4 c4 F4 a5 c5 F5 a6 c6 F6 a7 c7 F7 rfl l1 l2 l3 l4 l5 l6 l7
 refine go ?_;intros
 refine cf (Mw n _ F) fun _ _=>?_
 refine Ap ?_
 cases g:Ax n
 ·refine go ?_;intros
  refine ret () trivial ?_
  unfold I7;rw [g];rfl
 obtain ⟨-, -,e3,e4⟩:=Iw g
 obtain ⟨q2,q8,qn,qu,qe,qt⟩:=Qm g
 refine Jm ?_;intros
 refine As [0] [] ?_
 refine dt 0 ?_
 refine dt 1 ?_
 refine dt 3 ?_
 refine dt 4 ?_
 refine dO 2 (by kernel_rfl) (by rw [List.getElem?_toArray];rfl) ?_
 apply At;rfl;kernel_rfl;exact Bf
 refine cf (Qy n.down _ _ _ (by omega) fun q hq=>(Do (e3 q hq)).1) fun _ _=>?_
 refine Ap ?_
 refine dk ?_
 refine dO 5 (by kernel_rfl) (by rw [List.getElem?_toArray];rfl) ?_
 apply At;rfl;kernel_rfl;exact Bf
 refine cf (Qy n.up _ _ _ (by omega) fun q hq=>(Do (e4 q hq)).1) fun _ _=>?_
 refine Ap ?_
 refine dk ?_
 refine dt 6 ?_
 refine dt 7 ?_
 refine dt 8 ?_
 refine dd ?_
 refine go ?_;intros
 refine ret () trivial ?_
 unfold I7;rw [g];rfl
theorem Aal (n:D9) (v:Value) (F:List Nat):Fn prog 24 [v] [.isv Le v n F] [] (fun (_:Unit)=>True) (fun _=>.tuple #[.int .i64 (I7 n).1,.int .i64 (I7 n).2.1,.bool (I7 n).2.2]) (fun _=>[]):=by
 refine enter func24 rfl ntmps24 fun w0=>?_
 refine Di ?_
 rintro a1 c1 F1 a2 c2 F2 a3 c3 F3 a4 c4 F4 a5 c5 F5 a6 c6 F6 a7 c7 F7 rfl l1 l2 l3 l4 l5 l6 l7
 refine go ?_;intros
 refine cf (Wg n _ F) fun _ _=>?_
 refine Ap ?_
 cases g:Ax n
 ·refine go ?_;intros
  refine ret () trivial ?_
  unfold I7;rw [g];rfl
 obtain ⟨-, -,e3,e4⟩:=Iw g
 obtain ⟨q2,q8,qn,qu,qe,qt⟩:=Qm g
 refine go ?_;intros
 refine Dv [1,2,3,4] (fun k:Nat=>[(5,.int .i64 ((qd (n.down.take k):Nat):Int)),(6,.int .i64 ((qd (n.up.take k):Nat):Int)),(7,.int .i64 (k:Nat))]) (fun k=>k≤n.down.length) (fun k=>n.down.length - k) 0 (Nat.zero_le _) fun k hk=>?_
 have b1:=Rl (fun q hq=>(Do (e3 q hq)).1) k
 have b2:=Rl (fun q hq=>(Do (e4 q hq)).1) k
 refine go ?_;intros
 refine Bg rfl (fun h3=>?_) (fun h3=>?_)
 ·have hk3:k < n.down.length:=by omega
  have hk4:k < n.up.length:=by omega
  have b3:=(Do (e3 _ (List.getElem_mem hk3))).1
  have b4:=(Do (e4 _ (List.getElem_mem hk4))).1
  have s3:=Acp hk3
  have s4:=Acp hk4
  refine Kw (E:=Ak) (hz:=by decide) (xs:=n.down) k ?_
  rintro hi1 g1 o1 a8 c8 F8 ea l8
  refine Kw (E:=Ak) (hz:=by decide) (xs:=n.up) k ?_
  rintro hi2 g2 o2 a9 c9 F9 eb l9
  rw [ea,eb]
  refine go ?_;intros
  rw [show ((qd (n.down.take k):Nat):Int)+(n.down[k].length:Int)=((qd (n.down.take (k+1)):Nat):Int) by omega,show ((qd (n.up.take k):Nat):Int)+(n.up[k].length:Int)=((qd (n.up.take (k+1)):Nat):Int) by omega]
  refine Ck (k+1) hk3 (by omega)
 ·have hk3:k=n.down.length:=by omega
  subst hk3
  rw [List.take_length,show n.up.take n.down.length=n.up by rw [←qu,List.take_length]]
  refine go ?_;intros
  refine ret () trivial ?_
  unfold I7;rw [g];rfl
theorem Alj (t:Nl) (v:Value) (F:List Nat) (hl:t.Ac.length≤1000000):Fn prog 57 [v] [.isv Pd v t F] [] (fun (_:KiS)=>True) (fun z=>.slice z.a (lvs t.Ac).length z.c) (fun z=>[.ow Bd 3 (.slice z.a (lvs t.Ac).length z.c) (lvs t.Ac) z.F]):=by
 refine enter func57 rfl ntmps57 fun w0=>?_
 refine M7 ?_
 rintro a1 c1 F1 rfl l1
 refine Cb Bd 3 ?_
 refine go ?_;intros
 refine Cp [1,2,7] (fun z:KiS=>[(3,.slice z.a (Nj t.Ac z.k).length z.c),(8,.int .i64 (z.k:Nat))]) (fun z=>[.ow Bd 3 (.slice z.a (Nj t.Ac z.k).length z.c) (Nj t.Ac z.k) z.F]) (fun z=>z.k≤t.Ac.length) (fun z=>t.Ac.length - z.k) ⟨0,_,_,_⟩ (Nat.zero_le _) fun z hz=>?_
 have hkl:=Abe t.Ac z.k
 refine go ?_;intros
 refine Bg rfl (fun h1=>?_) (fun h1=>?_)
 ·have hh:z.k < t.Ac.length:=by omega
  refine go ?_;intros
  refine cf (Vb t z.k _ F) fun _ _=>?_
  refine Ap ?_
  cases g:Ev t.Ac (z.k:Nat)
  ·rw [←All g]
   refine go ?_;intros
   refine Ck ⟨z.k+1,z.a,z.c,z.F⟩ (by show z.k+1≤t.Ac.length;omega) (by show t.Ac.length - (z.k+1) < t.Ac.length - z.k;omega)
  ·refine Jm ?_;intros
   apply wO
   refine Mf (Mi _) C8 fun a9 c9 F9=>?_
   refine go ?_;intros
   rw [←Ai3 g]
   refine Ck ⟨z.k+1,a9,c9,F9⟩ (by show z.k+1≤t.Ac.length;omega) (by show t.Ac.length - (z.k+1) < t.Ac.length - z.k;omega)
 ·have hk:z.k=t.Ac.length:=by omega
  rw [show Nj t.Ac z.k=lvs t.Ac by unfold lvs;rw [hk]]
  refine go ?_;intros
  refine ret z trivial rfl
theorem Afe (n:D9) (v:Value) (F:List Nat):Fn prog 26 [v] [.isv Le v n F] [] (fun (_:Unit)=>True) (fun _=>.tuple #[.bool (Hb n).1,.bool (Hb n).2]) (fun _=>[]):=by
 refine enter func26 rfl ntmps26 fun w0=>?_
 refine Di ?_
 rintro a1 c1 F1 a2 c2 F2 a3 c3 F3 a4 c4 F4 a5 c5 F5 a6 c6 F6 a7 c7 F7 rfl l1 l2 l3 l4 l5 l6 l7
 refine go ?_;intros
 refine cf (Mw n _ F) fun _ _=>?_
 refine Ap ?_
 cases g:Ax n
 ·refine go ?_;intros
  refine ret () trivial ?_
  unfold Hb;rw [g];rfl
 obtain ⟨-, -,e3,e4⟩:=Iw g
 obtain ⟨q2,q8,qn,qu,qe,qt⟩:=Qm g
 have hG:=A8.1 g
 obtain ⟨-,qr, -, -⟩:=Bm.1 hG.l
 have hS:=Ll hG.s
 have hW:=D6.1 (Eu.1 hG.s).1
 have hS1:=hS.l
 have hb1:=Rl (fun q hq=>(Do (e3 q hq)).1) n.down.length
 have hb2:=Rl (fun q hq=>(Do (e4 q hq)).1) n.up.length
 rw [List.take_length] at hb1 hb2
 refine Jm ?_;intros
 refine Ju n.Am (a1:=a1) ?_
 refine go ?_;intros
 refine cf (Alj n.Am _ _ (by omega)) fun z _=>?_
 refine Ap ?_
 refine A1 (E:=Bd) (xs:=lvs n.Am.Ac) fun Fl=>?_
 have hlv:=Abe n.Am.Ac n.Am.Ac.length
 rw [show Nj n.Am.Ac n.Am.Ac.length=lvs n.Am.Ac from rfl] at hlv
 refine go ?_;intros
 refine Dv [1,2,3,12,13] (fun k:Nat=>[(14,.int .i64 (k:Nat))]) (fun k=>k≤(lvs n.Am.Ac).length∧∀x∈(lvs n.Am.Ac).take k,V8 n x.toNat=true) (fun k=>(lvs n.Am.Ac).length - k) 0 ⟨Nat.zero_le _,by simp⟩ fun k hk=>?_
 obtain ⟨hk,hal⟩:=hk
 refine go ?_;intros
 refine Bg rfl (fun h3=>?_) (fun h3=>?_)
 ·have hk3:k < (lvs n.Am.Ac).length:=by omega
  obtain ⟨i,hi8,hie,hlf⟩:=Aqo hk3
  have h5:i < n.Ad.length:=by omega
  refine In (xs:=lvs n.Am.Ac) k ?_
  rintro hi b o e
  rw [e,hie]
  refine Lj (xs:=n.Ad) i ?_
  rintro h5b b5 o5 a9 c9 F9 a10 c10 F10 e5 l9 l10
  rw [e5]
  refine Em n.Ad[i] ?_
  cases hs:Xz n.Ad[i]
  ·refine Jm ?_;intros
   refine As [0,8] [] ?_
   refine dt 0 ?_
   refine dO 1 (by kernel_rfl) (by rw [List.getElem?_toArray];rfl) ?_
   apply At;rfl;kernel_rfl;exact Bf
   refine cf (Xg n.Ad[i] _ _) fun _ _=>?_
   refine Ap ?_
   rw [hs]
   refine dk ?_
   refine dt 2 ?_
   refine dt 3 ?_
   refine ds 4 ?_
   refine ds 5 ?_
   refine ds 6 ?_
   refine ds 7 ?_
   refine ds 8 ?_
   refine ds 9 ?_
   refine ds 10 ?_
   refine ds 11 ?_
   refine dt 12 ?_
   refine dd ?_
   refine go ?_;intros
   refine ret () trivial ?_
   unfold Hb;rw [g]
   rw [if_pos rfl,Zz hi8 hlf (by unfold V8;rw [Hp h5,hs];rfl)]
   rfl
  ·refine Jm ?_;intros
   refine As [0,8] [] ?_
   refine dt 0 ?_
   refine dO 1 (by kernel_rfl) (by rw [List.getElem?_toArray];rfl) ?_
   apply At;rfl;kernel_rfl;exact Bf
   refine cf (Xg n.Ad[i] _ _) fun _ _=>?_
   refine Ap ?_
   rw [hs]
   refine dk ?_
   refine dt 2 ?_
   refine dt 3 ?_
   refine Dh 4 ?_
   refine Dh 5 ?_
   refine Dh 6 ?_
   refine Dh 7 ?_
   refine Dh 8 ?_
   refine Dh 9 ?_
   refine d1g 10 ?_
   apply On.h
   apply At;rfl;kernel_rfl;exact Bf
   refine cb (fun w s=>If n.Ab.Aa.Al n.Ab.Aa.size _ n.Ab.Aa.Aj.length _ w hW.1.1 hW.1.2 (by omega)) ?_
   refine dk ?_
   refine Dh 11 ?_
   refine dt 12 ?_
   refine dd ?_
   refine go ?_;intros
   refine Bg rfl (fun h6=>?_) (fun h6=>?_)
   ·refine go ?_;intros
    refine ret () trivial ?_
    unfold Hb;rw [g]
    rw [if_pos rfl,Zz hi8 hlf (by unfold V8;rw [Hp h5,hs,decide_eq_false h6];rfl)]
    rfl
   ·refine go ?_;intros
    rw [show ((k:Nat):Int)+1=((k+1:Nat):Int) by omega]
    refine Ck (k+1) ⟨hk3,fun x hx=>?_⟩ (by omega)
    rw [List.take_succ_eq_append_getElem hk3] at hx
    rcases List.mem_append.1 hx with hx|hx
    ·exact hal x hx
    ·rw [List.mem_singleton.1 hx,hie]
     show V8 n i=true
     unfold V8;rw [Hp h5,hs,decide_eq_true (Decidable.not_not.1 h6)];rfl
 ·refine Jm ?_;intros
  refine As [2] [] ?_
  refine dt 0 ?_
  refine dt 1 ?_
  refine dt 3 ?_
  refine dt 4 ?_
  refine dO 2 (by kernel_rfl) (by rw [List.getElem?_toArray];rfl) ?_
  apply At;rfl;kernel_rfl;exact Bf
  refine cf (Qy n.down _ _ _ (by omega) fun q hq=>(Do (e3 q hq)).1) fun _ _=>?_
  refine Ap ?_
  refine dk ?_
  refine dO 5 (by kernel_rfl) (by rw [List.getElem?_toArray];rfl) ?_
  apply At;rfl;kernel_rfl;exact Bf
  refine cf (Qy n.up _ _ _ (by omega) fun q hq=>(Do (e4 q hq)).1) fun _ _=>?_
  refine Ap ?_
  refine dk ?_
  refine dt 6 ?_
  refine dt 7 ?_
  refine dt 8 ?_
  refine dt 9 ?_
  refine dd ?_
  have hst:Acx n=decide (((qd n.down:Nat):Int)+((qd n.up:Nat):Int)=0):=by
   by_cases h0:Rk n=0
   ·rw [Aey h0 fun j hj hl=>hal ((j:Nat):Int) (by rw [List.take_of_length_le (by omega)];exact Alm hj hl)]
    exact (decide_eq_true (by unfold Rk at h0;omega)).symm
   ·rw [Amt h0]
    exact (decide_eq_false (by unfold Rk at h0;omega)).symm
  rw [←hst]
  refine go ?_;intros
  refine ret () trivial ?_
  unfold Hb;rw [g];rfl
theorem Zw (n:D9) (v:Value) (F:List Nat):Fn prog 27 [v] [.isv Le v n F] [] (fun (_:Unit)=>True) (fun _=>.tuple #[.bool (Hb n).1,.bool (Hb n).2]) (fun _=>[]):=by
 refine enter func27 rfl ntmps27 fun w0=>?_
 refine Di ?_
 rintro a1 c1 F1 a2 c2 F2 a3 c3 F3 a4 c4 F4 a5 c5 F5 a6 c6 F6 a7 c7 F7 rfl l1 l2 l3 l4 l5 l6 l7
 refine go ?_;intros
 refine cf (Wg n _ F) fun _ _=>?_
 refine Ap ?_
 cases g:Ax n
 ·refine go ?_;intros
  refine ret () trivial ?_
  unfold Hb;rw [g];rfl
 obtain ⟨-,e2,e3,e4⟩:=Iw g
 obtain ⟨q2,q8,qn,qu,qe,qt⟩:=Qm g
 have hG:=A8.1 g
 obtain ⟨-,qr, -, -⟩:=Bm.1 hG.l
 have hS1:=(Ll hG.s).l
 have hW:=D6.1 (Eu.1 hG.s).1
 refine Jm ?_;intros
 refine Ju n.Am (a1:=a1) ?_
 refine go ?_;intros
 refine Dv [1,2,3] (fun k:Nat=>[(4,.int .i64 (k:Nat))]) (fun k=>1≤k∧k≤n.Am.Ac.length∧∀j,1≤j→j < k→(n.down.getD j []).length=0∧(n.up.getD j []).length=0∧(Ev n.Am.Ac ((j:Nat):Int)=true→V8 n j=true)) (fun k=>n.Am.Ac.length - k) 1 ⟨Nat.le_refl _,by omega,fun j a b=>by omega⟩ fun k hk=>?_
 obtain ⟨hk1,hk2,hal⟩:=hk
 refine go ?_;intros
 refine Bg rfl (fun h3=>?_) (fun h3=>?_)
 ·have hk3:k < n.Am.Ac.length:=by omega
  have h5:k < n.Ad.length:=by omega
  have hd5:k < n.down.length:=by omega
  have hu5:k < n.up.length:=by omega
  have m8:=(Do (e3 _ (List.getElem_mem hd5))).1
  have m9:=(Do (e4 _ (List.getElem_mem hu5))).1
  have gd:(n.down.getD k [])=n.down[k]:=N7 hd5 _
  have gu:(n.up.getD k [])=n.up[k]:=N7 hu5 _
  refine Kw (E:=Ak) (hz:=by decide) (xs:=n.down) k ?_
  rintro hi1 g1 o1 a8 c8 F8 ea l8
  refine Kw (E:=Ak) (hz:=by decide) (xs:=n.up) k ?_
  rintro hi2 g2 o2 a9 c9 F9 eb l9
  rw [ea,eb]
  refine Jm ?_;intros
  refine As [0,2,5] [] ?_
  refine dt 0 ?_
  refine dt 1 ?_
  refine dt 2 ?_
  refine dt 3 ?_
  refine dt 4 ?_
  refine dt 5 ?_
  refine dt 6 ?_
  refine dt 7 ?_
  refine dt 8 ?_
  refine dt 9 ?_
  refine dt 10 ?_
  refine dt 11 ?_
  refine dt 12 ?_
  refine dt 13 ?_
  refine dd ?_
  refine go ?_;intros
  refine Bg rfl (fun h4=>?_) (fun h4=>?_)
  ·refine go ?_;intros
   refine ret () trivial ?_
   unfold Hb;rw [g]
   rw [if_pos rfl,Amt (fun h0=>by
    have hd:=U8 (l:=n.down) (i:=k) (by unfold Rk at h0;omega)
    have hu:=U8 (l:=n.up) (i:=k) (by unfold Rk at h0;omega)
    rw [gd] at hd;rw [gu] at hu;omega)]
   rfl
  refine Lj (xs:=n.Ad) k ?_
  rintro h5b b5 o5 a10 c10 F10 a11 c11 F11 e5 l10 l11
  rw [e5]
  have hr:=Gg.1 (e2 _ (List.getElem_mem h5))
  have hr1:=(Ix hr.w).1
  have hr2:=(Dq.1 hr.q).2.1
  cases hlf:Ev n.Am.Ac ((k:Nat):Int)
  ·refine Jm ?_;intros
   refine As [0,9] [] ?_
   refine dt 0 ?_
   refine dt 1 ?_
   refine dt 2 ?_
   refine dO 3 (by kernel_rfl) (by rw [List.getElem?_toArray];rfl) ?_
   apply At;rfl;kernel_rfl;exact Bf
   refine cf (Nn n.Am _ _ F1 (Ff hG.t) (by omega)) fun _ _=>?_
   refine Ap ?_
   rw [hlf]
   refine dk ?_
   refine dt 4 ?_
   refine ds 5 ?_
   refine ds 6 ?_
   refine ds 7 ?_
   refine ds 8 ?_
   refine Ut 9 ?_
   refine Ut 10 ?_
   refine Ut 11 ?_
   refine Ut 12 ?_
   refine Ut 13 ?_
   refine Ut 14 ?_
   refine Ut 15 ?_
   refine Ut 16 ?_
   refine Ut 17 ?_
   refine ds 18 ?_
   refine ds 19 ?_
   refine Ut 20 ?_
   refine Ut 21 ?_
   refine Ut 22 ?_
   refine Ut 23 ?_
   refine Ut 24 ?_
   refine Ut 25 ?_
   refine Ut 26 ?_
   refine Ut 27 ?_
   refine ds 28 ?_
   refine dt 29 ?_
   refine dd ?_
   refine go ?_;intros
   rw [show ((k:Nat):Int)+1=((k+1:Nat):Int) by omega]
   refine Ck (k+1) ⟨by omega,hk3,fun j hj0 hj=>?_⟩ (by omega)
   by_cases hjk:j=k
   ·subst hjk
    exact ⟨by rw [gd];omega,by rw [gu];omega,fun h=>absurd h (by rw [hlf];decide)⟩
   ·exact hal j hj0 (by omega)
  cases hst0:n.Ad[k].Bh
  ·have hst:Xz n.Ad[k]=false:=by unfold Xz;rw [hst0];rfl
   try rw [hst0]
   refine Jm ?_;intros
   refine As [0,9] [] ?_
   refine dt 0 ?_
   refine dt 1 ?_
   refine dt 2 ?_
   refine dO 3 (by kernel_rfl) (by rw [List.getElem?_toArray];rfl) ?_
   apply At;rfl;kernel_rfl;exact Bf
   refine cf (Nn n.Am _ _ F1 (Ff hG.t) (by omega)) fun _ _=>?_
   refine Ap ?_
   rw [hlf]
   refine dk ?_
   refine dt 4 ?_
   refine Dh 5 ?_
   refine Dh 6 ?_
   refine Dh 7 ?_
   refine Dh 8 ?_
   refine ds 9 ?_
   refine ds 10 ?_
   refine ds 11 ?_
   refine ds 12 ?_
   refine ds 13 ?_
   refine ds 14 ?_
   refine ds 15 ?_
   refine ds 16 ?_
   refine ds 17 ?_
   refine Dh 18 ?_
   refine Dh 19 ?_
   refine ds 20 ?_
   refine ds 21 ?_
   refine ds 22 ?_
   refine ds 23 ?_
   refine ds 24 ?_
   refine ds 25 ?_
   refine ds 26 ?_
   refine ds 27 ?_
   refine Dh 28 ?_
   refine dt 29 ?_
   refine dd ?_
   refine go ?_;intros
   refine ret () trivial ?_
   unfold Hb;rw [g]
   rw [if_pos rfl,Zz hk3 hlf (by unfold V8;rw [Hp h5,hst];rfl)]
   rfl
  ·by_cases hz:n.Ad[k].Ar.length+n.Ad[k].Aa.Ao.length=0
   rotate_left
   ·have hst:Xz n.Ad[k]=false:=by
     unfold Xz
     by_cases hz1:((n.Ad[k].Ar.length:Int)=0)
     ·rw [decide_eq_false (show ¬((n.Ad[k].Aa.Ao.length:Int)=0) by omega),Bool.and_false]
     ·rw [decide_eq_false hz1,Bool.and_false,Bool.false_and]
    try rw [hst0]
    refine Jm ?_;intros
    refine As [0,9] [] ?_
    refine dt 0 ?_
    refine dt 1 ?_
    refine dt 2 ?_
    refine dO 3 (by kernel_rfl) (by rw [List.getElem?_toArray];rfl) ?_
    apply At;rfl;kernel_rfl;exact Bf
    refine cf (Nn n.Am _ _ F1 (Ff hG.t) (by omega)) fun _ _=>?_
    refine Ap ?_
    rw [hlf]
    refine dk ?_
    refine dt 4 ?_
    refine Dh 5 ?_
    refine Dh 6 ?_
    refine Dh 7 ?_
    refine Dh 8 ?_
    refine Dh 9 ?_
    refine Dh 10 ?_
    refine Dh 11 ?_
    refine Dh 12 ?_
    refine Dh 13 ?_
    refine Dh 14 ?_
    refine Dh 15 ?_
    refine Dh 16 ?_
    refine Dh 17 ?_
    rw [show decide ((0:Int) < ((n.Ad[k].Ar.length:Int)+(n.Ad[k].Aa.Ao.length:Int)))=true from decide_eq_true (by omega)]
    refine Dh 18 ?_
    refine Dh 19 ?_
    refine ds 20 ?_
    refine ds 21 ?_
    refine ds 22 ?_
    refine ds 23 ?_
    refine ds 24 ?_
    refine ds 25 ?_
    refine ds 26 ?_
    refine ds 27 ?_
    refine Dh 28 ?_
    refine dt 29 ?_
    refine dd ?_
    refine go ?_;intros
    refine ret () trivial ?_
    unfold Hb;rw [g]
    rw [if_pos rfl,Zz hk3 hlf (by unfold V8;rw [Hp h5,hst];rfl)]
    rfl
   ·have hst:Xz n.Ad[k]=true:=by
     unfold Xz
     rw [hst0,decide_eq_true (show ((n.Ad[k].Aa.Ao.length:Int)=0) by omega),decide_eq_true (show ((n.Ad[k].Ar.length:Int)=0) by omega)];rfl
    try rw [hst0]
    refine Jm ?_;intros
    refine As [0,9] [] ?_
    refine dt 0 ?_
    refine dt 1 ?_
    refine dt 2 ?_
    refine dO 3 (by kernel_rfl) (by rw [List.getElem?_toArray];rfl) ?_
    apply At;rfl;kernel_rfl;exact Bf
    refine cf (Nn n.Am _ _ F1 (Ff hG.t) (by omega)) fun _ _=>?_
    refine Ap ?_
    rw [hlf]
    refine dk ?_
    refine dt 4 ?_
    refine Dh 5 ?_
    refine Dh 6 ?_
    refine Dh 7 ?_
    refine Dh 8 ?_
    refine Dh 9 ?_
    refine Dh 10 ?_
    refine Dh 11 ?_
    refine Dh 12 ?_
    refine Dh 13 ?_
    refine Dh 14 ?_
    refine Dh 15 ?_
    refine Dh 16 ?_
    refine Dh 17 ?_
    rw [show decide ((0:Int) < ((n.Ad[k].Ar.length:Int)+(n.Ad[k].Aa.Ao.length:Int)))=false from decide_eq_false (by omega)]
    refine Dh 18 ?_
    refine Dh 19 ?_
    refine Dh 20 ?_
    refine Dh 21 ?_
    refine Dh 22 ?_
    refine Dh 23 ?_
    refine Dh 24 ?_
    refine Dh 25 ?_
    refine d1g 26 ?_
    apply On.h
    apply At;rfl;kernel_rfl;exact Bf
    refine cb (fun w s=>Qt n.Ab.Aa.Al n.Ab.Aa.size _ n.Ab.Aa.Aj.length _ w hW.1.1 hW.1.2 (by omega)) ?_
    refine dk ?_
    refine Dh 27 ?_
    refine Dh 28 ?_
    refine dt 29 ?_
    refine dd ?_
    refine go ?_;intros
    refine Bg rfl (fun h6=>?_) (fun h6=>?_)
    ·refine go ?_;intros
     refine ret () trivial ?_
     unfold Hb;rw [g]
     rw [if_pos rfl,Zz hk3 hlf (by unfold V8;rw [Hp h5,decide_eq_false h6,Bool.and_false])]
     rfl
    ·refine go ?_;intros
     rw [show ((k:Nat):Int)+1=((k+1:Nat):Int) by omega]
     refine Ck (k+1) ⟨by omega,hk3,fun j hj0 hj=>?_⟩ (by omega)
     by_cases hjk:j=k
     ·subst hjk
      exact ⟨by rw [gd];omega,by rw [gu];omega,fun h=>by unfold V8;rw [Hp h5,hst,decide_eq_true (Decidable.not_not.1 h6)];rfl⟩
     ·exact hal j hj0 (by omega)
 ·have hk3:k=n.Am.Ac.length:=by omega
  have hst:Acx n=true:=by
   refine Aey ?_ fun i hi hl=>?_
   ·have d0:=Ve g
    have a1:qd n.down=0:=Al7 fun i hi=>by
     rw [←N7 hi []]
     by_cases h0:i=0
     ·subst h0;exact d0.1
     ·exact (hal i (by omega) (by omega)).1
    have a2:qd n.up=0:=Al7 fun i hi=>by
     rw [←N7 hi []]
     by_cases h0:i=0
     ·subst h0;exact d0.2
     ·exact (hal i (by omega) (by omega)).2.1
    unfold Rk;omega
   ·by_cases h0:i=0
    ·subst h0;rw [Aoz (Ff hG.t)] at hl;cases hl
    ·exact (hal i (by omega) (by omega)).2.2 hl
  refine go ?_;intros
  refine ret () trivial ?_
  unfold Hb;rw [g,if_pos rfl,hst];rfl
end Go.Proofs.YtaemjogbahcbcaaGreatDoor
namespace Go.Proofs.YtaemjogbahcbcaaGreatDoor

open Go.RowKit
end Go.Proofs.YtaemjogbahcbcaaGreatDoor
namespace Go.Proofs.YtaemjogbahcbcaaGreatDoor
open Go.RowKit
structure DqS where
 x:NE
 b:Bool
 cs:List Value
 F:List Nat
 a:Option Addr
 c:Nat
 Fe:List Nat
structure DqK where
 k:Nat
 cs:List Value
 F:List Nat
 a:Option Addr
 c:Nat
 Fe:List Nat
theorem Aaw (w:World):∀xs:List Int,Cw Bd w (xs.map (Value.int .i64)) xs []
 | []=>⟨rfl,rfl⟩
 | x::r=>⟨[.int .i64 x],r.map (Value.int .i64),[],[],rfl,rfl,⟨rfl,rfl⟩,Aaw w r⟩
theorem Amf {n:D9} {s:Li} (e:By n s=none):Aw n s=(Lh,[],false):=by
 unfold Aw
 split
 ·rw [e]
 ·rfl
theorem Amg {n:D9} {s:Li} {r:NE} (g1:Ax n=true) (g2:Ij s=true) (e:By n s=some r):Aw n s=(r.1,r.2,true):=by unfold Aw;rw [g1,g2,e];rfl
theorem Afv (n:D9) (v:Value) (F FT:List Nat) (hg:Ax n=true):Fn prog 55 [v] [.isv Le v n F,Lw FT] [] (fun (_:V0)=>True) (fun z=>.tuple #[.agg z.cs.toArray,.slice z.a (Nh n).2.length z.c]) (fun z=>[.isv Le (.agg z.cs.toArray) (Nh n).1 z.F,.ow Ba 9 (.slice z.a (Nh n).2.length z.c) (Nh n).2 z.Fe]):=by
 have hwn:=Ana hg
 refine enter func55 rfl ntmps55 fun w0=>?_
 refine Di ?_
 rintro a1 c1 F1 a2 c2 F2 a3 c3 F3 a4 c4 F4 a5 c5 F5 a6 c6 F6 a7 c7 F7 rfl l1 l2 l3 l4 l5 l6 l7
 refine go ?_;intros
 refine cf (Ad9 n _ F hg) fun z _=>?_
 refine Ap ?_
 obtain ⟨w,y⟩:=z
 dsimp only
 refine A1 (E:=Bd) (xs:=n.Am.Ac) fun Ft=>?_
 refine Yf Jj (xs:=n.Af) fun He=>?_
 refine Yf Qd (xs:=n.Ad) fun Hr=>?_
 refine Yf (Pq (Me.refl Ak) (by decide) _) (xs:=n.down) fun Hd=>?_
 refine Yf (Pq (Me.refl Ak) (by decide) _) (xs:=n.up) fun Hu=>?_
 refine Ex (x:=n.Ab) ?_
 rintro b2 d2 G2 b3 d3 G3 ev - -
 simp only [Value.agg.injEq,Array.mk.injEq,List.cons.injEq,Value.slice.injEq,true_and,and_true] at ev
 obtain ⟨⟨rfl,rfl⟩,rfl,rfl⟩:=ev
 refine Is n (a1:=w.a1) (c1:=w.c1) (a2:=w.s.a) (c2:=w.s.c) (a3:=w.s.a2) (c3:=w.s.c2) (a4:=y.a4) (c4:=y.c4) (a5:=y.a5) (c5:=y.c5) (a6:=y.a6) (c6:=y.c6) (a7:=y.a7) (c7:=y.c7) ?_
 refine go ?_;intros
 rename_i g4 g5
 refine C9 Ba ?_
 refine go ?_;intros
 refine Cp [2,4] (fun s:DqS=>[(5,.slice s.a s.x.2.length s.c),(6,.bool s.b)]) (fun s=>[.row g4 37 0 [] s.cs [],.isv Le (.agg s.cs.toArray) s.x.1 s.F,.ow Ba 9 (.slice s.a s.x.2.length s.c) s.x.2 s.Fe]) (fun s=>Q4 (n,[]) s.x∧(if s.b then drE s.x else s.x)=Nh n) (fun s=>if s.b then wN s.x.1+1 else 0) ⟨(n,[]),true,_,_,_,_,_⟩ ⟨.refl hg,rfl⟩ fun s hs0=>?_
 obtain ⟨x,b,cs,Fx,ea,ec,eF⟩:=s
 obtain ⟨fx,hR⟩:=hs0
 dsimp only at fx hR ⊢
 refine Di (x:=x.1) ?_
 rintro b1 d1 G1 b2 d2 G2 b3 d3 G3 b4 d4 G4 b5 d5 G5 b6 d6 G6 b7 d7 G7 ev - - - - - - -
 obtain rfl:cs=[.slice b1 x.1.Am.Ac.length d1,.int .i64 x.1.Ab.Aa.Al,.int .i64 x.1.Ab.Aa.size,.slice b2 x.1.Ab.Aa.Aj.length d2,.int .i64 x.1.Ab.Ai,.int .i64 x.1.Ab.quiet,.slice b3 x.1.Ab.holds.length d3,.slice b4 x.1.Af.length d4,.slice b5 x.1.Ad.length d5,.slice b6 x.1.down.length d6,.slice b7 x.1.up.length d7]:=by simpa using ev
 clear ev
 cases b
 ·rw [if_neg (by decide)] at hR
  rw [hR]
  refine go ?_;intros
  refine ret (⟨_,Fx,ea,ec,eF⟩:V0) trivial rfl
 rw [if_pos rfl] at hR
 have hG:=A8.1 fx.g
 have h8:=Ff hG.t
 have hn8:=h8.n1
 have hn2:=h8.n0
 have hev:=fx.e
 simp only [List.length_nil] at hev
 refine go ?_;intros
 refine Cp [2,4] (fun s:DqK=>[(5,.slice s.a (Gn x s.k).2.length s.c),(6,.bool (Np x s.k)),(7,.int .i64 ((s.k+1:Nat):Int))]) (fun s=>[.row g4 37 0 [] s.cs [],.isv Le (.agg s.cs.toArray) (Gn x s.k).1 s.F,.ow Ba 9 (.slice s.a (Gn x s.k).2.length s.c) (Gn x s.k).2 s.Fe]) (fun s=>s.k+1≤x.1.Am.Ac.length) (fun s=>x.1.Am.Ac.length - s.k) ⟨0,_,_,_,_,_⟩ (by show 0+1≤_;omega) fun s hs0=>?_
 obtain ⟨k,cs,Fx,ya,yc,yF⟩:=s
 dsimp only at hs0 ⊢
 have rf:=Nu fx.g k hs0
 have fX:=fx.trans rf.1
 have hXt:(Gn x k).1.Am.Ac.length=x.1.Am.Ac.length:=by rw [rf.1.t]
 generalize hX:Gn x k=X at fX hXt ⊢
 generalize hM:Np x k=M
 refine Di (x:=X.1) ?_
 rintro b1 d1 G1 b2 d2 G2 b3 d3 G3 b4 d4 G4 b5 d5 G5 b6 d6 G6 b7 d7 G7 ev - - - - - - -
 obtain rfl:cs=[.slice b1 X.1.Am.Ac.length d1,.int .i64 X.1.Ab.Aa.Al,.int .i64 X.1.Ab.Aa.size,.slice b2 X.1.Ab.Aa.Aj.length d2,.int .i64 X.1.Ab.Ai,.int .i64 X.1.Ab.quiet,.slice b3 X.1.Ab.holds.length d3,.slice b4 X.1.Af.length d4,.slice b5 X.1.Ad.length d5,.slice b6 X.1.down.length d6,.slice b7 X.1.up.length d7]:=by simpa using ev
 clear ev
 refine go ?_;intros
 refine Bg rfl (fun h1=>?_) (fun h1=>?_)
 rotate_left
 ·have hk:x.1.Am.Ac.length - 1=k:=by omega
  have hXr:Ro x=X:=by rw [←hX,←hk];rfl
  have hmi:=Zg fx.g
  rw [hk,hM] at hmi
  refine go ?_;intros
  refine Ck ⟨X,M,_,_,ya,yc,yF⟩ ⟨fX,?_⟩ ?_
  ·cases M
   ·have hz:=hmi.1 rfl
    show X=Nh n
    rw [←hR,Sm hz,←hXr,Af7 fx.g hz]
   ·have hz:¬Rk x.1=0:=fun h=>by cases hmi.2 h
    show drE X=Nh n
    rw [←hR,Yw fx.g hz,hXr]
  ·cases M
   ·show 0 < wN x.1+1
    omega
   ·have hz:¬Rk x.1=0:=fun h=>by cases hmi.2 h
    have:=(Lv fx.g).2 hz
    rw [hXr] at this
    show wN X.1+1 < wN x.1+1
    omega
 have hj:k+1 < x.1.Am.Ac.length:=by omega
 refine go ?_;intros
 refine Ei (E:=Bd) (xs:=[2,5]) (fun w=>Aaw w _) ?_ (by decide)
 refine A1 (E:=Bd) (xs:=[2,5]) fun Fk=>?_
 refine go ?_;intros
 refine Cp [2,4,7,25,26] (fun s:DqK=>[(5,.slice s.a (Ph X (k+1) s.k).2.length s.c),(6,.bool (Xf M X (k+1) s.k)),(27,.int .i64 (s.k:Nat))]) (fun s=>[.row g4 37 0 [] s.cs [],.isv Le (.agg s.cs.toArray) (Ph X (k+1) s.k).1 s.F,.ow Ba 9 (.slice s.a (Ph X (k+1) s.k).2.length s.c) (Ph X (k+1) s.k).2 s.Fe]) (fun s=>s.k≤2) (fun s=>2 - s.k) ⟨0,_,_,_,_,_⟩ (Nat.zero_le _) fun s hs1=>?_
 obtain ⟨m,cs,Fx,ya,yc,yF⟩:=s
 dsimp only at hs1 ⊢
 have fY:=fX.trans (Aif fX.g (i:=k+1) (by omega) (by omega) m hs1)
 have hYe:=fY.e
 simp only [List.length_nil] at hYe
 generalize hY:Ph X (k+1) m=Y at fY hYe ⊢
 generalize hB:Xf M X (k+1) m=B
 refine Di (x:=Y.1) ?_
 rintro b1 d1 G1 b2 d2 G2 b3 d3 G3 b4 d4 G4 b5 d5 G5 b6 d6 G6 b7 d7 G7 ev - - - - - - -
 obtain rfl:cs=[.slice b1 Y.1.Am.Ac.length d1,.int .i64 Y.1.Ab.Aa.Al,.int .i64 Y.1.Ab.Aa.size,.slice b2 Y.1.Ab.Aa.Aj.length d2,.int .i64 Y.1.Ab.Ai,.int .i64 Y.1.Ab.quiet,.slice b3 Y.1.Ab.holds.length d3,.slice b4 Y.1.Af.length d4,.slice b5 Y.1.Ad.length d5,.slice b6 Y.1.down.length d6,.slice b7 Y.1.up.length d7]:=by simpa using ev
 clear ev
 refine go ?_;intros
 refine Bg rfl (fun h2=>?_) (fun h2=>?_)
 ·have hm:m < 2:=by omega
  have ok:Ij (kst m (k+1))=true:=Ate (by omega) (by omega) hm
  refine In (xs:=[2,5]) m ?_
  rintro hi b9 o9 e9
  rw [e9,show ([2,5]:List Int)[m]=(kst m (k+1)).Df by rcases (show m=0∨m=1 by omega) with rfl|rfl <;> rfl]
  have gY:=fY.g
  refine go ?_;intros
  refine cf (Tg Y.1 (kst m (k+1)) _ _ FT (Nat.zero_le _) gY ok) fun z _=>?_
  refine Ap ?_
  cases e:By Y.1 (kst m (k+1)) with
  | none =>
   rw [Amf e]
   have hnY:Ph X (k+1) (m+1)=Y:=by show Kr (Ph X (k+1) m) (kst m (k+1))=Y;rw [hY];exact Ir e
   have hnB:Xf M X (k+1) (m+1)=B:=by show (Xf M X (k+1) m || (By (Ph X (k+1) m).1 (kst m (k+1))).isSome)=B;rw [hY,hB,e];exact Bool.or_false B
   refine Di (x:=Lh) ?_
   rintro f1 t1 G1 f2 t2 G2 f3 t3 G3 f4 t4 G4 f5 t5 G5 f6 t6 G6 f7 t7 G7 ez - - - - - - -
   rw [ez]
   refine go ?_;intros
   refine Ck ⟨m+1,_,_,ya,yc,yF⟩ (by show m+1≤2;omega) (by show 2 - (m+1) < 2 - m;omega) (by dsimp only;rw [hnY,hnB];exact frE) (by dsimp only;rw [hnY];exact hsE)
  | some r =>
   rw [Amg gY ok e]
   have hnY:Ph X (k+1) (m+1)=(r.1,Y.2++r.2):=by show Kr (Ph X (k+1) m) (kst m (k+1))=_;rw [hY];exact Wy e
   have hnB:Xf M X (k+1) (m+1)=true:=by show (Xf M X (k+1) m || (By (Ph X (k+1) m).1 (kst m (k+1))).isSome)=true;rw [hY,hB,e];exact Bool.or_true B
   have hr:=Amr gY ok e
   refine Di (x:=r.1) ?_
   rintro f1 t1 G1 f2 t2 G2 f3 t3 G3 f4 t4 G4 f5 t5 G5 f6 t6 G6 f7 t7 G7 ez - - - - - - -
   rw [ez]
   refine A1 (E:=Ba) (xs:=r.2) fun F8=>?_
   refine go ?_;intros
   apply wO
   refine Lx (E:=Ba) (xs:=Y.2) (ys:=r.2) Ed Hf fun a9 c9 F9=>?_
   refine go ?_;intros
   refine Ck ⟨m+1,_,z.F,a9,c9,F9⟩ (by show m+1≤2;omega) (by show 2 - (m+1) < 2 - m;omega) (by dsimp only;rw [hnY,hnB];exact frE) (by dsimp only;rw [hnY];exact hsE)
 ·obtain rfl:m=2:=by omega
  refine go ?_;intros
  refine Ck ⟨k+1,_,_,ya,yc,yF⟩ (by show k+1+1≤_;omega) (by show x.1.Am.Ac.length - (k+1) < x.1.Am.Ac.length - k;omega) (by dsimp only;rw [Aee,hX,hM,hB,Vo,hX,hY];exact frE) (by dsimp only;rw [Vo,hX,hY];exact hsE)
structure FnS where
 k:Nat
 z:NV
 a:Option Addr
 c:Nat
 F:List Nat
theorem Ah4 {n:D9} {r:Int} (hok:Vg n r=true) {k:Nat} (hk:(k:Int)≤r):Ax (Cr n k).1=true∧(Cr n k).1.Ab.Ai=n.Ab.Ai+(k:Int)∧(Cr n k).2.length≤420000000000:=by
 unfold Vg Ig at hok
 simp only [Bool.and_eq_true,decide_eq_true_eq] at hok
 obtain ⟨⟨g,h1,h2⟩,h3⟩:=hok
 obtain ⟨a, -,b,c⟩:=Adv g k (by omega)
 exact ⟨a,b,by omega⟩
theorem Adw (n:D9) (k:Nat):Cr n (k+1)=((Nh (Bz (Cr n k).1).1).1,(Cr n k).2++(Bz (Cr n k).1).2++(Nh (Bz (Cr n k).1).1).2):=rfl
theorem Ak1 {n:D9} (h1:Ax n=true) (hc:n.Ab.Ai < 9999):Ax (Bz n).1=true∧(Bz n).2.length≤320000∧(Nh (Bz n).1).2.length≤6720000000:=by
 have t1:=Rv h1 hc
 have hn8:=(Ff (A8.1 h1).t).n1
 have hn2:=(Ff (A8.1 h1).t).n0
 have t4:(Bz n).2.length≤40000 * (n.Am.Ac.length - 1):=Vr h1 hc _ (by omega)
 exact ⟨t1,by omega,Ab9 t1⟩
theorem Adb (n:D9) (r:Int) (v:Value) (F FT:List Nat):Fn prog 54 [v,.int .i64 r] [.isv Le v n F,Lw FT] [] (fun (_:V0)=>True) (fun z=>.tuple #[.agg z.cs.toArray,.slice z.a (Ej n r).2.1.length z.c,.bool (Ej n r).2.2]) (fun z=>[.own Aab (.agg z.cs.toArray) (Ej n r).1 z.F,.ow Ba 9 (.slice z.a (Ej n r).2.1.length z.c) (Ej n r).2.1 z.Fe]):=by
 refine enter func54 rfl ntmps54 fun w0=>?_
 refine Di ?_
 rintro a1 c1 F1 a2 c2 F2 a3 c3 F3 a4 c4 F4 a5 c5 F5 a6 c6 F6 a7 c7 F7 rfl l1 l2 l3 l4 l5 l6 l7
 refine Cb Bd 3 ?_
 refine Cb Ba 9 ?_
 refine Cb Bj 134 ?_
 refine Cb Bt 77 ?_
 refine Cb Bk 84 ?_
 refine Cb (Hi Ak 110) 86 ?_
 refine Cb (Hi Ak 110) 86 ?_
 refine Nm Lh ?_
 refine Cb Ba 9 ?_
 refine go ?_;intros
 refine cf (Mw n _ F) fun _ _=>?_
 refine Ap ?_
 cases g1:Ax n
 ·rw [show Ej n r=(Lh,[],false) by unfold Ej Vg;rw [g1];rfl]
  refine go ?_;intros
  refine ret (⟨[.slice none 0 0,.int .i64 0,.int .i64 0,.slice none 0 0,.int .i64 0,.int .i64 0,.slice none 0 0,.slice none 0 0,.slice none 0 0,.slice none 0 0,.slice none 0 0],_,none,0,[]⟩:V0) trivial rfl
 refine go ?_;intros
 refine ce (fun w st=>Ie r 0 60 w) ?_
 cases g2:Ig 0 r 60
 ·rw [show Ej n r=(Lh,[],false) by unfold Ej Vg;rw [g1,g2];rfl]
  refine go ?_;intros
  refine ret (⟨[.slice none 0 0,.int .i64 0,.int .i64 0,.slice none 0 0,.int .i64 0,.int .i64 0,.slice none 0 0,.slice none 0 0,.slice none 0 0,.slice none 0 0,.slice none 0 0],_,none,0,[]⟩:V0) trivial rfl
 have hr:0≤r∧r≤60:=by unfold Ig at g2;simpa using g2
 have hck:=Q1 (A8.1 g1).s
 refine go ?_;intros
 refine Bg rfl (fun h3=>?_) (fun h3=>?_)
 ·rw [show Ej n r=(Lh,[],false) by unfold Ej Vg;rw [g1,g2,decide_eq_false (show ¬n.Ab.Ai+r≤9999 by omega)];rfl]
  refine go ?_;intros
  refine ret (⟨[.slice none 0 0,.int .i64 0,.int .i64 0,.slice none 0 0,.int .i64 0,.int .i64 0,.slice none 0 0,.slice none 0 0,.slice none 0 0,.slice none 0 0,.slice none 0 0],_,none,0,[]⟩:V0) trivial rfl
 have hok:Vg n r=true:=by unfold Vg;rw [g1,g2,decide_eq_true (show n.Ab.Ai+r≤9999 by omega)];rfl
 have hres:Ej n r=((Cr n r.toNat).1,(Cr n r.toNat).2,true):=by unfold Ej;rw [hok,if_pos rfl]
 rw [hres]
 refine go ?_;intros
 refine cf (Akc n _ F (Aak g1)) fun z _=>?_
 refine Ap ?_
 refine go ?_;intros
 rename_i g
 refine cf (Add n g z.a1 z.c1 z.F1 z.a2 z.c2 z.F2 z.a3 z.c3 z.F3 z.a4 z.c4 z.F4 z.a5 z.c5 z.F5 z.a6 z.c6 z.F6 z.a7 z.c7 z.F7 FT g1) fun y _=>?_
 refine Ap ?_
 refine go ?_;intros
 refine Cp [1,4,7,29] (fun s:FnS=>[(8,.slice s.a (Cr n s.k).2.length s.c),(30,.int .i64 (s.k:Nat))]) (fun s=>[.row g 37 0 [] [.slice s.z.a1 (Cr n s.k).1.Am.Ac.length s.z.c1,.int .i64 (Cr n s.k).1.Ab.Aa.Al,.int .i64 (Cr n s.k).1.Ab.Aa.size,.slice s.z.a2 (Cr n s.k).1.Ab.Aa.Aj.length s.z.c2,.int .i64 (Cr n s.k).1.Ab.Ai,.int .i64 (Cr n s.k).1.Ab.quiet,.slice s.z.a3 (Cr n s.k).1.Ab.holds.length s.z.c3,.slice s.z.a4 (Cr n s.k).1.Af.length s.z.c4,.slice s.z.a5 (Cr n s.k).1.Ad.length s.z.c5,.slice s.z.a6 (Cr n s.k).1.down.length s.z.c6,.slice s.z.a7 (Cr n s.k).1.up.length s.z.c7] [],.ow Bd 3 (.slice s.z.a1 (Cr n s.k).1.Am.Ac.length s.z.c1) (Cr n s.k).1.Am.Ac s.z.F1,.ow Ba 9 (.slice s.z.a2 (Cr n s.k).1.Ab.Aa.Aj.length s.z.c2) (Cr n s.k).1.Ab.Aa.Aj s.z.F2,.ow Bj 134 (.slice s.z.a3 (Cr n s.k).1.Ab.holds.length s.z.c3) (Cr n s.k).1.Ab.holds s.z.F3,.ow Bt 77 (.slice s.z.a4 (Cr n s.k).1.Af.length s.z.c4) (Cr n s.k).1.Af s.z.F4,.ow Bk 84 (.slice s.z.a5 (Cr n s.k).1.Ad.length s.z.c5) (Cr n s.k).1.Ad s.z.F5,.ow (Hi Ak 110) 86 (.slice s.z.a6 (Cr n s.k).1.down.length s.z.c6) (Cr n s.k).1.down s.z.F6,.ow (Hi Ak 110) 86 (.slice s.z.a7 (Cr n s.k).1.up.length s.z.c7) (Cr n s.k).1.up s.z.F7,.ow Ba 9 (.slice s.a (Cr n s.k).2.length s.c) (Cr n s.k).2 s.F]) (fun s=>(s.k:Int)≤r) (fun s=>r.toNat - s.k) ⟨0,y.1,y.2.a,y.2.c,y.2.F⟩ (by show ((0:Nat):Int)≤r;omega) fun s hs0=>?_
 obtain ⟨k,⟨x1,w1,K1,x2,w2,K2,x3,w3,K3,x4,w4,K4,x5,w5,K5,x6,w6,K6,x7,w7,K7⟩,ea,ec,eF⟩:=s
 dsimp only at hs0 ⊢
 obtain ⟨gk,ck,lk⟩:=Ah4 hok hs0
 refine go ?_;intros
 refine Bg rfl (fun h4=>?_) (fun h4=>?_)
 ·obtain ⟨gt,lt,ld⟩:=Ak1 gk (by omega)
  refine go ?_;intros
  refine cf (Aq7 (Cr n k).1 g x1 w1 K1 x2 w2 K2 x3 w3 K3 x4 w4 K4 x5 w5 K5 x6 w6 K6 x7 w7 K7 FT gk (by omega)) fun u _=>?_
  refine Ap ?_
  refine A1 (E:=Ba) (xs:=(Bz (Cr n k).1).2) fun F8=>?_
  refine go ?_;intros
  apply wO
  refine Lx (E:=Ba) (xs:=(Cr n k).2) (ys:=(Bz (Cr n k).1).2) Ed Hf fun a9 c9 F9=>?_
  refine go ?_;intros
  refine cf (Add (Bz (Cr n k).1).1 g u.1.a1 u.1.c1 u.1.F1 u.1.a2 u.1.c2 u.1.F2 u.1.a3 u.1.c3 u.1.F3 u.1.a4 u.1.c4 u.1.F4 u.1.a5 u.1.c5 u.1.F5 u.1.a6 u.1.c6 u.1.F6 u.1.a7 u.1.c7 u.1.F7 FT gt) fun y _=>?_
  refine Ap ?_
  refine A1 (E:=Ba) (xs:=(Nh (Bz (Cr n k).1).1).2) fun F7=>?_
  refine go ?_;intros
  apply wO
  have hl:((Cr n k).2++(Bz (Cr n k).1).2).length=(Cr n k).2.length+(Bz (Cr n k).1).2.length:=List.length_append
  refine Lx (E:=Ba) (xs:=(Cr n k).2++(Bz (Cr n k).1).2) (ys:=(Nh (Bz (Cr n k).1).1).2) Ed Hf fun a8 c8 F6=>?_
  refine go ?_;intros
  refine Ck ⟨k+1,y.1,a8,c8,F6⟩ (by show ((k+1:Nat):Int)≤r;omega) (by show r.toNat - (k+1) < r.toNat - k;omega) (by dsimp only;rw [Adw];exact frE) (by dsimp only;rw [Adw];exact hsE)
 ·rw [show r.toNat=k by omega]
  refine go ?_;intros
  refine Nm (Cr n k).1 ?_
  refine ret (⟨[.slice x1 (Cr n k).1.Am.Ac.length w1,.int .i64 (Cr n k).1.Ab.Aa.Al,.int .i64 (Cr n k).1.Ab.Aa.size,.slice x2 (Cr n k).1.Ab.Aa.Aj.length w2,.int .i64 (Cr n k).1.Ab.Ai,.int .i64 (Cr n k).1.Ab.quiet,.slice x3 (Cr n k).1.Ab.holds.length w3,.slice x4 (Cr n k).1.Af.length w4,.slice x5 (Cr n k).1.Ad.length w5,.slice x6 (Cr n k).1.down.length w6,.slice x7 (Cr n k).1.up.length w7],_,_,_,_⟩:V0) trivial rfl
theorem Yk (n:D9) (v:Value) (F FT:List Nat):Fn prog 20 [v] [.isv Le v n F,Lw FT] [] (fun (_:V0)=>True) (fun z=>.tuple #[.agg z.cs.toArray,.slice z.a (C3 n).2.1.length z.c,.bool (C3 n).2.2]) (fun z=>[.own Aab (.agg z.cs.toArray) (C3 n).1 z.F,.ow Ba 9 (.slice z.a (C3 n).2.1.length z.c) (C3 n).2.1 z.Fe]):=by
 rw [←Ah3]
 refine enter func20 rfl ntmps20 fun w0=>?_
 refine Di ?_
 rintro a1 c1 F1 a2 c2 F2 a3 c3 F3 a4 c4 F4 a5 c5 F5 a6 c6 F6 a7 c7 F7 rfl l1 l2 l3 l4 l5 l6 l7
 refine go ?_;intros
 refine cf (Adb n 0 _ F FT) fun z _=>?_
 refine Ap ?_
 generalize Ej n 0=R
 obtain ⟨R1,R2,R3⟩:=R
 dsimp only
 refine Alz (x:=R1) ?_
 rintro b1 d1 G1 b2 d2 G2 b3 d3 G3 b4 d4 G4 b5 d5 G5 b6 d6 G6 b7 d7 G7 ev - - - - - - -
 rw [ev]
 refine go ?_;intros
 refine Nm R1 ?_
 refine ret (⟨[.slice b1 R1.Am.Ac.length d1,.int .i64 R1.Ab.Aa.Al,.int .i64 R1.Ab.Aa.size,.slice b2 R1.Ab.Aa.Aj.length d2,.int .i64 R1.Ab.Ai,.int .i64 R1.Ab.quiet,.slice b3 R1.Ab.holds.length d3,.slice b4 R1.Af.length d4,.slice b5 R1.Ad.length d5,.slice b6 R1.down.length d6,.slice b7 R1.up.length d7],_,z.a,z.c,z.Fe⟩:V0) trivial rfl
theorem Zv (n:D9) (v:Value) (F FT:List Nat):Fn prog 21 [v] [.isv Le v n F,Lw FT] [] (fun (_:V0)=>True) (fun z=>.tuple #[.agg z.cs.toArray,.slice z.a (C3 n).2.1.length z.c,.bool (C3 n).2.2]) (fun z=>[.isv Le (.agg z.cs.toArray) (C3 n).1 z.F,.ow Ba 9 (.slice z.a (C3 n).2.1.length z.c) (C3 n).2.1 z.Fe]):=by
 refine enter func21 rfl ntmps21 fun w0=>?_
 refine Di ?_
 rintro a1 c1 F1 a2 c2 F2 a3 c3 F3 a4 c4 F4 a5 c5 F5 a6 c6 F6 a7 c7 F7 rfl l1 l2 l3 l4 l5 l6 l7
 refine go ?_;intros
 refine cf (Wg n _ F) fun _ _=>?_
 refine Ap ?_
 cases g1:Ax n
 ·rw [show C3 n=(Lh,[],false) by unfold C3;rw [g1];rfl]
  refine Bw Bd (by decide) ?_
  refine Bw Ba (by decide) ?_
  refine Bw Bj (by decide) ?_
  refine Bw Bn (by decide) ?_
  refine Bw B4 (by decide) ?_
  refine Bw (Md Ak (by decide)) (by decide) ?_
  refine Bw (Md Ak (by decide)) (by decide) ?_
  refine Is Lh (a1:=none) (c1:=0) (a2:=none) (c2:=0) (a3:=none) (c3:=0) (a4:=none) (c4:=0) (a5:=none) (c5:=0) (a6:=none) (c6:=0) (a7:=none) (c7:=0) ?_
  refine go ?_;intros
  refine C9 Ba ?_
  refine go ?_;intros
  refine ret (⟨[.slice none 0 0,.int .i64 0,.int .i64 0,.slice none 0 0,.int .i64 0,.int .i64 0,.slice none 0 0,.slice none 0 0,.slice none 0 0,.slice none 0 0,.slice none 0 0],_,_,_,_⟩:V0) trivial rfl
 rw [show C3 n=((Nh n).1,(Nh n).2,true) by unfold C3;rw [g1];rfl]
 refine go ?_;intros
 refine cf (Afv n _ F FT g1) fun z _=>?_
 refine Ap ?_
 refine Di (x:=(Nh n).1) ?_
 rintro f1 t1 G1 f2 t2 G2 f3 t3 G3 f4 t4 G4 f5 t5 G5 f6 t6 G6 f7 t7 G7 ez - - - - - - -
 rw [ez]
 refine go ?_;intros
 refine ret (⟨_,z.F,z.a,z.c,z.Fe⟩:V0) trivial rfl
structure RnS where
 i:Nat
 x:NE
 z:NV
 a:Option Addr
 c:Nat
 F:List Nat
structure RqS where
 i:Nat
 x:NE
 cs:List Value
 F:List Nat
 a:Option Addr
 c:Nat
 Fe:List Nat
theorem Aok (b:Bool):decide (¬b=b)=false:=by simp
theorem eqB (b:Bool):decide (b=b)=true:=by simp
theorem Asb (b:Int):decide (¬b=b)=false:=by simp
theorem Anf:∀q∈Lh.down++Lh.up,q.length≤6:=fun q hq=>by cases hq
structure RsS where
 i:Nat
 y:NE
 cs:List Value
 F:List Nat
 a:Option Addr
 c:Nat
 Fe:List Nat
structure RsC (l:List Li) (q:NE × Nat) (z:RsS):Prop where
 i:z.i≤q.2
 g:Ax z.y.1=true
 e:z.y.2.length≤400000 * z.i
 r:Asi z.y (l.drop z.i) z.i=q
structure As9 (B:Nat) (z:TrD):Prop where
 a:2≤z.l.length
 b:z.l.length≤9
 s:Ia (B+110+10 * z.l.length) z.s
theorem Ahv (B g:Nat) (F:T3) (s:Ps) (ok:Ia B s) (hB:B≤600000000000) :
  Fn prog 62 [Ez g 0 0] [.sl Gf (.slice F.a F.Br.length F.c) F.Br F.bs] [.row g 67 0 [] [.slice F.a F.Br.length F.c,.int .i64 (s.k:Nat),.int .u64 s.D7] []] (fun (z:TrD)=>z.l.length≤9∧Ia (B+300) z.s) (fun z=>.agg #[.slice z.a z.l.length z.c])
   (fun z=>[.ow Bd 3 (.slice z.a z.l.length z.c) z.l z.F,.row g 67 0 [] [.slice F.a F.Br.length F.c,.int .i64 (z.s.k:Nat),.int .u64 z.s.D7] []]):=by
 refine enter func62 rfl ntmps62 fun w0=>?_
 refine go ?_;intros
 refine cf (Agh B g F s ok (by omega)) fun t ht=>?_
 refine Ap ?_
 obtain ⟨ht1,ht2⟩:=ht
 have n0:=ht1.n0
 have n1:=ht1.n1
 refine go ?_;intros
 refine cf (Ey _ g F 24 t.s ht2 (by omega) (by omega)) fun y hy=>?_
 refine Ap ?_
 obtain ⟨r6,s6⟩:=y
 obtain ⟨hr6,h6⟩:=hy
 dsimp only at hr6 h6 ⊢
 have hr6:r6≤23:=by omega
 refine Ahh (E:=Bd) (xs:=t.l) (n:=t.l.length) fun tc1 tc2=>?_
 refine go ?_;intros
 refine Bg rfl (fun e0=>?_) (fun e0=>?_)
 ·refine Jm ?_;intros
  refine As [1] [6] ?_
  refine dt 0 ?_
  refine dt 1 ?_
  refine dt 2 ?_
  refine dO 3 (by kernel_rfl) (by rw [List.getElem?_toArray];rfl) ?_
  apply At;rfl;kernel_rfl;exact Bf
  refine cf (Ey _ g F 2 s6 h6 (by omega) (by omega)) fun y hy=>?_
  refine Ap ?_
  obtain ⟨k4,s4⟩:=y
  obtain ⟨r4,h4⟩:=hy
  dsimp only at r4 h4 ⊢
  have r4:k4≤1:=by omega
  refine dk ?_
  refine dt 4 ?_ (hy:=Mc (i:=k4) rfl rfl rfl (by omega) (by omega))
  refine Z3 (xs:=t.l) k4 fun F5=>?_
  obtain ⟨L,hL,hLl⟩:∃L,L=t.l.take k4∧L.length=k4:=⟨_,rfl,by rw [List.length_take];omega⟩
  rw [←hL,←hLl]
  refine dt 5 ?_
  refine dO 6 (by kernel_rfl) (by rw [List.getElem?_toArray];rfl) ?_
  apply Cs;rfl;rfl;rfl;(first|exact AggC.s|exact OneC.s);rfl;exact Cu;exact Ct;rfl
  refine Ng ?_
  refine dd ?_
  refine go ?_;intros
  refine ret ⟨L,t.a,t.c,_,0,s4⟩ ⟨by show L.length≤9;omega,h4.mono (by omega)⟩ rfl
 refine go ?_;intros
 refine Bg rfl (fun e1=>?_) (fun e1=>?_)
 ·refine N6 (m:=1) Du (xs:=t.l) 0 ?_ (by repeat (first|exact .here|apply C0.there)) rfl (by omega)
  rintro _ gq A cq Bq e2 - k3 hH
  rw [e2]
  obtain ⟨rfl, -⟩:=k3 w0
  refine go ?_;intros
  refine Nd (E:=Bd) (xs:=t.l) 0 hH (fun w=>⟨rfl,rfl⟩) ?_
  rw [show t.l.length=(t.l.set 0 0).length by rw [List.length_set]]
  refine go ?_;intros
  refine ret ⟨t.l.set 0 0,_,t.c,_,0,s6⟩ ⟨by show (t.l.set 0 0).length≤9;rw [List.length_set];omega,h6.mono (by omega)⟩ rfl
 refine go ?_;intros
 refine Bg rfl (fun e2=>?_) (fun e2=>?_)
 ·refine go ?_;intros
  refine cf (Ey _ g F (t.l.length - 1) s6 h6 (by omega) (by omega)) fun y hy=>?_
  refine Ap ?_
  obtain ⟨k8,s8⟩:=y
  obtain ⟨r8,h8⟩:=hy
  dsimp only at r8 h8 ⊢
  have r8:k8≤7:=by omega
  refine go ?_;intros
  rw [show (1:Int)+(k8:Nat)=((1+k8:Nat):Int) by omega]
  refine N6 (m:=1) Du (xs:=t.l) (1+k8) ?_ (by repeat (first|exact .here|apply C0.there)) rfl (by omega)
  rintro _ gq A cq Bq e2 - k3 hH
  rw [e2]
  obtain ⟨rfl, -⟩:=k3 w0
  refine Jm ?_;intros
  refine As [2] [] ?_
  refine dt 0 ?_
  refine dt 1 ?_
  refine dt 2 ?_
  refine dt 3 ?_
  refine dt 4 ?_
  refine dt 5 ?_
  refine dt 6 ?_
  refine dO 7 (by kernel_rfl) (by rw [List.getElem?_toArray];rfl) ?_
  apply Ho;rfl;rfl;rfl;rfl;exact Hl;exact Hg;intro _
  refine Ei (xs:=[((1+k8:Nat):Int), -1,((1+k8:Nat):Int) - 1,9]) (fun w=>Jv w _) ?_ (by simp)
  refine A1 (E:=Bd) fun G=>?_
  refine dk ?_
  refine dO 8 (by kernel_rfl) (by rw [List.getElem?_toArray];rfl) ?_
  apply At;rfl;kernel_rfl;exact Bf
  refine cf (Mz _ g F _ [((1+k8:Nat):Int), -1,((1+k8:Nat):Int) - 1,9] G s8 h8 (by omega) (by simp) (by simp)) fun q hq=>?_
  refine Ap ?_
  refine dk ?_
  refine dt 9 ?_
  refine dO 10 (by kernel_rfl) (by rw [List.getElem?_toArray];rfl) ?_
  apply Cs;rfl;rfl;rfl;(first|exact AggC.s|exact OneC.s);rfl;exact Cu;exact Ct;rfl
  refine dk ?_
  refine dd ?_
  refine Nd (E:=Bd) (xs:=t.l) q.1 hH (fun w=>⟨rfl,rfl⟩) ?_
  rw [show t.l.length=(t.l.set (1+k8) q.1).length by rw [List.length_set]]
  refine go ?_;intros
  refine ret ⟨t.l.set (1+k8) q.1,_,t.c,_,0,q.2⟩ ⟨by show (t.l.set (1+k8) q.1).length≤9;rw [List.length_set];omega,hq.2.mono (by omega)⟩ rfl
 refine go ?_;intros
 refine Bg rfl (fun e3=>?_) (fun e3=>?_)
 ·refine go ?_;intros
  rename_i g3 g2
  refine Cp [0,2,3] (fun _:TrD=>[]) (fun z=>[.row g3 26 0 [] [.slice z.a z.l.length z.c] [],.ow Bd 3 (.slice z.a z.l.length z.c) z.l z.F,.row g 67 0 [] [.slice F.a F.Br.length F.c,.int .i64 (z.s.k:Nat),.int .u64 z.s.D7] []]) (As9 B) (fun z=>9 - z.l.length) ⟨t.l,_,_,_,0,s6⟩ ⟨n0,by show t.l.length≤9;omega,h6.mono (by show _≤B+110+10 * t.l.length;omega)⟩ fun z hz=>?_
  obtain ⟨z1,z2,z3⟩:=hz
  refine Jm ?_;intros
  refine As [0,1] [] ?_
  refine dt 0 ?_
  refine dt 1 ?_
  refine dt 2 ?_
  refine dt 3 ?_
  refine dO 4 (by kernel_rfl) (by rw [List.getElem?_toArray];rfl) ?_
  apply At;rfl;kernel_rfl;exact Bf
  refine cf (Ey _ g F 2 z.s z3 (by omega) (by omega)) fun y hy=>?_
  refine Ap ?_
  obtain ⟨k5,s5⟩:=y
  obtain ⟨r5,h5⟩:=hy
  dsimp only at r5 h5 ⊢
  have r5:k5≤1:=by omega
  refine dk ?_
  refine dt 5 ?_
  refine dt 6 ?_
  refine dd ?_
  refine go ?_;intros
  refine Bg rfl (fun h7=>?_) (fun h7=>?_)
  ·refine go ?_;intros
   apply wO
   refine Mf (Mi _) C8 fun a9 c9 F9=>?_
   refine go ?_;intros
   refine Ck ⟨z.l++[1],a9,c9,F9,0,s5⟩ ⟨by show 2≤(z.l++[_]).length;simp;omega,by show (z.l++[_]).length≤9;simp;omega,h5.mono (by show _≤B+110+10 * (z.l++[_]).length;simp;omega)⟩ (by show 9 - (z.l++[_]).length < 9 - z.l.length;simp;omega)
  ·refine go ?_;intros
   refine ret ⟨z.l,z.a,z.c,_,0,s5⟩ ⟨by omega,h5.mono (by omega)⟩ rfl
 ·refine go ?_;intros
  refine ret ⟨t.l,t.a,t.c,_,0,s6⟩ ⟨by show t.l.length≤9;omega,h6.mono (by omega)⟩ rfl
structure NwD where
 l:List Int
 a:Option Addr
 c:Nat
 F:List Nat
 f:Int
 y:Int
theorem Afc (v:Value) (Br:List Int) (G:List Nat):Fn prog 28 [v] [.sl Gf v Br G] [] (fun (z:NwD)=>z.l.length≤9) (fun z=>.tuple #[.agg #[.slice z.a z.l.length z.c],.int .i64 z.f,.int .i64 z.y]) (fun z=>[.isv Pd (.agg #[.slice z.a z.l.length z.c]) ⟨z.l⟩ z.F]):=by
 refine enter func28 rfl ntmps28 fun w0=>?_
 refine Tp (E:=Gf) ?_
 rintro a c rfl l1 l2
 refine go ?_;intros
 rename_i gc
 refine cf (Ahv 0 _ ⟨Br,a,c,G⟩ ⟨0,0⟩ ⟨Nat.le_refl _,by decide,by decide⟩ (by omega)) fun z hz=>?_
 refine Ap ?_
 obtain ⟨hz1,hz2⟩:=hz
 refine A1 (E:=Bd) (xs:=z.l) fun Ft=>?_
 refine Ju ⟨z.l⟩ ?_
 refine go ?_;intros
 refine cf (Py _ gc ⟨Br,a,c,G⟩ z.s hz2 (by omega)) fun m hm=>?_
 refine Ap ?_
 refine Jm ?_;intros
 refine Ei (xs:=[1,3,6,7,0]) (fun w=>Jv w _) ?_ (by decide)
 refine A1 (E:=Bd) (xs:=[1,3,6,7,0]) fun Gx=>?_
 refine go ?_;intros
 refine cf (Mz _ gc ⟨Br,a,c,G⟩ _ [1,3,6,7,0] Gx m.2 hm (by omega) (by decide) (by decide)) fun q hq=>?_
 refine Ap ?_
 refine go ?_;intros
 refine ret ⟨z.l,_,_,_,m.1,q.1⟩ hz1 rfl
theorem Aow (n:D9):(∀q∈(C3 n).1.down++(C3 n).1.up,q.length≤6)∧((C3 n).2.2=true→Ax (C3 n).1=true∧Rk (C3 n).1=0):=by
 unfold C3
 split
 ·rename_i h
  obtain ⟨a,c⟩:=Akt h
  exact ⟨V7 a,fun _=>⟨a,c⟩⟩
 ·exact ⟨Anf,fun h=>by cases h⟩
theorem Aeq {n:D9} (hg:Ax n=true) (h:Rk n=0):I7 n=(0,0,true):=by
 unfold Rk at h
 unfold I7
 rw [if_pos hg,show qd n.down=0 by omega,show qd n.up=0 by omega];rfl
theorem Aqp (t:Nl) (f y:Int):(∀q∈(C7 t f y).1.down++(C7 t f y).1.up,q.length≤6)∧((C7 t f y).2=true→Ax (C7 t f y).1=true):=by
 refine ⟨?_,Abg⟩
 cases h:(C7 t f y).2
 ·have:(C7 t f y).1=Lh:=by
   unfold C7 at h ⊢
   split
   ·rename_i h2;rw [if_pos h2] at h;cases h
   ·rfl
  rw [this];exact Anf
 ·exact V7 (Abg h)
theorem Afk (v:Value) (Br:List Int) (G FT:List Nat):Fn prog 4 [v] [.sl Gf v Br G,Lw FT] [] (fun (_:Unit)=>True) (fun _=>.bool true) (fun _=>[]):=by
 refine enter func4 rfl ntmps4 fun w0=>?_
 refine go ?_;intros
 refine cb (fun w st=>(Ara v Br G).val w (Il (st.get (p:=.sl Gf v Br G) (by simp)))) ?_
 refine go ?_;intros
 refine Bg rfl (fun h=>?_) (fun h=>?_)
 ·refine go ?_;intros
  refine ret () trivial rfl
 refine go ?_;intros
 refine cf (Aby v Br G FT) fun z hz=>?_
 refine Ap ?_
 obtain ⟨x,cs,Fx,zs⟩:=z
 dsimp only at hz ⊢
 refine Di (x:=x) ?_
 rintro b1 d1 G1 b2 d2 G2 b3 d3 G3 b4 d4 G4 b5 d5 G5 b6 d6 G6 b7 d7 G7 ev - - - - - - -
 obtain rfl:cs=[.slice b1 x.Am.Ac.length d1,.int .i64 x.Ab.Aa.Al,.int .i64 x.Ab.Aa.size,.slice b2 x.Ab.Aa.Aj.length d2,.int .i64 x.Ab.Ai,.int .i64 x.Ab.quiet,.slice b3 x.Ab.holds.length d3,.slice b4 x.Af.length d4,.slice b5 x.Ad.length d5,.slice b6 x.down.length d6,.slice b7 x.up.length d7]:=by simpa using ev
 clear ev
 refine go ?_;intros
 have hP:=Yk x (.agg #[.slice b1 x.Am.Ac.length d1,.int .i64 x.Ab.Aa.Al,.int .i64 x.Ab.Aa.size,.slice b2 x.Ab.Aa.Aj.length d2,.int .i64 x.Ab.Ai,.int .i64 x.Ab.quiet,.slice b3 x.Ab.holds.length d3,.slice b4 x.Af.length d4,.slice b5 x.Ad.length d5,.slice b6 x.down.length d6,.slice b7 x.up.length d7]) Fx FT
 have hQ:=Zv x (.agg #[.slice b1 x.Am.Ac.length d1,.int .i64 x.Ab.Aa.Al,.int .i64 x.Ab.Aa.size,.slice b2 x.Ab.Aa.Aj.length d2,.int .i64 x.Ab.Ai,.int .i64 x.Ab.quiet,.slice b3 x.Ab.holds.length d3,.slice b4 x.Af.length d4,.slice b5 x.Ad.length d5,.slice b6 x.down.length d6,.slice b7 x.up.length d7]) Fx FT
 obtain ⟨M,es,b,e⟩:∃M es b,C3 x=(M,es,b):=⟨_,_,_,rfl⟩
 have hq:=Aow x
 rw [e] at hP hQ hq
 dsimp only at hP hQ hq
 refine cf hP fun p9 _=>?_
 refine Ap ?_
 obtain ⟨pcs,pF,pa,pc,pG⟩:=p9
 dsimp only
 refine N0 S0 fun F5=>?_
 refine A1 (E:=Ba) (xs:=es) fun F6=>?_
 refine Di (x:=M) ?_
 rintro e1 f1 K1 e2 f2 K2 e3 f3 K3 e4 f4 K4 e5 f5 K5 e6 f6 K6 e7 f7 K7 ev - - - - - - -
 obtain rfl:pcs=[.slice e1 M.Am.Ac.length f1,.int .i64 M.Ab.Aa.Al,.int .i64 M.Ab.Aa.size,.slice e2 M.Ab.Aa.Aj.length f2,.int .i64 M.Ab.Ai,.int .i64 M.Ab.quiet,.slice e3 M.Ab.holds.length f3,.slice e4 M.Af.length f4,.slice e5 M.Ad.length f5,.slice e6 M.down.length f6,.slice e7 M.up.length f7]:=by simpa using ev
 clear ev
 refine go ?_;intros
 refine cf hQ fun q9 _=>?_
 refine Ap ?_
 obtain ⟨qcs,qF,qa,qc,qG⟩:=q9
 dsimp only
 refine A1 (E:=Ba) (xs:=es) fun F7=>?_
 refine Di (x:=M) ?_
 rintro u1 m1 R1 u2 m2 R2 u3 m3 R3 u4 m4 R4 u5 m5 R5 u6 m6 R6 u7 m7 R7 ev - - - - - - -
 obtain rfl:qcs=[.slice u1 M.Am.Ac.length m1,.int .i64 M.Ab.Aa.Al,.int .i64 M.Ab.Aa.size,.slice u2 M.Ab.Aa.Aj.length m2,.int .i64 M.Ab.Ai,.int .i64 M.Ab.quiet,.slice u3 M.Ab.holds.length m3,.slice u4 M.Af.length m4,.slice u5 M.Ad.length m5,.slice u6 M.down.length m6,.slice u7 M.up.length m7]:=by simpa using ev
 clear ev
 refine go ?_;intros
 rw [Aok]
 refine go ?_;intros
 refine cf (Agj _ _ M _ _ fun q9 h9=>Nat.le_trans (hq.1 q9 h9) (by decide)) fun _ _=>?_
 refine Ap ?_
 refine go ?_;intros
 refine cf (Ae4 _ _ es _ _) fun _ _=>?_
 refine Ap ?_
 refine go ?_;intros
 refine E6 [0] [] (fun _:Unit=>[]) (fun _=>[.sl Gf v Br G,Lw FT]) (fun _=>True) ?_ fun _ _=>?_
 ·cases b
  ·refine go ?_;intros
   refine Cd () trivial
  obtain ⟨hM1,hM2⟩:=hq.2 rfl
  have hQ2:=Aao M (.agg #[.slice e1 M.Am.Ac.length f1,.int .i64 M.Ab.Aa.Al,.int .i64 M.Ab.Aa.size,.slice e2 M.Ab.Aa.Aj.length f2,.int .i64 M.Ab.Ai,.int .i64 M.Ab.quiet,.slice e3 M.Ab.holds.length f3,.slice e4 M.Af.length f4,.slice e5 M.Ad.length f5,.slice e6 M.down.length f6,.slice e7 M.up.length f7]) F5
  rw [Aeq hM1 hM2] at hQ2
  have hD2:=Yk M (.agg #[.slice e1 M.Am.Ac.length f1,.int .i64 M.Ab.Aa.Al,.int .i64 M.Ab.Aa.size,.slice e2 M.Ab.Aa.Aj.length f2,.int .i64 M.Ab.Ai,.int .i64 M.Ab.quiet,.slice e3 M.Ab.holds.length f3,.slice e4 M.Af.length f4,.slice e5 M.Ad.length f5,.slice e6 M.down.length f6,.slice e7 M.up.length f7]) F5 FT
  rw [Adq hM1 hM2] at hD2
  dsimp only at hQ2 hD2
  refine go ?_;intros
  refine cf hQ2 fun _ _=>?_
  refine Ap ?_
  refine go ?_;intros
  refine cf hD2 fun p9 _=>?_
  refine Ap ?_
  obtain ⟨pcs,pF,pa,pc,pG⟩:=p9
  dsimp only
  refine N0 S0 fun F8=>?_
  refine A1 (E:=Ba) (xs:=[]) fun F9=>?_
  refine Di (x:=M) ?_
  rintro i1 j1 W1 i2 j2 W2 i3 j3 W3 i4 j4 W4 i5 j5 W5 i6 j6 W6 i7 j7 W7 ev - - - - - - -
  obtain rfl:pcs=[.slice i1 M.Am.Ac.length j1,.int .i64 M.Ab.Aa.Al,.int .i64 M.Ab.Aa.size,.slice i2 M.Ab.Aa.Aj.length j2,.int .i64 M.Ab.Ai,.int .i64 M.Ab.quiet,.slice i3 M.Ab.holds.length j3,.slice i4 M.Af.length j4,.slice i5 M.Ad.length j5,.slice i6 M.down.length j6,.slice i7 M.up.length j7]:=by simpa using ev
  clear ev
  refine go ?_;intros
  refine cf (Agj _ _ M _ _ fun q9 h9=>Nat.le_trans (hq.1 q9 h9) (by decide)) fun _ _=>?_
  refine Ap ?_
  refine go ?_;intros
  refine cf (Mw M _ F5) fun _ _=>?_
  refine Ap ?_
  rw [hM1]
  refine go ?_;intros
  refine Cd () trivial
 refine go ?_;intros
 refine cf (Aaa v Br G FT) fun z hz=>?_
 refine Ap ?_
 obtain ⟨x,cs,Fx,zs⟩:=z
 dsimp only at hz ⊢
 refine Di (x:=x) ?_
 rintro b1 d1 G1 b2 d2 G2 b3 d3 G3 b4 d4 G4 b5 d5 G5 b6 d6 G6 b7 d7 G7 ev - - - - - - -
 obtain rfl:cs=[.slice b1 x.Am.Ac.length d1,.int .i64 x.Ab.Aa.Al,.int .i64 x.Ab.Aa.size,.slice b2 x.Ab.Aa.Aj.length d2,.int .i64 x.Ab.Ai,.int .i64 x.Ab.quiet,.slice b3 x.Ab.holds.length d3,.slice b4 x.Af.length d4,.slice b5 x.Ad.length d5,.slice b6 x.down.length d6,.slice b7 x.up.length d7]:=by simpa using ev
 clear ev
 refine go ?_;intros
 refine cf (Aao x _ Fx) fun _ _=>?_
 refine Ap ?_
 refine go ?_;intros
 refine cf (Aal x _ Fx) fun _ _=>?_
 refine Ap ?_
 refine go ?_;intros
 rw [Asb]
 refine go ?_;intros
 rw [Asb]
 refine go ?_;intros
 rw [Aok]
 refine go ?_;intros
 refine cf (Yl v Br G FT) fun z hz=>?_
 refine Ap ?_
 obtain ⟨x,cs,Fx,zs⟩:=z
 dsimp only at hz ⊢
 refine Di (x:=x) ?_
 rintro b1 d1 G1 b2 d2 G2 b3 d3 G3 b4 d4 G4 b5 d5 G5 b6 d6 G6 b7 d7 G7 ev - - - - - - -
 obtain rfl:cs=[.slice b1 x.Am.Ac.length d1,.int .i64 x.Ab.Aa.Al,.int .i64 x.Ab.Aa.size,.slice b2 x.Ab.Aa.Aj.length d2,.int .i64 x.Ab.Ai,.int .i64 x.Ab.quiet,.slice b3 x.Ab.holds.length d3,.slice b4 x.Af.length d4,.slice b5 x.Ad.length d5,.slice b6 x.down.length d6,.slice b7 x.up.length d7]:=by simpa using ev
 clear ev
 refine go ?_;intros
 refine cf (Afe x _ Fx) fun _ _=>?_
 refine Ap ?_
 refine go ?_;intros
 refine cf (Zw x _ Fx) fun _ _=>?_
 refine Ap ?_
 refine go ?_;intros
 rw [Aok]
 refine go ?_;intros
 rw [Aok]
 refine go ?_;intros
 refine cf (Afc v Br G) fun z hz=>?_
 refine Ap ?_
 obtain ⟨l,la,lc,Fl,f,y⟩:=z
 dsimp only at hz ⊢
 refine go ?_;intros
 have hP:=Akd ⟨l⟩ f y (.agg #[.slice la l.length lc]) Fl
 have hQ:=Vq ⟨l⟩ f y (.agg #[.slice la l.length lc]) Fl
 have hq:=Aqp ⟨l⟩ f y
 obtain ⟨M,b,e⟩:∃M b,C7 ⟨l⟩ f y=(M,b):=⟨_,_,rfl⟩
 rw [e] at hP hQ hq
 dsimp only at hP hQ hq
 refine cf hP fun p9 _=>?_
 refine Ap ?_
 obtain ⟨pcs,pF⟩:=p9
 dsimp only
 refine N0 S0 fun F5=>?_
 refine Di (x:=M) ?_
 rintro e1 f1 K1 e2 f2 K2 e3 f3 K3 e4 f4 K4 e5 f5 K5 e6 f6 K6 e7 f7 K7 ev - - - - - - -
 obtain rfl:pcs=[.slice e1 M.Am.Ac.length f1,.int .i64 M.Ab.Aa.Al,.int .i64 M.Ab.Aa.size,.slice e2 M.Ab.Aa.Aj.length f2,.int .i64 M.Ab.Ai,.int .i64 M.Ab.quiet,.slice e3 M.Ab.holds.length f3,.slice e4 M.Af.length f4,.slice e5 M.Ad.length f5,.slice e6 M.down.length f6,.slice e7 M.up.length f7]:=by simpa using ev
 clear ev
 refine go ?_;intros
 refine cf hQ fun p9 _=>?_
 refine Ap ?_
 obtain ⟨qcs,qF⟩:=p9
 dsimp only
 refine N0 S0 fun F6=>?_
 refine Di (x:=M) ?_
 rintro u1 m1 R1 u2 m2 R2 u3 m3 R3 u4 m4 R4 u5 m5 R5 u6 m6 R6 u7 m7 R7 ev - - - - - - -
 obtain rfl:qcs=[.slice u1 M.Am.Ac.length m1,.int .i64 M.Ab.Aa.Al,.int .i64 M.Ab.Aa.size,.slice u2 M.Ab.Aa.Aj.length m2,.int .i64 M.Ab.Ai,.int .i64 M.Ab.quiet,.slice u3 M.Ab.holds.length m3,.slice u4 M.Af.length m4,.slice u5 M.Ad.length m5,.slice u6 M.down.length m6,.slice u7 M.up.length m7]:=by simpa using ev
 clear ev
 refine go ?_;intros
 rw [eqB]
 refine go ?_;intros
 refine cf (Agj _ _ M _ _ fun q9 h9=>Nat.le_trans (hq.1 q9 h9) (by decide)) fun _ _=>?_
 refine Ap ?_
 cases b
 ·refine go ?_;intros
  refine ret () trivial rfl
 ·refine go ?_;intros
  refine cf (Mw M _ F5) fun _ _=>?_
  refine Ap ?_
  rw [hq.2 rfl]
  refine go ?_;intros
  refine ret () trivial rfl
theorem Aqh {W:World} (hL:laidMetH prog Rows.fnDrainingRow.laid W) (_:W.ShapedOpen prog):(Lw [3]).P W:=by
 rw [MakeChecks.laidMetH_plain _ _ _ (by kernel_rfl)] at hL
 have h3:=hL.tail.tail
 have e:(Rows.laid_internal_strconv_uint64pow10:DataW Unit)=Lib.tabData .u64 Lib.pow10Tab:=by kernel_rfl
 rw [e] at h3
 have ht:Lib.TabIs prog W "internal/strconv.uint64pow10" .u64 Lib.pow10Tab:=Lib.tabIs_of_head (g:=3) (t:=296) (e:=65) (n:=20) (by kernel_rfl) (by kernel_rfl) underlying296 underlying65 (by kernel_rfl) (by kernel_rfl) h3
 have hc:=Lib.TabIs.cell ht (g:=3) (by kernel_rfl) 0 (by rw [Lib.pow10Tab_length];omega)
 refine ⟨[],rfl,rfl,ht,rfl,fun b hb=>?_⟩
 simp only [List.mem_cons,List.not_mem_nil,or_false] at hb
 subst hb
 exact World.block_lt_of_cell? W ⟨3,0,none⟩ hc
end Go.Proofs.YtaemjogbahcbcaaGreatDoor
namespace Go.Proofs.YtaemjogbahcbcaaGreatDoor
open Go.ChangeShapes Go.WideShapes Go.ChangeAt Go.RowKit
theorem Tx {H:Type} {enc:TypeId × Value→H} {P:Program} (hl:laidOutB P=true) {W W':World} (hb:Below W.heap.size W W') :
  ∀(ts:List TypeId) (vs:List Value) (ds:List (DataW H)) (ps:List MemPlace),(∀t∈ts,P.readableRec t=true∧t < P.types.size) →
   DataW.TrodAll enc P W 0 (fun _=>true) true ts vs ds ps→(∀x∈ps,x.block < W.heap.size)→DataW.TrodAll enc P W' 0 (fun b=>decide (b < W.heap.size)) true ts vs ds ps
 | [],vs,ds,ps,_,h,_=>by obtain ⟨rfl,rfl,rfl⟩:=trodAll_nil h;exact rfl
 | t::ts,vs,ds,ps,ht,h,hlt=>by
  obtain ⟨v,vs',d,ds',p,q,rfl,rfl,rfl,h1,h2⟩:=trodAll_cons h
  have ⟨a,b⟩:=ht t (by simp)
  exact ⟨p,q,Below.trod hl a b h1 hb fun x hx=>hlt x (by simp [hx]),Tx hl hb ts vs' ds' q (fun t h=>ht t (by simp [h])) h2 fun x hx=>hlt x (by simp [hx]),rfl⟩
theorem Alf {H:Type} {enc:TypeId × Value→H} {P:Program} {f:Func} {s:ChangeSpec} {tb:TypeId} (hl:laidOutB P=true) (hr:∀t∈f.params.toList,P.readableRec t=true∧t < P.types.size)
  (hb:P.underlying tb=some .bool) (hres:f.resultTypes = #[tb]) (hv:s.vars=[]) {W W':World} {args:Array Value} {ds gs:List (DataW H)} {before:List MemPlace}
  (hs:s.fn H ds={ results:=[.lit (.bool true)],args:=ds }) (hW:DataW.Whole enc P f.params.toList s.vars false W args.toList ds gs before) (hB:Below W.heap.size W W') :
  s.post enc P f false true false false W args (.bool true) W':=by
 have hlt:=hW.lt
 have hW0:=hW
 obtain ⟨p,q,hA,hV,rfl,_,_⟩:=hW0
 rw [hv] at hV
 obtain ⟨rfl,rfl⟩:=trodVars_none hV
 refine ⟨ds,[],p++[],[],p,[],hW,?_,?_,?_,hB.frame _,fun h=>by cases h⟩
 ·rw [List.append_nil,hs,hres]
  exact trodAll_mk1 (shut_bool hb true)
 ·rw [List.append_nil,hs]
  exact Tx hl hB _ _ _ _ hr hA fun x hx=>hlt x (by simpa using hx)
 ·rw [hv,List.append_nil,hs];exact rfl
def Adh (P:Program) {α:Type} (E:Bv α) (t:TypeId):Prop :=
 ∀{H:Type} {enc:TypeId × Value→H} {w:World} {fuel:Nat} {cs:List Value} {x:DataW H × List MemPlace},DataW.trod enc P w 0 (fun _=>true) true fuel t cs=some x→∃y F,E.Ka w cs y F
section
variable {P:Program}
theorem Xq {α:Type} {E:Bv α} {e:TypeId} (hsz:P.cellsOf e=E.sz) (he:Adh P E e) {H:Type} {enc:TypeId × Value→H} {w:World} {n b off:Nat} :
  ∀(els:List (DataW H × List MemPlace)) (k:Nat),(∀i,i < els.length→(w.cells? 0 ((⟨b,off,none⟩:Addr).add ((k+i) * P.cellsOf e)) (P.cellsOf e)).bind (DataW.trod enc P w 0 (fun _=>true) true n e)=els[i]?) →
   ∃ys F,ys.length=els.length∧L5 E w b (off+k * E.sz) ys F
 | [],_,_=>⟨[],[],rfl,rfl⟩
 | x::r,k,h=>by
  have h0:=h 0 (by simp)
  simp only [Nat.add_zero,List.getElem?_cons_zero,Option.bind_eq_some_iff] at h0
  obtain ⟨cs,hc,hx⟩:=h0
  obtain ⟨y,F1,hy⟩:=he hx
  obtain ⟨ys,F2,hl,hys⟩:=Xq hsz he r (k+1) fun i hi=>by
   have:=h (i+1) (by simpa using hi)
   rw [show k+1+i=k+(i+1) by omega]
   simpa using this
  refine ⟨y::ys,F1++F2,by simp [hl],cs,F1,F2,rfl,hy,fun j hj=>?_,by rwa [show off+k * E.sz+E.sz=off+(k+1) * E.sz by rw [Nat.add_mul];omega]⟩
  obtain ⟨_,hlen,hcell⟩:=World.cells?_some hc
  rw [←hcell j (by rw [hsz];exact hj)]
  congr 1
  simp only [Addr.add,hsz]
  split <;> split <;> simp_all <;> omega
theorem Aes {α:Type} {E:Bv α} {t e:TypeId} (ht:P.underlying t=some (.slice e)) (hsz:P.cellsOf e=E.sz) (hz:0 < E.sz) (he:Adh P E e):Adh P (Md E hz) t:=fun h=>by
 rcases DataW.trod_slice ht h with ⟨rfl,_⟩|⟨a,len,cap,elems,rest,n,rfl,rfl,_,_,hlc,hcm,hlen,hel,_,_⟩
 ·exact ⟨[],[],_,rfl,none,0,rfl,⟨by simp,by simp⟩,.inl ⟨rfl,rfl,fun _=>rfl⟩⟩
 ·by_cases h0:len=0
  ·subst h0
   exact ⟨[],[],_,rfl,some a,cap,rfl,⟨by simp,by omega⟩,.inl ⟨rfl,rfl,fun e=>by cases e⟩⟩
  ·have hs:a=⟨a.block,a.off,none⟩:=by
    have:=hel 0 (by omega)
    rw [List.getElem?_eq_getElem (by omega)] at this
    simp only [Option.bind_eq_some_iff] at this
    obtain ⟨cs,hc,_⟩:=this
    obtain ⟨_,hl2,hcell⟩:=World.cells?_some hc
    have h1:=hcell 0 (by omega)
    rw [List.getElem?_eq_getElem (by omega)] at h1
    simp [Addr.add,World.cell?] at h1
    split at h1 <;> simp_all
    cases a;simp_all
   obtain ⟨ys,F,hyl,hys⟩:=Xq hsz he elems 0 (n:=n) (b:=a.block) (off:=a.off) (enc:=_) (w:=_) (by
    rw [←hs];intro i hi;rw [Nat.zero_add];exact hel i (by omega))
   refine ⟨ys,a.block::F,_,rfl,some a,cap,by rw [hyl,hlen],⟨by omega,by omega⟩,.inr ⟨a.block,a.off,F,by rw [←hs],?_,rfl,by simpa using hys⟩⟩
   intro e;rw [e] at hyl;simp at hyl;omega
end
inductive Ym (P:Program):List Field→Nat→(α:Type)→Bv α→Prop
 | nil (off:Nat):Ym P [] off Unit Apm
 | cons {f:Field} {r:List Field} {off:Nat} {α β:Type} {A:Bv α} {B:Bv β} (ho:f.offset=off) (hc:P.cellsOf f.type=A.sz) (hA:Adh P A f.type) (h:Ym P r (off+A.sz) β B):Ym P (f::r) off (α × β) (Aj6 A B)
end Go.Proofs.YtaemjogbahcbcaaGreatDoor
