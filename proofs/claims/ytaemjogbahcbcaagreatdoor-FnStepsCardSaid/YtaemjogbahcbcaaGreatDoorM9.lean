/- Part 9 of the proof: 25 texts, one behind the other. -/
import Derived.Laws.StructEq
import Derived.Test.YtaemjogbahcbcaaGreatDoorM8
open _root_.Go.Proofs.Tryz
set_option maxRecDepth 100000
set_option maxHeartbeats 8000000
set_option linter.all false
set_option linter.unusedVariables false
set_option linter.unusedSimpArgs false
namespace Go.Proofs.YtaemjogbahcbcaaGreatDoor
open Go.RowKit
theorem Agv (r:A7) (p:Aw) (d:Int) (v:Value) (F:List Nat) (hg:Ju r) (hp:Bk p=true) (d0:1≤d) (d1:d≤8) :
  Fn prog 219 [v,.agg #[.int .i64 p.Cm,.int .i64 p.Ac,.int .i64 p.Ak,.int .i64 p.Dy,.string p.data],.int .i64 d] [.isv Bn v r F] [] (fun (_:NwS)=>True) (fun s=>.tuple #[.agg #[.bool ((Ij r p d)).Bf,.int .i64 ((Ij r p d)).Ai,.int .i64 ((Ij r p d)).Aa.next,.slice s.a1 ((Ij r p d)).Aa.An.length s.c1,.slice s.a2 ((Ij r p d)).Ap.length s.c2],.slice s.ae (Jw r p).length s.ce])
   (fun s=>[.isv Bn (.agg #[.bool ((Ij r p d)).Bf,.int .i64 ((Ij r p d)).Ai,.int .i64 ((Ij r p d)).Aa.next,.slice s.a1 ((Ij r p d)).Aa.An.length s.c1,.slice s.a2 ((Ij r p d)).Ap.length s.c2]) (Ij r p d) s.F1,.ow A6 9 (.slice s.ae (Jw r p).length s.ce) (Jw r p) s.Fe]):=by
 have k0:=hg.k0
 have k1:=hg.k1
 obtain ⟨-,q1,q2, -⟩:=Di.1 hg.q
 have hser:∀q∈r.Ap,Bx q.Ac=true:=fun q hq=>(Yh hg hq).1
 obtain ⟨hsg, -⟩:=O6 hg hp
 obtain ⟨htg, -,htl⟩:=Qx hg hp
 obtain ⟨hng,hnq, -,hnl⟩:=Sh hg hp d0 d1 (by omega)
 obtain ⟨s0_,s1_⟩:=Gc hsg
 obtain ⟨w0_,w1_⟩:=Gc htg
 obtain ⟨v0_,v1_⟩:=Gc hng
 obtain ⟨hw8,hit⟩:=I1 hsg
 obtain ⟨hu8,hiu⟩:=I1 htg
 obtain ⟨n0,n1⟩:=If hp
 have hrw:=(I1 hg.w).1
 have hp2:=hp
 unfold Bk at hp2
 simp only [Bool.and_eq_true] at hp2
 obtain ⟨t0_,t1_⟩:=A4.1 hp2.1.1.1.1.2
 obtain ⟨l0_,l1_⟩:=A4.1 hp2.1.1.1.2
 have hps:p.data.size≤8:=Rk hp2.1.1.2
 refine enter func219 rfl ntmps219 fun w0=>?_
 refine E4 (v:=v) (x:=r) (F:=F) ?_
 rintro a1 c1 F1 a2 c2 F2 rfl - -
 refine go ?_;intros
 refine cf (P3 r _ F (by omega) (by omega)) fun u _=>?_
 refine Ao ?_
 refine Hm ?_
 rintro a5 c5 F5 a6 c6 F6 e6 - -
 rw [e6]
 refine Ax (E:=Cc) fun G5=>?_
 refine Ax (E:=Ay) fun G6=>?_
 refine go ?_;intros
 rename_i g3 g4 g6 g8 g9
 refine C1 A6 ?_
 refine Ep [2,4,6,8,9] [0,2,4,5] (fun _:List Nat=>[]) (fun s=>[.row g8 84 0 [] [.bool true,.int .i64 r.Ai,.int .i64 (Dl r p).next,.slice a5 (Dl r p).An.length c5,.slice a6 r.Ap.length c6] [],.isv Bj (.agg #[.int .i64 (Dl r p).next,.slice a5 (Dl r p).An.length c5]) (Dl r p) s]) (fun _=>True) ?_ fun G7 _=>?_
 ·cases hs:r.Bf
  ·by_cases hk:p.Cm=5
   ·have e:Dl r p=⟨p.Dy,r.Aa.An⟩:=by unfold Dl;rw [hs,if_pos hk];rfl
    rw [e]
    refine go ?_;intros
    refine Bd rfl (fun _=>?_) (fun h=>absurd hk h)
    refine B8 (a1:=a5) ⟨p.Dy,r.Aa.An⟩ ?_
    refine go ?_;intros
    refine B6 G5 trivial
   ·have e:Dl r p=⟨p.Ac,r.Aa.An⟩:=by unfold Dl;rw [hs,if_neg hk];rfl
    rw [e]
    refine go ?_;intros
    refine Bd rfl (fun h=>absurd h hk) (fun _=>?_)
    refine B8 (a1:=a5) ⟨p.Ac,r.Aa.An⟩ ?_
    refine go ?_;intros
    refine B6 G5 trivial
  ·have e:Dl r p=r.Aa:=by unfold Dl;rw [hs];rfl
   rw [e]
   refine B8 (a1:=a5) r.Aa ?_
   refine go ?_;intros
   refine B6 G5 trivial
 repeat (first|apply Xf|apply Ag6|apply Xe)
 refine Ali [2,4,6,8] [3,4,5] (fun s:SkS=>[(9,.slice s.ae (In r p).length s.ce)]) (fun s=>[.row g8 84 0 [] [.bool true,.int .i64 r.Ai,.int .i64 (Eg r p).next,.slice s.a (Eg r p).An.length s.c,.slice a6 r.Ap.length c6] [],.isv Bj (.agg #[.int .i64 (Eg r p).next,.slice s.a (Eg r p).An.length s.c]) (Eg r p) s.F,.ow A6 9 (.slice s.ae (In r p).length s.ce) (In r p) s.Fe]) (fun _=>True) ?_ fun s _=>?_
 ·by_cases hk:p.Cm=5
  ·have e1:Eg r p=Dl r p:=by unfold Eg;rw [if_pos hk]
   have e2:In r p=[]:=by unfold In;rw [if_pos hk]
   rw [e1,e2]
   refine go ?_;intros
   rw [decide_eq_false (show ¬ ¬p.Cm=5 from fun h=>h hk)]
   refine go ?_;intros
   refine B6 (⟨a5,c5,G7,_,_,_⟩:SkS) trivial
  ·have e1:Eg r p=I6 (Dl r p) p.Ac p.data:=by unfold Eg;rw [if_neg hk]
   have e2:In r p=I5 (Dl r p) p.Ac p.data:=by unfold In;rw [if_neg hk]
   rw [e1,e2]
   refine go ?_;intros
   rw [decide_eq_true (show ¬p.Cm=5 from hk)]
   refine go ?_;intros
   refine cf (Ad3 (Dl r p) p.Ac _ G7 s0_ s1_ n0 n1 hw8) fun _ _=>?_
   refine Ao ?_
   cases hok:Kc (Dl r p) p.Ac
   ·have e:(El (Dl r p) p.Ac || !decide (gp (Dl r p).next p.Ac < 8))=true:=by unfold Kc at hok;simp only [Bool.or_eq_false_iff] at hok;rw [hok.1,hok.2];rfl
    have e3:I6 (Dl r p) p.Ac p.data=Dl r p:=by unfold I6;rw [if_pos e]
    have e4:I5 (Dl r p) p.Ac p.data=[]:=by unfold I5;rw [if_pos e]
    rw [e3,e4]
    refine go ?_;intros
    refine B6 (⟨a5,c5,G7,_,_,_⟩:SkS) trivial
   ·refine go ?_;intros
    refine cf (Agn (Dl r p) p.Ac p.data _ G7 s0_ s1_ n0 n1 hw8 hit hps hok) fun y hy=>?_
    refine Ao ?_
    obtain ⟨hy1,hy2⟩:=hy
    have hyl:y.es.length≤8:=by rw [hy2,←e2];exact htl
    refine Ax (E:=A6) (xs:=y.es) fun G8=>?_
    refine go ?_;intros
    apply wO
    refine Kx (ys:=y.es) Du Fc fun a9 c9 F9=>?_
    rw [List.nil_append]
    rw [←hy1,←hy2]
    refine go ?_;intros
    refine B6 (⟨y.a,y.c,y.F,_,_,_⟩:SkS) trivial
 obtain ⟨a3,c3,F3,ae,cE,Fe⟩:=s
 dsimp only
 refine go ?_;intros
 refine ce (fun w s=>M6 _ _ _ (by omega) (by omega)) ?_
 refine go ?_;intros
 refine Ep [2,4,6,8] [3,4,5] (fun s:SkS=>[(9,.slice s.ae (Jw r p).length s.ce)]) (fun s=>[.row g8 84 0 [] [.bool true,.int .i64 r.Ai,.int .i64 (Ce r p).next,.slice s.a (Ce r p).An.length s.c,.slice a6 r.Ap.length c6] [],.isv Bj (.agg #[.int .i64 (Ce r p).next,.slice s.a (Ce r p).An.length s.c]) (Ce r p) s.F,.ow A6 9 (.slice s.ae (Jw r p).length s.ce) (Jw r p) s.Fe]) (fun _=>True) ?_ fun s _=>?_
 ·cases hb:Pa (Eg r p).next p.Ak
  ·have e1:Ce r p=Eg r p:=by show Le _ _=_;unfold Le;rw [hb];rfl
   have e2:Jw r p=In r p:=by unfold Jw L6;rw [hb];simp
   rw [e1,e2]
   refine go ?_;intros
   refine B6 (⟨a3,c3,F3,_,_,_⟩:SkS) trivial
  refine go ?_;intros
  refine ce (fun w s=>Hl _ _ _ (by omega) (by omega)) ?_
  refine go ?_;intros
  refine Bd rfl (fun h4=>?_) (fun h4=>?_)
  ·have e1:Ce r p=Hg (Eg r p) p.Ak:=by show Le _ _=_;unfold Le;rw [hb,if_pos rfl,if_pos h4]
   have e2:Jw r p=In r p++Hv (Eg r p) p.Ak:=by unfold Jw L6;rw [hb,if_pos rfl,if_pos h4]
   have hl2:=hnl
   rw [e2,List.length_append] at hl2
   refine go ?_;intros
   refine cf (Pg (Eg r p) p.Ak _ F3 w0_ w1_ t0_ t1_ hu8 hiu) fun y hy=>?_
   refine Ao ?_
   obtain ⟨hy1,hy2⟩:=hy
   have hyl:y.es.length≤24:=by rw [hy2];show (Hv (Eg r p) p.Ak).length≤24;omega
   refine Ax (E:=A6) (xs:=y.es) fun G8=>?_
   refine go ?_;intros
   apply wO
   refine Kx (ys:=y.es) Du Fc fun a9 c9 F9=>?_
   rw [e1,e2,show Hg (Eg r p) p.Ak=y.y from hy1.symm,show Hv (Eg r p) p.Ak=y.es from hy2.symm]
   refine go ?_;intros
   refine B6 (⟨y.a,y.c,y.F,_,_,_⟩:SkS) trivial
  ·have e1:Ce r p=⟨p.Ak,[]⟩:=by show Le _ _=_;unfold Le;rw [hb,if_pos rfl,if_neg h4]
   have e2:Jw r p=In r p++[⟨#[33]⟩]:=by unfold Jw L6;rw [hb,if_pos rfl,if_neg h4]
   rw [e1,e2]
   refine go ?_;intros
   apply wO
   refine Lh (Pi ⟨#[33]⟩ (by decide)) Du fun a9 c9 F9=>?_
   refine Ba Cc (by decide) ?_
   refine B8 (a1:=none) ⟨p.Ak,[]⟩ ?_
   refine go ?_;intros
   refine B6 (⟨none,0,_,_,_,_⟩:SkS) trivial
 obtain ⟨a7,c7,F7,ae,cE,Fe⟩:=s
 dsimp only
 refine go ?_;intros
 refine cf (V3 r.Ap (Ce r p) a6 c6 G6 _ F7 (by omega) hser v0_ v1_) fun z _=>?_
 refine Ao ?_
 refine go ?_;intros
 refine ce (fun w s=>M6 _ _ _ (by omega) (by omega)) ?_
 have hNq8:=(Di.1 hnq).2.1
 cases hb:Pa (Ce r p).next p.Dy
 ·have e1:Ij r p d=⟨true,r.Ai,Ce r p,Do r.Ap (Ce r p)⟩:=by unfold Ij Mi;rw [hb];rfl
  rw [e1]
  refine go ?_;intros
  refine Ax (E:=Ay) (xs:=Do r.Ap (Ce r p)) fun F8=>?_
  refine Ck (x:=Ce r p) ?_
  rintro b1 dd1 G1 e5 m1
  simp only [Value.agg.injEq,Array.mk.injEq,List.cons.injEq,Value.slice.injEq,true_and,and_true] at e5
  obtain ⟨rfl,rfl⟩:=e5
  refine Eh ⟨true,r.Ai,Ce r p,Do r.Ap (Ce r p)⟩ ?_
  refine ret ⟨_,_,_,_,_,[],_,_,_⟩ trivial rfl
 obtain ⟨k,hk⟩:∃k,k=Tb (Ce r p) p.Dy:=⟨_,rfl⟩
 have hk8:k≤8:=by rw [hk];exact Og _ _
 have hgb:=Iu (Ce r p).next p.Dy
 have hkm:((k:Nat):Int)=min (gp (Ce r p).next p.Dy) 8:=by rw [hk];unfold Tb;omega
 obtain ⟨N,hN⟩:∃N,N=Ld (Ce r p) k:=⟨_,rfl⟩
 have hNl:N.length≤8:=by have:=Vc (Ce r p) k;rw [hN];omega
 have e1:Ij r p d=⟨true,r.Ai,Ce r p,Ik (Ce r p).next (r.Ai+d) (Do r.Ap (Ce r p)) N⟩:=by unfold Ij Mi;rw [hb,if_pos rfl,hN,hk]
 rw [e1]
 have Sd:=Ha (Ce r p).next (min (gp (Ce r p).next p.Dy) 8)
 have hgp:gp (Ce r p).next (Ca (Ce r p).next (min (gp (Ce r p).next p.Dy) 8))=(k:Nat):=by rw [←hkm];unfold gp Ca;omega
 refine go ?_;intros
 refine ce (fun w s=>Hl _ _ _ (by omega) (by omega)) ?_
 refine go ?_;intros
 refine cf (Ajb _ _) fun _ _=>?_
 refine Ao ?_
 refine go ?_;intros
 refine ce (fun w s=>Ex _ _ _ (by omega) (by omega)) ?_
 refine go ?_;intros
 refine cf (Aav (Ce r p) _ k _ F7 v0_ v1_ (by omega) (by omega) hgp) fun m _=>?_
 refine Ao ?_
 rw [←hN]
 refine Ax (E:=Be) (xs:=N) fun GN=>?_
 refine Ax (E:=Ay) (xs:=Do r.Ap (Ce r p)) fun F8=>?_
 refine go ?_;intros
 refine Cq [2,6,8,9,14,16] (fun s:AwS=>[(17,.int .i64 (s.i:Nat))]) (fun s=>[.row g8 84 0 [] [.bool true,.int .i64 r.Ai,.int .i64 (Ce r p).next,.slice a7 (Ce r p).An.length c7,.slice s.a (Ik (Ce r p).next (r.Ai+d) (Do r.Ap (Ce r p)) (N.take s.i)).length s.c] [],.sl Ay (.slice s.a (Ik (Ce r p).next (r.Ai+d) (Do r.Ap (Ce r p)) (N.take s.i)).length s.c) (Ik (Ce r p).next (r.Ai+d) (Do r.Ap (Ce r p)) (N.take s.i)) s.F]) (fun s=>s.i≤N.length) (fun s=>N.length - s.i) ⟨0,z.1,z.2.1,F8⟩ (Nat.zero_le _) fun s hs=>?_
 obtain ⟨i,a3,c3,F3⟩:=s
 dsimp only at hs ⊢
 have hall:=Nl (w:=Ce r p) (u:=r.Ai+d) (by omega) (by omega) (N.take i) (Do r.Ap (Ce r p)) (fun n hn=>by
  have:=Ns (w:=Ce r p) (n:=n) hk8 (by rw [←hN];exact List.mem_of_mem_take hn)
  exact ⟨this.1,this.2.2⟩) hnq L4
 have hLs:∀h:i < N.length,Ik (Ce r p).next (r.Ai+d) (Do r.Ap (Ce r p)) (N.take (i+1))=Pr (Ce r p).next (Ik (Ce r p).next (r.Ai+d) (Do r.Ap (Ce r p)) (N.take i)) N[i] (r.Ai+d):=fun h=>Vw h
 generalize hLd:Ik (Ce r p).next (r.Ai+d) (Do r.Ap (Ce r p)) (N.take i)=L at *
 have hLq:=hall.1
 have hL8:=(Di.1 hLq).2.1
 refine go ?_;intros
 refine Bd rfl (fun h4=>?_) (fun h4=>?_)
 ·have hi:i < N.length:=by omega
  have hni:=Ns (w:=Ce r p) (n:=N[i]) hk8 (by rw [←hN];exact List.getElem_mem hi)
  refine Il (xs:=N) i ?_
  rintro hi2 b o2 e
  rw [e]
  refine go ?_;intros
  refine Av [0,1] [12] ?_
  refine dt 0 ?_
  refine dt 1 ?_
  refine dt 2 ?_
  refine dt 3 ?_
  refine dt 4 ?_
  refine dt 5 ?_
  refine dt 6 ?_
  refine dt 7 ?_
  refine dt 8 ?_
  refine dt 9 ?_
  refine dO 10 (by kernel_rfl) (by rw [List.getElem?_toArray];rfl) ?_
  apply At;rfl;kernel_rfl;exact Bb
  refine cf (Ai6 L (Ce r p).next N[i] r.Ai d a3 c3 F3 hLq hni.1 k0 k1 d0 d1) fun u _=>?_
  refine Ao ?_
  rw [←hLs hi]
  refine dk ?_
  refine dt 11 ?_
  refine dO 12 (by kernel_rfl) (by rw [List.getElem?_toArray];rfl) ?_
  apply Cf;rfl;rfl;rfl;(first|exact AggC.s|exact OneC.s);rfl;exact Ci;exact Cg;rfl
  refine Lv ?_
  refine dd ?_
  refine Ax (E:=Ay) fun F9=>?_
  refine go ?_;intros
  refine Co (⟨i+1,_,_,_⟩:AwS) (by show i+1≤N.length;omega) (by show N.length - (i+1) < N.length - i;omega)
 have hi:i=N.length:=by omega
 subst hi
 rw [List.take_length] at hLd
 rw [hLd]
 refine go ?_;intros
 refine Ck (x:=Ce r p) ?_
 rintro b1 dd1 G1 e5 m1
 simp only [Value.agg.injEq,Array.mk.injEq,List.cons.injEq,Value.slice.injEq,true_and,and_true] at e5
 obtain ⟨rfl,rfl⟩:=e5
 refine Eh ⟨true,r.Ai,Ce r p,L⟩ ?_
 refine ret ⟨_,_,_,_,_,[],_,_,_⟩ trivial rfl
theorem U5 (r:A7) (p:Aw) (d:Int) (v:Value) (F:List Nat) (hg:Ju r) (hp:Bk p=true) (d0:1≤d) (d1:d≤8) :
  Fn prog 162 [v,.agg #[.int .i64 p.Cm,.int .i64 p.Ac,.int .i64 p.Ak,.int .i64 p.Dy,.string p.data],.int .i64 d] [.isv Bn v r F] [] (fun (_:NwS)=>True) (fun s=>.tuple #[.agg #[.bool ((C6 r p d)).Bf,.int .i64 ((C6 r p d)).Ai,.int .i64 ((C6 r p d)).Aa.next,.slice s.a1 ((C6 r p d)).Aa.An.length s.c1,.slice s.a2 ((C6 r p d)).Ap.length s.c2],.slice s.ae (Gm r p).length s.ce])
   (fun s=>[.isv Bn (.agg #[.bool ((C6 r p d)).Bf,.int .i64 ((C6 r p d)).Ai,.int .i64 ((C6 r p d)).Aa.next,.slice s.a1 ((C6 r p d)).Aa.An.length s.c1,.slice s.a2 ((C6 r p d)).Ap.length s.c2]) (C6 r p d) s.F1,.ow A6 9 (.slice s.ae (Gm r p).length s.ce) (Gm r p) s.Fe]):=by
 have k0:=hg.k0
 have k1:=hg.k1
 have hrw:=(I1 hg.w).1
 obtain ⟨-,q1,q2, -⟩:=Di.1 hg.q
 obtain ⟨n0,n1⟩:=If hp
 have hkd:1≤p.Cm∧p.Cm≤5:=by unfold Bk Gs at hp;simp only [Bool.and_eq_true,decide_eq_true_eq] at hp;exact hp.1.1.1.1.1.1
 refine enter func162 rfl ntmps162 fun w0=>?_
 refine E4 (v:=v) (x:=r) (F:=F) ?_
 rintro a1 c1 F1 a2 c2 F2 rfl - -
 refine go ?_;intros
 by_cases hk4:p.Cm=4
 ·have hn:Ka p=false:=by unfold Ka;simp [hk4]
  have eE:Gm r p=[]:=by unfold Gm;rw [hn];rfl
  rw [decide_eq_true hk4]
  cases hs:r.Bf
  ·have eR:C6 r p d=r:=by unfold C6;rw [hn,hs];simp
   refine go ?_;intros
   rw [decide_eq_true hk4]
   refine go ?_;intros
   refine cf (P3 r _ F (by omega) (by omega)) fun u _=>?_
   refine Ao ?_
   refine Hm ?_
   rintro a5 c5 F5 a6 c6 F6 e6 - -
   rw [e6]
   refine Ax (E:=Cc) fun G5=>?_
   refine Ax (E:=Ay) fun G6=>?_
   refine go ?_;intros
   refine C1 A6 ?_
   refine Eh (a1:=a5) r ?_
   rw [eR,eE]
   rw [hs]
   refine ret ⟨_,_,_,_,_,[],_,_,_⟩ trivial rfl
  ·have eR:C6 r p d=Ab3 r p:=by unfold C6;rw [hn,hs,decide_eq_true hk4];rfl
   refine go ?_;intros
   refine cf (P3 r _ F (by omega) (by omega)) fun u _=>?_
   refine Ao ?_
   refine Hm ?_
   rintro a5 c5 F5 a6 c6 F6 e6 - -
   rw [e6]
   refine Ax (E:=Cc) fun G5=>?_
   refine go ?_;intros
   refine cf (Aax r.Ap r.Aa.next p.Ac r.Ai a2 c2 F2 hg.q (A4.2 ⟨n0,n1⟩) k0 k1) fun y _=>?_
   refine Ao ?_
   refine Ax (E:=Ay) (xs:=Nm r.Aa.next r.Ap p.Ac (r.Ai+4)) fun G6=>?_
   refine go ?_;intros
   refine C1 A6 ?_
   refine Eh (a1:=a5) (Ab3 r p) ?_
   rw [eR,eE]
   refine ret ⟨_,_,_,_,_,[],_,_,_⟩ trivial rfl
 rw [decide_eq_false hk4]
 refine go ?_;intros
 rw [decide_eq_false hk4]
 refine go ?_;intros
 by_cases hk3:p.Cm=3
 ·have hn:Ka p=false:=by unfold Ka;simp [hk3]
  have eE:Gm r p=[]:=by unfold Gm;rw [hn];rfl
  have eR:C6 r p d=r:=by unfold C6;rw [hn,decide_eq_false hk4];rfl
  rw [decide_eq_true hk3]
  refine go ?_;intros
  refine cf (P3 r _ F (by omega) (by omega)) fun u _=>?_
  refine Ao ?_
  refine Hm ?_
  rintro a5 c5 F5 a6 c6 F6 e6 - -
  rw [e6]
  refine Ax (E:=Cc) fun G5=>?_
  refine Ax (E:=Ay) fun G6=>?_
  refine go ?_;intros
  refine C1 A6 ?_
  refine Eh (a1:=a5) r ?_
  rw [eR,eE]
  refine ret ⟨_,_,_,_,_,[],_,_,_⟩ trivial rfl
 have hn:Ka p=true:=by
  unfold Ka
  have:p.Cm=1∨p.Cm=2∨p.Cm=5:=by omega
  rcases this with h|h|h <;> simp [h]
 have eE:Gm r p=Jw r p:=by unfold Gm;rw [hn];rfl
 have eR:C6 r p d=Ij r p d:=by unfold C6;rw [hn];rfl
 rw [decide_eq_false hk3,eE,eR]
 refine go ?_;intros
 refine cf (Agv r p d _ F hg hp d0 d1) fun s _=>?_
 refine Ao ?_
 refine go ?_;intros
 refine ret ⟨s.a1,s.c1,s.F1,s.a2,s.c2,[],s.ae,s.ce,_⟩ trivial rfl
end Go.Proofs.YtaemjogbahcbcaaGreatDoor
namespace Go.Proofs.YtaemjogbahcbcaaGreatDoor

open Go.RowKit
open Go.RowKit
open Go.RowKit
end Go.Proofs.YtaemjogbahcbcaaGreatDoor
namespace Go.Proofs.YtaemjogbahcbcaaGreatDoor
open Go.RowKit
theorem Afi:∀(l:List Fa) (x:NE) (i:Nat),i≤(L9 x l i).2
 | [],_,_=>Nat.le_refl _
 | s::r,x,i=>by
  unfold L9
  cases Cd x.1 s with
  | none=>exact Nat.le_refl _
  | some y=>exact Nat.le_trans (Nat.le_succ _) (Afi r _ _)
theorem Amh {l:List Fa} {i:Nat} {x:NE} {q:NE × Nat} (h:L9 x (l.drop i) i=q) (hi:i < q.2):∃(hl:i < l.length) (y:NE),Cd x.1 l[i]=some y∧L9 (y.1,x.2++y.2) (l.drop (i+1)) (i+1)=q:=by
 by_cases hl:i < l.length
 ·refine ⟨hl,?_⟩
  rw [List.drop_eq_getElem_cons hl] at h
  unfold L9 at h
  cases e:Cd x.1 l[i] with
  | none=>rw [e] at h;subst h;exact absurd hi (Nat.lt_irrefl _)
  | some y=>rw [e] at h;exact ⟨y,rfl,h⟩
 ·rw [List.drop_eq_nil_of_le (by omega)] at h
  subst h
  exact absurd hi (Nat.lt_irrefl _)
theorem Aj7 {l:List Fa} {i:Nat} {x:NE} {q:NE × Nat} (h:L9 x (l.drop i) i=q) (hi:q.2≤i):q.1=x∧∀hl:i < l.length,Cd x.1 l[i]=none:=by
 by_cases hl:i < l.length
 ·rw [List.drop_eq_getElem_cons hl] at h
  unfold L9 at h
  cases e:Cd x.1 l[i] with
  | none=>rw [e] at h;subst h;exact ⟨rfl,fun _=>e⟩
  | some y =>
   rw [e] at h
   have:=Afi (l.drop (i+1)) (y.1,x.2++y.2) (i+1)
   rw [show (L9 (y.1,x.2++y.2) (l.drop (i+1)) (i+1)).2=q.2 from congrArg (·.2) h] at this
   omega
 ·rw [List.drop_eq_nil_of_le (by omega)] at h
  subst h
  exact ⟨rfl,fun h=>absurd h hl⟩
theorem Yq {n:En} {s:Fa} (hg:A8 n=true) (hs:Dg s=true) {y:NE} (e:Cd n s=some y):As n s=(y.1,y.2,true):=by
 unfold As;rw [hg,hs,e];rfl
theorem Vm {n:En} {s:Fa} (e:Cd n s=none):(As n s).2.2=false:=by
 unfold As;rw [e];cases A8 n <;> cases Dg s <;> rfl
theorem Mr {n:En} {s:Fa} (h:(As n s).2.2=true):A8 (As n s).1=true:=by
 cases g:A8 n
 ·exact absurd h (by unfold As;rw [g];cases Dg s <;> exact Bool.false_ne_true)
 cases k:Dg s
 ·exact absurd h (by unfold As;rw [g,k];exact Bool.false_ne_true)
 cases e:Cd n s with
 | none=>rw [Vm e] at h;cases h
 | some y=>rw [Yq g k e];exact Id g k e
end Go.Proofs.YtaemjogbahcbcaaGreatDoor
namespace Go.Proofs.YtaemjogbahcbcaaGreatDoor
open Go.RowKit
open Go.RowKit
theorem Ab7 {α:Type} {E:Bp α} {w:World}:∀{ys:List (List Value)} {xs:List α} {G:List Nat},Cp E w ys.flatten xs G→(∀y∈ys,y.length=E.sz)→∀i (h1:i < ys.length) (h2:i < xs.length),∃Gi,E.Jg w ys[i] xs[i] Gi∧∀b∈Gi,b∈G
 | [],_,_,_,_,i,h1,_=>by simp at h1
 | y::r,[],_,_,_,i,_,h2=>by simp at h2
 | y::r,x::s,G,h,hm,i,h1,h2=>by
  obtain ⟨c1,c2,F1,F2,e,rfl,hr,hs⟩:=h
  rw [List.flatten_cons] at e
  obtain ⟨e1,e2⟩:=List.append_inj e (by rw [hm y (by simp),E.len hr])
  subst e1 e2
  cases i with
  | zero=>exact ⟨F1,hr,fun b hb=>by simp [hb]⟩
  | succ j =>
   obtain ⟨Gi,g1,g2⟩:=Ab7 hs (fun z hz=>hm z (by simp [hz])) j (by simpa using h1) (by simpa using h2)
   exact ⟨Gi,g1,fun b hb=>by simp [g2 b hb]⟩
theorem Zl {α:Type} {E:Bp α} {w:World} {cs:List Value} {x:α} {G2:List Nat} (hx:E.Jg w cs x G2):∀{ys:List (List Value)} {xs:List α} {G:List Nat},Cp E w ys.flatten xs G→(∀y∈ys,y.length=E.sz)→ys.length=xs.length→∀i,∃G',Cp E w (ys.set i cs).flatten (xs.set i x) G'∧∀b∈G',b∈G∨b∈G2
 | [],[],G,h,_,_,i=>⟨G,h,fun b hb=>.inl hb⟩
 | [],y::r,_,_,_,hl,_=>by simp at hl
 | y::r,[],_,_,_,hl,_=>by simp at hl
 | y::r,x1::s,G,h,hm,hl,i=>by
  obtain ⟨c1,c2,F1,F2,e,rfl,hr,hs⟩:=h
  rw [List.flatten_cons] at e
  obtain ⟨e1,e2⟩:=List.append_inj e (by rw [hm y (by simp),E.len hr])
  subst e1 e2
  cases i with
  | zero=>exact ⟨G2++F2,⟨cs,r.flatten,G2,F2,by simp,rfl,hx,hs⟩,fun b hb=>by rcases List.mem_append.1 hb with hb|hb;exact .inr hb;exact .inl (by simp [hb])⟩
  | succ j =>
   obtain ⟨G',g1,g2⟩:=Zl hx hs (fun z hz=>hm z (by simp [hz])) (by simpa using hl) j
   refine ⟨F1++G',⟨y,(r.set j cs).flatten,F1,G',by simp,rfl,hr,g1⟩,fun b hb=>?_⟩
   rcases List.mem_append.1 hb with hb|hb
   ·exact .inl (by simp [hb])
   ·rcases g2 b hb with h|h
    ·exact .inl (by simp [h])
    ·exact .inr h
section
variable {c:Cx} {fr:Fr} {H:List Pc} {Φ:Gl}
theorem Ed {m:Nat} {t:TypeId} {a:Option Addr} {n cp:Nat} {ys:List (List Value)} {F:List Nat} (h:(∀y∈ys,y.length=m)→ys.length=n→T c fr H Φ) (hp:.ow (EC m) t (.slice a n cp) ys F∈H:=by exact Bw):T c fr H Φ:=.mk fun ac w s g=>by
 obtain ⟨hnd,ho⟩:=s.get hp
 have key:(∀y∈ys,y.length=m)∧ys.length=n:=by
  rcases ho with ⟨e,rfl, -⟩|⟨b,cap,cs,rest,G,e,h2,h3,h4,h5,h6, -⟩
  ·cases e;exact ⟨by simp,rfl⟩
  ·cases e;exact ⟨(Aar h6).2.2,rfl⟩
 exact (h key.1 key.2).h ac w s g
theorem Aoi {α:Type} {E:Bp α} {k:Nat} {v:Value} {xs:List α} {G:List Nat} (h:xs.length=k→T c fr H Φ) (hp:.isv (EA E k) v xs G∈H:=by exact Bw):T c fr H Φ:=.mk fun ac w s g=>by
 obtain ⟨cs,e,hl,hf⟩:=s.get hp
 exact (h hl).h ac w s g
theorem Ym {α:Type} {E:Bp α} {k:Nat} {ys:List (List Value)} {xs:List α} {G:List Nat} (i:Nat) (hm:∀y∈ys,y.length=E.sz) (hl:ys.length=xs.length) (h1:i < ys.length) (h:∀(h1:i < ys.length) (h2:i < xs.length) Gi,T c fr (.isv E (.agg ys[i].toArray) xs[i] Gi::H) Φ) (hp:.isv (EA E k) (.agg ys.flatten.toArray) xs G∈H:=by exact Bw):T c fr H Φ:=.mk fun ac w s g=>by
 obtain ⟨cs,e, -,hf⟩:=s.get hp
 obtain rfl:ys.flatten=cs:=by simpa using e
 obtain ⟨Gi,g1,g2⟩:=Ab7 hf hm i h1 (by omega)
 exact (h h1 (by omega) Gi).h ac w (s.ro hp rfl rfl ⟨_,rfl,g1⟩ g2) g
theorem Yn {α:Type} {E:Bp α} {k:Nat} {ys:List (List Value)} {xs:List α} {G:List Nat} (i:Nat) (hm:∀y∈ys,y.length=E.sz) (hl:ys.length=xs.length) (h1:i < ys.length) (h:∀(h1:i < ys.length) (h2:i < xs.length) v Gi,v=.agg ys[i].toArray→T c fr (.isv E v xs[i] Gi::H) Φ) (hp:.isv (EA E k) (.agg ys.flatten.toArray) xs G∈H:=by exact Bw):T c fr H Φ:=Ym i hm hl h1 (fun h1 h2 Gi=>h h1 h2 _ Gi rfl) hp
theorem Nb {α:Type} {E:Bp α} {k:Nat} {ys:List (List Value)} {xs:List α} {G G2:List Nat} {v:Value} {cs:List Value} {x:α} (i:Nat) (hv:v=.agg cs.toArray) (hm:∀y∈ys,y.length=E.sz) (hl:ys.length=xs.length) (h:∀G',T c fr (.isv (EA E k) (.agg (ys.set i cs).flatten.toArray) (xs.set i x) G'::H) Φ) (hp:.isv (EA E k) (.agg ys.flatten.toArray) xs G∈H:=by exact Bw) (hp2:.isv E v x G2∈H:=by exact Bw):T c fr H Φ:=.mk fun ac w s g=>by
 subst hv
 obtain ⟨c1,e,hk,hf⟩:=s.get hp
 obtain rfl:ys.flatten=c1:=by simpa using e
 obtain ⟨c2,e2,hx⟩:=s.get hp2
 obtain rfl:cs=c2:=by simpa using e2
 obtain ⟨G',g1,g2⟩:=Zl hx hf hm hl i
 refine (h G').h ac w (s.add (N:=[.isv (EA E k) (.agg (ys.set i cs).flatten.toArray) (xs.set i x) G']) (Below.refl _ _) (by intro p hq;rw [List.mem_singleton] at hq;subst hq;exact ⟨_,rfl,by simpa using hk,g1⟩) ⟨by simp,trivial⟩ ?_) g
 intro p hq z hb
 rw [List.mem_singleton] at hq;subst hq
 rcases g2 z hb with hb|hb
 ·exact .inr ⟨rfl,_,hp,rfl,hb⟩
 ·exact .inr ⟨rfl,_,hp2,rfl,hb⟩
theorem U2 {α:Type} {E:Bp α} {hz:0 < E.sz} {v:Value} {x:List α} {G:List Nat} (h:∀a1 c1,v=.agg #[.slice a1 x.length c1]→x.length≤maxLen→T c fr (.sl E (.slice a1 x.length c1) x G::H) Φ) (hp:.isv (Kj E hz) v x G∈H:=by exact Bw):T c fr H Φ:=.mk fun ac w s g=>by
 obtain ⟨cs,rfl,v1,rfl,h1⟩:=s.get hp
 obtain ⟨a1,c1,rfl⟩:=h1.slice
 exact (h a1 c1 rfl h1.len).h ac w (s.ro hp rfl rfl ⟨hz,h1⟩ fun b hb=>hb) g
theorem To {α:Type} {E:Bp α} {v:Value} {x:List α} {G:List Nat} (hz:0 < E.sz) (h:T c fr (.isv (Kj E hz) (.agg #[v]) x G::H) Φ) (hp:.sl E v x G∈H:=by exact Bw):T c fr H Φ:=.mk fun ac w s g=>by
 obtain ⟨-,h1⟩:=s.get hp
 exact h.h ac w (s.ro hp rfl rfl ⟨[v],rfl,v,rfl,h1⟩ fun b hb=>hb) g
end
end Go.Proofs.YtaemjogbahcbcaaGreatDoor
namespace Go.Proofs.YtaemjogbahcbcaaGreatDoor
open Go.RowKit
theorem U9 (s:Fa) (hss:s.data.size≤maxLen):Fn prog 36 [.agg #[.int .i64 s.Cm,.int .i64 s.node,.string s.data]] [] [] (fun (_:Unit)=>True) (fun _=>.bool (Dg s)) (fun _=>[]):=by
 refine enter func36 rfl ntmps36 fun w0=>?_
 refine go ?_;intros
 refine Bd rfl (fun h1=>?_) (fun h1=>?_)
 ·rw [show Dg s=(decide (s.node=0) && Nq s.data) by unfold Dg;rw [if_pos h1]]
  refine go ?_;intros
  refine Cw rfl rfl (fun h2=>?_) (fun h2=>?_)
  ·refine go ?_;intros
   refine ce (fun w st=>Nr s.data 8 _ hss) ?_
   refine go ?_;intros
   refine ret () trivial ?_
   rw [decide_eq_true h2];rfl
  ·refine go ?_;intros
   refine ret () trivial ?_
   rw [decide_eq_false h2];rfl
 refine go ?_;intros
 refine Bd rfl (fun h4=>?_) (fun h4=>?_)
 ·rw [show Dg s=(decide (s.node=0) && decide (s.data=⟨#[]⟩)) by unfold Dg;rw [if_neg h1,if_pos h4]]
  refine go ?_;intros
  refine Cw rfl rfl (fun h2=>?_) (fun h2=>?_)
  ·refine go ?_;intros
   refine ret () trivial ?_
   rw [decide_eq_true h2];rfl
  ·refine go ?_;intros
   refine ret () trivial ?_
   rw [decide_eq_false h2];rfl
 rw [show Dg s=(Gs 1 s.Cm 6 && Gs 1 s.node 7 && decide (s.data=⟨#[]⟩)) by unfold Dg;rw [if_neg h1,if_neg h4];rfl]
 refine go ?_;intros
 refine ce (fun w st=>I2 s.Cm 1 6 _) ?_
 cases g1:Gs 1 s.Cm 6
 ·refine go ?_;intros
  refine ret () trivial ?_
  rfl
 refine go ?_;intros
 refine ce (fun w st=>I2 s.node 1 7 _) ?_
 cases g2:Gs 1 s.node 7
 ·refine go ?_;intros
  refine ret () trivial ?_
  rfl
 refine go ?_;intros
 refine ret () trivial ?_
 rfl
theorem Ahd {q ps:List Aw} {k:Nat} (h:6≤(E5 q (ps.take k)).length):E5 q (ps.take k)=E5 q ps:=by
 unfold E5 at *
 rw [List.length_append,List.length_take,List.length_take] at h
 rw [List.take_take]
 congr 1
 by_cases h6:6≤q.length
 ·rw [show min (6 - q.length) k=6 - q.length by omega]
 ·by_cases hk:6 - q.length≤k
  ·rw [show min (6 - q.length) k=6 - q.length by omega]
  ·rw [show min (6 - q.length) k=k by omega,List.take_of_length_le (by omega),List.take_of_length_le (by omega)]
theorem Ahe {q ps:List Aw} {k:Nat} (hk:k < ps.length) (h:(E5 q (ps.take k)).length < 6):E5 q (ps.take (k+1))=E5 q (ps.take k)++[ps[k]]:=by
 rw [List.take_succ_eq_append_getElem hk,Z7]
 unfold P6;rw [if_pos h]
theorem Xx (q ps:List Aw) (a:Option Addr) (c:Nat) (F:List Nat) (a2:Option Addr) (c2:Nat) (F2:List Nat) (hq:q.length≤1000000):Fn prog 158 [.slice a q.length c,.slice a2 ps.length c2] [.sl Al (.slice a q.length c) q F,.sl Al (.slice a2 ps.length c2) ps F2] [] (fun (_:KA)=>True) (fun z=>.slice z.a (E5 q ps).length z.c) (fun z=>[.ow Al 110 (.slice z.a (E5 q ps).length z.c) (E5 q ps) z.F]):=by
 refine enter func158 rfl ntmps158 fun w0=>?_
 refine Qw (E:=Al) (xs:=ps) ?_
 rintro _ _ e0 hn1 hn2
 refine Rt (E:=Al) (xs:=ps) (fun p:Aw=>p.data.size≤maxLen) (fun w cs x F h=>by obtain ⟨_,h,_⟩:=h;exact h) ?_
 intro hz
 cases e0
 refine go ?_;intros
 refine C1 Al ?_
 refine go ?_;intros
 apply wO
 refine Kx Gn Iz fun a3 c3 F3=>?_
 rw [List.nil_append]
 refine go ?_;intros
 have e0:E5 q (ps.take 0)=q:=by unfold E5;simp
 refine Cq [1,4] (fun z:KA=>[(5,.slice z.a (E5 q (ps.take z.k)).length z.c),(6,.int .i64 (z.k:Nat))]) (fun z=>[.ow Al 110 (.slice z.a (E5 q (ps.take z.k)).length z.c) (E5 q (ps.take z.k)) z.F]) (fun z=>z.k≤ps.length) (fun z=>ps.length - z.k) ⟨0,a3,c3,F3⟩ (Nat.zero_le _) (fun z hz0=>?_) (hf:=by dsimp only;rw [e0];exact frE) (hH:=by dsimp only;rw [e0];exact X9)
 have hql:(E5 q (ps.take z.k)).length≤q.length+ps.length:=by unfold E5;rw [List.length_append,List.length_take,List.length_take];omega
 have hnn:ps.length≤9223372036854775807:=by omega
 refine go ?_;intros
 refine Cw rfl rfl (fun h1=>?_) (fun h1=>?_)
 ·have hk:z.k < ps.length:=by omega
  refine go ?_;intros
  refine Bd rfl (fun h2=>?_) (fun h2=>?_)
  ·have h6:(E5 q (ps.take z.k)).length < 6:=by omega
   have hpz:=hz _ (List.getElem_mem hk)
   refine Lj (xs:=ps) z.k ?_
   rintro hi3 b3 o3 e3 s3
   rw [e3]
   refine go ?_;intros
   apply wO
   refine Lh (ys:=[ps[z.k]]) (Cz ps[z.k] hpz) Gn fun a7 c7 F7=>?_
   rw [←Ahe hk h6]
   refine go ?_;intros
   refine Co ⟨z.k+1,a7,c7,F7⟩ hk (by show ps.length - (z.k+1) < ps.length - z.k;omega)
  ·rw [Ahd (by omega)]
   refine go ?_;intros
   refine ret z trivial rfl
 ·rw [show ps.take z.k=ps from List.take_of_length_le (by omega)]
  refine go ?_;intros
  refine ret z trivial rfl
theorem Ajw {q ps:List Aw} (h:q.length≤6):(E5 q ps).length≤6:=by unfold E5;rw [List.length_append,List.length_take];omega
theorem Al0 {d:List (List Aw)} {i:Nat} {ps:List Aw} (h:∀q∈d,q.length≤6):∀q∈d.modify i (fun q=>E5 q ps),q.length≤6:=fun q hq=>by
 by_cases hi:i < d.length
 ·rw [Hf hi] at hq
  rcases List.mem_or_eq_of_mem_set hq with h'|rfl
  ·exact h q h'
  ·exact Ajw (h _ (List.getElem_mem hi))
 ·rw [X5 hi] at hq;exact h q hq
theorem Yp {ps:List Aw}:∀{nodes:List Int} {d:List (List Aw)},(∀q∈d,q.length≤6)→∀q∈Dk d nodes ps,q.length≤6
 | [],_,h=>h
 | x::r,d,h=>by
  show ∀q∈Dk (d.modify x.toNat fun q=>E5 q ps) r ps,q.length≤6
  exact Yp (Al0 h)
structure ShZ where
 k:Nat
 ys:List (List Value)
 F:List Nat
 G:List Nat
theorem Ko (d:List (List Aw)) (nodes:List Int) (ps:List Aw) (a1 a2 a3 a4 a5 a7:Option Addr) (l1 c1 l2 c2 l3 c3 l4 c4 l5 c5 l7 c7:Nat) (w1 w2 w3 w4:Int) (a:Option Addr) (n c:Nat) (ys:List (List Value)) (F G:List Nat) (an:Option Addr) (cn:Nat) (Fn_:List Nat) (ap:Option Addr) (cp:Nat) (Fp:List Nat) (hx:∀x∈nodes,0≤x∧x.toNat < d.length) (hd:∀q∈d,q.length≤6) :
  Fn prog 89 [.agg #[.slice a1 l1 c1,.int .i64 w1,.int .i64 w2,.slice a2 l2 c2,.int .i64 w3,.int .i64 w4,.slice a3 l3 c3,.slice a4 l4 c4,.slice a5 l5 c5,.slice a n c,.slice a7 l7 c7],.slice an nodes.length cn,.slice ap ps.length cp] [.sl Be (.slice an nodes.length cn) nodes Fn_,.sl Al (.slice ap ps.length cp) ps Fp,.isv (EA (Kj Al (by decide)) n) (.agg (ys).flatten.toArray) d G] [.ow (EC 1) 86 (.slice a n c) ys F] (fun (_:ShZ)=>True) (fun _=>.tuple #[]) (fun z=>[.ow (EC 1) 86 (.slice a n c) z.ys z.F,.isv (EA (Kj Al (by decide)) n) (.agg (z.ys).flatten.toArray) (Dk d nodes ps) z.G]):=by
 refine enter func89 rfl ntmps89 fun w0=>?_
 refine Qw (E:=Be) (xs:=nodes) ?_
 rintro _ _ e0 hn1 hn2
 cases e0
 refine Aoi (xs:=d) fun hdn=>?_
 refine go ?_;intros
 refine Cq [1,2,3] (fun z:ShZ=>[(6,.int .i64 (z.k:Nat))]) (fun z=>[.ow (EC 1) 86 (.slice a n c) z.ys z.F,.isv (EA (Kj Al (by decide)) n) (.agg (z.ys).flatten.toArray) (Dk d (nodes.take z.k) ps) z.G]) (fun z=>z.k≤nodes.length) (fun z=>nodes.length - z.k) ⟨0,ys,F,G⟩ (Nat.zero_le _) fun z hz0=>?_
 have hsl:=Tr ps (nodes.take z.k) d
 have hd6:=Yp (ps:=ps) (nodes:=nodes.take z.k) hd
 refine go ?_;intros
 refine Bd rfl (fun h1=>?_) (fun h1=>?_)
 ·have hk:z.k < nodes.length:=by omega
  obtain ⟨x0,x1⟩:=hx _ (List.getElem_mem hk)
  obtain ⟨i,hi⟩:∃i:Nat,nodes[z.k]=((i:Nat):Int):=⟨nodes[z.k].toNat,by omega⟩
  have hil:i < (Dk d (nodes.take z.k) ps).length:=by omega
  have hst:=Wb (d:=d) (ps:=ps) hk
  rw [show nodes[z.k].toNat=i by omega] at hst
  unfold Nu at hst
  rw [Hf hil] at hst
  have h6:=hd6 _ (List.getElem_mem hil)
  refine Il (xs:=nodes) z.k ?_
  rintro hi2 b o e1
  rw [e1,hi]
  refine Ed (ys:=z.ys) fun hm hl=>?_
  refine Ym (ys:=z.ys) (xs:=Dk d (nodes.take z.k) ps) i hm (by omega) (by omega) fun h2 h3 Gi=>?_
  refine U2 (x:=(Dk d (nodes.take z.k) ps)[i]) fun a9 c9 e9 l9=>?_
  refine Ob (E:=EC 1) (xs:=z.ys) (m:=1) (E7 1) i ?_ (by repeat (first|exact .here|apply Cu.there)) rfl h2
  rintro _ g A cs B rfl k2 k3 hH
  obtain ⟨k4, -, -⟩:=k3 w0
  have e8:z.ys[i]=[.slice a9 (Dk d (nodes.take z.k) ps)[i].length c9]:=by simpa using e9
  rw [e8] at k4
  subst k4
  dsimp only [List.append]
  refine go ?_;intros
  refine Av [0,3,5] [17] ?_
  refine dt 0 ?_
  refine dt 1 ?_
  refine dt 2 ?_
  refine dt 3 ?_
  refine dt 4 ?_
  refine dt 5 ?_
  refine dt 6 ?_
  refine dt 7 ?_
  refine dt 8 ?_
  refine dt 9 ?_
  refine dt 10 ?_
  refine dt 11 ?_
  refine dt 12 ?_
  refine dt 13 ?_
  refine dt 14 ?_
  refine dO 15 (by kernel_rfl) (by rw [List.getElem?_toArray];rfl) ?_
  apply At;rfl;kernel_rfl;exact Bb
  refine cf (Xx (Dk d (nodes.take z.k) ps)[i] ps a9 c9 _ ap cp Fp (by omega)) fun u _=>?_
  refine Ao ?_
  refine dk ?_
  refine dt 16 ?_
  refine dO 17 (by kernel_rfl) (by rw [List.getElem?_toArray];rfl) ?_
  apply Cf;rfl;rfl;rfl;(first|exact AggC.s|exact OneC.s);rfl;exact Ci;exact Cg;rfl
  refine Lv ?_
  refine dd ?_
  refine Nc (E:=EC 1) (xs:=z.ys) [.slice u.a (E5 (Dk d (nodes.take z.k) ps)[i] ps).length u.c] hH (fun w=>⟨rfl,⟨rfl,by simp [Value.oneCell']⟩,rfl⟩) ?_
  refine Ax (E:=Al) (xs:=E5 (Dk d (nodes.take z.k) ps)[i] ps) fun Fq=>?_
  refine To (E:=Al) (x:=E5 (Dk d (nodes.take z.k) ps)[i] ps) (by decide) ?_
  refine Nb (E:=Kj Al (by decide)) (ys:=z.ys) (xs:=Dk d (nodes.take z.k) ps) (x:=E5 (Dk d (nodes.take z.k) ps)[i] ps) i rfl hm (by omega) fun G'=>?_
  rw [←hst]
  refine go ?_;intros
  refine Co ⟨z.k+1,z.ys.set i [.slice u.a (E5 (Dk d (nodes.take z.k) ps)[i] ps).length u.c],[g],G'⟩ hk (by show nodes.length - (z.k+1) < nodes.length - z.k;omega)
 ·rw [show nodes.take z.k=nodes from List.take_of_length_le (by omega)]
  refine go ?_;intros
  refine Qv ?_
  refine ret z trivial rfl
theorem Ach {l:List Int} (hg:Mu l) (i:Nat):M9 1 7 (Gb l ((i:Nat):Int))=true:=by
 refine Z8 ?_ fun z hz=>?_
 ·unfold Gb Hz
  rw [List.pairwise_map]
  exact (List.Pairwise.filter _ List.pairwise_lt_range).imp fun h=>by omega
 ·have:=Jj hg hz
  have:=hg.n1
  omega
structure ShA where
 ys:List (List Value)
 F:List Nat
 G:List Nat
structure SZ where
 e:ShA
 r:ShA
 d:ShA
 u:ShA
structure JE where
 g:Nat
 b:Option Addr
 d:Nat
 F:List Nat
 a:Option Addr
 c:Nat
 G:List Nat
theorem Aay (n:En) (i:Nat) (p:Aw) (a1:Option Addr) (c1:Nat) (a4:Option Addr) (c4:Nat) (a5:Option Addr) (c5:Nat) (a6:Option Addr) (c6:Nat) (a7:Option Addr) (c7:Nat) (a2 a3:Option Addr) (l2 c2 l3 c3:Nat) (w1 w2 w3 w4:Int) (F1:List Nat) (z:SZ) (FT:List Nat) (hl:Iw n=true) (hi:i < n.Ar.Ad.length) (hi0:0 < i) (h8:Mu n.Ar.Ad) (hr:Hj n.Ar.Ad (i:Nat)=true→C7 (Wj n i)=true) (he:Hj n.Ar.Ad (i:Nat)=false→Bc (So n i)=true) (hp:Bk p=true) (hps:p.data.size≤maxLen) (hd:∀q∈n.down,q.length≤6) :
  Fn prog 92 [.agg #[.slice a1 n.Ar.Ad.length c1,.int .i64 w1,.int .i64 w2,.slice a2 l2 c2,.int .i64 w3,.int .i64 w4,.slice a3 l3 c3,.slice a4 n.Ar.Ad.length c4,.slice a5 n.Ar.Ad.length c5,.slice a6 n.Ar.Ad.length c6,.slice a7 n.Ar.Ad.length c7],.int .i64 (i:Nat),.agg #[.int .i64 (p).Cm,.int .i64 (p).Ac,.int .i64 (p).Ak,.int .i64 (p).Dy,.string (p).data]] [Li FT,.sl Be (.slice a1 n.Ar.Ad.length c1) n.Ar.Ad F1,.isv (EA Bh n.Ar.Ad.length) (.agg z.e.ys.flatten.toArray) n.Ah z.e.G,.isv (EA Bn n.Ar.Ad.length) (.agg z.r.ys.flatten.toArray) n.Ae z.r.G,.isv (EA (Kj Al (by decide)) n.Ar.Ad.length) (.agg z.d.ys.flatten.toArray) n.down z.d.G,.isv (EA (Kj Al (by decide)) n.Ar.Ad.length) (.agg z.u.ys.flatten.toArray) n.up z.u.G] [.ow (EC 2) 77 (.slice a4 n.Ar.Ad.length c4) z.e.ys z.e.F,.ow (EC 5) 84 (.slice a5 n.Ar.Ad.length c5) z.r.ys z.r.F,.ow (EC 1) 86 (.slice a6 n.Ar.Ad.length c6) z.d.ys z.d.F,.ow (EC 1) 86 (.slice a7 n.Ar.Ad.length c7) z.u.ys z.u.F] (fun (_:SZ × KA)=>True) (fun y=>.slice y.2.a (C2 n i p).2.length y.2.c) (fun y=>[.ow (EC 2) 77 (.slice a4 n.Ar.Ad.length c4) y.1.e.ys y.1.e.F,.ow (EC 5) 84 (.slice a5 n.Ar.Ad.length c5) y.1.r.ys y.1.r.F,.ow (EC 1) 86 (.slice a6 n.Ar.Ad.length c6) y.1.d.ys y.1.d.F,.ow (EC 1) 86 (.slice a7 n.Ar.Ad.length c7) y.1.u.ys y.1.u.F,.isv (EA Bh n.Ar.Ad.length) (.agg y.1.e.ys.flatten.toArray) (C2 n i p).1.Ah y.1.e.G,.isv (EA Bn n.Ar.Ad.length) (.agg y.1.r.ys.flatten.toArray) (C2 n i p).1.Ae y.1.r.G,.isv (EA (Kj Al (by decide)) n.Ar.Ad.length) (.agg y.1.d.ys.flatten.toArray) (C2 n i p).1.down y.1.d.G,.isv (EA (Kj Al (by decide)) n.Ar.Ad.length) (.agg y.1.u.ys.flatten.toArray) (C2 n i p).1.up y.1.u.G,.ow A6 9 (.slice y.2.a (C2 n i p).2.length y.2.c) (C2 n i p).2 y.2.F]):=by
 obtain ⟨q1,q2,q3,q4⟩:=Bz.1 hl
 have hn8:=h8.n1
 obtain ⟨d0,d1_⟩:=Xh (i:=i)
 refine enter func92 rfl ntmps92 fun w0=>?_
 refine Ky n.Ar ?_
 refine go ?_;intros
 refine cf (U8 n.Ar ((i:Nat):Int) _ F1 h8 (by omega)) fun _ _=>?_
 refine Ao ?_
 cases hlf:Hj n.Ar.Ad (i:Nat)
 rotate_left
 ·have hir:i < n.Ae.length:=by omega
  have hgr:=Hc.1 (Ln hir▸hr hlf)
  have hev:=(Se (d:=J0 i) hgr hp d0 d1_).2
  rw [show C2 n i p=(⟨n.Ar,n.Ab,n.Ah,n.Ae.set i (C6 n.Ae[i] p (J0 i)),n.down,n.up⟩,Rc i (Gm n.Ae[i] p)) by unfold C2;rw [if_pos hlf,Ln hir]]
  refine go ?_;intros
  refine Ed (ys:=z.r.ys) fun hm hlr=>?_
  refine Yn (E:=Bn) (ys:=z.r.ys) (xs:=n.Ae) i hm (by omega) (by omega) fun h2 h3 v Gi ev=>?_
  refine E4 (v:=v) (x:=n.Ae[i]) ?_
  rintro b1 d1 G1 b2 d2 G2 rfl l1 l2
  have e8:z.r.ys[i]=[.bool (n.Ae[i]).Bf,.int .i64 (n.Ae[i]).Ai,.int .i64 (n.Ae[i]).Aa.next,.slice b1 (n.Ae[i]).Aa.An.length d1,.slice b2 (n.Ae[i]).Ap.length d2]:=by simpa using ev.symm
  refine Ob (E:=EC 5) (xs:=z.r.ys) (m:=5) (E7 5) i ?_ (by repeat (first|exact .here|apply Cu.there)) rfl h2
  rintro _ g A cs B rfl k2 k3 hH
  obtain ⟨k4, -, -⟩:=k3 w0
  rw [e8] at k4
  subst k4
  dsimp only [List.append]
  refine go ?_;intros
  refine Ep [1,3,5,6] [0,1,2,3,4,5,6,7,8,9,10,11,12,13,14,15] (fun w:Nat × NwS=>[(7,Eo w.1 0 0),(8,.slice w.2.ae (Gm n.Ae[i] p).length w.2.ce)]) (fun w=>[.row w.1 84 0 [] [.bool (C6 n.Ae[i] p (J0 i)).Bf,.int .i64 (C6 n.Ae[i] p (J0 i)).Ai,.int .i64 (C6 n.Ae[i] p (J0 i)).Aa.next,.slice w.2.a1 (C6 n.Ae[i] p (J0 i)).Aa.An.length w.2.c1,.slice w.2.a2 (C6 n.Ae[i] p (J0 i)).Ap.length w.2.c2] [],.isv Bn (.agg #[.bool (C6 n.Ae[i] p (J0 i)).Bf,.int .i64 (C6 n.Ae[i] p (J0 i)).Ai,.int .i64 (C6 n.Ae[i] p (J0 i)).Aa.next,.slice w.2.a1 (C6 n.Ae[i] p (J0 i)).Aa.An.length w.2.c1,.slice w.2.a2 (C6 n.Ae[i] p (J0 i)).Ap.length w.2.c2]) (C6 n.Ae[i] p (J0 i)) w.2.F1,.ow A6 9 (.slice w.2.ae (Gm n.Ae[i] p).length w.2.ce) (Gm n.Ae[i] p) w.2.Fe]) (fun _=>True) ?_ fun w _=>?_
  ·skip
   refine Av [0,4,5] [] ?_
   refine dt 0 ?_
   refine dt 1 ?_
   refine dt 2 ?_
   refine dt 3 ?_
   refine dt 4 ?_
   refine dt 5 ?_
   refine dt 6 ?_
   refine Nn 7 12 (by kernel_rfl) (by rw [List.getElem?_toArray];rfl) (by rw [List.getElem?_toArray];rfl) ?_ ?_
   ·apply At;rfl;kernel_rfl;exact Bb
    refine cf (Qm i (by omega)) fun _ _=>?_
    refine Ao ?_
    refine dk ?_
    refine Nn 8 12 (by kernel_rfl) (by rw [List.getElem?_toArray];rfl) (by rw [List.getElem?_toArray];rfl) ?_ ?_
    ·apply At;rfl;kernel_rfl;exact Bb
     refine cf (U5 n.Ae[i] p (J0 i) _ Gi hgr hp d0 d1_) fun s _=>?_
     refine Ao ?_
     refine dk ?_
     refine dt 9 ?_
     refine dt 10 ?_
     refine dt 11 ?_
     refine dO 12 (by kernel_rfl) (by rw [List.getElem?_toArray];rfl) ?_
     apply Bv;rfl;intro _
     refine dk ?_
     refine dO 13 (by kernel_rfl) (by rw [List.getElem?_toArray];rfl) ?_
     apply Cf;rfl;rfl;rfl;(first|exact AggC.s|exact OneC.s);rfl;exact Ci;exact Cg;rfl
     refine dk ?_
     refine dt 14 ?_
     refine dd ?_
     refine B6 (⟨_,s⟩:Nat × NwS) trivial
    ·apply Bv;rfl;intro _
     refine dk ?_
     refine dO 8 (by kernel_rfl) (by rw [List.getElem?_toArray];rfl) ?_
     apply At;rfl;kernel_rfl;exact Bb
     refine cf (U5 n.Ae[i] p (J0 i) _ Gi hgr hp d0 d1_) fun s _=>?_
     refine Ao ?_
     refine dk ?_
     refine dt 9 ?_
     refine dt 10 ?_
     refine dt 11 ?_
     refine dO 13 (by kernel_rfl) (by rw [List.getElem?_toArray];rfl) ?_
     apply Cf;rfl;rfl;rfl;(first|exact AggC.s|exact OneC.s);rfl;exact Ci;exact Cg;rfl
     refine dk ?_
     refine dt 14 ?_
     refine dd ?_
     refine B6 (⟨_,s⟩:Nat × NwS) trivial
   ·apply Bv;rfl;intro _
    refine dk ?_
    refine dO 7 (by kernel_rfl) (by rw [List.getElem?_toArray];rfl) ?_
    apply At;rfl;kernel_rfl;exact Bb
    refine cf (Qm i (by omega)) fun _ _=>?_
    refine Ao ?_
    refine dk ?_
    refine dO 8 (by kernel_rfl) (by rw [List.getElem?_toArray];rfl) ?_
    apply At;rfl;kernel_rfl;exact Bb
    refine cf (U5 n.Ae[i] p (J0 i) _ Gi hgr hp d0 d1_) fun s _=>?_
    refine Ao ?_
    refine dk ?_
    refine dt 9 ?_
    refine dt 10 ?_
    refine dt 11 ?_
    refine dO 13 (by kernel_rfl) (by rw [List.getElem?_toArray];rfl) ?_
    apply Cf;rfl;rfl;rfl;(first|exact AggC.s|exact OneC.s);rfl;exact Ci;exact Cg;rfl
    refine dk ?_
    refine dt 14 ?_
    refine dd ?_
    refine B6 (⟨_,s⟩:Nat × NwS) trivial
  obtain ⟨gr,s⟩:=w
  dsimp only
  refine Jq ?_;intros
  refine Nc (E:=EC 5) (xs:=z.r.ys) [.bool (C6 n.Ae[i] p (J0 i)).Bf,.int .i64 (C6 n.Ae[i] p (J0 i)).Ai,.int .i64 (C6 n.Ae[i] p (J0 i)).Aa.next,.slice s.a1 (C6 n.Ae[i] p (J0 i)).Aa.An.length s.c1,.slice s.a2 (C6 n.Ae[i] p (J0 i)).Ap.length s.c2] hH (fun w=>⟨rfl,⟨rfl,by simp [Value.oneCell']⟩,rfl⟩) ?_
  refine Nb (E:=Bn) (ys:=z.r.ys) (xs:=n.Ae) (x:=C6 n.Ae[i] p (J0 i)) i rfl hm (by omega) fun G'=>?_
  refine Ax (E:=A6) (xs:=Gm n.Ae[i] p) fun Fq=>?_
  refine go ?_;intros
  refine cf (Zy i (Gm n.Ae[i] p) _ _ Fq FT (by omega) (by omega) (Xs hgr hp)) fun u _=>?_
  refine Ao ?_
  refine go ?_;intros
  refine ret (⟨z.e,⟨z.r.ys.set i [.bool (C6 n.Ae[i] p (J0 i)).Bf,.int .i64 (C6 n.Ae[i] p (J0 i)).Ai,.int .i64 (C6 n.Ae[i] p (J0 i)).Aa.next,.slice s.a1 (C6 n.Ae[i] p (J0 i)).Aa.An.length s.c1,.slice s.a2 (C6 n.Ae[i] p (J0 i)).Ap.length s.c2],[g],G'⟩,z.d,z.u⟩,u) trivial rfl
 ·have hir:i < n.Ah.length:=by omega
  have hge:Bc n.Ah[i]=true:=Is hir▸he hlf
  have hel:=(Ew.1 hge).2.1
  have hkl:=P0 n.Ar.Ad ((i:Nat):Int)
  have hkx:∀x∈Gb n.Ar.Ad ((i:Nat):Int),0≤x∧x.toNat < n.down.length:=fun x hx=>by have:=Jj h8 hx;omega
  have hri:=Ach h8 i
  refine go ?_;intros
  refine cf (Ml n.Ar ((i:Nat):Int) _ F1 (P2 h8.z (by omega)) ⟨by omega,by omega⟩) fun u _=>?_
  refine Ao ?_
  refine Ax (E:=Be) (xs:=Gb n.Ar.Ad ((i:Nat):Int)) fun Fk=>?_
  refine go ?_;intros
  refine Bd rfl (fun hk=>?_) (fun hk=>?_)
  ·rw [show C2 n i p=(⟨n.Ar,n.Ab,n.Ah.set i (Mn n.Ah[i] p.Ac),n.Ae,Dk n.down (Q8 n.Ah[i] p.Ac (Gb n.Ar.Ad ((i:Nat):Int))) [p],n.up⟩,[]) by unfold C2 Adu Ub;rw [if_neg (by rw [hlf];decide),if_pos hk,if_pos hk,Is hir]]
   rw [←Aez hge hri]
   refine go ?_;intros
   refine Ed (ys:=z.e.ys) fun hm hlr=>?_
   refine Yn (E:=Bh) (ys:=z.e.ys) (xs:=n.Ah) i hm (by omega) (by omega) fun h2 h3 v Gi ev=>?_
   refine Eb (v:=v) (x:=n.Ah[i]) ?_
   rintro b1 d1 G1 rfl l1
   have e8:z.e.ys[i]=[.int .i64 n.Ah[i].Ai,.slice b1 n.Ah[i].Af.length d1]:=by simpa using ev.symm
   refine Ob (E:=EC 2) (xs:=z.e.ys) (m:=2) (E7 2) i ?_ (by repeat (first|exact .here|apply Cu.there)) rfl h2
   rintro _ g A cs B rfl k2 k3 hH
   obtain ⟨k4, -, -⟩:=k3 w0
   rw [e8] at k4
   subst k4
   dsimp only [List.append]
   refine go ?_;intros
   refine Ep [1,3,5,6,9] [0,1,2,3,4,5,6,7,8,9,10,11,12,13,14,15] (fun w:JE=>[(10,Eo w.g 0 0),(11,.slice w.a (T6 n.Ah[i] p.Ac (Gb n.Ar.Ad ((i:Nat):Int))).length w.c)]) (fun w=>[.row w.g 77 0 [] [.int .i64 (Mn n.Ah[i] p.Ac).Ai,.slice w.b (Mn n.Ah[i] p.Ac).Af.length w.d] [],.isv Bh (.agg #[.int .i64 (Mn n.Ah[i] p.Ac).Ai,.slice w.b (Mn n.Ah[i] p.Ac).Af.length w.d]) (Mn n.Ah[i] p.Ac) w.F,.ow Be 3 (.slice w.a (T6 n.Ah[i] p.Ac (Gb n.Ar.Ad ((i:Nat):Int))).length w.c) (T6 n.Ah[i] p.Ac (Gb n.Ar.Ad ((i:Nat):Int))) w.G]) (fun _=>True) ?_ fun w _=>?_
   ·skip
    refine Av [0,4,5] [] ?_
    refine dt 0 ?_
    refine dt 1 ?_
    refine dt 2 ?_
    refine dt 3 ?_
    refine dt 4 ?_
    refine dt 5 ?_
    refine dt 6 ?_
    refine dt 7 ?_
    refine Nn 8 12 (by kernel_rfl) (by rw [List.getElem?_toArray];rfl) (by rw [List.getElem?_toArray];rfl) ?_ ?_
    ·apply At;rfl;kernel_rfl;exact Bb
     refine cf (V4 n.Ah[i] p.Ac (Gb n.Ar.Ad ((i:Nat):Int)) _ Gi u.a u.c Fk (by omega) (fun x hx=>by have:=Lw hge hx;omega) (by omega)) fun s _=>?_
     refine Ao ?_
     refine Gg ?_
     rintro b3 d3 G3 es l3
     rw [es]
     refine Ey (Mn n.Ah[i] p.Ac) ?_
     refine K9 I0 fun Fe=>?_
     refine dk ?_
     refine dt 9 ?_
     refine dt 10 ?_
     refine dt 11 ?_
     refine dO 12 (by kernel_rfl) (by rw [List.getElem?_toArray];rfl) ?_
     apply Bv;rfl;intro _
     refine dk ?_
     refine dO 13 (by kernel_rfl) (by rw [List.getElem?_toArray];rfl) ?_
     apply Cf;rfl;rfl;rfl;(first|exact AggC.s|exact OneC.s);rfl;exact Ci;exact Cg;rfl
     refine dk ?_
     refine dt 14 ?_
     refine dd ?_
     refine B6 (⟨_,b3,d3,Fe,s.a,s.c,s.G⟩:JE) trivial
    ·apply Bv;rfl;intro _
     refine dk ?_
     refine dO 8 (by kernel_rfl) (by rw [List.getElem?_toArray];rfl) ?_
     apply At;rfl;kernel_rfl;exact Bb
     refine cf (V4 n.Ah[i] p.Ac (Gb n.Ar.Ad ((i:Nat):Int)) _ Gi u.a u.c Fk (by omega) (fun x hx=>by have:=Lw hge hx;omega) (by omega)) fun s _=>?_
     refine Ao ?_
     refine Gg ?_
     rintro b3 d3 G3 es l3
     rw [es]
     refine Ey (Mn n.Ah[i] p.Ac) ?_
     refine K9 I0 fun Fe=>?_
     refine dk ?_
     refine dt 9 ?_
     refine dt 10 ?_
     refine dt 11 ?_
     refine dO 13 (by kernel_rfl) (by rw [List.getElem?_toArray];rfl) ?_
     apply Cf;rfl;rfl;rfl;(first|exact AggC.s|exact OneC.s);rfl;exact Ci;exact Cg;rfl
     refine dk ?_
     refine dt 14 ?_
     refine dd ?_
     refine B6 (⟨_,b3,d3,Fe,s.a,s.c,s.G⟩:JE) trivial
   refine Jq ?_;intros
   refine Nc (E:=EC 2) (xs:=z.e.ys) [.int .i64 (Mn n.Ah[i] p.Ac).Ai,.slice w.b (Mn n.Ah[i] p.Ac).Af.length w.d] hH (fun _=>⟨rfl,⟨rfl,by simp [Value.oneCell']⟩,rfl⟩) ?_
   refine Nb (E:=Bh) (ys:=z.e.ys) (xs:=n.Ah) (x:=Mn n.Ah[i] p.Ac) i rfl hm (by omega) fun G'=>?_
   refine Ax (E:=Be) (xs:=T6 n.Ah[i] p.Ac (Gb n.Ar.Ad ((i:Nat):Int))) fun Fk2=>?_
   refine Ee (E:=Al) (xs:=[p]) (Cz p hps) ?_ (by simp)
   refine Ax (E:=Al) (xs:=[p]) fun Fp=>?_
   refine go ?_;intros
   refine cf (Ko n.down (T6 n.Ah[i] p.Ac (Gb n.Ar.Ad ((i:Nat):Int))) [p] _ _ _ _ _ _ _ _ _ _ _ _ _ _ _ _ _ _ _ _ _ _ _ _ _ z.d.ys z.d.F z.d.G _ _ Fk2 _ _ Fp (by rw [Aez hge hri];exact fun x hx=>hkx x (Xj x hx)) hd) fun y _=>?_
   refine Ao ?_
   refine go ?_;intros
   refine C1 A6 ?_
   refine go ?_;intros
   refine ret (⟨⟨z.e.ys.set i [.int .i64 (Mn n.Ah[i] p.Ac).Ai,.slice w.b (Mn n.Ah[i] p.Ac).Af.length w.d],[g],G'⟩,z.r,⟨y.ys,y.F,y.G⟩,z.u⟩,⟨0,_,_,_⟩) trivial rfl
  ·rw [show C2 n i p=(⟨n.Ar,n.Ab,n.Ah,n.Ae,Dk n.down (Gb n.Ar.Ad ((i:Nat):Int)) [p],n.up⟩,[]) by unfold C2 Adu Ub;rw [if_neg (by rw [hlf];decide),if_neg hk,if_neg hk]]
   refine Jq ?_;intros
   refine Ee (E:=Al) (xs:=[p]) (Cz p hps) ?_ (by simp)
   refine Ax (E:=Al) (xs:=[p]) fun Fp=>?_
   refine go ?_;intros
   refine cf (Ko n.down (Gb n.Ar.Ad ((i:Nat):Int)) [p] _ _ _ _ _ _ _ _ _ _ _ _ _ _ _ _ _ _ _ _ _ _ _ _ _ z.d.ys z.d.F z.d.G _ _ Fk _ _ Fp hkx hd) fun w _=>?_
   refine Ao ?_
   refine go ?_;intros
   refine C1 A6 ?_
   refine go ?_;intros
   refine ret (⟨z.e,z.r,⟨w.ys,w.F,w.G⟩,z.u⟩,⟨0,_,_,_⟩) trivial rfl
structure RjS where
 g:Nat
 a:Option Addr
 c:Nat
 a2:Option Addr
 c2:Nat
 F:List Nat
structure Ak1 where
 a:Option Addr
 c:Nat
 F:List Nat
theorem Ago (x:Cj) (n:Int) (v:Value) (F:List Nat) (t0:0≤x.Aa.Ak) (t1:x.Aa.Ak≤65535) (hm:x.holds.length≤1000) (hn:Sx x.holds) (n0:-1≤n) (n1:n≤65536) :
  Fn prog 187 [v,.int .i64 n] [.isv Dh v x F] [] (fun (_:Unit)=>True) (fun _=>.tuple #[.int .i64 (Ei x.Aa.Ak x.holds n:Nat),.bool (Lg x.Aa.Ak x.holds n)]) (fun _=>[]):=by
 refine enter func187 rfl ntmps187 fun w0=>?_
 refine Ej ?_
 rintro a1 c1 F1 a2 c2 F2 rfl l1 l2
 refine go ?_;intros
 refine Ds [1,2,4,5] (fun k:Nat=>[(6,.int .i64 (k:Nat))]) (fun k=>k≤x.holds.length∧∀j (_:j < k) (h:j < x.holds.length),gp x.Aa.Ak x.holds[j].Ac < gp x.Aa.Ak n) (fun k=>x.holds.length - k) 0 ⟨Nat.zero_le _,fun j h=>by omega⟩ fun k hk=>?_
 obtain ⟨hk1,hk2⟩:=hk
 by_cases hlt:k < x.holds.length
 ·obtain ⟨m0,m1⟩:=hn x.holds[k] (List.getElem_mem hlt)
  refine Pl (xs:=x.holds) k ?_
  rintro hi b o e
  rw [e]
  refine go ?_;intros
  refine Av [0,1] [] ?_
  refine dt 0 ?_
  refine dt 1 ?_
  refine dt 2 ?_
  refine dt 3 ?_
  refine dt 4 ?_
  rw [decide_eq_true (show (k:Int) < x.holds.length by omega)]
  refine dt 5 ?_
  refine Dm 6 ?_
  refine Dm 7 ?_
  refine Dm 8 ?_
  refine Dm 9 ?_
  refine Dm 10 ?_
  refine Dm 11 ?_
  refine Dm 12 ?_
  refine Dm 13 ?_
  refine Dm 14 ?_
  refine Dm 16 ?_
  refine Dm 17 ?_
  refine Dm 18 ?_
  refine Dm 19 ?_
  refine Xg 15 ?_
  apply On.h
  apply At;rfl;kernel_rfl;exact Bb
  refine ce (fun w s=>Hl _ _ _ (by omega) (by omega)) ?_
  refine dk ?_
  refine Xg 20 ?_
  apply On.h
  apply At;rfl;kernel_rfl;exact Bb
  refine ce (fun w s=>Hl _ _ _ (by omega) (by omega)) ?_
  refine dk ?_
  refine Dm 21 ?_
  refine dt 22 ?_
  refine dd ?_
  refine go ?_;intros
  refine Bd rfl (fun h=>?_) (fun h=>?_)
  ·refine go ?_;intros
   refine Co (k+1) ⟨hlt,fun j hj hh=>?_⟩ (by omega)
   rcases Nat.lt_or_eq_of_le (Nat.lt_succ_iff.1 hj) with h2|rfl
   ·exact hk2 j h2 hh
   ·exact h
  ·have hh:Ei x.Aa.Ak x.holds n=k:=Ru hk1 (fun j hj h=>decide_eq_true (hk2 j hj h)) (fun _=>decide_eq_false h)
   have ht:Lg x.Aa.Ak x.holds n=decide (x.holds[k].Ac=n):=by unfold Lg;rw [hh,List.getElem?_eq_getElem hlt]
   rw [ht,hh]
   refine go ?_;intros
   refine Av [0,1] [] ?_
   refine dt 0 ?_
   refine dt 1 ?_
   refine dt 2 ?_
   refine dt 3 ?_
   refine dt 4 ?_
   refine dt 5 ?_
   rw [decide_eq_true (show (k:Int) < x.holds.length by omega)]
   refine dt 6 ?_
   refine Dm 7 ?_
   refine Dm 8 ?_
   refine Dm 9 ?_
   refine Dm 10 ?_
   refine Dm 11 ?_
   refine Dm 12 ?_
   refine Dm 13 ?_
   refine Dm 14 ?_
   refine dt 15 ?_
   refine dt 16 ?_
   refine dt 17 ?_
   refine dd ?_
   refine go ?_;intros
   refine ret () trivial rfl
 ·have hh:Ei x.Aa.Ak x.holds n=k:=Ru hk1 (fun j hj h=>decide_eq_true (hk2 j hj h)) (fun h=>absurd h hlt)
  have ht:Lg x.Aa.Ak x.holds n=false:=by unfold Lg;rw [hh,List.getElem?_eq_none (by omega)]
  rw [ht,hh]
  refine go ?_;intros
  refine Av [0] [] ?_
  refine dt 0 ?_
  refine dt 1 ?_
  refine dt 2 ?_
  refine dt 3 ?_
  refine dt 4 ?_
  rw [decide_eq_false (show ¬(k:Int) < x.holds.length by omega)]
  refine dt 5 ?_
  refine ds 6 ?_
  refine ds 7 ?_
  refine ds 8 ?_
  refine ds 9 ?_
  refine ds 10 ?_
  refine ds 11 ?_
  refine ds 12 ?_
  refine ds 13 ?_
  refine ds 14 ?_
  refine ds 15 ?_
  refine ds 16 ?_
  refine ds 17 ?_
  refine ds 18 ?_
  refine ds 19 ?_
  refine ds 20 ?_
  refine ds 21 ?_
  refine dt 22 ?_
  refine dd ?_
  refine go ?_;intros
  refine Av [0] [] ?_
  refine dt 0 ?_
  refine dt 1 ?_
  refine dt 2 ?_
  refine dt 3 ?_
  refine dt 4 ?_
  refine dt 5 ?_
  rw [decide_eq_false (show ¬(k:Int) < x.holds.length by omega)]
  refine dt 6 ?_
  refine ds 7 ?_
  refine ds 8 ?_
  refine ds 9 ?_
  refine ds 10 ?_
  refine ds 11 ?_
  refine ds 12 ?_
  refine ds 13 ?_
  refine ds 14 ?_
  refine dt 15 ?_
  refine dt 16 ?_
  refine dt 17 ?_
  refine dd ?_
  refine go ?_;intros
  refine ret () trivial rfl
theorem Sr (x:Cj) (p:Aw) (v:Value) (F:List Nat) (t0:0≤x.Aa.Ak) (t1:x.Aa.Ak≤65535) (hl:x.Aa.Aj.length≤6) (k0:0≤x.Ai) (k1:x.Ai≤99999) (hm:x.holds.length≤900) (hn:Sx x.holds) (n0:-1≤p.Ac) (n1:p.Ac≤65536) (hps:p.data.size≤maxLen) (hans:(Da x.Aa p).1.data.size≤maxLen) :
  Fn prog 125 [v,.agg #[.int .i64 p.Cm,.int .i64 p.Ac,.int .i64 p.Ak,.int .i64 p.Dy,.string p.data]] [.isv Dh v x F] [] (fun (_:TiS)=>True) (fun s=>.tuple #[.agg #[.int .i64 (Ke x p.Ac).Aa.Ak,.int .i64 (Ke x p.Ac).Aa.size,.slice s.a (Ke x p.Ac).Aa.Aj.length s.c,.int .i64 (Ke x p.Ac).Ai,.int .i64 (Ke x p.Ac).quiet,.slice s.a2 (Ke x p.Ac).holds.length s.c2],.slice s.ae (Lo x p).length s.ce])
   (fun s=>[.isv Dh (.agg #[.int .i64 (Ke x p.Ac).Aa.Ak,.int .i64 (Ke x p.Ac).Aa.size,.slice s.a (Ke x p.Ac).Aa.Aj.length s.c,.int .i64 (Ke x p.Ac).Ai,.int .i64 (Ke x p.Ac).quiet,.slice s.a2 (Ke x p.Ac).holds.length s.c2]) (Ke x p.Ac) s.F,.ow Al 110 (.slice s.ae (Lo x p).length s.ce) (Lo x p) s.Fe]):=by
 refine enter func125 rfl ntmps125 fun w0=>?_
 refine Ej ?_
 rintro a1 c1 F1 a2 c2 F2 rfl l1 l2
 refine B9 x.Aa (a1:=a1) ?_
 generalize F1=F3
 refine go ?_;intros
 refine Ep [2,3,4,5] [0,1,2,3,4,5,6] (fun s:RjS=>[(6,Eo s.g 0 0)]) (fun s=>[.row s.g 32 0 [] [.int .i64 x.Aa.Ak,.int .i64 x.Aa.size,.slice s.a x.Aa.Aj.length s.c,.int .i64 x.Ai,.int .i64 x.quiet,.slice s.a2 (Fj x.Aa x.Ai x.holds).length s.c2] [],.isv Dh (.agg #[.int .i64 x.Aa.Ak,.int .i64 x.Aa.size,.slice s.a x.Aa.Aj.length s.c,.int .i64 x.Ai,.int .i64 x.quiet,.slice s.a2 (Fj x.Aa x.Ai x.holds).length s.c2]) (Rx x x.Aa) s.F]) (fun _=>True) ?_ fun s _=>?_
 ·refine Jq ?_;intros
  refine Av [1,2] [] ?_
  refine dt 0 ?_
  refine dt 1 ?_
  refine dt 2 ?_
  refine Nn 3 5 (by kernel_rfl) (by rw [List.getElem?_toArray];rfl) (by rw [List.getElem?_toArray];rfl) ?_ ?_
  ·apply At;rfl;kernel_rfl;exact Bb
   refine cf (Oi x.Aa _ F3 t0 t1 (by omega)) fun y _=>?_
   refine Ao ?_
   refine Hw ?_
   rintro a5 c5 F5 e5 l5
   rw [e5]
   refine Ax (xs:=x.Aa.Aj) fun F8=>?_
   refine B9 x.Aa (a1:=a5) ?_
   refine dk ?_
   refine Nn 4 5 (by kernel_rfl) (by rw [List.getElem?_toArray];rfl) (by rw [List.getElem?_toArray];rfl) ?_ ?_
   ·apply At;rfl;kernel_rfl;exact Bb
    refine cf (O0 x x.Aa _ _ F _ t0 t1 (by omega) hn) fun z _=>?_
    refine Ao ?_
    refine dk ?_
    refine dO 5 (by kernel_rfl) (by rw [List.getElem?_toArray];rfl) ?_
    apply Bv;rfl;intro _
    refine dk ?_
    refine dO 6 (by kernel_rfl) (by rw [List.getElem?_toArray];rfl) ?_
    apply Cf;rfl;rfl;rfl;(first|exact AggC.s|exact OneC.s);rfl;exact Ci;exact Cg;rfl
    refine dk ?_
    refine dd ?_
    refine go ?_;intros
    refine B6 (⟨_,z.a,z.c,z.a2,z.c2,z.F⟩:RjS) trivial
   ·apply Bv;rfl;intro _
    refine dk ?_
    refine dO 4 (by kernel_rfl) (by rw [List.getElem?_toArray];rfl) ?_
    apply At;rfl;kernel_rfl;exact Bb
    refine cf (O0 x x.Aa _ _ F _ t0 t1 (by omega) hn) fun z _=>?_
    refine Ao ?_
    refine dk ?_
    refine dO 6 (by kernel_rfl) (by rw [List.getElem?_toArray];rfl) ?_
    apply Cf;rfl;rfl;rfl;(first|exact AggC.s|exact OneC.s);rfl;exact Ci;exact Cg;rfl
    refine dk ?_
    refine dd ?_
    refine go ?_;intros
    refine B6 (⟨_,z.a,z.c,z.a2,z.c2,z.F⟩:RjS) trivial
  ·apply Bv;rfl;intro _
   refine dk ?_
   refine dO 3 (by kernel_rfl) (by rw [List.getElem?_toArray];rfl) ?_
   apply At;rfl;kernel_rfl;exact Bb
   refine cf (Oi x.Aa _ F3 t0 t1 (by omega)) fun y _=>?_
   refine Ao ?_
   refine Hw ?_
   rintro a5 c5 F5 e5 l5
   rw [e5]
   refine Ax (xs:=x.Aa.Aj) fun F8=>?_
   refine B9 x.Aa (a1:=a5) ?_
   refine dk ?_
   refine dO 4 (by kernel_rfl) (by rw [List.getElem?_toArray];rfl) ?_
   apply At;rfl;kernel_rfl;exact Bb
   refine cf (O0 x x.Aa _ _ F _ t0 t1 (by omega) hn) fun z _=>?_
   refine Ao ?_
   refine dk ?_
   refine dO 6 (by kernel_rfl) (by rw [List.getElem?_toArray];rfl) ?_
   apply Cf;rfl;rfl;rfl;(first|exact AggC.s|exact OneC.s);rfl;exact Ci;exact Cg;rfl
   refine dk ?_
   refine dd ?_
   refine go ?_;intros
   refine B6 (⟨_,z.a,z.c,z.a2,z.c2,z.F⟩:RjS) trivial
 refine go ?_;intros
 refine cb (fun w st=>(Sg x.Aa p.Ac _ F3 t0 t1 n0 n1).val w (Ia (st.get (p:=.isv Br (.agg #[.int .i64 x.Aa.Ak,.int .i64 x.Aa.size,.slice a1 x.Aa.Aj.length c1]) x.Aa F3) (by simp)))) ?_
 cases hb:Gw x.Aa p.Ac
 ·have e1:Ke x p.Ac=Rx x x.Aa:=by unfold Ke;rw [hb];rfl
  have e2:Lo x p=[N7 x.Aa]:=by unfold Lo;rw [hb];rfl
  rw [e1,e2]
  refine go ?_;intros
  refine Av [0,4] [] ?_
  refine dt 0 ?_
  refine dt 1 ?_
  refine dt 2 ?_
  refine dO 3 (by kernel_rfl) (by rw [List.getElem?_toArray];rfl) ?_
  apply At;rfl;kernel_rfl;exact Bb
  refine cf (Tk x.Aa.Ak x.Aa.size _ x.Aa.Aj.length _ t0 t1 (by omega)) fun _ _=>?_
  refine Ao ?_
  refine dk ?_
  refine Nn 4 5 (by kernel_rfl) (by rw [List.getElem?_toArray];rfl) (by rw [List.getElem?_toArray];rfl) ?_ ?_
  ·apply Hh;rfl;rfl;rfl;rfl;exact Gz;exact Gp;intro _
   refine dk ?_
   refine dO 5 (by kernel_rfl) (by rw [List.getElem?_toArray];rfl) ?_
   apply Cf;rfl;rfl;rfl;(first|exact AggC.s|exact OneC.s);rfl;exact Ci;exact Cg;rfl
   refine dk ?_
   refine dt 6 ?_
   refine dd ?_
   refine go ?_;intros
   refine Ee (xs:=[N7 x.Aa]) (Cz _ (by show (⟨#[]⟩:ByteArray).size≤maxLen;decide)) ?_ (by simp)
   refine ret ⟨s.a,s.c,s.a2,s.c2,s.F,_,_,_⟩ trivial rfl
  ·apply Cf;rfl;rfl;rfl;(first|exact AggC.s|exact OneC.s);rfl;exact Ci;exact Cg;rfl
   refine dk ?_
   refine dO 4 (by kernel_rfl) (by rw [List.getElem?_toArray];rfl) ?_
   apply Hh;rfl;rfl;rfl;rfl;exact Gz;exact Gp;intro _
   refine dk ?_
   refine dt 6 ?_
   refine dd ?_
   refine go ?_;intros
   refine Ee (xs:=[N7 x.Aa]) (Cz _ (by show (⟨#[]⟩:ByteArray).size≤maxLen;decide)) ?_ (by simp)
   refine ret ⟨s.a,s.c,s.a2,s.c2,s.F,_,_,_⟩ trivial rfl
 refine go ?_;intros
 refine Av [3,4] [] ?_
 refine dt 0 ?_
 refine dt 1 ?_
 refine dt 2 ?_
 refine dt 3 ?_
 refine dt 4 ?_
 refine dt 5 ?_
 refine dt 6 ?_
 refine dO 7 (by kernel_rfl) (by rw [List.getElem?_toArray];rfl) ?_
 apply At;rfl;kernel_rfl;exact Bb
 refine cb (fun w _=>Rm _ _ _ _ _ w t0 t1 (by omega)) ?_
 refine dk ?_
 refine dt 8 ?_
 refine dO 9 (by kernel_rfl) (by rw [List.getElem?_toArray];rfl) ?_
 apply Hh;rfl;rfl;rfl;rfl;exact Gz;exact Gp;intro _
 refine dk ?_
 refine dt 10 ?_
 refine dd ?_
 refine Jq ?_;intros
 refine Ee (xs:=[T3 x.Aa p.Ac]) (Cz _ (by show (⟨#[]⟩:ByteArray).size≤maxLen;decide)) ?_ (by simp)
 refine go ?_;intros
 refine cf (Ago x p.Ac _ F t0 t1 (by omega) hn n0 n1) fun _ _=>?_
 refine Ao ?_
 cases ht:Lg x.Aa.Ak x.holds p.Ac
 ·have e1:Ke x p.Ac=⟨x.Aa,x.Ai,x.quiet,(Ir x.holds (Ei x.Aa.Ak x.holds p.Ac) ⟨p.Ac,x.Ai+3⟩)⟩:=by unfold Ke;rw [hb,ht];rfl
  have e2:Lo x p=[T3 x.Aa p.Ac]++[(Da x.Aa p).1]:=by unfold Lo;rw [hb,ht];rfl
  rw [e1,e2]
  have hkk:=Sf x.Aa.Ak x.holds p.Ac
  refine Qw (E:=Bi) (xs:=x.holds) ?_
  rintro _ _ e8 q1 q2
  cases e8
  refine go ?_;intros
  refine cb (fun w st=>(Yo x.Aa p _ F3 hps).val w (Ia (st.get (p:=.isv Br (.agg #[.int .i64 x.Aa.Ak,.int .i64 x.Aa.size,.slice a1 x.Aa.Aj.length c1]) x.Aa F3) (by simp)))) ?_
  refine go ?_;intros
  refine Afl (E:=Bi) (xs:=x.holds) (Ei x.Aa.Ak x.holds p.Ac) (fun FT=>?_) hkk
  obtain ⟨T1,hT1⟩:∃T1,T1=x.holds.take (Ei x.Aa.Ak x.holds p.Ac):=⟨_,rfl⟩
  have hT1l:T1.length=Ei x.Aa.Ak x.holds p.Ac:=by rw [hT1,List.length_take];omega
  rw [←hT1]
  have hAdd:T1++[⟨p.Ac,x.Ai+3⟩]++x.holds.drop (Ei x.Aa.Ak x.holds p.Ac)=(Ir x.holds (Ei x.Aa.Ak x.holds p.Ac) ⟨p.Ac,x.Ai+3⟩):=by rw [hT1];unfold Ir;simp
  refine Ep [4,5,6,7,10] [0,1,2,3,5,6,7,8,9,10,11,12] (fun _:Ak1=>[]) (fun z=>[.row s.g 32 0 [] [.int .i64 x.Aa.Ak,.int .i64 x.Aa.size,.slice s.a x.Aa.Aj.length s.c,.int .i64 x.Ai,.int .i64 x.quiet,.slice z.a (Ir x.holds (Ei x.Aa.Ak x.holds p.Ac) ⟨p.Ac,x.Ai+3⟩).length z.c] [],.ow Bi 134 (.slice z.a (Ir x.holds (Ei x.Aa.Ak x.holds p.Ac) ⟨p.Ac,x.Ai+3⟩).length z.c) (Ir x.holds (Ei x.Aa.Ak x.holds p.Ac) ⟨p.Ac,x.Ai+3⟩) z.F]) (fun _=>True) ?_ fun z _=>?_
  ·refine Jq ?_;intros
   refine Av [1,8] [] ?_
   refine dt 1 ?_
   refine dt 2 ?_
   refine dt 3 ?_
   refine dt 4 ?_ (hy:=Lt (i:=T1.length) rfl rfl (by rw [hT1l]) (by omega) (by omega))
   refine dt 6 ?_
   refine dt 9 ?_
   refine dt 10 ?_
   refine dt 11 ?_
   refine Adt 12 (Ei x.Aa.Ak x.holds p.Ac) (fun a6 c6 F6=>?_)
   refine Nn 0 7 (by kernel_rfl) (by rw [List.getElem?_toArray];rfl) (by rw [List.getElem?_toArray];rfl) ?_ ?_
   ·apply Ja;rfl;intro _
    refine C1 Bi ?_
    refine dk ?_
    refine Nn 5 7 (by kernel_rfl) (by rw [List.getElem?_toArray];rfl) (by rw [List.getElem?_toArray];rfl) ?_ ?_
    ·refine Kx (ys:=T1) Hi I4 fun a7 c7 F7=>?_
     rw [List.nil_append]
     refine dk ?_
     refine dO 7 (by kernel_rfl) (by rw [List.getElem?_toArray];rfl) ?_
     apply Hh;rfl;rfl;rfl;rfl;exact Gz;exact Gp;intro _
     refine dk ?_
     refine dO 8 (by kernel_rfl) (by rw [List.getElem?_toArray];rfl) ?_
     refine Lh (P8 ⟨p.Ac,x.Ai+3⟩) Hi fun a8 c8 F8=>?_
     refine dk ?_
     refine dO 13 (by kernel_rfl) (by rw [List.getElem?_toArray];rfl) ?_
     refine Kx (ys:=x.holds.drop (Ei x.Aa.Ak x.holds p.Ac)) Hi I4 (h63:=by simp;omega) (hby:=by simp;omega) fun a9 c9 F9=>?_
     refine dk ?_
     refine dt 14 ?_
     refine dO 15 (by kernel_rfl) (by rw [List.getElem?_toArray];rfl) ?_
     apply Cf;rfl;rfl;rfl;(first|exact AggC.s|exact OneC.s);rfl;exact Ci;exact Cg;rfl
     refine dk ?_
     refine dd ?_
     refine go ?_;intros
     rw [hAdd]
     refine B6 (⟨a9,c9,F9⟩:Ak1) trivial
    ·apply Hh;rfl;rfl;rfl;rfl;exact Gz;exact Gp;intro _
     refine dk ?_
     refine dO 5 (by kernel_rfl) (by rw [List.getElem?_toArray];rfl) ?_
     refine Kx (ys:=T1) Hi I4 fun a7 c7 F7=>?_
     rw [List.nil_append]
     refine dk ?_
     refine dO 8 (by kernel_rfl) (by rw [List.getElem?_toArray];rfl) ?_
     refine Lh (P8 ⟨p.Ac,x.Ai+3⟩) Hi fun a8 c8 F8=>?_
     refine dk ?_
     refine dO 13 (by kernel_rfl) (by rw [List.getElem?_toArray];rfl) ?_
     refine Kx (ys:=x.holds.drop (Ei x.Aa.Ak x.holds p.Ac)) Hi I4 (h63:=by simp;omega) (hby:=by simp;omega) fun a9 c9 F9=>?_
     refine dk ?_
     refine dt 14 ?_
     refine dO 15 (by kernel_rfl) (by rw [List.getElem?_toArray];rfl) ?_
     apply Cf;rfl;rfl;rfl;(first|exact AggC.s|exact OneC.s);rfl;exact Ci;exact Cg;rfl
     refine dk ?_
     refine dd ?_
     refine go ?_;intros
     rw [hAdd]
     refine B6 (⟨a9,c9,F9⟩:Ak1) trivial
   ·apply Hh;rfl;rfl;rfl;rfl;exact Gz;exact Gp;intro _
    refine dk ?_
    refine dO 0 (by kernel_rfl) (by rw [List.getElem?_toArray];rfl) ?_
    apply Ja;rfl;intro _
    refine C1 Bi ?_
    refine dk ?_
    refine dO 5 (by kernel_rfl) (by rw [List.getElem?_toArray];rfl) ?_
    refine Kx (ys:=T1) Hi I4 fun a7 c7 F7=>?_
    rw [List.nil_append]
    refine dk ?_
    refine dO 8 (by kernel_rfl) (by rw [List.getElem?_toArray];rfl) ?_
    refine Lh (P8 ⟨p.Ac,x.Ai+3⟩) Hi fun a8 c8 F8=>?_
    refine dk ?_
    refine dO 13 (by kernel_rfl) (by rw [List.getElem?_toArray];rfl) ?_
    refine Kx (ys:=x.holds.drop (Ei x.Aa.Ak x.holds p.Ac)) Hi I4 (h63:=by simp;omega) (hby:=by simp;omega) fun a9 c9 F9=>?_
    refine dk ?_
    refine dt 14 ?_
    refine dO 15 (by kernel_rfl) (by rw [List.getElem?_toArray];rfl) ?_
    apply Cf;rfl;rfl;rfl;(first|exact AggC.s|exact OneC.s);rfl;exact Ci;exact Cg;rfl
    refine dk ?_
    refine dd ?_
    refine go ?_;intros
    rw [hAdd]
    refine B6 (⟨a9,c9,F9⟩:Ak1) trivial
  refine Ej (x:=Rx x x.Aa) ?_
  rintro b1 d1 G1 b2 d2 G2 e5 m1 m2
  simp only [Value.agg.injEq,Array.mk.injEq,List.cons.injEq,Value.slice.injEq,Value.int.injEq,true_and,and_true] at e5
  obtain ⟨-, -,⟨rfl, -,rfl⟩, -⟩:=e5
  refine Ax (E:=Bi) fun F9=>?_
  refine Dt ⟨x.Aa,x.Ai,x.quiet,(Ir x.holds (Ei x.Aa.Ak x.holds p.Ac) ⟨p.Ac,x.Ai+3⟩)⟩ (a1:=s.a) ?_
  refine go ?_;intros
  refine Av [4,7] [] ?_
  refine dt 0 ?_
  refine dt 1 ?_
  refine dt 2 ?_
  refine dO 3 (by kernel_rfl) (by rw [List.getElem?_toArray];rfl) ?_
  apply Hh;rfl;rfl;rfl;rfl;exact Gz;exact Gp;intro _
  refine dk ?_
  refine dO 4 (by kernel_rfl) (by rw [List.getElem?_toArray];rfl) ?_
  refine Lh (Cz (Da x.Aa p).1 hans) Gn fun a9 c9 F9=>?_
  refine dk ?_
  refine dO 5 (by kernel_rfl) (by rw [List.getElem?_toArray];rfl) ?_
  apply Cf;rfl;rfl;rfl;(first|exact AggC.s|exact OneC.s);rfl;exact Ci;exact Cg;rfl
  refine dk ?_
  refine dt 6 ?_
  refine dd ?_
  refine go ?_;intros
  refine ret ⟨s.a,s.c,z.a,z.c,_,a9,c9,F9⟩ trivial rfl
 ·have e1:Ke x p.Ac=Rx x x.Aa:=by unfold Ke;rw [hb,ht];rfl
  have e2:Lo x p=[T3 x.Aa p.Ac]:=by unfold Lo;rw [hb,ht];rfl
  rw [e1,e2]
  refine go ?_;intros
  refine ret ⟨s.a,s.c,s.a2,s.c2,s.F,_,_,_⟩ trivial rfl
theorem Aaw (x:Cj) (p:Aw) (v:Value) (F:List Nat) (hg:Cb x=true) (n0:0≤p.Ac) (n1:p.Ac≤65535) (hps:p.data.size≤maxLen) :
  Fn prog 125 [v,.agg #[.int .i64 p.Cm,.int .i64 p.Ac,.int .i64 p.Ak,.int .i64 p.Dy,.string p.data]] [.isv Dh v x F] [] (fun (_:TiS)=>True) (fun s=>.tuple #[.agg #[.int .i64 (Jr x p.Ac).Aa.Ak,.int .i64 (Jr x p.Ac).Aa.size,.slice s.a (Jr x p.Ac).Aa.Aj.length s.c,.int .i64 (Jr x p.Ac).Ai,.int .i64 (Jr x p.Ac).quiet,.slice s.a2 (Jr x p.Ac).holds.length s.c2],.slice s.ae (Lo x p).length s.ce])
   (fun s=>[.isv Dh (.agg #[.int .i64 (Jr x p.Ac).Aa.Ak,.int .i64 (Jr x p.Ac).Aa.size,.slice s.a (Jr x p.Ac).Aa.Aj.length s.c,.int .i64 (Jr x p.Ac).Ai,.int .i64 (Jr x p.Ac).quiet,.slice s.a2 (Jr x p.Ac).holds.length s.c2]) (Jr x p.Ac) s.F,.ow Al 110 (.slice s.ae (Lo x p).length s.ce) (Lo x p) s.Fe]):=by
 obtain ⟨gw,hl,t0,t1,k0,k1,hm,hn,hu,hb⟩:=Mk hg
 have h:=Sr x p v F t0 t1 hl k0 (by omega) (by omega) (W0 hn) (by omega) (by omega) hps (Xb gw)
 rw [Aj3 hg] at h
 exact h
structure JU where
 g:Nat
 b:Option Addr
 d:Nat
 F:List Nat
theorem Alw (n:En) (i:Nat) (p:Aw) (a1:Option Addr) (c1:Nat) (a4:Option Addr) (c4:Nat) (a5:Option Addr) (c5:Nat) (a6:Option Addr) (c6:Nat) (a7:Option Addr) (c7:Nat) (a2 a3:Option Addr) (c2 c3:Nat) (F1 FS:List Nat) (z:SZ) (hl:Iw n=true) (h0:i≠0) (hi:i < n.Ar.Ad.length) (h8:Mu n.Ar.Ad) (hsrc:Cb n.Ab=true) (he:∀k,k≠0→k < n.Ar.Ad.length→Hj n.Ar.Ad (k:Nat)=false→Bc (So n k)=true) (hp:Bk p=true) (hps:p.data.size≤maxLen) (hd:∀q∈n.down,q.length≤6) (hu:∀q∈n.up,q.length≤6) :
  Fn prog 93 [.agg #[.slice a1 n.Ar.Ad.length c1,.int .i64 n.Ab.Aa.Ak,.int .i64 n.Ab.Aa.size,.slice a2 n.Ab.Aa.Aj.length c2,.int .i64 n.Ab.Ai,.int .i64 n.Ab.quiet,.slice a3 n.Ab.holds.length c3,.slice a4 n.Ar.Ad.length c4,.slice a5 n.Ar.Ad.length c5,.slice a6 n.Ar.Ad.length c6,.slice a7 n.Ar.Ad.length c7],.int .i64 (i:Nat),.agg #[.int .i64 (p).Cm,.int .i64 (p).Ac,.int .i64 (p).Ak,.int .i64 (p).Dy,.string (p).data]] [.sl Be (.slice a1 n.Ar.Ad.length c1) n.Ar.Ad F1,.isv Dh (.agg #[.int .i64 n.Ab.Aa.Ak,.int .i64 n.Ab.Aa.size,.slice a2 n.Ab.Aa.Aj.length c2,.int .i64 n.Ab.Ai,.int .i64 n.Ab.quiet,.slice a3 n.Ab.holds.length c3]) n.Ab FS,.isv (EA Bh n.Ar.Ad.length) (.agg z.e.ys.flatten.toArray) n.Ah z.e.G,.isv (EA Bn n.Ar.Ad.length) (.agg z.r.ys.flatten.toArray) n.Ae z.r.G,.isv (EA (Kj Al (by decide)) n.Ar.Ad.length) (.agg z.d.ys.flatten.toArray) n.down z.d.G,.isv (EA (Kj Al (by decide)) n.Ar.Ad.length) (.agg z.u.ys.flatten.toArray) n.up z.u.G] [.ow (EC 2) 77 (.slice a4 n.Ar.Ad.length c4) z.e.ys z.e.F,.ow (EC 5) 84 (.slice a5 n.Ar.Ad.length c5) z.r.ys z.r.F,.ow (EC 1) 86 (.slice a6 n.Ar.Ad.length c6) z.d.ys z.d.F,.ow (EC 1) 86 (.slice a7 n.Ar.Ad.length c7) z.u.ys z.u.F] (fun (_:SZ × Aaj)=>True) (fun y=>.agg #[.int .i64 ((Nd n i p).Ab).Aa.Ak,.int .i64 ((Nd n i p).Ab).Aa.size,.slice y.2.a ((Nd n i p).Ab).Aa.Aj.length y.2.c,.int .i64 ((Nd n i p).Ab).Ai,.int .i64 ((Nd n i p).Ab).quiet,.slice y.2.a2 ((Nd n i p).Ab).holds.length y.2.c2]) (fun y=>[.ow (EC 2) 77 (.slice a4 n.Ar.Ad.length c4) y.1.e.ys y.1.e.F,.ow (EC 5) 84 (.slice a5 n.Ar.Ad.length c5) y.1.r.ys y.1.r.F,.ow (EC 1) 86 (.slice a6 n.Ar.Ad.length c6) y.1.d.ys y.1.d.F,.ow (EC 1) 86 (.slice a7 n.Ar.Ad.length c7) y.1.u.ys y.1.u.F,.isv (EA Bh n.Ar.Ad.length) (.agg y.1.e.ys.flatten.toArray) (Nd n i p).Ah y.1.e.G,.isv (EA Bn n.Ar.Ad.length) (.agg y.1.r.ys.flatten.toArray) (Nd n i p).Ae y.1.r.G,.isv (EA (Kj Al (by decide)) n.Ar.Ad.length) (.agg y.1.d.ys.flatten.toArray) (Nd n i p).down y.1.d.G,.isv (EA (Kj Al (by decide)) n.Ar.Ad.length) (.agg y.1.u.ys.flatten.toArray) (Nd n i p).up y.1.u.G,.isv Dh (.agg #[.int .i64 ((Nd n i p).Ab).Aa.Ak,.int .i64 ((Nd n i p).Ab).Aa.size,.slice y.2.a ((Nd n i p).Ab).Aa.Aj.length y.2.c,.int .i64 ((Nd n i p).Ab).Ai,.int .i64 ((Nd n i p).Ab).quiet,.slice y.2.a2 ((Nd n i p).Ab).holds.length y.2.c2]) (Nd n i p).Ab y.2.F]):=by
 obtain ⟨q1,q2,q3,q4⟩:=Bz.1 hl
 have hn8:=h8.n1
 obtain ⟨n0,n1⟩:=If hp
 have hone:∀x∈[((i:Nat):Int)],0≤x∧x.toNat < n.down.length:=fun x hx=>by
  rw [List.mem_singleton] at hx;subst hx;omega
 obtain ⟨k,hk⟩:∃k,X8 n i=k:=⟨_,rfl⟩
 obtain ⟨e1,e2,e3⟩:=Afb h8 hi h0 hk
 refine enter func93 rfl ntmps93 fun w0=>?_
 refine Il (xs:=n.Ar.Ad) i ?_
 rintro hi2 b o e4
 rw [e4,e1]
 refine go ?_;intros
 refine Bd rfl (fun h5=>?_) (fun h5=>?_)
 ·obtain rfl:k=0:=by omega
  rw [show Nd n i p=⟨n.Ar,Jr n.Ab p.Ac,n.Ah,n.Ae,Dk n.down [((i:Nat):Int)] (Lo n.Ab p),n.up⟩ by unfold Nd;rw [if_pos hk]]
  refine go ?_;intros
  refine cf (Aaw n.Ab p _ FS hsrc n0 n1 hps) fun u _=>?_
  refine Ao ?_
  refine Jq ?_;intros
  refine Ee (E:=Be) (xs:=[((i:Nat):Int)]) (Mo _) ?_ (by simp)
  refine Ax (E:=Be) (xs:=[((i:Nat):Int)]) fun Fo=>?_
  refine Ax (E:=Al) (xs:=Lo n.Ab p) fun Fq=>?_
  refine go ?_;intros
  refine cf (Ko n.down [((i:Nat):Int)] (Lo n.Ab p) _ _ _ _ _ _ _ _ _ _ _ _ _ _ _ _ _ _ _ _ _ _ _ _ _ z.d.ys z.d.F z.d.G _ _ Fo _ _ Fq hone hd) fun y _=>?_
  refine Ao ?_
  refine go ?_;intros
  refine ret (⟨⟨z.e,z.r,⟨y.ys,y.F,y.G⟩,z.u⟩,⟨u.a,u.c,u.a2,u.c2,u.F⟩⟩:SZ × Aaj) trivial rfl
 have h6:k≠0:=by omega
 have hkl:k < n.Ah.length:=by omega
 have hku:k < n.up.length:=by omega
 have hge:Bc n.Ah[k]=true:=Is hkl▸he k h6 (by omega) e3
 have hel:=(Ew.1 hge).2.1
 obtain ⟨hc0,hc1⟩:=J4.1 (Ew.1 hge).1
 rw [show Nd n i p=⟨n.Ar,n.Ab,n.Ah.set k (Ki n.Ah[k] p.Ac ((i:Nat):Int)),n.Ae,Dk n.down [((i:Nat):Int)] [Uy p],if Wi n.Ah[k] p.Ac then n.up.modify k fun q=>E5 q [p] else n.up⟩ by unfold Nd;rw [if_neg (by omega),hk,Is hkl]]
 refine go ?_;intros
 refine Ed (ys:=z.e.ys) fun hm hlr=>?_
 refine Yn (E:=Bh) (ys:=z.e.ys) (xs:=n.Ah) k hm (by omega) (by omega) fun h2 h3 v Gi ev=>?_
 refine Eb (v:=v) (x:=n.Ah[k]) ?_
 rintro b1 d1 G1 rfl l1
 have e8:z.e.ys[k]=[.int .i64 n.Ah[k].Ai,.slice b1 n.Ah[k].Af.length d1]:=by simpa using ev.symm
 refine Ob (E:=EC 2) (xs:=z.e.ys) (m:=2) (E7 2) k ?_ (by repeat (first|exact .here|apply Cu.there)) rfl h2
 rintro _ g A cs B rfl k2 k3 hH
 obtain ⟨k4, -, -⟩:=k3 w0
 rw [e8] at k4
 subst k4
 dsimp only [List.append]
 refine go ?_;intros
 refine Ep [1,3,5,6,7] [0,1,2,3,4,5,6,7,8,9,10,11,12,13,14,15] (fun w:JU=>[(10,Eo w.g 0 0),(11,.bool (Wi n.Ah[k] p.Ac))]) (fun w=>[.row w.g 77 0 [] [.int .i64 (Ki n.Ah[k] p.Ac ((i:Nat):Int)).Ai,.slice w.b (Ki n.Ah[k] p.Ac ((i:Nat):Int)).Af.length w.d] [],.isv Bh (.agg #[.int .i64 (Ki n.Ah[k] p.Ac ((i:Nat):Int)).Ai,.slice w.b (Ki n.Ah[k] p.Ac ((i:Nat):Int)).Af.length w.d]) (Ki n.Ah[k] p.Ac ((i:Nat):Int)) w.F]) (fun _=>True) ?_ fun w _=>?_
 ·skip
  refine Av [0,4,5] [] ?_
  refine dt 0 ?_
  refine dt 1 ?_
  refine dt 2 ?_
  refine dt 3 ?_
  refine dt 4 ?_
  refine dt 5 ?_
  refine dt 6 ?_
  refine dt 7 ?_
  refine Nn 8 12 (by kernel_rfl) (by rw [List.getElem?_toArray];rfl) (by rw [List.getElem?_toArray];rfl) ?_ ?_
  ·apply At;rfl;kernel_rfl;exact Bb
   refine cf (Ql n.Ah[k] p.Ac ((i:Nat):Int) _ Gi (by omega) (fun x hx=>by have:=Lw hge hx;omega) (by omega) (by omega)) fun s _=>?_
   refine Ao ?_
   refine Gg ?_
   rintro b3 d3 G3 es l3
   rw [es]
   refine Ey (Ki n.Ah[k] p.Ac ((i:Nat):Int)) ?_
   refine K9 I0 fun Fe=>?_
   refine dk ?_
   refine dt 9 ?_
   refine dt 10 ?_
   refine dt 11 ?_
   refine dO 12 (by kernel_rfl) (by rw [List.getElem?_toArray];rfl) ?_
   apply Bv;rfl;intro _
   refine dk ?_
   refine dO 13 (by kernel_rfl) (by rw [List.getElem?_toArray];rfl) ?_
   apply Cf;rfl;rfl;rfl;(first|exact AggC.s|exact OneC.s);rfl;exact Ci;exact Cg;rfl
   refine dk ?_
   refine dt 14 ?_
   refine dd ?_
   refine B6 (⟨_,b3,d3,Fe⟩:JU) trivial
  ·apply Bv;rfl;intro _
   refine dk ?_
   refine dO 8 (by kernel_rfl) (by rw [List.getElem?_toArray];rfl) ?_
   apply At;rfl;kernel_rfl;exact Bb
   refine cf (Ql n.Ah[k] p.Ac ((i:Nat):Int) _ Gi (by omega) (fun x hx=>by have:=Lw hge hx;omega) (by omega) (by omega)) fun s _=>?_
   refine Ao ?_
   refine Gg ?_
   rintro b3 d3 G3 es l3
   rw [es]
   refine Ey (Ki n.Ah[k] p.Ac ((i:Nat):Int)) ?_
   refine K9 I0 fun Fe=>?_
   refine dk ?_
   refine dt 9 ?_
   refine dt 10 ?_
   refine dt 11 ?_
   refine dO 13 (by kernel_rfl) (by rw [List.getElem?_toArray];rfl) ?_
   apply Cf;rfl;rfl;rfl;(first|exact AggC.s|exact OneC.s);rfl;exact Ci;exact Cg;rfl
   refine dk ?_
   refine dt 14 ?_
   refine dd ?_
   refine B6 (⟨_,b3,d3,Fe⟩:JU) trivial
 refine Jq ?_;intros
 refine Nc (E:=EC 2) (xs:=z.e.ys) [.int .i64 (Ki n.Ah[k] p.Ac ((i:Nat):Int)).Ai,.slice w.b (Ki n.Ah[k] p.Ac ((i:Nat):Int)).Af.length w.d] hH (fun _=>⟨rfl,⟨rfl,by simp [Value.oneCell']⟩,rfl⟩) ?_
 refine Nb (E:=Bh) (ys:=z.e.ys) (xs:=n.Ah) (x:=Ki n.Ah[k] p.Ac ((i:Nat):Int)) k rfl hm (by omega) fun G'=>?_
 refine Ee (E:=Be) (xs:=[((i:Nat):Int)]) (Mo _) ?_ (by simp)
 refine Ax (E:=Be) (xs:=[((i:Nat):Int)]) fun Fo=>?_
 refine Ee (E:=Al) (xs:=[Uy p]) (Cz (Uy p) (Nat.zero_le _)) ?_ (by simp)
 refine Ax (E:=Al) (xs:=[Uy p]) fun Fp=>?_
 refine go ?_;intros
 refine cf (Ko n.down [((i:Nat):Int)] [Uy p] _ _ _ _ _ _ _ _ _ _ _ _ _ _ _ _ _ _ _ _ _ _ _ _ _ z.d.ys z.d.F z.d.G _ _ Fo _ _ Fp hone hd) fun y _=>?_
 refine Ao ?_
 cases hf:Wi n.Ah[k] p.Ac
 ·rw [if_neg (by decide)]
  refine go ?_;intros
  refine ret (⟨⟨⟨z.e.ys.set k [.int .i64 (Ki n.Ah[k] p.Ac ((i:Nat):Int)).Ai,.slice w.b (Ki n.Ah[k] p.Ac ((i:Nat):Int)).Af.length w.d],[g],G'⟩,z.r,⟨y.ys,y.F,y.G⟩,z.u⟩,⟨a2,c2,a3,c3,FS⟩⟩:SZ × Aaj) trivial rfl
 ·rw [if_pos rfl,Hf hku]
  have hu6:=hu _ (List.getElem_mem hku)
  refine go ?_;intros
  refine Ed (ys:=z.u.ys) fun hmu hlu=>?_
  refine Ym (ys:=z.u.ys) (xs:=n.up) k hmu (by omega) (by omega) fun h9 _ Gu=>?_
  refine U2 (x:=n.up[k]) fun a9 c9 e9 l9=>?_
  have e10:z.u.ys[k]=[.slice a9 n.up[k].length c9]:=by simpa using e9
  refine Ob (E:=EC 1) (xs:=z.u.ys) (m:=1) (E7 1) k ?_ (by repeat (first|exact .here|apply Cu.there)) rfl h9
  rintro _ gu Au cs Bu rfl j2 j3 hHu
  obtain ⟨j4, -, -⟩:=j3 w0
  rw [e10] at j4
  subst j4
  refine go ?_;intros
  refine Av [0,14,15] [12] ?_
  refine dt 0 ?_
  refine dt 1 ?_
  refine dt 2 ?_
  refine dt 3 ?_
  refine dt 4 ?_
  refine dt 5 ?_
  refine dt 6 ?_
  refine dt 7 ?_
  refine dt 8 ?_
  refine dO 9 (by kernel_rfl) (by rw [List.getElem?_toArray];rfl) ?_
  apply Hh;rfl;rfl;rfl;rfl;exact Gz;exact Gp;intro _
  refine Ee (E:=Al) (xs:=[p]) (Cz p hps) ?_ (by simp)
  refine Ax (E:=Al) (xs:=[p]) fun Fp2=>?_
  refine dk ?_
  refine dO 10 (by kernel_rfl) (by rw [List.getElem?_toArray];rfl) ?_
  apply At;rfl;kernel_rfl;exact Bb
  refine cf (Xx n.up[k] [p] a9 c9 _ _ _ Fp2 (by omega)) fun r _=>?_
  refine Ao ?_
  refine dk ?_
  refine dt 11 ?_
  refine dO 12 (by kernel_rfl) (by rw [List.getElem?_toArray];rfl) ?_
  apply Cf;rfl;rfl;rfl;(first|exact AggC.s|exact OneC.s);rfl;exact Ci;exact Cg;rfl
  refine Lv ?_
  refine dd ?_
  refine Nc (E:=EC 1) (xs:=z.u.ys) [.slice r.a (E5 n.up[k] [p]).length r.c] hHu (fun w=>⟨rfl,⟨rfl,by simp [Value.oneCell']⟩,rfl⟩) ?_
  refine Ax (E:=Al) (xs:=E5 n.up[k] [p]) fun Fu=>?_
  refine To (E:=Al) (x:=E5 n.up[k] [p]) (by decide) ?_
  refine Nb (E:=Kj Al (by decide)) (ys:=z.u.ys) (xs:=n.up) (x:=E5 n.up[k] [p]) k rfl hmu (by omega) fun Gv=>?_
  refine go ?_;intros
  refine ret (⟨⟨⟨z.e.ys.set k [.int .i64 (Ki n.Ah[k] p.Ac ((i:Nat):Int)).Ai,.slice w.b (Ki n.Ah[k] p.Ac ((i:Nat):Int)).Af.length w.d],[g],G'⟩,z.r,⟨y.ys,y.F,y.G⟩,⟨z.u.ys.set k [.slice r.a (E5 n.up[k] [p]).length r.c],[gu],Gv⟩⟩,⟨a2,c2,a3,c3,FS⟩⟩:SZ × Aaj) trivial rfl
structure TkZ where
 k:Nat
 z:SZ
 a:Option Addr
 c:Nat
 F:List Nat
theorem Agy (n:En) (a1:Option Addr) (c1:Nat) (a4:Option Addr) (c4:Nat) (a5:Option Addr) (c5:Nat) (a6:Option Addr) (c6:Nat) (a7:Option Addr) (c7:Nat) (a2 a3:Option Addr) (c2 c3:Nat) (F1 FS FT:List Nat) (z:SZ) (hg:A8 n=true) (hc:n.Ab.Ai < 9999) :
  Fn prog 91 [.agg #[.slice a1 n.Ar.Ad.length c1,.int .i64 n.Ab.Aa.Ak,.int .i64 n.Ab.Aa.size,.slice a2 n.Ab.Aa.Aj.length c2,.int .i64 n.Ab.Ai,.int .i64 n.Ab.quiet,.slice a3 n.Ab.holds.length c3,.slice a4 n.Ar.Ad.length c4,.slice a5 n.Ar.Ad.length c5,.slice a6 n.Ar.Ad.length c6,.slice a7 n.Ar.Ad.length c7]] [Li FT,.sl Be (.slice a1 n.Ar.Ad.length c1) n.Ar.Ad F1,.isv Dh (.agg #[.int .i64 n.Ab.Aa.Ak,.int .i64 n.Ab.Aa.size,.slice a2 n.Ab.Aa.Aj.length c2,.int .i64 n.Ab.Ai,.int .i64 n.Ab.quiet,.slice a3 n.Ab.holds.length c3]) n.Ab FS,.isv (EA Bh n.Ar.Ad.length) (.agg z.e.ys.flatten.toArray) n.Ah z.e.G,.isv (EA Bn n.Ar.Ad.length) (.agg z.r.ys.flatten.toArray) n.Ae z.r.G,.isv (EA (Kj Al (by decide)) n.Ar.Ad.length) (.agg z.d.ys.flatten.toArray) n.down z.d.G,.isv (EA (Kj Al (by decide)) n.Ar.Ad.length) (.agg z.u.ys.flatten.toArray) n.up z.u.G] [.ow (EC 2) 77 (.slice a4 n.Ar.Ad.length c4) z.e.ys z.e.F,.ow (EC 5) 84 (.slice a5 n.Ar.Ad.length c5) z.r.ys z.r.F,.ow (EC 1) 86 (.slice a6 n.Ar.Ad.length c6) z.d.ys z.d.F,.ow (EC 1) 86 (.slice a7 n.Ar.Ad.length c7) z.u.ys z.u.F] (fun (_:SZ × TiS × KA)=>True) (fun y=>.tuple #[.agg #[.int .i64 ((D7 n).1.Ab).Aa.Ak,.int .i64 ((D7 n).1.Ab).Aa.size,.slice y.2.1.a ((D7 n).1.Ab).Aa.Aj.length y.2.1.c,.int .i64 ((D7 n).1.Ab).Ai,.int .i64 ((D7 n).1.Ab).quiet,.slice y.2.1.a2 ((D7 n).1.Ab).holds.length y.2.1.c2],.slice y.2.2.a (D7 n).2.length y.2.2.c]) (fun y=>[.ow (EC 2) 77 (.slice a4 n.Ar.Ad.length c4) y.1.e.ys y.1.e.F,.ow (EC 5) 84 (.slice a5 n.Ar.Ad.length c5) y.1.r.ys y.1.r.F,.ow (EC 1) 86 (.slice a6 n.Ar.Ad.length c6) y.1.d.ys y.1.d.F,.ow (EC 1) 86 (.slice a7 n.Ar.Ad.length c7) y.1.u.ys y.1.u.F,.isv (EA Bh n.Ar.Ad.length) (.agg y.1.e.ys.flatten.toArray) (D7 n).1.Ah y.1.e.G,.isv (EA Bn n.Ar.Ad.length) (.agg y.1.r.ys.flatten.toArray) (D7 n).1.Ae y.1.r.G,.isv (EA (Kj Al (by decide)) n.Ar.Ad.length) (.agg y.1.d.ys.flatten.toArray) (D7 n).1.down y.1.d.G,.isv (EA (Kj Al (by decide)) n.Ar.Ad.length) (.agg y.1.u.ys.flatten.toArray) (D7 n).1.up y.1.u.G,.isv Dh (.agg #[.int .i64 ((D7 n).1.Ab).Aa.Ak,.int .i64 ((D7 n).1.Ab).Aa.size,.slice y.2.1.a ((D7 n).1.Ab).Aa.Aj.length y.2.1.c,.int .i64 ((D7 n).1.Ab).Ai,.int .i64 ((D7 n).1.Ab).quiet,.slice y.2.1.a2 ((D7 n).1.Ab).holds.length y.2.1.c2]) (D7 n).1.Ab y.2.1.F,.ow A6 9 (.slice y.2.2.a (D7 n).2.length y.2.2.c) (D7 n).2 y.2.2.F]):=by
 have hG:=Bo.1 hg
 have h8:=Ll hG.t
 have hn8:=h8.n1
 have hn2:=h8.n0
 obtain ⟨q1,q2,q3,q4⟩:=Bz.1 hG.l
 have hkl:=P0 n.Ar.Ad 0
 have hkx:∀x∈Gb n.Ar.Ad 0,0≤x∧x.toNat < n.down.length:=fun x hx=>by have:=Jj (i:=0) h8 hx;omega
 have hd:∀q∈n.down,q.length≤6:=fun q hq=>(Io ((No hg).2.2.1 q hq)).1
 refine enter func91 rfl ntmps91 fun w0=>?_
 refine Ky n.Ar ?_
 refine go ?_;intros
 refine cf (Agq n.Ab _ FS hG.s) fun u _=>?_
 refine Ao ?_
 refine Ax (E:=Al) (xs:=Kg n.Ab.Aa n.Ab.quiet) fun Fp=>?_
 refine go ?_;intros
 refine Av [4] [] ?_
 refine dt 0 ?_
 refine dt 1 ?_
 refine dt 2 ?_
 refine dt 4 ?_
 refine dO 3 (by kernel_rfl) (by rw [List.getElem?_toArray];rfl) ?_
 apply At;rfl;kernel_rfl;exact Bb
 refine cf (Ml n.Ar 0 _ F1 (P2 h8.z (Int.le_refl _)) ⟨by omega,by omega⟩) fun v _=>?_
 refine Ao ?_
 refine Ax (E:=Be) (xs:=Gb n.Ar.Ad 0) fun Fk=>?_
 refine dk ?_
 refine dO 5 (by kernel_rfl) (by rw [List.getElem?_toArray];rfl) ?_
 apply At;rfl;kernel_rfl;exact Bb
 refine cf (Ko n.down (Gb n.Ar.Ad 0) (Kg n.Ab.Aa n.Ab.quiet) _ _ _ _ _ _ _ _ _ _ _ _ _ _ _ _ _ _ _ _ _ _ _ _ _ z.d.ys z.d.F z.d.G _ _ Fk _ _ Fp hkx hd) fun y _=>?_
 refine Ao ?_
 refine dk ?_
 refine dd ?_
 rw [show Dk n.down (Gb n.Ar.Ad 0) (Kg n.Ab.Aa n.Ab.quiet)=(A9 n 0).1.down from rfl]
 refine go ?_;intros
 refine C1 A6 ?_
 refine go ?_;intros
 refine Cq [1,2,3,4] (fun s:TkZ=>[(6,.slice s.a (A9 n s.k).2.length s.c),(7,.int .i64 ((s.k+1:Nat):Int))]) (fun s=>[.ow (EC 2) 77 (.slice a4 n.Ar.Ad.length c4) s.z.e.ys s.z.e.F,.ow (EC 5) 84 (.slice a5 n.Ar.Ad.length c5) s.z.r.ys s.z.r.F,.ow (EC 1) 86 (.slice a6 n.Ar.Ad.length c6) s.z.d.ys s.z.d.F,.ow (EC 1) 86 (.slice a7 n.Ar.Ad.length c7) s.z.u.ys s.z.u.F,.isv (EA Bh n.Ar.Ad.length) (.agg s.z.e.ys.flatten.toArray) (A9 n s.k).1.Ah s.z.e.G,.isv (EA Bn n.Ar.Ad.length) (.agg s.z.r.ys.flatten.toArray) (A9 n s.k).1.Ae s.z.r.G,.isv (EA (Kj Al (by decide)) n.Ar.Ad.length) (.agg s.z.d.ys.flatten.toArray) (A9 n s.k).1.down s.z.d.G,.isv (EA (Kj Al (by decide)) n.Ar.Ad.length) (.agg s.z.u.ys.flatten.toArray) (A9 n s.k).1.up s.z.u.G,.ow A6 9 (.slice s.a (A9 n s.k).2.length s.c) (A9 n s.k).2 s.F]) (fun s=>s.k+1≤n.Ar.Ad.length∧(A9 n s.k).2.length≤40000 * s.k) (fun s=>n.Ar.Ad.length - s.k) ⟨0,⟨z.e,z.r,⟨y.ys,y.F,y.G⟩,z.u⟩,_,_,_⟩ ⟨by show 0+1≤_;omega,Nat.le_refl _⟩ fun s hs0=>?_
 obtain ⟨k,⟨⟨ye,Fe,Ge⟩,⟨yr,Fr,Gr⟩,⟨yd,Fd,Gd⟩,⟨yu,Fu,Gu⟩⟩,ea,ec,eF⟩:=s
 obtain ⟨hk,hel⟩:=hs0
 dsimp only at hk hel ⊢
 obtain ⟨hGN,hT,hSrc⟩:=Ny hg hc k (by omega)
 obtain ⟨r1,r2,r3,r4⟩:=Bz.1 hGN.l
 rw [hT] at r1 r2 r3 r4
 refine go ?_;intros
 refine Bd rfl (fun h1=>?_) (fun h1=>?_)
 ·have hj:k+1 < n.Ar.Ad.length:=by omega
  obtain ⟨i1,i2,i3,i4,hrn⟩:=hGN.rn (i:=k+1) (by rw [hT];exact hj)
  rw [hT] at hrn
  obtain ⟨d0,d1_⟩:=Xh (i:=k+1)
  refine go ?_;intros
  refine cf (U8 n.Ar ((k+1:Nat):Int) _ F1 h8 (by omega)) fun _ _=>?_
  refine Ao ?_
  cases hlf:Hj n.Ar.Ad ((k+1:Nat):Int)
  ·obtain ⟨hge,hck, -⟩:=hrn.hn (by omega) hlf
   obtain ⟨hgc,hel5, -⟩:=Ew.1 hge
   have hnx:A9 n (k+1)=(⟨n.Ar,Jy n.Ab,(A9 n k).1.Ah.set (k+1) (Dw (A9 n k).1.Ah[k+1]),(A9 n k).1.Ae,(A9 n k).1.down,(A9 n k).1.up⟩,(A9 n k).2++[]):=by
    show ((Lf (A9 n k).1 (k+1)).1,(A9 n k).2++(Lf (A9 n k).1 (k+1)).2)=_
    unfold Lf
    rw [hT,hlf,if_neg (by decide),Is i1,hSrc]
   rw [List.append_nil] at hnx
   refine go ?_;intros
   refine Ed (ys:=ye) fun hm hlr=>?_
   refine Yn (E:=Bh) (ys:=ye) (xs:=(A9 n k).1.Ah) (k+1) hm (by omega) (by omega) fun h2 h3 v Gi ev=>?_
   generalize hE:(A9 n k).1.Ah[k+1]=E at *
   refine Eb (v:=v) (x:=E) ?_
   rintro b1 d1 G1 rfl l1
   have e8:ye[k+1]=[.int .i64 E.Ai,.slice b1 E.Af.length d1]:=by simpa using ev.symm
   refine Ob (E:=EC 2) (xs:=ye) (m:=2) (E7 2) (k+1) ?_ (by repeat (first|exact .here|apply Cu.there)) rfl h2
   rintro _ g A cs B rfl k2 k3 hH
   obtain ⟨k4, -, -⟩:=k3 w0
   rw [e8] at k4
   subst k4
   dsimp only [List.append]
   refine go ?_;intros
   refine Av [0,16] [10] ?_
   refine dt 0 ?_
   refine dt 1 ?_
   refine dt 2 ?_
   refine dt 3 ?_
   refine dt 4 ?_
   refine dt 5 ?_
   refine dt 6 ?_
   refine dt 7 ?_
   refine dO 8 (by kernel_rfl) (by rw [List.getElem?_toArray];rfl) ?_
   apply At;rfl;kernel_rfl;exact Bb
   refine cr (fun w st=>Zx _ E Gi w (st.get (p:=.isv Bh (.agg #[.int .i64 E.Ai,.slice b1 E.Af.length d1]) E Gi) (by exact Bw)) hgc (by omega) (fun x hx=>by have:=Lw hge hx;omega)) fun v3 FU=>?_
   refine Eb (v:=v3) ?_
   rintro b3 d3 G3 rfl l3
   refine dk ?_
   refine dt 9 ?_
   refine dO 10 (by kernel_rfl) (by rw [List.getElem?_toArray];rfl) ?_
   apply Cf;rfl;rfl;rfl;(first|exact AggC.s|exact OneC.s);rfl;exact Ci;exact Cg;rfl
   refine Lv ?_
   refine dd ?_
   refine Nc (E:=EC 2) (xs:=ye) [.int .i64 (Dw E).Ai,.slice b3 (Dw E).Af.length d3] hH (fun _=>⟨rfl,⟨rfl,by simp [Value.oneCell']⟩,rfl⟩) ?_
   refine Nb (E:=Bh) (ys:=ye) (xs:=(A9 n k).1.Ah) (x:=Dw E) (k+1) rfl hm (by omega) fun G'=>?_
   refine go ?_;intros
   refine Co ⟨k+1,⟨⟨ye.set (k+1) [.int .i64 (Dw E).Ai,.slice b3 (Dw E).Af.length d3],[g],G'⟩,⟨yr,Fr,Gr⟩,⟨yd,Fd,Gd⟩,⟨yu,Fu,Gu⟩⟩,ea,ec,eF⟩ ⟨by show k+1+1≤_;omega,by rw [hnx];dsimp only;omega⟩ (by show n.Ar.Ad.length - (k+1) < n.Ar.Ad.length - k;omega) (by dsimp only;rw [hnx];exact frE) (by dsimp only;rw [hnx];exact hsE)
  ·obtain ⟨-,hgr0,hck⟩:=hrn.hf (by omega) hlf
   have hgr:=Hc.1 hgr0
   obtain ⟨hsm,hfew⟩:=Vp hgr
   have hnx:A9 n (k+1)=(⟨n.Ar,Jy n.Ab,(A9 n k).1.Ah,(A9 n k).1.Ae.set (k+1) (Cn (A9 n k).1.Ae[k+1] (J0 (k+1))),(A9 n k).1.down,(A9 n k).1.up.set (k+1) (E5 (A9 n k).1.up[k+1] (D8 (A9 n k).1.Ae[k+1]))⟩,(A9 n k).2++Rc (k+1) (Ez (A9 n k).1.Ae[k+1])):=by
    show ((Lf (A9 n k).1 (k+1)).1,(A9 n k).2++(Lf (A9 n k).1 (k+1)).2)=_
    unfold Lf
    rw [hT,hlf,if_pos rfl,Ln i2,hSrc,Hf i4]
   have htl:(Rc (k+1) (Ez (A9 n k).1.Ae[k+1])).length=(Ez (A9 n k).1.Ae[k+1]).length:=List.length_map ..
   have hu6:=(Io hrn.hu).1
   generalize hR:(A9 n k).1.Ae[k+1]=R at *
   generalize hQ:(A9 n k).1.up[k+1]=Q at *
   refine go ?_;intros
   refine Ed (ys:=yr) fun hm hlr=>?_
   refine Yn (E:=Bn) (ys:=yr) (xs:=(A9 n k).1.Ae) (k+1) hm (by omega) (by omega) fun h2 h3 v Gi ev=>?_
   rw [hR]
   refine E4 (v:=v) (x:=R) ?_
   rintro b1 d1 G1 b2 d2 G2 rfl l1 l2
   have e8:yr[k+1]=[.bool (R).Bf,.int .i64 (R).Ai,.int .i64 (R).Aa.next,.slice b1 (R).Aa.An.length d1,.slice b2 (R).Ap.length d2]:=by simpa using ev.symm
   refine Ob (E:=EC 5) (xs:=yr) (m:=5) (E7 5) (k+1) ?_ (by repeat (first|exact .here|apply Cu.there)) rfl h2
   rintro _ g A cs B rfl k2 k3 hH
   obtain ⟨k4, -, -⟩:=k3 w0
   rw [e8] at k4
   subst k4
   dsimp only [List.append]
   refine go ?_;intros
   refine Ep [1,2,3,4,6,7] [0,1,2,3,4,5,6,7,8,9,10,11,12,13,14,15,16,17,18,19,20,21,22] (fun w:Nat × TkR=>[(8,Eo w.1 0 0),(9,.slice w.2.a3 (D8 R).length w.2.c3),(10,.slice w.2.a4 (Ez R).length w.2.c4)]) (fun w=>[.row w.1 84 0 [] [.bool (Cn R (J0 (k+1))).Bf,.int .i64 (Cn R (J0 (k+1))).Ai,.int .i64 (Cn R (J0 (k+1))).Aa.next,.slice w.2.a1 (Cn R (J0 (k+1))).Aa.An.length w.2.c1,.slice w.2.a2 (Cn R (J0 (k+1))).Ap.length w.2.c2] [],.isv Bn (.agg #[.bool (Cn R (J0 (k+1))).Bf,.int .i64 (Cn R (J0 (k+1))).Ai,.int .i64 (Cn R (J0 (k+1))).Aa.next,.slice w.2.a1 (Cn R (J0 (k+1))).Aa.An.length w.2.c1,.slice w.2.a2 (Cn R (J0 (k+1))).Ap.length w.2.c2]) (Cn R (J0 (k+1))) w.2.F1,.ow Al 110 (.slice w.2.a3 (D8 R).length w.2.c3) (D8 R) w.2.F3,.ow A6 9 (.slice w.2.a4 (Ez R).length w.2.c4) (Ez R) w.2.F4]) (fun _=>True) ?_ fun w _=>?_
   ·skip
    refine Av [0,17] [] ?_
    refine dt 0 ?_
    refine dt 1 ?_
    refine dt 2 ?_
    refine dt 3 ?_
    refine dt 4 ?_
    refine dt 5 ?_
    refine Nn 6 12 (by kernel_rfl) (by rw [List.getElem?_toArray];rfl) (by rw [List.getElem?_toArray];rfl) ?_ ?_
    ·apply At;rfl;kernel_rfl;exact Bb
     refine cf (Qm (k+1) (by omega)) fun _ _=>?_
     refine Ao ?_
     refine dk ?_
     refine Nn 7 12 (by kernel_rfl) (by rw [List.getElem?_toArray];rfl) (by rw [List.getElem?_toArray];rfl) ?_ ?_
     ·apply At;rfl;kernel_rfl;exact Bb
      refine cf (U6 R (J0 (k+1)) _ Gi hgr (by omega) (by omega) (by have:=hgr.k1;omega)) fun s _=>?_
      refine Ao ?_
      refine dk ?_
      refine dt 8 ?_
      refine dt 9 ?_
      refine dt 10 ?_
      refine dt 11 ?_
      refine dO 12 (by kernel_rfl) (by rw [List.getElem?_toArray];rfl) ?_
      apply Bv;rfl;intro _
      refine dk ?_
      refine dO 13 (by kernel_rfl) (by rw [List.getElem?_toArray];rfl) ?_
      apply Cf;rfl;rfl;rfl;(first|exact AggC.s|exact OneC.s);rfl;exact Ci;exact Cg;rfl
      refine dk ?_
      refine dt 14 ?_
      refine dt 15 ?_
      refine dd ?_
      refine B6 (⟨_,s⟩:Nat × TkR) trivial
     ·apply Bv;rfl;intro _
      refine dk ?_
      refine dO 7 (by kernel_rfl) (by rw [List.getElem?_toArray];rfl) ?_
      apply At;rfl;kernel_rfl;exact Bb
      refine cf (U6 R (J0 (k+1)) _ Gi hgr (by omega) (by omega) (by have:=hgr.k1;omega)) fun s _=>?_
      refine Ao ?_
      refine dk ?_
      refine dt 8 ?_
      refine dt 9 ?_
      refine dt 10 ?_
      refine dt 11 ?_
      refine dO 13 (by kernel_rfl) (by rw [List.getElem?_toArray];rfl) ?_
      apply Cf;rfl;rfl;rfl;(first|exact AggC.s|exact OneC.s);rfl;exact Ci;exact Cg;rfl
      refine dk ?_
      refine dt 14 ?_
      refine dt 15 ?_
      refine dd ?_
      refine B6 (⟨_,s⟩:Nat × TkR) trivial
    ·apply Bv;rfl;intro _
     refine dk ?_
     refine dO 6 (by kernel_rfl) (by rw [List.getElem?_toArray];rfl) ?_
     apply At;rfl;kernel_rfl;exact Bb
     refine cf (Qm (k+1) (by omega)) fun _ _=>?_
     refine Ao ?_
     refine dk ?_
     refine dO 7 (by kernel_rfl) (by rw [List.getElem?_toArray];rfl) ?_
     apply At;rfl;kernel_rfl;exact Bb
     refine cf (U6 R (J0 (k+1)) _ Gi hgr (by omega) (by omega) (by have:=hgr.k1;omega)) fun s _=>?_
     refine Ao ?_
     refine dk ?_
     refine dt 8 ?_
     refine dt 9 ?_
     refine dt 10 ?_
     refine dt 11 ?_
     refine dO 13 (by kernel_rfl) (by rw [List.getElem?_toArray];rfl) ?_
     apply Cf;rfl;rfl;rfl;(first|exact AggC.s|exact OneC.s);rfl;exact Ci;exact Cg;rfl
     refine dk ?_
     refine dt 14 ?_
     refine dt 15 ?_
     refine dd ?_
     refine B6 (⟨_,s⟩:Nat × TkR) trivial
   obtain ⟨gr,s⟩:=w
   dsimp only
   refine Jq ?_;intros
   refine Nc (E:=EC 5) (xs:=yr) [.bool (Cn R (J0 (k+1))).Bf,.int .i64 (Cn R (J0 (k+1))).Ai,.int .i64 (Cn R (J0 (k+1))).Aa.next,.slice s.a1 (Cn R (J0 (k+1))).Aa.An.length s.c1,.slice s.a2 (Cn R (J0 (k+1))).Ap.length s.c2] hH (fun _=>⟨rfl,⟨rfl,by simp [Value.oneCell']⟩,rfl⟩) ?_
   refine Nb (E:=Bn) (ys:=yr) (xs:=(A9 n k).1.Ae) (x:=Cn R (J0 (k+1))) (k+1) rfl hm (by omega) fun G'=>?_
   refine Ax (E:=Al) (xs:=D8 R) fun Fp9=>?_
   refine Ed (ys:=yu) fun hmu hlu=>?_
   refine Ym (ys:=yu) (xs:=(A9 n k).1.up) (k+1) hmu (by omega) (by omega) fun h9 _ Gq=>?_
   rw [hQ]
   refine U2 (x:=Q) fun a9 c9 e9 l9=>?_
   have e10:yu[k+1]=[.slice a9 Q.length c9]:=by simpa using e9
   refine Ob (E:=EC 1) (xs:=yu) (m:=1) (E7 1) (k+1) ?_ (by repeat (first|exact .here|apply Cu.there)) rfl h9
   rintro _ gu Au cs Bu rfl j2 j3 hHu
   obtain ⟨j4, -, -⟩:=j3 w0
   rw [e10] at j4
   subst j4
   refine go ?_;intros
   refine Av [0,24] [11] ?_
   refine dt 0 ?_
   refine dt 1 ?_
   refine dt 2 ?_
   refine dt 3 ?_
   refine dt 4 ?_
   refine dt 5 ?_
   refine dt 6 ?_
   refine dt 7 ?_
   refine dt 8 ?_
   refine dO 9 (by kernel_rfl) (by rw [List.getElem?_toArray];rfl) ?_
   apply At;rfl;kernel_rfl;exact Bb
   refine cf (Xx Q (D8 R) a9 c9 _ _ _ Fp9 (by omega)) fun r _=>?_
   refine Ao ?_
   refine dk ?_
   refine dt 10 ?_
   refine dO 11 (by kernel_rfl) (by rw [List.getElem?_toArray];rfl) ?_
   apply Cf;rfl;rfl;rfl;(first|exact AggC.s|exact OneC.s);rfl;exact Ci;exact Cg;rfl
   refine Lv ?_
   refine dd ?_
   refine Nc (E:=EC 1) (xs:=yu) [.slice r.a (E5 Q (D8 R)).length r.c] hHu (fun _=>⟨rfl,⟨rfl,by simp [Value.oneCell']⟩,rfl⟩) ?_
   refine Ax (E:=Al) (xs:=E5 Q (D8 R)) fun Fu=>?_
   refine To (E:=Al) (x:=E5 Q (D8 R)) (by decide) ?_
   refine Nb (E:=Kj Al (by decide)) (ys:=yu) (xs:=(A9 n k).1.up) (x:=E5 Q (D8 R)) (k+1) rfl hmu (by omega) fun Gv=>?_
   refine Ax (E:=A6) (xs:=Ez R) fun F7=>?_
   refine go ?_;intros
   refine cf (Zy (k+1) (Ez R) _ _ F7 FT (by omega) (by omega) hsm) fun u9 _=>?_
   refine Ao ?_
   refine Ax (E:=A6) (xs:=Rc (k+1) (Ez R)) fun F8=>?_
   apply wO
   refine Kx (E:=A6) (xs:=(A9 n k).2) (ys:=Rc (k+1) (Ez R)) Du Fc fun ax cx Fx=>?_
   refine go ?_;intros
   refine Co ⟨k+1,⟨⟨ye,Fe,Ge⟩,⟨yr.set (k+1) [.bool (Cn R (J0 (k+1))).Bf,.int .i64 (Cn R (J0 (k+1))).Ai,.int .i64 (Cn R (J0 (k+1))).Aa.next,.slice s.a1 (Cn R (J0 (k+1))).Aa.An.length s.c1,.slice s.a2 (Cn R (J0 (k+1))).Ap.length s.c2],[g],G'⟩,⟨yd,Fd,Gd⟩,⟨yu.set (k+1) [.slice r.a (E5 Q (D8 R)).length r.c],[gu],Gv⟩⟩,ax,cx,Fx⟩ ⟨by show k+1+1≤_;omega,by rw [hnx];dsimp only;rw [List.length_append,htl];omega⟩ (by show n.Ar.Ad.length - (k+1) < n.Ar.Ad.length - k;omega) (by dsimp only;rw [hnx];exact frE) (by dsimp only;rw [hnx];exact hsE)
 ·have hke:n.Ar.Ad.length - 1=k:=by omega
  rw [show D7 n=A9 n k by unfold D7;rw [hke],hSrc]
  refine go ?_;intros
  refine ret (⟨⟨⟨ye,Fe,Ge⟩,⟨yr,Fr,Gr⟩,⟨yd,Fd,Gd⟩,⟨yu,Fu,Gu⟩⟩,u,⟨0,ea,ec,eF⟩⟩:SZ × TiS × KA) trivial rfl
structure OwN where
 g:Nat
 a1:Option Addr
 c1:Nat
 F1:List Nat
 s:Aaj
structure OwK where
 k:Nat
 a4:Option Addr
 c4:Nat
 F4:List Nat
 a5:Option Addr
 c5:Nat
 F5:List Nat
 a6:Option Addr
 c6:Nat
 F6:List Nat
 a7:Option Addr
 c7:Nat
 F7:List Nat
theorem Ud:Us (H9 Al 110):=fun h u hu=>by
 obtain ⟨v,rfl,h⟩:=h
 obtain rfl:=List.mem_singleton.1 hu
 rcases h with ⟨rfl, -, -⟩|⟨b,cap,cs,rest,G,rfl, -⟩ <;> rfl
theorem Aep {x:Cj} (hg:Cb x=true):Adg x x.Aa=x:=by
 obtain ⟨gw,hl,t0,t1,k0,k1,hm,hn,hu,hb⟩:=Mk hg
 unfold Adg
 rw [←Rl hu,Th hg]
theorem Aci (n:En) (v:Value) (F:List Nat) (hg:A8 n=true):Fn prog 49 [v] [.isv Lr v n F] [] (fun (_:OwN × OwK)=>True) (fun z=>.agg #[.slice z.1.a1 n.Ar.Ad.length z.1.c1,.int .i64 (n.Ab).Aa.Ak,.int .i64 (n.Ab).Aa.size,.slice z.1.s.a (n.Ab).Aa.Aj.length z.1.s.c,.int .i64 (n.Ab).Ai,.int .i64 (n.Ab).quiet,.slice z.1.s.a2 (n.Ab).holds.length z.1.s.c2,.slice z.2.a4 (n.Ah).length z.2.c4,.slice z.2.a5 (n.Ae).length z.2.c5,.slice z.2.a6 (n.down).length z.2.c6,.slice z.2.a7 (n.up).length z.2.c7]) (fun z=>[.ow Be 3 (.slice z.1.a1 n.Ar.Ad.length z.1.c1) n.Ar.Ad z.1.F1,.isv Dh (.agg #[.int .i64 (n.Ab).Aa.Ak,.int .i64 (n.Ab).Aa.size,.slice z.1.s.a (n.Ab).Aa.Aj.length z.1.s.c,.int .i64 (n.Ab).Ai,.int .i64 (n.Ab).quiet,.slice z.1.s.a2 (n.Ab).holds.length z.1.s.c2]) n.Ab z.1.s.F,.ow B4 77 (.slice z.2.a4 (n.Ah).length z.2.c4) (n.Ah) z.2.F4,.ow Bt 84 (.slice z.2.a5 (n.Ae).length z.2.c5) (n.Ae) z.2.F5,.ow (H9 Al 110) 86 (.slice z.2.a6 (n.down).length z.2.c6) (n.down) z.2.F6,.ow (H9 Al 110) 86 (.slice z.2.a7 (n.up).length z.2.c7) (n.up) z.2.F7]):=by
 have hG:=Bo.1 hg
 have h8:=(Ll hG.t).n1
 have hS:=Mk hG.s
 have hSl:=hS.l
 have hSm:=hS.m
 obtain ⟨q1,q2,q3,q4⟩:=Bz.1 hG.l
 obtain ⟨g1,g2,g3,g4⟩:=No hg
 refine enter func49 rfl ntmps49 fun w0=>?_
 refine C9 ?_
 rintro a1 c1 F1 a2 c2 F2 a3 c3 F3 a4 c4 F4 a5 c5 F5 a6 c6 F6 a7 c7 F7 rfl l1 l2 l3 l4 l5 l6 l7
 refine Dt n.Ab ?_
 refine B9 n.Ab.Aa (a1:=a2) ?_
 have hW:=fun vw Fw=>Agr n.Ab n.Ab.Aa (.agg #[.int .i64 n.Ab.Aa.Ak,.int .i64 n.Ab.Aa.size,.slice a2 n.Ab.Aa.Aj.length c2,.int .i64 n.Ab.Ai,.int .i64 n.Ab.quiet,.slice a3 n.Ab.holds.length c3]) vw (F2++F3) Fw hS.t0 hS.t1 (by omega) hS.n hS.u
 rw [Aep hG.s,show Kn n.Ab.Aa n.Ab.holds=n.Ab.holds by rw [←Rl hS.u,Th hG.s]] at hW
 refine go ?_;intros
 refine Ep [1,2] [0,1,2,3,4,5,6,7,8,9,10,11] (fun w:OwN=>[(3,Eo w.g 0 0)]) (fun w=>[.row w.g 37 0 [] [.slice w.a1 n.Ar.Ad.length w.c1,.int .i64 (n.Ab).Aa.Ak,.int .i64 (n.Ab).Aa.size,.slice w.s.a (n.Ab).Aa.Aj.length w.s.c,.int .i64 (n.Ab).Ai,.int .i64 (n.Ab).quiet,.slice w.s.a2 (n.Ab).holds.length w.s.c2,.slice none 0 0,.slice none 0 0,.slice none 0 0,.slice none 0 0] [],.ow Be 3 (.slice w.a1 n.Ar.Ad.length w.c1) n.Ar.Ad w.F1,.isv Dh (.agg #[.int .i64 (n.Ab).Aa.Ak,.int .i64 (n.Ab).Aa.size,.slice w.s.a (n.Ab).Aa.Aj.length w.s.c,.int .i64 (n.Ab).Ai,.int .i64 (n.Ab).quiet,.slice w.s.a2 (n.Ab).holds.length w.s.c2]) n.Ab w.s.F]) (fun _=>True) ?_ fun w _=>?_
 ·skip
  refine Av [1] [] ?_
  refine dt 0 ?_
  refine dt 1 ?_
  refine dt 2 ?_
  refine dt 5 ?_
  refine dt 6 ?_
  refine dt 7 ?_
  refine dt 8 ?_
  refine dt 9 ?_
  refine Nn 3 13 (by kernel_rfl) (by rw [List.getElem?_toArray];rfl) (by rw [List.getElem?_toArray];rfl) ?_ ?_
  ·apply At;rfl;kernel_rfl;exact Bb
   refine cn (fun w st=>Wq _ n.Ar.Ad F1 w (st.get (p:=.sl Be (.slice a1 n.Ar.Ad.length c1) n.Ar.Ad F1) (by exact Bw)).2 (by omega)) fun b1 d1 G1=>?_
   refine dk ?_
   refine dt 4 ?_
   refine Nn 10 13 (by kernel_rfl) (by rw [List.getElem?_toArray];rfl) (by rw [List.getElem?_toArray];rfl) ?_ ?_
   ·apply At;rfl;kernel_rfl;exact Bb
    refine cf (Oi n.Ab.Aa _ F2 hS.t0 hS.t1 (by omega)) fun y _=>?_
    refine Ao ?_
    refine Hw ?_
    rintro a9 c9 F9 e9 l9
    rw [e9]
    refine Ax (xs:=n.Ab.Aa.Aj) fun F8=>?_
    refine B9 n.Ab.Aa (a1:=a9) ?_
    refine dk ?_
    refine Nn 11 13 (by kernel_rfl) (by rw [List.getElem?_toArray];rfl) (by rw [List.getElem?_toArray];rfl) ?_ ?_
    ·apply At;rfl;kernel_rfl;exact Bb
     refine cf (hW _ F8) fun s _=>?_
     refine Ao ?_
     refine dk ?_
     refine dt 12 ?_
     refine dO 13 (by kernel_rfl) (by rw [List.getElem?_toArray];rfl) ?_
     apply Bv;rfl;intro _
     refine dk ?_
     refine dO 14 (by kernel_rfl) (by rw [List.getElem?_toArray];rfl) ?_
     apply Cf;rfl;rfl;rfl;(first|exact AggC.s|exact OneC.s);rfl;exact Ci;exact Cg;rfl
     refine dk ?_
     refine dd ?_
     refine B6 (⟨_,b1,d1,G1,s⟩:OwN) trivial
    ·apply Bv;rfl;intro _
     refine dk ?_
     refine dO 11 (by kernel_rfl) (by rw [List.getElem?_toArray];rfl) ?_
     apply At;rfl;kernel_rfl;exact Bb
     refine cf (hW _ F8) fun s _=>?_
     refine Ao ?_
     refine dk ?_
     refine dt 12 ?_
     refine dO 14 (by kernel_rfl) (by rw [List.getElem?_toArray];rfl) ?_
     apply Cf;rfl;rfl;rfl;(first|exact AggC.s|exact OneC.s);rfl;exact Ci;exact Cg;rfl
     refine dk ?_
     refine dd ?_
     refine B6 (⟨_,b1,d1,G1,s⟩:OwN) trivial
   ·apply Bv;rfl;intro _
    refine dk ?_
    refine dO 10 (by kernel_rfl) (by rw [List.getElem?_toArray];rfl) ?_
    apply At;rfl;kernel_rfl;exact Bb
    refine cf (Oi n.Ab.Aa _ F2 hS.t0 hS.t1 (by omega)) fun y _=>?_
    refine Ao ?_
    refine Hw ?_
    rintro a9 c9 F9 e9 l9
    rw [e9]
    refine Ax (xs:=n.Ab.Aa.Aj) fun F8=>?_
    refine B9 n.Ab.Aa (a1:=a9) ?_
    refine dk ?_
    refine dO 11 (by kernel_rfl) (by rw [List.getElem?_toArray];rfl) ?_
    apply At;rfl;kernel_rfl;exact Bb
    refine cf (hW _ F8) fun s _=>?_
    refine Ao ?_
    refine dk ?_
    refine dt 12 ?_
    refine dO 14 (by kernel_rfl) (by rw [List.getElem?_toArray];rfl) ?_
    apply Cf;rfl;rfl;rfl;(first|exact AggC.s|exact OneC.s);rfl;exact Ci;exact Cg;rfl
    refine dk ?_
    refine dd ?_
    refine B6 (⟨_,b1,d1,G1,s⟩:OwN) trivial
  ·apply Bv;rfl;intro _
   refine dk ?_
   refine dO 3 (by kernel_rfl) (by rw [List.getElem?_toArray];rfl) ?_
   apply At;rfl;kernel_rfl;exact Bb
   refine cn (fun w st=>Wq _ n.Ar.Ad F1 w (st.get (p:=.sl Be (.slice a1 n.Ar.Ad.length c1) n.Ar.Ad F1) (by exact Bw)).2 (by omega)) fun b1 d1 G1=>?_
   refine dk ?_
   refine dt 4 ?_
   refine dO 10 (by kernel_rfl) (by rw [List.getElem?_toArray];rfl) ?_
   apply At;rfl;kernel_rfl;exact Bb
   refine cf (Oi n.Ab.Aa _ F2 hS.t0 hS.t1 (by omega)) fun y _=>?_
   refine Ao ?_
   refine Hw ?_
   rintro a9 c9 F9 e9 l9
   rw [e9]
   refine Ax (xs:=n.Ab.Aa.Aj) fun F8=>?_
   refine B9 n.Ab.Aa (a1:=a9) ?_
   refine dk ?_
   refine dO 11 (by kernel_rfl) (by rw [List.getElem?_toArray];rfl) ?_
   apply At;rfl;kernel_rfl;exact Bb
   refine cf (hW _ F8) fun s _=>?_
   refine Ao ?_
   refine dk ?_
   refine dt 12 ?_
   refine dO 14 (by kernel_rfl) (by rw [List.getElem?_toArray];rfl) ?_
   apply Cf;rfl;rfl;rfl;(first|exact AggC.s|exact OneC.s);rfl;exact Ci;exact Cg;rfl
   refine dk ?_
   refine dd ?_
   refine B6 (⟨_,b1,d1,G1,s⟩:OwN) trivial
 refine B7 B4 77 ?_
 refine B7 Bt 84 ?_
 refine B7 (H9 Al 110) 86 ?_
 refine B7 (H9 Al 110) 86 ?_
 refine go ?_;intros
 refine Cq [1,2,3] (fun y:OwK=>[(4,.int .i64 (y.k:Nat))]) (fun y=>[.row w.g 37 0 [] [.slice w.a1 n.Ar.Ad.length w.c1,.int .i64 (n.Ab).Aa.Ak,.int .i64 (n.Ab).Aa.size,.slice w.s.a (n.Ab).Aa.Aj.length w.s.c,.int .i64 (n.Ab).Ai,.int .i64 (n.Ab).quiet,.slice w.s.a2 (n.Ab).holds.length w.s.c2,.slice y.a4 (n.Ah.take y.k).length y.c4,.slice y.a5 (n.Ae.take y.k).length y.c5,.slice y.a6 (n.down.take y.k).length y.c6,.slice y.a7 (n.up.take y.k).length y.c7] [],.ow B4 77 (.slice y.a4 (n.Ah.take y.k).length y.c4) (n.Ah.take y.k) y.F4,.ow Bt 84 (.slice y.a5 (n.Ae.take y.k).length y.c5) (n.Ae.take y.k) y.F5,.ow (H9 Al 110) 86 (.slice y.a6 (n.down.take y.k).length y.c6) (n.down.take y.k) y.F6,.ow (H9 Al 110) 86 (.slice y.a7 (n.up.take y.k).length y.c7) (n.up.take y.k) y.F7]) (fun y=>y.k≤n.Ah.length) (fun y=>n.Ah.length - y.k) ⟨0,none,0,[],none,0,[],none,0,[],none,0,[]⟩ (Nat.zero_le _) fun y hy=>?_
 refine go ?_;intros
 refine Bd rfl (fun h1=>?_) (fun h1=>?_)
 ·have hk:y.k < n.Ah.length:=by omega
  have hk5:y.k < n.Ae.length:=by omega
  have hk6:y.k < n.down.length:=by omega
  have hk7:y.k < n.up.length:=by omega
  have t4:(n.Ah.take y.k).length≤8:=by rw [List.length_take];omega
  have t5:(n.Ae.take y.k).length≤8:=by rw [List.length_take];omega
  have t6:(n.down.take y.k).length≤8:=by rw [List.length_take];omega
  have t7:(n.up.take y.k).length≤8:=by rw [List.length_take];omega
  have hge:=g1 _ (List.getElem_mem hk)
  have hel:=(Ew.1 hge).2.1
  have hgr:=Hc.1 (g2 _ (List.getElem_mem hk5))
  have hrs:=(I1 hgr.w).1
  have hrq:=(Di.1 hgr.q).2.1
  have hd6:=(Io (g3 _ (List.getElem_mem hk6))).1
  have hu6:=(Io (g4 _ (List.getElem_mem hk7))).1
  refine Of (xs:=n.Ah) y.k ?_
  rintro hi4 b4 o4 a8 c8 F8 e4 l8
  rw [e4]
  refine Eq n.Ah[y.k] ?_
  dsimp only [List.append]
  refine go ?_;intros
  refine Av [1,3,11] [11] ?_
  refine dt 0 ?_
  refine dt 1 ?_
  refine dt 2 ?_
  refine dt 3 ?_
  refine dt 4 ?_
  refine dt 5 ?_
  refine dt 6 ?_
  refine dO 7 (by kernel_rfl) (by rw [List.getElem?_toArray];rfl) ?_
  apply At;rfl;kernel_rfl;exact Bb
  refine cv (fun w2 st=>Uc _ n.Ah[y.k] F8 w2 (st.get (p:=.isv Bh (.agg #[.int .i64 n.Ah[y.k].Ai,.slice a8 n.Ah[y.k].Af.length c8]) n.Ah[y.k] F8) (by exact Bw)) (by omega) (fun x hx=>by have:=Lw hge hx;omega)) fun v9 F9=>?_
  refine Gg (x:=n.Ah[y.k]) ?_
  rintro a9 c9 F10 rfl l9
  refine Ey n.Ah[y.k] ?_
  refine dk ?_
  refine dO 8 (by kernel_rfl) (by rw [List.getElem?_toArray];rfl) ?_
  apply Hh;rfl;rfl;rfl;rfl;exact Gz;exact Gp;intro _
  refine dk ?_
  refine dO 9 (by kernel_rfl) (by rw [List.getElem?_toArray];rfl) ?_
  refine Aal Qq n.Ah[y.k] rfl fun x4 d4 G4=>?_
  refine dk ?_
  refine dt 10 ?_
  refine dO 11 (by kernel_rfl) (by rw [List.getElem?_toArray];rfl) ?_
  apply Cf;rfl;rfl;rfl;(first|exact AggC.s|exact OneC.s);rfl;exact Ci;exact Cg;rfl
  refine Lv ?_
  refine dd ?_
  rw [←List.take_succ_eq_append_getElem hk]
  refine Mz (xs:=n.Ae) y.k ?_
  rintro hi5 b5 o5 a11 c11 F11 a12 c12 F12 e5 l11 l12
  rw [e5]
  refine Eh n.Ae[y.k] ?_
  dsimp only [List.append]
  refine go ?_;intros
  refine Av [1,8,15] [11] ?_
  refine dt 0 ?_
  refine dt 1 ?_
  refine dt 2 ?_
  refine dt 3 ?_
  refine dt 4 ?_
  refine dt 5 ?_
  refine dt 6 ?_
  refine dO 7 (by kernel_rfl) (by rw [List.getElem?_toArray];rfl) ?_
  apply At;rfl;kernel_rfl;exact Bb
  refine cf (P3 n.Ae[y.k] _ _ (by omega) (by omega)) fun s9 _=>?_
  refine Ao ?_
  refine Hm (x:=n.Ae[y.k]) ?_
  rintro a9 c9 G9 a10 c10 G10 e9 l9 l10
  rw [e9]
  refine I8 n.Ae[y.k] ?_
  refine dk ?_
  refine dO 8 (by kernel_rfl) (by rw [List.getElem?_toArray];rfl) ?_
  apply Hh;rfl;rfl;rfl;rfl;exact Gz;exact Gp;intro _
  refine dk ?_
  refine dO 9 (by kernel_rfl) (by rw [List.getElem?_toArray];rfl) ?_
  refine Aal Pm n.Ae[y.k] rfl fun x5 d5 G5=>?_
  refine dk ?_
  refine dt 10 ?_
  refine dO 11 (by kernel_rfl) (by rw [List.getElem?_toArray];rfl) ?_
  apply Cf;rfl;rfl;rfl;(first|exact AggC.s|exact OneC.s);rfl;exact Ci;exact Cg;rfl
  refine Lv ?_
  refine dd ?_
  rw [←List.take_succ_eq_append_getElem hk5]
  refine M0 (E:=Al) (hz:=by decide) (xs:=n.down) y.k ?_
  rintro hi6 b6 o6 a13 c13 F13 e6 l13
  rw [e6]
  refine go ?_;intros
  refine Av [0,11,17] [12] ?_
  refine dt 0 ?_
  refine dt 1 ?_
  refine dt 3 ?_
  refine dt 4 ?_
  refine dt 5 ?_
  refine dt 6 ?_
  refine dt 7 ?_
  refine dO 2 (by kernel_rfl) (by rw [List.getElem?_toArray];rfl) ?_
  apply Ja;rfl;intro _
  refine C1 Al ?_
  refine dk ?_
  refine dO 8 (by kernel_rfl) (by rw [List.getElem?_toArray];rfl) ?_
  refine Kx Gn Iz fun a9 c9 F9=>?_
  rw [List.nil_append]
  refine Ox n.down[y.k] ?_
  refine dk ?_
  refine dO 9 (by kernel_rfl) (by rw [List.getElem?_toArray];rfl) ?_
  apply Hh;rfl;rfl;rfl;rfl;exact Gz;exact Gp;intro _
  refine dk ?_
  refine dO 10 (by kernel_rfl) (by rw [List.getElem?_toArray];rfl) ?_
  refine Aal (Ud) n.down[y.k] rfl fun x6 d6 G6=>?_
  refine dk ?_
  refine dt 11 ?_
  refine dO 12 (by kernel_rfl) (by rw [List.getElem?_toArray];rfl) ?_
  apply Cf;rfl;rfl;rfl;(first|exact AggC.s|exact OneC.s);rfl;exact Ci;exact Cg;rfl
  refine Lv ?_
  refine dd ?_
  rw [←List.take_succ_eq_append_getElem hk6]
  refine M0 (E:=Al) (hz:=by decide) (xs:=n.up) y.k ?_
  rintro hi7 b7 o7 a14 c14 F14 e7 l14
  rw [e7]
  refine go ?_;intros
  refine Av [0,14,19] [12] ?_
  refine dt 0 ?_
  refine dt 1 ?_
  refine dt 3 ?_
  refine dt 4 ?_
  refine dt 5 ?_
  refine dt 6 ?_
  refine dt 7 ?_
  refine dO 2 (by kernel_rfl) (by rw [List.getElem?_toArray];rfl) ?_
  apply Ja;rfl;intro _
  refine C1 Al ?_
  refine dk ?_
  refine dO 8 (by kernel_rfl) (by rw [List.getElem?_toArray];rfl) ?_
  refine Kx Gn Iz fun a9 c9 F9=>?_
  rw [List.nil_append]
  refine Ox n.up[y.k] ?_
  refine dk ?_
  refine dO 9 (by kernel_rfl) (by rw [List.getElem?_toArray];rfl) ?_
  apply Hh;rfl;rfl;rfl;rfl;exact Gz;exact Gp;intro _
  refine dk ?_
  refine dO 10 (by kernel_rfl) (by rw [List.getElem?_toArray];rfl) ?_
  refine Aal (Ud) n.up[y.k] rfl fun x7 d7 G7=>?_
  refine dk ?_
  refine dt 11 ?_
  refine dO 12 (by kernel_rfl) (by rw [List.getElem?_toArray];rfl) ?_
  apply Cf;rfl;rfl;rfl;(first|exact AggC.s|exact OneC.s);rfl;exact Ci;exact Cg;rfl
  refine Lv ?_
  refine dd ?_
  rw [←List.take_succ_eq_append_getElem hk7]
  refine go ?_;intros
  refine Co ⟨y.k+1,x4,d4,G4,x5,d5,G5,x6,d6,G6,x7,d7,G7⟩ hk (by show n.Ah.length - (y.k+1) < n.Ah.length - y.k;omega)
 ·rw [show n.Ah.take y.k=n.Ah from List.take_of_length_le (by omega),show n.Ae.take y.k=n.Ae from List.take_of_length_le (by omega),show n.down.take y.k=n.down from List.take_of_length_le (by omega),show n.up.take y.k=n.up from List.take_of_length_le (by omega)]
  refine go ?_;intros
  refine ret (⟨w,y⟩:OwN × OwK) trivial rfl
end Go.Proofs.YtaemjogbahcbcaaGreatDoor
namespace Go.Proofs.YtaemjogbahcbcaaGreatDoor
open Go.RowKit
open Go.RowKit
theorem Zm {α:Type} {O R:Bp α} (hW:Ls O R) {w:World}:∀{xs:List α} {cs:List Value} {G:List Nat},Cp O w cs xs G→∃G',(∀b∈G',b∈G)∧Cp R w cs xs G'
 | [],_,_,h=>⟨[],by simp,h.1,rfl⟩
 | x::r,_,_,h=>by
  obtain ⟨c1,c2,F1,F2,rfl,rfl,h1,h2⟩:=h
  obtain ⟨G1,s1,r1⟩:=hW.Jg h1
  obtain ⟨G2,s2,r2⟩:=Zm hW h2
  exact ⟨G1++G2,fun b hb=>by rcases List.mem_append.1 hb with hb|hb;simp [s1 b hb];simp [s2 b hb],c1,c2,G1,G2,rfl,rfl,r1,r2⟩
theorem Ip.skip {x:Pc}:∀{B A:List Pc},Ip A B→Ip (x::A) B
 | _,_,.nil=>.nil
 | _,_,.cons hp hr=>.cons (.there hp) hr.skip
theorem Ip.all:∀A:List Pc,Ip A A
 | []=>.nil
 | _::A=>.cons .here (Ip.all A)
section
variable {c:Cx} {fr:Fr} {H:List Pc} {Φ:Gl}
theorem Wx {α:Type} {O R:Bp α} (hW:Ls O R) {cs:List Value} {xs:List α} {G:List Nat} {S:List Pc} (h:∀G',T c fr (.isv (EA R xs.length) (.agg cs.toArray) xs G'::S) Φ) (hp:Cu H (.flat O cs xs G) S:=by exact Dv):T c fr H Φ:=.mk fun a w s g=>by
 have s1:=s.pick hp
 obtain ⟨-,ho⟩:=s1.on (.flat O cs xs G) (by simp)
 obtain ⟨G',hG,hf⟩:=Zm hW ho
 exact (h G').h a w (s1.conv rfl ⟨_,rfl,rfl,hf⟩ hG) g
theorem Te (m:En) {l:List Int} {N:Nat} (hT:m.Ar.Ad=l) (hN:N=l.length) (hl:Iw m=true) {a1 a2 a3 a4 a5 a6 a7:Option Addr} {c1 c2 c3 c4 c5 c6 c7:Nat} {F1 FS F4 G4 F5 G5 F6 G6 F7 G7:List Nat} {ys4 ys5 ys6 ys7:List (List Value)} (h4:ys4.length=N) (h5:ys5.length=N) (h6:ys6.length=N) (h7:ys7.length=N)
  (h:∀F,T c fr (.isv Lr (.agg #[.slice a1 N c1,.int .i64 m.Ab.Aa.Ak,.int .i64 m.Ab.Aa.size,.slice a2 m.Ab.Aa.Aj.length c2,.int .i64 m.Ab.Ai,.int .i64 m.Ab.quiet,.slice a3 m.Ab.holds.length c3,.slice a4 N c4,.slice a5 N c5,.slice a6 N c6,.slice a7 N c7]) m F::H) Φ) (p1:.sl Be (.slice a1 N c1) l F1∈H:=by exact Bw) (p2:.isv Dh (.agg #[.int .i64 m.Ab.Aa.Ak,.int .i64 m.Ab.Aa.size,.slice a2 m.Ab.Aa.Aj.length c2,.int .i64 m.Ab.Ai,.int .i64 m.Ab.quiet,.slice a3 m.Ab.holds.length c3]) m.Ab FS∈H:=by exact Bw) (p4:.sl (EC 2) (.slice a4 N c4) ys4 F4∈H:=by exact Bw) (q4:.isv (EA (Bh) N) (.agg ys4.flatten.toArray) m.Ah G4∈H:=by exact Bw) (p5:.sl (EC 5) (.slice a5 N c5) ys5 F5∈H:=by exact Bw) (q5:.isv (EA (Bn) N) (.agg ys5.flatten.toArray) m.Ae G5∈H:=by exact Bw) (p6:.sl (EC 1) (.slice a6 N c6) ys6 F6∈H:=by exact Bw) (q6:.isv (EA (Kj Al (by decide)) N) (.agg ys6.flatten.toArray) m.down G6∈H:=by exact Bw) (p7:.sl (EC 1) (.slice a7 N c7) ys7 F7∈H:=by exact Bw) (q7:.isv (EA (Kj Al (by decide)) N) (.agg ys7.flatten.toArray) m.up G7∈H:=by exact Bw):T c fr H Φ:=by
 obtain ⟨e1,e2,e3,e4⟩:=Bz.1 hl
 subst hT hN
 refine Ej (hm:=p2) ?_
 rintro b2 d2 F2 b3 d3 F3 ev - -
 have ev2:=ev
 simp only [Value.agg.injEq,Array.mk.injEq,List.cons.injEq,Value.slice.injEq,true_and,and_true] at ev2
 obtain ⟨⟨rfl,rfl⟩,rfl,rfl⟩:=ev2
 refine Ms (E:=Bh) (xs:=m.Ah) rfl (by omega) rfl (fun F8=>?_) (.tail _ (.tail _ p4)) (.tail _ (.tail _ q4))
 refine Ms (E:=Bn) (xs:=m.Ae) rfl (by omega) rfl (fun F9=>?_) (.tail _ (.tail _ (.tail _ p5))) (.tail _ (.tail _ (.tail _ q5)))
 refine Ms (E:=Kj Al (by decide)) (xs:=m.down) rfl (by omega) rfl (fun F10=>?_) (.tail _ (.tail _ (.tail _ (.tail _ p6)))) (.tail _ (.tail _ (.tail _ (.tail _ q6))))
 refine Ms (E:=Kj Al (by decide)) (xs:=m.up) rfl (by omega) rfl (fun F11=>?_) (.tail _ (.tail _ (.tail _ (.tail _ (.tail _ p7))))) (.tail _ (.tail _ (.tail _ (.tail _ (.tail _ q7)))))
 refine Ga m (a1:=a1) (c1:=c1) (F1:=F1) (a2:=a2) (c2:=c2) (F2:=F2) (a3:=a3) (c3:=c3) (F3:=F3) (a4:=a4) (c4:=c4) (F4:=F8) (a5:=a5) (c5:=c5) (F5:=F9) (a6:=a6) (c6:=c6) (F6:=F10) (a7:=a7) (c7:=c7) (F7:=F11) ?_ (.tail _ (.tail _ (.tail _ (.tail _ (.tail _ (.tail _ p1)))))) (.tail _ (.tail _ (.tail _ (.tail _ (.head _))))) (.tail _ (.tail _ (.tail _ (.tail _ (.tail _ (.head _)))))) (by rw [e1];exact .tail _ (.tail _ (.tail _ (.head _)))) (by rw [e2];exact .tail _ (.tail _ (.head _))) (by rw [e3];exact .tail _ (.head _)) (by rw [e4];exact .head _)
 rw [e1,e2,e3,e4]
 exact Aps _ (h _) (.cons .here (Ip.skip (Ip.skip (Ip.skip (Ip.skip (Ip.skip (Ip.skip (Ip.all H))))))))
end
end Go.Proofs.YtaemjogbahcbcaaGreatDoor
namespace Go.Proofs.YtaemjogbahcbcaaGreatDoor
open Go.RowKit
def Mq (x:Cj) (s:ByteArray):Cj:=⟨C4 x.Aa s,x.Ai,0,Fj (C4 x.Aa s) x.Ai x.holds⟩
theorem Aj9 {x:Cj} {s:ByteArray} (h:∀z∈x.holds,x.Ai+1≤z.By):Mq x s=Nw x s:=by unfold Mq Nw;rw [Rl h]
theorem Tj (x:Cj) (s:ByteArray) (v:Value) (F:List Nat) (t0:0≤x.Aa.Ak) (t1:x.Aa.Ak≤65535) (hl:x.Aa.Aj.length≤6) (z1:1≤x.Aa.size) (hm:x.holds.length≤1000) (hn:Sx x.holds) (hs:s.size≤maxLen) :
  Fn prog 88 [v,.string s] [.isv Dh v x F] [] (fun (_:Aaj)=>True) (fun z=>.tuple #[.agg #[.int .i64 (Mq x s).Aa.Ak,.int .i64 (Mq x s).Aa.size,.slice z.a (Mq x s).Aa.Aj.length z.c,.int .i64 (Mq x s).Ai,.int .i64 (Mq x s).quiet,.slice z.a2 (Mq x s).holds.length z.c2],.agg #[.int .i64 1,.int .i64 (Dd x.Aa s).Ac,.int .i64 (Dd x.Aa s).Ak,.int .i64 (Dd x.Aa s).Dy,.string s]]) (fun z=>[.isv Dh (.agg #[.int .i64 (Mq x s).Aa.Ak,.int .i64 (Mq x s).Aa.size,.slice z.a (Mq x s).Aa.Aj.length z.c,.int .i64 (Mq x s).Ai,.int .i64 (Mq x s).quiet,.slice z.a2 (Mq x s).holds.length z.c2]) (Mq x s) z.F]):=by
 have hb:=Na t0 t1
 refine enter func88 rfl ntmps88 fun w0=>?_
 refine Ej ?_
 rintro a1 c1 F1 a2 c2 F2 rfl l1 l2
 refine B9 x.Aa ?_
 generalize F1=F3
 refine go ?_;intros
 refine cf (Ai7 x.Aa s _ F3 hl t0 t1 hs z1) fun y _=>?_
 refine Ao ?_
 refine D6 (x:=C4 x.Aa s) ?_
 rintro a5 c5 F5 e5 l5
 rw [e5]
 refine go ?_;intros
 refine cf (O0 x (C4 x.Aa s) _ _ F y.2 hb.1 hb.2 (by omega) hn) fun q _=>?_
 refine Ao ?_
 refine Ej (x:=Rx x (C4 x.Aa s)) ?_
 rintro a6 c6 F6 a7 c7 F7 e6 l6 l7
 rw [e6]
 refine go ?_;intros
 refine Av [0,4] [] ?_
 refine dt 0 ?_
 refine dt 1 ?_
 refine dO 2 (by kernel_rfl) (by rw [List.getElem?_toArray];rfl) ?_
 apply Cf;rfl;rfl;rfl;(first|exact AggC.s|exact OneC.s);rfl;exact Ci;exact Cg;rfl
 refine dk ?_
 refine dO 3 (by kernel_rfl) (by rw [List.getElem?_toArray];rfl) ?_
 apply Cf;rfl;rfl;rfl;(first|exact AggC.s|exact OneC.s);rfl;exact Ci;exact Cg;rfl
 refine dk ?_
 refine dd ?_
 refine Dt (Mq x s) ?_
 refine go ?_;intros
 refine ret ⟨_,_,_,_,_⟩ trivial rfl
theorem Agp (x:Cj) (s:ByteArray) (v:Value) (F:List Nat) (hg:Cb x=true) (hs:s.size≤maxLen) :
  Fn prog 88 [v,.string s] [.isv Dh v x F] [] (fun (_:Aaj)=>True) (fun z=>.tuple #[.agg #[.int .i64 (Nw x s).Aa.Ak,.int .i64 (Nw x s).Aa.size,.slice z.a (Nw x s).Aa.Aj.length z.c,.int .i64 (Nw x s).Ai,.int .i64 (Nw x s).quiet,.slice z.a2 (Nw x s).holds.length z.c2],.agg #[.int .i64 1,.int .i64 (Dd x.Aa s).Ac,.int .i64 (Dd x.Aa s).Ak,.int .i64 (Dd x.Aa s).Dy,.string s]]) (fun z=>[.isv Dh (.agg #[.int .i64 (Nw x s).Aa.Ak,.int .i64 (Nw x s).Aa.size,.slice z.a (Nw x s).Aa.Aj.length z.c,.int .i64 (Nw x s).Ai,.int .i64 (Nw x s).quiet,.slice z.a2 (Nw x s).holds.length z.c2]) (Nw x s) z.F]):=by
 obtain ⟨gw,hl,t0,t1,k0,k1,hm,hn,hu,hb⟩:=Mk hg
 obtain ⟨-,⟨z1, -⟩, -⟩:=Ea.1 gw
 have h:=Tj x s v F t0 t1 hl z1 (by omega) (W0 hn) hs
 rw [Aj9 hu] at h
 exact h
theorem L0 (n:En) (s:Fa) (v:Value) (F FT:List Nat) (hss:s.data.size≤maxLen) (g1:A8 n=true) (g2:Dg s=true):Fn prog 37 [v,.agg #[.int .i64 s.Cm,.int .i64 s.node,.string s.data]] [.isv Lr v n F,Li FT] [] (fun (_:Rd)=>True) (fun z=>.tuple #[.agg z.cs.toArray,.slice z.a (As n s).2.1.length z.c,.bool (As n s).2.2]) (fun z=>[.isv Lr (.agg z.cs.toArray) (As n s).1 z.F,.ow A6 9 (.slice z.a (As n s).2.1.length z.c) (As n s).2.1 z.Fe]):=by
 have hG:=Bo.1 g1
 have h8:=Ll hG.t
 have hn8:=h8.n1
 have hn2:=h8.n0
 obtain ⟨q1,q2,q3,q4⟩:=Bz.1 hG.l
 have hkl:=P0 n.Ar.Ad 0
 have hkx:∀x∈Gb n.Ar.Ad 0,0≤x∧x.toNat < n.down.length:=fun x hx=>by have:=Jj (i:=0) h8 hx;omega
 have hd6:∀q∈n.down,q.length≤6:=fun q hq=>(Io ((No g1).2.2.1 q hq)).1
 have hck:=Uk hG.s
 refine enter func37 rfl ntmps37 fun w0=>?_
 refine C9 ?_
 rintro a1 c1 F1 a2 c2 F2 a3 c3 F3 a4 c4 F4 a5 c5 F5 a6 c6 F6 a7 c7 F7 rfl l1 l2 l3 l4 l5 l6 l7
 refine go ?_;intros
 refine cf (Aci n _ F g1) fun z _=>?_
 refine Ao ?_
 obtain ⟨w,y⟩:=z
 dsimp only
 refine Ax (E:=Be) (xs:=n.Ar.Ad) fun Ft=>?_
 refine Vo (E:=B4) (xs:=n.Ah) Qq (m:=2) rfl fun ye Fe Ge he1 he2=>?_
 refine Wx (R:=Bh) (xs:=n.Ah) I0 fun He=>?_
 refine Vo (E:=Bt) (xs:=n.Ae) Pm (m:=5) rfl fun yr Fr Gr hr1 hr2=>?_
 refine Wx (R:=Bn) (xs:=n.Ae) Pp fun Hr=>?_
 refine Vo (E:=H9 Al 110) (xs:=n.down) Ud (m:=1) rfl fun yd Fd Gd hd1 hd2=>?_
 refine Wx (R:=Kj Al (by decide)) (xs:=n.down) (Qc (Ls.refl Al) (by decide) _) fun Hd=>?_
 refine Vo (E:=H9 Al 110) (xs:=n.up) Ud (m:=1) rfl fun yu Fu Gu hu1 hu2=>?_
 refine Wx (R:=Kj Al (by decide)) (xs:=n.up) (Qc (Ls.refl Al) (by decide) _) fun Hu=>?_
 rw [q1,q2,q3,q4]
 refine Ky n.Ar (a1:=w.a1) ?_
 refine go ?_;intros
 refine Bd rfl (fun h1=>?_) (fun h1=>?_)
 ·have e1:Cd n s=some (Mp n s.data,[]):=by unfold Cd;rw [if_pos h1]
  have hgm:=Id g1 g2 e1
  rw [show As n s=(Mp n s.data,[],true) by unfold As;rw [g1,g2,e1];rfl]
  refine go ?_;intros
  refine cf (Agp n.Ab s.data _ _ hG.s hss) fun u _=>?_
  refine Ao ?_
  refine go ?_;intros
  refine Av [0,3] [] ?_
  refine dt 0 ?_
  refine dt 1 ?_
  refine dt 2 ?_
  refine dt 4 ?_
  refine Nn 3 5 (by kernel_rfl) (by rw [List.getElem?_toArray];rfl) (by rw [List.getElem?_toArray];rfl) ?_ ?_
  ·apply At;rfl;kernel_rfl;exact Bb
   refine cf (Ml n.Ar 0 _ Ft (P2 h8.z (Int.le_refl _)) ⟨by omega,by omega⟩) fun v _=>?_
   refine Ao ?_
   refine Ax (E:=Be) (xs:=Gb n.Ar.Ad 0) fun Fk=>?_
   refine dk ?_
   refine dO 5 (by kernel_rfl) (by rw [List.getElem?_toArray];rfl) ?_
   apply Hh;rfl;rfl;rfl;rfl;exact Gz;exact Gp;intro _
   refine Ee (E:=Al) (xs:=[Dd n.Ab.Aa s.data]) (Cz (Dd n.Ab.Aa s.data) hss) ?_ (by simp)
   refine Ax (E:=Al) (xs:=[Dd n.Ab.Aa s.data]) fun Fp=>?_
   refine dk ?_
   refine dO 6 (by kernel_rfl) (by rw [List.getElem?_toArray];rfl) ?_
   apply At;rfl;kernel_rfl;exact Bb
   refine cf (Ko n.down (Gb n.Ar.Ad 0) [Dd n.Ab.Aa s.data] _ _ _ _ _ _ _ _ _ _ _ _ _ _ _ _ _ _ _ _ _ _ _ _ _ yd Fd Hd _ _ Fk _ _ Fp hkx hd6) fun x _=>?_
   refine Ao ?_
   refine dk ?_
   refine dd ?_
   refine go ?_;intros
   refine C1 A6 ?_
   refine go ?_;intros
   refine Ed (ys:=ye) fun _ w4=>?_
   refine Ed (ys:=yr) fun _ w5=>?_
   refine Ed (ys:=x.ys) fun _ w6=>?_
   refine Ed (ys:=yu) fun _ w7=>?_
   refine Ax (E:=EC 2) (xs:=ye) fun _=>?_
   refine Ax (E:=EC 5) (xs:=yr) fun _=>?_
   refine Ax (E:=EC 1) (xs:=x.ys) fun _=>?_
   refine Ax (E:=EC 1) (xs:=yu) fun _=>?_
   refine Te (Mp n s.data) (l:=n.Ar.Ad) (N:=n.Ar.Ad.length) rfl rfl (Bo.1 hgm).l w4 w5 w6 w7 (a1:=w.a1) (c1:=w.c1) (a2:=u.a) (c2:=u.c) (a3:=u.a2) (c3:=u.c2) (a4:=y.a4) (c4:=y.c4) (a5:=y.a5) (c5:=y.c5) (a6:=y.a6) (c6:=y.c6) (a7:=y.a7) (c7:=y.c7) fun FN=>?_
   refine ret (⟨[.slice w.a1 n.Ar.Ad.length w.c1,.int .i64 ((Mp n s.data).Ab).Aa.Ak,.int .i64 ((Mp n s.data).Ab).Aa.size,.slice u.a ((Mp n s.data).Ab).Aa.Aj.length u.c,.int .i64 ((Mp n s.data).Ab).Ai,.int .i64 ((Mp n s.data).Ab).quiet,.slice u.a2 ((Mp n s.data).Ab).holds.length u.c2,.slice y.a4 n.Ar.Ad.length y.c4,.slice y.a5 n.Ar.Ad.length y.c5,.slice y.a6 n.Ar.Ad.length y.c6,.slice y.a7 n.Ar.Ad.length y.c7],FN,_,_,_⟩:Rd) trivial rfl
  ·apply Hh;rfl;rfl;rfl;rfl;exact Gz;exact Gp;intro _
   refine Ee (E:=Al) (xs:=[Dd n.Ab.Aa s.data]) (Cz (Dd n.Ab.Aa s.data) hss) ?_ (by simp)
   refine Ax (E:=Al) (xs:=[Dd n.Ab.Aa s.data]) fun Fp=>?_
   refine dk ?_
   refine dO 3 (by kernel_rfl) (by rw [List.getElem?_toArray];rfl) ?_
   apply At;rfl;kernel_rfl;exact Bb
   refine cf (Ml n.Ar 0 _ Ft (P2 h8.z (Int.le_refl _)) ⟨by omega,by omega⟩) fun v _=>?_
   refine Ao ?_
   refine Ax (E:=Be) (xs:=Gb n.Ar.Ad 0) fun Fk=>?_
   refine dk ?_
   refine dO 6 (by kernel_rfl) (by rw [List.getElem?_toArray];rfl) ?_
   apply At;rfl;kernel_rfl;exact Bb
   refine cf (Ko n.down (Gb n.Ar.Ad 0) [Dd n.Ab.Aa s.data] _ _ _ _ _ _ _ _ _ _ _ _ _ _ _ _ _ _ _ _ _ _ _ _ _ yd Fd Hd _ _ Fk _ _ Fp hkx hd6) fun x _=>?_
   refine Ao ?_
   refine dk ?_
   refine dd ?_
   refine go ?_;intros
   refine C1 A6 ?_
   refine go ?_;intros
   refine Ed (ys:=ye) fun _ w4=>?_
   refine Ed (ys:=yr) fun _ w5=>?_
   refine Ed (ys:=x.ys) fun _ w6=>?_
   refine Ed (ys:=yu) fun _ w7=>?_
   refine Ax (E:=EC 2) (xs:=ye) fun _=>?_
   refine Ax (E:=EC 5) (xs:=yr) fun _=>?_
   refine Ax (E:=EC 1) (xs:=x.ys) fun _=>?_
   refine Ax (E:=EC 1) (xs:=yu) fun _=>?_
   refine Te (Mp n s.data) (l:=n.Ar.Ad) (N:=n.Ar.Ad.length) rfl rfl (Bo.1 hgm).l w4 w5 w6 w7 (a1:=w.a1) (c1:=w.c1) (a2:=u.a) (c2:=u.c) (a3:=u.a2) (c3:=u.c2) (a4:=y.a4) (c4:=y.c4) (a5:=y.a5) (c5:=y.c5) (a6:=y.a6) (c6:=y.c6) (a7:=y.a7) (c7:=y.c7) fun FN=>?_
   refine ret (⟨[.slice w.a1 n.Ar.Ad.length w.c1,.int .i64 ((Mp n s.data).Ab).Aa.Ak,.int .i64 ((Mp n s.data).Ab).Aa.size,.slice u.a ((Mp n s.data).Ab).Aa.Aj.length u.c,.int .i64 ((Mp n s.data).Ab).Ai,.int .i64 ((Mp n s.data).Ab).quiet,.slice u.a2 ((Mp n s.data).Ab).holds.length u.c2,.slice y.a4 n.Ar.Ad.length y.c4,.slice y.a5 n.Ar.Ad.length y.c5,.slice y.a6 n.Ar.Ad.length y.c6,.slice y.a7 n.Ar.Ad.length y.c7],FN,_,_,_⟩:Rd) trivial rfl
 refine go ?_;intros
 refine Bd rfl (fun h4=>?_) (fun h4=>?_)
 ·refine go ?_;intros
  refine Bd rfl (fun hc=>?_) (fun hc=>?_)
  ·have e1:Cd n s=none:=by unfold Cd;rw [if_neg h1,if_pos h4,if_pos hc]
   rw [show As n s=(Kd,[],false) by unfold As;rw [g1,g2,e1];rfl]
   refine Ba Be (by decide) ?_
   refine Ba A6 (by decide) ?_
   refine Ba Bi (by decide) ?_
   refine Ba Bh (by decide) ?_
   refine Ba Bn (by decide) ?_
   refine Ba (Kj Al (by decide)) (by decide) ?_
   refine Ba (Kj Al (by decide)) (by decide) ?_
   refine Ga Kd (a1:=none) (c1:=0) (a2:=none) (c2:=0) (a3:=none) (c3:=0) (a4:=none) (c4:=0) (a5:=none) (c5:=0) (a6:=none) (c6:=0) (a7:=none) (c7:=0) ?_
   refine go ?_;intros
   refine C1 A6 ?_
   refine go ?_;intros
   refine ret (⟨[.slice none 0 0,.int .i64 0,.int .i64 0,.slice none 0 0,.int .i64 0,.int .i64 0,.slice none 0 0,.slice none 0 0,.slice none 0 0,.slice none 0 0,.slice none 0 0],_,_,_,_⟩:Rd) trivial rfl
  ·have e1:Cd n s=some (D7 n):=by unfold Cd;rw [if_neg h1,if_pos h4,if_neg hc]
   have hgm:=Id g1 g2 e1
   rw [show As n s=((D7 n).1,(D7 n).2,true) by unfold As;rw [g1,g2,e1];rfl]
   refine go ?_;intros
   refine cf (Agy n w.a1 w.c1 y.a4 y.c4 y.a5 y.c5 y.a6 y.c6 y.a7 y.c7 w.s.a w.s.a2 w.s.c w.s.c2 Ft w.s.F FT ⟨⟨ye,Fe,He⟩,⟨yr,Fr,Hr⟩,⟨yd,Fd,Hd⟩,⟨yu,Fu,Hu⟩⟩ g1 (by omega)) fun x _=>?_
   refine Ao ?_
   refine go ?_;intros
   refine Ed (ys:=x.1.e.ys) fun _ w4=>?_
   refine Ed (ys:=x.1.r.ys) fun _ w5=>?_
   refine Ed (ys:=x.1.d.ys) fun _ w6=>?_
   refine Ed (ys:=x.1.u.ys) fun _ w7=>?_
   refine Ax (E:=EC 2) (xs:=x.1.e.ys) fun _=>?_
   refine Ax (E:=EC 5) (xs:=x.1.r.ys) fun _=>?_
   refine Ax (E:=EC 1) (xs:=x.1.d.ys) fun _=>?_
   refine Ax (E:=EC 1) (xs:=x.1.u.ys) fun _=>?_
   refine Te ((D7 n).1) (l:=n.Ar.Ad) (N:=n.Ar.Ad.length) (congrArg Oq.Ad (Ol e1)) rfl (Bo.1 hgm).l w4 w5 w6 w7 (a1:=w.a1) (c1:=w.c1) (a2:=x.2.1.a) (c2:=x.2.1.c) (a3:=x.2.1.a2) (c3:=x.2.1.c2) (a4:=y.a4) (c4:=y.c4) (a5:=y.a5) (c5:=y.c5) (a6:=y.a6) (c6:=y.c6) (a7:=y.a7) (c7:=y.c7) fun FN=>?_
   refine ret (⟨[.slice w.a1 n.Ar.Ad.length w.c1,.int .i64 (((D7 n).1).Ab).Aa.Ak,.int .i64 (((D7 n).1).Ab).Aa.size,.slice x.2.1.a (((D7 n).1).Ab).Aa.Aj.length x.2.1.c,.int .i64 (((D7 n).1).Ab).Ai,.int .i64 (((D7 n).1).Ab).quiet,.slice x.2.1.a2 (((D7 n).1).Ab).holds.length x.2.1.c2,.slice y.a4 n.Ar.Ad.length y.c4,.slice y.a5 n.Ar.Ad.length y.c5,.slice y.a6 n.Ar.Ad.length y.c6,.slice y.a7 n.Ar.Ad.length y.c7],FN,_,_,_⟩:Rd) trivial rfl
 have htk0:Cd n s=Cv n s:=by unfold Cd;rw [if_neg h1,if_neg h4]
 have hf:Mx s.node=true:=by
  have:=g2
  unfold Dg at this
  rw [if_neg h1,if_neg h4] at this
  simp only [Bool.and_eq_true] at this
  exact this.1.2
 obtain ⟨f1,f2⟩:=M5.1 hf
 obtain ⟨i,hi⟩:∃i:Nat,s.node=((i:Nat):Int):=⟨s.node.toNat,by omega⟩
 have i0:i≠0:=by omega
 rw [hi]
 by_cases k5:s.Cm=5
 ·have hu:Rb s=true:=by unfold Rb;rw [decide_eq_true k5];rfl
  have hq:∀h:i < n.up.length,P7 n s=n.up[i]:=fun h=>by unfold P7;rw [hu,if_pos rfl,hi,Int.toNat_natCast];exact Xn h []
  have hpo:Fh n s=Jf n i:=by unfold Fh;rw [hu,if_pos rfl,hi,Int.toNat_natCast]
  refine go ?_;intros
  refine Cw rfl rfl (fun g5=>?_) (fun g5=>?_)
  rotate_left
  ·exact absurd k5 g5
  refine go ?_;intros
  refine Cw rfl rfl (fun h6=>?_) (fun h6=>?_)
  ·have e1:Cv n s=none:=by unfold Cv;rw [if_pos (by omega)]
   rw [show As n s=(Kd,[],false) by unfold As;rw [g1,g2,htk0,e1];rfl]
   refine Ba Be (by decide) ?_
   refine Ba A6 (by decide) ?_
   refine Ba Bi (by decide) ?_
   refine Ba Bh (by decide) ?_
   refine Ba Bn (by decide) ?_
   refine Ba (Kj Al (by decide)) (by decide) ?_
   refine Ba (Kj Al (by decide)) (by decide) ?_
   refine Ga Kd (a1:=none) (c1:=0) (a2:=none) (c2:=0) (a3:=none) (c3:=0) (a4:=none) (c4:=0) (a5:=none) (c5:=0) (a6:=none) (c6:=0) (a7:=none) (c7:=0) ?_
   refine go ?_;intros
   refine C1 A6 ?_
   refine go ?_;intros
   refine ret (⟨[.slice none 0 0,.int .i64 0,.int .i64 0,.slice none 0 0,.int .i64 0,.int .i64 0,.slice none 0 0,.slice none 0 0,.slice none 0 0,.slice none 0 0,.slice none 0 0],_,_,_,_⟩:Rd) trivial rfl
  have hil:i < n.up.length:=by omega
  have hq:=hq hil
  refine Ed (ys:=yu) fun hm hlr=>?_
  refine Ym (ys:=yu) (xs:=n.up) i hm (by omega) (by omega) fun h9 _ Gq=>?_
  refine U2 (x:=n.up[i]) fun a9 c9 e9 l9=>?_
  have e10:yu[i]=[.slice a9 n.up[i].length c9]:=by simpa using e9
  refine Ob (E:=EC 1) (xs:=yu) (m:=1) (E7 1) i ?_ (by repeat (first|exact .here|apply Cu.there)) rfl h9
  rintro _ gq Aq cs Bq ea j2 j3 hHq
  rw [ea]
  obtain ⟨j4, -, -⟩:=j3 w0
  rw [e10] at j4
  subst j4
  refine go ?_;intros
  refine Bd rfl (fun h7=>?_) (fun h7=>?_)
  ·have e1:Cv n s=none:=by unfold Cv;rw [if_neg (by omega),hq,if_pos (by omega)]
   rw [show As n s=(Kd,[],false) by unfold As;rw [g1,g2,htk0,e1];rfl]
   refine Ba Be (by decide) ?_
   refine Ba A6 (by decide) ?_
   refine Ba Bi (by decide) ?_
   refine Ba Bh (by decide) ?_
   refine Ba Bn (by decide) ?_
   refine Ba (Kj Al (by decide)) (by decide) ?_
   refine Ba (Kj Al (by decide)) (by decide) ?_
   refine Ga Kd (a1:=none) (c1:=0) (a2:=none) (c2:=0) (a3:=none) (c3:=0) (a4:=none) (c4:=0) (a5:=none) (c5:=0) (a6:=none) (c6:=0) (a7:=none) (c7:=0) ?_
   refine go ?_;intros
   refine C1 A6 ?_
   refine go ?_;intros
   refine ret (⟨[.slice none 0 0,.int .i64 0,.int .i64 0,.slice none 0 0,.int .i64 0,.int .i64 0,.slice none 0 0,.slice none 0 0,.slice none 0 0,.slice none 0 0,.slice none 0 0],_,_,_,_⟩:Rd) trivial rfl
  have h0:0 < n.up[i].length:=by omega
  refine Lj (xs:=n.up[i]) 0 ?_
  rintro hi3 b3 o3 e3 s3
  rw [e3]
  refine go ?_;intros
  refine Av [2,17] [10] ?_
  refine dt 0 ?_
  refine dt 1 ?_
  refine dt 2 ?_
  refine dt 3 ?_
  refine dt 4 ?_
  refine dt 5 ?_
  refine dt 6 ?_
  refine dt 7 ?_
  refine dO 8 (by kernel_rfl) (by rw [List.getElem?_toArray];rfl) ?_
  refine sld 1 fun a8 c8 F8=>?_
  refine dk ?_
  refine dt 9 ?_
  refine dO 10 (by kernel_rfl) (by rw [List.getElem?_toArray];rfl) ?_
  apply Cf;rfl;rfl;rfl;(first|exact AggC.s|exact OneC.s);rfl;exact Ci;exact Cg;rfl
  refine Lv ?_
  refine dd ?_
  refine Nc (E:=EC 1) (xs:=yu) [.slice a8 (n.up[i].drop 1).length c8] hHq (fun _=>⟨rfl,⟨rfl,by simp [Value.oneCell']⟩,rfl⟩) ?_
  refine To (E:=Al) (x:=n.up[i].drop 1) (by decide) ?_
  refine Nb (E:=Kj Al (by decide)) (ys:=yu) (xs:=n.up) (x:=n.up[i].drop 1) i rfl hm (by omega) fun Gv=>?_
  rw [←ea,show n.up.set i (n.up[i].drop 1)=(Jf n i).up from (Hf (by omega)).symm]
  have hmem:=Nt h0
  have hpk:Bk (Mt n.up[i])=true:=Lz (hq▸(Kv (s:=s) g1).1) hmem
  have hpz:(Mt n.up[i]).data.size≤maxLen:=by
   have h9:=hpk
   unfold Bk Nq at h9
   simp only [Bool.and_eq_true,decide_eq_true_eq] at h9
   unfold maxLen;omega
  have hgp:A8 (Jf n i)=true:=hpo▸Jk g1
  have hGp:=Bo.1 hgp
  have hPg:=Rp h0
  rw [←hPg]
  generalize hP:Mt n.up[i]=P at *
  have htk:Cv n s=some (Nd (Jf n i) i P,[]):=by
   unfold Cv
   rw [if_neg (by omega),hq,if_neg (by omega),hpo,hP,hi,Int.toNat_natCast]
   rw [if_neg (by omega),if_pos k5]
  have hgm:=Id g1 g2 (htk0.trans htk)
  rw [show As n s=(Nd (Jf n i) i P,[],true) by unfold As;rw [g1,g2,htk0,htk];rfl]
  refine go ?_;intros
  refine Bd rfl (fun k2=>?_) (fun k2=>?_)
  ·exact absurd k2 (by omega)
  refine go ?_;intros
  refine Bd rfl (fun m5=>?_) (fun m5=>?_)
  rotate_left
  ·exact absurd k5 m5
  have hdp:∀q∈(Jf n i).down,q.length≤6:=fun q hq=>(Io ((No hgp).2.2.1 q hq)).1
  have hup:∀q∈(Jf n i).up,q.length≤6:=fun q hq=>(Io ((No hgp).2.2.2 q hq)).1
  refine go ?_;intros
  refine cf (Alw (Jf n i) i P w.a1 w.c1 y.a4 y.c4 y.a5 y.c5 y.a6 y.c6 y.a7 y.c7 w.s.a w.s.a2 w.s.c w.s.c2 Ft w.s.F ⟨⟨ye,Fe,He⟩,⟨yr,Fr,Hr⟩,⟨yd,Fd,Hd⟩,⟨yu.set i [.slice a8 (n.up[i].drop 1).length c8],[gq],Gv⟩⟩ hGp.l i0 (by show i < n.Ar.Ad.length;omega) (Ll hGp.t) hGp.s (fun k hk hkl hl=>by obtain ⟨x1,x2,x3,x4,r⟩:=hGp.rn (i:=k) hkl;rw [Is x1];exact (r.hn hk hl).1) hpk hpz hdp hup) fun x _=>?_
  refine Ao ?_
  refine go ?_;intros
  refine C1 A6 ?_
  refine go ?_;intros
  refine Ed (ys:=x.1.e.ys) fun _ w4=>?_
  refine Ed (ys:=x.1.r.ys) fun _ w5=>?_
  refine Ed (ys:=x.1.d.ys) fun _ w6=>?_
  refine Ed (ys:=x.1.u.ys) fun _ w7=>?_
  refine Ax (E:=EC 2) (xs:=x.1.e.ys) fun _=>?_
  refine Ax (E:=EC 5) (xs:=x.1.r.ys) fun _=>?_
  refine Ax (E:=EC 1) (xs:=x.1.d.ys) fun _=>?_
  refine Ax (E:=EC 1) (xs:=x.1.u.ys) fun _=>?_
  refine Te (Nd (Jf n i) i P) (l:=n.Ar.Ad) (N:=n.Ar.Ad.length) (congrArg Oq.Ad (Ol (htk0.trans htk))) rfl (Bo.1 hgm).l w4 w5 w6 w7 (a1:=w.a1) (c1:=w.c1) (a2:=x.2.a) (c2:=x.2.c) (a3:=x.2.a2) (c3:=x.2.c2) (a4:=y.a4) (c4:=y.c4) (a5:=y.a5) (c5:=y.c5) (a6:=y.a6) (c6:=y.c6) (a7:=y.a7) (c7:=y.c7) fun FN=>?_
  refine ret (⟨[.slice w.a1 n.Ar.Ad.length w.c1,.int .i64 ((Nd (Jf n i) i P).Ab).Aa.Ak,.int .i64 ((Nd (Jf n i) i P).Ab).Aa.size,.slice x.2.a ((Nd (Jf n i) i P).Ab).Aa.Aj.length x.2.c,.int .i64 ((Nd (Jf n i) i P).Ab).Ai,.int .i64 ((Nd (Jf n i) i P).Ab).quiet,.slice x.2.a2 ((Nd (Jf n i) i P).Ab).holds.length x.2.c2,.slice y.a4 n.Ar.Ad.length y.c4,.slice y.a5 n.Ar.Ad.length y.c5,.slice y.a6 n.Ar.Ad.length y.c6,.slice y.a7 n.Ar.Ad.length y.c7],FN,_,_,_⟩:Rd) trivial rfl
 by_cases k6:s.Cm=6
 ·have hu:Rb s=true:=by unfold Rb;rw [decide_eq_true k6,Bool.or_true]
  have hq:∀h:i < n.up.length,P7 n s=n.up[i]:=fun h=>by unfold P7;rw [hu,if_pos rfl,hi,Int.toNat_natCast];exact Xn h []
  have hpo:Fh n s=Jf n i:=by unfold Fh;rw [hu,if_pos rfl,hi,Int.toNat_natCast]
  refine go ?_;intros
  refine Cw rfl rfl (fun g5=>?_) (fun g5=>?_)
  ·exact absurd g5 (by omega)
  refine go ?_;intros
  refine Bd rfl (fun g6=>?_) (fun g6=>?_)
  rotate_left
  ·exact absurd k6 g6
  refine go ?_;intros
  refine Cw rfl rfl (fun h6=>?_) (fun h6=>?_)
  ·have e1:Cv n s=none:=by unfold Cv;rw [if_pos (by omega)]
   rw [show As n s=(Kd,[],false) by unfold As;rw [g1,g2,htk0,e1];rfl]
   refine Ba Be (by decide) ?_
   refine Ba A6 (by decide) ?_
   refine Ba Bi (by decide) ?_
   refine Ba Bh (by decide) ?_
   refine Ba Bn (by decide) ?_
   refine Ba (Kj Al (by decide)) (by decide) ?_
   refine Ba (Kj Al (by decide)) (by decide) ?_
   refine Ga Kd (a1:=none) (c1:=0) (a2:=none) (c2:=0) (a3:=none) (c3:=0) (a4:=none) (c4:=0) (a5:=none) (c5:=0) (a6:=none) (c6:=0) (a7:=none) (c7:=0) ?_
   refine go ?_;intros
   refine C1 A6 ?_
   refine go ?_;intros
   refine ret (⟨[.slice none 0 0,.int .i64 0,.int .i64 0,.slice none 0 0,.int .i64 0,.int .i64 0,.slice none 0 0,.slice none 0 0,.slice none 0 0,.slice none 0 0,.slice none 0 0],_,_,_,_⟩:Rd) trivial rfl
  have hil:i < n.up.length:=by omega
  have hq:=hq hil
  refine Ed (ys:=yu) fun hm hlr=>?_
  refine Ym (ys:=yu) (xs:=n.up) i hm (by omega) (by omega) fun h9 _ Gq=>?_
  refine U2 (x:=n.up[i]) fun a9 c9 e9 l9=>?_
  have e10:yu[i]=[.slice a9 n.up[i].length c9]:=by simpa using e9
  refine Ob (E:=EC 1) (xs:=yu) (m:=1) (E7 1) i ?_ (by repeat (first|exact .here|apply Cu.there)) rfl h9
  rintro _ gq Aq cs Bq ea j2 j3 hHq
  rw [ea]
  obtain ⟨j4, -, -⟩:=j3 w0
  rw [e10] at j4
  subst j4
  refine go ?_;intros
  refine Bd rfl (fun h7=>?_) (fun h7=>?_)
  ·have e1:Cv n s=none:=by unfold Cv;rw [if_neg (by omega),hq,if_pos (by omega)]
   rw [show As n s=(Kd,[],false) by unfold As;rw [g1,g2,htk0,e1];rfl]
   refine Ba Be (by decide) ?_
   refine Ba A6 (by decide) ?_
   refine Ba Bi (by decide) ?_
   refine Ba Bh (by decide) ?_
   refine Ba Bn (by decide) ?_
   refine Ba (Kj Al (by decide)) (by decide) ?_
   refine Ba (Kj Al (by decide)) (by decide) ?_
   refine Ga Kd (a1:=none) (c1:=0) (a2:=none) (c2:=0) (a3:=none) (c3:=0) (a4:=none) (c4:=0) (a5:=none) (c5:=0) (a6:=none) (c6:=0) (a7:=none) (c7:=0) ?_
   refine go ?_;intros
   refine C1 A6 ?_
   refine go ?_;intros
   refine ret (⟨[.slice none 0 0,.int .i64 0,.int .i64 0,.slice none 0 0,.int .i64 0,.int .i64 0,.slice none 0 0,.slice none 0 0,.slice none 0 0,.slice none 0 0,.slice none 0 0],_,_,_,_⟩:Rd) trivial rfl
  have h0:0 < n.up[i].length:=by omega
  refine Lj (xs:=n.up[i]) 0 ?_
  rintro hi3 b3 o3 e3 s3
  rw [e3]
  refine go ?_;intros
  refine Av [2,17] [10] ?_
  refine dt 0 ?_
  refine dt 1 ?_
  refine dt 2 ?_
  refine dt 3 ?_
  refine dt 4 ?_
  refine dt 5 ?_
  refine dt 6 ?_
  refine dt 7 ?_
  refine dO 8 (by kernel_rfl) (by rw [List.getElem?_toArray];rfl) ?_
  refine sld 1 fun a8 c8 F8=>?_
  refine dk ?_
  refine dt 9 ?_
  refine dO 10 (by kernel_rfl) (by rw [List.getElem?_toArray];rfl) ?_
  apply Cf;rfl;rfl;rfl;(first|exact AggC.s|exact OneC.s);rfl;exact Ci;exact Cg;rfl
  refine Lv ?_
  refine dd ?_
  refine Nc (E:=EC 1) (xs:=yu) [.slice a8 (n.up[i].drop 1).length c8] hHq (fun _=>⟨rfl,⟨rfl,by simp [Value.oneCell']⟩,rfl⟩) ?_
  refine To (E:=Al) (x:=n.up[i].drop 1) (by decide) ?_
  refine Nb (E:=Kj Al (by decide)) (ys:=yu) (xs:=n.up) (x:=n.up[i].drop 1) i rfl hm (by omega) fun Gv=>?_
  rw [←ea,show n.up.set i (n.up[i].drop 1)=(Jf n i).up from (Hf (by omega)).symm]
  have hmem:=Nt h0
  have hpk:Bk (Mt n.up[i])=true:=Lz (hq▸(Kv (s:=s) g1).1) hmem
  have hpz:(Mt n.up[i]).data.size≤maxLen:=by
   have h9:=hpk
   unfold Bk Nq at h9
   simp only [Bool.and_eq_true,decide_eq_true_eq] at h9
   unfold maxLen;omega
  have hgp:A8 (Jf n i)=true:=hpo▸Jk g1
  have hGp:=Bo.1 hgp
  have hPg:=Rp h0
  rw [←hPg]
  generalize hP:Mt n.up[i]=P at *
  have htk:Cv n s=some (Jf n i,[]):=by
   unfold Cv
   rw [if_neg (by omega),hq,if_neg (by omega),hpo,hP,hi,Int.toNat_natCast]
   rw [if_neg (by omega),if_neg (by omega)]
  have hgm:=Id g1 g2 (htk0.trans htk)
  rw [show As n s=(Jf n i,[],true) by unfold As;rw [g1,g2,htk0,htk];rfl]
  refine go ?_;intros
  refine Bd rfl (fun k2=>?_) (fun k2=>?_)
  ·exact absurd k2 (by omega)
  refine go ?_;intros
  refine Bd rfl (fun m5=>?_) (fun m5=>?_)
  ·exact absurd m5 (by omega)
  refine go ?_;intros
  refine C1 A6 ?_
  refine go ?_;intros
  refine Ed (ys:=ye) fun _ w4=>?_
  refine Ed (ys:=yr) fun _ w5=>?_
  refine Ed (ys:=yd) fun _ w6=>?_
  refine Ed (ys:=(yu.set i [.slice a8 (n.up[i].drop 1).length c8])) fun _ w7=>?_
  refine Ax (E:=EC 2) (xs:=ye) fun _=>?_
  refine Ax (E:=EC 5) (xs:=yr) fun _=>?_
  refine Ax (E:=EC 1) (xs:=yd) fun _=>?_
  refine Ax (E:=EC 1) (xs:=(yu.set i [.slice a8 (n.up[i].drop 1).length c8])) fun _=>?_
  refine Te (Jf n i) (l:=n.Ar.Ad) (N:=n.Ar.Ad.length) rfl rfl (Bo.1 hgm).l w4 w5 w6 w7 (a1:=w.a1) (c1:=w.c1) (a2:=w.s.a) (c2:=w.s.c) (a3:=w.s.a2) (c3:=w.s.c2) (a4:=y.a4) (c4:=y.c4) (a5:=y.a5) (c5:=y.c5) (a6:=y.a6) (c6:=y.c6) (a7:=y.a7) (c7:=y.c7) fun FN=>?_
  refine ret (⟨[.slice w.a1 n.Ar.Ad.length w.c1,.int .i64 ((Jf n i).Ab).Aa.Ak,.int .i64 ((Jf n i).Ab).Aa.size,.slice w.s.a ((Jf n i).Ab).Aa.Aj.length w.s.c,.int .i64 ((Jf n i).Ab).Ai,.int .i64 ((Jf n i).Ab).quiet,.slice w.s.a2 ((Jf n i).Ab).holds.length w.s.c2,.slice y.a4 n.Ar.Ad.length y.c4,.slice y.a5 n.Ar.Ad.length y.c5,.slice y.a6 n.Ar.Ad.length y.c6,.slice y.a7 n.Ar.Ad.length y.c7],FN,_,_,_⟩:Rd) trivial rfl
 have hu:Rb s=false:=by unfold Rb;rw [decide_eq_false k5,decide_eq_false k6];rfl
 have hq:∀h:i < n.down.length,P7 n s=n.down[i]:=fun h=>by unfold P7;rw [hu,if_neg (by decide),hi,Int.toNat_natCast];exact Xn h []
 have hpo:Fh n s=Kz n i:=by unfold Fh;rw [hu,if_neg (by decide),hi,Int.toNat_natCast]
 refine go ?_;intros
 refine Cw rfl rfl (fun g5=>?_) (fun g5=>?_)
 ·exact absurd g5 k5
 refine go ?_;intros
 refine Bd rfl (fun g6=>?_) (fun g6=>?_)
 ·exact absurd g6 k6
 refine go ?_;intros
 refine Cw rfl rfl (fun h6=>?_) (fun h6=>?_)
 ·have e1:Cv n s=none:=by unfold Cv;rw [if_pos (by omega)]
  rw [show As n s=(Kd,[],false) by unfold As;rw [g1,g2,htk0,e1];rfl]
  refine Ba Be (by decide) ?_
  refine Ba A6 (by decide) ?_
  refine Ba Bi (by decide) ?_
  refine Ba Bh (by decide) ?_
  refine Ba Bn (by decide) ?_
  refine Ba (Kj Al (by decide)) (by decide) ?_
  refine Ba (Kj Al (by decide)) (by decide) ?_
  refine Ga Kd (a1:=none) (c1:=0) (a2:=none) (c2:=0) (a3:=none) (c3:=0) (a4:=none) (c4:=0) (a5:=none) (c5:=0) (a6:=none) (c6:=0) (a7:=none) (c7:=0) ?_
  refine go ?_;intros
  refine C1 A6 ?_
  refine go ?_;intros
  refine ret (⟨[.slice none 0 0,.int .i64 0,.int .i64 0,.slice none 0 0,.int .i64 0,.int .i64 0,.slice none 0 0,.slice none 0 0,.slice none 0 0,.slice none 0 0,.slice none 0 0],_,_,_,_⟩:Rd) trivial rfl
 have hil:i < n.down.length:=by omega
 have hq:=hq hil
 refine Ed (ys:=yd) fun hm hlr=>?_
 refine Ym (ys:=yd) (xs:=n.down) i hm (by omega) (by omega) fun h9 _ Gq=>?_
 refine U2 (x:=n.down[i]) fun a9 c9 e9 l9=>?_
 have e10:yd[i]=[.slice a9 n.down[i].length c9]:=by simpa using e9
 refine Ob (E:=EC 1) (xs:=yd) (m:=1) (E7 1) i ?_ (by repeat (first|exact .here|apply Cu.there)) rfl h9
 rintro _ gq Aq cs Bq ea j2 j3 hHq
 rw [ea]
 obtain ⟨j4, -, -⟩:=j3 w0
 rw [e10] at j4
 subst j4
 refine go ?_;intros
 refine Bd rfl (fun h7=>?_) (fun h7=>?_)
 ·have e1:Cv n s=none:=by unfold Cv;rw [if_neg (by omega),hq,if_pos (by omega)]
  rw [show As n s=(Kd,[],false) by unfold As;rw [g1,g2,htk0,e1];rfl]
  refine Ba Be (by decide) ?_
  refine Ba A6 (by decide) ?_
  refine Ba Bi (by decide) ?_
  refine Ba Bh (by decide) ?_
  refine Ba Bn (by decide) ?_
  refine Ba (Kj Al (by decide)) (by decide) ?_
  refine Ba (Kj Al (by decide)) (by decide) ?_
  refine Ga Kd (a1:=none) (c1:=0) (a2:=none) (c2:=0) (a3:=none) (c3:=0) (a4:=none) (c4:=0) (a5:=none) (c5:=0) (a6:=none) (c6:=0) (a7:=none) (c7:=0) ?_
  refine go ?_;intros
  refine C1 A6 ?_
  refine go ?_;intros
  refine ret (⟨[.slice none 0 0,.int .i64 0,.int .i64 0,.slice none 0 0,.int .i64 0,.int .i64 0,.slice none 0 0,.slice none 0 0,.slice none 0 0,.slice none 0 0,.slice none 0 0],_,_,_,_⟩:Rd) trivial rfl
 have h0:0 < n.down[i].length:=by omega
 refine Lj (xs:=n.down[i]) 0 ?_
 rintro hi3 b3 o3 e3 s3
 rw [e3]
 refine go ?_;intros
 refine Av [2,17] [10] ?_
 refine dt 0 ?_
 refine dt 1 ?_
 refine dt 2 ?_
 refine dt 3 ?_
 refine dt 4 ?_
 refine dt 5 ?_
 refine dt 6 ?_
 refine dt 7 ?_
 refine dO 8 (by kernel_rfl) (by rw [List.getElem?_toArray];rfl) ?_
 refine sld 1 fun a8 c8 F8=>?_
 refine dk ?_
 refine dt 9 ?_
 refine dO 10 (by kernel_rfl) (by rw [List.getElem?_toArray];rfl) ?_
 apply Cf;rfl;rfl;rfl;(first|exact AggC.s|exact OneC.s);rfl;exact Ci;exact Cg;rfl
 refine Lv ?_
 refine dd ?_
 refine Nc (E:=EC 1) (xs:=yd) [.slice a8 (n.down[i].drop 1).length c8] hHq (fun _=>⟨rfl,⟨rfl,by simp [Value.oneCell']⟩,rfl⟩) ?_
 refine To (E:=Al) (x:=n.down[i].drop 1) (by decide) ?_
 refine Nb (E:=Kj Al (by decide)) (ys:=yd) (xs:=n.down) (x:=n.down[i].drop 1) i rfl hm (by omega) fun Gv=>?_
 rw [←ea,show n.down.set i (n.down[i].drop 1)=(Kz n i).down from (Hf (by omega)).symm]
 have hmem:=Nt h0
 have hpk:Bk (Mt n.down[i])=true:=Lz (hq▸(Kv (s:=s) g1).1) hmem
 have hpz:(Mt n.down[i]).data.size≤maxLen:=by
  have h9:=hpk
  unfold Bk Nq at h9
  simp only [Bool.and_eq_true,decide_eq_true_eq] at h9
  unfold maxLen;omega
 have hgp:A8 (Kz n i)=true:=hpo▸Jk g1
 have hGp:=Bo.1 hgp
 have hPg:=Rp h0
 rw [←hPg]
 generalize hP:Mt n.down[i]=P at *
 have htk:Cv n s=if s.Cm=2 then some (C2 (Kz n i) i P) else some (Kz n i,[]):=by
  unfold Cv
  rw [if_neg (by omega),hq,if_neg (by omega),hpo,hP,hi,Int.toNat_natCast]
  split
  ·rfl
  ·first|rfl|rw [if_neg k5]
 have hdp:∀q∈(Kz n i).down,q.length≤6:=fun q hq=>(Io ((No hgp).2.2.1 q hq)).1
 refine go ?_;intros
 refine Bd rfl (fun k2=>?_) (fun k2=>?_)
 ·rw [if_pos k2] at htk
  have hgm:=Id g1 g2 (htk0.trans htk)
  rw [show As n s=((C2 (Kz n i) i P).1,(C2 (Kz n i) i P).2,true) by unfold As;rw [g1,g2,htk0,htk];rfl]
  refine go ?_;intros
  have hls:(C2 (Kz n i) i P).1.Ab=n.Ab:=by unfold C2;split <;> rfl
  refine Av [4,8,20] [] ?_
  refine dt 0 ?_
  refine dt 1 ?_
  refine dt 2 ?_
  refine dt 3 ?_
  refine dt 4 ?_
  refine dO 5 (by kernel_rfl) (by rw [List.getElem?_toArray];rfl) ?_
  apply At;rfl;kernel_rfl;exact Bb
  refine cf (Aay (Kz n i) i P w.a1 w.c1 y.a4 y.c4 y.a5 y.c5 y.a6 y.c6 y.a7 y.c7 w.s.a w.s.a2 n.Ab.Aa.Aj.length w.s.c n.Ab.holds.length w.s.c2 _ _ _ _ Ft ⟨⟨ye,Fe,He⟩,⟨yr,Fr,Hr⟩,⟨yd.set i [.slice a8 (n.down[i].drop 1).length c8],[gq],Gv⟩,⟨yu,Fu,Hu⟩⟩ FT hGp.l (by show i < n.Ar.Ad.length;omega) (by omega) (Ll hGp.t) (fun hl=>by obtain ⟨x1,x2,x3,x4,r⟩:=hGp.rn (i:=i) (by show i < n.Ar.Ad.length;omega);rw [Ln x2];exact (r.hf i0 hl).2.1) (fun hl=>by obtain ⟨x1,x2,x3,x4,r⟩:=hGp.rn (i:=i) (by show i < n.Ar.Ad.length;omega);rw [Is x1];exact (r.hn i0 hl).1) hpk hpz hdp) fun x _=>?_
  refine Ao ?_
  refine dk ?_
  refine dO 6 (by kernel_rfl) (by rw [List.getElem?_toArray];rfl) ?_
  apply Cf;rfl;rfl;rfl;(first|exact AggC.s|exact OneC.s);rfl;exact Ci;exact Cg;rfl
  refine dk ?_
  refine dt 7 ?_
  refine dt 8 ?_
  refine dd ?_
  refine go ?_;intros
  rw [←hls]
  refine Ed (ys:=x.1.e.ys) fun _ w4=>?_
  refine Ed (ys:=x.1.r.ys) fun _ w5=>?_
  refine Ed (ys:=x.1.d.ys) fun _ w6=>?_
  refine Ed (ys:=x.1.u.ys) fun _ w7=>?_
  refine Ax (E:=EC 2) (xs:=x.1.e.ys) fun _=>?_
  refine Ax (E:=EC 5) (xs:=x.1.r.ys) fun _=>?_
  refine Ax (E:=EC 1) (xs:=x.1.d.ys) fun _=>?_
  refine Ax (E:=EC 1) (xs:=x.1.u.ys) fun _=>?_
  refine Te ((C2 (Kz n i) i P).1) (l:=n.Ar.Ad) (N:=n.Ar.Ad.length) (congrArg Oq.Ad (Ol (htk0.trans htk))) rfl (Bo.1 hgm).l w4 w5 w6 w7 (a1:=w.a1) (c1:=w.c1) (a2:=w.s.a) (c2:=w.s.c) (a3:=w.s.a2) (c3:=w.s.c2) (a4:=y.a4) (c4:=y.c4) (a5:=y.a5) (c5:=y.c5) (a6:=y.a6) (c6:=y.c6) (a7:=y.a7) (c7:=y.c7) fun FN=>?_
  refine ret (⟨[.slice w.a1 n.Ar.Ad.length w.c1,.int .i64 (((C2 (Kz n i) i P).1).Ab).Aa.Ak,.int .i64 (((C2 (Kz n i) i P).1).Ab).Aa.size,.slice w.s.a (((C2 (Kz n i) i P).1).Ab).Aa.Aj.length w.s.c,.int .i64 (((C2 (Kz n i) i P).1).Ab).Ai,.int .i64 (((C2 (Kz n i) i P).1).Ab).quiet,.slice w.s.a2 (((C2 (Kz n i) i P).1).Ab).holds.length w.s.c2,.slice y.a4 n.Ar.Ad.length y.c4,.slice y.a5 n.Ar.Ad.length y.c5,.slice y.a6 n.Ar.Ad.length y.c6,.slice y.a7 n.Ar.Ad.length y.c7],FN,x.2.a,x.2.c,x.2.F⟩:Rd) trivial rfl
 ·rw [if_neg k2] at htk
  have hgm:=Id g1 g2 (htk0.trans htk)
  rw [show As n s=(Kz n i,[],true) by unfold As;rw [g1,g2,htk0,htk];rfl]
  refine go ?_;intros
  refine Bd rfl (fun m5=>?_) (fun m5=>?_)
  ·exact absurd m5 k5
  refine go ?_;intros
  refine C1 A6 ?_
  refine go ?_;intros
  refine Ed (ys:=ye) fun _ w4=>?_
  refine Ed (ys:=yr) fun _ w5=>?_
  refine Ed (ys:=(yd.set i [.slice a8 (n.down[i].drop 1).length c8])) fun _ w6=>?_
  refine Ed (ys:=yu) fun _ w7=>?_
  refine Ax (E:=EC 2) (xs:=ye) fun _=>?_
  refine Ax (E:=EC 5) (xs:=yr) fun _=>?_
  refine Ax (E:=EC 1) (xs:=(yd.set i [.slice a8 (n.down[i].drop 1).length c8])) fun _=>?_
  refine Ax (E:=EC 1) (xs:=yu) fun _=>?_
  refine Te (Kz n i) (l:=n.Ar.Ad) (N:=n.Ar.Ad.length) rfl rfl (Bo.1 hgm).l w4 w5 w6 w7 (a1:=w.a1) (c1:=w.c1) (a2:=w.s.a) (c2:=w.s.c) (a3:=w.s.a2) (c3:=w.s.c2) (a4:=y.a4) (c4:=y.c4) (a5:=y.a5) (c5:=y.c5) (a6:=y.a6) (c6:=y.c6) (a7:=y.a7) (c7:=y.c7) fun FN=>?_
  refine ret (⟨[.slice w.a1 n.Ar.Ad.length w.c1,.int .i64 ((Kz n i).Ab).Aa.Ak,.int .i64 ((Kz n i).Ab).Aa.size,.slice w.s.a ((Kz n i).Ab).Aa.Aj.length w.s.c,.int .i64 ((Kz n i).Ab).Ai,.int .i64 ((Kz n i).Ab).quiet,.slice w.s.a2 ((Kz n i).Ab).holds.length w.s.c2,.slice y.a4 n.Ar.Ad.length y.c4,.slice y.a5 n.Ar.Ad.length y.c5,.slice y.a6 n.Ar.Ad.length y.c6,.slice y.a7 n.Ar.Ad.length y.c7],FN,_,_,_⟩:Rd) trivial rfl
theorem Rw (v v2:Value) (xs:List ByteArray) (F F2:List Nat):Fn prog 10 [v,v2] [.sl A6 v xs F,.sl A6 v2 xs F2] [] (fun (_:Unit)=>True) (fun _=>.bool true) (fun _=>[]):=by
 refine enter func10 rfl ntmps10 fun w0=>?_
 refine Qw (v:=v) (xs:=xs) (F:=F) ?_
 rintro a c rfl l1 l2
 refine Qw (v:=v2) (xs:=xs) (F:=F2) ?_
 rintro a2 c2 rfl l3 l4
 refine go ?_;intros
 refine Bd rfl (fun h=>?_) (fun h=>?_)
 ·exact absurd rfl h
 refine go ?_;intros
 refine Ds [0,1,4] (fun k:Nat=>[(5,.int .i64 k)]) (fun k=>k≤xs.length) (fun k=>xs.length - k) 0 (Nat.zero_le _) fun k hk=>?_
 refine go ?_;intros
 refine Bd rfl (fun h3=>?_) (fun h3=>?_)
 ·have hk3:k < xs.length:=by omega
  refine Ux (a:=a) (xs:=xs) k ?_
  rintro hi b o e s1
  rw [e]
  refine Ux (a:=a2) (xs:=xs) k ?_
  rintro hi2 b2 o2 e2 s2
  rw [e2]
  refine Jq ?_;intros
  refine Av [0,1] [] ?_
  refine dt 0 ?_
  refine dt 1 ?_
  refine dt 2 ?_
  refine dt 3 ?_
  refine dt 4 ?_
  refine dt 5 ?_
  refine dt 6 ?_
  refine dt 7 ?_
  refine dt 8 ?_
  refine dd ?_
  refine go ?_;intros
  refine Bd rfl (fun h4=>?_) (fun h4=>?_)
  ·exact absurd rfl h4
  refine go ?_;intros
  refine Co (k+1) hk3 (by omega)
 ·refine go ?_;intros
  refine ret () trivial rfl
theorem Aol (v:Value) (Bm:List Int) (F:List Nat):Fn prog 5 [v] [.sl E9 v Bm F] [] (fun (_:Unit)=>True) (fun _=>.bool (decide (65536 < (Bm.length:Int)))) (fun _=>[]):=by
 refine enter func5 rfl ntmps5 fun w0=>?_
 refine Qw (E:=E9) ?_
 rintro a c rfl l1 l2
 refine go ?_;intros
 refine ret () trivial rfl
theorem Ahs (v v2:Value) (x:Az) (F F2:List Nat):Fn prog 94 [v,v2] [.isv Br v x F,.isv Br v2 x F2] [] (fun (_:Unit)=>True) (fun _=>.bool true) (fun _=>[]):=by
 refine enter func94 rfl ntmps94 fun w0=>?_
 refine D6 (v:=v) (F:=F) ?_
 rintro a1 c1 F1 rfl l1
 refine D6 (v:=v2) (F:=F2) ?_
 rintro a2 c2 F3 rfl l2
 refine go ?_;intros
 refine Cw rfl rfl (fun h1=>?_) (fun h1=>?_)
 ·refine go ?_;intros
  refine Cw rfl rfl (fun h2=>?_) (fun h2=>?_)
  ·refine go ?_;intros
   refine cf (Rw _ _ x.Aj F1 F3) fun _ _=>?_
   refine Ao ?_
   refine go ?_;intros
   refine ret () trivial rfl
  ·exact absurd rfl h2
 ·exact absurd rfl h1
theorem Ag8 (p:Aw) (w:World):(Op.equalIn 10000 110 (.agg #[.int .i64 p.Cm,.int .i64 p.Ac,.int .i64 p.Ak,.int .i64 p.Dy,.string p.data]) (.agg #[.int .i64 p.Cm,.int .i64 p.Ac,.int .i64 p.Ak,.int .i64 p.Dy,.string p.data])).run prog w=.ok true w:=by
 have u1:=underlying3
 have u2:=underlying9
 have hS:prog.underlying 110=some (.struct (prog.fieldsOf 110)):=by kernel_rfl
 rw [show (10000:Nat)=9999+1 from rfl,run_equalIn_agg w 9999 110 _ _ hS (by kernel_rfl)]
 have a1:=Tryz.isAgg3
 have a2:=Tryz.isAgg9
 simp only [Program.fieldsOf,underlying110]
 go_simp
theorem Adh {n:Nat} {fr:Fr} {H:List Pc} {x y:Operand} {ty t':TypeId} {p:Aw} (hx:ev fr x=some (.agg #[.int .i64 p.Cm,.int .i64 p.Ac,.int .i64 p.Ak,.int .i64 p.Dy,.string p.data])) (hy:ev fr y=some (.agg #[.int .i64 p.Cm,.int .i64 p.Ac,.int .i64 p.Ak,.int .i64 p.Dy,.string p.data])):Yd prog n fr H (.binOp .neq 110 x y t') ty (.bool false):=.mk fun c w d pos Ca gd hA _=>by
 have h2:(eqGuard .neq 110 x y (.agg #[.int .i64 p.Cm,.int .i64 p.Ac,.int .i64 p.Ak,.int .i64 p.Dy,.string p.data]) (.agg #[.int .i64 p.Cm,.int .i64 p.Ac,.int .i64 p.Ak,.int .i64 p.Dy,.string p.data])).run prog w=.ok () w:=run_eqGuard_agg w _ _ _ _ _ _ (by kernel_rfl)
 simp only [execOp,hA.ev hx,hA.ev hy,Sem.run_bind,h2,Result.andThen_ok,run_neq_struct,Ag8,Sem.run_pure]
 rfl
theorem Alr (s:Fv) (w:World):(Op.equalIn 10000 134 (.agg #[.int .i64 s.Ac,.int .i64 s.By]) (.agg #[.int .i64 s.Ac,.int .i64 s.By])).run prog w=.ok true w:=by
 have u0:=underlying3
 have a0:=Tryz.isAgg3
 have hS:prog.underlying 134=some (.struct (prog.fieldsOf 134)):=by kernel_rfl
 rw [show (10000:Nat)=9999+1 from rfl,run_equalIn_agg w 9999 134 _ _ hS (by kernel_rfl)]
 simp only [Program.fieldsOf,underlying134]
 go_simp
theorem Ahw {n:Nat} {fr:Fr} {H:List Pc} {x y:Operand} {ty t':TypeId} {s:Fv} (hx:ev fr x=some (.agg #[.int .i64 s.Ac,.int .i64 s.By])) (hy:ev fr y=some (.agg #[.int .i64 s.Ac,.int .i64 s.By])):Yd prog n fr H (.binOp .neq 134 x y t') ty (.bool false):=.mk fun c w d pos Ca gd hA _=>by
 have h2:(eqGuard .neq 134 x y (.agg #[.int .i64 s.Ac,.int .i64 s.By]) (.agg #[.int .i64 s.Ac,.int .i64 s.By])).run prog w=.ok () w:=run_eqGuard_agg w _ _ _ _ _ _ (by kernel_rfl)
 simp only [execOp,hA.ev hx,hA.ev hy,Sem.run_bind,h2,Result.andThen_ok,run_neq_struct,Alr,Sem.run_pure]
 rfl
theorem Ahr (v v2:Value) (x:Cj) (F F2:List Nat):Fn prog 39 [v,v2] [.isv Dh v x F,.isv Dh v2 x F2] [] (fun (_:Unit)=>True) (fun _=>.bool true) (fun _=>[]):=by
 refine enter func39 rfl ntmps39 fun w0=>?_
 refine Ej (v:=v) (x:=x) (F:=F) ?_
 rintro a1 c1 F3 a2 c2 F4 rfl l1 l2
 unfold maxLen at l1 l2
 refine B9 x.Aa (a1:=a1) ?_
 generalize F3=F5
 refine Ej (v:=v2) (x:=x) (F:=F2) ?_
 rintro a3 c3 F6 a4 c4 F7 rfl l3 l4
 refine B9 x.Aa (a1:=a3) ?_
 generalize F6=F8
 refine go ?_;intros
 refine cf (Ahs _ _ x.Aa F5 F8) fun _ _=>?_
 refine Ao ?_
 refine go ?_;intros
 refine Cw rfl rfl (fun h=>?_) (fun h=>?_)
 ·exact absurd rfl h
 refine go ?_;intros
 refine Cw rfl rfl (fun h2=>?_) (fun h2=>?_)
 ·exact absurd rfl h2
 refine go ?_;intros
 refine Bd rfl (fun h3=>?_) (fun h3=>?_)
 ·exact absurd rfl h3
 refine go ?_;intros
 refine Ds [2,3,4] (fun k:Nat=>[(5,.int .i64 k)]) (fun k=>k≤x.holds.length) (fun k=>x.holds.length - k) 0 (Nat.zero_le _) fun k hk=>?_
 refine go ?_;intros
 refine Bd rfl (fun h4=>?_) (fun h4=>?_)
 ·have hk3:k < x.holds.length:=by omega
  refine Pl (a:=a2) (xs:=x.holds) k ?_
  rintro hi b o e
  rw [e]
  refine Pl (a:=a4) (xs:=x.holds) k ?_
  rintro hi2 b2 o2 e2
  rw [e2]
  refine Jq ?_;intros
  refine Av [0,1,2,3] [] ?_
  refine dt 0 ?_
  refine dt 1 ?_
  refine dt 2 ?_
  refine dt 3 ?_
  refine dt 4 ?_
  refine dt 5 ?_
  refine dt 6 ?_
  refine dt 7 ?_
  refine dt 8 ?_
  refine dt 9 ?_
  refine dt 10 ?_ (hy:=Ahw rfl rfl)
  refine dd ?_
  refine go ?_;intros
  refine Co (k+1) hk3 (by omega)
 ·refine go ?_;intros
  refine ret () trivial rfl
theorem Yx (a a2:Option Addr) (c c2:Nat) (xs:List Aw) (F F2:List Nat) (hl:xs.length≤1000000000):Fn prog 42 [.slice a xs.length c,.slice a2 xs.length c2] [.sl Al (.slice a xs.length c) xs F,.sl Al (.slice a2 xs.length c2) xs F2] [] (fun (_:Unit)=>True) (fun _=>.bool true) (fun _=>[]):=by
 refine enter func42 rfl ntmps42 fun w0=>?_
 refine go ?_;intros
 refine Bd rfl (fun h2=>?_) (fun h2=>?_)
 ·exact absurd rfl h2
 refine go ?_;intros
 refine Ds [0,1,4] (fun k:Nat=>[(5,.int .i64 k)]) (fun k=>k≤xs.length) (fun k=>xs.length - k) 0 (Nat.zero_le _) fun k hk=>?_
 refine go ?_;intros
 refine Bd rfl (fun h3=>?_) (fun h3=>?_)
 ·have hk3:k < xs.length:=by omega
  refine Lj (a:=a) (xs:=xs) k ?_
  rintro hi b o e s1
  rw [e]
  refine Lj (a:=a2) (xs:=xs) k ?_
  rintro hi2 b2 o2 e2 s2
  rw [e2]
  refine Jq ?_;intros
  refine Av [0,1] [] ?_
  refine dt 0 ?_
  refine dt 1 ?_
  refine dt 2 ?_
  refine dt 3 ?_
  refine dt 4 ?_
  refine dt 5 ?_
  refine dt 6 ?_
  refine dt 7 ?_
  refine dt 8 ?_ (hy:=Adh rfl rfl)
  refine dd ?_
  refine go ?_;intros
  refine Co (k+1) hk3 (by omega)
 ·refine go ?_;intros
  refine ret () trivial rfl
structure SwS where
 y:Az
 a:Option Addr
 c:Nat
 F:List Nat
 s:O8
structure SwL where
 y:Az
 i:Nat
 a:Option Addr
 c:Nat
 F:List Nat
 s:O8
structure Aqh (B r0:Nat) (z:SwL):Prop where
 l:z.y.Aj.length+z.i=r0
 s:Hq (B+8+50 * z.y.Aj.length) z.s
theorem Aba (B g:Nat) (F:S8) (s:O8) (ok:Hq B s) (hB:B≤800000000000) :
  Fn prog 128 [Eo g 0 0] [.sl E9 (.slice F.a F.Bm.length F.c) F.Bm F.bs] [.row g 67 0 [] [.slice F.a F.Bm.length F.c,.int .i64 (s.k:Nat),.int .u64 s.Dq] []] (fun (z:SwS)=>z.y.Aj.length≤7∧Hq (B+1000) z.s) (fun s=>.agg #[.int .i64 s.y.Ak,.int .i64 s.y.size,.slice s.a s.y.Aj.length s.c])
   (fun s=>[.isv Br (.agg #[.int .i64 s.y.Ak,.int .i64 s.y.size,.slice s.a s.y.Aj.length s.c]) s.y s.F,.row g 67 0 [] [.slice F.a F.Bm.length F.c,.int .i64 (s.s.k:Nat),.int .u64 s.s.Dq] []]):=by
 refine enter func128 rfl ntmps128 fun w0=>?_
 refine B7 A6 9 ?_
 refine go ?_;intros
 refine cf (P9 B g F s ok (by omega)) fun n hn=>?_
 refine Ao ?_
 obtain ⟨hn1,hn2⟩:=hn
 refine go ?_;intros
 refine cf (Ek (B+4) g F 6 n.2 hn2 (by omega) (by omega)) fun y hy=>?_
 refine Ao ?_
 obtain ⟨r1,s1⟩:=y
 obtain ⟨hy1,hy2⟩:=hy
 dsimp only at hy1 hy2 ⊢
 have hr1:r1≤5:=by omega
 refine go ?_;intros
 rename_i gg
 refine cf (Ek _ g F (1+(r1:Int)+1) s1 hy2 (by omega) (by omega)) fun y hy=>?_
 refine Ao ?_
 obtain ⟨r0,s2⟩:=y
 obtain ⟨hz1,hz2⟩:=hy
 dsimp only at hz1 hz2 ⊢
 have hr0:r0≤6:=by omega
 refine go ?_;intros
 refine Cq [0,2,3] (fun z:SwL=>[(4,.int .i64 (z.i:Nat))]) (fun z=>[.row gg 29 0 [] [.int .i64 z.y.Ak,.int .i64 z.y.size,.slice z.a z.y.Aj.length z.c] [],.ow A6 9 (.slice z.a z.y.Aj.length z.c) z.y.Aj z.F,.row g 67 0 [] [.slice F.a F.Bm.length F.c,.int .i64 (z.s.k:Nat),.int .u64 z.s.Dq] []]) (Aqh B r0) (fun z=>z.i) ⟨⟨n.1,1+(r1:Int),[]⟩,r0,none,0,[],s2⟩ ⟨by simp,hz2.mono (by show _≤B+8+50 * 0;omega)⟩ fun z hz=>?_
 obtain ⟨z1,z3⟩:=hz
 refine go ?_;intros
 refine Bd rfl (fun h2=>?_) (fun h2=>?_)
 ·refine Jq ?_;intros
  refine Av [0] [7] ?_
  refine dt 0 ?_
  refine dt 1 ?_
  refine dt 2 ?_
  refine dO 3 (by kernel_rfl) (by rw [List.getElem?_toArray];rfl) ?_
  apply At;rfl;kernel_rfl;exact Bb
  refine cf (Oj _ g F z.s 4 z3 (by omega) (by omega) (by omega)) fun l hl=>?_
  refine Ao ?_
  obtain ⟨hl1,hl2⟩:=hl
  have hl3:l.1.size≤maxLen:=by unfold maxLen;omega
  refine dk ?_
  refine dO 4 (by kernel_rfl) (by rw [List.getElem?_toArray];rfl) ?_
  apply Hh;rfl;rfl;rfl;rfl;exact Gz;exact Gp;intro _
  refine dk ?_
  refine dO 5 (by kernel_rfl) (by rw [List.getElem?_toArray];rfl) ?_
  refine Lh (Afg hl3) Du fun a9 c9 F9=>?_
  refine dk ?_
  refine dt 6 ?_
  refine dO 7 (by kernel_rfl) (by rw [List.getElem?_toArray];rfl) ?_
  apply Cf;rfl;rfl;rfl;(first|exact AggC.s|exact OneC.s);rfl;exact Ci;exact Cg;rfl
  refine Lv ?_
  refine dd ?_
  refine go ?_;intros
  rw [show ((z.i:Nat):Int) - 1=((z.i - 1:Nat):Int) by omega]
  refine Co ⟨⟨z.y.Ak,z.y.size,z.y.Aj++[l.1]⟩,z.i - 1,a9,c9,F9,l.2⟩ ⟨by show (z.y.Aj++[l.1]).length+(z.i - 1)=r0;rw [List.length_append];simp only [List.length_cons,List.length_nil];omega,hl2.mono (by show _≤B+8+50 * (z.y.Aj++[l.1]).length;rw [List.length_append];simp only [List.length_cons,List.length_nil];omega)⟩ (by show z.i - 1 < _;omega)
 ·have hl7:z.y.Aj.length≤6:=by omega
  refine go ?_;intros
  refine cf (Ek _ g F 24 z.s z3 (by omega) (by omega)) fun p hp=>?_
  refine Ao ?_
  obtain ⟨r,s3⟩:=p
  obtain ⟨-,hp⟩:=hp
  dsimp only at hp ⊢
  refine go ?_;intros
  refine Bd rfl (fun e0=>?_) (fun e0=>?_)
  ·refine go ?_;intros
   refine cf (Re _ g F s3 hp (by omega)) fun q hq=>?_
   refine Ao ?_
   refine go ?_;intros
   refine Ax (E:=A6) (xs:=z.y.Aj) fun F8=>?_
   refine B9 ⟨q.1,z.y.size,z.y.Aj⟩ ?_
   refine ret ⟨⟨q.1,z.y.size,z.y.Aj⟩,_,_,_,q.2⟩ ⟨by show z.y.Aj.length≤7;omega,hq.mono (by omega)⟩ rfl
  refine go ?_;intros
  refine Bd rfl (fun e1=>?_) (fun e1=>?_)
  ·refine Jq ?_;intros
   refine Ee (xs:=[0,7,6]) (fun w=>I9 w _) ?_ (by decide)
   refine Ax (E:=Be) fun G=>?_
   refine go ?_;intros
   refine cf (Mg _ g F _ [0,7,6] G s3 hp (by omega) (by decide) (by decide)) fun q hq=>?_
   refine Ao ?_
   refine go ?_;intros
   refine Ax (E:=A6) (xs:=z.y.Aj) fun F8=>?_
   refine B9 ⟨z.y.Ak,q.1,z.y.Aj⟩ ?_
   refine ret ⟨⟨z.y.Ak,q.1,z.y.Aj⟩,_,_,_,q.2⟩ ⟨by show z.y.Aj.length≤7;omega,hq.2.mono (by omega)⟩ rfl
  refine go ?_;intros
  refine Bd rfl (fun e2=>?_) (fun e2=>?_)
  ·refine Jq ?_;intros
   refine Av [1] [8] ?_
   refine dt 0 ?_
   refine dt 1 ?_
   refine dt 2 ?_
   refine dO 3 (by kernel_rfl) (by rw [List.getElem?_toArray];rfl) ?_
   apply Hh;rfl;rfl;rfl;rfl;exact Gz;exact Gp;intro _
   refine Ee (xs:=[⟨#[65]⟩,⟨#[97,98,99,100,101,102,103,104]⟩,⟨#[97,98,99,100,101,102,103,104,105]⟩,⟨#[]⟩]) (fun w=>Xl w _ (by decide)) ?_ (by decide)
   refine Ax (E:=A6) fun G=>?_
   refine dk ?_
   refine dO 4 (by kernel_rfl) (by rw [List.getElem?_toArray];rfl) ?_
   apply At;rfl;kernel_rfl;exact Bb
   refine cf (Al5 _ g F _ [⟨#[65]⟩,⟨#[97,98,99,100,101,102,103,104]⟩,⟨#[97,98,99,100,101,102,103,104,105]⟩,⟨#[]⟩] _ s3 hp (by omega) (by decide) (by decide)) fun q2 hq2=>?_
   refine Ao ?_
   have hq3:q2.1.size≤maxLen:=by have:=hq2.1;simp only [List.mem_cons,List.not_mem_nil,or_false] at this;rcases this with e|e|e|e <;> rw [e] <;> decide
   refine dk ?_
   refine dO 5 (by kernel_rfl) (by rw [List.getElem?_toArray];rfl) ?_
   apply Hh;rfl;rfl;rfl;rfl;exact Gz;exact Gp;intro _
   refine dk ?_
   refine dO 6 (by kernel_rfl) (by rw [List.getElem?_toArray];rfl) ?_
   refine Lh (Afg hq3) Du fun a9 c9 F9=>?_
   refine dk ?_
   refine dt 7 ?_
   refine dO 8 (by kernel_rfl) (by rw [List.getElem?_toArray];rfl) ?_
   apply Cf;rfl;rfl;rfl;(first|exact AggC.s|exact OneC.s);rfl;exact Ci;exact Cg;rfl
   refine Lv ?_
   refine dd ?_
   refine go ?_;intros
   refine Ax (E:=A6) (xs:=z.y.Aj++[q2.1]) fun F8=>?_
   refine B9 ⟨z.y.Ak,z.y.size,z.y.Aj++[q2.1]⟩ ?_
   refine ret ⟨⟨z.y.Ak,z.y.size,z.y.Aj++[q2.1]⟩,_,_,_,q2.2⟩ ⟨by show (z.y.Aj++[q2.1]).length≤7;rw [List.length_append];simp only [List.length_cons,List.length_nil];omega,hq2.2.mono (by omega)⟩ rfl
  refine go ?_;intros
  refine Ax (E:=A6) (xs:=z.y.Aj) fun F8=>?_
  refine B9 z.y ?_
  refine ret ⟨z.y,_,_,_,s3⟩ ⟨by show z.y.Aj.length≤7;omega,hp.mono (by omega)⟩ rfl
theorem Age (B g:Nat) (F:S8) (s:O8) (x:Az) (v:Value) (Fx:List Nat) (ok:Hq B s) (hB:B≤800000000000) (hl:x.Aj.length≤1000) :
  Fn prog 126 [Eo g 0 0,v] [.sl E9 (.slice F.a F.Bm.length F.c) F.Bm F.bs,.isv Br v x Fx] [.row g 67 0 [] [.slice F.a F.Bm.length F.c,.int .i64 (s.k:Nat),.int .u64 s.Dq] []] (fun (z:Int × O8)=>(-1≤z.1∧z.1≤65536)∧Hq (B+8) z.2) (fun z=>.int .i64 z.1) (fun z=>[.row g 67 0 [] [.slice F.a F.Bm.length F.c,.int .i64 (z.2.k:Nat),.int .u64 z.2.Dq] []]):=by
 refine enter func126 rfl ntmps126 fun w0=>?_
 refine D6 ?_
 rintro a1 c1 F1 rfl l1
 refine go ?_;intros
 refine ce (fun w s=>Kq _ _) ?_
 cases g1:Bx x.Ak
 ·refine go ?_;intros
  refine cf (Qd B g F s ok (by omega)) fun z hz=>?_
  refine Ao ?_
  refine go ?_;intros
  refine ret z ⟨hz.1,hz.2.mono (by omega)⟩ rfl
 obtain ⟨n0,n1⟩:=A4.1 g1
 refine go ?_;intros
 refine cf (Ajp B g F 12 s ok (by omega) (by omega)) fun q hq=>?_
 refine Ao ?_
 cases hb:q.1
 ·refine go ?_;intros
  refine Av [1] [] ?_
  refine dt 0 ?_
  refine dt 1 ?_
  refine dt 2 ?_
  refine dt 3 ?_
  refine dt 4 ?_
  refine dt 5 ?_
  refine dt 6 ?_
  refine dO 7 (by kernel_rfl) (by rw [List.getElem?_toArray];rfl) ?_
  apply At;rfl;kernel_rfl;exact Bb
  refine cf (Ek _ g F ((x.Aj.length:Int)+3) q.2 hq.2 (by omega) (by omega)) fun y hy=>?_
  refine Ao ?_
  obtain ⟨hy1,hy2⟩:=hy
  refine dk ?_
  refine dt 8 ?_
  refine dO 9 (by kernel_rfl) (by rw [List.getElem?_toArray];rfl) ?_
  apply At;rfl;kernel_rfl;exact Bb
  refine ce (fun w s=>Ex _ _ _ (by omega) (by omega)) ?_
  refine dk ?_
  refine dt 10 ?_
  refine dd ?_
  refine go ?_;intros
  refine ret (_,y.2) ⟨by have:=Ha x.Ak ((y.1:Int) - 1);show -1≤Ca x.Ak ((y.1:Int) - 1)∧Ca x.Ak ((y.1:Int) - 1)≤65536;omega,hy2.mono (by omega)⟩ rfl
 ·refine go ?_;intros
  refine cf (Qd (B+2) g F q.2 hq.2 (by omega)) fun z hz=>?_
  refine Ao ?_
  refine go ?_;intros
  refine ret z hz rfl
structure SwN where
 y:Az
 a:Option Addr
 c:Nat
 F:List Nat
 n:Int
structure SwT where
 y:Az
 a:Option Addr
 c:Nat
 F:List Nat
 t:ByteArray
structure SwP where
 y:Az
 a:Option Addr
 c:Nat
 F:List Nat
 p:Aw
structure SwJ where
 y:Az
 a:Option Addr
 c:Nat
 F:List Nat
structure OkD (m:Nat) (y:Cj):Prop where
 t0:0≤y.Aa.Ak
 t1:y.Aa.Ak≤65535
 z0:1≤y.Aa.size
 z6:y.Aa.size≤6
 l:(y.Aa.Aj.length:Int)≤y.Aa.size
 it:∀s∈y.Aa.Aj,s.size≤maxLen
 k0:0≤y.Ai
 km:y.Ai≤m
 q0:0≤y.quiet
 q3:y.quiet≤3
 h:y.holds.length≤m
 w:Sx y.holds
 mm:m≤100
theorem OkD.l6 {m y} (h:OkD m y):y.Aa.Aj.length≤6:=by have:=h.l;have:=h.z6;omega
theorem OkD.k1 {m y} (h:OkD m y):y.Ai≤99999:=by have:=h.km;have:=h.mm;omega
theorem OkD.h1 {m y} (h:OkD m y):y.holds.length≤900:=by have:=h.h;have:=h.mm;omega
theorem U3 (W:Az) (cl:Int) (hs:List Fv):(Fj W cl hs).length≤hs.length:=List.length_filter_le _ _
theorem Ts {W:Az} {cl:Int} {hs:List Fv} (h:Sx hs):Sx (Fj W cl hs):=fun z hz=>h z (List.mem_filter.1 hz).1
theorem Anq {W:Az} {p:Aw} (h:∀s∈W.Aj,s.size≤maxLen):(Da W p).1.data.size≤maxLen:=by
 unfold Da
 split
 ·rename_i g
  unfold Hx at g
  simp only [Bool.and_eq_true] at g
  have hk:=T9 g.2
  show (Tg W p.Ac).size≤maxLen
  rw [Py hk]
  exact h _ (List.getElem_mem hk)
 ·decide
theorem Afa {m y} (h:OkD m y) {s:ByteArray} (hs:s.size≤maxLen) (hm:m+1≤100:=by omega):OkD (m+1) (Mq y s):=by
 have hb:=Na h.t0 h.t1
 have hkl:=U3 (C4 y.Aa s) y.Ai y.holds
 have:=h.km;have:=h.h
 have hr:((Db y.Aa).Aj.length:Int)+1≤y.Aa.size∧∀x∈(Db y.Aa).Aj,x.size≤maxLen:=by
  have:=h.l
  unfold Db
  split
  ·exact ⟨by simp only [List.length_drop];have:=h.z0;omega,fun x hx=>h.it x (List.mem_of_mem_drop hx)⟩
  ·exact ⟨by omega,h.it⟩
 refine ⟨hb.1,hb.2,h.z0,h.z6,?_,?_,h.k0,?_,by show (0:Int)≤0;omega,by show (0:Int)≤3;omega,?_,Ts h.w,hm⟩
 ·show (((Db y.Aa).Aj++[s]).length:Int)≤y.Aa.size
  simp only [List.length_append,List.length_cons,List.length_nil];omega
 ·intro x hx
  have hx:x∈(Db y.Aa).Aj++[s]:=hx
  simp only [List.mem_append,List.mem_cons,List.not_mem_nil,or_false] at hx
  rcases hx with hx|rfl
  ·exact hr.2 x hx
  ·exact hs
 ·show y.Ai≤((m+1:Nat):Int);omega
 ·show (Fj _ _ _).length≤m+1;omega
theorem An7 {m y} (h:OkD m y) {n:Int} (hn:-1≤n∧n≤65536) (hm:m+1≤100:=by omega):OkD (m+1) (Ke y n):=by
 have hkl:=U3 y.Aa y.Ai y.holds
 have:=h.km;have:=h.h
 unfold Ke
 split
 ·refine ⟨h.t0,h.t1,h.z0,h.z6,h.l,h.it,h.k0,by show y.Ai≤((m+1:Nat):Int);omega,h.q0,h.q3,?_,?_,hm⟩
  ·show (Ir _ _ _).length≤m+1
   unfold Ir;simp;omega
  ·intro z hz
   have hz:z∈Ir y.holds (Ei y.Aa.Ak y.holds n) ⟨n,y.Ai+3⟩:=hz
   unfold Ir at hz
   simp only [List.mem_append,List.mem_cons] at hz
   rcases hz with hz|rfl|hz
   ·exact h.w z (List.mem_of_mem_take hz)
   ·exact hn
   ·exact h.w z (List.mem_of_mem_drop hz)
 ·exact ⟨h.t0,h.t1,h.z0,h.z6,h.l,h.it,h.k0,by show y.Ai≤((m+1:Nat):Int);omega,h.q0,h.q3,by show (Fj _ _ _).length≤m+1;omega,Ts h.w,hm⟩
theorem Al7 {m y} (h:OkD m y) (hm:m+1≤100:=by omega):OkD (m+1) (Jz y):=by
 have hkl:=U3 y.Aa (y.Ai+1) y.holds
 have:=h.km;have:=h.h;have:=h.k0;have:=h.q0;have:=h.q3
 refine ⟨h.t0,h.t1,h.z0,h.z6,h.l,h.it,by show 0≤y.Ai+1;omega,by show y.Ai+1≤((m+1:Nat):Int);omega,?_,?_,by show (Fj _ _ _).length≤m+1;omega,Ts h.w,hm⟩
 ·show 0≤N8 y.quiet;unfold N8;split <;> omega
 ·show N8 y.quiet≤3;unfold N8;split <;> omega
theorem Alo {f z:Int} (h0:0≤f) (h1:f≤65535) (z0:1≤z) (z6:z≤6):Jc f z=(⟨⟨f,z,[]⟩,0,0,[]⟩,true):=by
 have hg:Cb ⟨⟨f,z,[]⟩,0,0,[]⟩=true:=Ev.2 ⟨Ea.2 ⟨⟨h0,h1⟩,⟨z0,z6⟩,by simp;omega,rfl⟩,rfl,rfl,by simp,List.Pairwise.nil⟩
 unfold Jc;rw [hg];rfl
structure SrD where
 y:Cj
 a:Option Addr
 c:Nat
 a2:Option Addr
 c2:Nat
 F:List Nat
 i:Nat
 s:O8
theorem Ake (B g:Nat) (F:S8) (s:O8) (ok:Hq B s) (hB:B≤700000000000) :
  Fn prog 71 [Eo g 0 0] [.sl E9 (.slice F.a F.Bm.length F.c) F.Bm F.bs] [.row g 67 0 [] [.slice F.a F.Bm.length F.c,.int .i64 (s.k:Nat),.int .u64 s.Dq] []] (fun (z:SrD)=>z.y.Aa.Aj.length≤7∧z.y.holds.length≤20∧Hq (B+2000) z.s) (fun s=>.agg #[.int .i64 s.y.Aa.Ak,.int .i64 s.y.Aa.size,.slice s.a s.y.Aa.Aj.length s.c,.int .i64 s.y.Ai,.int .i64 s.y.quiet,.slice s.a2 s.y.holds.length s.c2])
   (fun s=>[.isv Dh (.agg #[.int .i64 s.y.Aa.Ak,.int .i64 s.y.Aa.size,.slice s.a s.y.Aa.Aj.length s.c,.int .i64 s.y.Ai,.int .i64 s.y.quiet,.slice s.a2 s.y.holds.length s.c2]) s.y s.F,.row g 67 0 [] [.slice F.a F.Bm.length F.c,.int .i64 (s.s.k:Nat),.int .u64 s.s.Dq] []]):=by
 refine enter func71 rfl ntmps71 fun w0=>?_
 refine go ?_;intros
 refine cf (P9 B g F s ok (by omega)) fun n hn=>?_
 refine Ao ?_
 obtain ⟨hn1,hn2⟩:=hn
 refine go ?_;intros
 refine cf (Ek (B+4) g F 6 n.2 hn2 (by omega) (by omega)) fun y hy=>?_
 refine Ao ?_
 obtain ⟨r1,s1⟩:=y
 obtain ⟨hy1,hy2⟩:=hy
 dsimp only at hy1 hy2 ⊢
 have hr1:r1≤5:=by omega
 refine go ?_;intros
 refine cf (Q6 n.1 (1+(r1:Int))) fun F0 _=>?_
 refine Ao ?_
 rw [Alo hn1.1 hn1.2 (by omega) (by omega)]
 refine go ?_;intros
 rename_i gg
 refine cf (Ek _ g F 9 s1 hy2 (by omega) (by omega)) fun y hy=>?_
 refine Ao ?_
 obtain ⟨r0,s2⟩:=y
 obtain ⟨hz1,hz2⟩:=hy
 dsimp only at hz1 hz2 ⊢
 have hr0:r0≤8:=by omega
 refine go ?_;intros
 refine Cq [0,2,3] (fun z:SrD=>[(5,.int .i64 (z.i:Nat))]) (fun z=>[.row gg 32 0 [] [.int .i64 z.y.Aa.Ak,.int .i64 z.y.Aa.size,.slice z.a z.y.Aa.Aj.length z.c,.int .i64 z.y.Ai,.int .i64 z.y.quiet,.slice z.a2 z.y.holds.length z.c2] [],.isv Dh (.agg #[.int .i64 z.y.Aa.Ak,.int .i64 z.y.Aa.size,.slice z.a z.y.Aa.Aj.length z.c,.int .i64 z.y.Ai,.int .i64 z.y.quiet,.slice z.a2 z.y.holds.length z.c2]) z.y z.F,.row g 67 0 [] [.slice F.a F.Bm.length F.c,.int .i64 (z.s.k:Nat),.int .u64 z.s.Dq] []]) (fun z=>OkD (r0 - z.i) z.y∧z.i≤r0∧Hq (B+20+50 * (r0 - z.i)) z.s) (fun z=>z.i) ⟨⟨⟨n.1,1+(r1:Int),[]⟩,0,0,[]⟩,none,0,none,0,F0,r0,s2⟩ ⟨⟨hn1.1,hn1.2,by show (1:Int)≤1+(r1:Int);omega,by show 1+(r1:Int)≤6;omega,by show ((0:Nat):Int)≤1+(r1:Int);omega,by simp,by show (0:Int)≤0;omega,by show (0:Int)≤((r0 - r0:Nat):Int);omega,by show (0:Int)≤0;omega,by show (0:Int)≤3;omega,by simp,by intro z hz;simp at hz,by omega⟩,Nat.le_refl _,hz2.mono (by show _≤B+20+50 * (r0 - r0);omega)⟩ fun z hz=>?_
 obtain ⟨z1,z2,z3⟩:=hz
 refine go ?_;intros
 refine Bd rfl (fun h2=>?_) (fun h2=>?_)
 ·have hi0:0 < z.i:=by omega
  refine go ?_;intros
  refine cf (Ek _ g F 4 z.s z3 (by omega) (by omega)) fun p hp=>?_
  refine Ao ?_
  obtain ⟨r2,s4⟩:=p
  obtain ⟨hr2,z3⟩:=hp
  dsimp only at hr2 z3 ⊢
  have hr4:r2=0∨r2=1∨r2=2∨r2=3:=by omega
  rcases hr4 with rfl|rfl|rfl|rfl
  ·refine go ?_;intros
   refine Av [1] [5,6,7] ?_
   refine dt 0 ?_
   refine dt 1 ?_
   refine dO 2 (by kernel_rfl) (by rw [List.getElem?_toArray];rfl) ?_
   apply At;rfl;kernel_rfl;exact Bb
   refine cf (Oj _ g F s4 3 z3 (by omega) (by omega) (by omega)) fun l hl=>?_
   refine Ao ?_
   obtain ⟨hl1,hl2⟩:=hl
   have hl3:l.1.size≤maxLen:=by unfold maxLen;omega
   refine dk ?_
   refine dO 3 (by kernel_rfl) (by rw [List.getElem?_toArray];rfl) ?_
   apply At;rfl;kernel_rfl;exact Bb
   refine cf (Tj z.y l.1 _ z.F z1.t0 z1.t1 z1.l6 z1.z0 (by have:=z1.h1;omega) z1.w hl3) fun q _=>?_
   refine Ao ?_
   refine dk ?_
   refine dt 4 ?_
   refine M4 5 ?_
   refine M4 6 ?_
   refine dO 7 (by kernel_rfl) (by rw [List.getElem?_toArray];rfl) ?_
   apply Cf;rfl;rfl;rfl;(first|exact AggC.s|exact OneC.s);rfl;exact Ci;exact Cg;rfl
   refine Lv ?_
   refine dd ?_
   refine go ?_;intros
   rw [show ((z.i:Nat):Int) - 1=((z.i - 1:Nat):Int) by omega]
   refine Co ⟨Mq z.y l.1,q.a,q.c,q.a2,q.c2,q.F,z.i - 1,l.2⟩ ⟨by rw [show r0 - (z.i - 1)=r0 - z.i+1 by omega];exact Afa z1 hl3,by show z.i - 1≤r0;omega,hl2.mono (by show _≤B+20+50 * (r0 - (z.i - 1));omega)⟩ (by show z.i - 1 < z.i;omega)
  ·refine go ?_;intros
   refine Av [1] [5,6,7] ?_
   refine dt 0 ?_
   refine dt 1 ?_
   refine dO 2 (by kernel_rfl) (by rw [List.getElem?_toArray];rfl) ?_
   apply At;rfl;kernel_rfl;exact Bb
   refine cf (Oj _ g F s4 3 z3 (by omega) (by omega) (by omega)) fun l hl=>?_
   refine Ao ?_
   obtain ⟨hl1,hl2⟩:=hl
   have hl3:l.1.size≤maxLen:=by unfold maxLen;omega
   refine dk ?_
   refine dO 3 (by kernel_rfl) (by rw [List.getElem?_toArray];rfl) ?_
   apply At;rfl;kernel_rfl;exact Bb
   refine cf (Tj z.y l.1 _ z.F z1.t0 z1.t1 z1.l6 z1.z0 (by have:=z1.h1;omega) z1.w hl3) fun q _=>?_
   refine Ao ?_
   refine dk ?_
   refine dt 4 ?_
   refine M4 5 ?_
   refine M4 6 ?_
   refine dO 7 (by kernel_rfl) (by rw [List.getElem?_toArray];rfl) ?_
   apply Cf;rfl;rfl;rfl;(first|exact AggC.s|exact OneC.s);rfl;exact Ci;exact Cg;rfl
   refine Lv ?_
   refine dd ?_
   refine go ?_;intros
   rw [show ((z.i:Nat):Int) - 1=((z.i - 1:Nat):Int) by omega]
   refine Co ⟨Mq z.y l.1,q.a,q.c,q.a2,q.c2,q.F,z.i - 1,l.2⟩ ⟨by rw [show r0 - (z.i - 1)=r0 - z.i+1 by omega];exact Afa z1 hl3,by show z.i - 1≤r0;omega,hl2.mono (by show _≤B+20+50 * (r0 - (z.i - 1));omega)⟩ (by show z.i - 1 < z.i;omega)
  ·refine Ej (x:=z.y) (F:=z.F) ?_
   rintro b1 d1 G1 b2 d2 G2 e5 m1 m2
   simp only [Value.agg.injEq,Array.mk.injEq,List.cons.injEq,Value.slice.injEq,Value.int.injEq,true_and,and_true] at e5
   obtain ⟨⟨rfl,rfl⟩, -⟩:=e5
   refine B9 z.y.Aa (a1:=z.a) ?_
   generalize G1=FW
   refine go ?_;intros
   refine Av [4] [8,9,10] ?_
   refine dt 0 ?_
   refine dt 1 ?_
   refine dt 2 ?_
   refine dt 3 ?_
   refine dO 4 (by kernel_rfl) (by rw [List.getElem?_toArray];rfl) ?_
   apply At;rfl;kernel_rfl;exact Bb
   refine cf (Age _ g F s4 z.y.Aa _ FW z3 (by omega) (by have:=z1.l6;omega)) fun n hn=>?_
   refine Ao ?_
   obtain ⟨hn1,hn2⟩:=hn
   refine dk ?_
   refine dt 5 ?_
   refine dO 6 (by kernel_rfl) (by rw [List.getElem?_toArray];rfl) ?_
   apply At;rfl;kernel_rfl;exact Bb
   refine cf (Sr z.y ⟨3,n.1,0,0,⟨#[]⟩⟩ _ z.F z1.t0 z1.t1 z1.l6 z1.k0 z1.k1 z1.h1 z1.w hn1.1 hn1.2 (by show (⟨#[]⟩:ByteArray).size≤maxLen;decide) (Anq z1.it)) fun q _=>?_
   refine Ao ?_
   refine dk ?_
   refine dt 7 ?_
   refine M4 8 ?_
   refine M4 9 ?_
   refine dO 10 (by kernel_rfl) (by rw [List.getElem?_toArray];rfl) ?_
   apply Cf;rfl;rfl;rfl;(first|exact AggC.s|exact OneC.s);rfl;exact Ci;exact Cg;rfl
   refine Lv ?_
   refine dd ?_
   refine go ?_;intros
   rw [show ((z.i:Nat):Int) - 1=((z.i - 1:Nat):Int) by omega]
   refine Co ⟨Ke z.y n.1,q.a,q.c,q.a2,q.c2,q.F,z.i - 1,n.2⟩ ⟨by rw [show r0 - (z.i - 1)=r0 - z.i+1 by omega];exact An7 z1 hn1,by show z.i - 1≤r0;omega,hn2.mono (by show _≤B+20+50 * (r0 - (z.i - 1));omega)⟩ (by show z.i - 1 < z.i;omega)
  ·refine go ?_;intros
   refine cf (Xv z.y _ z.F z1.t0 z1.t1 z1.l6 z1.k0 z1.k1 z1.q0 z1.q3 (by have:=z1.h1;omega) z1.w) fun q _=>?_
   refine Ao ?_
   refine go ?_;intros
   rw [show ((z.i:Nat):Int) - 1=((z.i - 1:Nat):Int) by omega]
   refine Co ⟨Jz z.y,q.a,q.c,q.a2,q.c2,q.F,z.i - 1,s4⟩ ⟨by rw [show r0 - (z.i - 1)=r0 - z.i+1 by omega];exact Al7 z1,by show z.i - 1≤r0;omega,z3.mono (by show _≤B+20+50 * (r0 - (z.i - 1));omega)⟩ (by show z.i - 1 < z.i;omega)
 ·have hl7:=z1.l6
  have hh7:=z1.h
  refine go ?_;intros
  refine cf (Ek _ g F 24 z.s z3 (by omega) (by omega)) fun p hp=>?_
  refine Ao ?_
  obtain ⟨r,s3⟩:=p
  obtain ⟨-,hp⟩:=hp
  dsimp only at hp ⊢
  refine Ej (x:=z.y) (F:=z.F) ?_
  rintro b1 d1 G1 b2 d2 G2 e5 m1 m2
  simp only [Value.agg.injEq,Array.mk.injEq,List.cons.injEq,Value.slice.injEq,Value.int.injEq,true_and,and_true] at e5
  obtain ⟨⟨rfl,rfl⟩,rfl,rfl⟩:=e5
  refine go ?_;intros
  refine Bd rfl (fun e0=>?_) (fun e0=>?_)
  ·refine Jq ?_;intros
   refine Ee (xs:=[-1,9999,10000]) (fun w=>I9 w _) ?_ (by decide)
   refine Ax (E:=Be) fun G=>?_
   refine go ?_;intros
   refine cf (Mg _ g F _ [-1,9999,10000] G s3 hp (by omega) (by decide) (by decide)) fun q hq=>?_
   refine Ao ?_
   refine go ?_;intros
   refine Dt ⟨z.y.Aa,q.1,z.y.quiet,z.y.holds⟩ (a1:=z.a) ?_
   refine ret ⟨⟨z.y.Aa,q.1,z.y.quiet,z.y.holds⟩,_,_,_,_,_,0,q.2⟩ ⟨by show z.y.Aa.Aj.length≤7;omega,by show z.y.holds.length≤20;omega,hq.2.mono (by omega)⟩ rfl
  refine go ?_;intros
  refine Bd rfl (fun e1=>?_) (fun e1=>?_)
  ·refine Jq ?_;intros
   refine Ee (xs:=[-1,3,4]) (fun w=>I9 w _) ?_ (by decide)
   refine Ax (E:=Be) fun G=>?_
   refine go ?_;intros
   refine cf (Mg _ g F _ [-1,3,4] G s3 hp (by omega) (by decide) (by decide)) fun q hq=>?_
   refine Ao ?_
   refine go ?_;intros
   refine Dt ⟨z.y.Aa,z.y.Ai,q.1,z.y.holds⟩ (a1:=z.a) ?_
   refine ret ⟨⟨z.y.Aa,z.y.Ai,q.1,z.y.holds⟩,_,_,_,_,_,0,q.2⟩ ⟨by show z.y.Aa.Aj.length≤7;omega,by show z.y.holds.length≤20;omega,hq.2.mono (by omega)⟩ rfl
  refine go ?_;intros
  refine Bd rfl (fun e2=>?_) (fun e2=>?_)
  ·have hkm:=z1.km
   have hk0:=z1.k0
   refine Jq ?_;intros
   refine Av [3] [15] ?_
   refine dt 1 ?_
   refine dt 2 ?_
   refine dt 4 ?_
   refine dt 6 ?_
   refine dt 7 ?_
   refine dt 8 ?_
   refine dO 0 (by kernel_rfl) (by rw [List.getElem?_toArray];rfl) ?_
   apply Ja;rfl;intro _
   refine C1 Bi ?_
   refine dk ?_
   refine dO 3 (by kernel_rfl) (by rw [List.getElem?_toArray];rfl) ?_
   refine Kx (ys:=z.y.holds) Hi I4 fun a7 c7 F7=>?_
   rw [List.nil_append]
   refine dk ?_
   refine dO 5 (by kernel_rfl) (by rw [List.getElem?_toArray];rfl) ?_
   apply At;rfl;kernel_rfl;exact Bb
   refine cf (Re _ g F s3 hp (by omega)) fun q hq=>?_
   refine Ao ?_
   refine dk ?_
   refine dO 9 (by kernel_rfl) (by rw [List.getElem?_toArray];rfl) ?_
   apply At;rfl;kernel_rfl;exact Bb
   refine cf (Ek _ g F 5 q.2 hq (by omega) (by omega)) fun r hr=>?_
   refine Ao ?_
   obtain ⟨hr1,hr2⟩:=hr
   refine dk ?_
   refine dt 10 ?_
   refine dt 11 ?_
   refine dO 12 (by kernel_rfl) (by rw [List.getElem?_toArray];rfl) ?_
   apply Hh;rfl;rfl;rfl;rfl;exact Gz;exact Gp;intro _
   refine dk ?_
   refine dO 13 (by kernel_rfl) (by rw [List.getElem?_toArray];rfl) ?_
   refine Lh (P8 ⟨q.1,z.y.Ai+(r.1:Nat)⟩) Hi fun a9 c9 F9=>?_
   refine dk ?_
   refine dt 14 ?_
   refine dO 15 (by kernel_rfl) (by rw [List.getElem?_toArray];rfl) ?_
   apply Cf;rfl;rfl;rfl;(first|exact AggC.s|exact OneC.s);rfl;exact Ci;exact Cg;rfl
   refine Lv ?_
   refine dd ?_
   refine go ?_;intros
   refine Ax (E:=Bi) fun F8=>?_
   refine Dt ⟨z.y.Aa,z.y.Ai,z.y.quiet,z.y.holds++[⟨q.1,z.y.Ai+(r.1:Nat)⟩]⟩ (a1:=z.a) ?_
   refine ret ⟨⟨z.y.Aa,z.y.Ai,z.y.quiet,z.y.holds++[⟨q.1,z.y.Ai+(r.1:Nat)⟩]⟩,_,_,_,_,_,0,r.2⟩ ⟨by show z.y.Aa.Aj.length≤7;omega,by show (z.y.holds++[_]).length≤20;simp;omega,hr2.mono (by omega)⟩ rfl
  refine go ?_;intros
  refine Bd rfl (fun e3=>?_) (fun e3=>?_)
  ·refine go ?_;intros
   refine cf (Aba _ g F s3 hp (by omega)) fun q hq=>?_
   refine Ao ?_
   obtain ⟨hq1,hq2⟩:=hq
   refine go ?_;intros
   refine D6 (x:=q.y) ?_
   rintro b3 d3 G3 e6 m3
   simp only [Value.agg.injEq,Array.mk.injEq,List.cons.injEq,Value.slice.injEq,Value.int.injEq,true_and,and_true] at e6
   obtain ⟨rfl,rfl⟩:=e6
   refine Ba Bi (by decide) ?_
   refine Dt ⟨q.y,0,0,[]⟩ (a1:=q.a) ?_
   refine ret ⟨⟨q.y,0,0,[]⟩,_,_,_,_,_,0,q.s⟩ ⟨by show q.y.Aj.length≤7;omega,by show ([]:List Fv).length≤20;simp,hq2.mono (by omega)⟩ rfl
  ·refine go ?_;intros
   refine ret ⟨z.y,z.a,z.c,z.a2,z.c2,z.F,0,s3⟩ ⟨by show z.y.Aa.Aj.length≤7;omega,by show z.y.holds.length≤20;omega,hp.mono (by omega)⟩ rfl
structure OkE (m:Nat) (y:Bl):Prop where
 k0:0≤y.Ai
 k1:y.Ai≤30+m
 l:y.Af.length≤m
 f:∀x∈y.Af,x.Bg.length≤m
 mm:m≤100
theorem Ajo {m y} (h:OkE m y) (hm:m+1≤100:=by omega):OkE (m+1) (Dw y):=by
 have:=h.k0;have:=h.k1
 have hl:=List.length_filter_le (fun x:Es=>!decide (x.By≤y.Ai+1)) y.Af
 exact ⟨by show 0≤y.Ai+1;omega,by show y.Ai+1≤30+((m+1:Nat):Int);omega,by show (y.Af.filter _).length≤_;have:=h.l;omega,fun x hx=>by have:=h.f x (List.mem_filter.1 hx).1;omega,hm⟩
theorem Al6 {m y} (h:OkE m y) {n f:Int} (hm:m+1≤100:=by omega):OkE (m+1) (Ki y n f):=by
 have:=h.k0;have:=h.k1;have hl:=h.l
 have hf:∀x∈y.Af,x.Bg.length≤m+1:=fun x hx=>by have:=h.f x hx;omega
 unfold Ki
 split
 ·rename_i x hx
  refine ⟨h.k0,by show y.Ai≤30+((m+1:Nat):Int);omega,by show (y.Af.set _ _).length≤m+1;rw [List.length_set];omega,fun z hz=>?_,hm⟩
  rcases List.mem_or_eq_of_mem_set hz with h'|rfl
  ·exact hf z h'
  ·have:=h.f x (List.mem_of_getElem? hx)
   have:=Ajs x.Bg f
   show (N5 x.Bg f).length≤m+1
   omega
 ·split
  ·refine ⟨h.k0,by show y.Ai≤30+((m+1:Nat):Int);omega,by show (y.Af++[_]).length≤m+1;simp;omega,fun z hz=>?_,hm⟩
   rcases List.mem_append.1 hz with h'|h'
   ·exact hf z h'
   ·simp at h';subst h';simp
  ·exact ⟨h.k0,by show y.Ai≤30+((m+1:Nat):Int);omega,by omega,hf,hm⟩
structure ElD where
 y:Bl
 a:Option Addr
 c:Nat
 F:List Nat
 i:Nat
 s:O8
theorem Afy (B g:Nat) (F:S8) (s:O8) (ok:Hq B s) (hB:B≤700000000000) :
  Fn prog 73 [Eo g 0 0] [.sl E9 (.slice F.a F.Bm.length F.c) F.Bm F.bs] [.row g 67 0 [] [.slice F.a F.Bm.length F.c,.int .i64 (s.k:Nat),.int .u64 s.Dq] []] (fun (z:ElD)=>z.y.Af.length≤1000∧Hq (B+2000) z.s) (fun s=>.agg #[.int .i64 s.y.Ai,.slice s.a s.y.Af.length s.c])
   (fun s=>[.isv Bh (.agg #[.int .i64 s.y.Ai,.slice s.a s.y.Af.length s.c]) s.y s.F,.row g 67 0 [] [.slice F.a F.Bm.length F.c,.int .i64 (s.s.k:Nat),.int .u64 s.s.Dq] []]):=by
 refine enter func73 rfl ntmps73 fun w0=>?_
 refine go ?_;intros
 refine cf (Ek B g F 30 s ok (by omega) (by omega)) fun y hy=>?_
 refine Ao ?_
 obtain ⟨r1,s1⟩:=y
 obtain ⟨hy1,hy2⟩:=hy
 dsimp only at hy1 hy2 ⊢
 have hr1:r1≤29:=by omega
 refine go ?_;intros
 rename_i gg
 refine cf (P9 _ g F s1 hy2 (by omega)) fun n hn=>?_
 refine Ao ?_
 obtain ⟨hn1,hn2⟩:=hn
 refine go ?_;intros
 refine cf (Ek _ g F 10 n.2 hn2 (by omega) (by omega)) fun y hy=>?_
 refine Ao ?_
 obtain ⟨r0,s2⟩:=y
 obtain ⟨hz1,hz2⟩:=hy
 dsimp only at hz1 hz2 ⊢
 have hr0:r0≤9:=by omega
 refine Ba C3 (by decide) ?_
 refine Eq ⟨(r1:Int),[]⟩ ?_
 refine go ?_;intros
 refine Cq [0,2,3,4] (fun z:ElD=>[(5,.int .i64 (z.i:Nat))]) (fun z=>[.row gg 77 0 [] [.int .i64 z.y.Ai,.slice z.a z.y.Af.length z.c] [],.isv Bh (.agg #[.int .i64 z.y.Ai,.slice z.a z.y.Af.length z.c]) z.y z.F,.row g 67 0 [] [.slice F.a F.Bm.length F.c,.int .i64 (z.s.k:Nat),.int .u64 z.s.Dq] []]) (fun z=>OkE (r0 - z.i) z.y∧z.i≤r0∧Hq (B+20+50 * (r0 - z.i)) z.s) (fun z=>z.i) ⟨⟨(r1:Int),[]⟩,none,0,[],r0,s2⟩ ⟨⟨by show (0:Int)≤(r1:Int);omega,by show (r1:Int)≤_;omega,by simp,by simp,by omega⟩,Nat.le_refl _,hz2.mono (by show _≤B+20+50 * (r0 - r0);omega)⟩ fun z hz=>?_
 obtain ⟨z1,z2,z3⟩:=hz
 refine go ?_;intros
 refine Bd rfl (fun h2=>?_) (fun h2=>?_)
 ·have hi0:0 < z.i:=by omega
  refine go ?_;intros
  refine cf (Ajp _ g F 5 z.s z3 (by omega) (by omega)) fun p hp=>?_
  refine Ao ?_
  obtain ⟨b4,s4⟩:=p
  obtain ⟨-,z4⟩:=hp
  dsimp only at z4 ⊢
  cases b4
  ·refine go ?_;intros
   refine Av [1] [10,11,12] ?_
   refine dt 0 ?_
   refine dt 1 ?_
   refine dt 2 ?_
   refine dt 5 ?_
   refine dO 3 (by kernel_rfl) (by rw [List.getElem?_toArray];rfl) ?_
   apply At;rfl;kernel_rfl;exact Bb
   refine cf (Ek _ g F 6 s4 z4 (by omega) (by omega)) fun p hp=>?_
   refine Ao ?_
   obtain ⟨p1,p2⟩:=hp
   refine dk ?_
   refine dO 4 (by kernel_rfl) (by rw [List.getElem?_toArray];rfl) ?_
   apply At;rfl;kernel_rfl;exact Bb
   refine ce (fun w s=>Ex _ _ _ (by omega) (by omega)) ?_
   refine dk ?_
   refine dO 6 (by kernel_rfl) (by rw [List.getElem?_toArray];rfl) ?_
   apply At;rfl;kernel_rfl;exact Bb
   refine cf (Ek _ g F 7 p.2 p2 (by omega) (by omega)) fun q hq=>?_
   refine Ao ?_
   obtain ⟨q1,q2⟩:=hq
   refine dk ?_
   refine dt 7 ?_
   refine dO 8 (by kernel_rfl) (by rw [List.getElem?_toArray];rfl) ?_
   apply At;rfl;kernel_rfl;exact Bb
   refine cf (Ql z.y (Ca n.1 (p.1:Nat)) (1+(q.1:Nat)) _ z.F (by have:=z1.l;omega) (fun x hx=>by have:=z1.f x hx;omega) (by have:=z1.k0;omega) (by have:=z1.k1;omega)) fun u _=>?_
   refine Ao ?_
   refine K9 I0 fun F7=>?_
   refine Eb (v:=u.1) ?_
   rintro a6 c6 F6 e6 l6
   rw [e6]
   refine dk ?_
   refine dt 9 ?_
   refine M4 10 ?_
   refine M4 11 ?_
   refine dO 12 (by kernel_rfl) (by rw [List.getElem?_toArray];rfl) ?_
   apply Cf;rfl;rfl;rfl;(first|exact AggC.s|exact OneC.s);rfl;exact Ci;exact Cg;rfl
   refine Lv ?_
   refine dd ?_
   refine go ?_;intros
   rw [show ((z.i:Nat):Int) - 1=((z.i - 1:Nat):Int) by omega]
   refine Co ⟨(Ki z.y (Ca n.1 (p.1:Nat)) (1+(q.1:Nat))),a6,c6,F7,z.i - 1,q.2⟩ ⟨by rw [show r0 - (z.i - 1)=r0 - z.i+1 by omega];exact Al6 z1,by show z.i - 1≤r0;omega,q2.mono (by show _≤B+20+50 * (r0 - (z.i - 1));omega)⟩ (by show z.i - 1 < z.i;omega)
  ·refine go ?_;intros
   refine cr (fun w st=>Zx _ z.y z.F w (st.get (p:=.isv Bh (.agg #[.int .i64 z.y.Ai,.slice z.a z.y.Af.length z.c]) z.y z.F) (by simp)) (J4.2 ⟨z1.k0,by have:=z1.k1;have:=z1.mm;omega⟩) (by have:=z1.l;omega) (fun x hx=>by have:=z1.f x hx;omega)) fun u F7=>?_
   refine Eb (v:=u) ?_
   rintro a6 c6 F6 rfl l6
   refine go ?_;intros
   rw [show ((z.i:Nat):Int) - 1=((z.i - 1:Nat):Int) by omega]
   refine Co ⟨Dw z.y,a6,c6,F7,z.i - 1,s4⟩ ⟨by rw [show r0 - (z.i - 1)=r0 - z.i+1 by omega];exact Ajo z1,by show z.i - 1≤r0;omega,z4.mono (by show _≤B+20+50 * (r0 - (z.i - 1));omega)⟩ (by show z.i - 1 < z.i;omega)
 ·have hl7:=z1.l
  refine go ?_;intros
  refine cf (Ek _ g F 24 z.s z3 (by omega) (by omega)) fun p hp=>?_
  refine Ao ?_
  obtain ⟨r,s3⟩:=p
  obtain ⟨-,hp⟩:=hp
  dsimp only at hp ⊢
  refine go ?_;intros
  refine Bd rfl (fun e0=>?_) (fun e0=>?_)
  ·refine Eb (x:=z.y) (F:=z.F) ?_
   rintro b1 d1 G1 e5 m1
   simp only [Value.agg.injEq,Array.mk.injEq,List.cons.injEq,Value.slice.injEq,Value.int.injEq,true_and,and_true] at e5
   obtain ⟨rfl,rfl⟩:=e5
   refine Jq ?_;intros
   refine Ee (xs:=[-1,9999,10000]) (fun w=>I9 w _) ?_ (by decide)
   refine Ax (E:=Be) fun G=>?_
   refine go ?_;intros
   refine cf (Mg _ g F _ [-1,9999,10000] G s3 hp (by omega) (by decide) (by decide)) fun q hq=>?_
   refine Ao ?_
   refine go ?_;intros
   refine Eq ⟨q.1,z.y.Af⟩ ?_
   refine ret ⟨⟨q.1,z.y.Af⟩,_,_,_,0,q.2⟩ ⟨by show z.y.Af.length≤1000;omega,hq.2.mono (by omega)⟩ rfl
  refine go ?_;intros
  refine Bd rfl (fun e1=>?_) (fun e1=>?_)
  ·refine Eb (x:=z.y) (F:=z.F) ?_
   rintro b1 d1 G1 e5 m1
   simp only [Value.agg.injEq,Array.mk.injEq,List.cons.injEq,Value.slice.injEq,Value.int.injEq,true_and,and_true] at e5
   obtain ⟨rfl,rfl⟩:=e5
   refine Wy Qp (xs:=z.y.Af) (m:=3) rfl fun ys Fy Gy hyl hym=>?_
   refine Jq ?_;intros
   refine Av [4] [18] ?_
   refine dt 1 ?_
   refine dt 2 ?_
   refine dt 4 ?_
   refine dt 6 ?_
   refine dt 9 ?_
   refine dt 10 ?_
   refine dt 11 ?_
   refine dO 0 (by kernel_rfl) (by rw [List.getElem?_toArray];rfl) ?_
   apply Ja;rfl;intro _
   refine C1 (EC 3) ?_
   refine dk ?_
   refine dO 3 (by kernel_rfl) (by rw [List.getElem?_toArray];rfl) ?_
   refine Kx (ys:=ys) (Mm 3) (E7 3) (fun a7 c7 F7=>?_) (hn:=hyl.symm) (h63:=by simp only [List.length_nil];omega) (hby:=by simp only [List.length_nil];omega)
   rw [List.nil_append]
   refine dk ?_
   refine dO 5 (by kernel_rfl) (by rw [List.getElem?_toArray];rfl) ?_
   apply At;rfl;kernel_rfl;exact Bb
   refine cf (Re _ g F s3 hp (by omega)) fun q hq=>?_
   refine Ao ?_
   refine dk ?_
   refine dO 7 (by kernel_rfl) (by rw [List.getElem?_toArray];rfl) ?_
   apply At;rfl;kernel_rfl;exact Bb
   refine cf (Ek _ g F 9 q.2 hq (by omega) (by omega)) fun r hr=>?_
   refine Ao ?_
   obtain ⟨hr1,hr2⟩:=hr
   refine dk ?_
   refine Nn 8 12 (by kernel_rfl) (by rw [List.getElem?_toArray];rfl) (by rw [List.getElem?_toArray];rfl) ?_ ?_
   ·apply Hh;rfl;rfl;rfl;rfl;exact Gz;exact Gp;intro _
    rename_i gf
    refine Ee (E:=Be) (xs:=[(r.1:Int)]) (Mo _) ?_ (by simp)
    refine Ax (E:=Be) fun F10=>?_
    refine dk ?_
    refine dO 12 (by kernel_rfl) (by rw [List.getElem?_toArray];rfl) ?_
    apply At;rfl;kernel_rfl;exact Bb
    refine cf (Ek _ g F 9 r.2 hr2 (by omega) (by omega)) fun t ht=>?_
    refine Ao ?_
    obtain ⟨ht1,ht2⟩:=ht
    have hk0:=z1.k0
    have hk1:=z1.k1
    refine dk ?_
    refine dt 13 ?_
    refine dt 14 ?_
    refine dO 15 (by kernel_rfl) (by rw [List.getElem?_toArray];rfl) ?_
    apply Hh;rfl;rfl;rfl;rfl;exact Gz;exact Gp;intro _
    refine Ov ⟨q.1,[(r.1:Int)],z.y.Ai+(t.1:Nat)⟩ ?_
    refine dk ?_
    refine dO 16 (by kernel_rfl) (by rw [List.getElem?_toArray];rfl) ?_
    refine Lh (ys:=[([.int .i64 q.1,.slice (some ⟨gf,0,none⟩) 1 1,.int .i64 (z.y.Ai+(t.1:Nat))]:List Value)]) (Rg (m:=3) (cs:=[.int .i64 q.1,.slice (some ⟨gf,0,none⟩) 1 1,.int .i64 (z.y.Ai+(t.1:Nat))]) rfl (by simp [Value.oneCell'])) (Mm 3) (fun a9 c9 F11=>?_)
    refine dk ?_
    refine dt 17 ?_
    refine dO 18 (by kernel_rfl) (by rw [List.getElem?_toArray];rfl) ?_
    apply Cf;rfl;rfl;rfl;(first|exact AggC.s|exact OneC.s);rfl;exact Ci;exact Cg;rfl
    refine Lv ?_
    refine dd ?_
    refine go ?_;intros
    refine Ax (E:=EC 3) fun F8=>?_
    refine Ac9 (E:=C3) (x:=⟨q.1,[(r.1:Int)],z.y.Ai+(t.1:Nat)⟩) ?_
    refine Akk (E:=C3) (c1:=ys.flatten) (c2:=[.int .i64 q.1,.slice (some ⟨gf,0,none⟩) 1 1,.int .i64 (z.y.Ai+(t.1:Nat))]) (x1:=z.y.Af) (x2:=[⟨q.1,[(r.1:Int)],z.y.Ai+(t.1:Nat)⟩]) rfl rfl ?_
    refine Ms (E:=C3) (m:=3) (v:=.agg (ys.flatten++([.int .i64 q.1,.slice (some ⟨gf,0,none⟩) 1 1,.int .i64 (z.y.Ai+(t.1:Nat))]:List Value)).toArray) (ys:=ys++[([.int .i64 q.1,.slice (some ⟨gf,0,none⟩) 1 1,.int .i64 (z.y.Ai+(t.1:Nat))]:List Value)]) (xs:=z.y.Af++[(⟨q.1,[(r.1:Int)],z.y.Ai+(t.1:Nat)⟩:Es)]) rfl (by simp [hyl]) (by simp) fun F9=>?_
    rw [show (ys++[([.int .i64 q.1,.slice (some ⟨gf,0,none⟩) 1 1,.int .i64 (z.y.Ai+(t.1:Nat))]:List Value)]).length=(z.y.Af++[(⟨q.1,[(r.1:Int)],z.y.Ai+(t.1:Nat)⟩:Es)]).length by simp [hyl]]
    refine Eq ⟨z.y.Ai,z.y.Af++[⟨q.1,[(r.1:Int)],z.y.Ai+(t.1:Nat)⟩]⟩ ?_
    refine ret ⟨⟨z.y.Ai,z.y.Af++[⟨q.1,[(r.1:Int)],z.y.Ai+(t.1:Nat)⟩]⟩,_,_,_,0,t.2⟩ ⟨by show (z.y.Af++[_]).length≤1000;simp;omega,ht2.mono (by omega)⟩ rfl
   ·apply At;rfl;kernel_rfl;exact Bb
    refine cf (Ek _ g F 9 r.2 hr2 (by omega) (by omega)) fun t ht=>?_
    refine Ao ?_
    obtain ⟨ht1,ht2⟩:=ht
    have hk0:=z1.k0
    have hk1:=z1.k1
    refine dk ?_
    refine dt 13 ?_
    refine dO 8 (by kernel_rfl) (by rw [List.getElem?_toArray];rfl) ?_
    apply Hh;rfl;rfl;rfl;rfl;exact Gz;exact Gp;intro _
    rename_i gf
    refine Ee (E:=Be) (xs:=[(r.1:Int)]) (Mo _) ?_ (by simp)
    refine Ax (E:=Be) fun F10=>?_
    refine dk ?_
    refine dt 14 ?_
    refine dO 15 (by kernel_rfl) (by rw [List.getElem?_toArray];rfl) ?_
    apply Hh;rfl;rfl;rfl;rfl;exact Gz;exact Gp;intro _
    refine Ov ⟨q.1,[(r.1:Int)],z.y.Ai+(t.1:Nat)⟩ ?_
    refine dk ?_
    refine dO 16 (by kernel_rfl) (by rw [List.getElem?_toArray];rfl) ?_
    refine Lh (ys:=[([.int .i64 q.1,.slice (some ⟨gf,0,none⟩) 1 1,.int .i64 (z.y.Ai+(t.1:Nat))]:List Value)]) (Rg (m:=3) (cs:=[.int .i64 q.1,.slice (some ⟨gf,0,none⟩) 1 1,.int .i64 (z.y.Ai+(t.1:Nat))]) rfl (by simp [Value.oneCell'])) (Mm 3) (fun a9 c9 F11=>?_)
    refine dk ?_
    refine dt 17 ?_
    refine dO 18 (by kernel_rfl) (by rw [List.getElem?_toArray];rfl) ?_
    apply Cf;rfl;rfl;rfl;(first|exact AggC.s|exact OneC.s);rfl;exact Ci;exact Cg;rfl
    refine Lv ?_
    refine dd ?_
    refine go ?_;intros
    refine Ax (E:=EC 3) fun F8=>?_
    refine Ac9 (E:=C3) (x:=⟨q.1,[(r.1:Int)],z.y.Ai+(t.1:Nat)⟩) ?_
    refine Akk (E:=C3) (c1:=ys.flatten) (c2:=[.int .i64 q.1,.slice (some ⟨gf,0,none⟩) 1 1,.int .i64 (z.y.Ai+(t.1:Nat))]) (x1:=z.y.Af) (x2:=[⟨q.1,[(r.1:Int)],z.y.Ai+(t.1:Nat)⟩]) rfl rfl ?_
    refine Ms (E:=C3) (m:=3) (v:=.agg (ys.flatten++([.int .i64 q.1,.slice (some ⟨gf,0,none⟩) 1 1,.int .i64 (z.y.Ai+(t.1:Nat))]:List Value)).toArray) (ys:=ys++[([.int .i64 q.1,.slice (some ⟨gf,0,none⟩) 1 1,.int .i64 (z.y.Ai+(t.1:Nat))]:List Value)]) (xs:=z.y.Af++[(⟨q.1,[(r.1:Int)],z.y.Ai+(t.1:Nat)⟩:Es)]) rfl (by simp [hyl]) (by simp) fun F9=>?_
    rw [show (ys++[([.int .i64 q.1,.slice (some ⟨gf,0,none⟩) 1 1,.int .i64 (z.y.Ai+(t.1:Nat))]:List Value)]).length=(z.y.Af++[(⟨q.1,[(r.1:Int)],z.y.Ai+(t.1:Nat)⟩:Es)]).length by simp [hyl]]
    refine Eq ⟨z.y.Ai,z.y.Af++[⟨q.1,[(r.1:Int)],z.y.Ai+(t.1:Nat)⟩]⟩ ?_
    refine ret ⟨⟨z.y.Ai,z.y.Af++[⟨q.1,[(r.1:Int)],z.y.Ai+(t.1:Nat)⟩]⟩,_,_,_,0,t.2⟩ ⟨by show (z.y.Af++[_]).length≤1000;simp;omega,ht2.mono (by omega)⟩ rfl
  refine go ?_;intros
  refine Bd rfl (fun e2=>?_) (fun e2=>?_)
  ·refine Eb (x:=z.y) (F:=z.F) ?_
   rintro b1 d1 G1 e5 m1
   simp only [Value.agg.injEq,Array.mk.injEq,List.cons.injEq,Value.slice.injEq,Value.int.injEq,true_and,and_true] at e5
   obtain ⟨rfl,rfl⟩:=e5
   have hk0:=z1.k0
   have hk1:=z1.k1
   refine Wy Qp (xs:=z.y.Af) (m:=3) rfl fun ys Fy Gy hyl hym=>?_
   refine Jq ?_;intros
   refine Av [4] [11] ?_
   refine dt 1 ?_
   refine dt 2 ?_
   refine dt 4 ?_
   refine dt 5 ?_
   refine dt 6 ?_
   refine dt 7 ?_
   refine Nn 0 8 (by kernel_rfl) (by rw [List.getElem?_toArray];rfl) (by rw [List.getElem?_toArray];rfl) ?_ ?_
   ·apply Ja;rfl;intro _
    refine C1 (EC 3) ?_
    refine dk ?_
    refine Nn 3 8 (by kernel_rfl) (by rw [List.getElem?_toArray];rfl) (by rw [List.getElem?_toArray];rfl) ?_ ?_
    ·refine Kx (ys:=ys) (Mm 3) (E7 3) (fun a7 c7 F7=>?_) (hn:=hyl.symm) (h63:=by simp only [List.length_nil];omega) (hby:=by simp only [List.length_nil];omega)
     rw [List.nil_append]
     refine dk ?_
     refine dO 8 (by kernel_rfl) (by rw [List.getElem?_toArray];rfl) ?_
     apply Hh;rfl;rfl;rfl;rfl;exact Gz;exact Gp;intro _
     refine Ba Be (by decide) ?_
     refine Ov ⟨77,[],z.y.Ai+2⟩ ?_
     refine dk ?_
     refine dO 9 (by kernel_rfl) (by rw [List.getElem?_toArray];rfl) ?_
     refine Lh (ys:=[([.int .i64 77,.slice none 0 0,.int .i64 (z.y.Ai+2)]:List Value)]) (Rg (m:=3) (cs:=[.int .i64 77,.slice none 0 0,.int .i64 (z.y.Ai+2)]) rfl (by simp [Value.oneCell'])) (Mm 3) (fun a9 c9 F11=>?_)
     refine dk ?_
     refine dt 10 ?_
     refine dO 11 (by kernel_rfl) (by rw [List.getElem?_toArray];rfl) ?_
     apply Cf;rfl;rfl;rfl;(first|exact AggC.s|exact OneC.s);rfl;exact Ci;exact Cg;rfl
     refine Lv ?_
     refine dd ?_
     refine go ?_;intros
     refine Ax (E:=EC 3) fun F8=>?_
     refine Ac9 (E:=C3) (x:=⟨77,[],z.y.Ai+2⟩) ?_
     refine Akk (E:=C3) (c1:=ys.flatten) (c2:=[.int .i64 77,.slice none 0 0,.int .i64 (z.y.Ai+2)]) (x1:=z.y.Af) (x2:=[⟨77,[],z.y.Ai+2⟩]) rfl rfl ?_
     refine Ms (E:=C3) (m:=3) (v:=.agg (ys.flatten++([.int .i64 77,.slice none 0 0,.int .i64 (z.y.Ai+2)]:List Value)).toArray) (ys:=ys++[([.int .i64 77,.slice none 0 0,.int .i64 (z.y.Ai+2)]:List Value)]) (xs:=z.y.Af++[(⟨77,[],z.y.Ai+2⟩:Es)]) rfl (by simp [hyl]) (by simp) fun F9=>?_
     rw [show (ys++[([.int .i64 77,.slice none 0 0,.int .i64 (z.y.Ai+2)]:List Value)]).length=(z.y.Af++[(⟨77,[],z.y.Ai+2⟩:Es)]).length by simp [hyl]]
     refine Eq ⟨z.y.Ai,z.y.Af++[⟨77,[],z.y.Ai+2⟩]⟩ ?_
     refine ret ⟨⟨z.y.Ai,z.y.Af++[⟨77,[],z.y.Ai+2⟩]⟩,_,_,_,0,s3⟩ ⟨by show (z.y.Af++[_]).length≤1000;simp;omega,hp.mono (by omega)⟩ rfl
    ·apply Hh;rfl;rfl;rfl;rfl;exact Gz;exact Gp;intro _
     refine Ba Be (by decide) ?_
     refine Ov ⟨77,[],z.y.Ai+2⟩ ?_
     refine dk ?_
     refine dO 3 (by kernel_rfl) (by rw [List.getElem?_toArray];rfl) ?_
     refine Kx (ys:=ys) (Mm 3) (E7 3) (fun a7 c7 F7=>?_) (hn:=hyl.symm) (h63:=by simp only [List.length_nil];omega) (hby:=by simp only [List.length_nil];omega)
     rw [List.nil_append]
     refine dk ?_
     refine dO 9 (by kernel_rfl) (by rw [List.getElem?_toArray];rfl) ?_
     refine Lh (ys:=[([.int .i64 77,.slice none 0 0,.int .i64 (z.y.Ai+2)]:List Value)]) (Rg (m:=3) (cs:=[.int .i64 77,.slice none 0 0,.int .i64 (z.y.Ai+2)]) rfl (by simp [Value.oneCell'])) (Mm 3) (fun a9 c9 F11=>?_)
     refine dk ?_
     refine dt 10 ?_
     refine dO 11 (by kernel_rfl) (by rw [List.getElem?_toArray];rfl) ?_
     apply Cf;rfl;rfl;rfl;(first|exact AggC.s|exact OneC.s);rfl;exact Ci;exact Cg;rfl
     refine Lv ?_
     refine dd ?_
     refine go ?_;intros
     refine Ax (E:=EC 3) fun F8=>?_
     refine Ac9 (E:=C3) (x:=⟨77,[],z.y.Ai+2⟩) ?_
     refine Akk (E:=C3) (c1:=ys.flatten) (c2:=[.int .i64 77,.slice none 0 0,.int .i64 (z.y.Ai+2)]) (x1:=z.y.Af) (x2:=[⟨77,[],z.y.Ai+2⟩]) rfl rfl ?_
     refine Ms (E:=C3) (m:=3) (v:=.agg (ys.flatten++([.int .i64 77,.slice none 0 0,.int .i64 (z.y.Ai+2)]:List Value)).toArray) (ys:=ys++[([.int .i64 77,.slice none 0 0,.int .i64 (z.y.Ai+2)]:List Value)]) (xs:=z.y.Af++[(⟨77,[],z.y.Ai+2⟩:Es)]) rfl (by simp [hyl]) (by simp) fun F9=>?_
     rw [show (ys++[([.int .i64 77,.slice none 0 0,.int .i64 (z.y.Ai+2)]:List Value)]).length=(z.y.Af++[(⟨77,[],z.y.Ai+2⟩:Es)]).length by simp [hyl]]
     refine Eq ⟨z.y.Ai,z.y.Af++[⟨77,[],z.y.Ai+2⟩]⟩ ?_
     refine ret ⟨⟨z.y.Ai,z.y.Af++[⟨77,[],z.y.Ai+2⟩]⟩,_,_,_,0,s3⟩ ⟨by show (z.y.Af++[_]).length≤1000;simp;omega,hp.mono (by omega)⟩ rfl
   ·apply Hh;rfl;rfl;rfl;rfl;exact Gz;exact Gp;intro _
    refine Ba Be (by decide) ?_
    refine Ov ⟨77,[],z.y.Ai+2⟩ ?_
    refine dk ?_
    refine dO 0 (by kernel_rfl) (by rw [List.getElem?_toArray];rfl) ?_
    apply Ja;rfl;intro _
    refine C1 (EC 3) ?_
    refine dk ?_
    refine dO 3 (by kernel_rfl) (by rw [List.getElem?_toArray];rfl) ?_
    refine Kx (ys:=ys) (Mm 3) (E7 3) (fun a7 c7 F7=>?_) (hn:=hyl.symm) (h63:=by simp only [List.length_nil];omega) (hby:=by simp only [List.length_nil];omega)
    rw [List.nil_append]
    refine dk ?_
    refine dO 9 (by kernel_rfl) (by rw [List.getElem?_toArray];rfl) ?_
    refine Lh (ys:=[([.int .i64 77,.slice none 0 0,.int .i64 (z.y.Ai+2)]:List Value)]) (Rg (m:=3) (cs:=[.int .i64 77,.slice none 0 0,.int .i64 (z.y.Ai+2)]) rfl (by simp [Value.oneCell'])) (Mm 3) (fun a9 c9 F11=>?_)
    refine dk ?_
    refine dt 10 ?_
    refine dO 11 (by kernel_rfl) (by rw [List.getElem?_toArray];rfl) ?_
    apply Cf;rfl;rfl;rfl;(first|exact AggC.s|exact OneC.s);rfl;exact Ci;exact Cg;rfl
    refine Lv ?_
    refine dd ?_
    refine go ?_;intros
    refine Ax (E:=EC 3) fun F8=>?_
    refine Ac9 (E:=C3) (x:=⟨77,[],z.y.Ai+2⟩) ?_
    refine Akk (E:=C3) (c1:=ys.flatten) (c2:=[.int .i64 77,.slice none 0 0,.int .i64 (z.y.Ai+2)]) (x1:=z.y.Af) (x2:=[⟨77,[],z.y.Ai+2⟩]) rfl rfl ?_
    refine Ms (E:=C3) (m:=3) (v:=.agg (ys.flatten++([.int .i64 77,.slice none 0 0,.int .i64 (z.y.Ai+2)]:List Value)).toArray) (ys:=ys++[([.int .i64 77,.slice none 0 0,.int .i64 (z.y.Ai+2)]:List Value)]) (xs:=z.y.Af++[(⟨77,[],z.y.Ai+2⟩:Es)]) rfl (by simp [hyl]) (by simp) fun F9=>?_
    rw [show (ys++[([.int .i64 77,.slice none 0 0,.int .i64 (z.y.Ai+2)]:List Value)]).length=(z.y.Af++[(⟨77,[],z.y.Ai+2⟩:Es)]).length by simp [hyl]]
    refine Eq ⟨z.y.Ai,z.y.Af++[⟨77,[],z.y.Ai+2⟩]⟩ ?_
    refine ret ⟨⟨z.y.Ai,z.y.Af++[⟨77,[],z.y.Ai+2⟩]⟩,_,_,_,0,s3⟩ ⟨by show (z.y.Af++[_]).length≤1000;simp;omega,hp.mono (by omega)⟩ rfl
  ·refine go ?_;intros
   refine ret ⟨z.y,z.a,z.c,z.F,0,s3⟩ ⟨by show z.y.Af.length≤1000;omega,hp.mono (by omega)⟩ rfl
end Go.Proofs.YtaemjogbahcbcaaGreatDoor
