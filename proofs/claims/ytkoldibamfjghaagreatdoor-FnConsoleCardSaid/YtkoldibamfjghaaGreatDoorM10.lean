/- Part 10 of the proof: 30 texts, one behind the other. -/
import Derived.MapKept
import Derived.WideMake
import Derived.Test.YtkoldibamfjghaaGreatDoorM9
open _root_.Go.Proofs.Tryz
set_option maxRecDepth 100000
set_option maxHeartbeats 8000000
set_option linter.all false
set_option linter.unusedVariables false
set_option linter.unusedSimpArgs false
namespace Go.Proofs.YtkoldibamfjghaaGreatDoor
theorem AB{p:Prop}(h:p:=by refine Cm Bb (by decide) ?_;refine Cm A8 (by decide) ?_;refine Cm Bx (by decide) ?_;refine Cm Bv (by decide) ?_;refine Cm Bz (by decide) ?_;refine Cm (Oc Al (by decide)) (by decide) ?_;refine Cm (Oc Al (by decide)) (by decide) ?_;refine E5 Sh (a1:=none) (c1:=0) (a2:=none) (c2:=0) (a3:=none) (c3:=0) (a4:=none) (c4:=0) (a5:=none) (c5:=0) (a6:=none) (c6:=0) (a7:=none) (c7:=0) ?_;refine go ?_;intros;refine C1 A8 ?_;refine go ?_;refine ret (⟨_,_,_,_,_⟩:StZ) trivial rfl):p:=h
theorem AH{p:Prop}(h:p:=by rw [show (ys++[([aa 77,ab none 0 0,aa (z.y.Ai+2)]:am)]).length=(z.y.Ah++[(⟨77,[],z.y.Ai+2⟩:Gz)]).length by simp [hyl]];refine Ex ⟨z.y.Ai,z.y.Ah++[⟨77,[],z.y.Ai+2⟩]⟩ ?_;refine ret ⟨⟨z.y.Ai,z.y.Ah++[⟨77,[],z.y.Ai+2⟩]⟩,_,_,_,0,s3⟩ ⟨by show (z.y.Ah++[_]).length<=1000;simp;omega,fun e he=>(aJ.1 he).elim (fun h=>by have:=z1.f e h;have:=z1.mm;omega) (fun h=>by rw [aL.1 h];simp),hp.mono (by omega)⟩ rfl):p:=h
theorem AM{p:Prop}(h:p:=by refine dk ?_;refine dN 3 ?_;refine oC ?_;refine Be (Z7 z.y l.1 _ z.F z1.t0 z1.t1 z1.l6 z1.z0 (by have:=z1.h1;omega) z1.w hl3) fun q _=>?_;refine dk ?_;refine dt 4 ?_;refine R5 5 ?_;refine R5 6 ?_;refine dN 7 ?_;refine oS ?_;refine N2 ?_;refine dd ?_;refine go ?_;rw [show ((z.i:Nat):Int) - 1=((z.i - 1:Nat):Int) by omega];refine Cb ⟨Pz z.y l.1,q.a,q.c,q.a2,q.c2,q.F,z.i - 1,l.2⟩ ⟨by rw [show r0 - (z.i - 1)=r0 - z.i+1 by omega];exact Arw z1 hl3,by show z.i - 1<=r0;omega,hl2.mono (by show _<=B+20+50 * (r0 - (z.i - 1));omega)⟩ (by show z.i - 1 < z.i;omega)):p:=h
theorem AO{p:Prop}(h:p:=by rw [show (ys++[([aa q.1,ab (some ⟨gf,0,none⟩) 1 1,aa (z.y.Ai+(t.1:Nat))]:am)]).length=(z.y.Ah++[(⟨q.1,[(r.1:Int)],z.y.Ai+(t.1:Nat)⟩:Gz)]).length by simp [hyl]];refine Ex ⟨z.y.Ai,z.y.Ah++[⟨q.1,[(r.1:Int)],z.y.Ai+(t.1:Nat)⟩]⟩ ?_;refine ret ⟨⟨z.y.Ai,z.y.Ah++[⟨q.1,[(r.1:Int)],z.y.Ai+(t.1:Nat)⟩]⟩,_,_,_,0,t.2⟩ ⟨by show (z.y.Ah++[_]).length<=1000;simp;omega,fun e he=>(aJ.1 he).elim (fun h=>by have:=z1.f e h;have:=z1.mm;omega) (fun h=>by rw [aL.1 h];simp),ht2.mono (by omega)⟩ rfl):p:=h
theorem AS{p:Prop}(h:p:=by refine go ?_;rw [show ((zi:Nat):Int) - 1=((zi - 1:Nat):Int) by omega];refine Cb ⟨(Bi x t.t).1,_,_,zi - 1,t.s⟩ ⟨V3 eb,by show zi - 1<=23;omega,t3.mono (by show _<=B+400+200 * (23 - (zi - 1));omega)⟩ (by show zi - 1 < zi;omega)):p:=h
theorem AW{p:Prop}(h:p:=by refine go ?_;rw [show ((zi:Nat):Int) - 1=((zi - 1:Nat):Int) by omega];refine Cb ⟨x,_,_,zi - 1,t.s⟩ ⟨z1,by show zi - 1<=23;omega,t3.mono (by show _<=B+400+200 * (23 - (zi - 1));omega)⟩ (by show zi - 1 < zi;omega)):p:=h
theorem BG{p:Prop}(h:p:=by rw [show Bi n s=(Sh,[],false) by unfold Bi;rw [g1,g2,htk0,e1];rfl];exact AB):p:=h
theorem BR{p:Prop}(h:p:=by refine dk ?_;refine dN 7 ?_;refine oC ?_;refine Be (Acp R (M5 (k+1)) _ Gi hgr (by omega) (by omega) (by have:=hgr.k1;omega)) fun s _=>?_;refine dk ?_;refine C8 8 9 10 11 ?_;refine dN 13 ?_;refine oS ?_;refine dk ?_;refine Dg 14 15 ?_;refine dd ?_;refine Bh (⟨_,s⟩:Nat × TkR) trivial):p:=h
theorem BV{p:Prop}(h:p:=by refine dk ?_;refine dN 8 ?_;refine oC ?_;refine Be (Aco n.Ac[i] p (M5 i) _ Gi hgr hp d0 d1_) fun s _=>?_;refine dk ?_;refine Dg 9 10 ?_;refine dt 11 ?_;refine dN 13 ?_;refine oS ?_;refine dk ?_;refine dt 14 ?_;refine dd ?_;refine Bh (⟨_,s⟩:Nat × NwS) trivial):p:=h
theorem CS{p:Prop}(h:p:=by refine dk ?_;refine dN 11 ?_;refine oC ?_;refine Be (hW _ F8) fun s _=>?_;refine dk ?_;refine dt 12 ?_;refine dN 14 ?_;refine oS ?_;refine dk ?_;refine dd ?_;refine Bh (⟨_,b1,d1,G1,s⟩:OwN) trivial):p:=h
theorem CT{p:Prop}(h:p:=by refine ret (⟨_,FN,_,_,_⟩:StZ) trivial rfl):p:=h
theorem EQ{p:Prop}(h:p:=by refine dN 13 ?_;refine oS ?_;refine dk ?_;refine dt 14 ?_;refine dd ?_;refine Bh (⟨_,b3,d3,Fe,s.a,s.c,s.G⟩:JE) trivial):p:=h
theorem GM{p:Prop}(h:p:=by show x.1.Ap.Ad.length - (j+1) < x.1.Ap.Ad.length - j;omega):p:=h
theorem HB{p:Prop}(h:p:=by show _<=B+20+50 * (r0 - (z.i - 1));omega):p:=h
theorem HY{p:Prop}(h:p:=by show _ < 1000000;omega):p:=h
theorem IB{p:Prop}(h:p:=by show i < n.Ap.Ad.length;omega):p:=h
theorem IC{p:Prop}(h:p:=by simp [MapKept.IsKey]):p:=h
theorem IE{p:Prop}(h:p:=by show z.y.Aa.Ak.length<=7;omega):p:=h
theorem JG{p:Prop}(h:p:=by simpa using ev.symm):p:=h
theorem JL{p:Prop}(h:p:=by simpa using e9):p:=h
theorem JO{p:Prop}(h:p:=by unfold X0 at h0;omega):p:=h
theorem JV{p:Prop}(h:p:=by show y.Ai<=30+((m+1:Nat):Int);omega):p:=h
theorem KB{p:Prop}(h:p:=by show z.i - 1<=r0;omega):p:=h
theorem KG{p:Prop}(h:p:=by show z.y.holds.length<=20;omega):p:=h
theorem KK{p:Prop}(h:p:=by simp only [aY];omega):p:=h
theorem KN{p:Prop}(h:p:=by show j+1<=_;omega):p:=h
end Go.Proofs.YtkoldibamfjghaaGreatDoor
namespace Go.Proofs.YtkoldibamfjghaaGreatDoor
open Go.RowKit
open Go.RowKit
theorem Amo {α:Type} {E:Bw α} {w:World}:∀{ys:List (am)} {xs:List α} {G:aq},Cw E w ys.flatten xs G->(∀y∈ys,y.length=E.sz)->∀i (h1:i < ys.length) (h2:i < xs.length),∃Gi,E.Kz w ys[i] xs[i] Gi/\∀b∈Gi,b∈G
 | [],_,_,_,_,i,h1,_=>by simp at h1
 | y::r,[],_,_,_,i,_,h2=>by simp at h2
 | y::r,x::s,G,h,hm,i,h1,h2=>by
  obtain ⟨c1,c2,F1,F2,e,rfl,hr,hs⟩:=h;rw [ci] at e;obtain ⟨e1,e2⟩:=eK e (by rw [hm y EX,E.len hr]);subst e1 e2;cases i with
  | zero=>exact ⟨F1,hr,fun b hb=>by simp [hb]⟩
  | succ j =>
   obtain ⟨Gi,g1,g2⟩:=Amo hs (fun z hz=>hm z IS) j HR HG;exact ⟨Gi,g1,fun b hb=>by simp [g2 b hb]⟩
theorem Aiu {α:Type} {E:Bw α} {w:World} {cs:am} {x:α} {G2:aq} (hx:E.Kz w cs x G2):∀{ys:List (am)} {xs:List α} {G:aq},Cw E w ys.flatten xs G->(∀y∈ys,y.length=E.sz)->ys.length=xs.length->∀i,∃G',Cw E w (ys.set i cs).flatten (xs.set i x) G'/\∀b∈G',b∈G\/b∈G2
 | [],[],G,h,_,_,i=>⟨G,h,fun b hb=>.inl hb⟩
 | [],y::r,_,_,_,hl,_=>by simp at hl
 | y::r,[],_,_,_,hl,_=>by simp at hl
 | y::r,x1::s,G,h,hm,hl,i=>by
  obtain ⟨c1,c2,F1,F2,e,rfl,hr,hs⟩:=h;rw [ci] at e;obtain ⟨e1,e2⟩:=eK e (by rw [hm y EX,E.len hr]);subst e1 e2;cases i with
  | zero=>exact ⟨G2++F2,⟨cs,r.flatten,G2,F2,EX,rfl,hx,hs⟩,fun b hb=>by rcases aJ.1 hb with hb|hb;exact .inr hb;exact .inl FD⟩
  | succ j =>
   obtain ⟨G',g1,g2⟩:=Aiu hx hs (fun z hz=>hm z IS) GU j;refine ⟨F1++G',⟨y,(r.set j cs).flatten,F1,G',EX,rfl,hr,g1⟩,fun b hb=>?_⟩;rcases aJ.1 hb with hb|hb
   ·exact .inl FD
   ·rcases g2 b hb with h|h
    ·exact .inl JM
    ·exact .inr h
section
variable {c:Cx} {fr:Fr} {H:List Pc} {Φ:Gl}
theorem Fm {m:Nat} {t:TypeId} {a:aj} {n cp:Nat} {ys:List (am)} {F:aq} (h:(∀y∈ys,y.length=m)->ys.length=n->T c fr H Φ) (hp:.ow (EC m) t (ab a n cp) ys F∈H:=by exact Bn):T c fr H Φ:=.mk fun ac w s g=>by
 obtain ⟨hnd,ho⟩:=s.get hp;have key:(∀y∈ys,y.length=m)/\ys.length=n:=by
  rcases ho with ⟨e,rfl, -⟩|⟨b,cap,cs,rest,G,e,h2,h3,h4,h5,h6, -⟩
  ·cases e;exact ⟨EX,rfl⟩
  ·cases e;exact ⟨(Akp h6).2.2,rfl⟩
 exact (h key.1 key.2).h ac w s g
theorem Bfd {α:Type} {E:Bw α} {k:Nat} {v:Value} {xs:List α} {G:aq} (h:xs.length=k->T c fr H Φ) (hp:.isv (EA E k) v xs G∈H:=by exact Bn):T c fr H Φ:=.mk fun ac w s g=>by
 obtain ⟨cs,e,hl,hf⟩:=s.get hp;exact (h hl).h ac w s g
theorem Ag4 {α:Type} {E:Bw α} {k:Nat} {ys:List (am)} {xs:List α} {G:aq} (i:Nat) (hm:∀y∈ys,y.length=E.sz) (hl:ys.length=xs.length) (h1:i < ys.length) (h:∀(h1:i < ys.length) (h2:i < xs.length) Gi,T c fr (.isv E (.agg ys[i].toArray) xs[i] Gi::H) Φ) (hp:.isv (EA E k) (.agg ys.flatten.toArray) xs G∈H:=by exact Bn):T c fr H Φ:=.mk fun ac w s g=>by
 obtain ⟨cs,e, -,hf⟩:=s.get hp;obtain rfl:ys.flatten=cs:=JT
 obtain ⟨Gi,g1,g2⟩:=Amo hf hm i h1 EV;exact (h h1 EV Gi).h ac w (s.ro hp rfl rfl ⟨_,rfl,g1⟩ g2) g
theorem Ag5 {α:Type} {E:Bw α} {k:Nat} {ys:List (am)} {xs:List α} {G:aq} (i:Nat) (hm:∀y∈ys,y.length=E.sz) (hl:ys.length=xs.length) (h1:i < ys.length) (h:∀(h1:i < ys.length) (h2:i < xs.length) v Gi,v=.agg ys[i].toArray->T c fr (.isv E v xs[i] Gi::H) Φ) (hp:.isv (EA E k) (.agg ys.flatten.toArray) xs G∈H:=by exact Bn):T c fr H Φ:=Ag4 i hm hl h1 (fun h1 h2 Gi=>h h1 h2 _ Gi rfl) hp
theorem Qq {α:Type} {E:Bw α} {k:Nat} {ys:List (am)} {xs:List α} {G G2:aq} {v:Value} {cs:am} {x:α} (i:Nat) (hv:v=.agg cs.toArray) (hm:∀y∈ys,y.length=E.sz) (hl:ys.length=xs.length) (h:∀G',T c fr (.isv (EA E k) (.agg (ys.set i cs).flatten.toArray) (xs.set i x) G'::H) Φ) (hp:.isv (EA E k) (.agg ys.flatten.toArray) xs G∈H:=by exact Bn) (hp2:.isv E v x G2∈H:=by exact Bn):T c fr H Φ:=.mk fun ac w s g=>by
 subst hv;obtain ⟨c1,e,hk,hf⟩:=s.get hp;obtain rfl:ys.flatten=c1:=JT
 obtain ⟨c2,e2,hx⟩:=s.get hp2;obtain rfl:cs=c2:=by simpa using e2
 obtain ⟨G',g1,g2⟩:=Aiu hx hf hm hl i;refine (h G').h ac w (s.add (N:=[.isv (EA E k) (.agg (ys.set i cs).flatten.toArray) (xs.set i x) G']) (Below.refl _ _) (by intro p hq;rw [aL] at hq;subst hq;exact ⟨_,rfl,by simpa using hk,g1⟩) ⟨EX,trivial⟩ ?_) g;intro p hq z hb;rw [aL] at hq;subst hq;rcases g2 z hb with hb|hb
 ·exact .inr ⟨rfl,_,hp,rfl,hb⟩
 ·exact .inr ⟨rfl,_,hp2,rfl,hb⟩
theorem Acl {α:Type} {E:Bw α} {hz:0 < E.sz} {v:Value} {x:List α} {G:aq} (h:∀a1 c1,v=.agg #[ab a1 x.length c1]->x.length<=maxLen->T c fr (.sl E (ab a1 x.length c1) x G::H) Φ) (hp:.isv (Oc E hz) v x G∈H:=by exact Bn):T c fr H Φ:=.mk fun ac w s g=>by
 obtain ⟨cs,rfl,v1,rfl,h1⟩:=s.get hp;obtain ⟨a1,c1,rfl⟩:=h1.slice;exact (h a1 c1 rfl h1.len).h ac w (s.ro hp rfl rfl ⟨hz,h1⟩ fun b hb=>hb) g
theorem Aae {α:Type} {E:Bw α} {v:Value} {x:List α} {G:aq} (hz:0 < E.sz) (h:T c fr (.isv (Oc E hz) (.agg #[v]) x G::H) Φ) (hp:.sl E v x G∈H:=by exact Bn):T c fr H Φ:=.mk fun ac w s g=>by
 obtain ⟨-,h1⟩:=s.get hp;exact h.h ac w (s.ro hp rfl rfl ⟨[v],rfl,v,rfl,h1⟩ fun b hb=>hb) g
end
end Go.Proofs.YtkoldibamfjghaaGreatDoor
namespace Go.Proofs.YtkoldibamfjghaaGreatDoor
open Go.RowKit
theorem At3 (s:Jh) (hss:s.data.size<=maxLen):FV 136 [.agg #[aa s.Cq,aa s.node,af s.data]] [] (.bool (Do s)):=by
 refine enter func136 rfl ntmps136 fun w0=>?_;refine go ?_;intros;refine A1 rfl (fun h1=>?_) (fun h1=>?_)
 ·rw [show Do s=(decide (s.node=0) && Pk s.data) by unfold Do;rw [aH h1]];refine go ?_;refine Dc rfl rfl (fun h2=>?_) (fun h2=>?_)
  ·refine go ?_;refine ce (fun w st=>Q7 s.data 8 _ hss) ?_;exact DQ
  ·exact DP
 refine go ?_;refine A1 rfl (fun h4=>?_) (fun h4=>?_)
 ·rw [show Do s=(decide (s.node=0) && decide (s.data=⟨#[]⟩)) by unfold Do;rw [aC h1,aH h4]];refine go ?_;refine Dc rfl rfl (fun h2=>?_) (fun h2=>?_)
  ·exact DQ
  ·exact DP
 rw [show Do s=(Ff 1 s.Cq 6 && Ff 1 s.node 7 && decide (s.data=⟨#[]⟩)) by unfold Do;rw [aC h1,aC h4];rfl];refine go ?_;refine ce (fun w st=>Kg s.Cq 1 6 _) ?_;cases g1:Ff 1 s.Cq 6
 ·refine go ?_;refine ret () trivial ?_;rfl
 refine go ?_;refine ce (fun w st=>Kg s.node 1 7 _) ?_;cases g2:Ff 1 s.node 7
 ·refine go ?_;refine ret () trivial ?_;rfl
 refine go ?_;refine ret () trivial ?_;rfl
theorem Auu {q ps:List As} {k:Nat} (h:6<=(Hf q (ps.take k)).length):Hf q (ps.take k)=Hf q ps:=by
 unfold Hf at *;rw [aA,aO,aO] at h;rw [List.take_take]
 congr 1
 by_cases h6:6<=q.length
 ·rw [show min (6 - q.length) k=6 - q.length by omega]
 ·by_cases hk:6 - q.length<=k
  ·rw [show min (6 - q.length) k=6 - q.length by omega]
  ·rw [show min (6 - q.length) k=k by omega,aW EV,aW EV]
theorem Auv {q ps:List As} {k:Nat} (hk:k < ps.length) (h:(Hf q (ps.take k)).length < 6):Hf q (ps.take (k+1))=Hf q (ps.take k)++[ps[k]]:=by
 rw [aR hk,Ajp];unfold U3;rw [aH h]
theorem Aga (q ps:List As) (a:aj) (c:Nat) (F:aq) (a2:aj) (c2:Nat) (F2:aq) (hq:q.length<=1000000):Fn prog 237 [ab a q.length c,ab a2 ps.length c2] [.sl Al (ab a q.length c) q F,.sl Al (ab a2 ps.length c2) ps F2] [] (fun (_:KA)=>True) (fun z=>.slice z.a (Hf q ps).length z.c) (fun z=>[.ow Al 141 (.slice z.a (Hf q ps).length z.c) (Hf q ps) z.F]):=by
 refine enter func237 rfl ntmps237 fun w0=>?_;refine Ww (E:=Al) (xs:=ps) ?_;rintro _ _ e0 hn1 hn2;refine Ali (E:=Al) (xs:=ps) (fun p:As=>p.data.size<=maxLen) (fun w cs x F h=>by obtain ⟨_,h,_⟩:=h;exact h) ?_;intro hz;cases e0;refine go ?_;intros;refine C1 Al ?_;refine go ?_;apply wO;refine Nm Ho Jp fun a3 c3 F3=>?_;rw [aZ];refine go ?_;have e0:Hf q (ps.take 0)=q:=by unfold Hf;simp
 refine Ca [1,4] (fun z:KA=>[(5,.slice z.a (Hf q (ps.take z.k)).length z.c),(6,aa (z.k:Nat))]) (fun z=>[.ow Al 141 (.slice z.a (Hf q (ps.take z.k)).length z.c) (Hf q (ps.take z.k)) z.F]) (fun z=>z.k<=ps.length) (fun z=>ps.length - z.k) ⟨0,a3,c3,F3⟩ (aE _) (fun z hz0=>?_) (hf:=by dsimp only;rw [e0];exact frE) (hH:=by dsimp only;rw [e0];exact Agp);have hql:(Hf q (ps.take z.k)).length<=q.length+ps.length:=by unfold Hf;rw [aA,aO,aO];omega
 have hnn:ps.length<=9223372036854775807:=EV
 refine go ?_;refine Dc rfl rfl (fun h1=>?_) (fun h1=>?_)
 ·have hk:z.k < ps.length:=EV
  refine go ?_;refine A1 rfl (fun h2=>?_) (fun h2=>?_)
  ·have h6:(Hf q (ps.take z.k)).length < 6:=EV
   have hpz:=hz _ (aB hk);refine Oj (xs:=ps) z.k ?_;rintro hi3 b3 o3 e3 s3;rw [e3];refine go ?_;intros;apply wO;refine Np (ys:=[ps[z.k]]) (De ps[z.k] hpz) Ho fun a7 c7 F7=>?_;rw [<-Auv hk h6];refine go ?_;refine Cb ⟨z.k+1,a7,c7,F7⟩ hk (by show ps.length - (z.k+1) < ps.length - z.k;omega)
  ·rw [Auu EV];exact CI
 ·rw [show ps.take z.k=ps from aW EV];exact CI
theorem Ayl {q ps:List As} (h:q.length<=6):(Hf q ps).length<=6:=by unfold Hf;rw [aA,aO];omega
theorem Bb0 {d:List (List As)} {i:Nat} {ps:List As} (h:∀q∈d,q.length<=6):∀q∈d.modify i (fun q=>Hf q ps),q.length<=6:=fun q hq=>by
 by_cases hi:i < d.length
 ·rw [Ic hi] at hq;rcases bC hq with h'|rfl
  ·exact h q h'
  ·exact Ayl (h _ (aB hi))
 ·rw [Aaa hi] at hq;exact h q hq
theorem Ahd {ps:List As}:∀{nodes:ar} {d:List (List As)},(∀q∈d,q.length<=6)->∀q∈Dp d nodes ps,q.length<=6
 | [],_,h=>h
 | x::r,d,h=>by
  show ∀q∈Dp (d.modify x.toNat fun q=>Hf q ps) r ps,q.length<=6;exact Ahd (Bb0 h)
structure ShZ where
 k:Nat
 ys:List (am)
 F:aq
 G:aq
theorem Nv (d:List (List As)) (nodes:ar) (ps:List As) (a1 a2 a3 a4 a5 a7:aj) (l1 c1 l2 c2 l3 c3 l4 c4 l5 c5 l7 c7:Nat) (w1 w2 w3 w4:Int) (a:aj) (n c:Nat) (ys:List (am)) (F G:aq) (an:aj) (cn:Nat) (Fn_:aq) (ap:aj) (cp:Nat) (Fp:aq) (hx:∀x∈nodes,0<=x/\x.toNat < d.length) (hd:∀q∈d,q.length<=6) :
  Fn prog 164 [.agg #[ab a1 l1 c1,aa w1,aa w2,ab a2 l2 c2,aa w3,aa w4,ab a3 l3 c3,ab a4 l4 c4,ab a5 l5 c5,ab a n c,ab a7 l7 c7],ab an nodes.length cn,ab ap ps.length cp] [.sl Bb (ab an nodes.length cn) nodes Fn_,.sl Al (ab ap ps.length cp) ps Fp,.isv (EA (Oc Al EW) n) (.agg (ys).flatten.toArray) d G] [.ow (EC 1) 125 (ab a n c) ys F] (fun (_:ShZ)=>True) (fun _=>.tuple #[]) (fun z=>[.ow (EC 1) 125 (ab a n c) z.ys z.F,.isv (EA (Oc Al EW) n) (.agg (z.ys).flatten.toArray) (Dp d nodes ps) z.G]):=by
 refine enter func164 rfl ntmps164 fun w0=>?_;refine Ww (E:=Bb) (xs:=nodes) ?_;rintro _ _ e0 hn1 hn2;cases e0;refine Bfd (xs:=d) fun hdn=>?_;refine go ?_;intros;refine Ca [1,2,3] (fun z:ShZ=>[(6,aa (z.k:Nat))]) (fun z=>[.ow (EC 1) 125 (ab a n c) z.ys z.F,.isv (EA (Oc Al EW) n) (.agg (z.ys).flatten.toArray) (Dp d (nodes.take z.k) ps) z.G]) (fun z=>z.k<=nodes.length) (fun z=>nodes.length - z.k) ⟨0,ys,F,G⟩ (aE _) fun z hz0=>?_;have hsl:=Aah ps (nodes.take z.k) d;have hd6:=Ahd (ps:=ps) (nodes:=nodes.take z.k) hd;refine go ?_;refine A1 rfl (fun h1=>?_) (fun h1=>?_)
 ·have hk:z.k < nodes.length:=EV
  obtain ⟨x0,x1⟩:=hx _ (aB hk);obtain ⟨i,hi⟩:∃i:Nat,nodes[z.k]=((i:Nat):Int):=⟨nodes[z.k].toNat,EV⟩;have hil:i < (Dp d (nodes.take z.k) ps).length:=EV
  have hst:=Aeb (d:=d) (ps:=ps) hk;rw [show nodes[z.k].toNat=i by omega] at hst;unfold Rb at hst;rw [Ic hil] at hst;have h6:=hd6 _ (aB hil);refine In (xs:=nodes) z.k ?_;rintro hi2 b o e1;rw [e1,hi];refine Fm (ys:=z.ys) fun hm hl=>?_;refine Ag4 (ys:=z.ys) (xs:=Dp d (nodes.take z.k) ps) i hm EV EV fun h2 h3 Gi=>?_;refine Acl (x:=(Dp d (nodes.take z.k) ps)[i]) fun a9 c9 e9 l9=>?_;refine Rm (E:=EC 1) (xs:=z.ys) (m:=1) (Ib 1) i ?_ EZ rfl h2;rintro _ g A cs B rfl k2 k3 hH;obtain ⟨k4, -, -⟩:=k3 w0
  have e8:z.ys[i]=[.slice a9 (Dp d (nodes.take z.k) ps)[i].length c9]:=JL
  rw [e8] at k4;subst k4;dsimp only [List.append];refine go ?_;refine Ar [0,3,5] [17] ?_;refine C8 0 1 2 3 ?_;refine C8 4 5 6 7 ?_;refine C8 8 9 10 11 ?_;refine Dg 12 13 ?_;refine dt 14 ?_;refine dN 15 ?_;refine oC ?_;refine Be (Aga (Dp d (nodes.take z.k) ps)[i] ps a9 c9 _ ap cp Fp EV) fun u _=>?_;refine dk ?_;refine dt 16 ?_;refine dN 17 ?_;refine oS ?_;refine N2 ?_;refine dd ?_;refine P5 (E:=EC 1) (xs:=z.ys) [.slice u.a (Hf (Dp d (nodes.take z.k) ps)[i] ps).length u.c] hH (fun w=>⟨rfl,⟨rfl,FJ⟩,rfl⟩) ?_
  refine Av (E:=Al) (xs:=Hf (Dp d (nodes.take z.k) ps)[i] ps) fun Fq=>?_;refine Aae (E:=Al) (x:=Hf (Dp d (nodes.take z.k) ps)[i] ps) EW ?_;refine Qq (E:=Oc Al EW) (ys:=z.ys) (xs:=Dp d (nodes.take z.k) ps) (x:=Hf (Dp d (nodes.take z.k) ps)[i] ps) i rfl hm EV fun G'=>?_;rw [<-hst];refine go ?_;refine Cb ⟨z.k+1,z.ys.set i [.slice u.a (Hf (Dp d (nodes.take z.k) ps)[i] ps).length u.c],[g],G'⟩ hk (by show nodes.length - (z.k+1) < nodes.length - z.k;omega)
 ·rw [show nodes.take z.k=nodes from aW EV];refine go ?_;refine V9 ?_;refine ret z trivial rfl
theorem Am4 {l:ar} (hg:O9 l) (i:Nat):Qo 1 7 (Iq l ((i:Nat):Int))=true:=by
 refine Ajq ?_ fun z hz=>?_
 ·unfold Iq Ke;rw [List.pairwise_map];exact (List.Pairwise.filter _ List.pairwise_lt_range).imp fun h=>by omega
 ·have:=Ln hg hz;have:=hg.n1;omega
structure ShA where
 ys:List (am)
 F:aq
 G:aq
structure SZ where
 e:ShA
 r:ShA
 d:ShA
 u:ShA
structure JE where
 g:Nat
 b:aj
 d:Nat
 F:aq
 a:aj
 c:Nat
 G:aq
theorem Aky (n:Dt) (i:Nat) (p:As) (a1:aj) (c1:Nat) (a4:aj) (c4:Nat) (a5:aj) (c5:Nat) (a6:aj) (c6:Nat) (a7:aj) (c7:Nat) (a2 a3:aj) (l2 c2 l3 c3:Nat) (w1 w2 w3 w4:Int) (F1:aq) (z:SZ) (FT:aq) (hl:Lp n=true) (hi:i < n.Ap.Ad.length) (hi0:0 < i) (h8:O9 n.Ap.Ad) (hr:Es n.Ap.Ad (i:Nat)=true->By (P4 n i)=true) (he:Es n.Ap.Ad (i:Nat)=false->Ba (Pp n i)=true) (hp:Bo p=true) (hps:p.data.size<=maxLen) (hd:∀q∈n.down,q.length<=6) :
  Fn prog 166 [.agg #[ab a1 n.Ap.Ad.length c1,aa w1,aa w2,ab a2 l2 c2,aa w3,aa w4,ab a3 l3 c3,ab a4 n.Ap.Ad.length c4,ab a5 n.Ap.Ad.length c5,ab a6 n.Ap.Ad.length c6,ab a7 n.Ap.Ad.length c7],aa (i:Nat),.agg #[aa (p).Cq,aa (p).Ae,aa (p).Am,aa (p).Er,af (p).data]] [Gk FT,.sl Bb (ab a1 n.Ap.Ad.length c1) n.Ap.Ad F1,.isv (EA Bv n.Ap.Ad.length) (.agg z.e.ys.flatten.toArray) n.Af z.e.G,.isv (EA Bz n.Ap.Ad.length) (.agg z.r.ys.flatten.toArray) n.Ac z.r.G,.isv (EA (Oc Al EW) n.Ap.Ad.length) (.agg z.d.ys.flatten.toArray) n.down z.d.G,.isv (EA (Oc Al EW) n.Ap.Ad.length) (.agg z.u.ys.flatten.toArray) n.up z.u.G] [.ow (EC 2) 122 (ab a4 n.Ap.Ad.length c4) z.e.ys z.e.F,.ow (EC 5) 76 (ab a5 n.Ap.Ad.length c5) z.r.ys z.r.F,.ow (EC 1) 125 (ab a6 n.Ap.Ad.length c6) z.d.ys z.d.F,.ow (EC 1) 125 (ab a7 n.Ap.Ad.length c7) z.u.ys z.u.F] (fun (_:SZ × KA)=>True) (fun y=>.slice y.2.a (C6 n i p).2.length y.2.c) (fun y=>[.ow (EC 2) 122 (ab a4 n.Ap.Ad.length c4) y.1.e.ys y.1.e.F,.ow (EC 5) 76 (ab a5 n.Ap.Ad.length c5) y.1.r.ys y.1.r.F,.ow (EC 1) 125 (ab a6 n.Ap.Ad.length c6) y.1.d.ys y.1.d.F,.ow (EC 1) 125 (ab a7 n.Ap.Ad.length c7) y.1.u.ys y.1.u.F,.isv (EA Bv n.Ap.Ad.length) (.agg y.1.e.ys.flatten.toArray) (C6 n i p).1.Af y.1.e.G,.isv (EA Bz n.Ap.Ad.length) (.agg y.1.r.ys.flatten.toArray) (C6 n i p).1.Ac y.1.r.G,.isv (EA (Oc Al EW) n.Ap.Ad.length) (.agg y.1.d.ys.flatten.toArray) (C6 n i p).1.down y.1.d.G,.isv (EA (Oc Al EW) n.Ap.Ad.length) (.agg y.1.u.ys.flatten.toArray) (C6 n i p).1.up y.1.u.G,.ow A8 9 (.slice y.2.a (C6 n i p).2.length y.2.c) (C6 n i p).2 y.2.F]):=by
 obtain ⟨q1,q2,q3,q4⟩:=Bk.1 hl;have hn8:=h8.n1;obtain ⟨d0,d1_⟩:=Acb (i:=i);refine enter func166 rfl ntmps166 fun w0=>?_;refine Jw n.Ap ?_;refine go ?_;intros;refine Be (N4 n.Ap ((i:Nat):Int) _ F1 h8 EV) fun _ _=>?_;cases hlf:Es n.Ap.Ad (i:Nat)
 rotate_left
 ·have hir:i < n.Ac.length:=EV
  have hgr:=Ej.1 (Gp hir▸hr hlf);have hev:=(Uo (d:=M5 i) hgr hp d0 d1_).2;rw [show C6 n i p=(⟨n.Ap,n.Ab,n.Af,n.Ac.set i (Dm n.Ac[i] p (M5 i)),n.down,n.up⟩,T9 i (Ii n.Ac[i] p)) by unfold C6;rw [aH hlf,Gp hir]];refine go ?_;refine Fm (ys:=z.r.ys) fun hm hlr=>?_;refine Ag5 (E:=Bz) (ys:=z.r.ys) (xs:=n.Ac) i hm EV EV fun h2 h3 v Gi ev=>?_;refine Fj (v:=v) (x:=n.Ac[i]) ?_;rintro b1 d1 G1 b2 d2 G2 rfl l1 l2
  have e8:z.r.ys[i]=[.bool (n.Ac[i]).Bd,aa (n.Ac[i]).Ai,aa (n.Ac[i]).Aa.next,.slice b1 (n.Ac[i]).Aa.Ao.length d1,.slice b2 (n.Ac[i]).An.length d2]:=JG
  refine Rm (E:=EC 5) (xs:=z.r.ys) (m:=5) (Ib 5) i ?_ EZ rfl h2;rintro _ g A cs B rfl k2 k3 hH;obtain ⟨k4, -, -⟩:=k3 w0;rw [e8] at k4;subst k4;dsimp only [List.append];refine go ?_
  refine Du [1,3,5,6] [0,1,2,3,4,5,6,7,8,9,10,11,12,13,14,15] (fun w:Nat × NwS=>[(7,Gc w.1 0 0),(8,.slice w.2.ae (Ii n.Ac[i] p).length w.2.ce)]) (fun w=>[.row w.1 76 0 [] [.bool (Dm n.Ac[i] p (M5 i)).Bd,aa (Dm n.Ac[i] p (M5 i)).Ai,aa (Dm n.Ac[i] p (M5 i)).Aa.next,.slice w.2.a1 (Dm n.Ac[i] p (M5 i)).Aa.Ao.length w.2.c1,.slice w.2.a2 (Dm n.Ac[i] p (M5 i)).An.length w.2.c2] [],.isv Bz (.agg #[.bool (Dm n.Ac[i] p (M5 i)).Bd,aa (Dm n.Ac[i] p (M5 i)).Ai,aa (Dm n.Ac[i] p (M5 i)).Aa.next,.slice w.2.a1 (Dm n.Ac[i] p (M5 i)).Aa.Ao.length w.2.c1,.slice w.2.a2 (Dm n.Ac[i] p (M5 i)).An.length w.2.c2]) (Dm n.Ac[i] p (M5 i)) w.2.F1,.ow A8 9 (.slice w.2.ae (Ii n.Ac[i] p).length w.2.ce) (Ii n.Ac[i] p) w.2.Fe]) (fun _=>True) ?_ fun w _=>?_
  ·skip
   refine Ar [0,4,5] [] ?_;refine C8 0 1 2 3 ?_;refine Dg 4 5 ?_;refine dt 6 ?_;refine dM 7 12 ?_ ?_
   ·refine oC ?_;refine Be (Vp i EV) fun _ _=>?_;refine dk ?_;refine dM 8 12 ?_ ?_
    ·refine oC ?_;refine Be (Aco n.Ac[i] p (M5 i) _ Gi hgr hp d0 d1_) fun s _=>?_;refine dk ?_;refine Dg 9 10 ?_;refine dt 11 ?_;refine dN 12 ?_;apply Ci;rfl;intro _;refine dk ?_;refine dN 13 ?_;refine oS ?_;refine dk ?_;refine dt 14 ?_;refine dd ?_;refine Bh (⟨_,s⟩:Nat × NwS) trivial
    ·apply Ci;rfl;intro _;exact BV
   ·apply Ci;rfl;intro _;refine dk ?_;refine dN 7 ?_;refine oC ?_;refine Be (Vp i EV) fun _ _=>?_;exact BV
  obtain ⟨gr,s⟩:=w;dsimp only;refine Ih ?_;intros;refine P5 (E:=EC 5) (xs:=z.r.ys) [.bool (Dm n.Ac[i] p (M5 i)).Bd,aa (Dm n.Ac[i] p (M5 i)).Ai,aa (Dm n.Ac[i] p (M5 i)).Aa.next,.slice s.a1 (Dm n.Ac[i] p (M5 i)).Aa.Ao.length s.c1,.slice s.a2 (Dm n.Ac[i] p (M5 i)).An.length s.c2] hH (fun w=>⟨rfl,⟨rfl,FJ⟩,rfl⟩) ?_;refine Qq (E:=Bz) (ys:=z.r.ys) (xs:=n.Ac) (x:=Dm n.Ac[i] p (M5 i)) i rfl hm EV fun G'=>?_;refine Av (E:=A8) (xs:=Ii n.Ac[i] p) fun Fq=>?_;refine go ?_;refine Be (Ajb i (Ii n.Ac[i] p) _ _ Fq FT EV EV (Af3 hgr hp)) fun u _=>?_
  refine go ?_;refine ret (⟨z.e,⟨z.r.ys.set i [.bool (Dm n.Ac[i] p (M5 i)).Bd,aa (Dm n.Ac[i] p (M5 i)).Ai,aa (Dm n.Ac[i] p (M5 i)).Aa.next,.slice s.a1 (Dm n.Ac[i] p (M5 i)).Aa.Ao.length s.c1,.slice s.a2 (Dm n.Ac[i] p (M5 i)).An.length s.c2],[g],G'⟩,z.d,z.u⟩,u) trivial rfl
 ·have hir:i < n.Af.length:=EV
  have hge:Ba n.Af[i]=true:=Js hir▸he hlf;have hel:=(Hb.1 hge).2.1;have hkl:=Uv n.Ap.Ad ((i:Nat):Int);have hkx:∀x∈Iq n.Ap.Ad ((i:Nat):Int),0<=x/\x.toNat < n.down.length:=fun x hx=>by have:=Ln h8 hx;omega
  have hri:=Am4 h8 i;refine go ?_;refine Be (Pt n.Ap ((i:Nat):Int) _ F1 (Sp h8.z EV) ⟨EV,EV⟩) fun u _=>?_;refine Av (E:=Bb) (xs:=Iq n.Ap.Ad ((i:Nat):Int)) fun Fk=>?_;refine go ?_;refine A1 rfl (fun hk=>?_) (fun hk=>?_)
  ·rw [show C6 n i p=(⟨n.Ap,n.Ab,n.Af.set i (Px n.Af[i] p.Ae),n.Ac,Dp n.down (Um n.Af[i] p.Ae (Iq n.Ap.Ad ((i:Nat):Int))) [p],n.up⟩,[]) by unfold C6 Aem Zb;rw [aC JP,aH hk,aH hk,Js hir]];rw [<-Arh hge hri];refine go ?_;refine Fm (ys:=z.e.ys) fun hm hlr=>?_;refine Ag5 (E:=Bv) (ys:=z.e.ys) (xs:=n.Af) i hm EV EV fun h2 h3 v Gi ev=>?_;refine D9 (v:=v) (x:=n.Af[i]) ?_;rintro b1 d1 G1 rfl l1;have e8:z.e.ys[i]=[aa n.Af[i].Ai,.slice b1 n.Af[i].Ah.length d1]:=JG
   refine Rm (E:=EC 2) (xs:=z.e.ys) (m:=2) (Ib 2) i ?_ EZ rfl h2;rintro _ g A cs B rfl k2 k3 hH;obtain ⟨k4, -, -⟩:=k3 w0;rw [e8] at k4;subst k4;dsimp only [List.append];refine go ?_
   refine Du [1,3,5,6,9] [0,1,2,3,4,5,6,7,8,9,10,11,12,13,14,15] (fun w:JE=>[(10,Gc w.g 0 0),(11,.slice w.a (Aa1 n.Af[i] p.Ae (Iq n.Ap.Ad ((i:Nat):Int))).length w.c)]) (fun w=>[.row w.g 122 0 [] [aa (Px n.Af[i] p.Ae).Ai,.slice w.b (Px n.Af[i] p.Ae).Ah.length w.d] [],.isv Bv (.agg #[aa (Px n.Af[i] p.Ae).Ai,.slice w.b (Px n.Af[i] p.Ae).Ah.length w.d]) (Px n.Af[i] p.Ae) w.F,.ow Bb 3 (.slice w.a (Aa1 n.Af[i] p.Ae (Iq n.Ap.Ad ((i:Nat):Int))).length w.c) (Aa1 n.Af[i] p.Ae (Iq n.Ap.Ad ((i:Nat):Int))) w.G]) (fun _=>True) ?_ fun w _=>?_
   ·skip
    refine Ar [0,4,5] [] ?_;refine C8 0 1 2 3 ?_;refine C8 4 5 6 7 ?_;refine dM 8 12 ?_ ?_
    ·refine oC ?_;refine Be (Adx n.Af[i] p.Ae (Iq n.Ap.Ad ((i:Nat):Int)) _ Gi u.a u.c Fk EV (fun x hx=>by have:=Pe hge hx;omega) EV) fun s _=>?_;refine H8 ?_;rintro b3 d3 G3 es l3;rw [es];refine Gt (Px n.Af[i] p.Ae) ?_;refine Sg Kh fun Fe=>?_;refine dk ?_;refine Dg 9 10 ?_;refine dt 11 ?_;refine dN 12 ?_;apply Ci;rfl;intro _;refine dk ?_;exact EQ
    ·apply Ci;rfl;intro _;refine dk ?_;refine dN 8 ?_;refine oC ?_;refine Be (Adx n.Af[i] p.Ae (Iq n.Ap.Ad ((i:Nat):Int)) _ Gi u.a u.c Fk EV (fun x hx=>by have:=Pe hge hx;omega) EV) fun s _=>?_;refine H8 ?_;rintro b3 d3 G3 es l3;rw [es];refine Gt (Px n.Af[i] p.Ae) ?_;refine Sg Kh fun Fe=>?_;refine dk ?_;refine Dg 9 10 ?_;refine dt 11 ?_;exact EQ
   refine Ih ?_;intros;refine P5 (E:=EC 2) (xs:=z.e.ys) [aa (Px n.Af[i] p.Ae).Ai,.slice w.b (Px n.Af[i] p.Ae).Ah.length w.d] hH (fun _=>⟨rfl,⟨rfl,FJ⟩,rfl⟩) ?_;refine Qq (E:=Bv) (ys:=z.e.ys) (xs:=n.Af) (x:=Px n.Af[i] p.Ae) i rfl hm EV fun G'=>?_;refine Av (E:=Bb) (xs:=Aa1 n.Af[i] p.Ae (Iq n.Ap.Ad ((i:Nat):Int))) fun Fk2=>?_;refine Eh (E:=Al) (xs:=[p]) (De p hps) ?_ EX;refine Av (E:=Al) (xs:=[p]) fun Fp=>?_;refine go ?_
   refine Be (Nv n.down (Aa1 n.Af[i] p.Ae (Iq n.Ap.Ad ((i:Nat):Int))) [p] _ _ _ _ _ _ _ _ _ _ _ _ _ _ _ _ _ _ _ _ _ _ _ _ _ z.d.ys z.d.F z.d.G _ _ Fk2 _ _ Fp (by rw [Arh hge hri];exact fun x hx=>hkx x (Aa0 x hx)) hd) fun y _=>?_;refine go ?_;intros;refine C1 A8 ?_;refine go ?_;refine ret (⟨⟨z.e.ys.set i [aa (Px n.Af[i] p.Ae).Ai,.slice w.b (Px n.Af[i] p.Ae).Ah.length w.d],[g],G'⟩,z.r,⟨y.ys,y.F,y.G⟩,z.u⟩,⟨0,_,_,_⟩) trivial rfl
  ·rw [show C6 n i p=(⟨n.Ap,n.Ab,n.Af,n.Ac,Dp n.down (Iq n.Ap.Ad ((i:Nat):Int)) [p],n.up⟩,[]) by unfold C6 Aem Zb;rw [aC JP,aC hk,aC hk]];refine Ih ?_;intros;refine Eh (E:=Al) (xs:=[p]) (De p hps) ?_ EX;refine Av (E:=Al) (xs:=[p]) fun Fp=>?_;refine go ?_;refine Be (Nv n.down (Iq n.Ap.Ad ((i:Nat):Int)) [p] _ _ _ _ _ _ _ _ _ _ _ _ _ _ _ _ _ _ _ _ _ _ _ _ _ z.d.ys z.d.F z.d.G _ _ Fk _ _ Fp hkx hd) fun w _=>?_;refine go ?_;intros;refine C1 A8 ?_;refine go ?_;refine ret (⟨z.e,z.r,⟨w.ys,w.F,w.G⟩,z.u⟩,⟨0,_,_,_⟩) trivial rfl
structure JU where
 g:Nat
 b:aj
 d:Nat
 F:aq
theorem Bbt (n:Dt) (i:Nat) (p:As) (a1:aj) (c1:Nat) (a4:aj) (c4:Nat) (a5:aj) (c5:Nat) (a6:aj) (c6:Nat) (a7:aj) (c7:Nat) (a2 a3:aj) (c2 c3:Nat) (F1 FS:aq) (z:SZ) (hl:Lp n=true) (h0:i≠0) (hi:i < n.Ap.Ad.length) (h8:O9 n.Ap.Ad) (hsrc:Cr n.Ab=true) (he:∀k,k≠0->k < n.Ap.Ad.length->Es n.Ap.Ad (k:Nat)=false->Ba (Pp n k)=true) (hp:Bo p=true) (hps:p.data.size<=maxLen) (hd:∀q∈n.down,q.length<=6) (hu:∀q∈n.up,q.length<=6) :
  Fn prog 167 [.agg #[ab a1 n.Ap.Ad.length c1,aa n.Ab.Aa.Am,aa n.Ab.Aa.size,ab a2 n.Ab.Aa.Ak.length c2,aa n.Ab.Ai,aa n.Ab.quiet,ab a3 n.Ab.holds.length c3,ab a4 n.Ap.Ad.length c4,ab a5 n.Ap.Ad.length c5,ab a6 n.Ap.Ad.length c6,ab a7 n.Ap.Ad.length c7],aa (i:Nat),.agg #[aa (p).Cq,aa (p).Ae,aa (p).Am,aa (p).Er,af (p).data]] [.sl Bb (ab a1 n.Ap.Ad.length c1) n.Ap.Ad F1,.isv El (.agg #[aa n.Ab.Aa.Am,aa n.Ab.Aa.size,ab a2 n.Ab.Aa.Ak.length c2,aa n.Ab.Ai,aa n.Ab.quiet,ab a3 n.Ab.holds.length c3]) n.Ab FS,.isv (EA Bv n.Ap.Ad.length) (.agg z.e.ys.flatten.toArray) n.Af z.e.G,.isv (EA Bz n.Ap.Ad.length) (.agg z.r.ys.flatten.toArray) n.Ac z.r.G,.isv (EA (Oc Al EW) n.Ap.Ad.length) (.agg z.d.ys.flatten.toArray) n.down z.d.G,.isv (EA (Oc Al EW) n.Ap.Ad.length) (.agg z.u.ys.flatten.toArray) n.up z.u.G] [.ow (EC 2) 122 (ab a4 n.Ap.Ad.length c4) z.e.ys z.e.F,.ow (EC 5) 76 (ab a5 n.Ap.Ad.length c5) z.r.ys z.r.F,.ow (EC 1) 125 (ab a6 n.Ap.Ad.length c6) z.d.ys z.d.F,.ow (EC 1) 125 (ab a7 n.Ap.Ad.length c7) z.u.ys z.u.F] (fun (_:SZ × Akg)=>True) (fun y=>.agg #[aa ((Qb n i p).Ab).Aa.Am,aa ((Qb n i p).Ab).Aa.size,.slice y.2.a ((Qb n i p).Ab).Aa.Ak.length y.2.c,aa ((Qb n i p).Ab).Ai,aa ((Qb n i p).Ab).quiet,.slice y.2.a2 ((Qb n i p).Ab).holds.length y.2.c2]) (fun y=>[.ow (EC 2) 122 (ab a4 n.Ap.Ad.length c4) y.1.e.ys y.1.e.F,.ow (EC 5) 76 (ab a5 n.Ap.Ad.length c5) y.1.r.ys y.1.r.F,.ow (EC 1) 125 (ab a6 n.Ap.Ad.length c6) y.1.d.ys y.1.d.F,.ow (EC 1) 125 (ab a7 n.Ap.Ad.length c7) y.1.u.ys y.1.u.F,.isv (EA Bv n.Ap.Ad.length) (.agg y.1.e.ys.flatten.toArray) (Qb n i p).Af y.1.e.G,.isv (EA Bz n.Ap.Ad.length) (.agg y.1.r.ys.flatten.toArray) (Qb n i p).Ac y.1.r.G,.isv (EA (Oc Al EW) n.Ap.Ad.length) (.agg y.1.d.ys.flatten.toArray) (Qb n i p).down y.1.d.G,.isv (EA (Oc Al EW) n.Ap.Ad.length) (.agg y.1.u.ys.flatten.toArray) (Qb n i p).up y.1.u.G,.isv El (.agg #[aa ((Qb n i p).Ab).Aa.Am,aa ((Qb n i p).Ab).Aa.size,.slice y.2.a ((Qb n i p).Ab).Aa.Ak.length y.2.c,aa ((Qb n i p).Ab).Ai,aa ((Qb n i p).Ab).quiet,.slice y.2.a2 ((Qb n i p).Ab).holds.length y.2.c2]) (Qb n i p).Ab y.2.F]):=by
 obtain ⟨q1,q2,q3,q4⟩:=Bk.1 hl;have hn8:=h8.n1;obtain ⟨n0,n1⟩:=Kr hp;have hone:∀x∈[((i:Nat):Int)],0<=x/\x.toNat < n.down.length:=fun x hx=>by
  rw [aL] at hx;subst hx;omega
 obtain ⟨k,hk⟩:∃k,Y4 n i=k:=⟨_,rfl⟩;obtain ⟨e1,e2,e3⟩:=Arx h8 hi h0 hk;refine enter func167 rfl ntmps167 fun w0=>?_;refine In (xs:=n.Ap.Ad) i ?_;rintro hi2 b o e4;rw [e4,e1];refine go ?_;intros;refine A1 rfl (fun h5=>?_) (fun h5=>?_)
 ·obtain rfl:k=0:=EV
  rw [show Qb n i p=⟨n.Ap,Mk n.Ab p.Ae,n.Af,n.Ac,Dp n.down [((i:Nat):Int)] (No n.Ab p),n.up⟩ by unfold Qb;rw [aH hk]];refine go ?_;refine Be (Akw n.Ab p _ FS hsrc n0 n1 hps) fun u _=>?_;refine Ih ?_;intros;refine Eh (E:=Bb) (xs:=[((i:Nat):Int)]) (Oq _) ?_ EX;refine Av (E:=Bb) (xs:=[((i:Nat):Int)]) fun Fo=>?_;refine Av (E:=Al) (xs:=No n.Ab p) fun Fq=>?_;refine go ?_;refine Be (Nv n.down [((i:Nat):Int)] (No n.Ab p) _ _ _ _ _ _ _ _ _ _ _ _ _ _ _ _ _ _ _ _ _ _ _ _ _ z.d.ys z.d.F z.d.G _ _ Fo _ _ Fq hone hd) fun y _=>?_;refine go ?_
  refine ret (⟨⟨z.e,z.r,⟨y.ys,y.F,y.G⟩,z.u⟩,⟨u.a,u.c,u.a2,u.c2,u.F⟩⟩:SZ × Akg) trivial rfl
 have h6:k≠0:=EV
 have hkl:k < n.Af.length:=EV
 have hku:k < n.up.length:=EV
 have hge:Ba n.Af[k]=true:=Js hkl▸he k h6 EV e3;have hel:=(Hb.1 hge).2.1;obtain ⟨hc0,hc1⟩:=Na.1 (Hb.1 hge).1;rw [show Qb n i p=⟨n.Ap,n.Ab,n.Af.set k (Nn n.Af[k] p.Ae ((i:Nat):Int)),n.Ac,Dp n.down [((i:Nat):Int)] [Zu p],if Acf n.Af[k] p.Ae then n.up.modify k fun q=>Hf q [p] else n.up⟩ by unfold Qb;rw [aC EV,hk,Js hkl]];refine go ?_;refine Fm (ys:=z.e.ys) fun hm hlr=>?_;refine Ag5 (E:=Bv) (ys:=z.e.ys) (xs:=n.Af) k hm EV EV fun h2 h3 v Gi ev=>?_;refine D9 (v:=v) (x:=n.Af[k]) ?_;rintro b1 d1 G1 rfl l1
 have e8:z.e.ys[k]=[aa n.Af[k].Ai,.slice b1 n.Af[k].Ah.length d1]:=JG
 refine Rm (E:=EC 2) (xs:=z.e.ys) (m:=2) (Ib 2) k ?_ EZ rfl h2;rintro _ g A cs B rfl k2 k3 hH;obtain ⟨k4, -, -⟩:=k3 w0;rw [e8] at k4;subst k4;dsimp only [List.append];refine go ?_
 refine Du [1,3,5,6,7] [0,1,2,3,4,5,6,7,8,9,10,11,12,13,14,15] (fun w:JU=>[(10,Gc w.g 0 0),(11,.bool (Acf n.Af[k] p.Ae))]) (fun w=>[.row w.g 122 0 [] [aa (Nn n.Af[k] p.Ae ((i:Nat):Int)).Ai,.slice w.b (Nn n.Af[k] p.Ae ((i:Nat):Int)).Ah.length w.d] [],.isv Bv (.agg #[aa (Nn n.Af[k] p.Ae ((i:Nat):Int)).Ai,.slice w.b (Nn n.Af[k] p.Ae ((i:Nat):Int)).Ah.length w.d]) (Nn n.Af[k] p.Ae ((i:Nat):Int)) w.F]) (fun _=>True) ?_ fun w _=>?_
 ·skip
  refine Ar [0,4,5] [] ?_;refine C8 0 1 2 3 ?_;refine C8 4 5 6 7 ?_;refine dM 8 12 ?_ ?_
  ·refine oC ?_;refine Be (Vo n.Af[k] p.Ae ((i:Nat):Int) _ Gi EV (fun x hx=>by have:=Pe hge hx;omega) EV EV) fun s _=>?_;refine H8 ?_;rintro b3 d3 G3 es l3;rw [es];refine Gt (Nn n.Af[k] p.Ae ((i:Nat):Int)) ?_;refine Sg Kh fun Fe=>?_;refine dk ?_;refine Dg 9 10 ?_;refine dt 11 ?_;refine dN 12 ?_;apply Ci;rfl;intro _;refine dk ?_;refine dN 13 ?_;refine oS ?_;refine dk ?_;refine dt 14 ?_;refine dd ?_;refine Bh (⟨_,b3,d3,Fe⟩:JU) trivial
  ·apply Ci;rfl;intro _;refine dk ?_;refine dN 8 ?_;refine oC ?_;refine Be (Vo n.Af[k] p.Ae ((i:Nat):Int) _ Gi EV (fun x hx=>by have:=Pe hge hx;omega) EV EV) fun s _=>?_;refine H8 ?_;rintro b3 d3 G3 es l3;rw [es];refine Gt (Nn n.Af[k] p.Ae ((i:Nat):Int)) ?_;refine Sg Kh fun Fe=>?_;refine dk ?_;refine Dg 9 10 ?_;refine dt 11 ?_;refine dN 13 ?_;refine oS ?_;refine dk ?_;refine dt 14 ?_;refine dd ?_;refine Bh (⟨_,b3,d3,Fe⟩:JU) trivial
 refine Ih ?_;intros;refine P5 (E:=EC 2) (xs:=z.e.ys) [aa (Nn n.Af[k] p.Ae ((i:Nat):Int)).Ai,.slice w.b (Nn n.Af[k] p.Ae ((i:Nat):Int)).Ah.length w.d] hH (fun _=>⟨rfl,⟨rfl,FJ⟩,rfl⟩) ?_;refine Qq (E:=Bv) (ys:=z.e.ys) (xs:=n.Af) (x:=Nn n.Af[k] p.Ae ((i:Nat):Int)) k rfl hm EV fun G'=>?_;refine Eh (E:=Bb) (xs:=[((i:Nat):Int)]) (Oq _) ?_ EX;refine Av (E:=Bb) (xs:=[((i:Nat):Int)]) fun Fo=>?_;refine Eh (E:=Al) (xs:=[Zu p]) (De (Zu p) (aE _)) ?_ EX;refine Av (E:=Al) (xs:=[Zu p]) fun Fp=>?_;refine go ?_
 refine Be (Nv n.down [((i:Nat):Int)] [Zu p] _ _ _ _ _ _ _ _ _ _ _ _ _ _ _ _ _ _ _ _ _ _ _ _ _ z.d.ys z.d.F z.d.G _ _ Fo _ _ Fp hone hd) fun y _=>?_;cases hf:Acf n.Af[k] p.Ae
 ·rw [aC EW];refine go ?_;refine ret (⟨⟨⟨z.e.ys.set k [aa (Nn n.Af[k] p.Ae ((i:Nat):Int)).Ai,.slice w.b (Nn n.Af[k] p.Ae ((i:Nat):Int)).Ah.length w.d],[g],G'⟩,z.r,⟨y.ys,y.F,y.G⟩,z.u⟩,⟨a2,c2,a3,c3,FS⟩⟩:SZ × Akg) trivial rfl
 ·rw [aH rfl,Ic hku];have hu6:=hu _ (aB hku);refine go ?_;refine Fm (ys:=z.u.ys) fun hmu hlu=>?_;refine Ag4 (ys:=z.u.ys) (xs:=n.up) k hmu EV EV fun h9 _ Gu=>?_;refine Acl (x:=n.up[k]) fun a9 c9 e9 l9=>?_;have e10:z.u.ys[k]=[.slice a9 n.up[k].length c9]:=JL
  refine Rm (E:=EC 1) (xs:=z.u.ys) (m:=1) (Ib 1) k ?_ EZ rfl h9;rintro _ gu Au cs Bu rfl j2 j3 hHu;obtain ⟨j4, -, -⟩:=j3 w0;rw [e10] at j4;subst j4;refine go ?_;refine Ar [0,14,15] [12] ?_;refine C8 0 1 2 3 ?_;refine C8 4 5 6 7 ?_;refine dt 8 ?_;refine dN 9 ?_;apply Iz;rfl;rfl;rfl;rfl;exact Ir;exact Io;intro _;refine Eh (E:=Al) (xs:=[p]) (De p hps) ?_ EX;refine Av (E:=Al) (xs:=[p]) fun Fp2=>?_;refine dk ?_;refine dN 10 ?_;refine oC ?_;refine Be (Aga n.up[k] [p] a9 c9 _ _ _ Fp2 EV) fun r _=>?_;refine dk ?_;refine dt 11 ?_
  refine dN 12 ?_;refine oS ?_;refine N2 ?_;refine dd ?_;refine P5 (E:=EC 1) (xs:=z.u.ys) [.slice r.a (Hf n.up[k] [p]).length r.c] hHu (fun w=>⟨rfl,⟨rfl,FJ⟩,rfl⟩) ?_;refine Av (E:=Al) (xs:=Hf n.up[k] [p]) fun Fu=>?_;refine Aae (E:=Al) (x:=Hf n.up[k] [p]) EW ?_;refine Qq (E:=Oc Al EW) (ys:=z.u.ys) (xs:=n.up) (x:=Hf n.up[k] [p]) k rfl hmu EV fun Gv=>?_;refine go ?_
  refine ret (⟨⟨⟨z.e.ys.set k [aa (Nn n.Af[k] p.Ae ((i:Nat):Int)).Ai,.slice w.b (Nn n.Af[k] p.Ae ((i:Nat):Int)).Ah.length w.d],[g],G'⟩,z.r,⟨y.ys,y.F,y.G⟩,⟨z.u.ys.set k [.slice r.a (Hf n.up[k] [p]).length r.c],[gu],Gv⟩⟩,⟨a2,c2,a3,c3,FS⟩⟩:SZ × Akg) trivial rfl
structure TkZ where
 k:Nat
 z:SZ
 a:aj
 c:Nat
 F:aq
theorem At4 (n:Dt) (a1:aj) (c1:Nat) (a4:aj) (c4:Nat) (a5:aj) (c5:Nat) (a6:aj) (c6:Nat) (a7:aj) (c7:Nat) (a2 a3:aj) (c2 c3:Nat) (F1 FS FT:aq) (z:SZ) (hg:At n=true) (hc:n.Ab.Ai < 9999) :
  Fn prog 165 [.agg #[ab a1 n.Ap.Ad.length c1,aa n.Ab.Aa.Am,aa n.Ab.Aa.size,ab a2 n.Ab.Aa.Ak.length c2,aa n.Ab.Ai,aa n.Ab.quiet,ab a3 n.Ab.holds.length c3,ab a4 n.Ap.Ad.length c4,ab a5 n.Ap.Ad.length c5,ab a6 n.Ap.Ad.length c6,ab a7 n.Ap.Ad.length c7]] [Gk FT,.sl Bb (ab a1 n.Ap.Ad.length c1) n.Ap.Ad F1,.isv El (.agg #[aa n.Ab.Aa.Am,aa n.Ab.Aa.size,ab a2 n.Ab.Aa.Ak.length c2,aa n.Ab.Ai,aa n.Ab.quiet,ab a3 n.Ab.holds.length c3]) n.Ab FS,.isv (EA Bv n.Ap.Ad.length) (.agg z.e.ys.flatten.toArray) n.Af z.e.G,.isv (EA Bz n.Ap.Ad.length) (.agg z.r.ys.flatten.toArray) n.Ac z.r.G,.isv (EA (Oc Al EW) n.Ap.Ad.length) (.agg z.d.ys.flatten.toArray) n.down z.d.G,.isv (EA (Oc Al EW) n.Ap.Ad.length) (.agg z.u.ys.flatten.toArray) n.up z.u.G] [.ow (EC 2) 122 (ab a4 n.Ap.Ad.length c4) z.e.ys z.e.F,.ow (EC 5) 76 (ab a5 n.Ap.Ad.length c5) z.r.ys z.r.F,.ow (EC 1) 125 (ab a6 n.Ap.Ad.length c6) z.d.ys z.d.F,.ow (EC 1) 125 (ab a7 n.Ap.Ad.length c7) z.u.ys z.u.F] (fun (_:SZ × TiS × KA)=>True) (fun y=>.tuple #[.agg #[aa ((Gj n).1.Ab).Aa.Am,aa ((Gj n).1.Ab).Aa.size,.slice y.2.1.a ((Gj n).1.Ab).Aa.Ak.length y.2.1.c,aa ((Gj n).1.Ab).Ai,aa ((Gj n).1.Ab).quiet,.slice y.2.1.a2 ((Gj n).1.Ab).holds.length y.2.1.c2],.slice y.2.2.a (Gj n).2.length y.2.2.c]) (fun y=>[.ow (EC 2) 122 (ab a4 n.Ap.Ad.length c4) y.1.e.ys y.1.e.F,.ow (EC 5) 76 (ab a5 n.Ap.Ad.length c5) y.1.r.ys y.1.r.F,.ow (EC 1) 125 (ab a6 n.Ap.Ad.length c6) y.1.d.ys y.1.d.F,.ow (EC 1) 125 (ab a7 n.Ap.Ad.length c7) y.1.u.ys y.1.u.F,.isv (EA Bv n.Ap.Ad.length) (.agg y.1.e.ys.flatten.toArray) (Gj n).1.Af y.1.e.G,.isv (EA Bz n.Ap.Ad.length) (.agg y.1.r.ys.flatten.toArray) (Gj n).1.Ac y.1.r.G,.isv (EA (Oc Al EW) n.Ap.Ad.length) (.agg y.1.d.ys.flatten.toArray) (Gj n).1.down y.1.d.G,.isv (EA (Oc Al EW) n.Ap.Ad.length) (.agg y.1.u.ys.flatten.toArray) (Gj n).1.up y.1.u.G,.isv El (.agg #[aa ((Gj n).1.Ab).Aa.Am,aa ((Gj n).1.Ab).Aa.size,.slice y.2.1.a ((Gj n).1.Ab).Aa.Ak.length y.2.1.c,aa ((Gj n).1.Ab).Ai,aa ((Gj n).1.Ab).quiet,.slice y.2.1.a2 ((Gj n).1.Ab).holds.length y.2.1.c2]) (Gj n).1.Ab y.2.1.F,.ow A8 9 (.slice y.2.2.a (Gj n).2.length y.2.2.c) (Gj n).2 y.2.2.F]):=by
 have hG:=Ax.1 hg;have h8:=Hi hG.t;have hn8:=h8.n1;have hn2:=h8.n0;obtain ⟨q1,q2,q3,q4⟩:=Bk.1 hG.l;have hkl:=Uv n.Ap.Ad 0;have hkx:∀x∈Iq n.Ap.Ad 0,0<=x/\x.toNat < n.down.length:=fun x hx=>by have:=Ln (i:=0) h8 hx;omega
 have hd:∀q∈n.down,q.length<=6:=fun q hq=>(C5 ((Hx hg).2.2.1 q hq)).1;refine enter func165 rfl ntmps165 fun w0=>?_;refine Jw n.Ap ?_;refine go ?_;intros;refine Be (Atw n.Ab _ FS hG.s) fun u _=>?_;refine Av (E:=Al) (xs:=Nk n.Ab.Aa n.Ab.quiet) fun Fp=>?_;refine go ?_;intros;refine Ar [4] [] ?_;refine C8 0 1 2 4 ?_;refine dN 3 ?_;refine oC ?_;refine Be (Pt n.Ap 0 _ F1 (Sp h8.z (gG _)) ⟨EV,EV⟩) fun v _=>?_;refine Av (E:=Bb) (xs:=Iq n.Ap.Ad 0) fun Fk=>?_;refine dk ?_;refine dN 5 ?_;refine oC ?_
 refine Be (Nv n.down (Iq n.Ap.Ad 0) (Nk n.Ab.Aa n.Ab.quiet) _ _ _ _ _ _ _ _ _ _ _ _ _ _ _ _ _ _ _ _ _ _ _ _ _ z.d.ys z.d.F z.d.G _ _ Fk _ _ Fp hkx hd) fun y _=>?_;refine dk ?_;refine dd ?_;rw [show Dp n.down (Iq n.Ap.Ad 0) (Nk n.Ab.Aa n.Ab.quiet)=(Bc n 0).1.down from rfl];refine go ?_;intros;refine C1 A8 ?_;refine go ?_
 refine Ca [1,2,3,4] (fun s:TkZ=>[(6,.slice s.a (Bc n s.k).2.length s.c),(7,aa ((s.k+1:Nat):Int))]) (fun s=>[.ow (EC 2) 122 (ab a4 n.Ap.Ad.length c4) s.z.e.ys s.z.e.F,.ow (EC 5) 76 (ab a5 n.Ap.Ad.length c5) s.z.r.ys s.z.r.F,.ow (EC 1) 125 (ab a6 n.Ap.Ad.length c6) s.z.d.ys s.z.d.F,.ow (EC 1) 125 (ab a7 n.Ap.Ad.length c7) s.z.u.ys s.z.u.F,.isv (EA Bv n.Ap.Ad.length) (.agg s.z.e.ys.flatten.toArray) (Bc n s.k).1.Af s.z.e.G,.isv (EA Bz n.Ap.Ad.length) (.agg s.z.r.ys.flatten.toArray) (Bc n s.k).1.Ac s.z.r.G,.isv (EA (Oc Al EW) n.Ap.Ad.length) (.agg s.z.d.ys.flatten.toArray) (Bc n s.k).1.down s.z.d.G,.isv (EA (Oc Al EW) n.Ap.Ad.length) (.agg s.z.u.ys.flatten.toArray) (Bc n s.k).1.up s.z.u.G,.ow A8 9 (.slice s.a (Bc n s.k).2.length s.c) (Bc n s.k).2 s.F]) (fun s=>s.k+1<=n.Ap.Ad.length/\(Bc n s.k).2.length<=40000 * s.k) (fun s=>n.Ap.Ad.length - s.k) ⟨0,⟨z.e,z.r,⟨y.ys,y.F,y.G⟩,z.u⟩,_,_,_⟩ ⟨by show 0+1<=_;omega,aK _⟩ fun s hs0=>?_
 obtain ⟨k,⟨⟨ye,Fe,Ge⟩,⟨yr,Fr,Gr⟩,⟨yd,Fd,Gd⟩,⟨yu,Fu,Gu⟩⟩,ea,ec,eF⟩:=s;obtain ⟨hk,hel⟩:=hs0;dsimp only at hk hel ⊢;obtain ⟨hGN,hT,hSrc⟩:=Pi hg hc k EV;obtain ⟨r1,r2,r3,r4⟩:=Bk.1 hGN.l;rw [hT] at r1 r2 r3 r4;refine go ?_;refine A1 rfl (fun h1=>?_) (fun h1=>?_)
 ·have hj:k+1 < n.Ap.Ad.length:=EV
  obtain ⟨i1,i2,i3,i4,hrn⟩:=hGN.rn (i:=k+1) (by rw [hT];exact hj);rw [hT] at hrn;obtain ⟨d0,d1_⟩:=Acb (i:=k+1);refine go ?_;refine Be (N4 n.Ap ((k+1:Nat):Int) _ F1 h8 EV) fun _ _=>?_;cases hlf:Es n.Ap.Ad ((k+1:Nat):Int)
  ·obtain ⟨hge,hck, -⟩:=hrn.hn EV hlf;obtain ⟨hgc,hel5, -⟩:=Hb.1 hge;have hnx:Bc n (k+1)=(⟨n.Ap,M3 n.Ab,(Bc n k).1.Af.set (k+1) (Ep (Bc n k).1.Af[k+1]),(Bc n k).1.Ac,(Bc n k).1.down,(Bc n k).1.up⟩,(Bc n k).2++[]):=by
    show ((Nj (Bc n k).1 (k+1)).1,(Bc n k).2++(Nj (Bc n k).1 (k+1)).2)=_;unfold Nj;rw [hT,hlf,aC EW,Js i1,hSrc]
   rw [bg] at hnx;refine go ?_;refine Fm (ys:=ye) fun hm hlr=>?_;refine Ag5 (E:=Bv) (ys:=ye) (xs:=(Bc n k).1.Af) (k+1) hm EV EV fun h2 h3 v Gi ev=>?_;generalize hE:(Bc n k).1.Af[k+1]=E at *;refine D9 (v:=v) (x:=E) ?_;rintro b1 d1 G1 rfl l1;have e8:ye[k+1]=[aa E.Ai,ab b1 E.Ah.length d1]:=JG
   refine Rm (E:=EC 2) (xs:=ye) (m:=2) (Ib 2) (k+1) ?_ EZ rfl h2;rintro _ g A cs B rfl k2 k3 hH;obtain ⟨k4, -, -⟩:=k3 w0;rw [e8] at k4;subst k4;dsimp only [List.append];refine go ?_;refine Ar [0,16] [10] ?_;refine C8 0 1 2 3 ?_;refine C8 4 5 6 7 ?_;refine dN 8 ?_;refine oC ?_;refine cr (fun w st=>Aja _ E Gi w (st.get (p:=.isv _ _ _ _) FA) hgc EV (fun x hx=>by have:=Pe hge hx;omega)) fun v3 FU=>?_;refine D9 (v:=v3) ?_;rintro b3 d3 G3 rfl l3;refine dk ?_;refine dt 9 ?_;refine dN 10 ?_;refine oS ?_;refine N2 ?_;refine dd ?_
   refine P5 (E:=EC 2) (xs:=ye) [aa (Ep E).Ai,.slice b3 (Ep E).Ah.length d3] hH (fun _=>⟨rfl,⟨rfl,FJ⟩,rfl⟩) ?_;refine Qq (E:=Bv) (ys:=ye) (xs:=(Bc n k).1.Af) (x:=Ep E) (k+1) rfl hm EV fun G'=>?_;refine go ?_;refine Cb ⟨k+1,⟨⟨ye.set (k+1) [aa (Ep E).Ai,.slice b3 (Ep E).Ah.length d3],[g],G'⟩,⟨yr,Fr,Gr⟩,⟨yd,Fd,Gd⟩,⟨yu,Fu,Gu⟩⟩,ea,ec,eF⟩ ⟨JB,by rw [hnx];dsimp only;omega⟩ FY GE GD
  ·obtain ⟨-,hgr0,hck⟩:=hrn.hf EV hlf;have hgr:=Ej.1 hgr0;obtain ⟨hsm,hfew⟩:=Adc hgr;have hnx:Bc n (k+1)=(⟨n.Ap,M3 n.Ab,(Bc n k).1.Af,(Bc n k).1.Ac.set (k+1) (Cz (Bc n k).1.Ac[k+1] (M5 (k+1))),(Bc n k).1.down,(Bc n k).1.up.set (k+1) (Hf (Bc n k).1.up[k+1] (Fg (Bc n k).1.Ac[k+1]))⟩,(Bc n k).2++T9 (k+1) (Hg (Bc n k).1.Ac[k+1])):=by
    show ((Nj (Bc n k).1 (k+1)).1,(Bc n k).2++(Nj (Bc n k).1 (k+1)).2)=_;unfold Nj;rw [hT,hlf,aH rfl,Gp i2,hSrc,Ic i4]
   have htl:(T9 (k+1) (Hg (Bc n k).1.Ac[k+1])).length=(Hg (Bc n k).1.Ac[k+1]).length:=bf ..;have hu6:=(C5 hrn.hu).1;generalize hR:(Bc n k).1.Ac[k+1]=R at *;generalize hQ:(Bc n k).1.up[k+1]=Q at *;refine go ?_;refine Fm (ys:=yr) fun hm hlr=>?_;refine Ag5 (E:=Bz) (ys:=yr) (xs:=(Bc n k).1.Ac) (k+1) hm EV EV fun h2 h3 v Gi ev=>?_;rw [hR];refine Fj (v:=v) (x:=R) ?_;rintro b1 d1 G1 b2 d2 G2 rfl l1 l2;have e8:yr[k+1]=[.bool (R).Bd,aa (R).Ai,aa (R).Aa.next,.slice b1 (R).Aa.Ao.length d1,.slice b2 (R).An.length d2]:=JG
   refine Rm (E:=EC 5) (xs:=yr) (m:=5) (Ib 5) (k+1) ?_ EZ rfl h2;rintro _ g A cs B rfl k2 k3 hH;obtain ⟨k4, -, -⟩:=k3 w0;rw [e8] at k4;subst k4;dsimp only [List.append];refine go ?_
   refine Du [1,2,3,4,6,7] [0,1,2,3,4,5,6,7,8,9,10,11,12,13,14,15,16,17,18,19,20,21,22] (fun w:Nat × TkR=>[(8,Gc w.1 0 0),(9,.slice w.2.a3 (Fg R).length w.2.c3),(10,.slice w.2.a4 (Hg R).length w.2.c4)]) (fun w=>[.row w.1 76 0 [] [.bool (Cz R (M5 (k+1))).Bd,aa (Cz R (M5 (k+1))).Ai,aa (Cz R (M5 (k+1))).Aa.next,.slice w.2.a1 (Cz R (M5 (k+1))).Aa.Ao.length w.2.c1,.slice w.2.a2 (Cz R (M5 (k+1))).An.length w.2.c2] [],.isv Bz (.agg #[.bool (Cz R (M5 (k+1))).Bd,aa (Cz R (M5 (k+1))).Ai,aa (Cz R (M5 (k+1))).Aa.next,.slice w.2.a1 (Cz R (M5 (k+1))).Aa.Ao.length w.2.c1,.slice w.2.a2 (Cz R (M5 (k+1))).An.length w.2.c2]) (Cz R (M5 (k+1))) w.2.F1,.ow Al 141 (.slice w.2.a3 (Fg R).length w.2.c3) (Fg R) w.2.F3,.ow A8 9 (.slice w.2.a4 (Hg R).length w.2.c4) (Hg R) w.2.F4]) (fun _=>True) ?_ fun w _=>?_
   ·skip
    refine Ar [0,17] [] ?_;refine C8 0 1 2 3 ?_;refine Dg 4 5 ?_;refine dM 6 12 ?_ ?_
    ·refine oC ?_;refine Be (Vp (k+1) EV) fun _ _=>?_;refine dk ?_;refine dM 7 12 ?_ ?_
     ·refine oC ?_;refine Be (Acp R (M5 (k+1)) _ Gi hgr EV EV (by have:=hgr.k1;omega)) fun s _=>?_;refine dk ?_;refine C8 8 9 10 11 ?_;refine dN 12 ?_;apply Ci;rfl;intro _;refine dk ?_;refine dN 13 ?_;refine oS ?_;refine dk ?_;refine Dg 14 15 ?_;refine dd ?_;refine Bh (⟨_,s⟩:Nat × TkR) trivial
     ·apply Ci;rfl;intro _;exact BR
    ·apply Ci;rfl;intro _;refine dk ?_;refine dN 6 ?_;refine oC ?_;refine Be (Vp (k+1) EV) fun _ _=>?_;exact BR
   obtain ⟨gr,s⟩:=w;dsimp only;refine Ih ?_;intros;refine P5 (E:=EC 5) (xs:=yr) [.bool (Cz R (M5 (k+1))).Bd,aa (Cz R (M5 (k+1))).Ai,aa (Cz R (M5 (k+1))).Aa.next,.slice s.a1 (Cz R (M5 (k+1))).Aa.Ao.length s.c1,.slice s.a2 (Cz R (M5 (k+1))).An.length s.c2] hH (fun _=>⟨rfl,⟨rfl,FJ⟩,rfl⟩) ?_;refine Qq (E:=Bz) (ys:=yr) (xs:=(Bc n k).1.Ac) (x:=Cz R (M5 (k+1))) (k+1) rfl hm EV fun G'=>?_;refine Av (E:=Al) (xs:=Fg R) fun Fp9=>?_;refine Fm (ys:=yu) fun hmu hlu=>?_;refine Ag4 (ys:=yu) (xs:=(Bc n k).1.up) (k+1) hmu EV EV fun h9 _ Gq=>?_;rw [hQ]
   refine Acl (x:=Q) fun a9 c9 e9 l9=>?_;have e10:yu[k+1]=[ab a9 Q.length c9]:=JL
   refine Rm (E:=EC 1) (xs:=yu) (m:=1) (Ib 1) (k+1) ?_ EZ rfl h9;rintro _ gu Au cs Bu rfl j2 j3 hHu;obtain ⟨j4, -, -⟩:=j3 w0;rw [e10] at j4;subst j4;refine go ?_;refine Ar [0,24] [11] ?_;refine C8 0 1 2 3 ?_;refine C8 4 5 6 7 ?_;refine dt 8 ?_;refine dN 9 ?_;refine oC ?_;refine Be (Aga Q (Fg R) a9 c9 _ _ _ Fp9 EV) fun r _=>?_;refine dk ?_;refine dt 10 ?_;refine dN 11 ?_;refine oS ?_;refine N2 ?_;refine dd ?_;refine P5 (E:=EC 1) (xs:=yu) [.slice r.a (Hf Q (Fg R)).length r.c] hHu (fun _=>⟨rfl,⟨rfl,FJ⟩,rfl⟩) ?_
   refine Av (E:=Al) (xs:=Hf Q (Fg R)) fun Fu=>?_;refine Aae (E:=Al) (x:=Hf Q (Fg R)) EW ?_;refine Qq (E:=Oc Al EW) (ys:=yu) (xs:=(Bc n k).1.up) (x:=Hf Q (Fg R)) (k+1) rfl hmu EV fun Gv=>?_;refine Av (E:=A8) (xs:=Hg R) fun F7=>?_;refine go ?_;refine Be (Ajb (k+1) (Hg R) _ _ F7 FT EV EV hsm) fun u9 _=>?_;refine Av (E:=A8) (xs:=T9 (k+1) (Hg R)) fun F8=>?_;apply wO;refine Nm (E:=A8) (xs:=(Bc n k).2) (ys:=T9 (k+1) (Hg R)) Dz Hv fun ax cx Fx=>?_;refine go ?_
   refine Cb ⟨k+1,⟨⟨ye,Fe,Ge⟩,⟨yr.set (k+1) [.bool (Cz R (M5 (k+1))).Bd,aa (Cz R (M5 (k+1))).Ai,aa (Cz R (M5 (k+1))).Aa.next,.slice s.a1 (Cz R (M5 (k+1))).Aa.Ao.length s.c1,.slice s.a2 (Cz R (M5 (k+1))).An.length s.c2],[g],G'⟩,⟨yd,Fd,Gd⟩,⟨yu.set (k+1) [.slice r.a (Hf Q (Fg R)).length r.c],[gu],Gv⟩⟩,ax,cx,Fx⟩ ⟨JB,by rw [hnx];dsimp only;rw [aA,htl];omega⟩ FY GE GD
 ·have hke:n.Ap.Ad.length - 1=k:=EV
  rw [show Gj n=Bc n k by unfold Gj;rw [hke],hSrc];refine go ?_;refine ret (⟨⟨⟨ye,Fe,Ge⟩,⟨yr,Fr,Gr⟩,⟨yd,Fd,Gd⟩,⟨yu,Fu,Gu⟩⟩,u,⟨0,ea,ec,eF⟩⟩:SZ × TiS × KA) trivial rfl
structure OwN where
 g:Nat
 a1:aj
 c1:Nat
 F1:aq
 s:Akg
structure OwK where
 k:Nat
 a4:aj
 c4:Nat
 F4:aq
 a5:aj
 c5:Nat
 F5:aq
 a6:aj
 c6:Nat
 F6:aq
 a7:aj
 c7:Nat
 F7:aq
theorem U0:One (Kl Al 141):=fun h u hu=>by
 obtain ⟨v,rfl,h⟩:=h;obtain rfl:=aL.1 hu;rcases h with ⟨rfl, -, -⟩|⟨b,cap,cs,rest,G,rfl, -⟩ <;> rfl
theorem Aq3 {x:Cs} (hg:Cr x=true):Aov x x.Aa=x:=by
 obtain ⟨gw,hl,t0,t1,k0,k1,hm,hn,hu,hb⟩:=J9 hg;unfold Aov;rw [<-Xp hu,Z4 hg]
theorem Am5 (n:Dt) (v:Value) (F:aq) (hg:At n=true):Fn prog 162 [v] [.isv Oi v n F] [] (fun (_:OwN × OwK)=>True) (fun z=>.agg #[ab z.1.a1 n.Ap.Ad.length z.1.c1,aa (n.Ab).Aa.Am,aa (n.Ab).Aa.size,.slice z.1.s.a (n.Ab).Aa.Ak.length z.1.s.c,aa (n.Ab).Ai,aa (n.Ab).quiet,.slice z.1.s.a2 (n.Ab).holds.length z.1.s.c2,.slice z.2.a4 (n.Af).length z.2.c4,.slice z.2.a5 (n.Ac).length z.2.c5,.slice z.2.a6 (n.down).length z.2.c6,.slice z.2.a7 (n.up).length z.2.c7]) (fun z=>[.ow Bb 3 (ab z.1.a1 n.Ap.Ad.length z.1.c1) n.Ap.Ad z.1.F1,.isv El (.agg #[aa (n.Ab).Aa.Am,aa (n.Ab).Aa.size,.slice z.1.s.a (n.Ab).Aa.Ak.length z.1.s.c,aa (n.Ab).Ai,aa (n.Ab).quiet,.slice z.1.s.a2 (n.Ab).holds.length z.1.s.c2]) n.Ab z.1.s.F,.ow Ch 122 (.slice z.2.a4 (n.Af).length z.2.c4) (n.Af) z.2.F4,.ow B9 76 (.slice z.2.a5 (n.Ac).length z.2.c5) (n.Ac) z.2.F5,.ow (Kl Al 141) 125 (.slice z.2.a6 (n.down).length z.2.c6) (n.down) z.2.F6,.ow (Kl Al 141) 125 (.slice z.2.a7 (n.up).length z.2.c7) (n.up) z.2.F7]):=by
 have hG:=Ax.1 hg;have h8:=(Hi hG.t).n1;have hS:=J9 hG.s;have hSl:=hS.l;have hSm:=hS.m;obtain ⟨q1,q2,q3,q4⟩:=Bk.1 hG.l;obtain ⟨g1,g2,g3,g4⟩:=Hx hg;refine enter func162 rfl ntmps162 fun w0=>?_;refine Fb ?_;rintro a1 c1 F1 a2 c2 F2 a3 c3 F3 a4 c4 F4 a5 c5 F5 a6 c6 F6 a7 c7 F7 rfl l1 l2 l3 l4 l5 l6 l7;refine En n.Ab ?_;refine Cn n.Ab.Aa (a1:=a2) ?_;have hW:=fun vw Fw=>Atx n.Ab n.Ab.Aa (.agg #[aa n.Ab.Aa.Am,aa n.Ab.Aa.size,ab a2 n.Ab.Aa.Ak.length c2,aa n.Ab.Ai,aa n.Ab.quiet,ab a3 n.Ab.holds.length c3]) vw (F2++F3) Fw hS.t0 hS.t1 EV hS.n hS.u
 rw [Aq3 hG.s,show Nt n.Ab.Aa n.Ab.holds=n.Ab.holds by rw [<-Xp hS.u,Z4 hG.s]] at hW;refine go ?_;intros
 refine Du [1,2] [0,1,2,3,4,5,6,7,8,9,10,11] (fun w:OwN=>[(3,Gc w.g 0 0)]) (fun w=>[.row w.g 37 0 [] [ab w.a1 n.Ap.Ad.length w.c1,aa (n.Ab).Aa.Am,aa (n.Ab).Aa.size,.slice w.s.a (n.Ab).Aa.Ak.length w.s.c,aa (n.Ab).Ai,aa (n.Ab).quiet,.slice w.s.a2 (n.Ab).holds.length w.s.c2,ab none 0 0,ab none 0 0,ab none 0 0,ab none 0 0] [],.ow Bb 3 (ab w.a1 n.Ap.Ad.length w.c1) n.Ap.Ad w.F1,.isv El (.agg #[aa (n.Ab).Aa.Am,aa (n.Ab).Aa.size,.slice w.s.a (n.Ab).Aa.Ak.length w.s.c,aa (n.Ab).Ai,aa (n.Ab).quiet,.slice w.s.a2 (n.Ab).holds.length w.s.c2]) n.Ab w.s.F]) (fun _=>True) ?_ fun w _=>?_
 ·skip
  refine Ar [1] [] ?_;refine C8 0 1 2 5 ?_;refine C8 6 7 8 9 ?_;refine dM 3 13 ?_ ?_
  ·refine oC ?_;refine cn (fun w st=>Yp _ n.Ap.Ad F1 w (st.get (p:=.sl _ _ _ _) FA).2 EV) fun b1 d1 G1=>?_;refine dk ?_;refine dt 4 ?_;refine dM 10 13 ?_ ?_
   ·refine oC ?_;refine Be (Sr n.Ab.Aa _ F2 hS.t0 hS.t1 EV) fun y _=>?_;refine J0 ?_;rintro a9 c9 F9 e9 l9;rw [e9];refine Av (xs:=n.Ab.Aa.Ak) fun F8=>?_;refine Cn n.Ab.Aa (a1:=a9) ?_;refine dk ?_;refine dM 11 13 ?_ ?_
    ·refine oC ?_;refine Be (hW _ F8) fun s _=>?_;refine dk ?_;refine dt 12 ?_;refine dN 13 ?_;apply Ci;rfl;intro _;refine dk ?_;refine dN 14 ?_;refine oS ?_;refine dk ?_;refine dd ?_;refine Bh (⟨_,b1,d1,G1,s⟩:OwN) trivial
    ·apply Ci;rfl;intro _;exact CS
   ·apply Ci;rfl;intro _;refine dk ?_;refine dN 10 ?_;refine oC ?_;refine Be (Sr n.Ab.Aa _ F2 hS.t0 hS.t1 EV) fun y _=>?_;refine J0 ?_;rintro a9 c9 F9 e9 l9;rw [e9];refine Av (xs:=n.Ab.Aa.Ak) fun F8=>?_;refine Cn n.Ab.Aa (a1:=a9) ?_;exact CS
  ·apply Ci;rfl;intro _;refine dk ?_;refine dN 3 ?_;refine oC ?_;refine cn (fun w st=>Yp _ n.Ap.Ad F1 w (st.get (p:=.sl _ _ _ _) FA).2 EV) fun b1 d1 G1=>?_;refine dk ?_;refine dt 4 ?_;refine dN 10 ?_;refine oC ?_;refine Be (Sr n.Ab.Aa _ F2 hS.t0 hS.t1 EV) fun y _=>?_;refine J0 ?_;rintro a9 c9 F9 e9 l9;rw [e9];refine Av (xs:=n.Ab.Aa.Ak) fun F8=>?_;refine Cn n.Ab.Aa (a1:=a9) ?_;refine dk ?_;refine dN 11 ?_;refine oC ?_;refine Be (hW _ F8) fun s _=>?_;refine dk ?_;refine dt 12 ?_;refine dN 14 ?_;refine oS ?_;refine dk ?_;refine dd ?_
   refine Bh (⟨_,b1,d1,G1,s⟩:OwN) trivial
 refine Cj Ch 122 ?_;refine Cj B9 76 ?_;refine Cj (Kl Al 141) 125 ?_;refine Cj (Kl Al 141) 125 ?_;refine go ?_
 refine Ca [1,2,3] (fun y:OwK=>[(4,aa (y.k:Nat))]) (fun y=>[.row w.g 37 0 [] [ab w.a1 n.Ap.Ad.length w.c1,aa (n.Ab).Aa.Am,aa (n.Ab).Aa.size,.slice w.s.a (n.Ab).Aa.Ak.length w.s.c,aa (n.Ab).Ai,aa (n.Ab).quiet,.slice w.s.a2 (n.Ab).holds.length w.s.c2,.slice y.a4 (n.Af.take y.k).length y.c4,.slice y.a5 (n.Ac.take y.k).length y.c5,.slice y.a6 (n.down.take y.k).length y.c6,.slice y.a7 (n.up.take y.k).length y.c7] [],.ow Ch 122 (.slice y.a4 (n.Af.take y.k).length y.c4) (n.Af.take y.k) y.F4,.ow B9 76 (.slice y.a5 (n.Ac.take y.k).length y.c5) (n.Ac.take y.k) y.F5,.ow (Kl Al 141) 125 (.slice y.a6 (n.down.take y.k).length y.c6) (n.down.take y.k) y.F6,.ow (Kl Al 141) 125 (.slice y.a7 (n.up.take y.k).length y.c7) (n.up.take y.k) y.F7]) (fun y=>y.k<=n.Af.length) (fun y=>n.Af.length - y.k) ⟨0,none,0,[],none,0,[],none,0,[],none,0,[]⟩ (aE _) fun y hy=>?_
 refine go ?_;refine A1 rfl (fun h1=>?_) (fun h1=>?_)
 ·have hk:y.k < n.Af.length:=EV
  have hk5:y.k < n.Ac.length:=EV
  have hk6:y.k < n.down.length:=EV
  have hk7:y.k < n.up.length:=EV
  have t4:(n.Af.take y.k).length<=8:=GA
  have t5:(n.Ac.take y.k).length<=8:=GA
  have t6:(n.down.take y.k).length<=8:=GA
  have t7:(n.up.take y.k).length<=8:=GA
  have hge:=g1 _ (aB hk);have hel:=(Hb.1 hge).2.1;have hgr:=Ej.1 (g2 _ (aB hk5));have hrs:=(Ks hgr.w).1;have hrq:=(Di.1 hgr.q).2.1;have hd6:=(C5 (g3 _ (aB hk6))).1;have hu6:=(C5 (g4 _ (aB hk7))).1;refine N3 (xs:=n.Af) y.k ?_;rintro hi4 b4 o4 a8 c8 F8 e4 l8;rw [e4];refine Ex n.Af[y.k] ?_;dsimp only [List.append];refine go ?_;refine Ar [1,3,11] [11] ?_;refine C8 0 1 2 3 ?_;refine Dg 4 5 ?_;refine dt 6 ?_;refine dN 7 ?_;refine oC ?_
  refine cv (fun w2 st=>Xq _ n.Af[y.k] F8 w2 (st.get (p:=.isv _ _ _ _) FA) EV (fun x hx=>by have:=Pe hge hx;omega)) fun v9 F9=>?_;refine H8 (x:=n.Af[y.k]) ?_;rintro a9 c9 F10 rfl l9;refine Gt n.Af[y.k] ?_;refine dk ?_;refine dN 8 ?_;apply Iz;rfl;rfl;rfl;rfl;exact Ir;exact Io;intro _;refine dk ?_;refine dN 9 ?_;refine Ab7 R7 n.Af[y.k] rfl fun x4 d4 G4=>?_;refine dk ?_;refine dt 10 ?_;refine dN 11 ?_;refine oS ?_;refine N2 ?_;refine dd ?_;rw [<-aR hk];refine Jc (xs:=n.Ac) y.k ?_;rintro hi5 b5 o5 a11 c11 F11 a12 c12 F12 e5 l11 l12;rw [e5]
  refine Dy n.Ac[y.k] ?_;dsimp only [List.append];refine go ?_;refine Ar [1,8,15] [11] ?_;refine C8 0 1 2 3 ?_;refine Dg 4 5 ?_;refine dt 6 ?_;refine dN 7 ?_;refine oC ?_;refine Be (Tc n.Ac[y.k] _ _ EV EV) fun s9 _=>?_;refine Is (x:=n.Ac[y.k]) ?_;rintro a9 c9 G9 a10 c10 G10 e9 l9 l10;rw [e9];refine Kn n.Ac[y.k] ?_;refine dk ?_;refine dN 8 ?_;apply Iz;rfl;rfl;rfl;rfl;exact Ir;exact Io;intro _;refine dk ?_;refine dN 9 ?_;refine Ab7 Qw n.Ac[y.k] rfl fun x5 d5 G5=>?_;refine dk ?_;refine dt 10 ?_;refine dN 11 ?_;refine oS ?_;refine N2 ?_;refine dd ?_
  rw [<-aR hk5];refine Mf (E:=Al) (hz:=EW) (xs:=n.down) y.k ?_;rintro hi6 b6 o6 a13 c13 F13 e6 l13;rw [e6];refine go ?_;refine Ar [0,11,17] [12] ?_;refine C8 0 1 3 4 ?_;refine Dg 5 6 ?_;refine dt 7 ?_;refine dN 2 ?_;apply Kj;rfl;intro _;refine C1 Al ?_;refine dk ?_;refine dN 8 ?_;refine Nm Ho Jp fun a9 c9 F9=>?_;rw [aZ];refine Ko n.down[y.k] ?_;refine dk ?_;refine dN 9 ?_;apply Iz;rfl;rfl;rfl;rfl;exact Ir;exact Io;intro _;refine dk ?_;refine dN 10 ?_;refine Ab7 (U0) n.down[y.k] rfl fun x6 d6 G6=>?_;refine dk ?_;refine dt 11 ?_;refine dN 12 ?_
  refine oS ?_;refine N2 ?_;refine dd ?_;rw [<-aR hk6];refine Mf (E:=Al) (hz:=EW) (xs:=n.up) y.k ?_;rintro hi7 b7 o7 a14 c14 F14 e7 l14;rw [e7];refine go ?_;refine Ar [0,14,19] [12] ?_;refine C8 0 1 3 4 ?_;refine Dg 5 6 ?_;refine dt 7 ?_;refine dN 2 ?_;apply Kj;rfl;intro _;refine C1 Al ?_;refine dk ?_;refine dN 8 ?_;refine Nm Ho Jp fun a9 c9 F9=>?_;rw [aZ];refine Ko n.up[y.k] ?_;refine dk ?_;refine dN 9 ?_;apply Iz;rfl;rfl;rfl;rfl;exact Ir;exact Io;intro _;refine dk ?_;refine dN 10 ?_;refine Ab7 (U0) n.up[y.k] rfl fun x7 d7 G7=>?_;refine dk ?_
  refine dt 11 ?_;refine dN 12 ?_;refine oS ?_;refine N2 ?_;refine dd ?_;rw [<-aR hk7];refine go ?_;refine Cb ⟨y.k+1,x4,d4,G4,x5,d5,G5,x6,d6,G6,x7,d7,G7⟩ hk (by show n.Af.length - (y.k+1) < n.Af.length - y.k;omega)
 ·rw [show n.Af.take y.k=n.Af from aW EV,show n.Ac.take y.k=n.Ac from aW EV,show n.down.take y.k=n.down from aW EV,show n.up.take y.k=n.up from aW EV];refine go ?_;refine ret (⟨w,y⟩:OwN × OwK) trivial rfl
end Go.Proofs.YtkoldibamfjghaaGreatDoor
namespace Go.Proofs.YtkoldibamfjghaaGreatDoor
open Go.RowKit
open Go.RowKit
theorem Aiw {α:Type} {O R:Bw α} (hW:Mu O R) {w:World}:∀{xs:List α} {cs:am} {G:aq},Cw O w cs xs G->∃G',(∀b∈G',b∈G)/\Cw R w cs xs G'
 | [],_,_,h=>⟨[],EX,h.1,rfl⟩
 | x::r,_,_,h=>by
  obtain ⟨c1,c2,F1,F2,rfl,rfl,h1,h2⟩:=h;obtain ⟨G1,s1,r1⟩:=hW.Kz h1;obtain ⟨G2,s2,r2⟩:=Aiw hW h2;exact ⟨G1++G2,fun b hb=>by rcases aJ.1 hb with hb|hb;simp [s1 b hb];simp [s2 b hb],c1,c2,G1,G2,rfl,rfl,r1,r2⟩
theorem Lj.skip {x:Pc}:∀{B A:List Pc},Lj A B->Lj (x::A) B
 | _,_,.nil=>.nil
 | _,_,.cons hp hr=>.cons (.there hp) hr.skip
theorem Lj.all:∀A:List Pc,Lj A A
 | []=>.nil
 | _::A=>.cons .here (Lj.all A)
section
variable {c:Cx} {fr:Fr} {H:List Pc} {Φ:Gl}
theorem Ae2 {α:Type} {O R:Bw α} (hW:Mu O R) {cs:am} {xs:List α} {G:aq} {S:List Pc} (h:∀G',T c fr (.isv (EA R xs.length) (.agg cs.toArray) xs G'::S) Φ) (hp:C2 H (.flat O cs xs G) S:=by exact Dr):T c fr H Φ:=.mk fun a w s g=>by
 have s1:=s.pick hp;obtain ⟨-,ho⟩:=s1.on (.flat O cs xs G) EX;obtain ⟨G',hG,hf⟩:=Aiw hW ho;exact (h G').h a w (s1.conv rfl ⟨_,rfl,rfl,hf⟩ hG) g
theorem Zw (m:Dt) {l:ar} {N:Nat} (hT:m.Ap.Ad=l) (hN:N=l.length) (hl:Lp m=true) {a1 a2 a3 a4 a5 a6 a7:aj} {c1 c2 c3 c4 c5 c6 c7:Nat} {F1 FS F4 G4 F5 G5 F6 G6 F7 G7:aq} {ys4 ys5 ys6 ys7:List (am)} (h4:ys4.length=N) (h5:ys5.length=N) (h6:ys6.length=N) (h7:ys7.length=N)
  (h:∀F,T c fr (.isv Oi (.agg #[ab a1 N c1,aa m.Ab.Aa.Am,aa m.Ab.Aa.size,ab a2 m.Ab.Aa.Ak.length c2,aa m.Ab.Ai,aa m.Ab.quiet,ab a3 m.Ab.holds.length c3,ab a4 N c4,ab a5 N c5,ab a6 N c6,ab a7 N c7]) m F::H) Φ) (p1:.sl Bb (ab a1 N c1) l F1∈H:=by exact Bn) (p2:.isv El (.agg #[aa m.Ab.Aa.Am,aa m.Ab.Aa.size,ab a2 m.Ab.Aa.Ak.length c2,aa m.Ab.Ai,aa m.Ab.quiet,ab a3 m.Ab.holds.length c3]) m.Ab FS∈H:=by exact Bn) (p4:.sl (EC 2) (ab a4 N c4) ys4 F4∈H:=by exact Bn) (q4:.isv (EA (Bv) N) (.agg ys4.flatten.toArray) m.Af G4∈H:=by exact Bn) (p5:.sl (EC 5) (ab a5 N c5) ys5 F5∈H:=by exact Bn) (q5:.isv (EA (Bz) N) (.agg ys5.flatten.toArray) m.Ac G5∈H:=by exact Bn) (p6:.sl (EC 1) (ab a6 N c6) ys6 F6∈H:=by exact Bn) (q6:.isv (EA (Oc Al EW) N) (.agg ys6.flatten.toArray) m.down G6∈H:=by exact Bn) (p7:.sl (EC 1) (ab a7 N c7) ys7 F7∈H:=by exact Bn) (q7:.isv (EA (Oc Al EW) N) (.agg ys7.flatten.toArray) m.up G7∈H:=by exact Bn):T c fr H Φ:=by
 obtain ⟨e1,e2,e3,e4⟩:=Bk.1 hl;subst hT hN;refine Gn (hm:=p2) ?_;rintro b2 d2 F2 b3 d3 F3 ev - -;have ev2:=ev;simp only [Value.agg.injEq,Array.mk.injEq,List.cons.injEq,Value.slice.injEq,cJ,cK] at ev2;obtain ⟨⟨rfl,rfl⟩,rfl,rfl⟩:=ev2;refine P0 (E:=Bv) (xs:=m.Af) rfl EV rfl (fun F8=>?_) (.tail _ (.tail _ p4)) (.tail _ (.tail _ q4));refine P0 (E:=Bz) (xs:=m.Ac) rfl EV rfl (fun F9=>?_) (.tail _ (.tail _ (.tail _ p5))) (.tail _ (.tail _ (.tail _ q5)))
 refine P0 (E:=Oc Al EW) (xs:=m.down) rfl EV rfl (fun F10=>?_) (.tail _ (.tail _ (.tail _ (.tail _ p6)))) (.tail _ (.tail _ (.tail _ (.tail _ q6))));refine P0 (E:=Oc Al EW) (xs:=m.up) rfl EV rfl (fun F11=>?_) (.tail _ (.tail _ (.tail _ (.tail _ (.tail _ p7))))) (.tail _ (.tail _ (.tail _ (.tail _ (.tail _ q7)))))
 refine E5 m (a1:=a1) (c1:=c1) (F1:=F1) (a2:=a2) (c2:=c2) (F2:=F2) (a3:=a3) (c3:=c3) (F3:=F3) (a4:=a4) (c4:=c4) (F4:=F8) (a5:=a5) (c5:=c5) (F5:=F9) (a6:=a6) (c6:=c6) (F6:=F10) (a7:=a7) (c7:=c7) (F7:=F11) ?_ (.tail _ (.tail _ (.tail _ (.tail _ (.tail _ (.tail _ p1)))))) (.tail _ (.tail _ (.tail _ (.tail _ (.head _))))) (.tail _ (.tail _ (.tail _ (.tail _ (.tail _ (.head _)))))) (by rw [e1];exact .tail _ (.tail _ (.tail _ (.head _)))) (by rw [e2];exact .tail _ (.tail _ (.head _))) (by rw [e3];exact .tail _ (.head _)) (by rw [e4];exact .head _);rw [e1,e2,e3,e4]
 exact Bg1 _ (h _) (.cons .here (Lj.skip (Lj.skip (Lj.skip (Lj.skip (Lj.skip (Lj.skip (Lj.all H))))))))
end
end Go.Proofs.YtkoldibamfjghaaGreatDoor
namespace Go.Proofs.YtkoldibamfjghaaGreatDoor
open Go.RowKit
theorem Uw (n:Dt) (s:Jh) (v:Value) (F FT:aq) (hss:s.data.size<=maxLen) (g1:At n=true) (g2:Do s=true):Fn prog 87 [v,.agg #[aa s.Cq,aa s.node,af s.data]] [.isv Oi v n F,Gk FT] [] (fun (_:StZ)=>True) (fun z=>.tuple #[.agg z.cs.toArray,.slice z.a (Bi n s).2.1.length z.c,.bool (Bi n s).2.2]) (fun z=>[.isv Oi (.agg z.cs.toArray) (Bi n s).1 z.F,.ow A8 9 (.slice z.a (Bi n s).2.1.length z.c) (Bi n s).2.1 z.Fe]):=by
 have hG:=Ax.1 g1;have h8:=Hi hG.t;have hn8:=h8.n1;have hn2:=h8.n0;obtain ⟨q1,q2,q3,q4⟩:=Bk.1 hG.l;have hkl:=Uv n.Ap.Ad 0;have hkx:∀x∈Iq n.Ap.Ad 0,0<=x/\x.toNat < n.down.length:=fun x hx=>by have:=Ln (i:=0) h8 hx;omega
 have hd6:∀q∈n.down,q.length<=6:=fun q hq=>(C5 ((Hx g1).2.2.1 q hq)).1;have hck:=X7 hG.s;refine enter func87 rfl ntmps87 fun w0=>?_;refine Fb ?_;rintro a1 c1 F1 a2 c2 F2 a3 c3 F3 a4 c4 F4 a5 c5 F5 a6 c6 F6 a7 c7 F7 rfl l1 l2 l3 l4 l5 l6 l7;refine go ?_;intros;refine Be (Am5 n _ F g1) fun z _=>?_;obtain ⟨w,y⟩:=z;dsimp only;refine Av (E:=Bb) (xs:=n.Ap.Ad) fun Ft=>?_;refine Adb (E:=Ch) (xs:=n.Af) R7 (m:=2) rfl fun ye Fe Ge he1 he2=>?_;refine Ae2 (R:=Bv) (xs:=n.Af) Kh fun He=>?_;refine Adb (E:=B9) (xs:=n.Ac) Qw (m:=5) rfl fun yr Fr Gr hr1 hr2=>?_;refine Ae2 (R:=Bz) (xs:=n.Ac) Qy fun Hr=>?_
 refine Adb (E:=Kl Al 141) (xs:=n.down) U0 (m:=1) rfl fun yd Fd Gd hd1 hd2=>?_;refine Ae2 (R:=Oc Al EW) (xs:=n.down) (P2 (Mu.refl Al) EW _) fun Hd=>?_;refine Adb (E:=Kl Al 141) (xs:=n.up) U0 (m:=1) rfl fun yu Fu Gu hu1 hu2=>?_;refine Ae2 (R:=Oc Al EW) (xs:=n.up) (P2 (Mu.refl Al) EW _) fun Hu=>?_;rw [q1,q2,q3,q4];refine Jw n.Ap (a1:=w.a1) ?_;refine go ?_;intros;refine A1 rfl (fun h1=>?_) (fun h1=>?_)
 ·have e1:Bl n s=some (Ag3 n s.data,[]):=by unfold Bl;rw [aH h1]
  have hgm:=Mn g1 g2 e1;rw [show Bi n s=(Ag3 n s.data,[],true) by unfold Bi;rw [g1,g2,e1];rfl];refine go ?_;refine Be (Atv n.Ab s.data _ _ hG.s hss) fun u _=>?_;refine go ?_;intros;refine Ar [0,3] [] ?_;refine C8 0 1 2 4 ?_;refine dM 3 5 ?_ ?_
  ·refine oC ?_;refine Be (Pt n.Ap 0 _ Ft (Sp h8.z (gG _)) ⟨EV,EV⟩) fun v _=>?_;refine Av (E:=Bb) (xs:=Iq n.Ap.Ad 0) fun Fk=>?_;refine dk ?_;refine dN 5 ?_;apply Iz;rfl;rfl;rfl;rfl;exact Ir;exact Io;intro _;refine Eh (E:=Al) (xs:=[Dv n.Ab.Aa s.data]) (De (Dv n.Ab.Aa s.data) hss) ?_ EX;refine Av (E:=Al) (xs:=[Dv n.Ab.Aa s.data]) fun Fp=>?_;refine dk ?_;refine dN 6 ?_;refine oC ?_;refine Be (Nv n.down (Iq n.Ap.Ad 0) [Dv n.Ab.Aa s.data] _ _ _ _ _ _ _ _ _ _ _ _ _ _ _ _ _ _ _ _ _ _ _ _ _ yd Fd Hd _ _ Fk _ _ Fp hkx hd6) fun x _=>?_;refine dk ?_;refine dd ?_
   refine go ?_;intros;refine C1 A8 ?_;refine go ?_;refine Fm (ys:=ye) fun _ w4=>?_;refine Fm (ys:=yr) fun _ w5=>?_;refine Fm (ys:=x.ys) fun _ w6=>?_;refine Fm (ys:=yu) fun _ w7=>?_;refine Av (E:=EC 2) (xs:=ye) fun _=>?_;refine Av (E:=EC 5) (xs:=yr) fun _=>?_;refine Av (E:=EC 1) (xs:=x.ys) fun _=>?_;refine Av (E:=EC 1) (xs:=yu) fun _=>?_;refine Zw (Ag3 n s.data) (l:=n.Ap.Ad) (N:=n.Ap.Ad.length) rfl rfl (Ax.1 hgm).l w4 w5 w6 w7 (a1:=w.a1) (c1:=w.c1) (a2:=u.a) (c2:=u.c) (a3:=u.a2) (c3:=u.c2) (a4:=y.a4) (c4:=y.c4) (a5:=y.a5) (c5:=y.c5) (a6:=y.a6) (c6:=y.c6) (a7:=y.a7) (c7:=y.c7) fun FN=>?_
   exact CT
  ·apply Iz;rfl;rfl;rfl;rfl;exact Ir;exact Io;intro _;refine Eh (E:=Al) (xs:=[Dv n.Ab.Aa s.data]) (De (Dv n.Ab.Aa s.data) hss) ?_ EX;refine Av (E:=Al) (xs:=[Dv n.Ab.Aa s.data]) fun Fp=>?_;refine dk ?_;refine dN 3 ?_;refine oC ?_;refine Be (Pt n.Ap 0 _ Ft (Sp h8.z (gG _)) ⟨EV,EV⟩) fun v _=>?_;refine Av (E:=Bb) (xs:=Iq n.Ap.Ad 0) fun Fk=>?_;refine dk ?_;refine dN 6 ?_;refine oC ?_;refine Be (Nv n.down (Iq n.Ap.Ad 0) [Dv n.Ab.Aa s.data] _ _ _ _ _ _ _ _ _ _ _ _ _ _ _ _ _ _ _ _ _ _ _ _ _ yd Fd Hd _ _ Fk _ _ Fp hkx hd6) fun x _=>?_;refine dk ?_;refine dd ?_
   refine go ?_;intros;refine C1 A8 ?_;refine go ?_;refine Fm (ys:=ye) fun _ w4=>?_;refine Fm (ys:=yr) fun _ w5=>?_;refine Fm (ys:=x.ys) fun _ w6=>?_;refine Fm (ys:=yu) fun _ w7=>?_;refine Av (E:=EC 2) (xs:=ye) fun _=>?_;refine Av (E:=EC 5) (xs:=yr) fun _=>?_;refine Av (E:=EC 1) (xs:=x.ys) fun _=>?_;refine Av (E:=EC 1) (xs:=yu) fun _=>?_;refine Zw (Ag3 n s.data) (l:=n.Ap.Ad) (N:=n.Ap.Ad.length) rfl rfl (Ax.1 hgm).l w4 w5 w6 w7 (a1:=w.a1) (c1:=w.c1) (a2:=u.a) (c2:=u.c) (a3:=u.a2) (c3:=u.c2) (a4:=y.a4) (c4:=y.c4) (a5:=y.a5) (c5:=y.c5) (a6:=y.a6) (c6:=y.c6) (a7:=y.a7) (c7:=y.c7) fun FN=>?_
   exact CT
 refine go ?_;refine A1 rfl (fun h4=>?_) (fun h4=>?_)
 ·refine go ?_;refine A1 rfl (fun hc=>?_) (fun hc=>?_)
  ·have e1:Bl n s=none:=by unfold Bl;rw [aC h1,aH h4,aH hc]
   rw [show Bi n s=(Sh,[],false) by unfold Bi;rw [g1,g2,e1];rfl];exact AB
  ·have e1:Bl n s=some (Gj n):=by unfold Bl;rw [aC h1,aH h4,aC hc]
   have hgm:=Mn g1 g2 e1;rw [show Bi n s=((Gj n).1,(Gj n).2,true) by unfold Bi;rw [g1,g2,e1];rfl];refine go ?_;refine Be (At4 n w.a1 w.c1 y.a4 y.c4 y.a5 y.c5 y.a6 y.c6 y.a7 y.c7 w.s.a w.s.a2 w.s.c w.s.c2 Ft w.s.F FT ⟨⟨ye,Fe,He⟩,⟨yr,Fr,Hr⟩,⟨yd,Fd,Hd⟩,⟨yu,Fu,Hu⟩⟩ g1 EV) fun x _=>?_;refine go ?_;intros;refine Fm (ys:=x.1.e.ys) fun _ w4=>?_;refine Fm (ys:=x.1.r.ys) fun _ w5=>?_;refine Fm (ys:=x.1.d.ys) fun _ w6=>?_;refine Fm (ys:=x.1.u.ys) fun _ w7=>?_;refine Av (E:=EC 2) (xs:=x.1.e.ys) fun _=>?_;refine Av (E:=EC 5) (xs:=x.1.r.ys) fun _=>?_;refine Av (E:=EC 1) (xs:=x.1.d.ys) fun _=>?_
   refine Av (E:=EC 1) (xs:=x.1.u.ys) fun _=>?_;refine Zw ((Gj n).1) (l:=n.Ap.Ad) (N:=n.Ap.Ad.length) (congrArg Q0.Ad (Sv e1)) rfl (Ax.1 hgm).l w4 w5 w6 w7 (a1:=w.a1) (c1:=w.c1) (a2:=x.2.1.a) (c2:=x.2.1.c) (a3:=x.2.1.a2) (c3:=x.2.1.c2) (a4:=y.a4) (c4:=y.c4) (a5:=y.a5) (c5:=y.c5) (a6:=y.a6) (c6:=y.c6) (a7:=y.a7) (c7:=y.c7) fun FN=>?_;exact CT
 have htk0:Bl n s=C4 n s:=by unfold Bl;rw [aC h1,aC h4]
 have hf:Ol s.node=true:=by
  have:=g2;unfold Do at this;rw [aC h1,aC h4] at this;simp only [aw] at this;exact this.1.2
 obtain ⟨f1,f2⟩:=Nb.1 hf;obtain ⟨i,hi⟩:∃i:Nat,s.node=((i:Nat):Int):=⟨s.node.toNat,EV⟩;have i0:i≠0:=EV
 rw [hi];by_cases k5:s.Cq=5
 ·have hu:Wu s=true:=by unfold Wu;rw [av k5];rfl
  have hq:∀h:i < n.up.length,T8 n s=n.up[i]:=fun h=>by unfold T8;rw [hu,aH rfl,hi,bc];exact Pq h []
  have hpo:Gm n s=Og n i:=ID
  refine go ?_;refine Dc rfl rfl (fun g5=>?_) (fun g5=>?_)
  rotate_left
  ·exact absurd k5 g5
  refine go ?_;refine Dc rfl rfl (fun h6=>?_) (fun h6=>?_)
  ·have e1:C4 n s=none:=by unfold C4;rw [aH EV]
   exact BG
  have hil:i < n.up.length:=EV
  have hq:=hq hil;refine Fm (ys:=yu) fun hm hlr=>?_;refine Ag4 (ys:=yu) (xs:=n.up) i hm EV EV fun h9 _ Gq=>?_;refine Acl (x:=n.up[i]) fun a9 c9 e9 l9=>?_;have e10:yu[i]=[.slice a9 n.up[i].length c9]:=JL
  refine Rm (E:=EC 1) (xs:=yu) (m:=1) (Ib 1) i ?_ EZ rfl h9;rintro _ gq Aq cs Bq ea j2 j3 hHq;rw [ea];obtain ⟨j4, -, -⟩:=j3 w0;rw [e10] at j4;subst j4;refine go ?_;refine A1 rfl (fun h7=>?_) (fun h7=>?_)
  ·have e1:C4 n s=none:=IG
   exact BG
  have h0:0 < n.up[i].length:=EV
  refine Oj (xs:=n.up[i]) 0 ?_;rintro hi3 b3 o3 e3 s3;rw [e3];refine go ?_;intros;refine Ar [2,17] [10] ?_;refine C8 0 1 2 3 ?_;refine C8 4 5 6 7 ?_;refine dN 8 ?_;refine sld 1 fun a8 c8 F8=>?_;refine dk ?_;refine dt 9 ?_;refine dN 10 ?_;refine oS ?_;refine N2 ?_;refine dd ?_;refine P5 (E:=EC 1) (xs:=yu) [.slice a8 (n.up[i].drop 1).length c8] hHq (fun _=>⟨rfl,⟨rfl,FJ⟩,rfl⟩) ?_;refine Aae (E:=Al) (x:=n.up[i].drop 1) EW ?_;refine Qq (E:=Oc Al EW) (ys:=yu) (xs:=n.up) (x:=n.up[i].drop 1) i rfl hm EV fun Gv=>?_
  rw [<-ea,show n.up.set i (n.up[i].drop 1)=(Og n i).up from (Ic EV).symm];have hmem:=Oo h0;have hpk:Bo (Nf n.up[i])=true:=M7 (hq▸(Mj (s:=s) g1).1) hmem;have hpz:(Nf n.up[i]).data.size<=maxLen:=by
   exact BH
  have hgp:At (Og n i)=true:=hpo▸Lr g1;have hGp:=Ax.1 hgp;have hPg:=Xz h0;rw [<-hPg];generalize hP:Nf n.up[i]=P at *;have htk:C4 n s=some (Qb (Og n i) i P,[]):=by
   unfold C4;rw [aC EV,hq,aC EV,hpo,hP,hi,bc];rw [aC EV,aH k5]
  have hgm:=Mn g1 g2 (htk0.trans htk);rw [show Bi n s=(Qb (Og n i) i P,[],true) by unfold Bi;rw [g1,g2,htk0,htk];rfl];refine go ?_;refine A1 rfl (fun k2=>?_) (fun k2=>?_)
  ·exact absurd k2 EV
  refine go ?_;refine A1 rfl (fun m5=>?_) (fun m5=>?_)
  rotate_left
  ·exact absurd k5 m5
  have hdp:∀q∈(Og n i).down,q.length<=6:=fun q hq=>(C5 ((Hx hgp).2.2.1 q hq)).1;have hup:∀q∈(Og n i).up,q.length<=6:=fun q hq=>(C5 ((Hx hgp).2.2.2 q hq)).1;refine go ?_;refine Be (Bbt (Og n i) i P w.a1 w.c1 y.a4 y.c4 y.a5 y.c5 y.a6 y.c6 y.a7 y.c7 w.s.a w.s.a2 w.s.c w.s.c2 Ft w.s.F ⟨⟨ye,Fe,He⟩,⟨yr,Fr,Hr⟩,⟨yd,Fd,Hd⟩,⟨yu.set i [.slice a8 (n.up[i].drop 1).length c8],[gq],Gv⟩⟩ hGp.l i0 IB (Hi hGp.t) hGp.s (fun k hk hkl hl=>by obtain ⟨x1,x2,x3,x4,r⟩:=hGp.rn (i:=k) hkl;rw [Js x1];exact (r.hn hk hl).1) hpk hpz hdp hup) fun x _=>?_;refine go ?_;intros;refine C1 A8 ?_
  refine go ?_;refine Fm (ys:=x.1.e.ys) fun _ w4=>?_;refine Fm (ys:=x.1.r.ys) fun _ w5=>?_;refine Fm (ys:=x.1.d.ys) fun _ w6=>?_;refine Fm (ys:=x.1.u.ys) fun _ w7=>?_;refine Av (E:=EC 2) (xs:=x.1.e.ys) fun _=>?_;refine Av (E:=EC 5) (xs:=x.1.r.ys) fun _=>?_;refine Av (E:=EC 1) (xs:=x.1.d.ys) fun _=>?_;refine Av (E:=EC 1) (xs:=x.1.u.ys) fun _=>?_
  refine Zw (Qb (Og n i) i P) (l:=n.Ap.Ad) (N:=n.Ap.Ad.length) (congrArg Q0.Ad (Sv (htk0.trans htk))) rfl (Ax.1 hgm).l w4 w5 w6 w7 (a1:=w.a1) (c1:=w.c1) (a2:=x.2.a) (c2:=x.2.c) (a3:=x.2.a2) (c3:=x.2.c2) (a4:=y.a4) (c4:=y.c4) (a5:=y.a5) (c5:=y.c5) (a6:=y.a6) (c6:=y.c6) (a7:=y.a7) (c7:=y.c7) fun FN=>?_;exact CT
 by_cases k6:s.Cq=6
 ·have hu:Wu s=true:=by unfold Wu;rw [av k6,gD]
  have hq:∀h:i < n.up.length,T8 n s=n.up[i]:=fun h=>by unfold T8;rw [hu,aH rfl,hi,bc];exact Pq h []
  have hpo:Gm n s=Og n i:=ID
  refine go ?_;refine Dc rfl rfl (fun g5=>?_) (fun g5=>?_)
  ·exact absurd g5 EV
  refine go ?_;refine A1 rfl (fun g6=>?_) (fun g6=>?_)
  rotate_left
  ·exact absurd k6 g6
  refine go ?_;refine Dc rfl rfl (fun h6=>?_) (fun h6=>?_)
  ·have e1:C4 n s=none:=by unfold C4;rw [aH EV]
   exact BG
  have hil:i < n.up.length:=EV
  have hq:=hq hil;refine Fm (ys:=yu) fun hm hlr=>?_;refine Ag4 (ys:=yu) (xs:=n.up) i hm EV EV fun h9 _ Gq=>?_;refine Acl (x:=n.up[i]) fun a9 c9 e9 l9=>?_;have e10:yu[i]=[.slice a9 n.up[i].length c9]:=JL
  refine Rm (E:=EC 1) (xs:=yu) (m:=1) (Ib 1) i ?_ EZ rfl h9;rintro _ gq Aq cs Bq ea j2 j3 hHq;rw [ea];obtain ⟨j4, -, -⟩:=j3 w0;rw [e10] at j4;subst j4;refine go ?_;refine A1 rfl (fun h7=>?_) (fun h7=>?_)
  ·have e1:C4 n s=none:=IG
   exact BG
  have h0:0 < n.up[i].length:=EV
  refine Oj (xs:=n.up[i]) 0 ?_;rintro hi3 b3 o3 e3 s3;rw [e3];refine go ?_;intros;refine Ar [2,17] [10] ?_;refine C8 0 1 2 3 ?_;refine C8 4 5 6 7 ?_;refine dN 8 ?_;refine sld 1 fun a8 c8 F8=>?_;refine dk ?_;refine dt 9 ?_;refine dN 10 ?_;refine oS ?_;refine N2 ?_;refine dd ?_;refine P5 (E:=EC 1) (xs:=yu) [.slice a8 (n.up[i].drop 1).length c8] hHq (fun _=>⟨rfl,⟨rfl,FJ⟩,rfl⟩) ?_;refine Aae (E:=Al) (x:=n.up[i].drop 1) EW ?_;refine Qq (E:=Oc Al EW) (ys:=yu) (xs:=n.up) (x:=n.up[i].drop 1) i rfl hm EV fun Gv=>?_
  rw [<-ea,show n.up.set i (n.up[i].drop 1)=(Og n i).up from (Ic EV).symm];have hmem:=Oo h0;have hpk:Bo (Nf n.up[i])=true:=M7 (hq▸(Mj (s:=s) g1).1) hmem;have hpz:(Nf n.up[i]).data.size<=maxLen:=by
   exact BH
  have hgp:At (Og n i)=true:=hpo▸Lr g1;have hGp:=Ax.1 hgp;have hPg:=Xz h0;rw [<-hPg];generalize hP:Nf n.up[i]=P at *;have htk:C4 n s=some (Og n i,[]):=by
   unfold C4;rw [aC EV,hq,aC EV,hpo,hP,hi,bc];rw [aC EV,aC EV]
  have hgm:=Mn g1 g2 (htk0.trans htk);rw [show Bi n s=(Og n i,[],true) by unfold Bi;rw [g1,g2,htk0,htk];rfl];refine go ?_;refine A1 rfl (fun k2=>?_) (fun k2=>?_)
  ·exact absurd k2 EV
  refine go ?_;refine A1 rfl (fun m5=>?_) (fun m5=>?_)
  ·exact absurd m5 EV
  refine go ?_;intros;refine C1 A8 ?_;refine go ?_;refine Fm (ys:=ye) fun _ w4=>?_;refine Fm (ys:=yr) fun _ w5=>?_;refine Fm (ys:=yd) fun _ w6=>?_;refine Fm (ys:=(yu.set i [.slice a8 (n.up[i].drop 1).length c8])) fun _ w7=>?_;refine Av (E:=EC 2) (xs:=ye) fun _=>?_;refine Av (E:=EC 5) (xs:=yr) fun _=>?_;refine Av (E:=EC 1) (xs:=yd) fun _=>?_;refine Av (E:=EC 1) (xs:=(yu.set i [.slice a8 (n.up[i].drop 1).length c8])) fun _=>?_
  refine Zw (Og n i) (l:=n.Ap.Ad) (N:=n.Ap.Ad.length) rfl rfl (Ax.1 hgm).l w4 w5 w6 w7 (a1:=w.a1) (c1:=w.c1) (a2:=w.s.a) (c2:=w.s.c) (a3:=w.s.a2) (c3:=w.s.c2) (a4:=y.a4) (c4:=y.c4) (a5:=y.a5) (c5:=y.c5) (a6:=y.a6) (c6:=y.c6) (a7:=y.a7) (c7:=y.c7) fun FN=>?_;exact CT
 have hu:Wu s=false:=by unfold Wu;rw [ay k5,ay k6];rfl
 have hq:∀h:i < n.down.length,T8 n s=n.down[i]:=fun h=>by unfold T8;rw [hu,aC EW,hi,bc];exact Pq h []
 have hpo:Gm n s=Ql n i:=by unfold Gm;rw [hu,aC EW,hi,bc]
 refine go ?_;refine Dc rfl rfl (fun g5=>?_) (fun g5=>?_)
 ·exact absurd g5 k5
 refine go ?_;refine A1 rfl (fun g6=>?_) (fun g6=>?_)
 ·exact absurd g6 k6
 refine go ?_;refine Dc rfl rfl (fun h6=>?_) (fun h6=>?_)
 ·have e1:C4 n s=none:=by unfold C4;rw [aH EV]
  exact BG
 have hil:i < n.down.length:=EV
 have hq:=hq hil;refine Fm (ys:=yd) fun hm hlr=>?_;refine Ag4 (ys:=yd) (xs:=n.down) i hm EV EV fun h9 _ Gq=>?_;refine Acl (x:=n.down[i]) fun a9 c9 e9 l9=>?_;have e10:yd[i]=[.slice a9 n.down[i].length c9]:=JL
 refine Rm (E:=EC 1) (xs:=yd) (m:=1) (Ib 1) i ?_ EZ rfl h9;rintro _ gq Aq cs Bq ea j2 j3 hHq;rw [ea];obtain ⟨j4, -, -⟩:=j3 w0;rw [e10] at j4;subst j4;refine go ?_;refine A1 rfl (fun h7=>?_) (fun h7=>?_)
 ·have e1:C4 n s=none:=IG
  exact BG
 have h0:0 < n.down[i].length:=EV
 refine Oj (xs:=n.down[i]) 0 ?_;rintro hi3 b3 o3 e3 s3;rw [e3];refine go ?_;intros;refine Ar [2,17] [10] ?_;refine C8 0 1 2 3 ?_;refine C8 4 5 6 7 ?_;refine dN 8 ?_;refine sld 1 fun a8 c8 F8=>?_;refine dk ?_;refine dt 9 ?_;refine dN 10 ?_;refine oS ?_;refine N2 ?_;refine dd ?_;refine P5 (E:=EC 1) (xs:=yd) [.slice a8 (n.down[i].drop 1).length c8] hHq (fun _=>⟨rfl,⟨rfl,FJ⟩,rfl⟩) ?_;refine Aae (E:=Al) (x:=n.down[i].drop 1) EW ?_;refine Qq (E:=Oc Al EW) (ys:=yd) (xs:=n.down) (x:=n.down[i].drop 1) i rfl hm EV fun Gv=>?_
 rw [<-ea,show n.down.set i (n.down[i].drop 1)=(Ql n i).down from (Ic EV).symm];have hmem:=Oo h0;have hpk:Bo (Nf n.down[i])=true:=M7 (hq▸(Mj (s:=s) g1).1) hmem;have hpz:(Nf n.down[i]).data.size<=maxLen:=by
  exact BH
 have hgp:At (Ql n i)=true:=hpo▸Lr g1;have hGp:=Ax.1 hgp;have hPg:=Xz h0;rw [<-hPg];generalize hP:Nf n.down[i]=P at *;have htk:C4 n s=if s.Cq=2 then some (C6 (Ql n i) i P) else some (Ql n i,[]):=by
  unfold C4;rw [aC EV,hq,aC EV,hpo,hP,hi,bc]
  split
  ·rfl
  ·first|rfl|rw [aC k5]
 have hdp:∀q∈(Ql n i).down,q.length<=6:=fun q hq=>(C5 ((Hx hgp).2.2.1 q hq)).1;refine go ?_;refine A1 rfl (fun k2=>?_) (fun k2=>?_)
 ·rw [aH k2] at htk;have hgm:=Mn g1 g2 (htk0.trans htk);rw [show Bi n s=((C6 (Ql n i) i P).1,(C6 (Ql n i) i P).2,true) by unfold Bi;rw [g1,g2,htk0,htk];rfl];refine go ?_;have hls:(C6 (Ql n i) i P).1.Ab=n.Ab:=by unfold C6;split <;> rfl
  refine Ar [4,8,20] [] ?_;refine C8 0 1 2 3 ?_;refine dt 4 ?_;refine dN 5 ?_;refine oC ?_
  refine Be (Aky (Ql n i) i P w.a1 w.c1 y.a4 y.c4 y.a5 y.c5 y.a6 y.c6 y.a7 y.c7 w.s.a w.s.a2 n.Ab.Aa.Ak.length w.s.c n.Ab.holds.length w.s.c2 _ _ _ _ Ft ⟨⟨ye,Fe,He⟩,⟨yr,Fr,Hr⟩,⟨yd.set i [.slice a8 (n.down[i].drop 1).length c8],[gq],Gv⟩,⟨yu,Fu,Hu⟩⟩ FT hGp.l IB EV (Hi hGp.t) (fun hl=>by obtain ⟨x1,x2,x3,x4,r⟩:=hGp.rn (i:=i) IB;rw [Gp x2];exact (r.hf i0 hl).2.1) (fun hl=>by obtain ⟨x1,x2,x3,x4,r⟩:=hGp.rn (i:=i) IB;rw [Js x1];exact (r.hn i0 hl).1) hpk hpz hdp) fun x _=>?_;refine dk ?_
  refine dN 6 ?_;refine oS ?_;refine dk ?_;refine Dg 7 8 ?_;refine dd ?_;refine go ?_;rw [<-hls];refine Fm (ys:=x.1.e.ys) fun _ w4=>?_;refine Fm (ys:=x.1.r.ys) fun _ w5=>?_;refine Fm (ys:=x.1.d.ys) fun _ w6=>?_;refine Fm (ys:=x.1.u.ys) fun _ w7=>?_;refine Av (E:=EC 2) (xs:=x.1.e.ys) fun _=>?_;refine Av (E:=EC 5) (xs:=x.1.r.ys) fun _=>?_;refine Av (E:=EC 1) (xs:=x.1.d.ys) fun _=>?_;refine Av (E:=EC 1) (xs:=x.1.u.ys) fun _=>?_
  refine Zw ((C6 (Ql n i) i P).1) (l:=n.Ap.Ad) (N:=n.Ap.Ad.length) (congrArg Q0.Ad (Sv (htk0.trans htk))) rfl (Ax.1 hgm).l w4 w5 w6 w7 (a1:=w.a1) (c1:=w.c1) (a2:=w.s.a) (c2:=w.s.c) (a3:=w.s.a2) (c3:=w.s.c2) (a4:=y.a4) (c4:=y.c4) (a5:=y.a5) (c5:=y.c5) (a6:=y.a6) (c6:=y.c6) (a7:=y.a7) (c7:=y.c7) fun FN=>?_;refine ret (⟨_,FN,x.2.a,x.2.c,x.2.F⟩:StZ) trivial rfl
 ·rw [aC k2] at htk;have hgm:=Mn g1 g2 (htk0.trans htk);rw [show Bi n s=(Ql n i,[],true) by unfold Bi;rw [g1,g2,htk0,htk];rfl];refine go ?_;refine A1 rfl (fun m5=>?_) (fun m5=>?_)
  ·exact absurd m5 k5
  refine go ?_;intros;refine C1 A8 ?_;refine go ?_;refine Fm (ys:=ye) fun _ w4=>?_;refine Fm (ys:=yr) fun _ w5=>?_;refine Fm (ys:=(yd.set i [.slice a8 (n.down[i].drop 1).length c8])) fun _ w6=>?_;refine Fm (ys:=yu) fun _ w7=>?_;refine Av (E:=EC 2) (xs:=ye) fun _=>?_;refine Av (E:=EC 5) (xs:=yr) fun _=>?_;refine Av (E:=EC 1) (xs:=(yd.set i [.slice a8 (n.down[i].drop 1).length c8])) fun _=>?_;refine Av (E:=EC 1) (xs:=yu) fun _=>?_
  refine Zw (Ql n i) (l:=n.Ap.Ad) (N:=n.Ap.Ad.length) rfl rfl (Ax.1 hgm).l w4 w5 w6 w7 (a1:=w.a1) (c1:=w.c1) (a2:=w.s.a) (c2:=w.s.c) (a3:=w.s.a2) (c3:=w.s.c2) (a4:=y.a4) (c4:=y.c4) (a5:=y.a5) (c5:=y.c5) (a6:=y.a6) (c6:=y.c6) (a7:=y.a7) (c7:=y.c7) fun FN=>?_;exact CT
structure SwS where
 y:Aw
 a:aj
 c:Nat
 F:aq
 s:N1
structure SwL where
 y:Aw
 i:Nat
 a:aj
 c:Nat
 F:aq
 s:N1
structure Bhw (B r0:Nat) (z:SwL):Prop where
 l:z.y.Ak.length+z.i=r0
 s:Hw (B+8+50 * z.y.Ak.length) z.s
theorem Alc (B g:Nat) (F:CuF) (s:N1) (ok:Hw B s) (hB:B<=800000000000) :
  Fn prog 170 [Gc g 0 0] [.sl Jq (ab F.a F.B4.length F.c) F.B4 F.bs] [.row g 60 0 [] [ab F.a F.B4.length F.c,aa (s.k:Nat),.int .u64 s.Hm] []] (fun (z:SwS)=>z.y.Ak.length<=7/\Hw (B+1000) z.s) (fun s=>.agg #[aa s.y.Am,aa s.y.size,ab s.a s.y.Ak.length s.c])
   (fun s=>[.isv Cf (.agg #[aa s.y.Am,aa s.y.size,ab s.a s.y.Ak.length s.c]) s.y s.F,.row g 60 0 [] [ab F.a F.B4.length F.c,aa (s.s.k:Nat),.int .u64 s.s.Hm] []]):=by
 refine enter func170 rfl ntmps170 fun w0=>?_;refine Cj A8 9 ?_;refine go ?_;intros;refine Be (Tl B g F s ok EV) fun n hn=>?_;obtain ⟨hn1,hn2⟩:=hn;refine go ?_;refine Be (Ee (B+4) g F 6 n.2 hn2 EV EV) fun y hy=>?_;obtain ⟨r1,s1⟩:=y;obtain ⟨hy1,hy2⟩:=hy;dsimp only at hy1 hy2 ⊢;have hr1:r1<=5:=EV
 refine go ?_;intros;rename_i gg;refine Be (Ee _ g F (1+(r1:Int)+1) s1 hy2 EV EV) fun y hy=>?_;obtain ⟨r0,s2⟩:=y;obtain ⟨hz1,hz2⟩:=hy;dsimp only at hz1 hz2 ⊢;have hr0:r0<=6:=EV
 refine go ?_;refine Ca [0,2,3] (fun z:SwL=>[(4,aa (z.i:Nat))]) (fun z=>[.row gg 29 0 [] [aa z.y.Am,aa z.y.size,ab z.a z.y.Ak.length z.c] [],.ow A8 9 (ab z.a z.y.Ak.length z.c) z.y.Ak z.F,.row g 60 0 [] [ab F.a F.B4.length F.c,aa (z.s.k:Nat),.int .u64 z.s.Hm] []]) (Bhw B r0) (fun z=>z.i) ⟨⟨n.1,1+(r1:Int),[]⟩,r0,none,0,[],s2⟩ ⟨EX,hz2.mono (by show _<=B+8+50 * 0;omega)⟩ fun z hz=>?_;obtain ⟨z1,z3⟩:=hz;refine go ?_;refine A1 rfl (fun h2=>?_) (fun h2=>?_)
 ·refine Ih ?_;intros;refine Ar [0] [7] ?_;refine Dg 0 1 ?_;refine dt 2 ?_;refine dN 3 ?_;refine oC ?_;refine Be (Ss _ g F z.s 4 z3 EV EV EV) fun l hl=>?_;obtain ⟨hl1,hl2⟩:=hl;have hl3:l.1.size<=maxLen:=FC
  refine dk ?_;refine dN 4 ?_;apply Iz;rfl;rfl;rfl;rfl;exact Ir;exact Io;intro _;refine dk ?_;refine dN 5 ?_;refine Np (Agv hl3) Dz fun a9 c9 F9=>?_;refine dk ?_;refine dt 6 ?_;refine dN 7 ?_;refine oS ?_;refine N2 ?_;refine dd ?_;refine go ?_;rw [show ((z.i:Nat):Int) - 1=((z.i - 1:Nat):Int) by omega]
  refine Cb ⟨⟨z.y.Am,z.y.size,z.y.Ak++[l.1]⟩,z.i - 1,a9,c9,F9,l.2⟩ ⟨by show (z.y.Ak++[l.1]).length+(z.i - 1)=r0;rw [aA];simp only [aU,aY];omega,hl2.mono (by show _<=B+8+50 * (z.y.Ak++[l.1]).length;rw [aA];simp only [aU,aY];omega)⟩ (by show z.i - 1 < _;omega)
 ·have hl7:z.y.Ak.length<=6:=EV
  refine go ?_;refine Be (Ee _ g F 24 z.s z3 EV EV) fun p hp=>?_;obtain ⟨r,s3⟩:=p;obtain ⟨-,hp⟩:=hp;dsimp only at hp ⊢;refine go ?_;refine A1 rfl (fun e0=>?_) (fun e0=>?_)
  ·refine go ?_;refine Be (W9 _ g F s3 hp EV) fun q hq=>?_;refine go ?_;refine Av (E:=A8) (xs:=z.y.Ak) fun F8=>?_;refine Cn ⟨q.1,z.y.size,z.y.Ak⟩ ?_;refine ret ⟨⟨q.1,z.y.size,z.y.Ak⟩,_,_,_,q.2⟩ ⟨by show z.y.Ak.length<=7;omega,hq.mono EV⟩ rfl
  refine go ?_;refine A1 rfl (fun e1=>?_) (fun e1=>?_)
  ·refine Ih ?_;intros;refine Eh (xs:=[0,7,6]) (fun w=>Nr w _) ?_ EW;refine Av (E:=Bb) fun G=>?_;refine go ?_;refine Be (Rw _ g F _ [0,7,6] G s3 hp EV EW EW) fun q hq=>?_;refine go ?_;refine Av (E:=A8) (xs:=z.y.Ak) fun F8=>?_;refine Cn ⟨z.y.Am,q.1,z.y.Ak⟩ ?_;refine ret ⟨⟨z.y.Am,q.1,z.y.Ak⟩,_,_,_,q.2⟩ ⟨by show z.y.Ak.length<=7;omega,hq.2.mono EV⟩ rfl
  refine go ?_;refine A1 rfl (fun e2=>?_) (fun e2=>?_)
  ·refine Ih ?_;intros;refine Ar [1] [8] ?_;refine Dg 0 1 ?_;refine dt 2 ?_;refine dN 3 ?_;apply Iz;rfl;rfl;rfl;rfl;exact Ir;exact Io;intro _;refine Eh (xs:=[⟨#[65]⟩,⟨#[97,98,99,100,101,102,103,104]⟩,⟨#[97,98,99,100,101,102,103,104,105]⟩,⟨#[]⟩]) (fun w=>Qg w _ EW) ?_ EW;refine Av (E:=A8) fun G=>?_;refine dk ?_;refine dN 4 ?_;refine oC ?_;refine Be (Aeo _ g F _ [⟨#[65]⟩,⟨#[97,98,99,100,101,102,103,104]⟩,⟨#[97,98,99,100,101,102,103,104,105]⟩,⟨#[]⟩] _ s3 hp EV EW EW) fun q2 hq2=>?_
   have hq3:q2.1.size<=maxLen:=by have:=hq2.1;simp only [aG,aT,bl] at this;rcases this with e|e|e|e <;> rw [e] <;> decide
   refine dk ?_;refine dN 5 ?_;apply Iz;rfl;rfl;rfl;rfl;exact Ir;exact Io;intro _;refine dk ?_;refine dN 6 ?_;refine Np (Agv hq3) Dz fun a9 c9 F9=>?_;refine dk ?_;refine dt 7 ?_;refine dN 8 ?_;refine oS ?_;refine N2 ?_;refine dd ?_;refine go ?_;refine Av (E:=A8) (xs:=z.y.Ak++[q2.1]) fun F8=>?_;refine Cn ⟨z.y.Am,z.y.size,z.y.Ak++[q2.1]⟩ ?_;refine ret ⟨⟨z.y.Am,z.y.size,z.y.Ak++[q2.1]⟩,_,_,_,q2.2⟩ ⟨by show (z.y.Ak++[q2.1]).length<=7;rw [aA];simp only [aU,aY];omega,hq2.2.mono EV⟩ rfl
  refine go ?_;refine Av (E:=A8) (xs:=z.y.Ak) fun F8=>?_;refine Cn z.y ?_;refine ret ⟨z.y,_,_,_,s3⟩ ⟨by show z.y.Ak.length<=7;omega,hp.mono EV⟩ rfl
theorem Ai1 (B g:Nat) (F:CuF) (s:N1) (x:Aw) (v:Value) (Fx:aq) (ok:Hw B s) (hB:B<=800000000000) (hl:x.Ak.length<=1000) :
  Fn prog 52 [Gc g 0 0,v] [.sl Jq (ab F.a F.B4.length F.c) F.B4 F.bs,.isv Cf v x Fx] [.row g 60 0 [] [ab F.a F.B4.length F.c,aa (s.k:Nat),.int .u64 s.Hm] []] (fun (z:Int × N1)=>(-1<=z.1/\z.1<=65536)/\Hw (B+8) z.2) (fun z=>aa z.1) (fun z=>[.row g 60 0 [] [ab F.a F.B4.length F.c,aa (z.2.k:Nat),.int .u64 z.2.Hm] []]):=by
 refine enter func52 rfl ntmps52 fun w0=>?_;refine E6 ?_;rintro a1 c1 F1 rfl l1;refine go ?_;intros;refine ce (fun w s=>Nw _ _) ?_;cases g1:B8 x.Am
 ·refine go ?_;refine Be (Vd B g F s ok EV) fun z hz=>?_;refine go ?_;refine ret z ⟨hz.1,hz.2.mono EV⟩ rfl
 obtain ⟨n0,n1⟩:=A4.1 g1;refine go ?_;refine Be (Abe B g F 12 s ok EV EV) fun q hq=>?_;cases hb:q.1
 ·refine go ?_;refine Ar [1] [] ?_;refine C8 0 1 2 3 ?_;refine Dg 4 5 ?_;refine dt 6 ?_;refine dN 7 ?_;refine oC ?_;refine Be (Ee _ g F ((x.Ak.length:Int)+3) q.2 hq.2 EV EV) fun y hy=>?_;obtain ⟨hy1,hy2⟩:=hy;refine dk ?_;refine dt 8 ?_;refine dN 9 ?_;refine oC ?_;refine ce (fun w s=>Ht _ _ _ EV EV) ?_;refine dk ?_;refine dt 10 ?_;refine dd ?_;refine go ?_;refine ret (_,y.2) ⟨by have:=Jb x.Am ((y.1:Int) - 1);show -1<=Cd x.Am ((y.1:Int) - 1)/\Cd x.Am ((y.1:Int) - 1)<=65536;omega,hy2.mono EV⟩ rfl
 ·refine go ?_;refine Be (Vd (B+2) g F q.2 hq.2 EV) fun z hz=>?_;refine go ?_;refine ret z hz rfl
structure SwN where
 y:Aw
 a:aj
 c:Nat
 F:aq
 n:Int
structure SwT where
 y:Aw
 a:aj
 c:Nat
 F:aq
 t:au
structure SwP where
 y:Aw
 a:aj
 c:Nat
 F:aq
 p:As
structure SwJ where
 y:Aw
 a:aj
 c:Nat
 F:aq
structure OkD (m:Nat) (y:Cs):Prop where
 t0:0<=y.Aa.Am
 t1:y.Aa.Am<=65535
 z0:1<=y.Aa.size
 z6:y.Aa.size<=6
 l:(y.Aa.Ak.length:Int)<=y.Aa.size
 it:∀s∈y.Aa.Ak,s.size<=maxLen
 k0:0<=y.Ai
 km:y.Ai<=m
 q0:0<=y.quiet
 q3:y.quiet<=3
 h:y.holds.length<=m
 w:Zj y.holds
 mm:m<=100
theorem OkD.l6 {m y} (h:OkD m y):y.Aa.Ak.length<=6:=by have:=h.l;have:=h.z6;omega
theorem OkD.k1 {m y} (h:OkD m y):y.Ai<=99999:=by have:=h.km;have:=h.mm;omega
theorem OkD.h1 {m y} (h:OkD m y):y.holds.length<=900:=by have:=h.h;have:=h.mm;omega
theorem Acm (W:Aw) (cl:Int) (hs:List Iu):(Ip W cl hs).length<=hs.length:=bJ _ _
theorem Aai {W:Aw} {cl:Int} {hs:List Iu} (h:Zj hs):Zj (Ip W cl hs):=fun z hz=>h z (bL.1 hz).1
theorem Bd5 {W:Aw} {p:As} (h:∀s∈W.Ak,s.size<=maxLen):(Dn W p).1.data.size<=maxLen:=by
 unfold Dn
 split
 ·rename_i g;unfold Kc at g;simp only [aw] at g;have hk:=Aa6 g.2;show (Z0 W p.Ae).size<=maxLen;rw [Us hk];exact h _ (aB hk)
 ·decide
theorem Arw {m y} (h:OkD m y) {s:au} (hs:s.size<=maxLen) (hm:m+1<=100:=by omega):OkD (m+1) (Pz y s):=by
 have hb:=Qp h.t0 h.t1;have hkl:=Acm (Dh y.Aa s) y.Ai y.holds;have:=h.km;have:=h.h;have hr:((Df y.Aa).Ak.length:Int)+1<=y.Aa.size/\∀x∈(Df y.Aa).Ak,x.size<=maxLen:=by
  have:=h.l;unfold Df
  split
  ·exact ⟨by simp only [aX];have:=h.z0;omega,fun x hx=>h.it x (bq hx)⟩
  ·exact ⟨EV,h.it⟩
 refine ⟨hb.1,hb.2,h.z0,h.z6,?_,?_,h.k0,?_,by show (0:Int)<=0;omega,by show (0:Int)<=3;omega,?_,Aai h.w,hm⟩
 ·show (((Df y.Aa).Ak++[s]).length:Int)<=y.Aa.size;simp only [aA,aU,aY];omega
 ·intro x hx;have hx:x∈(Df y.Aa).Ak++[s]:=hx;simp only [aJ,aG,aT,bl] at hx;rcases hx with hx|rfl
  ·exact hr.2 x hx
  ·exact hs
 ·show y.Ai<=((m+1:Nat):Int);omega
 ·show (Ip _ _ _).length<=m+1;omega
theorem Bey {m y} (h:OkD m y) {n:Int} (hn:-1<=n/\n<=65536) (hm:m+1<=100:=by omega):OkD (m+1) (Ni y n):=by
 have hkl:=Acm y.Aa y.Ai y.holds;have:=h.km;have:=h.h;unfold Ni
 split
 ·refine ⟨h.t0,h.t1,h.z0,h.z6,h.l,h.it,h.k0,by show y.Ai<=((m+1:Nat):Int);omega,h.q0,h.q3,?_,?_,hm⟩
  ·show (Lk _ _ _).length<=m+1;unfold Lk;simp;omega
  ·intro z hz;have hz:z∈Lk y.holds (Gf y.Aa.Am y.holds n) ⟨n,y.Ai+3⟩:=hz;unfold Lk at hz;simp only [aJ,aG] at hz;rcases hz with hz|rfl|hz
   ·exact h.w z (bR hz)
   ·exact hn
   ·exact h.w z (bq hz)
 ·exact ⟨h.t0,h.t1,h.z0,h.z6,h.l,h.it,h.k0,by show y.Ai<=((m+1:Nat):Int);omega,h.q0,h.q3,by show (Ip _ _ _).length<=m+1;omega,Aai h.w,hm⟩
theorem Bb8 {m y} (h:OkD m y) (hm:m+1<=100:=by omega):OkD (m+1) (M4 y):=by
 have hkl:=Acm y.Aa (y.Ai+1) y.holds;have:=h.km;have:=h.h;have:=h.k0;have:=h.q0;have:=h.q3;refine ⟨h.t0,h.t1,h.z0,h.z6,h.l,h.it,by show 0<=y.Ai+1;omega,by show y.Ai+1<=((m+1:Nat):Int);omega,?_,?_,by show (Ip _ _ _).length<=m+1;omega,Aai h.w,hm⟩
 ·show 0<=Rt y.quiet;unfold Rt;split <;> omega
 ·show Rt y.quiet<=3;unfold Rt;split <;> omega
theorem Bbh {f z:Int} (h0:0<=f) (h1:f<=65535) (z0:1<=z) (z6:z<=6):Ml f z=(⟨⟨f,z,[]⟩,0,0,[]⟩,true):=by
 have hg:Cr ⟨⟨f,z,[]⟩,0,0,[]⟩=true:=Eo.2 ⟨Dq.2 ⟨⟨h0,h1⟩,⟨z0,z6⟩,FB,rfl⟩,rfl,rfl,EX,List.Pairwise.nil⟩;unfold Ml;rw [hg];rfl
structure SrD where
 y:Cs
 a:aj
 c:Nat
 a2:aj
 c2:Nat
 F:aq
 i:Nat
 s:N1
theorem Aze (B g:Nat) (F:CuF) (s:N1) (ok:Hw B s) (hB:B<=700000000000) :
  Fn prog 88 [Gc g 0 0] [.sl Jq (ab F.a F.B4.length F.c) F.B4 F.bs] [.row g 60 0 [] [ab F.a F.B4.length F.c,aa (s.k:Nat),.int .u64 s.Hm] []] (fun (z:SrD)=>z.y.Aa.Ak.length<=7/\z.y.holds.length<=20/\Hw (B+2000) z.s) (fun s=>.agg #[aa s.y.Aa.Am,aa s.y.Aa.size,ab s.a s.y.Aa.Ak.length s.c,aa s.y.Ai,aa s.y.quiet,ab s.a2 s.y.holds.length s.c2])
   (fun s=>[.isv El (.agg #[aa s.y.Aa.Am,aa s.y.Aa.size,ab s.a s.y.Aa.Ak.length s.c,aa s.y.Ai,aa s.y.quiet,ab s.a2 s.y.holds.length s.c2]) s.y s.F,.row g 60 0 [] [ab F.a F.B4.length F.c,aa (s.s.k:Nat),.int .u64 s.s.Hm] []]):=by
 refine enter func88 rfl ntmps88 fun w0=>?_;refine go ?_;intros;refine Be (Tl B g F s ok EV) fun n hn=>?_;obtain ⟨hn1,hn2⟩:=hn;refine go ?_;refine Be (Ee (B+4) g F 6 n.2 hn2 EV EV) fun y hy=>?_;obtain ⟨r1,s1⟩:=y;obtain ⟨hy1,hy2⟩:=hy;dsimp only at hy1 hy2 ⊢;have hr1:r1<=5:=EV
 refine go ?_;refine Be (Wq n.1 (1+(r1:Int))) fun F0 _=>?_;rw [Bbh hn1.1 hn1.2 EV EV];refine go ?_;intros;rename_i gg;refine Be (Ee _ g F 9 s1 hy2 EV EV) fun y hy=>?_;obtain ⟨r0,s2⟩:=y;obtain ⟨hz1,hz2⟩:=hy;dsimp only at hz1 hz2 ⊢;have hr0:r0<=8:=EV
 refine go ?_
 refine Ca [0,2,3] (fun z:SrD=>[(5,aa (z.i:Nat))]) (fun z=>[.row gg 32 0 [] [aa z.y.Aa.Am,aa z.y.Aa.size,ab z.a z.y.Aa.Ak.length z.c,aa z.y.Ai,aa z.y.quiet,ab z.a2 z.y.holds.length z.c2] [],.isv El (.agg #[aa z.y.Aa.Am,aa z.y.Aa.size,ab z.a z.y.Aa.Ak.length z.c,aa z.y.Ai,aa z.y.quiet,ab z.a2 z.y.holds.length z.c2]) z.y z.F,.row g 60 0 [] [ab F.a F.B4.length F.c,aa (z.s.k:Nat),.int .u64 z.s.Hm] []]) (fun z=>OkD (r0 - z.i) z.y/\z.i<=r0/\Hw (B+20+50 * (r0 - z.i)) z.s) (fun z=>z.i) ⟨⟨⟨n.1,1+(r1:Int),[]⟩,0,0,[]⟩,none,0,none,0,F0,r0,s2⟩ ⟨⟨hn1.1,hn1.2,by show (1:Int)<=1+(r1:Int);omega,by show 1+(r1:Int)<=6;omega,by show ((0:Nat):Int)<=1+(r1:Int);omega,EX,by show (0:Int)<=0;omega,by show (0:Int)<=((r0 - r0:Nat):Int);omega,by show (0:Int)<=0;omega,by show (0:Int)<=3;omega,EX,by intro z hz;simp at hz,EV⟩,aK _,hz2.mono (by show _<=B+20+50 * (r0 - r0);omega)⟩ fun z hz=>?_
 obtain ⟨z1,z2,z3⟩:=hz;refine go ?_;refine A1 rfl (fun h2=>?_) (fun h2=>?_)
 ·have hi0:0 < z.i:=EV
  refine go ?_;refine Be (Ee _ g F 4 z.s z3 EV EV) fun p hp=>?_;obtain ⟨r2,s4⟩:=p;obtain ⟨hr2,z3⟩:=hp;dsimp only at hr2 z3 ⊢;have hr4:r2=0\/r2=1\/r2=2\/r2=3:=EV
  rcases hr4 with rfl|rfl|rfl|rfl
  ·refine go ?_;refine Ar [1] [5,6,7] ?_;refine Dg 0 1 ?_;refine dN 2 ?_;refine oC ?_;refine Be (Ss _ g F s4 3 z3 EV EV EV) fun l hl=>?_;obtain ⟨hl1,hl2⟩:=hl;have hl3:l.1.size<=maxLen:=FC
   exact AM
  ·refine go ?_;refine Ar [1] [5,6,7] ?_;refine Dg 0 1 ?_;refine dN 2 ?_;refine oC ?_;refine Be (Ss _ g F s4 3 z3 EV EV EV) fun l hl=>?_;obtain ⟨hl1,hl2⟩:=hl;have hl3:l.1.size<=maxLen:=FC
   exact AM
  ·refine Gn (x:=z.y) (F:=z.F) ?_;rintro b1 d1 G1 b2 d2 G2 e5 m1 m2;simp only [Value.agg.injEq,Array.mk.injEq,List.cons.injEq,Value.slice.injEq,Value.int.injEq,cJ,cK] at e5;obtain ⟨⟨rfl,rfl⟩, -⟩:=e5;refine Cn z.y.Aa (a1:=z.a) ?_;generalize G1=FW;refine go ?_;refine Ar [4] [8,9,10] ?_;refine C8 0 1 2 3 ?_;refine dN 4 ?_;refine oC ?_;refine Be (Ai1 _ g F s4 z.y.Aa _ FW z3 EV (by have:=z1.l6;omega)) fun n hn=>?_;obtain ⟨hn1,hn2⟩:=hn;refine dk ?_;refine dt 5 ?_;refine dN 6 ?_;refine oC ?_
   refine Be (Zc z.y ⟨3,n.1,0,0,⟨#[]⟩⟩ _ z.F z1.t0 z1.t1 z1.l6 z1.k0 z1.k1 z1.h1 z1.w hn1.1 hn1.2 GV (Bd5 z1.it)) fun q _=>?_;refine dk ?_;refine dt 7 ?_;refine R5 8 ?_;refine R5 9 ?_;refine dN 10 ?_;refine oS ?_;refine N2 ?_;refine dd ?_;refine go ?_;rw [show ((z.i:Nat):Int) - 1=((z.i - 1:Nat):Int) by omega];refine Cb ⟨Ni z.y n.1,q.a,q.c,q.a2,q.c2,q.F,z.i - 1,n.2⟩ ⟨by rw [show r0 - (z.i - 1)=r0 - z.i+1 by omega];exact Bey z1 hn1,KB,hn2.mono HB⟩ GJ
  ·refine go ?_;refine Be (Af8 z.y _ z.F z1.t0 z1.t1 z1.l6 z1.k0 z1.k1 z1.q0 z1.q3 (by have:=z1.h1;omega) z1.w) fun q _=>?_;refine go ?_;rw [show ((z.i:Nat):Int) - 1=((z.i - 1:Nat):Int) by omega];refine Cb ⟨M4 z.y,q.a,q.c,q.a2,q.c2,q.F,z.i - 1,s4⟩ ⟨by rw [show r0 - (z.i - 1)=r0 - z.i+1 by omega];exact Bb8 z1,KB,z3.mono HB⟩ GJ
 ·have hl7:=z1.l6;have hh7:=z1.h;refine go ?_;refine Be (Ee _ g F 24 z.s z3 EV EV) fun p hp=>?_;obtain ⟨r,s3⟩:=p;obtain ⟨-,hp⟩:=hp;dsimp only at hp ⊢;refine Gn (x:=z.y) (F:=z.F) ?_;rintro b1 d1 G1 b2 d2 G2 e5 m1 m2;simp only [Value.agg.injEq,Array.mk.injEq,List.cons.injEq,Value.slice.injEq,Value.int.injEq,cJ,cK] at e5;obtain ⟨⟨rfl,rfl⟩,rfl,rfl⟩:=e5;refine go ?_;refine A1 rfl (fun e0=>?_) (fun e0=>?_)
  ·refine Ih ?_;intros;refine Eh (xs:=[-1,9999,10000]) (fun w=>Nr w _) ?_ EW;refine Av (E:=Bb) fun G=>?_;refine go ?_;refine Be (Rw _ g F _ [-1,9999,10000] G s3 hp EV EW EW) fun q hq=>?_;refine go ?_;refine En ⟨z.y.Aa,q.1,z.y.quiet,z.y.holds⟩ (a1:=z.a) ?_;refine ret ⟨⟨z.y.Aa,q.1,z.y.quiet,z.y.holds⟩,_,_,_,_,_,0,q.2⟩ ⟨IE,KG,hq.2.mono EV⟩ rfl
  refine go ?_;refine A1 rfl (fun e1=>?_) (fun e1=>?_)
  ·refine Ih ?_;intros;refine Eh (xs:=[-1,3,4]) (fun w=>Nr w _) ?_ EW;refine Av (E:=Bb) fun G=>?_;refine go ?_;refine Be (Rw _ g F _ [-1,3,4] G s3 hp EV EW EW) fun q hq=>?_;refine go ?_;refine En ⟨z.y.Aa,z.y.Ai,q.1,z.y.holds⟩ (a1:=z.a) ?_;refine ret ⟨⟨z.y.Aa,z.y.Ai,q.1,z.y.holds⟩,_,_,_,_,_,0,q.2⟩ ⟨IE,KG,hq.2.mono EV⟩ rfl
  refine go ?_;refine A1 rfl (fun e2=>?_) (fun e2=>?_)
  ·have hkm:=z1.km;have hk0:=z1.k0;refine Ih ?_;intros;refine Ar [3] [15] ?_;refine C8 1 2 4 6 ?_;refine Dg 7 8 ?_;refine dN 0 ?_;apply Kj;rfl;intro _;refine C1 Bx ?_;refine dk ?_;refine dN 3 ?_;refine Nm (ys:=z.y.holds) I0 Kv fun a7 c7 F7=>?_;rw [aZ];refine dk ?_;refine dN 5 ?_;refine oC ?_;refine Be (W9 _ g F s3 hp EV) fun q hq=>?_;refine dk ?_;refine dN 9 ?_;refine oC ?_;refine Be (Ee _ g F 5 q.2 hq EV EV) fun r hr=>?_;obtain ⟨hr1,hr2⟩:=hr;refine dk ?_;refine Dg 10 11 ?_;refine dN 12 ?_;apply Iz;rfl;rfl;rfl;rfl;exact Ir;exact Io;intro _;refine dk ?_
   refine dN 13 ?_;refine Np (U6 ⟨q.1,z.y.Ai+(r.1:Nat)⟩) I0 fun a9 c9 F9=>?_;refine dk ?_;refine dt 14 ?_;refine dN 15 ?_;refine oS ?_;refine N2 ?_;refine dd ?_;refine go ?_;refine Av (E:=Bx) fun F8=>?_;refine En ⟨z.y.Aa,z.y.Ai,z.y.quiet,z.y.holds++[⟨q.1,z.y.Ai+(r.1:Nat)⟩]⟩ (a1:=z.a) ?_;refine ret ⟨⟨z.y.Aa,z.y.Ai,z.y.quiet,z.y.holds++[⟨q.1,z.y.Ai+(r.1:Nat)⟩]⟩,_,_,_,_,_,0,r.2⟩ ⟨IE,by show (z.y.holds++[_]).length<=20;simp;omega,hr2.mono EV⟩ rfl
  refine go ?_;refine A1 rfl (fun e3=>?_) (fun e3=>?_)
  ·refine go ?_;refine Be (Alc _ g F s3 hp EV) fun q hq=>?_;obtain ⟨hq1,hq2⟩:=hq;refine go ?_;refine E6 (x:=q.y) ?_;rintro b3 d3 G3 e6 m3;simp only [Value.agg.injEq,Array.mk.injEq,List.cons.injEq,Value.slice.injEq,Value.int.injEq,cJ,cK] at e6;obtain ⟨rfl,rfl⟩:=e6;refine Cm Bx EW ?_;refine En ⟨q.y,0,0,[]⟩ (a1:=q.a) ?_;refine ret ⟨⟨q.y,0,0,[]⟩,_,_,_,_,_,0,q.s⟩ ⟨by show q.y.Ak.length<=7;omega,by show ([]:List Iu).length<=20;simp,hq2.mono EV⟩ rfl
  ·refine go ?_;refine ret ⟨z.y,z.a,z.c,z.a2,z.c2,z.F,0,s3⟩ ⟨IE,KG,hp.mono EV⟩ rfl
structure OkE (m:Nat) (y:Bf):Prop where
 k0:0<=y.Ai
 k1:y.Ai<=30+m
 l:y.Ah.length<=m
 f:∀x∈y.Ah,x.Bg.length<=m
 mm:m<=100
theorem Aye {m y} (h:OkE m y) (hm:m+1<=100:=by omega):OkE (m+1) (Ep y):=by
 have:=h.k0;have:=h.k1;have hl:=bJ (fun x:Gz=>!decide (x.Cg<=y.Ai+1)) y.Ah;exact ⟨by show 0<=y.Ai+1;omega,by show y.Ai+1<=30+((m+1:Nat):Int);omega,by show (y.Ah.filter _).length<=_;have:=h.l;omega,fun x hx=>by have:=h.f x (bL.1 hx).1;omega,hm⟩
theorem Bb7 {m y} (h:OkE m y) {n f:Int} (hm:m+1<=100:=by omega):OkE (m+1) (Nn y n f):=by
 have:=h.k0;have:=h.k1;have hl:=h.l;have hf:∀x∈y.Ah,x.Bg.length<=m+1:=fun x hx=>by have:=h.f x hx;omega
 unfold Nn
 split
 ·rename_i x hx;refine ⟨h.k0,JV,by show (y.Ah.set _ _).length<=m+1;rw [bQ];omega,fun z hz=>?_,hm⟩;rcases bC hz with h'|rfl
  ·exact hf z h'
  ·have:=h.f x (bX hx);have:=Ayi x.Bg f;show (Rp x.Bg f).length<=m+1;omega
 ·split
  ·refine ⟨h.k0,JV,by show (y.Ah++[_]).length<=m+1;simp;omega,fun z hz=>?_,hm⟩;rcases aJ.1 hz with h'|h'
   ·exact hf z h'
   ·simp at h';subst h';simp
  ·exact ⟨h.k0,JV,EV,hf,hm⟩
structure ElD where
 y:Bf
 a:aj
 c:Nat
 F:aq
 i:Nat
 s:N1
theorem Api (B g:Nat) (F:CuF) (s:N1) (ok:Hw B s) (hB:B<=700000000000) :
  Fn prog 90 [Gc g 0 0] [.sl Jq (ab F.a F.B4.length F.c) F.B4 F.bs] [.row g 60 0 [] [ab F.a F.B4.length F.c,aa (s.k:Nat),.int .u64 s.Hm] []] (fun (z:ElD)=>z.y.Ah.length<=1000/\(∀x∈z.y.Ah,x.Bg.length<=1000)/\Hw (B+2000) z.s) (fun s=>.agg #[aa s.y.Ai,ab s.a s.y.Ah.length s.c])
   (fun s=>[.isv Bv (.agg #[aa s.y.Ai,ab s.a s.y.Ah.length s.c]) s.y s.F,.row g 60 0 [] [ab F.a F.B4.length F.c,aa (s.s.k:Nat),.int .u64 s.s.Hm] []]):=by
 refine enter func90 rfl ntmps90 fun w0=>?_;refine go ?_;intros;refine Be (Ee B g F 30 s ok EV EV) fun y hy=>?_;obtain ⟨r1,s1⟩:=y;obtain ⟨hy1,hy2⟩:=hy;dsimp only at hy1 hy2 ⊢;have hr1:r1<=29:=EV
 refine go ?_;intros;rename_i gg;refine Be (Tl _ g F s1 hy2 EV) fun n hn=>?_;obtain ⟨hn1,hn2⟩:=hn;refine go ?_;refine Be (Ee _ g F 10 n.2 hn2 EV EV) fun y hy=>?_;obtain ⟨r0,s2⟩:=y;obtain ⟨hz1,hz2⟩:=hy;dsimp only at hz1 hz2 ⊢;have hr0:r0<=9:=EV
 refine Cm D5 EW ?_;refine Ex ⟨(r1:Int),[]⟩ ?_;refine go ?_
 refine Ca [0,2,3,4] (fun z:ElD=>[(5,aa (z.i:Nat))]) (fun z=>[.row gg 122 0 [] [aa z.y.Ai,ab z.a z.y.Ah.length z.c] [],.isv Bv (.agg #[aa z.y.Ai,ab z.a z.y.Ah.length z.c]) z.y z.F,.row g 60 0 [] [ab F.a F.B4.length F.c,aa (z.s.k:Nat),.int .u64 z.s.Hm] []]) (fun z=>OkE (r0 - z.i) z.y/\z.i<=r0/\Hw (B+20+50 * (r0 - z.i)) z.s) (fun z=>z.i) ⟨⟨(r1:Int),[]⟩,none,0,[],r0,s2⟩ ⟨⟨by show (0:Int)<=(r1:Int);omega,by show (r1:Int)<=_;omega,EX,EX,EV⟩,aK _,hz2.mono (by show _<=B+20+50 * (r0 - r0);omega)⟩ fun z hz=>?_;obtain ⟨z1,z2,z3⟩:=hz;refine go ?_
 refine A1 rfl (fun h2=>?_) (fun h2=>?_)
 ·have hi0:0 < z.i:=EV
  refine go ?_;refine Be (Abe _ g F 5 z.s z3 EV EV) fun p hp=>?_;obtain ⟨b4,s4⟩:=p;obtain ⟨-,z4⟩:=hp;dsimp only at z4 ⊢;cases b4
  ·refine go ?_;refine Ar [1] [10,11,12] ?_;refine C8 0 1 2 5 ?_;refine dN 3 ?_;refine oC ?_;refine Be (Ee _ g F 6 s4 z4 EV EV) fun p hp=>?_;obtain ⟨p1,p2⟩:=hp;refine dk ?_;refine dN 4 ?_;refine oC ?_;refine ce (fun w s=>Ht _ _ _ EV EV) ?_;refine dk ?_;refine dN 6 ?_;refine oC ?_;refine Be (Ee _ g F 7 p.2 p2 EV EV) fun q hq=>?_;obtain ⟨q1,q2⟩:=hq;refine dk ?_;refine dt 7 ?_;refine dN 8 ?_;refine oC ?_
   refine Be (Vo z.y (Cd n.1 (p.1:Nat)) (1+(q.1:Nat)) _ z.F (by have:=z1.l;omega) (fun x hx=>by have:=z1.f x hx;omega) (by have:=z1.k0;omega) (by have:=z1.k1;omega)) fun u _=>?_;refine Sg Kh fun F7=>?_;refine D9 (v:=u.1) ?_;rintro a6 c6 F6 e6 l6;rw [e6];refine dk ?_;refine dt 9 ?_;refine R5 10 ?_;refine R5 11 ?_;refine dN 12 ?_;refine oS ?_;refine N2 ?_;refine dd ?_;refine go ?_;rw [show ((z.i:Nat):Int) - 1=((z.i - 1:Nat):Int) by omega]
   refine Cb ⟨(Nn z.y (Cd n.1 (p.1:Nat)) (1+(q.1:Nat))),a6,c6,F7,z.i - 1,q.2⟩ ⟨by rw [show r0 - (z.i - 1)=r0 - z.i+1 by omega];exact Bb7 z1,KB,q2.mono HB⟩ GJ
  ·refine go ?_;refine cr (fun w st=>Aja _ z.y z.F w (st.get (p:=.isv Bv (.agg #[aa z.y.Ai,ab z.a z.y.Ah.length z.c]) z.y z.F) EX) (Na.2 ⟨z1.k0,by have:=z1.k1;have:=z1.mm;omega⟩) (by have:=z1.l;omega) (fun x hx=>by have:=z1.f x hx;omega)) fun u F7=>?_;refine D9 (v:=u) ?_;rintro a6 c6 F6 rfl l6;refine go ?_;rw [show ((z.i:Nat):Int) - 1=((z.i - 1:Nat):Int) by omega];refine Cb ⟨Ep z.y,a6,c6,F7,z.i - 1,s4⟩ ⟨by rw [show r0 - (z.i - 1)=r0 - z.i+1 by omega];exact Aye z1,KB,z4.mono HB⟩ GJ
 ·have hl7:=z1.l;refine go ?_;refine Be (Ee _ g F 24 z.s z3 EV EV) fun p hp=>?_;obtain ⟨r,s3⟩:=p;obtain ⟨-,hp⟩:=hp;dsimp only at hp ⊢;refine go ?_;refine A1 rfl (fun e0=>?_) (fun e0=>?_)
  ·refine D9 (x:=z.y) (F:=z.F) ?_;rintro b1 d1 G1 e5 m1;simp only [Value.agg.injEq,Array.mk.injEq,List.cons.injEq,Value.slice.injEq,Value.int.injEq,cJ,cK] at e5;obtain ⟨rfl,rfl⟩:=e5;refine Ih ?_;intros;refine Eh (xs:=[-1,9999,10000]) (fun w=>Nr w _) ?_ EW;refine Av (E:=Bb) fun G=>?_;refine go ?_;refine Be (Rw _ g F _ [-1,9999,10000] G s3 hp EV EW EW) fun q hq=>?_;refine go ?_;refine Ex ⟨q.1,z.y.Ah⟩ ?_;refine ret ⟨⟨q.1,z.y.Ah⟩,_,_,_,0,q.2⟩ ⟨by show z.y.Ah.length<=1000;omega,fun e he=>(by have:=z1.f e he;have:=z1.mm;omega),hq.2.mono EV⟩ rfl
  refine go ?_;refine A1 rfl (fun e1=>?_) (fun e1=>?_)
  ·refine D9 (x:=z.y) (F:=z.F) ?_;rintro b1 d1 G1 e5 m1;simp only [Value.agg.injEq,Array.mk.injEq,List.cons.injEq,Value.slice.injEq,Value.int.injEq,cJ,cK] at e5;obtain ⟨rfl,rfl⟩:=e5;refine Ae3 Vw (xs:=z.y.Ah) (m:=3) rfl fun ys Fy Gy hyl hym=>?_;refine Ih ?_;intros;refine Ar [4] [18] ?_;refine C8 1 2 4 6 ?_;refine Dg 9 10 ?_;refine dt 11 ?_;refine dN 0 ?_;apply Kj;rfl;intro _;refine C1 (EC 3) ?_;refine dk ?_;refine dN 3 ?_;refine Nm (ys:=ys) (Pv 3) (Ib 3) (fun a7 c7 F7=>?_) (hn:=hyl.symm) (h63:=GS) (hby:=GS);rw [aZ];refine dk ?_;refine dN 5 ?_
   refine oC ?_;refine Be (W9 _ g F s3 hp EV) fun q hq=>?_;refine dk ?_;refine dN 7 ?_;refine oC ?_;refine Be (Ee _ g F 9 q.2 hq EV EV) fun r hr=>?_;obtain ⟨hr1,hr2⟩:=hr;refine dk ?_;refine dM 8 12 ?_ ?_
   ·apply Iz;rfl;rfl;rfl;rfl;exact Ir;exact Io;intro _;rename_i gf;refine Eh (E:=Bb) (xs:=[(r.1:Int)]) (Oq _) ?_ EX;refine Av (E:=Bb) fun F10=>?_;refine dk ?_;refine dN 12 ?_;refine oC ?_;refine Be (Ee _ g F 9 r.2 hr2 EV EV) fun t ht=>?_;obtain ⟨ht1,ht2⟩:=ht;have hk0:=z1.k0;have hk1:=z1.k1;refine dk ?_;refine Dg 13 14 ?_;refine dN 15 ?_;apply Iz;rfl;rfl;rfl;rfl;exact Ir;exact Io;intro _;refine Sz ⟨q.1,[(r.1:Int)],z.y.Ai+(t.1:Nat)⟩ ?_;refine dk ?_;refine dN 16 ?_
    refine Np (ys:=[([aa q.1,ab (some ⟨gf,0,none⟩) 1 1,aa (z.y.Ai+(t.1:Nat))]:am)]) (Xg (m:=3) (cs:=[aa q.1,ab (some ⟨gf,0,none⟩) 1 1,aa (z.y.Ai+(t.1:Nat))]) rfl FJ) (Pv 3) (fun a9 c9 F11=>?_);refine dk ?_;refine dt 17 ?_;refine dN 18 ?_;refine oS ?_;refine N2 ?_;refine dd ?_;refine go ?_;refine Av (E:=EC 3) fun F8=>?_;refine Aof (E:=D5) (x:=⟨q.1,[(r.1:Int)],z.y.Ai+(t.1:Nat)⟩) ?_
    refine Azn (E:=D5) (c1:=ys.flatten) (c2:=[aa q.1,ab (some ⟨gf,0,none⟩) 1 1,aa (z.y.Ai+(t.1:Nat))]) (x1:=z.y.Ah) (x2:=[⟨q.1,[(r.1:Int)],z.y.Ai+(t.1:Nat)⟩]) rfl rfl ?_;refine P0 (E:=D5) (m:=3) (v:=.agg (ys.flatten++([aa q.1,ab (some ⟨gf,0,none⟩) 1 1,aa (z.y.Ai+(t.1:Nat))]:am)).toArray) (ys:=ys++[([aa q.1,ab (some ⟨gf,0,none⟩) 1 1,aa (z.y.Ai+(t.1:Nat))]:am)]) (xs:=z.y.Ah++[(⟨q.1,[(r.1:Int)],z.y.Ai+(t.1:Nat)⟩:Gz)]) rfl HL EX fun F9=>?_
    exact AO
   ·refine oC ?_;refine Be (Ee _ g F 9 r.2 hr2 EV EV) fun t ht=>?_;obtain ⟨ht1,ht2⟩:=ht;have hk0:=z1.k0;have hk1:=z1.k1;refine dk ?_;refine dt 13 ?_;refine dN 8 ?_;apply Iz;rfl;rfl;rfl;rfl;exact Ir;exact Io;intro _;rename_i gf;refine Eh (E:=Bb) (xs:=[(r.1:Int)]) (Oq _) ?_ EX;refine Av (E:=Bb) fun F10=>?_;refine dk ?_;refine dt 14 ?_;refine dN 15 ?_;apply Iz;rfl;rfl;rfl;rfl;exact Ir;exact Io;intro _;refine Sz ⟨q.1,[(r.1:Int)],z.y.Ai+(t.1:Nat)⟩ ?_;refine dk ?_;refine dN 16 ?_
    refine Np (ys:=[([aa q.1,ab (some ⟨gf,0,none⟩) 1 1,aa (z.y.Ai+(t.1:Nat))]:am)]) (Xg (m:=3) (cs:=[aa q.1,ab (some ⟨gf,0,none⟩) 1 1,aa (z.y.Ai+(t.1:Nat))]) rfl FJ) (Pv 3) (fun a9 c9 F11=>?_);refine dk ?_;refine dt 17 ?_;refine dN 18 ?_;refine oS ?_;refine N2 ?_;refine dd ?_;refine go ?_;refine Av (E:=EC 3) fun F8=>?_;refine Aof (E:=D5) (x:=⟨q.1,[(r.1:Int)],z.y.Ai+(t.1:Nat)⟩) ?_
    refine Azn (E:=D5) (c1:=ys.flatten) (c2:=[aa q.1,ab (some ⟨gf,0,none⟩) 1 1,aa (z.y.Ai+(t.1:Nat))]) (x1:=z.y.Ah) (x2:=[⟨q.1,[(r.1:Int)],z.y.Ai+(t.1:Nat)⟩]) rfl rfl ?_;refine P0 (E:=D5) (m:=3) (v:=.agg (ys.flatten++([aa q.1,ab (some ⟨gf,0,none⟩) 1 1,aa (z.y.Ai+(t.1:Nat))]:am)).toArray) (ys:=ys++[([aa q.1,ab (some ⟨gf,0,none⟩) 1 1,aa (z.y.Ai+(t.1:Nat))]:am)]) (xs:=z.y.Ah++[(⟨q.1,[(r.1:Int)],z.y.Ai+(t.1:Nat)⟩:Gz)]) rfl HL EX fun F9=>?_
    exact AO
  refine go ?_;refine A1 rfl (fun e2=>?_) (fun e2=>?_)
  ·refine D9 (x:=z.y) (F:=z.F) ?_;rintro b1 d1 G1 e5 m1;simp only [Value.agg.injEq,Array.mk.injEq,List.cons.injEq,Value.slice.injEq,Value.int.injEq,cJ,cK] at e5;obtain ⟨rfl,rfl⟩:=e5;have hk0:=z1.k0;have hk1:=z1.k1;refine Ae3 Vw (xs:=z.y.Ah) (m:=3) rfl fun ys Fy Gy hyl hym=>?_;refine Ih ?_;intros;refine Ar [4] [11] ?_;refine C8 1 2 4 5 ?_;refine Dg 6 7 ?_;refine dM 0 8 ?_ ?_
   ·apply Kj;rfl;intro _;refine C1 (EC 3) ?_;refine dk ?_;refine dM 3 8 ?_ ?_
    ·refine Nm (ys:=ys) (Pv 3) (Ib 3) (fun a7 c7 F7=>?_) (hn:=hyl.symm) (h63:=GS) (hby:=GS);rw [aZ];refine dk ?_;refine dN 8 ?_;apply Iz;rfl;rfl;rfl;rfl;exact Ir;exact Io;intro _;refine Cm Bb EW ?_;refine Sz ⟨77,[],z.y.Ai+2⟩ ?_;refine dk ?_;refine dN 9 ?_;refine Np (ys:=[([aa 77,ab none 0 0,aa (z.y.Ai+2)]:am)]) (Xg (m:=3) (cs:=[aa 77,ab none 0 0,aa (z.y.Ai+2)]) rfl FJ) (Pv 3) (fun a9 c9 F11=>?_);refine dk ?_;refine dt 10 ?_;refine dN 11 ?_;refine oS ?_;refine N2 ?_;refine dd ?_
     refine go ?_;refine Av (E:=EC 3) fun F8=>?_;refine Aof (E:=D5) (x:=⟨77,[],z.y.Ai+2⟩) ?_;refine Azn (E:=D5) (c1:=ys.flatten) (c2:=[aa 77,ab none 0 0,aa (z.y.Ai+2)]) (x1:=z.y.Ah) (x2:=[⟨77,[],z.y.Ai+2⟩]) rfl rfl ?_;refine P0 (E:=D5) (m:=3) (v:=.agg (ys.flatten++([aa 77,ab none 0 0,aa (z.y.Ai+2)]:am)).toArray) (ys:=ys++[([aa 77,ab none 0 0,aa (z.y.Ai+2)]:am)]) (xs:=z.y.Ah++[(⟨77,[],z.y.Ai+2⟩:Gz)]) rfl HL EX fun F9=>?_
     exact AH
    ·apply Iz;rfl;rfl;rfl;rfl;exact Ir;exact Io;intro _;refine Cm Bb EW ?_;refine Sz ⟨77,[],z.y.Ai+2⟩ ?_;refine dk ?_;refine dN 3 ?_;refine Nm (ys:=ys) (Pv 3) (Ib 3) (fun a7 c7 F7=>?_) (hn:=hyl.symm) (h63:=GS) (hby:=GS);rw [aZ];refine dk ?_;refine dN 9 ?_;refine Np (ys:=[([aa 77,ab none 0 0,aa (z.y.Ai+2)]:am)]) (Xg (m:=3) (cs:=[aa 77,ab none 0 0,aa (z.y.Ai+2)]) rfl FJ) (Pv 3) (fun a9 c9 F11=>?_);refine dk ?_;refine dt 10 ?_;refine dN 11 ?_;refine oS ?_;refine N2 ?_;refine dd ?_
     refine go ?_;refine Av (E:=EC 3) fun F8=>?_;refine Aof (E:=D5) (x:=⟨77,[],z.y.Ai+2⟩) ?_;refine Azn (E:=D5) (c1:=ys.flatten) (c2:=[aa 77,ab none 0 0,aa (z.y.Ai+2)]) (x1:=z.y.Ah) (x2:=[⟨77,[],z.y.Ai+2⟩]) rfl rfl ?_;refine P0 (E:=D5) (m:=3) (v:=.agg (ys.flatten++([aa 77,ab none 0 0,aa (z.y.Ai+2)]:am)).toArray) (ys:=ys++[([aa 77,ab none 0 0,aa (z.y.Ai+2)]:am)]) (xs:=z.y.Ah++[(⟨77,[],z.y.Ai+2⟩:Gz)]) rfl HL EX fun F9=>?_
     exact AH
   ·apply Iz;rfl;rfl;rfl;rfl;exact Ir;exact Io;intro _;refine Cm Bb EW ?_;refine Sz ⟨77,[],z.y.Ai+2⟩ ?_;refine dk ?_;refine dN 0 ?_;apply Kj;rfl;intro _;refine C1 (EC 3) ?_;refine dk ?_;refine dN 3 ?_;refine Nm (ys:=ys) (Pv 3) (Ib 3) (fun a7 c7 F7=>?_) (hn:=hyl.symm) (h63:=GS) (hby:=GS);rw [aZ];refine dk ?_;refine dN 9 ?_;refine Np (ys:=[([aa 77,ab none 0 0,aa (z.y.Ai+2)]:am)]) (Xg (m:=3) (cs:=[aa 77,ab none 0 0,aa (z.y.Ai+2)]) rfl FJ) (Pv 3) (fun a9 c9 F11=>?_);refine dk ?_
    refine dt 10 ?_;refine dN 11 ?_;refine oS ?_;refine N2 ?_;refine dd ?_;refine go ?_;refine Av (E:=EC 3) fun F8=>?_;refine Aof (E:=D5) (x:=⟨77,[],z.y.Ai+2⟩) ?_;refine Azn (E:=D5) (c1:=ys.flatten) (c2:=[aa 77,ab none 0 0,aa (z.y.Ai+2)]) (x1:=z.y.Ah) (x2:=[⟨77,[],z.y.Ai+2⟩]) rfl rfl ?_;refine P0 (E:=D5) (m:=3) (v:=.agg (ys.flatten++([aa 77,ab none 0 0,aa (z.y.Ai+2)]:am)).toArray) (ys:=ys++[([aa 77,ab none 0 0,aa (z.y.Ai+2)]:am)]) (xs:=z.y.Ah++[(⟨77,[],z.y.Ai+2⟩:Gz)]) rfl HL EX fun F9=>?_
    exact AH
  ·refine go ?_;refine ret ⟨z.y,z.a,z.c,z.F,0,s3⟩ ⟨by show z.y.Ah.length<=1000;omega,fun e he=>(by have:=z1.f e he;have:=z1.mm;omega),hp.mono EV⟩ rfl
theorem M9 {n:Dt} (h:At n=true):2<=n.Ap.Ad.length/\n.Ap.Ad.length<=8/\n.down.length<=8/\n.up.length=n.down.length/\n.Af.length=n.Ap.Ad.length/\n.down.length=n.Ap.Ad.length:=by
 have hG:=Ax.1 h;have h1:=(Hi hG.t).n0;have h2:=(Hi hG.t).n1;obtain ⟨q1,q2,q3,q4⟩:=Bk.1 hG.l;exact ⟨h1,h2,EV,EV,EV,EV⟩
theorem Ach {n:Dt} (h:At n=true):∀q∈n.down++n.up,q.length<=6:=fun q hq=>by
 obtain ⟨-, -,e3,e4⟩:=Hx h;rcases aJ.1 hq with hq|hq
 ·exact (C5 (e3 q hq)).1
 ·exact (C5 (e4 q hq)).1
structure NtD where
 n:Dt
 cs:am
 F:aq
 s:N1
structure NtW where
 n:Dt
 cs:am
 F:aq
 i:Nat
 s:N1
structure Bhp (B:Nat) (z:NtW):Prop where
 g:At z.n=true
 i:z.i<=23
 s:Hw (B+400+200 * (23 - z.i)) z.s
theorem Azc {n:Dt} {p:As} (h:∀q∈n.down++n.up,q.length<=6):∀q∈n.down++n.up.set 1 [p],q.length<=6:=fun q hq=>by
 rcases aJ.1 hq with hq|hq
 ·exact h q (cA _ hq)
 ·rcases bC hq with hq|rfl
  ·exact h q (eJ _ hq)
  ·exact (by decide:1<=6)
theorem Bev (B g:Nat) (F:CuF) (s:N1) (FT:aq) (ok:Hw B s) (hB:B<=600000000000) :
  Fn prog 45 [Gc g 0 0] [.sl Jq (ab F.a F.B4.length F.c) F.B4 F.bs,Gk FT] [.row g 60 0 [] [ab F.a F.B4.length F.c,aa (s.k:Nat),.int .u64 s.Hm] []] (fun (z:NtD)=>(2<=z.n.Ap.Ad.length/\z.n.Ap.Ad.length<=8/\z.n.down.length<=8/\z.n.up.length=z.n.down.length/\(∀q∈z.n.down++z.n.up,q.length<=6)/\Pl z.n/\z.n.Ab.Aa.Ak.length<=1000)/\Hw (B+9000) z.s) (fun z=>.agg z.cs.toArray)
   (fun z=>[.isv Oi (.agg z.cs.toArray) z.n z.F,.row g 60 0 [] [ab F.a F.B4.length F.c,aa (z.s.k:Nat),.int .u64 z.s.Hm] []]):=by
 refine enter func45 rfl ntmps45 fun w0=>?_;refine go ?_;intros;refine Be (Aq0 B g F s ok EV) fun t ht=>?_;obtain ⟨ht1,ht2⟩:=ht;refine go ?_;refine Be (Tl _ g F t.s ht2 EV) fun m hm=>?_;obtain ⟨hm1,hm2⟩:=hm;refine go ?_;refine Be (Ee _ g F 6 m.2 hm2 EV EV) fun y hy=>?_;obtain ⟨k1,s1⟩:=y;obtain ⟨r1,h1⟩:=hy;dsimp only at r1 h1 ⊢;have r1:k1<=5:=EV
 refine Ih ?_;intros;refine Av (E:=Bb) (xs:=t.l) fun Ft=>?_;refine Jw ⟨t.l⟩ ?_;refine go ?_;refine Be (Abo ⟨t.l⟩ m.1 (1+(k1:Nat)) _ _) fun z _=>?_;obtain ⟨en,gn⟩:=Agl (t:=⟨t.l⟩) (f:=m.1) (y:=1+(k1:Nat)) ht1 hm1.1 hm1.2 EV EV;rw [en];obtain ⟨cs,F0⟩:=z;dsimp only;generalize hN:Wv ⟨t.l⟩ m.1 (1+(k1:Nat))=N at *;refine Sg Ye fun F0=>?_;refine Fb (x:=N) ?_;rintro b01 d01 G01 b02 d02 G02 b03 d03 G03 b04 d04 G04 b05 d05 G05 b06 d06 G06 b07 d07 G07 ev - - - - - - -;obtain rfl:=O3 ev;clear ev;refine go ?_;intros;rename_i g3;refine Be (Ee _ g F 24 s1 h1 EV EV) fun y hy=>?_
 obtain ⟨r0,s2⟩:=y;obtain ⟨hr0,h2⟩:=hy;dsimp only at hr0 h2 ⊢;have hr0:r0<=23:=EV
 refine go ?_;refine Ca [0,2,3] (fun z:NtW=>[(5,aa (z.i:Nat))]) (fun z=>[.row g3 37 0 [] z.cs [],.isv Oi (.agg z.cs.toArray) z.n z.F,.row g 60 0 [] [ab F.a F.B4.length F.c,aa (z.s.k:Nat),.int .u64 z.s.Hm] []]) (Bhp B) (fun z=>z.i) ⟨N,_,_,r0,s2⟩ ⟨gn,hr0,h2.mono (by show _<=B+400+200 * (23 - r0);omega)⟩ fun z hz=>?_;obtain ⟨x,cs,Fx,zi,zs⟩:=z;obtain ⟨z1,z2,z4⟩:=hz;obtain ⟨q2,q8,qd,qu,qe,qt⟩:=M9 z1;have qq:=Ach z1;have hsm:Pl x:=Ox z1;have hit:x.Ab.Aa.Ak.length<=1000:=by have h:x.Ab.Aa.Ak.length<=6:=(J9 (Ax.1 z1).s).l;omega
 dsimp only at z1 z2 z4 q2 q8 qd qu qe qt qq ⊢;refine Fb (x:=x) ?_;rintro b1 d1 G1 b2 d2 G2 b3 d3 G3 b4 d4 G4 b5 d5 G5 b6 d6 G6 b7 d7 G7 ev - - - - - - -;obtain rfl:=O3 ev;clear ev;refine go ?_;refine A1 rfl (fun h3=>?_) (fun h3=>?_)
 ·have hi0:0 < zi:=EV
  refine Ih ?_;intros;refine Ar [7] [5,6,7,8,10,11,12] ?_;refine dtl 0 ?_;refine dtl 1 ?_;refine dtl 2 ?_;refine dM 3 9 ?_ ?_
  ·refine oC ?_;refine Be (Alg _ g F _ x _ _ EV EV EV EV qq z4 EV) fun t ht=>?_;obtain ⟨t1,t2,t3⟩:=ht;refine dk ?_;refine dM 4 9 ?_ ?_
   ·refine oC ?_;refine Be (Uw x t.t _ _ FT t2 z1 t1) fun y _=>?_;obtain ⟨ys,yF,ya,yc,yG⟩:=y;dsimp only;refine Fb (x:=(Bi x t.t).1) ?_;rintro e1 f1 K1 e2 f2 K2 e3 f3 K3 e4 f4 K4 e5 f5 K5 e6 f6 K6 e7 f7 K7 ev - - - - - - -;obtain rfl:=O3 ev;clear ev;refine dk ?_;refine R5 5 ?_;refine R5 6 ?_;refine R5 7 ?_;refine R5 8 ?_;refine dN 9 ?_;apply Ci;rfl;intro _;refine dk ?_;refine dN 10 ?_;refine oS ?_;refine N2 ?_;refine R5 11 ?_;refine R5 12 ?_;refine dd ?_;rename_i g6;cases eb:(Bi x t.t).2.2
    ·exact AW
    ·exact AS
   ·apply Ci;rfl;intro _;refine dk ?_;refine dN 4 ?_;refine oC ?_;refine Be (Uw x t.t _ _ FT t2 z1 t1) fun y _=>?_;obtain ⟨ys,yF,ya,yc,yG⟩:=y;dsimp only;refine Fb (x:=(Bi x t.t).1) ?_;rintro e1 f1 K1 e2 f2 K2 e3 f3 K3 e4 f4 K4 e5 f5 K5 e6 f6 K6 e7 f7 K7 ev - - - - - - -;obtain rfl:=O3 ev;clear ev;refine dk ?_;refine R5 5 ?_;refine R5 6 ?_;refine R5 7 ?_;refine R5 8 ?_;refine dN 10 ?_;refine oS ?_;refine N2 ?_;refine R5 11 ?_;refine R5 12 ?_;refine dd ?_;rename_i g6;cases eb:(Bi x t.t).2.2
    ·exact AW
    ·exact AS
  ·apply Ci;rfl;intro _;refine dk ?_;refine dN 3 ?_;refine oC ?_;refine Be (Alg _ g F _ x _ _ EV EV EV EV qq z4 EV) fun t ht=>?_;obtain ⟨t1,t2,t3⟩:=ht;refine dk ?_;refine dN 4 ?_;refine oC ?_;refine Be (Uw x t.t _ _ FT t2 z1 t1) fun y _=>?_;obtain ⟨ys,yF,ya,yc,yG⟩:=y;dsimp only;refine Fb (x:=(Bi x t.t).1) ?_;rintro e1 f1 K1 e2 f2 K2 e3 f3 K3 e4 f4 K4 e5 f5 K5 e6 f6 K6 e7 f7 K7 ev - - - - - - -;obtain rfl:=O3 ev;clear ev;refine dk ?_;refine R5 5 ?_;refine R5 6 ?_;refine R5 7 ?_;refine R5 8 ?_;refine dN 10 ?_;refine oS ?_;refine N2 ?_;refine R5 11 ?_
   refine R5 12 ?_;refine dd ?_;rename_i g6;cases eb:(Bi x t.t).2.2
   ·exact AW
   ·exact AS
 refine go ?_;refine Be (Ee _ g F 32 zs z4 EV EV) fun y hy=>?_;obtain ⟨r6,s6⟩:=y;obtain ⟨hr6,h6⟩:=hy;dsimp only at hr6 h6 ⊢;have hr6:r6<=31:=EV
 refine go ?_;refine A1 rfl (fun e0=>?_) (fun e0=>?_)
 ·refine go ?_;refine Be (Aze _ g F s6 h6 EV) fun y hy=>?_;obtain ⟨hy1,hy2,hy3⟩:=hy;refine Gn (x:=y.y) ?_;rintro a2 c2 L2 a3 c3 L3 ev - -;simp only [Value.agg.injEq,Array.mk.injEq,List.cons.injEq,Value.slice.injEq,cJ,cK] at ev;obtain ⟨⟨rfl,rfl⟩,rfl,rfl⟩:=ev;refine go ?_;refine E5 ⟨x.Ap,y.y,x.Af,x.Ac,x.down,x.up⟩ (a1:=b1) (a2:=y.a) (a3:=y.a2) (a4:=b4) (a5:=b5) (a6:=b6) (a7:=b7) ?_
  refine ret ⟨⟨x.Ap,y.y,x.Af,x.Ac,x.down,x.up⟩,_,_,y.s⟩ ⟨⟨q2,q8,qd,qu,qq,{ hsm with i:=by show y.y.Aa.Ak.length<=_;omega,h:=by show y.y.holds.length<=_;omega },by show y.y.Aa.Ak.length<=1000;omega⟩,hy3.mono EV⟩ rfl
 refine go ?_;refine A1 rfl (fun e1=>?_) (fun e1=>?_)
 ·refine go ?_;refine Be (Aq0 _ g F s6 h6 EV) fun y hy=>?_;obtain ⟨hy1,hy2⟩:=hy;refine Av (E:=Bb) (xs:=y.l) fun Ft=>?_;refine go ?_;refine E5 ⟨⟨y.l⟩,x.Ab,x.Af,x.Ac,x.down,x.up⟩ (a1:=y.a) (a2:=b2) (a3:=b3) (a4:=b4) (a5:=b5) (a6:=b6) (a7:=b7) ?_;refine ret ⟨⟨⟨y.l⟩,x.Ab,x.Af,x.Ac,x.down,x.up⟩,_,_,y.s⟩ ⟨⟨hy1.n0,hy1.n1,qd,qu,qq,{ hsm with t:=by have:=hy1.n1;show y.l.length<=_;omega },hit⟩,hy2.mono EV⟩ rfl
 refine go ?_;refine A1 rfl (fun e2=>?_) (fun e2=>?_)
 ·refine Ae3 (Bb9 Al EW) (xs:=x.up) (m:=1) rfl fun ys Fy Gy hyl hym=>?_;refine Ih ?_;intros;refine C1 (EC 1) ?_;refine go ?_;apply wO;refine Nm (ys:=ys) (Pv 1) (Ib 1) (fun a7 c7 F7=>?_) (hn:=hyl.symm) (h63:=KK) (hby:=KK);rw [aZ];refine go ?_;have h1u:1 < ys.length:=EV
  obtain ⟨v9,e9⟩:∃v,ys[1]=[v]:=List.length_eq_one_iff.1 (hym _ (aB h1u));refine Rm (E:=EC 1) (xs:=ys) (m:=1) (Ib 1) 1 ?_ EZ rfl h1u;rintro _ gq A cq Bq rfl k2 k3 hH;obtain ⟨k4, -, -⟩:=k3 w0;rw [e9] at k4;subst k4;dsimp only [List.append];refine Ih ?_;intros;refine Ar [11] [6] ?_;refine Dg 0 1 ?_;refine dt 2 ?_;refine dN 3 ?_;refine oC ?_;refine Be (Al8 _ g F s6 h6 EV) fun p hp=>?_;obtain ⟨hp1,hp2⟩:=hp;refine dk ?_;refine dN 4 ?_;apply Iz;rfl;rfl;rfl;rfl;exact Ir;exact Io;intro _;rename_i gp
  refine Eh (E:=Al) (xs:=[p.1]) (De p.1 hp1) ?_ EX;refine Av (E:=Al) (xs:=[p.1]) fun Fp=>?_;refine dk ?_;refine dt 5 ?_;refine dN 6 ?_;refine oS ?_;refine N2 ?_;refine dd ?_;refine P5 (E:=EC 1) (xs:=ys) [ab (some ⟨gp,0,none⟩) 1 1] hH (fun w=>⟨rfl,⟨rfl,FJ⟩,rfl⟩) ?_;refine Aae (E:=Al) (x:=[p.1]) EW ?_;refine Qq (E:=Oc Al EW) (ys:=ys) (xs:=x.up) (x:=[p.1]) 1 rfl hym EV fun G'=>?_;refine Av (E:=EC 1) (xs:=ys.set 1 [ab (some ⟨gp,0,none⟩) 1 1]) fun F8=>?_
  refine P0 (E:=Oc Al EW) (m:=1) (ys:=ys.set 1 [ab (some ⟨gp,0,none⟩) 1 1]) (xs:=x.up.set 1 [p.1]) rfl HL rfl fun F9=>?_;rw [show ys.length=(x.up.set 1 [p.1]).length by simp [hyl]];refine go ?_;refine E5 ⟨x.Ap,x.Ab,x.Af,x.Ac,x.down,x.up.set 1 [p.1]⟩ (a1:=b1) (a2:=b2) (a3:=b3) (a4:=b4) (a5:=b5) (a6:=b6) ?_
  refine ret ⟨⟨x.Ap,x.Ab,x.Af,x.Ac,x.down,x.up.set 1 [p.1]⟩,_,_,p.2⟩ ⟨⟨q2,q8,qd,by show (x.up.set 1 [p.1]).length=x.down.length;rw [bQ];exact qu,Azc qq,{ hsm with uq:=fun q hq=>(bC hq).elim (fun hq=>hsm.uq q hq) (fun e=>by rw [e];exact (by decide:1<=1048576)),u:=by show (x.up.set 1 [p.1]).length<=_;rw [bQ];exact hsm.u },hit⟩,hp2.mono EV⟩ rfl
 refine go ?_;refine A1 rfl (fun e3=>?_) (fun e3=>?_)
 ·refine Ae3 Ak4 (xs:=x.Af) (m:=2) rfl fun ys Fy Gy hyl hym=>?_;refine Ih ?_;intros;refine C1 (EC 2) ?_;refine go ?_;apply wO;refine Nm (ys:=ys) (Pv 2) (Ib 2) (fun a7 c7 F7=>?_) (hn:=hyl.symm) (h63:=KK) (hby:=KK);rw [aZ];refine go ?_;have h1u:1 < ys.length:=EV
  obtain ⟨v9,u9,e9⟩:∃v u,ys[1]=[v,u]:=by
   have h2:=hym _ (aB h1u)
   match hY:ys[1],h2 with
   | [v,u],_=>exact ⟨v,u,rfl⟩
  refine Rm (E:=EC 2) (xs:=ys) (m:=2) (Ib 2) 1 ?_ EZ rfl h1u;rintro _ gq A cq Bq rfl k2 k3 hH;obtain ⟨k4, -, -⟩:=k3 w0;rw [e9] at k4;subst k4;dsimp only [List.append];refine Ih ?_;intros;refine Ar [11] [5] ?_;refine Dg 0 1 ?_;refine dt 2 ?_;refine dN 3 ?_;refine oC ?_;refine Be (Api _ g F s6 h6 EV) fun p hp=>?_;obtain ⟨hp1,hp3,hp2⟩:=hp;refine dk ?_;refine dt 4 ?_;refine dN 5 ?_;refine oS ?_;refine N2 ?_;refine dd ?_
  refine P5 (E:=EC 2) (xs:=ys) [aa p.y.Ai,ab p.a p.y.Ah.length p.c] hH (fun w=>⟨rfl,⟨rfl,FJ⟩,rfl⟩) ?_;refine Qq (E:=Bv) (ys:=ys) (xs:=x.Af) (x:=p.y) 1 rfl hym EV fun G'=>?_;refine Av (E:=EC 2) (xs:=ys.set 1 [aa p.y.Ai,ab p.a p.y.Ah.length p.c]) fun F8=>?_;refine P0 (E:=Bv) (m:=2) (ys:=ys.set 1 [aa p.y.Ai,ab p.a p.y.Ah.length p.c]) (xs:=x.Af.set 1 p.y) rfl HL rfl fun F9=>?_;rw [show ys.length=(x.Af.set 1 p.y).length by simp [hyl]];refine go ?_
  refine E5 ⟨x.Ap,x.Ab,x.Af.set 1 p.y,x.Ac,x.down,x.up⟩ (a1:=b1) (a2:=b2) (a3:=b3) (a5:=b5) (a6:=b6) (a7:=b7) ?_;refine ret ⟨⟨x.Ap,x.Ab,x.Af.set 1 p.y,x.Ac,x.down,x.up⟩,_,_,p.s⟩ ⟨⟨q2,q8,qd,qu,qq,{ hsm with e:=by show (x.Af.set 1 p.y).length<=_;rw [bQ];exact hsm.e,e1:=fun e he=>(bC he).elim (fun he=>hsm.e1 e he) (fun h=>by rw [h];omega),e2:=fun e he f hf=>(bC he).elim (fun he=>hsm.e2 e he f hf) (fun h=>by rw [h] at hf;have:=hp3 f hf;omega) },hit⟩,hp2.mono EV⟩ rfl
 refine go ?_;refine E5 x (a1:=b1) (a2:=b2) (a3:=b3) (a4:=b4) (a5:=b5) (a6:=b6) (a7:=b7) ?_;refine ret ⟨x,_,_,s6⟩ ⟨⟨q2,q8,qd,qu,qq,hsm,hit⟩,h6.mono EV⟩ rfl
section
variable {c:Cx} {fr:Fr} {H:List Pc} {Φ:Gl}
end
end Go.Proofs.YtkoldibamfjghaaGreatDoor
namespace Go.Proofs.YtkoldibamfjghaaGreatDoor

open Go.RowKit
end Go.Proofs.YtkoldibamfjghaaGreatDoor
namespace Go.Proofs.YtkoldibamfjghaaGreatDoor
open Go.RowKit
structure MkF {α:Type} (mk:Int->α->α) (cn:α->Nat) (k0:Int) (xs:List α) (i:Nat) (K:Int):Prop where
 hi:i < xs.length
 st:((Arp mk cn k0 xs).take i++xs.drop i).set i (mk K xs[i])=(Arp mk cn k0 xs).take (i+1)++xs.drop (i+1)
 nx:K+((cn xs[i]:Nat):Int)=k0+((Bh6 cn xs (i+1):Nat):Int)
 up:K+((cn xs[i]:Nat):Int)<=k0+((Bhy cn xs:Nat):Int)
 lo:k0<=K
 ml:((Arp mk cn k0 xs).take i++xs.drop i).length=xs.length
end Go.Proofs.YtkoldibamfjghaaGreatDoor
namespace Go.Proofs.YtkoldibamfjghaaGreatDoor

open Go.RowKit
end Go.Proofs.YtkoldibamfjghaaGreatDoor
namespace Go.Proofs.YtkoldibamfjghaaGreatDoor
open Go.RowKit
def Bhi:Cu:=⟨Sh,⟨⟨#[]⟩,⟨#[]⟩,0⟩⟩
def Ot (t:Q0) (f y:Int):Cu × Bool:=if (Kk t f y).2 then (⟨(Kk t f y).1,⟨⟨#[]⟩,⟨#[]⟩,0⟩⟩,true) else (Bhi,false)
theorem Ac9 (t:Q0) (f y:Int) (v:Value) (F:aq):Fn prog 46 [v,aa f,aa y] [.isv Wh v t F] [] (fun (_:am × aq)=>True) (fun s=>.tuple #[.agg s.1.toArray,.bool (Ot t f y).2]) (fun s=>[.own Wy (.agg s.1.toArray) (Ot t f y).1 s.2]):=by
 refine enter func46 rfl ntmps46 fun w0=>?_;refine Pw ?_;rintro a0 c0 F0 rfl l0;refine Cj Bb 3 ?_;refine Cj A8 9 ?_;refine Cj Bx 191 ?_;refine Cj Ch 122 ?_;refine Cj B9 76 ?_;refine Cj (Kl Al 141) 125 ?_;refine Cj (Kl Al 141) 125 ?_;refine Qu Bhi (aE _) (aE _) ?_;refine go ?_;intros;refine Be (Abo t f y _ F) fun s _=>?_;unfold Ot;generalize hr:Kk t f y=r;refine Xw (x:=r.1) ?_;rintro a1 c1 F1 a2 c2 F2 a3 c3 F3 a4 c4 F4 a5 c5 F5 a6 c6 F6 a7 c7 F7 e l1 l2 l3 l4 l5 l6 l7;rw [e];refine go ?_;intros;cases hb:r.2
 ·refine go ?_;refine ret ([ab none 0 0,aa 0,aa 0,ab none 0 0,aa 0,aa 0,ab none 0 0,ab none 0 0,ab none 0 0,ab none 0 0,ab none 0 0]++[af ⟨#[]⟩,af ⟨#[]⟩,aa 0],_) trivial rfl
 ·refine go ?_;refine Qu (⟨r.1,⟨⟨#[]⟩,⟨#[]⟩,0⟩⟩:Cu) (aE _) (aE _) (a6:=a6) (a7:=a7) ?_;exact CD
def Wo (l:Log):List Ha:=(Bm (l.Bj.data.toList++l.pending.data.toList)).map Lg.O5
def Yn (l:Log):Bool:=Fs l.Bj.data.toList l.pending.data.toList l.count
def Arm (c:Cu) (line:au):List Ha:=if Of line=true/\¬c.Im.count=60 then [⟨line,(Rh c line).2⟩] else []
theorem Aaz {c:Cu} {line:au} (h:¬(Of line=true/\¬c.Im.count=60)):(Rh c line).1=c/\((Rh c line).2=bz Baa\/(Rh c line).2=bz Aoq):=by
 unfold Rh;by_cases h1:Of line=true
 ·rw [aH h1,aH (cX.1 fun h2=>h ⟨h1,h2⟩)];exact ⟨rfl,.inr rfl⟩
 ·rw [aC h1];exact ⟨rfl,.inl rfl⟩
theorem Afx {c:Cu} {line:au} (h:Of line=true/\¬c.Im.count=60):Rh c line=(⟨Hl c.Bt line,P8 c.Im line (Rk (Py c.Bt line))⟩,Rk (Py c.Bt line)):=by
 unfold Rh;rw [aH h.1,aC h.2]
theorem Ayo {c:Cu} {line:au} (hg:E9 c=true):Wo (Rh c line).1.Im=Wo c.Im++Arm c line:=by
 by_cases h:Of line=true/\¬c.Im.count=60
 ·unfold E9 at hg;rw [aw] at hg;have ht:=Akn (Ala (line:=line) hg.1);have hr:=Vj h.1 ht.1 ht.2;have h2:=(Agg (l:=c.Im) hg.2 h.2 hr).2;have hG:Wx line.data.toList (Rk (Py c.Bt line)).data.toList:=Iw (by rw [<-Lg.M8];exact hr);unfold Arm;rw [aH h,Afx h];unfold Wo;dsimp only;rw [h2,bB]
  congr 1
  show [Lg.O5 (Ka _ _ _)]=_;unfold Lg.O5;rw [Aau hG,Abi hG];show [(⟨bz _,bz _⟩:Ha)]=_;rw [Uj,Uj]
 ·rw [(Aaz h).1];unfold Arm;rw [aC h,bg]
theorem Axz (t:Q0) (v:Value) (F:aq) (hl:t.Ad.length<=1000000):Fn prog 30 [v] [.isv Wh v t F] [] (fun (_:KiS)=>True) (fun z=>.slice z.a (lvs t.Ad).length z.c) (fun z=>[.ow Bb 3 (.slice z.a (lvs t.Ad).length z.c) (lvs t.Ad) z.F]):=by
 refine enter func30 rfl ntmps30 fun w0=>?_;refine Pw ?_;rintro a1 c1 F1 rfl l1;refine Cj Bb 3 ?_;refine go ?_;intros;refine Ca [1,2,7] (fun z:KiS=>[(3,.slice z.a (P9 t.Ad z.k).length z.c),(8,aa (z.k:Nat))]) (fun z=>[.ow Bb 3 (.slice z.a (P9 t.Ad z.k).length z.c) (P9 t.Ad z.k) z.F]) (fun z=>z.k<=t.Ad.length) (fun z=>t.Ad.length - z.k) ⟨0,_,_,_⟩ (aE _) fun z hz=>?_;have hkl:=Ajh t.Ad z.k;refine go ?_;refine A1 rfl (fun h1=>?_) (fun h1=>?_)
 ·have hh:z.k < t.Ad.length:=EV
  refine go ?_;refine Be (Xm t z.k _ F) fun _ _=>?_;cases g:Es t.Ad (z.k:Nat)
  ·rw [<-Ax1 g];exact DS
  ·refine Ih ?_;intros;apply wO;refine Np (Oq _) Da fun a9 c9 F9=>?_;refine go ?_;rw [<-Aug g];exact EO
 ·have hk:z.k=t.Ad.length:=EV
  rw [show P9 t.Ad z.k=lvs t.Ad by unfold lvs;rw [hk]];exact CI
end Go.Proofs.YtkoldibamfjghaaGreatDoor
namespace Go.Proofs.YtkoldibamfjghaaGreatDoor

open Go.RowKit
end Go.Proofs.YtkoldibamfjghaaGreatDoor
namespace Go.Proofs.YtkoldibamfjghaaGreatDoor
open Go.RowKit
theorem Amz {E:ai} {sep:au} {m:Nat} (hs:sep.size<=2) (hm:m<=100) (hl:E.length<=900000000000) (he:∀e∈E,e.size<=m) (k:Nat):(Lib.join ((E.take k).map (·.data.toList)) sep.data.toList).length<=100000000000000:=by
 have h:=Am0 (sep:=sep.data.toList) (m:=m) (xs:=(E.take k).map (·.data.toList)) fun x hx=>by
  obtain ⟨e,he2,rfl⟩:=bO.1 hx;rw [C0];exact he e (bR he2)
 rw [bf,aO,C0] at h;have h2:(sep.size+m) * min k E.length<=102 * 900000000000:=Nat.mul_le_mul EV EV;omega
theorem Vh (E:ai) (a:aj) (c:Nat) (F:aq) (hl:E.length<=900000000000) (he:∀e∈E,e.size<=100):FV 112 [ab a E.length c] [.sl A8 (ab a E.length c) E F] (af (Xd E)):=by
 refine enter func112 rfl ntmps112 fun w0=>?_;refine go ?_;refine A1 rfl (fun h=>?_) (fun h=>?_)
 ·have e:E=[]:=bt.1 EV;subst e;exact AA
 ·have hf:=Amz (sep:=⟨#[44,32]⟩) EW EW hl he E.length;rw [bm] at hf;refine go ?_;refine cb (fun w st=>Axm E ⟨#[44,32]⟩ a c F w (st.get (p:=.sl A8 (ab a E.length c) E F) EX) EV EV hf) ?_;refine go ?_;refine ret () trivial ?_;unfold Xd jnW;rw [aC (fun e=>h (by rw [e];rfl))];rfl
theorem Ze (l:ar) (a:aj) (c:Nat) (F FT:aq) (hf:∀f∈l,0<=f/\f<=99999) (h7:l.length<=1000):FV 198 [ab a l.length c] [.sl Bb (ab a l.length c) l F,Gk FT] (af (Uz l)):=by
 refine enter func198 rfl ntmps198 fun w0=>?_;refine go ?_;refine A1 rfl (fun h=>?_) (fun h=>?_)
 ·have e:l=[]:=bt.1 EV;subst e;exact AA
 ·refine go ?_;refine Be (Bbo l a c F FT (fun f hh=>⟨(hf f hh).1,by have:=hf f hh;show f.natAbs < 100000;omega⟩) EV h7) fun _ _=>?_;refine go ?_;refine ret () trivial ?_;unfold Uz;rw [aC (fun e=>h (by rw [e];rfl))];rfl
def jnK (sep:au) (E:ai) (k:Nat):au:=bz (Lib.join ((E.take k).map (·.data.toList)) sep.data.toList)
theorem Axk {sep:au} {E:ai} {k:Nat} (h0:0 < k) (h:k < E.length):jnK sep E (k+1)=jnK sep E k++sep++E[k]:=by
 unfold jnK;rw [aR h,bB,cH,dg,Ato _ _ _ (by rw [bf,aO];omega)];rw [<-Uj (_++E[k]),Hh,Hh,Kd,aM]
theorem Bbm {sep:au} {E:ai} (h:0 < E.length):jnK sep E 1=E[0]:=by
 unfold jnK;cases E with
 | nil=>cases h
 | cons x r =>
  rw [gm,fe,cH,dg,Lib.join_cons];simp [Lib.joinTail,Uj]
theorem Acv (E:ai) (sep:au) (a:aj) (c:Nat) (F:aq) (hs:sep.size<=2) (hl:E.length<=900000000000) (he:∀e∈E,e.size<=100):FV 132 [ab a E.length c,af sep] [.sl A8 (ab a E.length c) E F] (af (jnW sep.data.toList E)):=by
 refine enter func132 rfl ntmps132 fun w0=>?_;refine go ?_;refine A1 rfl (fun h=>?_) (fun h=>?_)
 ·have e:E=[]:=bt.1 EV;subst e;exact AA
 refine Mg (xs:=E) 0 ?_;rintro hi0 b0 o0 rfl s0;refine go ?_;rw [show E[0]=jnK sep E 1 from (Bbm hi0).symm];refine Dk [0,1,4] (fun k:Nat=>[(5,af (jnK sep E k)),(6,aa (k:Nat))]) (fun k=>1<=k/\k<=E.length) (fun k=>E.length - k) 1 ⟨aK _,EV⟩ fun k hk=>?_;obtain ⟨hk1,hk2⟩:=hk;have hz:=Amz (k:=k) hs EW hl he;have hz2:(jnK sep E k).size<=100000000000000:=by unfold jnK;rw [Jv];exact hz
 refine go ?_;refine A1 rfl (fun h3=>?_) (fun h3=>?_)
 ·have hk3:k < E.length:=EV
  have h8:=he _ (aB hk3);have hq:(jnK sep E k++sep).size=_:=aQ;refine Mg (xs:=E) k ?_;rintro hi b o e1 s1;cases e1;refine go ?_;rw [show jnK sep E k++sep++E[k]=jnK sep E (k+1) from (Axk hk1 hk3).symm];refine go ?_;rw [show ((k:Nat):Int)+1=((k+1:Nat):Int) by omega];refine Cb (k+1) ⟨EV,hk3⟩ EV
 ·have hk3:k=E.length:=EV
  subst hk3;refine go ?_;refine ret () trivial ?_;unfold jnW jnK;rw [aC (fun e=>h (by rw [e];rfl)),bm];rfl
theorem Bgs (l:ar):jnW [32] (l.map itB)=Uz l:=by
 unfold jnW Uz jn;by_cases h:l=[]
 ·subst h;rfl
 ·rw [aC h,aC FF,Af6]
structure LiS where
 k:Nat
 a:aj
 c:Nat
 F:aq
theorem Ajf (l:ar) (a:aj) (c:Nat) (F:aq) (hf:∀f∈l,0<=f/\f<=99999) (h7:l.length<=1000):FV 141 [ab a l.length c] [.sl Bb (ab a l.length c) l F] (af (Uz l)):=by
 refine enter func141 rfl ntmps141 fun w0=>?_;refine go ?_;intros;refine C1 A8 ?_;refine go ?_;refine Ca [0,2] (fun z:LiS=>[(3,.slice z.a ((l.map itB).take z.k).length z.c),(4,aa (z.k:Nat))]) (fun z=>[.ow A8 9 (.slice z.a ((l.map itB).take z.k).length z.c) ((l.map itB).take z.k) z.F]) (fun z=>z.k<=l.length) (fun z=>l.length - z.k) ⟨0,_,_,_⟩ (aE _) fun z hz=>?_;obtain ⟨k,a1,c1,F1⟩:=z;dsimp only at hz ⊢;have hml:(l.map itB).length=l.length:=bf ..;refine go ?_;refine A1 rfl (fun h3=>?_) (fun h3=>?_)
 ·have hk3:k < l.length:=EV
  have h8:=hf _ (aB hk3);have htl:((l.map itB).take k).length=k:=GA
  refine In (xs:=l) k ?_;rintro hi b o e1;rw [e1];refine go ?_;refine cb (fun w st=>Vu l[k] (by have:=h8.1;omega) EV w) ?_;refine go ?_;intros;apply wO;refine Np (E:=A8) (xs:=(l.map itB).take k) (Agv (s:=bz (Lib.itoa l[k])) (by rw [Jv,Ps h8.1];have:=D8 5 l[k].natAbs HY;unfold maxLen;omega)) Dz fun a9 c9 F9=>?_;rw [show (l.map itB).take k++[bz (Lib.itoa l[k])]=(l.map itB).take (k+1) by rw [aR EV,fN];rfl];refine go ?_;rw [show ((k:Nat):Int)+1=((k+1:Nat):Int) by omega]
  refine Cb ⟨k+1,a9,c9,F9⟩ hk3 GO
 ·have hk3:k=l.length:=EV
  subst hk3;rw [show (l.map itB).take l.length=l.map itB by rw [<-hml];exact bm];refine Av (E:=A8) (xs:=l.map itB) fun F8=>?_;refine go ?_;refine cf (Acv (l.map itB) ⟨#[32]⟩ a1 c1 F8 EW EV (fun e hh=>by
   obtain ⟨f,hf2,rfl⟩:=bO.1 hh;have h9:=hf f hf2;unfold itB;rw [Jv,Ps h9.1];have:=D8 5 f.natAbs HY;omega)) fun _ _=>?_
  refine Oz ?_;refine go ?_;refine ret () trivial ?_;rw [<-Bgs l];rfl
def Zy:List (au × Int)->Nat->List MapEntry
 | [],_=>[]
 | (s,n)::r,i=>{ key:=.string s,val:=.int .i64 n,born:=i }::Zy r (i+1)
theorem Aip (s:au) (n:Int):∀(es:List (au × Int)) (i:Nat),Zy (es++[(s,n)]) i=Zy es i++[{ key:=af s,val:=aa n,born:=i+es.length }]
 | [],i=>rfl
 | (t,m)::r,i=>by
  show _::Zy (r++[(s,n)]) (i+1)=_::(Zy r (i+1)++_);rw [Aip s n r (i+1),aU,show i+1+r.length=i+(r.length+1) by omega]
def Bhl:Bw (Nat × List (au × Int)) where
 sz:=0
 Kz w cs x F:=cs=[]/\F=[x.1]/\w.heap[x.1]?=some (.map (Zy x.2 0).toArray x.2.length)
 len h:=JI
 lt h:=by
  obtain ⟨-,rfl,h⟩:=h;intro b hb;rw [aL] at hb;subst hb;exact (bG.1 h).1
 frame h hF:=by
  obtain ⟨h1,rfl,h⟩:=h;exact ⟨h1,rfl,by rw [hF _ EX];exact h⟩
def MpP (b:Nat) (es:List (au × Int)):Pc:=.own Bhl (.agg #[]) (b,es) [b]
theorem MpP.at_ {b:Nat} {es:List (au × Int)} {w:World} (h:(MpP b es).P w):w.heap[b]?=some (.map (Zy es 0).toArray es.length):=by
 obtain ⟨-,cs, -,h⟩:=h;exact h.2.2
theorem MpP.mk {b:Nat} {es:List (au × Int)} {w:World} (h:w.heap[b]?=some (.map (Zy es 0).toArray es.length)):(MpP b es).P w:=⟨EX,[],rfl,rfl,rfl,h⟩
def Ws:List (au × Int)->au->Option Int
 | [],_=>none
 | (k,n)::r,s=>if s=k then some n else Ws r s
theorem Bfc {s k:au} (h:s=k):Instr.sameNow .string (af s) (af k)=some true:=by
 obtain ⟨r,hr,hi⟩:=MapKept.sameNow_of_keys (d:=.string) (a:=af s) (b:=af k) IC IC;rw [hr,hi.2 (by rw [h])]
theorem Ay7 {s k:au} (h:¬s=k):Instr.sameNow .string (af s) (af k)=some false:=by
 obtain ⟨r,hr,hi⟩:=MapKept.sameNow_of_keys (d:=.string) (a:=af s) (b:=af k) IC IC;rw [hr];cases r
 ·rfl
 ·have:=hi.1 rfl;simp at this;exact absurd this h
theorem Acc {s:au}:∀{es:List (au × Int)} (j i:Nat),Ws es s=none->Instr.findNow .string (af s) (Zy es j) i=some none
 | [],_,_,_=>rfl
 | (k,n)::r,j,i,h=>by
  unfold Ws at h
  split at h
  ·cases h
  ·rename_i hk;unfold Zy Instr.findNow;rw [Ay7 hk];exact Acc (j+1) (i+1) h
theorem Ais {s:au} {n:Int}:∀{es:List (au × Int)} (j i:Nat),Ws es s=some n->∃m,Instr.findNow .string (af s) (Zy es j) i=some (some (m,aa n))
 | [],_,_,h=>by cases h
 | (k,v)::r,j,i,h=>by
  unfold Ws at h
  split at h
  ·rename_i hk;cases h;refine ⟨i,?_⟩;unfold Zy Instr.findNow;rw [Bfc hk]
  ·rename_i hk;obtain ⟨m,hm⟩:=Ais (j+1) (i+1) h;refine ⟨m,?_⟩;unfold Zy Instr.findNow;rw [Ay7 hk];exact hm
class MapC (P:Program) (t:TypeId) (kt et:outParam TypeId):Prop where
 u:P.underlying t=some (.map kt et)
 k:P.underlying kt=some .string
 z:(P.info? et).map (·.zero)=some (some (aa 0))
theorem Axn {P:Program} {t kt et:TypeId} [hM:MapC P t kt et] (e:Bool) (s:au) (w:World):(Instr.checkKey e 10000 kt (af s)).run P w=.ok () w:=MapKept.run_checkKey (k:=af s) hM.k IC e 9999
section
variable {c:Cx} {fr:Fr} {H:List Pc} {Φ:Gl} {ty:TypeId} {d:Nat} {x y z:Operand}
theorem Bh3 {t:TypeId} (hd:Nat.blt d c.n=true) (h:∀b,T c ((d,.map (some b))::fr) (MpP b []::H) Φ):On c fr H (some d) (.makeMap t none) ty Φ:=⟨fun pos Cd gd=>Pd fun Q a w s g=>by
 have e:(execOp a.eval ⟨some d,.makeMap t none,ty,pos,Cd,gd⟩).run c.P w=.ok (.value (.map (some w.heap.size))) (w.alloc (.map #[] 0)):=by
  simp [execOp,run_makeMap_plain]
 rw [e];refine (h _).h _ _ (s.add (N:=[MpP w.heap.size []]) (Xa _ _) (fun p hp=>?_) ⟨EX,trivial⟩ fun p hp b hb=>?_) (g.put hd)
 ·rw [aL] at hp;subst hp;exact MpP.mk (MapKept.heap_alloc w _).1
 ·rw [aL] at hp;subst hp;simp [MpP,Pc.F] at hb;subst hb;exact .inl (aK _)⟩
theorem Aru {t kt et:TypeId} [hM:MapC c.P t kt et] {b:Nat} {es:List (au × Int)} {s:au} {n:Int} {S:List Pc} (hx:ev fr x=some (.map (some b))) (hy:ev fr y=some (af s)) (hz:ev fr z=some (aa n)) (hr:Rpl H (MpP b es) (MpP b (es++[(s,n)])) S) (hn:Ws es s=none) (h:T c fr S Φ):On c fr H none (.insert t x y z) ty Φ:=⟨fun pos Cd gd=>Pd fun Q a w st g=>by
 have hP:(MpP b es).P w:=by obtain ⟨R,h1,_⟩:=hr.picks;exact st.on _ h1.mem
 have hb:=MpP.at_ hP;have hf:=Acc 0 0 hn;have hk:=fun e=>Axn (P:=c.P) (t:=t) e s w;have e:(execOp a.eval ⟨none,.insert t x y z,ty,pos,Cd,gd⟩).run c.P w=.ok .skip { w with heap:=w.heap.setIfInBounds b (.map ((Zy es 0).toArray.push { key:=af s,val:=aa n,born:=es.length }) (es.length+1)) }:=by
  simp [execOp,g.ev hx,g.ev hy,g.ev hz,Instr.mapUpdate,run_underlying hM.u,MapKept.run_getObj_map hb,hk,MapKept.run_findKey hM.k hf,MapKept.run_setObj_map _ hb,Result.andThen]
 rw [e];obtain ⟨h1,h2⟩:=MapKept.heap_set (o':=.map ((Zy es 0).toArray.push { key:=af s,val:=aa n,born:=es.length }) (es.length+1)) hb;refine h.h _ _ (st.rpl hr rfl (fun b hb=>.inl hb) ⟨rfl,rfl,rfl,EX,fun k hk hn=>?_⟩ (MpP.mk ?_)) g
 ·exact h2 k (fun e=>hn (by rw [e];simp [MpP,Pc.F]))
 ·rw [h1,Aip,aA,fE,cN];rfl⟩
theorem Bhf {P:Program} {n:Nat} {t kt et:TypeId} [hM:MapC P t kt et] {b:Nat} {es:List (au × Int)} {s:au} (hx:ev fr x=some (.map (some b))) (hy:ev fr y=some (af s)) (hm:MpP b es∈H) :
  Yd P n fr H (.lookup t x y true) ty (.tuple #[aa ((Ws es s).getD 0),.bool (Ws es s).isSome]):=.mk fun a w d pos Cd gd hA hH=>by
 have hb:=MpP.at_ (hH _ hm:(MpP b es).P w);obtain ⟨i,hi,hz⟩:=cu.1 hM.z;have hk:=fun e=>Axn (P:=P) (t:=t) e s w;have e:(Instr.lookup t (.map (some b)) (af s) true).run P w=.ok (.tuple #[aa ((Ws es s).getD 0),.bool (Ws es s).isSome]) w:=by
  cases hg:Ws es s with
  | none=>simp [Instr.lookup,run_underlying hM.u,MapKept.run_getObj_map hb,hk,MapKept.run_findKey hM.k (Acc 0 0 hg),zeroValue,typeInfo,hi,hz,Result.andThen]
  | some v =>
   obtain ⟨m,hm⟩:=Ais 0 0 hg;simp [Instr.lookup,run_underlying hM.u,MapKept.run_getObj_map hb,hk,MapKept.run_findKey hM.k hm,Result.andThen]
 simp [execOp,hA.ev hx,hA.ev hy,e]
end
theorem Dx {s:au} {l:Bs}:s=bz l↔s.data.toList=l:=⟨fun h=>by rw [h,Kd],fun h=>by rw [<-h,Uj]⟩
theorem Ry {ws:ai} {i:Nat} (h:i < ws.length):atW (ws.map fun t=>t.data.toList) i=(ws[i]).data.toList:=by
 unfold atW;rw [Pq (by rw [bf];exact h),fN]
def Aku:List (au × Int):=[(⟨#[100,111,119,110]⟩,2),(⟨#[117,112]⟩,5),(⟨#[108,111,115,101]⟩,3),(⟨#[99,117,116]⟩,6)]
theorem Apu (s:au):(Ws Aku s).getD 0=P7 s.data.toList/\(Ws Aku s).isSome=decide (P7 s.data.toList≠0):=by
 unfold Aku Ws Ws Ws Ws Ws P7;have e1:(s=⟨#[100,111,119,110]⟩)=(s.data.toList=Aop):=propext (Dx (l:=Aop));have e2:(s=⟨#[117,112]⟩)=(s.data.toList=wUp):=propext (Dx (l:=wUp));have e3:(s=⟨#[108,111,115,101]⟩)=(s.data.toList=Aor):=propext (Dx (l:=Aor));have e4:(s=⟨#[99,117,116]⟩)=(s.data.toList=Bab):=propext (Dx (l:=Bab));by_cases h1:s.data.toList=Aop
 ·rw [aH (by rw [e1];exact h1),aH h1];exact DR
 rw [aC (by rw [e1];exact h1),aC h1];by_cases h2:s.data.toList=wUp
 ·rw [aH (by rw [e2];exact h2),aH h2];exact DR
 rw [aC (by rw [e2];exact h2),aC h2];by_cases h3:s.data.toList=Aor
 ·rw [aH (by rw [e3];exact h3),aH h3];exact DR
 rw [aC (by rw [e3];exact h3),aC h3];by_cases h4:s.data.toList=Bab
 ·rw [aH (by rw [e4];exact h4),aH h4];exact DR
 rw [aC (by rw [e4];exact h4),aC h4];exact DR
def wsL (ws:ai):List Bs:=ws.map fun t=>t.data.toList
theorem Aob {ws:ai} (h0:0 < ws.length) (h:ws[0]=⟨#[115,101,110,100]⟩) (hn:ws.length=1):I6 (wsL ws)=some ⟨1,0,⟨#[]⟩⟩:=by
 unfold I6 wsL;rw [Ry h0,bf,aH ⟨Dx.1 h,hn⟩]
theorem Aec {ws:ai} (h1:1 < ws.length) (h:(ws[0]'EV)=⟨#[115,101,110,100]⟩) (hn:ws.length=2) (he:¬ws[1]=⟨#[]⟩):I6 (wsL ws)=some ⟨1,0,ws[1]⟩:=by
 unfold I6 wsL;rw [Ry EV,Ry h1,bf,aC EV,aH ⟨Dx.1 h,hn,fun e=>he (Dx.2 e)⟩,Uj]
theorem Aqr {ws:ai} (h0:0 < ws.length) (h:ws[0]=⟨#[116,105,99,107]⟩) (hn:ws.length=1):I6 (wsL ws)=some ⟨4,0,⟨#[]⟩⟩:=by
 have h2:=(Dx (l:=Aj7)).1 h;unfold I6 wsL;rw [Ry h0,bf,aC (by rw [h2];exact fun e=>absurd e.1 EW),aC EV,aH ⟨h2,hn⟩]
theorem X8 {ws:ai} (hn:¬ws.length=2) (h1:∀h0:0 < ws.length,ws.length=1->¬ws[0]=⟨#[115,101,110,100]⟩/\¬ws[0]=⟨#[116,105,99,107]⟩) (h0:0 < ws.length):I6 (wsL ws)=none:=by
 unfold I6 wsL;rw [Ry h0,bf,aC (fun e=>(h1 h0 e.2).1 (Dx.2 e.1)),aC (fun e=>hn e.2.1),aC (fun e=>(h1 h0 e.2).2 (Dx.2 e.1)),aH hn]
theorem Aj0 {ws:ai} (h1:1 < ws.length) (hn:ws.length=2) (h:¬((ws[0]'EV)=⟨#[115,101,110,100]⟩/\¬ws[1]=⟨#[]⟩)) :
  I6 (wsL ws)=if P7 (ws[0]'EV).data.toList≠0/\(C3 ws[1]).2=true then some ⟨P7 (ws[0]'EV).data.toList,(C3 ws[1]).1,⟨#[]⟩⟩ else none:=by
 unfold I6 wsL;rw [Ry EV,Ry h1,bf,Uj,aC EV,aC (fun e=>h ⟨Dx.2 e.1,fun e2=>e.2.2 (Dx.1 e2)⟩),aC EV,aC EV]
instance:MapC prog 232 9 3:=⟨EY,EY,EY⟩
theorem Azh (ws:ai) (h0:0 < ws.length) (a:aj) (c:Nat) (F FT:aq) (hz:∀w∈ws,w.size<=1000000):Fn prog 109 [ab a ws.length c] [.sl A8 (ab a ws.length c) ws F,Gk FT] [] (fun (u:Jh × Bool)=>u.1.data.size<=maxLen/\I6 (wsL ws)=if u.2 then some u.1 else none) (fun u=>.tuple #[.agg #[aa u.1.Cq,aa u.1.node,af u.1.data],.bool u.2]) (fun _=>[]):=by
 have hz0:(⟨#[]⟩:au).size<=maxLen:=aE _;refine enter func109 rfl ntmps109 fun w0=>?_;refine Mg (xs:=ws) 0 ?_;rintro hi0 b0 o0 rfl s0
 repeat (first|(apply wO;apply oc;rfl;exact ydE)|(apply wO;apply Ci;rfl;intro _)|apply Aif|apply T3|apply Xu|apply N7)
 refine Du [0,2,3] [0,1,2,3] (fun _:Unit=>[]) (fun _=>[]) (fun _=>ws.length=2/\∀h1:1 < ws.length,¬(ws[0]=⟨#[115,101,110,100]⟩/\¬ws[1]=⟨#[]⟩)) ?_ fun _ hj=>?_
 ·by_cases h1:ws[0]=⟨#[115,101,110,100]⟩
  ·refine go ?_;rw [show decide (ws[0]=⟨#[115,101,110,100]⟩)=true from av h1];by_cases hn:ws.length=1
   ·refine go ?_;rw [show decide ((ws.length:Int)=1)=true from av EV];refine go ?_;refine ret (⟨⟨1,0,⟨#[]⟩⟩,true⟩:Jh × Bool) ⟨hz0,Aob hi0 h1 hn⟩ rfl
   refine go ?_;rw [show decide ((ws.length:Int)=1)=false from ay EV];refine go ?_;rw [show decide (ws[0]=⟨#[115,101,110,100]⟩)=true from av h1];by_cases hn2:ws.length=2
   rotate_left
   ·refine go ?_;rw [show decide ((ws.length:Int)=2)=false from ay EV];refine go ?_;rw [show decide (ws[0]=⟨#[116,105,99,107]⟩)=false from ay (by rw [h1];decide)];refine go ?_;refine A1 rfl (fun h9=>?_) (fun h9=>?_)
    rotate_left
    ·exact absurd h9 EV
    refine go ?_;refine ret (⟨⟨0,0,⟨#[]⟩⟩,false⟩:Jh × Bool) ⟨hz0,X8 hn2 (fun _ e=>absurd e hn) hi0⟩ rfl
   refine Mg (xs:=ws) 1 ?_;rintro hi1 b1 o1 e1 s1;cases e1;refine go ?_;rw [show decide ((ws.length:Int)=2)=true from av EV];refine go ?_;by_cases he:ws[1]=⟨#[]⟩
   ·rw [show decide (¬ws[1]=⟨#[]⟩)=false from ay (fun h=>h he)];refine go ?_;rw [show decide (ws[0]=⟨#[116,105,99,107]⟩)=false from ay (by rw [h1];decide)];refine go ?_;refine A1 rfl (fun h9=>?_) (fun h9=>?_)
    ·exact absurd h9 EV
    refine go ?_;refine Bh () ⟨hn2,fun _ h=>h.2 he⟩
   ·rw [show decide (¬ws[1]=⟨#[]⟩)=true from av he];refine go ?_;refine ret (⟨⟨1,0,ws[1]⟩,true⟩:Jh × Bool) ⟨s1,Aec hi1 h1 hn2 he⟩ rfl
  ·refine go ?_;rw [show decide (ws[0]=⟨#[115,101,110,100]⟩)=false from ay h1];refine go ?_;rw [show decide (ws[0]=⟨#[115,101,110,100]⟩)=false from ay h1];refine go ?_;by_cases h2:ws[0]=⟨#[116,105,99,107]⟩
   ·rw [show decide (ws[0]=⟨#[116,105,99,107]⟩)=true from av h2];refine go ?_;by_cases hn:ws.length=1
    ·rw [show decide ((ws.length:Int)=1)=true from av EV];refine go ?_;refine ret (⟨⟨4,0,⟨#[]⟩⟩,true⟩:Jh × Bool) ⟨hz0,Aqr hi0 h2 hn⟩ rfl
    rw [show decide ((ws.length:Int)=1)=false from ay EV];refine go ?_;refine A1 rfl (fun h9=>?_) (fun h9=>?_)
    ·refine go ?_;refine ret (⟨⟨0,0,⟨#[]⟩⟩,false⟩:Jh × Bool) ⟨hz0,X8 EV (fun _ e=>⟨h1,fun e2=>by first|omega|exact h2 e2⟩) hi0⟩ rfl
    refine go ?_;refine Bh () ⟨EV,fun _ h=>h1 h.1⟩
   ·rw [show decide (ws[0]=⟨#[116,105,99,107]⟩)=false from ay h2];refine go ?_;refine A1 rfl (fun h9=>?_) (fun h9=>?_)
    ·refine go ?_;refine ret (⟨⟨0,0,⟨#[]⟩⟩,false⟩:Jh × Bool) ⟨hz0,X8 EV (fun _ e=>⟨h1,fun e2=>by first|omega|exact h2 e2⟩) hi0⟩ rfl
    refine go ?_;refine Bh () ⟨EV,fun _ h=>h1 h.1⟩
 obtain ⟨hn2,hns⟩:=hj;have hi1:1 < ws.length:=EV
 have hsw:=Aj0 hi1 hn2 (hns hi1);have hz1:=hz _ (aB hi1);refine Mg (xs:=ws) 1 ?_;rintro - b1 o1 e1 s1;cases e1;refine go ?_;apply wO;refine Bh3 rfl fun mb=>?_;apply wO;refine Aru (s:=⟨#[100,111,119,110]⟩) rfl rfl rfl Ag0 rfl ?_;apply wO;refine Aru (s:=⟨#[117,112]⟩) rfl rfl rfl Ag0 rfl ?_;apply wO;refine Aru (s:=⟨#[108,111,115,101]⟩) rfl rfl rfl Ag0 rfl ?_;apply wO;refine Aru (s:=⟨#[99,117,116]⟩) rfl rfl rfl Ag0 rfl ?_;refine go ?_;apply wO;apply oc;rfl;exact Bhf (es:=Aku) rfl rfl Bn;obtain ⟨g1,g2⟩:=Apu ws[0];rw [g1,g2];refine go ?_
 refine cb (fun w st=>(Afe ws[1] FT EV).val w (I4 (st.get (p:=Gk FT) EX))) ?_;by_cases hk:P7 (ws[0]).data.toList≠0
 ·rw [show decide (P7 (ws[0]).data.toList≠0)=true from av hk];refine go ?_;refine ret (⟨⟨P7 (ws[0]).data.toList,(C3 ws[1]).1,⟨#[]⟩⟩,(C3 ws[1]).2⟩:Jh × Bool) ⟨hz0,?_⟩ rfl;rw [hsw];cases (C3 ws[1]).2
  ·rw [aC (fun e=>by cases e.2)];rfl
  ·rw [aH ⟨hk,rfl⟩];rfl
 ·rw [show decide (P7 (ws[0]).data.toList≠0)=false from ay hk];refine go ?_;refine ret (⟨⟨P7 (ws[0]).data.toList,(C3 ws[1]).1,⟨#[]⟩⟩,false⟩:Jh × Bool) ⟨hz0,?_⟩ rfl;rw [hsw,aC (fun e=>hk e.1)];rfl
structure DrS where
 x:NE
 z:NV
 a:aj
 c:Nat
 F:aq
structure DrK where
 k:Nat
 z:NV
 a:aj
 c:Nat
 F:aq
theorem rdQ {w:World} {t:TypeId} {a:aj} {n c:Nat} {l:List (List As)} {F:aq} (h:(Pc.ow (Kl Al 141) t (ab a n c) l F).P w):∃F',(Pc.sl (Oc Al EW) (ab a n c) l F').P w:=by
 obtain ⟨F', -,hs⟩:=h.2.sl (P2 (Mu.refl Al) EW _);exact ⟨F',EW,hs⟩
theorem U4 (l:List (List As)) (a:aj) (c:Nat) (F:aq) (hl:l.length<=8) (hq:∀q∈l,q.length<=6):FV 194 [ab a l.length c] [.sl (Oc Al EW) (ab a l.length c) l F] (aa ((qd l:Nat):Int)):=by
 refine enter func194 rfl ntmps194 fun w0=>?_;refine go ?_;refine Dk [6,7] (fun k:Nat=>[(3,aa ((qd (l.take k):Nat):Int)),(8,aa (k:Nat))]) (fun k=>k<=l.length) (fun k=>l.length - k) 0 (aE _) fun k hk=>?_;have h6:=N5 hq k;refine go ?_;refine A1 rfl (fun h1=>?_) (fun h1=>?_)
 ·have hh:k < l.length:=EV
  have h7:=hq l[k] (aB hh);refine Mf (E:=Al) (hz:=EW) (xs:=l) k ?_;rintro hi6 b6 o6 a11 c11 F11 rfl l11;refine go ?_;rw [show ((qd (l.take k):Nat):Int)+(l[k].length:Int)=((qd (l.take (k+1)):Nat):Int) by rw [Ak6 hh];omega];refine Cb (k+1) hh GO
 ·obtain rfl:k=l.length:=EV
  refine go ?_;refine ret () trivial ?_;rw [bm];rfl
theorem Au8 {n:Dt} {s:Jh} (hg:At n=true) (hs:Do s=true):n.Ap.Ad.length=(Hq n (Bl n s)).Ap.Ad.length/\n.Af.length=(Hq n (Bl n s)).Af.length/\n.Ac.length=(Hq n (Bl n s)).Ac.length/\n.down.length=(Hq n (Bl n s)).down.length/\n.up.length=(Hq n (Bl n s)).up.length:=by
 cases e:Bl n s with
 | none=>exact ⟨rfl,rfl,rfl,rfl,rfl⟩
 | some r=>exact Bbx hg (Mn hg hs e) (Sv e)
theorem Alh (n:Dt) (s:Jh) (g:Nat) (a1:aj) (c1:Nat) (F1:aq) (a2:aj) (c2:Nat) (F2:aq) (a3:aj) (c3:Nat) (F3:aq) (a4:aj) (c4:Nat) (F4:aq) (a5:aj) (c5:Nat) (F5:aq) (a6:aj) (c6:Nat) (F6:aq) (a7:aj) (c7:Nat) (F7:aq) (FT:aq) (hg:At n=true) (hs:Do s=true) (hss:s.data.size<=maxLen) :
  Fn prog 111 [Gc g 0 0,.agg #[aa (s).Cq,aa (s).node,af (s).data]] [Gk FT] [.row g 37 0 [] [ab a1 n.Ap.Ad.length c1,aa n.Ab.Aa.Am,aa n.Ab.Aa.size,ab a2 n.Ab.Aa.Ak.length c2,aa n.Ab.Ai,aa n.Ab.quiet,ab a3 n.Ab.holds.length c3,ab a4 n.Af.length c4,ab a5 n.Ac.length c5,ab a6 n.down.length c6,ab a7 n.up.length c7] [],.ow Bb 3 (ab a1 n.Ap.Ad.length c1) n.Ap.Ad F1,.ow A8 9 (ab a2 n.Ab.Aa.Ak.length c2) n.Ab.Aa.Ak F2,.ow Bx 191 (ab a3 n.Ab.holds.length c3) n.Ab.holds F3,.ow Ch 122 (ab a4 n.Af.length c4) n.Af F4,.ow B9 76 (ab a5 n.Ac.length c5) n.Ac F5,.ow (Kl Al 141) 125 (ab a6 n.down.length c6) n.down F6,.ow (Kl Al 141) 125 (ab a7 n.up.length c7) n.up F7] (fun (_:NV × KA)=>True) (fun z=>.tuple #[.slice z.2.a (U2 (Bl n s)).length z.2.c,.bool (Bl n s).isSome]) (fun z=>[.row g 37 0 [] [.slice z.1.a1 (Hq n (Bl n s)).Ap.Ad.length z.1.c1,aa (Hq n (Bl n s)).Ab.Aa.Am,aa (Hq n (Bl n s)).Ab.Aa.size,.slice z.1.a2 (Hq n (Bl n s)).Ab.Aa.Ak.length z.1.c2,aa (Hq n (Bl n s)).Ab.Ai,aa (Hq n (Bl n s)).Ab.quiet,.slice z.1.a3 (Hq n (Bl n s)).Ab.holds.length z.1.c3,.slice z.1.a4 (Hq n (Bl n s)).Af.length z.1.c4,.slice z.1.a5 (Hq n (Bl n s)).Ac.length z.1.c5,.slice z.1.a6 (Hq n (Bl n s)).down.length z.1.c6,.slice z.1.a7 (Hq n (Bl n s)).up.length z.1.c7] [],.ow Bb 3 (.slice z.1.a1 (Hq n (Bl n s)).Ap.Ad.length z.1.c1) (Hq n (Bl n s)).Ap.Ad z.1.F1,.ow A8 9 (.slice z.1.a2 (Hq n (Bl n s)).Ab.Aa.Ak.length z.1.c2) (Hq n (Bl n s)).Ab.Aa.Ak z.1.F2,.ow Bx 191 (.slice z.1.a3 (Hq n (Bl n s)).Ab.holds.length z.1.c3) (Hq n (Bl n s)).Ab.holds z.1.F3,.ow Ch 122 (.slice z.1.a4 (Hq n (Bl n s)).Af.length z.1.c4) (Hq n (Bl n s)).Af z.1.F4,.ow B9 76 (.slice z.1.a5 (Hq n (Bl n s)).Ac.length z.1.c5) (Hq n (Bl n s)).Ac z.1.F5,.ow (Kl Al 141) 125 (.slice z.1.a6 (Hq n (Bl n s)).down.length z.1.c6) (Hq n (Bl n s)).down z.1.F6,.ow (Kl Al 141) 125 (.slice z.1.a7 (Hq n (Bl n s)).up.length z.1.c7) (Hq n (Bl n s)).up z.1.F7,.ow A8 9 (.slice z.2.a (U2 (Bl n s)).length z.2.c) (U2 (Bl n s)) z.2.F]):=by
 obtain ⟨k1,k2,k3,k4,k5⟩:=Au8 hg hs;have h:=Bff n s g a1 c1 F1 a2 c2 F2 a3 c3 F3 a4 c4 F4 a5 c5 F5 a6 c6 F6 a7 c7 F7 FT hg hs hss;rw [<-k1,<-k2,<-k3,<-k4,<-k5];exact h
theorem Av4 (n:Dt) (g:Nat) (a1:aj) (c1:Nat) (F1:aq) (a2:aj) (c2:Nat) (F2:aq) (a3:aj) (c3:Nat) (F3:aq) (a4:aj) (c4:Nat) (F4:aq) (a5:aj) (c5:Nat) (F5:aq) (a6:aj) (c6:Nat) (F6:aq) (a7:aj) (c7:Nat) (F7:aq) (FT:aq) (hg:At n=true) :
  Fn prog 113 [Gc g 0 0] [Gk FT] [.row g 37 0 [] [ab a1 n.Ap.Ad.length c1,aa n.Ab.Aa.Am,aa n.Ab.Aa.size,ab a2 n.Ab.Aa.Ak.length c2,aa n.Ab.Ai,aa n.Ab.quiet,ab a3 n.Ab.holds.length c3,ab a4 n.Af.length c4,ab a5 n.Ac.length c5,ab a6 n.down.length c6,ab a7 n.up.length c7] [],.ow Bb 3 (ab a1 n.Ap.Ad.length c1) n.Ap.Ad F1,.ow A8 9 (ab a2 n.Ab.Aa.Ak.length c2) n.Ab.Aa.Ak F2,.ow Bx 191 (ab a3 n.Ab.holds.length c3) n.Ab.holds F3,.ow Ch 122 (ab a4 n.Af.length c4) n.Af F4,.ow B9 76 (ab a5 n.Ac.length c5) n.Ac F5,.ow (Kl Al 141) 125 (ab a6 n.down.length c6) n.down F6,.ow (Kl Al 141) 125 (ab a7 n.up.length c7) n.up F7] (fun (_:NV × KA)=>True) (fun z=>.slice z.2.a (Qf n).2.length z.2.c) (fun z=>[.row g 37 0 [] [.slice z.1.a1 (Qf n).1.Ap.Ad.length z.1.c1,aa (Qf n).1.Ab.Aa.Am,aa (Qf n).1.Ab.Aa.size,.slice z.1.a2 (Qf n).1.Ab.Aa.Ak.length z.1.c2,aa (Qf n).1.Ab.Ai,aa (Qf n).1.Ab.quiet,.slice z.1.a3 (Qf n).1.Ab.holds.length z.1.c3,.slice z.1.a4 (Qf n).1.Af.length z.1.c4,.slice z.1.a5 (Qf n).1.Ac.length z.1.c5,.slice z.1.a6 (Qf n).1.down.length z.1.c6,.slice z.1.a7 (Qf n).1.up.length z.1.c7] [],.ow Bb 3 (.slice z.1.a1 (Qf n).1.Ap.Ad.length z.1.c1) (Qf n).1.Ap.Ad z.1.F1,.ow A8 9 (.slice z.1.a2 (Qf n).1.Ab.Aa.Ak.length z.1.c2) (Qf n).1.Ab.Aa.Ak z.1.F2,.ow Bx 191 (.slice z.1.a3 (Qf n).1.Ab.holds.length z.1.c3) (Qf n).1.Ab.holds z.1.F3,.ow Ch 122 (.slice z.1.a4 (Qf n).1.Af.length z.1.c4) (Qf n).1.Af z.1.F4,.ow B9 76 (.slice z.1.a5 (Qf n).1.Ac.length z.1.c5) (Qf n).1.Ac z.1.F5,.ow (Kl Al 141) 125 (.slice z.1.a6 (Qf n).1.down.length z.1.c6) (Qf n).1.down z.1.F6,.ow (Kl Al 141) 125 (.slice z.1.a7 (Qf n).1.up.length z.1.c7) (Qf n).1.up z.1.F7,.ow A8 9 (.slice z.2.a (Qf n).2.length z.2.c) (Qf n).2 z.2.F]):=by
 have hwn:=Bad hg;refine enter func113 rfl ntmps113 fun w0=>?_;refine Cj A8 9 ?_;refine go ?_
 refine Ca [0] (fun s:DrS=>[(3,ab s.a s.x.2.length s.c)]) (fun s=>[.row g 37 0 [] [ab s.z.a1 s.x.1.Ap.Ad.length s.z.c1,aa s.x.1.Ab.Aa.Am,aa s.x.1.Ab.Aa.size,ab s.z.a2 s.x.1.Ab.Aa.Ak.length s.z.c2,aa s.x.1.Ab.Ai,aa s.x.1.Ab.quiet,ab s.z.a3 s.x.1.Ab.holds.length s.z.c3,ab s.z.a4 s.x.1.Af.length s.z.c4,ab s.z.a5 s.x.1.Ac.length s.z.c5,ab s.z.a6 s.x.1.down.length s.z.c6,ab s.z.a7 s.x.1.up.length s.z.c7] [],.ow Bb 3 (ab s.z.a1 s.x.1.Ap.Ad.length s.z.c1) s.x.1.Ap.Ad s.z.F1,.ow A8 9 (ab s.z.a2 s.x.1.Ab.Aa.Ak.length s.z.c2) s.x.1.Ab.Aa.Ak s.z.F2,.ow Bx 191 (ab s.z.a3 s.x.1.Ab.holds.length s.z.c3) s.x.1.Ab.holds s.z.F3,.ow Ch 122 (ab s.z.a4 s.x.1.Af.length s.z.c4) s.x.1.Af s.z.F4,.ow B9 76 (ab s.z.a5 s.x.1.Ac.length s.z.c5) s.x.1.Ac s.z.F5,.ow (Kl Al 141) 125 (ab s.z.a6 s.x.1.down.length s.z.c6) s.x.1.down s.z.F6,.ow (Kl Al 141) 125 (ab s.z.a7 s.x.1.up.length s.z.c7) s.x.1.up s.z.F7,.ow A8 9 (ab s.a s.x.2.length s.c) s.x.2 s.F]) (fun s=>Vb (n,[]) s.x/\drE s.x=Qf n) (fun s=>wN s.x.1) ⟨(n,[]),⟨a1,c1,F1,a2,c2,F2,a3,c3,F3,a4,c4,F4,a5,c5,F5,a6,c6,F6,a7,c7,F7⟩,none,0,[]⟩ ⟨.refl hg,rfl⟩ fun s hs0=>?_
 obtain ⟨x,⟨x1,w1,K1,x2,w2,K2,x3,w3,K3,x4,w4,K4,x5,w5,K5,x6,w6,K6,x7,w7,K7⟩,ea,ec,eF⟩:=s;obtain ⟨fx,hR⟩:=hs0;dsimp only at fx hR ⊢;have hG:=Ax.1 fx.g;have h8:=Hi hG.t;have hn8:=h8.n1;have hn2:=h8.n0;obtain ⟨q1,q2,q3,q4⟩:=Bk.1 hG.l;obtain ⟨-, -,hd6,hu6⟩:=Hx fx.g;have hd6:∀q∈x.1.down,q.length<=6:=fun q hq=>(C5 (hd6 q hq)).1;have hu6:∀q∈x.1.up,q.length<=6:=fun q hq=>(C5 (hu6 q hq)).1;have hb1:=N5 hd6 x.1.down.length;have hb2:=N5 hu6 x.1.up.length;rw [bm] at hb1 hb2;have hev:=fx.e;simp only [aY] at hev;refine go ?_;refine Ar [0] [] ?_;refine C8 0 1 2 3 ?_
 refine C8 5 6 7 8 ?_;refine dN 4 ?_;refine oC ?_;refine cfr (fun w st=>by obtain ⟨Fq,hq⟩:=rdQ (st.get (p:=.ow (Kl Al 141) 125 (ab x6 x.1.down.length w6) x.1.down K6) FA);exact ⟨_,I4 hq,rfl,U4 _ _ _ Fq EV FM⟩) (fun _ _=>?_);refine Oz ?_;refine dk ?_;refine dN 9 ?_;refine oC ?_;refine cfr (fun w st=>by obtain ⟨Fq,hq⟩:=rdQ (st.get (p:=.ow (Kl Al 141) 125 (ab x7 x.1.up.length w7) x.1.up K7) FA);exact ⟨_,I4 hq,rfl,U4 _ _ _ Fq EV FM⟩) (fun _ _=>?_);refine Oz ?_;refine dk ?_;refine Dg 10 11 ?_;refine dd ?_;refine go ?_
 refine A1 rfl (fun h1=>?_) (fun h1=>?_)
 ·have hq0:¬X0 x.1=0:=by unfold X0;omega
  obtain ⟨fR,hw⟩:=Mr fx.g;have hw:=hw hq0;refine go ?_
  refine Ca [0,24] (fun y:DrK=>[(3,.slice y.a (Ev x y.k).2.length y.c),(25,aa (y.k:Nat))]) (fun y=>[.row g 37 0 [] [.slice y.z.a1 (Ev x y.k).1.Ap.Ad.length y.z.c1,aa (Ev x y.k).1.Ab.Aa.Am,aa (Ev x y.k).1.Ab.Aa.size,.slice y.z.a2 (Ev x y.k).1.Ab.Aa.Ak.length y.z.c2,aa (Ev x y.k).1.Ab.Ai,aa (Ev x y.k).1.Ab.quiet,.slice y.z.a3 (Ev x y.k).1.Ab.holds.length y.z.c3,.slice y.z.a4 (Ev x y.k).1.Af.length y.z.c4,.slice y.z.a5 (Ev x y.k).1.Ac.length y.z.c5,.slice y.z.a6 (Ev x y.k).1.down.length y.z.c6,.slice y.z.a7 (Ev x y.k).1.up.length y.z.c7] [],.ow Bb 3 (.slice y.z.a1 (Ev x y.k).1.Ap.Ad.length y.z.c1) (Ev x y.k).1.Ap.Ad y.z.F1,.ow A8 9 (.slice y.z.a2 (Ev x y.k).1.Ab.Aa.Ak.length y.z.c2) (Ev x y.k).1.Ab.Aa.Ak y.z.F2,.ow Bx 191 (.slice y.z.a3 (Ev x y.k).1.Ab.holds.length y.z.c3) (Ev x y.k).1.Ab.holds y.z.F3,.ow Ch 122 (.slice y.z.a4 (Ev x y.k).1.Af.length y.z.c4) (Ev x y.k).1.Af y.z.F4,.ow B9 76 (.slice y.z.a5 (Ev x y.k).1.Ac.length y.z.c5) (Ev x y.k).1.Ac y.z.F5,.ow (Kl Al 141) 125 (.slice y.z.a6 (Ev x y.k).1.down.length y.z.c6) (Ev x y.k).1.down y.z.F6,.ow (Kl Al 141) 125 (.slice y.z.a7 (Ev x y.k).1.up.length y.z.c7) (Ev x y.k).1.up y.z.F7,.ow A8 9 (.slice y.a (Ev x y.k).2.length y.c) (Ev x y.k).2 y.F]) (fun y=>y.k<=x.1.Ap.Ad.length) (fun y=>x.1.Ap.Ad.length - y.k) ⟨0,⟨x1,w1,K1,x2,w2,K2,x3,w3,K3,x4,w4,K4,x5,w5,K5,x6,w6,K6,x7,w7,K7⟩,ea,ec,eF⟩ (aE _) fun y hy0=>?_
  obtain ⟨j,⟨x1,w1,K1,x2,w2,K2,x3,w3,K3,x4,w4,K4,x5,w5,K5,x6,w6,K6,x7,w7,K7⟩,ya,yc,yF⟩:=y;dsimp only at hy0 ⊢;have fJ:=Ad9 fx.g j hy0;have fX:=fx.trans fJ;generalize hX:Ev x j=X at fJ fX ⊢;refine go ?_;refine A1 rfl (fun h2=>?_) (fun h2=>?_)
  ·have hj:j < x.1.Ap.Ad.length:=EV
   have hXt:X.1.Ap.Ad.length=x.1.Ap.Ad.length:=by rw [fJ.t]
   have hG:=Ax.1 fX.g;obtain ⟨q1,q2,q3,q4⟩:=Bk.1 hG.l;have hjd:j < X.1.down.length:=EV
   have hsd:=Yx (n:=X.1) (i:=j) EV;rw [Pq hjd] at hsd;have hz1:=Abc fX.g;have hev2:=fX.e;simp only [aY] at hev2;refine go ?_;refine Ace (xs:=X.1.down) (m:=1) j ?_ rfl EV;rintro _ g6 A6 cs6 B6 p6 q6 G6 Gi6 H6 e6 - hc6 hH6;rw [e6];refine Yt ?_;rintro a6 c6 ev6 l6;obtain rfl:=O3 ev6;refine go ?_;refine A1 rfl (fun h4=>?_) (fun h4=>?_)
   ·have j1:1<=j:=by
     rcases cm j with rfl|h
     ·have:=hz1.1;rw [Pq hjd] at this;omega
     ·exact h
    have ok:=Bb6 j1 EV;refine Ko X.1.down[j] ?_;refine Wa _ hH6 rfl fun J6=>?_;rw [bv];refine go ?_;refine Be (Alh X.1 (I7 j) g x1 w1 K1 x2 w2 K2 x3 w3 K3 x4 w4 K4 x5 w5 K5 _ w6 J6 x7 w7 K7 FT fX.g ok (aE _)) fun z _=>?_;have hfe:=fX.trans (Bfi fX.g (i:=j) EV);have hfe2:=hfe.e;have htl:(My X (I7 j)).2.length=X.2.length+(U2 (Bl X.1 (I7 j))).length:=aA;simp only [aY] at hfe2;refine Av (E:=A8) (xs:=U2 (Bl X.1 (I7 j))) fun F8=>?_;refine go ?_;apply wO;refine Nm (E:=A8) (xs:=X.2) (ys:=U2 (Bl X.1 (I7 j))) Dz Hv fun a9 c9 F9=>?_
    generalize hX1:My X (I7 j)=X1 at hfe hfe2 htl;rw [show X.2++U2 (Bl X.1 (I7 j))=X1.2 by rw [<-hX1];rfl,show Hq X.1 (Bl X.1 (I7 j))=X1.1 by rw [<-hX1];rfl];have fX1:Vb X X1:=by rw [<-hX1];exact Bfi fX.g (by rw [hXt];exact hj)
    have hG1:=Ax.1 fX1.g;obtain ⟨r1,r2,r3,r4⟩:=Bk.1 hG1.l;have hX1t:X1.1.Ap.Ad.length=x.1.Ap.Ad.length:=by rw [fX1.t];exact hXt
    have hju:j < X1.1.up.length:=EV
    have hsu:=V2 (n:=X1.1) (i:=j) EV;rw [Pq hju] at hsu;have hz0:=Abc fX1.g;refine go ?_;refine Ace (xs:=X1.1.up) (m:=1) j ?_ rfl EV;rintro _ g7 A7 cs7 B7 p7 q7 G7 Gi7 H7 e7 - hc7 hH7;rw [e7];refine Yt ?_;rintro a7 c7 ev7 l7;obtain rfl:=O3 ev7;refine go ?_;refine A1 rfl (fun h3=>?_) (fun h3=>?_)
    ·have j1:1<=j:=by
      rcases cm j with rfl|h
      ·have:=hz0.2;rw [Pq hju] at this;omega
      ·exact h
     have ok:=Ayf j1 EV;have hnx:Ev x (j+1)=(Hq X1.1 (Bl X1.1 (L9 j)),X1.2):=by
      show My (My (Ev x j) (I7 j)) (L9 j)=_;rw [hX,hX1];exact Prod.ext rfl (Bfj fX1.g (i:=j) EV).2
     refine Ko X1.1.up[j] ?_;refine Wa _ hH7 rfl fun J7=>?_;rw [bv];refine go ?_;refine Be (Alh X1.1 (L9 j) g z.1.a1 z.1.c1 z.1.F1 z.1.a2 z.1.c2 z.1.F2 z.1.a3 z.1.c3 z.1.F3 z.1.a4 z.1.c4 z.1.F4 z.1.a5 z.1.c5 z.1.F5 z.1.a6 z.1.c6 z.1.F6 _ z.1.c7 J7 FT fX1.g ok (aE _)) fun y _=>?_;refine go ?_
     refine Cb ⟨j+1,⟨y.1.a1,y.1.c1,y.1.F1,y.1.a2,y.1.c2,y.1.F2,y.1.a3,y.1.c3,y.1.F3,y.1.a4,y.1.c4,y.1.F4,y.1.a5,y.1.c5,y.1.F5,y.1.a6,y.1.c6,y.1.F6,y.1.a7,y.1.c7,y.1.F7⟩,a9,c9,F9⟩ KN GM GE GD
    ·have hnx:Ev x (j+1)=X1:=by
      show My (My (Ev x j) (I7 j)) (L9 j)=_;rw [hX,hX1];exact Jy (by rw [hsu,aH EV])
     refine Ko X1.1.up[j] ?_;refine Wa _ hH7 rfl fun J7=>?_;rw [bv];refine go ?_;refine Cb ⟨j+1,⟨z.1.a1,z.1.c1,z.1.F1,z.1.a2,z.1.c2,z.1.F2,z.1.a3,z.1.c3,z.1.F3,z.1.a4,z.1.c4,z.1.F4,z.1.a5,z.1.c5,z.1.F5,z.1.a6,z.1.c6,z.1.F6,_,z.1.c7,J7⟩,a9,c9,F9⟩ KN GM GE GD
   ·have htn:My X (I7 j)=X:=Jy (by rw [hsd,aH EV]);refine Ko X.1.down[j] ?_;refine Wa _ hH6 rfl fun J6=>?_;rw [bv];obtain ⟨X1,hX1⟩:∃X1,My X (I7 j)=X1:=⟨_,rfl⟩;have hXX:X1=X:=by rw [<-hX1,htn]
    subst hXX;have fX1:Vb X1 X1:=.refl fX.g;have hG1:=Ax.1 fX1.g;obtain ⟨r1,r2,r3,r4⟩:=Bk.1 hG1.l;have hX1t:X1.1.Ap.Ad.length=x.1.Ap.Ad.length:=by rw [fX1.t];exact hXt
    have hju:j < X1.1.up.length:=EV
    have hsu:=V2 (n:=X1.1) (i:=j) EV;rw [Pq hju] at hsu;have hz0:=Abc fX1.g;refine go ?_;refine Ace (xs:=X1.1.up) (m:=1) j ?_ rfl EV;rintro _ g7 A7 cs7 B7 p7 q7 G7 Gi7 H7 e7 - hc7 hH7;rw [e7];refine Yt ?_;rintro a7 c7 ev7 l7;obtain rfl:=O3 ev7;refine go ?_;refine A1 rfl (fun h3=>?_) (fun h3=>?_)
    ·have j1:1<=j:=by
      rcases cm j with rfl|h
      ·have:=hz0.2;rw [Pq hju] at this;omega
      ·exact h
     have ok:=Ayf j1 EV;have hnx:Ev x (j+1)=(Hq X1.1 (Bl X1.1 (L9 j)),X1.2):=by
      show My (My (Ev x j) (I7 j)) (L9 j)=_;rw [hX,hX1];exact Prod.ext rfl (Bfj fX1.g (i:=j) EV).2
     refine Ko X1.1.up[j] ?_;refine Wa _ hH7 rfl fun J7=>?_;rw [bv];refine go ?_;refine Be (Alh X1.1 (L9 j) g x1 w1 K1 x2 w2 K2 x3 w3 K3 x4 w4 K4 x5 w5 K5 _ w6 J6 _ w7 J7 FT fX1.g ok (aE _)) fun y _=>?_;refine go ?_;refine Cb ⟨j+1,⟨y.1.a1,y.1.c1,y.1.F1,y.1.a2,y.1.c2,y.1.F2,y.1.a3,y.1.c3,y.1.F3,y.1.a4,y.1.c4,y.1.F4,y.1.a5,y.1.c5,y.1.F5,y.1.a6,y.1.c6,y.1.F6,y.1.a7,y.1.c7,y.1.F7⟩,ya,yc,yF⟩ KN GM GE GD
    ·have hnx:Ev x (j+1)=X1:=by
      show My (My (Ev x j) (I7 j)) (L9 j)=_;rw [hX,hX1];exact Jy (by rw [hsu,aH EV])
     refine Ko X1.1.up[j] ?_;refine Wa _ hH7 rfl fun J7=>?_;rw [bv];refine go ?_;refine Cb ⟨j+1,⟨x1,w1,K1,x2,w2,K2,x3,w3,K3,x4,w4,K4,x5,w5,K5,_,w6,J6,_,w7,J7⟩,ya,yc,yF⟩ KN GM GE GD
  ·obtain rfl:j=x.1.Ap.Ad.length:=EV
   have hX:=hX;rw [Aqk fx.g] at hX;refine go ?_;refine Cb ⟨X,⟨x1,w1,K1,x2,w2,K2,x3,w3,K3,x4,w4,K4,x5,w5,K5,x6,w6,K6,x7,w7,K7⟩,ya,yc,yF⟩ ⟨fX,by rw [<-hR,Afp fx.g hq0,hX]⟩ (by show wN X.1 < wN x.1;rw [<-hX];exact hw)
 ·have hq0:X0 x.1=0:=by unfold X0;omega
  rw [Aax hq0] at hR;rw [hR];exact EM
theorem Ah6 (n:Dt) (v:Value) (F:aq):FV 134 [v] [.isv Oi v n F] (.tuple #[aa (Qm n).1,aa (Qm n).2.1,.bool (Qm n).2.2]):=by
 refine enter func134 rfl ntmps134 fun w0=>?_;refine Fb ?_;rintro a1 c1 F1 a2 c2 F2 a3 c3 F3 a4 c4 F4 a5 c5 F5 a6 c6 F6 a7 c7 F7 rfl l1 l2 l3 l4 l5 l6 l7;refine go ?_;intros;refine Be (Acr n _ F) fun _ _=>?_;cases g:At n
 ·refine go ?_;refine ret () trivial ?_;unfold Qm;rw [g];rfl
 obtain ⟨-, -,e3,e4⟩:=Hx g;obtain ⟨q2,q8,qn,qu,qe,qt⟩:=M9 g;refine go ?_;refine Dk [1,2,3,4] (fun k:Nat=>[(5,aa ((qd (n.down.take k):Nat):Int)),(6,aa ((qd (n.up.take k):Nat):Int)),(7,aa (k:Nat))]) (fun k=>k<=n.down.length) (fun k=>n.down.length - k) 0 (aE _) fun k hk=>?_;have b1:=N5 (fun q hq=>(C5 (e3 q hq)).1) k;have b2:=N5 (fun q hq=>(C5 (e4 q hq)).1) k;refine go ?_;refine A1 rfl (fun h3=>?_) (fun h3=>?_)
 ·have hk3:k < n.down.length:=EV
  have hk4:k < n.up.length:=EV
  have b3:=(C5 (e3 _ (aB hk3))).1;have b4:=(C5 (e4 _ (aB hk4))).1;have s3:=Ak6 hk3;have s4:=Ak6 hk4;refine Mf (E:=Al) (hz:=EW) (xs:=n.down) k ?_;rintro hi1 g1 o1 a8 c8 F8 ea l8;refine Mf (E:=Al) (hz:=EW) (xs:=n.up) k ?_;rintro hi2 g2 o2 a9 c9 F9 eb l9;rw [ea,eb];refine go ?_;rw [show ((qd (n.down.take k):Nat):Int)+(n.down[k].length:Int)=((qd (n.down.take (k+1)):Nat):Int) by omega,show ((qd (n.up.take k):Nat):Int)+(n.up[k].length:Int)=((qd (n.up.take (k+1)):Nat):Int) by omega];exact BE
 ·have hk3:k=n.down.length:=EV
  subst hk3;rw [bm,show n.up.take n.down.length=n.up by rw [<-qu,bm]];refine go ?_;refine ret () trivial ?_;unfold Qm;rw [g];rfl
theorem Ao4 (n:Dt) (v:Value) (F:aq):FV 196 [v] [.isv Oi v n F] (.tuple #[.bool (Gg n).1,.bool (Gg n).2]):=by
 refine enter func196 rfl ntmps196 fun w0=>?_;refine Fb ?_;rintro a1 c1 F1 a2 c2 F2 a3 c3 F3 a4 c4 F4 a5 c5 F5 a6 c6 F6 a7 c7 F7 rfl l1 l2 l3 l4 l5 l6 l7;refine go ?_;intros;refine Be (Aap n _ F) fun _ _=>?_;cases g:At n
 ·refine go ?_;refine ret () trivial ?_;unfold Gg;rw [g];rfl
 obtain ⟨-, -,e3,e4⟩:=Hx g;obtain ⟨q2,q8,qn,qu,qe,qt⟩:=M9 g;have hG:=Ax.1 g;obtain ⟨-,qr, -, -⟩:=Bk.1 hG.l;have hS:=J9 hG.s;have hW:=Dq.1 (Eo.1 hG.s).1;have hS1:=hS.l;have hb1:=N5 (fun q hq=>(C5 (e3 q hq)).1) n.down.length;have hb2:=N5 (fun q hq=>(C5 (e4 q hq)).1) n.up.length;rw [bm] at hb1 hb2;refine Ih ?_;intros;refine Jw n.Ap (a1:=a1) ?_;refine go ?_;refine Be (Axz n.Ap _ _ EV) fun z _=>?_;refine Av (E:=Bb) (xs:=lvs n.Ap.Ad) fun Fl=>?_;have hlv:=Ajh n.Ap.Ad n.Ap.Ad.length;rw [show P9 n.Ap.Ad n.Ap.Ad.length=lvs n.Ap.Ad from rfl] at hlv;refine go ?_
 refine Dk [1,2,3,12,13] (fun k:Nat=>[(14,aa (k:Nat))]) (fun k=>k<=(lvs n.Ap.Ad).length/\∀x∈(lvs n.Ap.Ad).take k,Aci n x.toNat=true) (fun k=>(lvs n.Ap.Ad).length - k) 0 ⟨aE _,EX⟩ fun k hk=>?_;obtain ⟨hk,hal⟩:=hk;refine go ?_;refine A1 rfl (fun h3=>?_) (fun h3=>?_)
 ·have hk3:k < (lvs n.Ap.Ad).length:=EV
  obtain ⟨i,hi8,hie,hlf⟩:=Bes hk3;have h5:i < n.Ac.length:=EV
  refine In (xs:=lvs n.Ap.Ad) k ?_;rintro hi b o e;rw [e,hie];refine Jc (xs:=n.Ac) i ?_;rintro h5b b5 o5 a9 c9 F9 a10 c10 F10 e5 l9 l10;rw [e5];refine Dy n.Ac[i] ?_;cases hs:Aer n.Ac[i]
  ·refine Ih ?_;intros;refine Ar [0,8] [] ?_;refine dt 0 ?_;refine dN 1 ?_;refine oC ?_;refine Be (Adt n.Ac[i] _ _) fun _ _=>?_;rw [hs];refine dk ?_;refine Dg 2 3 ?_;refine ds 4 ?_;refine ds 5 ?_;refine ds 6 ?_;refine ds 7 ?_;refine ds 8 ?_;refine ds 9 ?_;refine ds 10 ?_;refine ds 11 ?_;refine dt 12 ?_;refine dd ?_;refine go ?_;refine ret () trivial ?_;unfold Gg;rw [g];rw [aH rfl,Ahf hi8 hlf (by unfold Aci;rw [Gp h5,hs];rfl)];rfl
  ·refine Ih ?_;intros;refine Ar [0,8] [] ?_;refine dt 0 ?_;refine dN 1 ?_;refine oC ?_;refine Be (Adt n.Ac[i] _ _) fun _ _=>?_;rw [hs];refine dk ?_;refine Dg 2 3 ?_;refine Dd 4 ?_;refine Dd 5 ?_;refine Dd 6 ?_;refine Dd 7 ?_;refine Dd 8 ?_;refine Dd 9 ?_;refine d1g 10 ?_;apply On.h;refine oC ?_;refine cb (fun w s=>Iv n.Ab.Aa.Am n.Ab.Aa.size _ n.Ab.Aa.Ak.length _ w hW.1.1 hW.1.2 EV) ?_;refine dk ?_;refine Dd 11 ?_;refine dt 12 ?_;refine dd ?_;refine go ?_;refine A1 rfl (fun h6=>?_) (fun h6=>?_)
   ·refine go ?_;refine ret () trivial ?_;unfold Gg;rw [g];rw [aH rfl,Ahf hi8 hlf (by unfold Aci;rw [Gp h5,hs,ay h6];rfl)];rfl
   ·refine go ?_;rw [show ((k:Nat):Int)+1=((k+1:Nat):Int) by omega];refine Cb (k+1) ⟨hk3,fun x hx=>?_⟩ EV;rw [aR hk3] at hx;rcases aJ.1 hx with hx|hx
    ·exact hal x hx
    ·rw [aL.1 hx,hie];show Aci n i=true;unfold Aci;rw [Gp h5,hs,av (cX.1 h6)];rfl
 ·refine Ih ?_;intros;refine Ar [2] [] ?_;refine C8 0 1 3 4 ?_;refine dN 2 ?_;refine oC ?_;refine Be (U4 n.down _ _ _ EV fun q hq=>(C5 (e3 q hq)).1) fun _ _=>?_;refine dk ?_;refine dN 5 ?_;refine oC ?_;refine Be (U4 n.up _ _ _ EV fun q hq=>(C5 (e4 q hq)).1) fun _ _=>?_;refine dk ?_;refine C8 6 7 8 9 ?_;refine dd ?_;have hst:Y7 n=decide (((qd n.down:Nat):Int)+((qd n.up:Nat):Int)=0):=by
   by_cases h0:X0 n=0
   ·rw [Aoe h0 fun j hj hl=>hal ((j:Nat):Int) (by rw [aW EV];exact Ax2 hj hl)];exact (av JO).symm
   ·rw [Azj h0];exact (ay JO).symm
  rw [<-hst];refine go ?_;refine ret () trivial ?_;unfold Gg;rw [g];rfl
theorem Aa8 {k:Nat} (h:k<=999999):(bz (Lib.itoa ((k:Nat):Int))).size<=6:=by
 rw [Jv,Ps (dB k),Int.natAbs_natCast];exact D8 5 k HY
theorem Bcc (n:Dt) (line:au) (v:Value) (F FT:aq) (g:At n=true):Fn prog 114 [v,af line] [.isv Oi v n F,Gk FT] [] (fun (u:au × Bool)=>Ku n line.data.toList=if u.2 then some u.1 else none) (fun u=>.tuple #[af u.1,.bool u.2]) (fun _=>[]):=by
 refine enter func114 rfl ntmps114 fun w0=>?_;refine Fb ?_;rintro a1 c1 F1 a2 c2 F2 a3 c3 F3 a4 c4 F4 a5 c5 F5 a6 c6 F6 a7 c7 F7 rfl l1 l2 l3 l4 l5 l6 l7;obtain ⟨e1,e2,e3,e4⟩:=Hx g;obtain ⟨q2,q8,qn,qu,qe,qt⟩:=M9 g;have hG:=Ax.1 g;obtain ⟨-,qr, -, -⟩:=Bk.1 hG.l;have hS:=J9 hG.s;have hW:=Dq.1 (Eo.1 hG.s).1;have hS1:=hS.l;have hb1:=N5 (fun q hq=>(C5 (e3 q hq)).1) n.down.length;have hb2:=N5 (fun q hq=>(C5 (e4 q hq)).1) n.up.length;rw [bm] at hb1 hb2;have z1:=Aa8 (k:=qd n.down) EV;have z2:=Aa8 (k:=qd n.up) EV;refine go ?_;intros;refine A1 rfl (fun h1=>?_) (fun h1=>?_)
 ·refine go ?_;refine cb (fun w s=>Iv n.Ab.Aa.Am n.Ab.Aa.size _ n.Ab.Aa.Ak.length _ w hW.1.1 hW.1.2 EV) ?_;have hld:=Abb n.Ab.Aa;unfold Lo at hld;refine go ?_;refine cb (fun w st=>Z3 (Cd n.Ab.Aa.Am n.Ab.Aa.Ak.length) EV EV FT w (st.get (p:=Gk FT) EX)) ?_;refine go ?_;refine ret (⟨_,true⟩:au × Bool) ?_ rfl;show Ku n _=some _;unfold Ku;rw [aH (show line.data.toList=Abw from Dx.1 h1)];rfl
 refine go ?_;refine A1 rfl (fun h2=>?_) (fun h2=>?_)
 ·refine Ih ?_;intros;refine Ar [0] [] ?_;refine C8 0 1 5 6 ?_;refine dN 2 ?_;refine oC ?_;refine Be (U4 n.down _ _ _ EV fun q hq=>(C5 (e3 q hq)).1) fun _ _=>?_;refine dk ?_;refine dN 3 ?_;refine oC ?_;refine cb (fun w st=>Z3 ((qd n.down:Nat):Int) EV EV FT w (st.get (p:=Gk FT) EX)) ?_;refine dk ?_;refine dt 4 ?_ (hy:=Ie rfl rfl (by show _+1<=9223372036854775807;omega));refine dN 7 ?_;refine oC ?_;refine Be (U4 n.up _ _ _ EV fun q hq=>(C5 (e4 q hq)).1) fun _ _=>?_;refine dk ?_;refine dN 8 ?_;refine oC ?_
  refine cb (fun w st=>Z3 ((qd n.up:Nat):Int) EV EV FT w (st.get (p:=Gk FT) EX)) ?_;refine dk ?_;refine dt 9 ?_ (hy:=Ie rfl rfl (by rw [aQ];show _+1+_<=9223372036854775807;omega));refine Dg 10 11 ?_;refine dd ?_;refine go ?_;refine ret (⟨_,true⟩:au × Bool) ?_ rfl;show Ku n _=some _;unfold Ku;rw [aC (show ¬line.data.toList=Abw from fun e=>h1 (Dx.2 e)),aH (show line.data.toList=Wc from Dx.1 h2)]
 refine go ?_;refine A1 rfl (fun h3=>?_) (fun h3=>?_)
 ·refine go ?_;have hP:=fun v=>Ao4 n v F;simp only [show Gg n=(Y7 n,true) by unfold Gg;rw [g];rfl] at hP;refine Be (hP _) fun _ _=>?_;have e:Ku n line.data.toList=some (if Y7 n then bz Bc5 else bz wNo):=by
   unfold Ku;rw [aC (show ¬line.data.toList=Abw from fun e=>h1 (Dx.2 e)),aC (show ¬line.data.toList=Wc from fun e=>h2 (Dx.2 e)),aH (show line.data.toList=Yc from Dx.1 h3)]
  cases hst:Y7 n
  ·refine go ?_;refine ret (⟨bz wNo,true⟩:au × Bool) ?_ rfl;rw [e,hst];rfl
  ·refine go ?_;refine ret (⟨bz Bc5,true⟩:au × Bool) ?_ rfl;rw [e,hst];rfl
 ·refine go ?_;refine ret (⟨⟨#[]⟩,false⟩:au × Bool) ?_ rfl;unfold Ku;rw [aC (show ¬line.data.toList=Abw from fun e=>h1 (Dx.2 e)),aC (show ¬line.data.toList=Wc from fun e=>h2 (Dx.2 e)),aC (show ¬line.data.toList=Yc from fun e=>h3 (Dx.2 e))];rfl
theorem Ui {n:Dt} {w:Bs} {l:ar} (h:Ff 1 (l.getD 0 0) ((n.Ap.Ad.length:Int) - 1)=true):Jz n w l =
  if w=Aho/\l.length=1/\Te n (l.getD 0 0)=true then some (Uz ((P4 n (l.getD 0 0).toNat).An.map (·.Ae)))
  else if w=Ahq/\l.length=1/\Te n (l.getD 0 0)=true/\(P4 n (l.getD 0 0).toNat).Bd=true then some (Aea (P4 n (l.getD 0 0).toNat).Aa)
  else if w=Nh/\l.length=2/\Te n (l.getD 0 0)=false then (if B8 (l.getD 1 0) then some (Uz (Lf (Pp n (l.getD 0 0).toNat) (l.getD 1 0))) else none)
  else none:=by unfold Jz;rw [aH h]
theorem Air {e:Bf} (he:Ba e=true) (k:Int):(∀f∈(Fv e k).1,0<=f/\f<=99999)/\(Fv e k).1.length<=1000:=by
 unfold Fv
 split
 ·refine ⟨fun f hf=>by have:=Aiq he f hf;omega,?_⟩;unfold Lf
  split
  ·rename_i x hx;have:=(Un he).2.2 x (bX hx);dsimp only;omega
  ·exact aE _
 ·exact ⟨fun f hf=>(by cases hf),aE _⟩
theorem Ba3 (n:Dt) (w:au) (l:ar) (v:Value) (F:aq) (a:aj) (c:Nat) (Fl FT:aq) (g:At n=true) (hl0:0 < l.length):Fn prog 116 [v,af w,ab a l.length c] [.isv Oi v n F,.sl Bb (ab a l.length c) l Fl,Gk FT] [] (fun (u:au × Bool)=>Jz n w.data.toList l=if u.2 then some u.1 else none) (fun u=>.tuple #[af u.1,.bool u.2]) (fun _=>[]):=by
 refine enter func116 rfl ntmps116 fun w0=>?_;refine Fb ?_;rintro a1 c1 F1 a2 c2 F2 a3 c3 F3 a4 c4 F4 a5 c5 F5 a6 c6 F6 a7 c7 F7 rfl l1 l2 l3 l4 l5 l6 l7;obtain ⟨e1,e2,e3,e4⟩:=Hx g;obtain ⟨q2,q8,qn,qu,qe,qt⟩:=M9 g;have hG:=Ax.1 g;obtain ⟨-,qr, -, -⟩:=Bk.1 hG.l;have hS:=J9 hG.s;have hW:=Dq.1 (Eo.1 hG.s).1;have hS1:=hS.l;have hb1:=N5 (fun q hq=>(C5 (e3 q hq)).1) n.down.length;have hb2:=N5 (fun q hq=>(C5 (e4 q hq)).1) n.up.length;rw [bm] at hb1 hb2;refine Jw n.Ap (a1:=a1) ?_;refine In (xs:=l) 0 ?_;rintro hi0 b0 o0 rfl;have eg:l.getD 0 0=l[0]:=Pq hi0 0;refine go ?_;intros
 refine ce (fun w s=>Hy _ _ _ _) ?_;cases hb:Ff 1 l[0] ((n.Ap.Ad.length:Int) - 1)
 ·refine go ?_;refine ret (⟨⟨#[]⟩,false⟩:au × Bool) ?_ rfl;unfold Jz;rw [eg,hb];rfl
 have hb0:=hb;unfold Ff at hb0;simp only [aw,aF] at hb0;obtain ⟨i,hi⟩:∃i:Nat,l[0]=(i:Int):=⟨l[0].toNat,EV⟩;have hi8:i < n.Ap.Ad.length:=EV
 have h5:i < n.Ac.length:=EV
 have hie:i < n.Af.length:=EV
 rw [<-eg] at hb;have eN:l.getD 0 0=(i:Int):=by rw [eg,hi]
 rw [hi];refine go ?_;refine Be (Xm n.Ap (i:Int) _ F1) fun _ _=>?_;generalize hlf:Es n.Ap.Ad (i:Int)=B;have hLN:Te n (l.getD 0 0)=B:=by rw [eN];exact hlf
 repeat (apply wO;apply oc;rfl;exact ydE)
 apply T3;apply Xu;apply N7;apply Rz;apply N7;have hR:=Ej.1 (e2 _ (aB h5));have er:P4 n (l.getD 0 0).toNat=n.Ac[i]:=by rw [eN,bc];exact Gp h5
 refine Du [1,2,3,6,7,8,9] [0,1,2,3,4,5,6,7,8,9,10,11,12] (fun b:Bool=>[(29,.bool b)]) (fun _=>[]) (fun b=>b=decide (w=⟨#[97,119,97,105,116]⟩/\l.length=1/\B=true)) ?_ fun b hb9=>?_
 ·by_cases hw:w=⟨#[97,119,97,105,116]⟩
  ·refine go ?_;rw [show decide (w=⟨#[97,119,97,105,116]⟩)=true from av hw];refine go ?_;by_cases hn:l.length=1
   ·rw [show decide ((l.length:Int)=1)=true from av EV];refine go ?_;refine Bh B ?_;cases B <;> simp [hw,hn]
   ·rw [show decide ((l.length:Int)=1)=false from ay EV];refine go ?_;refine Bh false ?_;simp [hn]
  ·refine go ?_;rw [show decide (w=⟨#[97,119,97,105,116]⟩)=false from ay hw];refine go ?_;refine Bh false ?_;simp [hw]
 subst hb9;by_cases hc1:w=⟨#[97,119,97,105,116]⟩/\l.length=1/\B=true
 ·rw [av hc1];refine Jc (xs:=n.Ac) i ?_;rintro h5b b5 o5 a9 c9 F9 a10 c10 F10 e5 l9 l10;rw [e5];refine Dy n.Ac[i] ?_;refine go ?_;refine Be (Abz n.Ac[i] _ _) fun z _=>?_;obtain ⟨ra,rc,rF⟩:=z;dsimp only;have hP:=Ze (n.Ac[i].An.map (·.Ae)) ra rc;have ea:E7 n.Ac[i]=(n.Ac[i].An.map (·.Ae),true):=by unfold E7;rw [e2 _ (aB h5)];rfl
  rw [ea];dsimp only;refine Av (E:=Bb) (xs:=n.Ac[i].An.map (·.Ae)) fun F8=>?_;refine go ?_;refine cf (hP F8 FT (fun f hf=>by
   obtain ⟨q,hq,rfl⟩:=bO.1 hf;have:=A4.1 (X4 hR hq).1;omega) (by rw [bf];have:=(Di.1 hR.q).2.1;omega)) fun _ _=>?_
  refine Oz ?_;refine go ?_;refine ret (⟨_,true⟩:au × Bool) ?_ rfl;rw [Ui hb,aH ⟨Dx.1 hc1.1,hc1.2.1,hLN.trans hc1.2.2⟩,er];rfl
 rw [ay hc1];apply Xu;apply c_f;rfl;apply N7;refine Du [1,2,3,6,7,8,9] [0,1,2,3,4,5,6,7,8,9,10,11,12] (fun b:Bool=>[(51,.bool b)]) (fun _=>[]) (fun b=>b=decide (w=⟨#[115,108,111,116,115]⟩/\l.length=1/\B=true/\n.Ac[i].Bd=true)) ?_ fun b hb9=>?_
 ·refine Jc (xs:=n.Ac) i ?_;rintro h5b b5 o5 a9 c9 F9 a10 c10 F10 e5 l9 l10;rw [e5];by_cases hw:w=⟨#[115,108,111,116,115]⟩
  ·refine go ?_;rw [show decide (w=⟨#[115,108,111,116,115]⟩)=true from av hw];refine go ?_;by_cases hn:l.length=1
   ·rw [show decide ((l.length:Int)=1)=true from av EV];refine go ?_;cases B
    ·refine go ?_;refine Bh false ?_;simp
    ·refine go ?_;refine Bh n.Ac[i].Bd ?_;cases n.Ac[i].Bd <;> simp [hw,hn]
   ·rw [show decide ((l.length:Int)=1)=false from ay EV];refine go ?_;refine Bh false ?_;simp [hn]
  ·refine go ?_;rw [show decide (w=⟨#[115,108,111,116,115]⟩)=false from ay hw];refine go ?_;refine Bh false ?_;simp [hw]
 subst hb9;by_cases hc2:w=⟨#[115,108,111,116,115]⟩/\l.length=1/\B=true/\n.Ac[i].Bd=true
 ·rw [av hc2];refine Jc (xs:=n.Ac) i ?_;rintro h5b b5 o5 a9 c9 F9 a10 c10 F10 e5 l9 l10;rw [e5];refine Ce n.Ac[i].Aa (a1:=a9) ?_;refine go ?_;refine Be (An7 n.Ac[i].Aa _ F9 FT hR.w) fun _ _=>?_;refine go ?_;refine ret (⟨_,true⟩:au × Bool) ?_ rfl;rw [Ui hb,aC (fun e=>hc1 ⟨Dx.2 e.1,e.2.1,hLN.symm.trans e.2.2⟩),aH ⟨Dx.1 hc2.1,hc2.2.1,hLN.trans hc2.2.2.1,by rw [er];exact hc2.2.2.2⟩,er];rfl
 rw [ay hc2];apply Xu;apply c_f;rfl;apply N7;refine Du [2,3,6,7,8] [0,1,2,3,4,5,6,7,8,9,10,11,12] (fun b:Bool=>[(77,.bool b)]) (fun _=>[]) (fun b=>b=decide (w=⟨#[102,97,99,101,115]⟩/\l.length=2/\B=false)) ?_ fun b hb9=>?_
 ·by_cases hw:w=⟨#[102,97,99,101,115]⟩
  ·refine go ?_;rw [show decide (w=⟨#[102,97,99,101,115]⟩)=true from av hw];refine go ?_;by_cases hn:l.length=2
   ·rw [show decide ((l.length:Int)=2)=true from av EV];refine go ?_;refine Bh (!B) ?_;cases B <;> simp [hw,hn]
   ·rw [show decide ((l.length:Int)=2)=false from ay EV];refine go ?_;refine Bh false ?_;simp [hn]
  ·refine go ?_;rw [show decide (w=⟨#[102,97,99,101,115]⟩)=false from ay hw];refine go ?_;refine Bh false ?_;simp [hw]
 subst hb9;by_cases hc3:w=⟨#[102,97,99,101,115]⟩/\l.length=2/\B=false
 rotate_left
 ·rw [ay hc3];refine go ?_;refine ret (⟨⟨#[]⟩,false⟩:au × Bool) ?_ rfl;rw [Ui hb,aC (fun e=>hc1 ⟨Dx.2 e.1,e.2.1,hLN.symm.trans e.2.2⟩),aC (fun e=>hc2 ⟨Dx.2 e.1,e.2.1,hLN.symm.trans e.2.2.1,by rw [<-er];exact e.2.2.2⟩),aC (fun e=>hc3 ⟨Dx.2 e.1,e.2.1,hLN.symm.trans e.2.2⟩)];rfl
 rw [av hc3];have hl1:1 < l.length:=EV
 have hfn:=Air (e1 _ (aB hie)) l[1];refine In (xs:=l) 1 ?_;rintro hi1 b1 o1 ea1;cases ea1;refine N3 (xs:=n.Af) i ?_;rintro h5b b5 o5 a9 c9 F9 e5 l9;rw [e5];refine Ex n.Af[i] ?_;refine Ih ?_;intros;refine Ar [1,3,4] [9,10,11,12,13] ?_;refine C8 0 1 2 3 ?_;refine C8 4 5 6 7 ?_;refine dN 8 ?_;refine oC ?_;refine Be (Ao3 n.Af[i] l[1] _ _) fun z _=>?_;obtain ⟨fa,fc,fF⟩:=z;dsimp only;refine Av (E:=Bb) (xs:=(Fv n.Af[i] l[1]).1) fun F8=>?_;refine dk ?_;refine R5 9 ?_;refine R5 10 ?_;refine R5 11 ?_;refine R5 12 ?_;refine R5 13 ?_;refine dd ?_;refine go ?_
 refine Be (Ze (Fv n.Af[i] l[1]).1 fa fc F8 FT hfn.1 hfn.2) fun _ _=>?_;refine go ?_;refine ret (⟨_,(Fv n.Af[i] l[1]).2⟩:au × Bool) ?_ rfl;rw [Ui hb,aC (fun e=>hc1 ⟨Dx.2 e.1,e.2.1,hLN.symm.trans e.2.2⟩),aC (fun e=>hc2 ⟨Dx.2 e.1,e.2.1,hLN.symm.trans e.2.2.1,by rw [<-er];exact e.2.2.2⟩),aH ⟨Dx.1 hc3.1,hc3.2.1,hLN.trans hc3.2.2⟩,Pq hl1,eN,bc,Js hie];unfold Fv;rw [e1 _ (aB hie),bT];cases B8 l[1] <;> rfl
end Go.Proofs.YtkoldibamfjghaaGreatDoor
