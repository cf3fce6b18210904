/- Part 10 of the proof: 31 texts, one behind the other. -/
import Derived.Laws.StructEq
import Derived.Test.YtmckdnddocfodaaGreatDoorM9
open _root_.Go.Proofs.Tryz
set_option maxRecDepth 100000
set_option maxHeartbeats 8000000
set_option linter.all false
set_option linter.unusedVariables false
set_option linter.unusedSimpArgs false
namespace Go.Proofs.YtmckdnddocfodaaGreatDoor
theorem AA{p:Prop}(h:p:=by refine Bn Bi (by decide) ?_;refine Bn Bc (by decide) ?_;refine Bn Bx (by decide) ?_;refine Bn B9 (by decide) ?_;refine Bn Cg (by decide) ?_;refine Bn (Nr Ap (by decide)) (by decide) ?_;refine Bn (Nr Ap (by decide)) (by decide) ?_;refine I6 L4 (a1:=none) (c1:=0) (a2:=none) (c2:=0) (a3:=none) (c3:=0) (a4:=none) (c4:=0) (a5:=none) (c5:=0) (a6:=none) (c6:=0) (a7:=none) (c7:=0) ?_;refine go ?_;intros;refine Dk Bc ?_;refine go ?_;refine ret (⟨_,_,_,_,_⟩:Wx) trivial rfl):p:=h
theorem AG{p:Prop}(h:p:=by rw [show (ys++[([aa 77,ab none 0 0,aa (z.y.Ae+2)]:aj)]).length=(z.y.Af++[(⟨77,[],z.y.Ae+2⟩:Et)]).length by simp [hyl]];refine Gk ⟨z.y.Ae,z.y.Af++[⟨77,[],z.y.Ae+2⟩]⟩ ?_;refine ret ⟨⟨z.y.Ae,z.y.Af++[⟨77,[],z.y.Ae+2⟩]⟩,_,_,_,0,s3⟩ ⟨by show (z.y.Af++[_]).length<=1000;simp;omega,fun e he=>(aG.1 he).elim (fun h=>by have:=z1.f e h;have:=z1.mm;omega) (fun h=>by rw [aH.1 h];simp),hp.mono (by omega)⟩ rfl):p:=h
theorem AI{p:Prop}(h:p:=by refine dk ?_;refine dN 8 ?_;refine No (T9 ⟨p.Ab,x.Ae+3⟩) Iw fun a8 c8 F8=>?_;refine dk ?_;refine dN 13 ?_;refine M0 (ys:=x.holds.drop (Fa x.Aa.Al x.holds p.Ab)) Iw Lc (h63:=by simp;omega) (hby:=by simp;omega) fun a9 c9 F9=>?_;refine dk ?_;refine dt 14 ?_;refine dN 15 ?_;refine oS ?_;refine dk ?_;refine dd ?_;refine go ?_;rw [hAdd];refine Cs (⟨a9,c9,F9⟩:Au1) trivial):p:=h
theorem AL{p:Prop}(h:p:=by refine dk ?_;refine dN 3 ?_;refine oC ?_;refine Bw (Xu z.y l.1 _ z.F z1.t0 z1.t1 z1.l6 z1.z0 (by have:=z1.h1;omega) z1.w hl3) fun q _=>?_;refine dk ?_;refine dt 4 ?_;refine Xn 5 ?_;refine Xn 6 ?_;refine dN 7 ?_;refine oS ?_;refine Pg ?_;refine dd ?_;refine go ?_;rw [show ((z.i:Nat):Int) - 1=((z.i - 1:Nat):Int) by omega];refine Cv ⟨Pb z.y l.1,q.a,q.c,q.a2,q.c2,q.F,z.i - 1,l.2⟩ ⟨by rw [show r0 - (z.i - 1)=r0 - z.i+1 by omega];exact Am8 z1 hl3,by show z.i - 1<=r0;omega,hl2.mono (by show _<=B+20+50 * (r0 - (z.i - 1));omega)⟩ (by show z.i - 1 < z.i;omega)):p:=h
theorem AN{p:Prop}(h:p:=by rw [show (ys++[([aa q.1,ab (some ⟨gf,0,none⟩) 1 1,aa (z.y.Ae+(t.1:Nat))]:aj)]).length=(z.y.Af++[(⟨q.1,[(r.1:Int)],z.y.Ae+(t.1:Nat)⟩:Et)]).length by simp [hyl]];refine Gk ⟨z.y.Ae,z.y.Af++[⟨q.1,[(r.1:Int)],z.y.Ae+(t.1:Nat)⟩]⟩ ?_;refine ret ⟨⟨z.y.Ae,z.y.Af++[⟨q.1,[(r.1:Int)],z.y.Ae+(t.1:Nat)⟩]⟩,_,_,_,0,t.2⟩ ⟨by show (z.y.Af++[_]).length<=1000;simp;omega,fun e he=>(aG.1 he).elim (fun h=>by have:=z1.f e h;have:=z1.mm;omega) (fun h=>by rw [aH.1 h];simp),ht2.mono (by omega)⟩ rfl):p:=h
theorem AQ{p:Prop}(h:p:=by refine go ?_;rw [show ((zi:Nat):Int) - 1=((zi - 1:Nat):Int) by omega];refine Cv ⟨(Bo x t.t).1,_,_,zi - 1,t.s⟩ ⟨U9 eb,by show zi - 1<=23;omega,t3.mono (by show _<=B+400+200 * (23 - (zi - 1));omega)⟩ (by show zi - 1 < zi;omega)):p:=h
theorem AT{p:Prop}(h:p:=by refine go ?_;rw [show ((zi:Nat):Int) - 1=((zi - 1:Nat):Int) by omega];refine Cv ⟨x,_,_,zi - 1,t.s⟩ ⟨z1,by show zi - 1<=23;omega,t3.mono (by show _<=B+400+200 * (23 - (zi - 1));omega)⟩ (by show zi - 1 < zi;omega)):p:=h
theorem AY{p:Prop}(h:p:=by refine dd ?_;refine go ?_;refine Cv (k+1) hk3 (by omega)):p:=h
theorem BC{p:Prop}(h:p:=by rw [show Bo n s=(L4,[],false) by unfold Bo;rw [g1,g2,htk0,e1];rfl];exact AA):p:=h
theorem BL{p:Prop}(h:p:=by refine dk ?_;refine dN 7 ?_;refine oC ?_;refine Bw (Aap R (Ij (k+1)) _ Gi hgr (by omega) (by omega) (by have:=hgr.k1;omega)) fun s _=>?_;refine dk ?_;refine D7 8 9 10 11 ?_;refine dN 13 ?_;refine oS ?_;refine dk ?_;refine Ek 14 15 ?_;refine dd ?_;refine Cs (⟨_,s⟩:Nat × TkR) trivial):p:=h
theorem BP{p:Prop}(h:p:=by refine dk ?_;refine dN 8 ?_;refine oC ?_;refine Bw (Aao n.Ah[i] p (Ij i) _ Gi hgr hp d0 d1_) fun s _=>?_;refine dk ?_;refine Ek 9 10 ?_;refine dt 11 ?_;refine dN 13 ?_;refine oS ?_;refine dk ?_;refine dt 14 ?_;refine dd ?_;refine Cs (⟨_,s⟩:Nat × NwS) trivial):p:=h
theorem BS{p:Prop}(h:p:=by refine dk ?_;refine dN 6 ?_;refine oS ?_;refine dk ?_;refine dd ?_;refine go ?_;refine Cs (⟨_,z.a,z.c,z.a2,z.c2,z.F⟩:RjS) trivial):p:=h
theorem CE{p:Prop}(h:p:=by refine dk ?_;refine dt 6 ?_;refine dd ?_;refine go ?_;refine Eo (xs:=[Kd x.Aa]) (Dj _ (by show (⟨#[]⟩:am).size<=maxLen;decide)) ?_ (by simp);refine ret ⟨s.a,s.c,s.a2,s.c2,s.F,_,_,_⟩ trivial rfl):p:=h
theorem CF{p:Prop}(h:p:=by refine dk ?_;refine dN 11 ?_;refine oC ?_;refine Bw (hW _ F8) fun s _=>?_;refine dk ?_;refine dt 12 ?_;refine dN 14 ?_;refine oS ?_;refine dk ?_;refine dd ?_;refine Cs (⟨_,b1,d1,G1,s⟩:OwN) trivial):p:=h
theorem CI{p:Prop}(h:p:=by refine ret (⟨_,FN,_,_,_⟩:Wx) trivial rfl):p:=h
theorem CZ{p:Prop}(h:p:=by refine go ?_;intros;refine Az (E:=Ox) (xs:=z.l) fun Fs=>?_;refine ret ⟨x,_,Fx,z.l,z.a,z.c,Fs⟩ ⟨by show z.l.length<=1000;omega,qq,.inr z4⟩ rfl):p:=h
theorem EH{p:Prop}(h:p:=by refine dN 13 ?_;refine oS ?_;refine dk ?_;refine dt 14 ?_;refine dd ?_;refine Cs (⟨_,b3,d3,Fe,s.a,s.c,s.G⟩:JE) trivial):p:=h
theorem FR{p:Prop}(h:p:=by show x.1.Ao.Ad.length - (j+1) < x.1.Ao.Ad.length - j;omega):p:=h
theorem GR{p:Prop}(h:p:=by show _<=B+20+50 * (r0 - (z.i - 1));omega):p:=h
theorem HR{p:Prop}(h:p:=by show i < n.Ao.Ad.length;omega):p:=h
theorem HU{p:Prop}(h:p:=by show z.y.Aa.An.length<=7;omega):p:=h
theorem IS{p:Prop}(h:p:=by simpa using ev.symm):p:=h
theorem IV{p:Prop}(h:p:=by simpa using e9):p:=h
theorem JA{p:Prop}(h:p:=by show y.Ae<=30+((m+1:Nat):Int);omega):p:=h
theorem JG{p:Prop}(h:p:=by show z.i - 1<=r0;omega):p:=h
theorem JL{p:Prop}(h:p:=by show z.y.holds.length<=20;omega):p:=h
theorem JO{p:Prop}(h:p:=by simp only [aV];omega):p:=h
theorem JQ{p:Prop}(h:p:=by show j+1<=_;omega):p:=h
end Go.Proofs.YtmckdnddocfodaaGreatDoor
namespace Go.Proofs.YtmckdnddocfodaaGreatDoor
open Go.RowKit
open Go.RowKit
theorem Ai5 {α:Type} {E:B8 α} {w:World}:∀{ys:List (aj)} {xs:List α} {G:ak},C6 E w ys.flatten xs G->(∀y∈ys,y.length=E.sz)->∀i (h1:i < ys.length) (h2:i < xs.length),∃Gi,E.L5 w ys[i] xs[i] Gi/\∀b∈Gi,b∈G
 | [],_,_,_,_,i,h1,_=>by simp at h1
 | y::r,[],_,_,_,i,_,h2=>by simp at h2
 | y::r,x::s,G,h,hm,i,h1,h2=>by
  obtain ⟨c1,c2,F1,F2,e,rfl,hr,hs⟩:=h;rw [cL] at e;obtain ⟨e1,e2⟩:=fz e (by rw [hm y EO,E.len hr]);subst e1 e2;cases i with
  | zero=>exact ⟨F1,hr,fun b hb=>by simp [hb]⟩
  | succ j =>
   obtain ⟨Gi,g1,g2⟩:=Ai5 hs (fun z hz=>hm z HP) j GU GD;exact ⟨Gi,g1,fun b hb=>by simp [g2 b hb]⟩
theorem Afq {α:Type} {E:B8 α} {w:World} {cs:aj} {x:α} {G2:ak} (hx:E.L5 w cs x G2):∀{ys:List (aj)} {xs:List α} {G:ak},C6 E w ys.flatten xs G->(∀y∈ys,y.length=E.sz)->ys.length=xs.length->∀i,∃G',C6 E w (ys.set i cs).flatten (xs.set i x) G'/\∀b∈G',b∈G\/b∈G2
 | [],[],G,h,_,_,i=>⟨G,h,fun b hb=>.inl hb⟩
 | [],y::r,_,_,_,hl,_=>by simp at hl
 | y::r,[],_,_,_,hl,_=>by simp at hl
 | y::r,x1::s,G,h,hm,hl,i=>by
  obtain ⟨c1,c2,F1,F2,e,rfl,hr,hs⟩:=h;rw [cL] at e;obtain ⟨e1,e2⟩:=fz e (by rw [hm y EO,E.len hr]);subst e1 e2;cases i with
  | zero=>exact ⟨G2++F2,⟨cs,r.flatten,G2,F2,EO,rfl,hx,hs⟩,fun b hb=>by rcases aG.1 hb with hb|hb;exact .inr hb;exact .inl ES⟩
  | succ j =>
   obtain ⟨G',g1,g2⟩:=Afq hx hs (fun z hz=>hm z HP) FQ j;refine ⟨F1++G',⟨y,(r.set j cs).flatten,F1,G',EO,rfl,hr,g1⟩,fun b hb=>?_⟩;rcases aG.1 hb with hb|hb
   ·exact .inl ES
   ·rcases g2 b hb with h|h
    ·exact .inl (by simp [h])
    ·exact .inr h
section
variable {c:Cx} {fr:Fr} {H:List Pc} {Φ:Gl}
theorem Fb {m:Nat} {t:TypeId} {a:ai} {n cp:Nat} {ys:List (aj)} {F:ak} (h:(∀y∈ys,y.length=m)->ys.length=n->T c fr H Φ) (hp:.ow (EC m) t (ab a n cp) ys F∈H:=by exact Cb):T c fr H Φ:=.mk fun ac w s g=>by
 obtain ⟨hnd,ho⟩:=s.get hp;have key:(∀y∈ys,y.length=m)/\ys.length=n:=by
  rcases ho with ⟨e,rfl, -⟩|⟨b,cap,cs,rest,G,e,h2,h3,h4,h5,h6, -⟩
  ·cases e;exact ⟨EO,rfl⟩
  ·cases e;exact ⟨(Ag9 h6).2.2,rfl⟩
 exact (h key.1 key.2).h ac w s g
theorem Azr {α:Type} {E:B8 α} {k:Nat} {v:Value} {xs:List α} {G:ak} (h:xs.length=k->T c fr H Φ) (hp:.isv (EA E k) v xs G∈H:=by exact Cb):T c fr H Φ:=.mk fun ac w s g=>by
 obtain ⟨cs,e,hl,hf⟩:=s.get hp;exact (h hl).h ac w s g
theorem Aef {α:Type} {E:B8 α} {k:Nat} {ys:List (aj)} {xs:List α} {G:ak} (i:Nat) (hm:∀y∈ys,y.length=E.sz) (hl:ys.length=xs.length) (h1:i < ys.length) (h:∀(h1:i < ys.length) (h2:i < xs.length) Gi,T c fr (.isv E (.agg ys[i].toArray) xs[i] Gi::H) Φ) (hp:.isv (EA E k) (.agg ys.flatten.toArray) xs G∈H:=by exact Cb):T c fr H Φ:=.mk fun ac w s g=>by
 obtain ⟨cs,e, -,hf⟩:=s.get hp;obtain rfl:ys.flatten=cs:=IZ
 obtain ⟨Gi,g1,g2⟩:=Ai5 hf hm i h1 EM;exact (h h1 EM Gi).h ac w (s.ro hp rfl rfl ⟨_,rfl,g1⟩ g2) g
theorem Aeg {α:Type} {E:B8 α} {k:Nat} {ys:List (aj)} {xs:List α} {G:ak} (i:Nat) (hm:∀y∈ys,y.length=E.sz) (hl:ys.length=xs.length) (h1:i < ys.length) (h:∀(h1:i < ys.length) (h2:i < xs.length) v Gi,v=.agg ys[i].toArray->T c fr (.isv E v xs[i] Gi::H) Φ) (hp:.isv (EA E k) (.agg ys.flatten.toArray) xs G∈H:=by exact Cb):T c fr H Φ:=Aef i hm hl h1 (fun h1 h2 Gi=>h h1 h2 _ Gi rfl) hp
theorem P3 {α:Type} {E:B8 α} {k:Nat} {ys:List (aj)} {xs:List α} {G G2:ak} {v:Value} {cs:aj} {x:α} (i:Nat) (hv:v=.agg cs.toArray) (hm:∀y∈ys,y.length=E.sz) (hl:ys.length=xs.length) (h:∀G',T c fr (.isv (EA E k) (.agg (ys.set i cs).flatten.toArray) (xs.set i x) G'::H) Φ) (hp:.isv (EA E k) (.agg ys.flatten.toArray) xs G∈H:=by exact Cb) (hp2:.isv E v x G2∈H:=by exact Cb):T c fr H Φ:=.mk fun ac w s g=>by
 subst hv;obtain ⟨c1,e,hk,hf⟩:=s.get hp;obtain rfl:ys.flatten=c1:=IZ
 obtain ⟨c2,e2,hx⟩:=s.get hp2;obtain rfl:cs=c2:=by simpa using e2
 obtain ⟨G',g1,g2⟩:=Afq hx hf hm hl i;refine (h G').h ac w (s.add (N:=[.isv (EA E k) (.agg (ys.set i cs).flatten.toArray) (xs.set i x) G']) (Below.refl _ _) (by intro p hq;rw [aH] at hq;subst hq;exact ⟨_,rfl,by simpa using hk,g1⟩) ⟨EO,trivial⟩ ?_) g;intro p hq z hb;rw [aH] at hq;subst hq;rcases g2 z hb with hb|hb
 ·exact .inr ⟨rfl,_,hp,rfl,hb⟩
 ·exact .inr ⟨rfl,_,hp2,rfl,hb⟩
theorem Aal {α:Type} {E:B8 α} {hz:0 < E.sz} {v:Value} {x:List α} {G:ak} (h:∀a1 c1,v=.agg #[ab a1 x.length c1]->x.length<=maxLen->T c fr (.sl E (ab a1 x.length c1) x G::H) Φ) (hp:.isv (Nr E hz) v x G∈H:=by exact Cb):T c fr H Φ:=.mk fun ac w s g=>by
 obtain ⟨cs,rfl,v1,rfl,h1⟩:=s.get hp;obtain ⟨a1,c1,rfl⟩:=h1.slice;exact (h a1 c1 rfl h1.len).h ac w (s.ro hp rfl rfl ⟨hz,h1⟩ fun b hb=>hb) g
theorem X0 {α:Type} {E:B8 α} {v:Value} {x:List α} {G:ak} (hz:0 < E.sz) (h:T c fr (.isv (Nr E hz) (.agg #[v]) x G::H) Φ) (hp:.sl E v x G∈H:=by exact Cb):T c fr H Φ:=.mk fun ac w s g=>by
 obtain ⟨-,h1⟩:=s.get hp;exact h.h ac w (s.ro hp rfl rfl ⟨[v],rfl,v,rfl,h1⟩ fun b hb=>hb) g
end
end Go.Proofs.YtmckdnddocfodaaGreatDoor
namespace Go.Proofs.YtmckdnddocfodaaGreatDoor
open Go.RowKit
theorem Ap4 {q ps:List Ar} {k:Nat} (h:6<=(Da q (ps.take k)).length):Da q (ps.take k)=Da q ps:=by
 unfold Da at *;rw [aw,aL,aL] at h;rw [List.take_take]
 congr 1
 by_cases h6:6<=q.length
 ·rw [show min (6 - q.length) k=6 - q.length by omega]
 ·by_cases hk:6 - q.length<=k
  ·rw [show min (6 - q.length) k=6 - q.length by omega]
  ·rw [show min (6 - q.length) k=k by omega,bc EM,bc EM]
theorem Ap5 {q ps:List Ar} {k:Nat} (hk:k < ps.length) (h:(Da q (ps.take k)).length < 6):Da q (ps.take (k+1))=Da q (ps.take k)++[ps[k]]:=by
 rw [aZ hk,Agi];unfold Er;rw [ar h]
theorem Adr (q ps:List Ar) (a:ai) (c:Nat) (F:ak) (a2:ai) (c2:Nat) (F2:ak) (hq:q.length<=1000000):Fn prog 144 [ab a q.length c,ab a2 ps.length c2] [.sl Ap (ab a q.length c) q F,.sl Ap (ab a2 ps.length c2) ps F2] [] (fun (_:KA)=>True) (fun z=>.slice z.a (Da q ps).length z.c) (fun z=>[.ow Ap 103 (.slice z.a (Da q ps).length z.c) (Da q ps) z.F]):=by
 refine enter func144 rfl ntmps144 fun w0=>?_;refine Th (E:=Ap) (xs:=ps) ?_;rintro _ _ e0 hn1 hn2;refine Aa3 (E:=Ap) (xs:=ps) (fun p:Ar=>p.data.size<=maxLen) (fun w cs x F h=>by obtain ⟨_,h,_⟩:=h;exact h) ?_;intro hz;cases e0;refine go ?_;intros;refine Dk Ap ?_;refine go ?_;apply wO;refine M0 Ig Kt fun a3 c3 F3=>?_;rw [bb];refine go ?_;have e0:Da q (ps.take 0)=q:=by unfold Da;simp
 refine Cu [1,4] (fun z:KA=>[(5,.slice z.a (Da q (ps.take z.k)).length z.c),(6,aa (z.k:Nat))]) (fun z=>[.ow Ap 103 (.slice z.a (Da q (ps.take z.k)).length z.c) (Da q (ps.take z.k)) z.F]) (fun z=>z.k<=ps.length) (fun z=>ps.length - z.k) ⟨0,a3,c3,F3⟩ (aD _) (fun z hz0=>?_) (hf:=by dsimp only;rw [e0];exact frE) (hH:=by dsimp only;rw [e0];exact Ad3);have hql:(Da q (ps.take z.k)).length<=q.length+ps.length:=by unfold Da;rw [aw,aL,aL];omega
 have hnn:ps.length<=9223372036854775807:=EM
 refine go ?_;refine Dm rfl rfl (fun h1=>?_) (fun h1=>?_)
 ·have hk:z.k < ps.length:=EM
  refine go ?_;refine Bf rfl (fun h2=>?_) (fun h2=>?_)
  ·have h6:(Da q (ps.take z.k)).length < 6:=EM
   have hpz:=hz _ (aE hk);refine N0 (xs:=ps) z.k ?_;rintro hi3 b3 o3 e3 s3;rw [e3];refine go ?_;intros;apply wO;refine No (ys:=[ps[z.k]]) (Dj ps[z.k] hpz) Ig fun a7 c7 F7=>?_;rw [<-Ap5 hk h6];refine go ?_;refine Cv ⟨z.k+1,a7,c7,F7⟩ hk (by show ps.length - (z.k+1) < ps.length - z.k;omega)
  ·rw [Ap4 EM];exact CK
 ·rw [show ps.take z.k=ps from bc EM];exact CK
theorem Atc {q ps:List Ar} (h:q.length<=6):(Da q ps).length<=6:=by unfold Da;rw [aw,aL];omega
theorem Awa {d:List (List Ar)} {i:Nat} {ps:List Ar} (h:∀q∈d,q.length<=6):∀q∈d.modify i (fun q=>Da q ps),q.length<=6:=fun q hq=>by
 by_cases hi:i < d.length
 ·rw [Hk hi] at hq;rcases bq hq with h'|rfl
  ·exact h q h'
  ·exact Atc (h _ (aE hi))
 ·rw [Xw hi] at hq;exact h q hq
theorem Aej {ps:List Ar}:∀{nodes:al} {d:List (List Ar)},(∀q∈d,q.length<=6)->∀q∈Dc d nodes ps,q.length<=6
 | [],_,h=>h
 | x::r,d,h=>by
  show ∀q∈Dc (d.modify x.toNat fun q=>Da q ps) r ps,q.length<=6;exact Aej (Awa h)
structure ShZ where
 k:Nat
 ys:List (aj)
 F:ak
 G:ak
theorem M8 (d:List (List Ar)) (nodes:al) (ps:List Ar) (a1 a2 a3 a4 a5 a7:ai) (l1 c1 l2 c2 l3 c3 l4 c4 l5 c5 l7 c7:Nat) (w1 w2 w3 w4:Int) (a:ai) (n c:Nat) (ys:List (aj)) (F G:ak) (an:ai) (cn:Nat) (Fn_:ak) (ap:ai) (cp:Nat) (Fp:ak) (hx:∀x∈nodes,0<=x/\x.toNat < d.length) (hd:∀q∈d,q.length<=6) :
  Fn prog 73 [.agg #[ab a1 l1 c1,aa w1,aa w2,ab a2 l2 c2,aa w3,aa w4,ab a3 l3 c3,ab a4 l4 c4,ab a5 l5 c5,ab a n c,ab a7 l7 c7],ab an nodes.length cn,ab ap ps.length cp] [.sl Bi (ab an nodes.length cn) nodes Fn_,.sl Ap (ab ap ps.length cp) ps Fp,.isv (EA (Nr Ap EN) n) (.agg (ys).flatten.toArray) d G] [.ow (EC 1) 85 (ab a n c) ys F] (fun (_:ShZ)=>True) (fun _=>.tuple #[]) (fun z=>[.ow (EC 1) 85 (ab a n c) z.ys z.F,.isv (EA (Nr Ap EN) n) (.agg (z.ys).flatten.toArray) (Dc d nodes ps) z.G]):=by
 refine enter func73 rfl ntmps73 fun w0=>?_;refine Th (E:=Bi) (xs:=nodes) ?_;rintro _ _ e0 hn1 hn2;cases e0;refine Azr (xs:=d) fun hdn=>?_;refine go ?_;intros;refine Cu [1,2,3] (fun z:ShZ=>[(6,aa (z.k:Nat))]) (fun z=>[.ow (EC 1) 85 (ab a n c) z.ys z.F,.isv (EA (Nr Ap EN) n) (.agg (z.ys).flatten.toArray) (Dc d (nodes.take z.k) ps) z.G]) (fun z=>z.k<=nodes.length) (fun z=>nodes.length - z.k) ⟨0,ys,F,G⟩ (aD _) fun z hz0=>?_;have hsl:=Ya ps (nodes.take z.k) d;have hd6:=Aej (ps:=ps) (nodes:=nodes.take z.k) hd;refine go ?_;refine Bf rfl (fun h1=>?_) (fun h1=>?_)
 ·have hk:z.k < nodes.length:=EM
  obtain ⟨x0,x1⟩:=hx _ (aE hk);obtain ⟨i,hi⟩:∃i:Nat,nodes[z.k]=((i:Nat):Int):=⟨nodes[z.k].toNat,EM⟩;have hil:i < (Dc d (nodes.take z.k) ps).length:=EM
  have hst:=Abx (d:=d) (ps:=ps) hk;rw [show nodes[z.k].toNat=i by omega] at hst;unfold Qt at hst;rw [Hk hil] at hst;have h6:=hd6 _ (aE hil);refine Jg (xs:=nodes) z.k ?_;rintro hi2 b o e1;rw [e1,hi];refine Fb (ys:=z.ys) fun hm hl=>?_;refine Aef (ys:=z.ys) (xs:=Dc d (nodes.take z.k) ps) i hm EM EM fun h2 h3 Gi=>?_;refine Aal (x:=(Dc d (nodes.take z.k) ps)[i]) fun a9 c9 e9 l9=>?_;refine Qq (E:=EC 1) (xs:=z.ys) (m:=1) (Hj 1) i ?_ EP rfl h2;rintro _ g A cs B rfl k2 k3 hH;obtain ⟨k4, -, -⟩:=k3 w0
  have e8:z.ys[i]=[.slice a9 (Dc d (nodes.take z.k) ps)[i].length c9]:=IV
  rw [e8] at k4;subst k4;dsimp only [List.append];refine go ?_;refine As [0,3,5] [17] ?_;refine D7 0 1 2 3 ?_;refine D7 4 5 6 7 ?_;refine D7 8 9 10 11 ?_;refine Ek 12 13 ?_;refine dt 14 ?_;refine dN 15 ?_;refine oC ?_;refine Bw (Adr (Dc d (nodes.take z.k) ps)[i] ps a9 c9 _ ap cp Fp EM) fun u _=>?_;refine dk ?_;refine dt 16 ?_;refine dN 17 ?_;refine oS ?_;refine Pg ?_;refine dd ?_;refine Pf (E:=EC 1) (xs:=z.ys) [.slice u.a (Da (Dc d (nodes.take z.k) ps)[i] ps).length u.c] hH (fun w=>⟨rfl,⟨rfl,EW⟩,rfl⟩) ?_
  refine Az (E:=Ap) (xs:=Da (Dc d (nodes.take z.k) ps)[i] ps) fun Fq=>?_;refine X0 (E:=Ap) (x:=Da (Dc d (nodes.take z.k) ps)[i] ps) EN ?_;refine P3 (E:=Nr Ap EN) (ys:=z.ys) (xs:=Dc d (nodes.take z.k) ps) (x:=Da (Dc d (nodes.take z.k) ps)[i] ps) i rfl hm EM fun G'=>?_;rw [<-hst];refine go ?_;refine Cv ⟨z.k+1,z.ys.set i [.slice u.a (Da (Dc d (nodes.take z.k) ps)[i] ps).length u.c],[g],G'⟩ hk (by show nodes.length - (z.k+1) < nodes.length - z.k;omega)
 ·rw [show nodes.take z.k=nodes from bc EM];refine go ?_;refine Va ?_;refine ret z trivial rfl
theorem Aji {l:al} (hg:Hf l) (i:Nat):Pz 1 7 (E7 l ((i:Nat):Int))=true:=by
 refine Agj ?_ fun z hz=>?_
 ·unfold E7 I8;rw [List.pairwise_map];exact (List.Pairwise.filter _ List.pairwise_lt_range).imp fun h=>by omega
 ·have:=If hg hz;have:=hg.n1;omega
structure ShA where
 ys:List (aj)
 F:ak
 G:ak
structure SZ where
 e:ShA
 r:ShA
 d:ShA
 u:ShA
structure JE where
 g:Nat
 b:ai
 d:Nat
 F:ak
 a:ai
 c:Nat
 G:ak
theorem Ahm (n:Du) (i:Nat) (p:Ar) (a1:ai) (c1:Nat) (a4:ai) (c4:Nat) (a5:ai) (c5:Nat) (a6:ai) (c6:Nat) (a7:ai) (c7:Nat) (a2 a3:ai) (l2 c2 l3 c3:Nat) (w1 w2 w3 w4:Int) (F1:ak) (z:SZ) (FT:ak) (hl:Kn n=true) (hi:i < n.Ao.Ad.length) (hi0:0 < i) (h8:Hf n.Ao.Ad) (hr:Br n.Ao.Ad (i:Nat)=true->Dx (N6 n i)=true) (he:Br n.Ao.Ad (i:Nat)=false->Ba (Li n i)=true) (hp:Bh p=true) (hps:p.data.size<=maxLen) (hd:∀q∈n.down,q.length<=6) :
  Fn prog 76 [.agg #[ab a1 n.Ao.Ad.length c1,aa w1,aa w2,ab a2 l2 c2,aa w3,aa w4,ab a3 l3 c3,ab a4 n.Ao.Ad.length c4,ab a5 n.Ao.Ad.length c5,ab a6 n.Ao.Ad.length c6,ab a7 n.Ao.Ad.length c7],aa (i:Nat),.agg #[aa (p).Bd,aa (p).Ab,aa (p).Al,aa (p).Cy,af (p).data]] [Nx FT,.sl Bi (ab a1 n.Ao.Ad.length c1) n.Ao.Ad F1,.isv (EA B9 n.Ao.Ad.length) (.agg z.e.ys.flatten.toArray) n.Ai z.e.G,.isv (EA Cg n.Ao.Ad.length) (.agg z.r.ys.flatten.toArray) n.Ah z.r.G,.isv (EA (Nr Ap EN) n.Ao.Ad.length) (.agg z.d.ys.flatten.toArray) n.down z.d.G,.isv (EA (Nr Ap EN) n.Ao.Ad.length) (.agg z.u.ys.flatten.toArray) n.up z.u.G] [.ow (EC 2) 76 (ab a4 n.Ao.Ad.length c4) z.e.ys z.e.F,.ow (EC 5) 83 (ab a5 n.Ao.Ad.length c5) z.r.ys z.r.F,.ow (EC 1) 85 (ab a6 n.Ao.Ad.length c6) z.d.ys z.d.F,.ow (EC 1) 85 (ab a7 n.Ao.Ad.length c7) z.u.ys z.u.F] (fun (_:SZ × KA)=>True) (fun y=>.slice y.2.a (C1 n i p).2.length y.2.c) (fun y=>[.ow (EC 2) 76 (ab a4 n.Ao.Ad.length c4) y.1.e.ys y.1.e.F,.ow (EC 5) 83 (ab a5 n.Ao.Ad.length c5) y.1.r.ys y.1.r.F,.ow (EC 1) 85 (ab a6 n.Ao.Ad.length c6) y.1.d.ys y.1.d.F,.ow (EC 1) 85 (ab a7 n.Ao.Ad.length c7) y.1.u.ys y.1.u.F,.isv (EA B9 n.Ao.Ad.length) (.agg y.1.e.ys.flatten.toArray) (C1 n i p).1.Ai y.1.e.G,.isv (EA Cg n.Ao.Ad.length) (.agg y.1.r.ys.flatten.toArray) (C1 n i p).1.Ah y.1.r.G,.isv (EA (Nr Ap EN) n.Ao.Ad.length) (.agg y.1.d.ys.flatten.toArray) (C1 n i p).1.down y.1.d.G,.isv (EA (Nr Ap EN) n.Ao.Ad.length) (.agg y.1.u.ys.flatten.toArray) (C1 n i p).1.up y.1.u.G,.ow Bc 9 (.slice y.2.a (C1 n i p).2.length y.2.c) (C1 n i p).2 y.2.F]):=by
 obtain ⟨q1,q2,q3,q4⟩:=Bk.1 hl;have hn8:=h8.n1;obtain ⟨d0,d1_⟩:=Lp (i:=i);refine enter func76 rfl ntmps76 fun w0=>?_;refine Mn n.Ao ?_;refine go ?_;intros;refine Bw (Aaq n.Ao ((i:Nat):Int) _ F1 h8 EM) fun _ _=>?_;cases hlf:Br n.Ao.Ad (i:Nat)
 rotate_left
 ·have hir:i < n.Ah.length:=EM
  have hgr:=Gm.1 (Iq hir▸hr hlf);have hev:=(Oo (d:=Ij i) hgr hp d0 d1_).2;rw [show C1 n i p=(⟨n.Ao,n.Ac,n.Ai,n.Ah.set i (Bt n.Ah[i] p (Ij i)),n.down,n.up⟩,Q2 i (Hp n.Ah[i] p)) by unfold C1;rw [ar hlf,Iq hir]];refine go ?_;refine Fb (ys:=z.r.ys) fun hm hlr=>?_;refine Aeg (E:=Cg) (ys:=z.r.ys) (xs:=n.Ah) i hm EM EM fun h2 h3 v Gi ev=>?_;refine Gn (v:=v) (x:=n.Ah[i]) ?_;rintro b1 d1 G1 b2 d2 G2 rfl l1 l2
  have e8:z.r.ys[i]=[.bool (n.Ah[i]).A1,aa (n.Ah[i]).Ae,aa (n.Ah[i]).Aa.next,.slice b1 (n.Ah[i]).Aa.Am.length d1,.slice b2 (n.Ah[i]).Aj.length d2]:=IS
  refine Qq (E:=EC 5) (xs:=z.r.ys) (m:=5) (Hj 5) i ?_ EP rfl h2;rintro _ g A cs B rfl k2 k3 hH;obtain ⟨k4, -, -⟩:=k3 w0;rw [e8] at k4;subst k4;dsimp only [List.append];refine go ?_
  refine Gw [1,3,5,6] [0,1,2,3,4,5,6,7,8,9,10,11,12,13,14,15] (fun w:Nat × NwS=>[(7,Fv w.1 0 0),(8,.slice w.2.ae (Hp n.Ah[i] p).length w.2.ce)]) (fun w=>[.row w.1 83 0 [] [.bool (Bt n.Ah[i] p (Ij i)).A1,aa (Bt n.Ah[i] p (Ij i)).Ae,aa (Bt n.Ah[i] p (Ij i)).Aa.next,.slice w.2.a1 (Bt n.Ah[i] p (Ij i)).Aa.Am.length w.2.c1,.slice w.2.a2 (Bt n.Ah[i] p (Ij i)).Aj.length w.2.c2] [],.isv Cg (.agg #[.bool (Bt n.Ah[i] p (Ij i)).A1,aa (Bt n.Ah[i] p (Ij i)).Ae,aa (Bt n.Ah[i] p (Ij i)).Aa.next,.slice w.2.a1 (Bt n.Ah[i] p (Ij i)).Aa.Am.length w.2.c1,.slice w.2.a2 (Bt n.Ah[i] p (Ij i)).Aj.length w.2.c2]) (Bt n.Ah[i] p (Ij i)) w.2.F1,.ow Bc 9 (.slice w.2.ae (Hp n.Ah[i] p).length w.2.ce) (Hp n.Ah[i] p) w.2.Fe]) (fun _=>True) ?_ fun w _=>?_
  ·skip
   refine As [0,4,5] [] ?_;refine D7 0 1 2 3 ?_;refine Ek 4 5 ?_;refine dt 6 ?_;refine dM 7 12 ?_ ?_
   ·refine oC ?_;refine Bw (Uy i EM) fun _ _=>?_;refine dk ?_;refine dM 8 12 ?_ ?_
    ·refine oC ?_;refine Bw (Aao n.Ah[i] p (Ij i) _ Gi hgr hp d0 d1_) fun s _=>?_;refine dk ?_;refine Ek 9 10 ?_;refine dt 11 ?_;refine dN 12 ?_;apply Cq;rfl;intro _;refine dk ?_;refine dN 13 ?_;refine oS ?_;refine dk ?_;refine dt 14 ?_;refine dd ?_;refine Cs (⟨_,s⟩:Nat × NwS) trivial
    ·apply Cq;rfl;intro _;exact BP
   ·apply Cq;rfl;intro _;refine dk ?_;refine dN 7 ?_;refine oC ?_;refine Bw (Uy i EM) fun _ _=>?_;exact BP
  obtain ⟨gr,s⟩:=w;dsimp only;refine Ke ?_;intros;refine Pf (E:=EC 5) (xs:=z.r.ys) [.bool (Bt n.Ah[i] p (Ij i)).A1,aa (Bt n.Ah[i] p (Ij i)).Ae,aa (Bt n.Ah[i] p (Ij i)).Aa.next,.slice s.a1 (Bt n.Ah[i] p (Ij i)).Aa.Am.length s.c1,.slice s.a2 (Bt n.Ah[i] p (Ij i)).Aj.length s.c2] hH (fun w=>⟨rfl,⟨rfl,EW⟩,rfl⟩) ?_;refine P3 (E:=Cg) (ys:=z.r.ys) (xs:=n.Ah) (x:=Bt n.Ah[i] p (Ij i)) i rfl hm EM fun G'=>?_;refine Az (E:=Bc) (xs:=Hp n.Ah[i] p) fun Fq=>?_;refine go ?_;refine Bw (Af7 i (Hp n.Ah[i] p) _ _ Fq FT EM EM (Adm hgr hp)) fun u _=>?_
  refine go ?_;refine ret (⟨z.e,⟨z.r.ys.set i [.bool (Bt n.Ah[i] p (Ij i)).A1,aa (Bt n.Ah[i] p (Ij i)).Ae,aa (Bt n.Ah[i] p (Ij i)).Aa.next,.slice s.a1 (Bt n.Ah[i] p (Ij i)).Aa.Am.length s.c1,.slice s.a2 (Bt n.Ah[i] p (Ij i)).Aj.length s.c2],[g],G'⟩,z.d,z.u⟩,u) trivial rfl
 ·have hir:i < n.Ai.length:=EM
  have hge:Ba n.Ai[i]=true:=Jl hir▸he hlf;have hel:=(D6.1 hge).2.1;have hkl:=T0 n.Ao.Ad ((i:Nat):Int);have hkx:∀x∈E7 n.Ao.Ad ((i:Nat):Int),0<=x/\x.toNat < n.down.length:=fun x hx=>by have:=If h8 hx;omega
  have hri:=Aji h8 i;refine go ?_;refine Bw (O7 n.Ao ((i:Nat):Int) _ F1 (Rq h8.z EM) ⟨EM,EM⟩) fun u _=>?_;refine Az (E:=Bi) (xs:=E7 n.Ao.Ad ((i:Nat):Int)) fun Fk=>?_;refine go ?_;refine Bf rfl (fun hk=>?_) (fun hk=>?_)
  ·rw [show C1 n i p=(⟨n.Ao,n.Ac,n.Ai.set i (Jz n.Ai[i] p.Ab),n.Ah,Dc n.down (Pr n.Ai[i] p.Ab (E7 n.Ao.Ad ((i:Nat):Int))) [p],n.up⟩,[]) by unfold C1 Vo Sc;rw [aq (by rw [hlf];decide),ar hk,ar hk,Jl hir]];rw [<-Ams hge hri];refine go ?_;refine Fb (ys:=z.e.ys) fun hm hlr=>?_;refine Aeg (E:=B9) (ys:=z.e.ys) (xs:=n.Ai) i hm EM EM fun h2 h3 v Gi ev=>?_;refine Ez (v:=v) (x:=n.Ai[i]) ?_;rintro b1 d1 G1 rfl l1;have e8:z.e.ys[i]=[aa n.Ai[i].Ae,.slice b1 n.Ai[i].Af.length d1]:=IS
   refine Qq (E:=EC 2) (xs:=z.e.ys) (m:=2) (Hj 2) i ?_ EP rfl h2;rintro _ g A cs B rfl k2 k3 hH;obtain ⟨k4, -, -⟩:=k3 w0;rw [e8] at k4;subst k4;dsimp only [List.append];refine go ?_
   refine Gw [1,3,5,6,9] [0,1,2,3,4,5,6,7,8,9,10,11,12,13,14,15] (fun w:JE=>[(10,Fv w.g 0 0),(11,.slice w.a (Yv n.Ai[i] p.Ab (E7 n.Ao.Ad ((i:Nat):Int))).length w.c)]) (fun w=>[.row w.g 76 0 [] [aa (Jz n.Ai[i] p.Ab).Ae,.slice w.b (Jz n.Ai[i] p.Ab).Af.length w.d] [],.isv B9 (.agg #[aa (Jz n.Ai[i] p.Ab).Ae,.slice w.b (Jz n.Ai[i] p.Ab).Af.length w.d]) (Jz n.Ai[i] p.Ab) w.F,.ow Bi 3 (.slice w.a (Yv n.Ai[i] p.Ab (E7 n.Ao.Ad ((i:Nat):Int))).length w.c) (Yv n.Ai[i] p.Ab (E7 n.Ao.Ad ((i:Nat):Int))) w.G]) (fun _=>True) ?_ fun w _=>?_
   ·skip
    refine As [0,4,5] [] ?_;refine D7 0 1 2 3 ?_;refine D7 4 5 6 7 ?_;refine dM 8 12 ?_ ?_
    ·refine oC ?_;refine Bw (Abo n.Ai[i] p.Ab (E7 n.Ao.Ad ((i:Nat):Int)) _ Gi u.a u.c Fk EM (fun x hx=>by have:=Ol hge hx;omega) EM) fun s _=>?_;refine Ia ?_;rintro b3 d3 G3 es l3;rw [es];refine Hg (Jz n.Ai[i] p.Ab) ?_;refine Qf Kw fun Fe=>?_;refine dk ?_;refine Ek 9 10 ?_;refine dt 11 ?_;refine dN 12 ?_;apply Cq;rfl;intro _;refine dk ?_;exact EH
    ·apply Cq;rfl;intro _;refine dk ?_;refine dN 8 ?_;refine oC ?_;refine Bw (Abo n.Ai[i] p.Ab (E7 n.Ao.Ad ((i:Nat):Int)) _ Gi u.a u.c Fk EM (fun x hx=>by have:=Ol hge hx;omega) EM) fun s _=>?_;refine Ia ?_;rintro b3 d3 G3 es l3;rw [es];refine Hg (Jz n.Ai[i] p.Ab) ?_;refine Qf Kw fun Fe=>?_;refine dk ?_;refine Ek 9 10 ?_;refine dt 11 ?_;exact EH
   refine Ke ?_;intros;refine Pf (E:=EC 2) (xs:=z.e.ys) [aa (Jz n.Ai[i] p.Ab).Ae,.slice w.b (Jz n.Ai[i] p.Ab).Af.length w.d] hH (fun _=>⟨rfl,⟨rfl,EW⟩,rfl⟩) ?_;refine P3 (E:=B9) (ys:=z.e.ys) (xs:=n.Ai) (x:=Jz n.Ai[i] p.Ab) i rfl hm EM fun G'=>?_;refine Az (E:=Bi) (xs:=Yv n.Ai[i] p.Ab (E7 n.Ao.Ad ((i:Nat):Int))) fun Fk2=>?_;refine Eo (E:=Ap) (xs:=[p]) (Dj p hps) ?_ EO;refine Az (E:=Ap) (xs:=[p]) fun Fp=>?_;refine go ?_
   refine Bw (M8 n.down (Yv n.Ai[i] p.Ab (E7 n.Ao.Ad ((i:Nat):Int))) [p] _ _ _ _ _ _ _ _ _ _ _ _ _ _ _ _ _ _ _ _ _ _ _ _ _ z.d.ys z.d.F z.d.G _ _ Fk2 _ _ Fp (by rw [Ams hge hri];exact fun x hx=>hkx x (Tu x hx)) hd) fun y _=>?_;refine go ?_;intros;refine Dk Bc ?_;refine go ?_;refine ret (⟨⟨z.e.ys.set i [aa (Jz n.Ai[i] p.Ab).Ae,.slice w.b (Jz n.Ai[i] p.Ab).Af.length w.d],[g],G'⟩,z.r,⟨y.ys,y.F,y.G⟩,z.u⟩,⟨0,_,_,_⟩) trivial rfl
  ·rw [show C1 n i p=(⟨n.Ao,n.Ac,n.Ai,n.Ah,Dc n.down (E7 n.Ao.Ad ((i:Nat):Int)) [p],n.up⟩,[]) by unfold C1 Vo Sc;rw [aq (by rw [hlf];decide),aq hk,aq hk]];refine Ke ?_;intros;refine Eo (E:=Ap) (xs:=[p]) (Dj p hps) ?_ EO;refine Az (E:=Ap) (xs:=[p]) fun Fp=>?_;refine go ?_;refine Bw (M8 n.down (E7 n.Ao.Ad ((i:Nat):Int)) [p] _ _ _ _ _ _ _ _ _ _ _ _ _ _ _ _ _ _ _ _ _ _ _ _ _ z.d.ys z.d.F z.d.G _ _ Fk _ _ Fp hkx hd) fun w _=>?_;refine go ?_;intros;refine Dk Bc ?_;refine go ?_;refine ret (⟨z.e,z.r,⟨w.ys,w.F,w.G⟩,z.u⟩,⟨0,_,_,_⟩) trivial rfl
structure RjS where
 g:Nat
 a:ai
 c:Nat
 a2:ai
 c2:Nat
 F:ak
structure Au1 where
 a:ai
 c:Nat
 F:ak
theorem Ao8 (x:Cc) (n:Int) (v:Value) (F:ak) (t0:0<=x.Aa.Al) (t1:x.Aa.Al<=65535) (hm:x.holds.length<=1000) (hn:Xd x.holds) (n0:-1<=n) (n1:n<=65536) :
  FV 162 [v,aa n] [.isv El v x F] (.tuple #[aa (Fa x.Aa.Al x.holds n:Nat),.bool (Ld x.Aa.Al x.holds n)]):=by
 refine enter func162 rfl ntmps162 fun w0=>?_;refine Gh ?_;rintro a1 c1 F1 a2 c2 F2 rfl l1 l2;refine go ?_;intros;refine Ei [1,2,4,5] (fun k:Nat=>[(6,aa (k:Nat))]) (fun k=>k<=x.holds.length/\∀j (_:j < k) (h:j < x.holds.length),gp x.Aa.Al x.holds[j].Ab < gp x.Aa.Al n) (fun k=>x.holds.length - k) 0 ⟨aD _,fun j h=>by omega⟩ fun k hk=>?_;obtain ⟨hk1,hk2⟩:=hk;by_cases hlt:k < x.holds.length
 ·obtain ⟨m0,m1⟩:=hn x.holds[k] (aE hlt);refine Tb (xs:=x.holds) k ?_;rintro hi b o e;rw [e];refine go ?_;refine As [0,1] [] ?_;refine D7 0 1 2 3 ?_;refine dt 4 ?_;rw [au (show (k:Int) < x.holds.length by omega)];refine dt 5 ?_;refine E6 6 ?_;refine E6 7 ?_;refine E6 8 ?_;refine E6 9 ?_;refine E6 10 ?_;refine E6 11 ?_;refine E6 12 ?_;refine E6 13 ?_;refine E6 14 ?_;refine E6 16 ?_;refine E6 17 ?_;refine E6 18 ?_;refine E6 19 ?_;refine d1g 15 ?_;apply On.h;refine oC ?_;refine ce (fun w s=>I1 _ _ _ EM EM) ?_;refine dk ?_;refine d1g 20 ?_;apply On.h
  refine oC ?_;refine ce (fun w s=>I1 _ _ _ EM EM) ?_;refine dk ?_;refine E6 21 ?_;refine dt 22 ?_;refine dd ?_;refine go ?_;refine Bf rfl (fun h=>?_) (fun h=>?_)
  ·refine go ?_;refine Cv (k+1) ⟨hlt,fun j hj hh=>?_⟩ EM;rcases aY (bt.1 hj) with h2|rfl
   ·exact hk2 j h2 hh
   ·exact h
  ·have hh:Fa x.Aa.Al x.holds n=k:=Wa hk1 (fun j hj h=>au (hk2 j hj h)) (fun _=>ay h);have ht:Ld x.Aa.Al x.holds n=decide (x.holds[k].Ab=n):=by unfold Ld;rw [hh,aB hlt]
   rw [ht,hh];refine go ?_;refine As [0,1] [] ?_;refine D7 0 1 2 3 ?_;refine Ek 4 5 ?_;rw [au (show (k:Int) < x.holds.length by omega)];refine dt 6 ?_;refine E6 7 ?_;refine E6 8 ?_;refine E6 9 ?_;refine E6 10 ?_;refine E6 11 ?_;refine E6 12 ?_;refine E6 13 ?_;refine E6 14 ?_;refine Ek 15 16 ?_;refine dt 17 ?_;exact CG
 ·have hh:Fa x.Aa.Al x.holds n=k:=Wa hk1 (fun j hj h=>au (hk2 j hj h)) (fun h=>absurd h hlt);have ht:Ld x.Aa.Al x.holds n=false:=by unfold Ld;rw [hh,bf EM]
  rw [ht,hh];refine go ?_;refine As [0] [] ?_;refine D7 0 1 2 3 ?_;refine dt 4 ?_;rw [ay (show ¬(k:Int) < x.holds.length by omega)];refine dt 5 ?_;refine ds 6 ?_;refine ds 7 ?_;refine ds 8 ?_;refine ds 9 ?_;refine ds 10 ?_;refine ds 11 ?_;refine ds 12 ?_;refine ds 13 ?_;refine ds 14 ?_;refine ds 15 ?_;refine ds 16 ?_;refine ds 17 ?_;refine ds 18 ?_;refine ds 19 ?_;refine ds 20 ?_;refine ds 21 ?_;refine dt 22 ?_;refine dd ?_;refine go ?_;refine As [0] [] ?_;refine D7 0 1 2 3 ?_;refine Ek 4 5 ?_;rw [ay (show ¬(k:Int) < x.holds.length by omega)];refine dt 6 ?_
  refine ds 7 ?_;refine ds 8 ?_;refine ds 9 ?_;refine ds 10 ?_;refine ds 11 ?_;refine ds 12 ?_;refine ds 13 ?_;refine ds 14 ?_;refine Ek 15 16 ?_;refine dt 17 ?_;exact CG
theorem W8 (x:Cc) (p:Ar) (v:Value) (F:ak) (t0:0<=x.Aa.Al) (t1:x.Aa.Al<=65535) (hl:x.Aa.An.length<=6) (k0:0<=x.Ae) (k1:x.Ae<=99999) (hm:x.holds.length<=900) (hn:Xd x.holds) (n0:-1<=p.Ab) (n1:p.Ab<=65536) (hps:p.data.size<=maxLen) (hans:(C9 x.Aa p).1.data.size<=maxLen) :
  Fn prog 97 [v,.agg #[aa p.Bd,aa p.Ab,aa p.Al,aa p.Cy,af p.data]] [.isv El v x F] [] (fun (_:TiS)=>True) (fun s=>.tuple #[.agg #[aa (Mx x p.Ab).Aa.Al,aa (Mx x p.Ab).Aa.size,.slice s.a (Mx x p.Ab).Aa.An.length s.c,aa (Mx x p.Ab).Ae,aa (Mx x p.Ab).quiet,.slice s.a2 (Mx x p.Ab).holds.length s.c2],.slice s.ae (Ib x p).length s.ce])
   (fun s=>[.isv El (.agg #[aa (Mx x p.Ab).Aa.Al,aa (Mx x p.Ab).Aa.size,.slice s.a (Mx x p.Ab).Aa.An.length s.c,aa (Mx x p.Ab).Ae,aa (Mx x p.Ab).quiet,.slice s.a2 (Mx x p.Ab).holds.length s.c2]) (Mx x p.Ab) s.F,.ow Ap 103 (.slice s.ae (Ib x p).length s.ce) (Ib x p) s.Fe]):=by
 refine enter func97 rfl ntmps97 fun w0=>?_;refine Gh ?_;rintro a1 c1 F1 a2 c2 F2 rfl l1 l2;refine Co x.Aa (a1:=a1) ?_;generalize F1=F3;refine go ?_;intros
 refine Gw [2,3,4,5] [0,1,2,3,4,5,6] (fun s:RjS=>[(6,Fv s.g 0 0)]) (fun s=>[.row s.g 32 0 [] [aa x.Aa.Al,aa x.Aa.size,ab s.a x.Aa.An.length s.c,aa x.Ae,aa x.quiet,.slice s.a2 (Hx x.Aa x.Ae x.holds).length s.c2] [],.isv El (.agg #[aa x.Aa.Al,aa x.Aa.size,ab s.a x.Aa.An.length s.c,aa x.Ae,aa x.quiet,.slice s.a2 (Hx x.Aa x.Ae x.holds).length s.c2]) (We x x.Aa) s.F]) (fun _=>True) ?_ fun s _=>?_
 ·refine Ke ?_;intros;refine As [1,2] [] ?_;refine Ek 0 1 ?_;refine dt 2 ?_;refine dM 3 5 ?_ ?_
  ·refine oC ?_;refine Bw (Rr x.Aa _ F3 t0 t1 EM) fun y _=>?_;refine Jh ?_;rintro a5 c5 F5 e5 l5;rw [e5];refine Az (xs:=x.Aa.An) fun F8=>?_;refine Co x.Aa (a1:=a5) ?_;refine dk ?_;refine dM 4 5 ?_ ?_
   ·refine oC ?_;refine Bw (Sd x x.Aa _ _ F _ t0 t1 EM hn) fun z _=>?_;refine dk ?_;refine dN 5 ?_;apply Cq;rfl;intro _;exact BS
   ·apply Cq;rfl;intro _;refine dk ?_;refine dN 4 ?_;refine oC ?_;refine Bw (Sd x x.Aa _ _ F _ t0 t1 EM hn) fun z _=>?_;exact BS
  ·apply Cq;rfl;intro _;refine dk ?_;refine dN 3 ?_;refine oC ?_;refine Bw (Rr x.Aa _ F3 t0 t1 EM) fun y _=>?_;refine Jh ?_;rintro a5 c5 F5 e5 l5;rw [e5];refine Az (xs:=x.Aa.An) fun F8=>?_;refine Co x.Aa (a1:=a5) ?_;refine dk ?_;refine dN 4 ?_;refine oC ?_;refine Bw (Sd x x.Aa _ _ F _ t0 t1 EM hn) fun z _=>?_;exact BS
 refine go ?_;refine cb (fun w st=>(Wl x.Aa p.Ab _ F3 t0 t1 n0 n1).val w (I0 (st.get (p:=.isv _ _ _ _) EO))) ?_;cases hb:E5 x.Aa p.Ab
 ·have e1:Mx x p.Ab=We x x.Aa:=by unfold Mx;rw [hb];rfl
  have e2:Ib x p=[Kd x.Aa]:=by unfold Ib;rw [hb];rfl
  rw [e1,e2];refine go ?_;refine As [0,4] [] ?_;refine Ek 0 1 ?_;refine dt 2 ?_;refine dN 3 ?_;refine oC ?_;refine Bw (Xv x.Aa.Al x.Aa.size _ x.Aa.An.length _ t0 t1 EM) fun _ _=>?_;refine dk ?_;refine dM 4 5 ?_ ?_
  ·apply In;rfl;rfl;rfl;rfl;exact Ik;exact Ie;intro _;refine dk ?_;refine dN 5 ?_;refine oS ?_;exact CE
  ·refine oS ?_;refine dk ?_;refine dN 4 ?_;apply In;rfl;rfl;rfl;rfl;exact Ik;exact Ie;intro _;exact CE
 refine go ?_;refine As [3,4] [] ?_;refine D7 0 1 2 3 ?_;refine Ek 4 5 ?_;refine dt 6 ?_;refine dN 7 ?_;refine oC ?_;refine cb (fun w _=>V3 _ _ _ _ _ w t0 t1 EM) ?_;refine dk ?_;refine dt 8 ?_;refine dN 9 ?_;apply In;rfl;rfl;rfl;rfl;exact Ik;exact Ie;intro _;refine dk ?_;refine dt 10 ?_;refine dd ?_;refine Ke ?_;intros;refine Eo (xs:=[Qn x.Aa p.Ab]) (Dj _ GH) ?_ EO;refine go ?_;refine Bw (Ao8 x p.Ab _ F t0 t1 EM hn n0 n1) fun _ _=>?_;cases ht:Ld x.Aa.Al x.holds p.Ab
 ·have e1:Mx x p.Ab=⟨x.Aa,x.Ae,x.quiet,(Il x.holds (Fa x.Aa.Al x.holds p.Ab) ⟨p.Ab,x.Ae+3⟩)⟩:=by unfold Mx;rw [hb,ht];rfl
  have e2:Ib x p=[Qn x.Aa p.Ab]++[(C9 x.Aa p).1]:=by unfold Ib;rw [hb,ht];rfl
  rw [e1,e2];have hkk:=Wk x.Aa.Al x.holds p.Ab;refine Th (E:=Bx) (xs:=x.holds) ?_;rintro _ _ e8 q1 q2;cases e8;refine go ?_;refine cb (fun w st=>(Aei x.Aa p _ F3 hps).val w (I0 (st.get (p:=.isv _ _ _ _) EO))) ?_;refine go ?_;intros;refine Ant (E:=Bx) (xs:=x.holds) (Fa x.Aa.Al x.holds p.Ab) (fun FT=>?_) hkk;obtain ⟨T1,hT1⟩:∃T1,T1=x.holds.take (Fa x.Aa.Al x.holds p.Ab):=⟨_,rfl⟩;have hT1l:T1.length=Fa x.Aa.Al x.holds p.Ab:=by rw [hT1,aL];omega
  rw [<-hT1];have hAdd:T1++[⟨p.Ab,x.Ae+3⟩]++x.holds.drop (Fa x.Aa.Al x.holds p.Ab)=(Il x.holds (Fa x.Aa.Al x.holds p.Ab) ⟨p.Ab,x.Ae+3⟩):=by rw [hT1];unfold Il;simp
  refine Gw [4,5,6,7,10] [0,1,2,3,5,6,7,8,9,10,11,12] (fun _:Au1=>[]) (fun z=>[.row s.g 32 0 [] [aa x.Aa.Al,aa x.Aa.size,ab s.a x.Aa.An.length s.c,aa x.Ae,aa x.quiet,.slice z.a (Il x.holds (Fa x.Aa.Al x.holds p.Ab) ⟨p.Ab,x.Ae+3⟩).length z.c] [],.ow Bx 130 (.slice z.a (Il x.holds (Fa x.Aa.Al x.holds p.Ab) ⟨p.Ab,x.Ae+3⟩).length z.c) (Il x.holds (Fa x.Aa.Al x.holds p.Ab) ⟨p.Ab,x.Ae+3⟩) z.F]) (fun _=>True) ?_ fun z _=>?_
  ·refine Ke ?_;intros;refine As [1,8] [] ?_;refine Ek 1 2 ?_;refine dt 3 ?_;refine dt 4 ?_ (hy:=Nv (i:=T1.length) rfl rfl (by rw [hT1l]) EM EM);refine D7 6 9 10 11 ?_;refine Ala 12 (Fa x.Aa.Al x.holds p.Ab) (fun a6 c6 F6=>?_);refine dM 0 7 ?_ ?_
   ·apply Lt;rfl;intro _;refine Dk Bx ?_;refine dk ?_;refine dM 5 7 ?_ ?_
    ·refine M0 (ys:=T1) Iw Lc fun a7 c7 F7=>?_;rw [bb];refine dk ?_;refine dN 7 ?_;apply In;rfl;rfl;rfl;rfl;exact Ik;exact Ie;intro _;exact AI
    ·apply In;rfl;rfl;rfl;rfl;exact Ik;exact Ie;intro _;refine dk ?_;refine dN 5 ?_;refine M0 (ys:=T1) Iw Lc fun a7 c7 F7=>?_;rw [bb];exact AI
   ·apply In;rfl;rfl;rfl;rfl;exact Ik;exact Ie;intro _;refine dk ?_;refine dN 0 ?_;apply Lt;rfl;intro _;refine Dk Bx ?_;refine dk ?_;refine dN 5 ?_;refine M0 (ys:=T1) Iw Lc fun a7 c7 F7=>?_;rw [bb];exact AI
  refine Gh (x:=We x x.Aa) ?_;rintro b1 d1 G1 b2 d2 G2 e5 m1 m2;simp only [Value.agg.injEq,Array.mk.injEq,List.cons.injEq,Value.slice.injEq,Value.int.injEq,cP,de] at e5;obtain ⟨-, -,⟨rfl, -,rfl⟩, -⟩:=e5;refine Az (E:=Bx) fun F9=>?_;refine Ed ⟨x.Aa,x.Ae,x.quiet,(Il x.holds (Fa x.Aa.Al x.holds p.Ab) ⟨p.Ab,x.Ae+3⟩)⟩ (a1:=s.a) ?_;refine go ?_;refine As [4,7] [] ?_;refine Ek 0 1 ?_;refine dt 2 ?_;refine dN 3 ?_;apply In;rfl;rfl;rfl;rfl;exact Ik;exact Ie;intro _;refine dk ?_;refine dN 4 ?_;refine No (Dj (C9 x.Aa p).1 hans) Ig fun a9 c9 F9=>?_;refine dk ?_;refine dN 5 ?_;refine oS ?_
  refine dk ?_;refine dt 6 ?_;refine dd ?_;refine go ?_;refine ret ⟨s.a,s.c,z.a,z.c,_,a9,c9,F9⟩ trivial rfl
 ·have e1:Mx x p.Ab=We x x.Aa:=by unfold Mx;rw [hb,ht];rfl
  have e2:Ib x p=[Qn x.Aa p.Ab]:=by unfold Ib;rw [hb,ht];rfl
  rw [e1,e2];refine go ?_;refine ret ⟨s.a,s.c,s.a2,s.c2,s.F,_,_,_⟩ trivial rfl
theorem Ahk (x:Cc) (p:Ar) (v:Value) (F:ak) (hg:Cj x=true) (n0:0<=p.Ab) (n1:p.Ab<=65535) (hps:p.data.size<=maxLen) :
  Fn prog 97 [v,.agg #[aa p.Bd,aa p.Ab,aa p.Al,aa p.Cy,af p.data]] [.isv El v x F] [] (fun (_:TiS)=>True) (fun s=>.tuple #[.agg #[aa (Hb x p.Ab).Aa.Al,aa (Hb x p.Ab).Aa.size,.slice s.a (Hb x p.Ab).Aa.An.length s.c,aa (Hb x p.Ab).Ae,aa (Hb x p.Ab).quiet,.slice s.a2 (Hb x p.Ab).holds.length s.c2],.slice s.ae (Ib x p).length s.ce])
   (fun s=>[.isv El (.agg #[aa (Hb x p.Ab).Aa.Al,aa (Hb x p.Ab).Aa.size,.slice s.a (Hb x p.Ab).Aa.An.length s.c,aa (Hb x p.Ab).Ae,aa (Hb x p.Ab).quiet,.slice s.a2 (Hb x p.Ab).holds.length s.c2]) (Hb x p.Ab) s.F,.ow Ap 103 (.slice s.ae (Ib x p).length s.ce) (Ib x p) s.Fe]):=by
 obtain ⟨gw,hl,t0,t1,k0,k1,hm,hn,hu,hb⟩:=M4 hg;have h:=W8 x p v F t0 t1 hl k0 EM EM (Acu hn) EM EM hps (Ac6 gw);rw [Atn hg] at h;exact h
structure JU where
 g:Nat
 b:ai
 d:Nat
 F:ak
theorem Av4 (n:Du) (i:Nat) (p:Ar) (a1:ai) (c1:Nat) (a4:ai) (c4:Nat) (a5:ai) (c5:Nat) (a6:ai) (c6:Nat) (a7:ai) (c7:Nat) (a2 a3:ai) (c2 c3:Nat) (F1 FS:ak) (z:SZ) (hl:Kn n=true) (h0:i≠0) (hi:i < n.Ao.Ad.length) (h8:Hf n.Ao.Ad) (hsrc:Cj n.Ac=true) (he:∀k,k≠0->k < n.Ao.Ad.length->Br n.Ao.Ad (k:Nat)=false->Ba (Li n k)=true) (hp:Bh p=true) (hps:p.data.size<=maxLen) (hd:∀q∈n.down,q.length<=6) (hu:∀q∈n.up,q.length<=6) :
  Fn prog 77 [.agg #[ab a1 n.Ao.Ad.length c1,aa n.Ac.Aa.Al,aa n.Ac.Aa.size,ab a2 n.Ac.Aa.An.length c2,aa n.Ac.Ae,aa n.Ac.quiet,ab a3 n.Ac.holds.length c3,ab a4 n.Ao.Ad.length c4,ab a5 n.Ao.Ad.length c5,ab a6 n.Ao.Ad.length c6,ab a7 n.Ao.Ad.length c7],aa (i:Nat),.agg #[aa (p).Bd,aa (p).Ab,aa (p).Al,aa (p).Cy,af (p).data]] [.sl Bi (ab a1 n.Ao.Ad.length c1) n.Ao.Ad F1,.isv El (.agg #[aa n.Ac.Aa.Al,aa n.Ac.Aa.size,ab a2 n.Ac.Aa.An.length c2,aa n.Ac.Ae,aa n.Ac.quiet,ab a3 n.Ac.holds.length c3]) n.Ac FS,.isv (EA B9 n.Ao.Ad.length) (.agg z.e.ys.flatten.toArray) n.Ai z.e.G,.isv (EA Cg n.Ao.Ad.length) (.agg z.r.ys.flatten.toArray) n.Ah z.r.G,.isv (EA (Nr Ap EN) n.Ao.Ad.length) (.agg z.d.ys.flatten.toArray) n.down z.d.G,.isv (EA (Nr Ap EN) n.Ao.Ad.length) (.agg z.u.ys.flatten.toArray) n.up z.u.G] [.ow (EC 2) 76 (ab a4 n.Ao.Ad.length c4) z.e.ys z.e.F,.ow (EC 5) 83 (ab a5 n.Ao.Ad.length c5) z.r.ys z.r.F,.ow (EC 1) 85 (ab a6 n.Ao.Ad.length c6) z.d.ys z.d.F,.ow (EC 1) 85 (ab a7 n.Ao.Ad.length c7) z.u.ys z.u.F] (fun (_:SZ × Ag1)=>True) (fun y=>.agg #[aa ((Ou n i p).Ac).Aa.Al,aa ((Ou n i p).Ac).Aa.size,.slice y.2.a ((Ou n i p).Ac).Aa.An.length y.2.c,aa ((Ou n i p).Ac).Ae,aa ((Ou n i p).Ac).quiet,.slice y.2.a2 ((Ou n i p).Ac).holds.length y.2.c2]) (fun y=>[.ow (EC 2) 76 (ab a4 n.Ao.Ad.length c4) y.1.e.ys y.1.e.F,.ow (EC 5) 83 (ab a5 n.Ao.Ad.length c5) y.1.r.ys y.1.r.F,.ow (EC 1) 85 (ab a6 n.Ao.Ad.length c6) y.1.d.ys y.1.d.F,.ow (EC 1) 85 (ab a7 n.Ao.Ad.length c7) y.1.u.ys y.1.u.F,.isv (EA B9 n.Ao.Ad.length) (.agg y.1.e.ys.flatten.toArray) (Ou n i p).Ai y.1.e.G,.isv (EA Cg n.Ao.Ad.length) (.agg y.1.r.ys.flatten.toArray) (Ou n i p).Ah y.1.r.G,.isv (EA (Nr Ap EN) n.Ao.Ad.length) (.agg y.1.d.ys.flatten.toArray) (Ou n i p).down y.1.d.G,.isv (EA (Nr Ap EN) n.Ao.Ad.length) (.agg y.1.u.ys.flatten.toArray) (Ou n i p).up y.1.u.G,.isv El (.agg #[aa ((Ou n i p).Ac).Aa.Al,aa ((Ou n i p).Ac).Aa.size,.slice y.2.a ((Ou n i p).Ac).Aa.An.length y.2.c,aa ((Ou n i p).Ac).Ae,aa ((Ou n i p).Ac).quiet,.slice y.2.a2 ((Ou n i p).Ac).holds.length y.2.c2]) (Ou n i p).Ac y.2.F]):=by
 obtain ⟨q1,q2,q3,q4⟩:=Bk.1 hl;have hn8:=h8.n1;obtain ⟨n0,n1⟩:=Fg hp;have hone:∀x∈[((i:Nat):Int)],0<=x/\x.toNat < n.down.length:=fun x hx=>by
  rw [aH] at hx;subst hx;omega
 obtain ⟨k,hk⟩:∃k,V7 n i=k:=⟨_,rfl⟩;obtain ⟨e1,e2,e3⟩:=Ana h8 hi h0 hk;refine enter func77 rfl ntmps77 fun w0=>?_;refine Jg (xs:=n.Ao.Ad) i ?_;rintro hi2 b o e4;rw [e4,e1];refine go ?_;intros;refine Bf rfl (fun h5=>?_) (fun h5=>?_)
 ·obtain rfl:k=0:=EM
  rw [show Ou n i p=⟨n.Ao,Hb n.Ac p.Ab,n.Ai,n.Ah,Dc n.down [((i:Nat):Int)] (Ib n.Ac p),n.up⟩ by unfold Ou;rw [ar hk]];refine go ?_;refine Bw (Ahk n.Ac p _ FS hsrc n0 n1 hps) fun u _=>?_;refine Ke ?_;intros;refine Eo (E:=Bi) (xs:=[((i:Nat):Int)]) (N7 _) ?_ EO;refine Az (E:=Bi) (xs:=[((i:Nat):Int)]) fun Fo=>?_;refine Az (E:=Ap) (xs:=Ib n.Ac p) fun Fq=>?_;refine go ?_;refine Bw (M8 n.down [((i:Nat):Int)] (Ib n.Ac p) _ _ _ _ _ _ _ _ _ _ _ _ _ _ _ _ _ _ _ _ _ _ _ _ _ z.d.ys z.d.F z.d.G _ _ Fo _ _ Fq hone hd) fun y _=>?_;refine go ?_
  refine ret (⟨⟨z.e,z.r,⟨y.ys,y.F,y.G⟩,z.u⟩,⟨u.a,u.c,u.a2,u.c2,u.F⟩⟩:SZ × Ag1) trivial rfl
 have h6:k≠0:=EM
 have hkl:k < n.Ai.length:=EM
 have hku:k < n.up.length:=EM
 have hge:Ba n.Ai[k]=true:=Jl hkl▸he k h6 EM e3;have hel:=(D6.1 hge).2.1;obtain ⟨hc0,hc1⟩:=Mq.1 (D6.1 hge).1;rw [show Ou n i p=⟨n.Ao,n.Ac,n.Ai.set k (Ka n.Ai[k] p.Ab ((i:Nat):Int)),n.Ah,Dc n.down [((i:Nat):Int)] [Rz p],if Pi n.Ai[k] p.Ab then n.up.modify k fun q=>Da q [p] else n.up⟩ by unfold Ou;rw [aq EM,hk,Jl hkl]];refine go ?_;refine Fb (ys:=z.e.ys) fun hm hlr=>?_;refine Aeg (E:=B9) (ys:=z.e.ys) (xs:=n.Ai) k hm EM EM fun h2 h3 v Gi ev=>?_;refine Ez (v:=v) (x:=n.Ai[k]) ?_;rintro b1 d1 G1 rfl l1
 have e8:z.e.ys[k]=[aa n.Ai[k].Ae,.slice b1 n.Ai[k].Af.length d1]:=IS
 refine Qq (E:=EC 2) (xs:=z.e.ys) (m:=2) (Hj 2) k ?_ EP rfl h2;rintro _ g A cs B rfl k2 k3 hH;obtain ⟨k4, -, -⟩:=k3 w0;rw [e8] at k4;subst k4;dsimp only [List.append];refine go ?_
 refine Gw [1,3,5,6,7] [0,1,2,3,4,5,6,7,8,9,10,11,12,13,14,15] (fun w:JU=>[(10,Fv w.g 0 0),(11,.bool (Pi n.Ai[k] p.Ab))]) (fun w=>[.row w.g 76 0 [] [aa (Ka n.Ai[k] p.Ab ((i:Nat):Int)).Ae,.slice w.b (Ka n.Ai[k] p.Ab ((i:Nat):Int)).Af.length w.d] [],.isv B9 (.agg #[aa (Ka n.Ai[k] p.Ab ((i:Nat):Int)).Ae,.slice w.b (Ka n.Ai[k] p.Ab ((i:Nat):Int)).Af.length w.d]) (Ka n.Ai[k] p.Ab ((i:Nat):Int)) w.F]) (fun _=>True) ?_ fun w _=>?_
 ·skip
  refine As [0,4,5] [] ?_;refine D7 0 1 2 3 ?_;refine D7 4 5 6 7 ?_;refine dM 8 12 ?_ ?_
  ·refine oC ?_;refine Bw (Ux n.Ai[k] p.Ab ((i:Nat):Int) _ Gi EM (fun x hx=>by have:=Ol hge hx;omega) EM EM) fun s _=>?_;refine Ia ?_;rintro b3 d3 G3 es l3;rw [es];refine Hg (Ka n.Ai[k] p.Ab ((i:Nat):Int)) ?_;refine Qf Kw fun Fe=>?_;refine dk ?_;refine Ek 9 10 ?_;refine dt 11 ?_;refine dN 12 ?_;apply Cq;rfl;intro _;refine dk ?_;refine dN 13 ?_;refine oS ?_;refine dk ?_;refine dt 14 ?_;refine dd ?_;refine Cs (⟨_,b3,d3,Fe⟩:JU) trivial
  ·apply Cq;rfl;intro _;refine dk ?_;refine dN 8 ?_;refine oC ?_;refine Bw (Ux n.Ai[k] p.Ab ((i:Nat):Int) _ Gi EM (fun x hx=>by have:=Ol hge hx;omega) EM EM) fun s _=>?_;refine Ia ?_;rintro b3 d3 G3 es l3;rw [es];refine Hg (Ka n.Ai[k] p.Ab ((i:Nat):Int)) ?_;refine Qf Kw fun Fe=>?_;refine dk ?_;refine Ek 9 10 ?_;refine dt 11 ?_;refine dN 13 ?_;refine oS ?_;refine dk ?_;refine dt 14 ?_;refine dd ?_;refine Cs (⟨_,b3,d3,Fe⟩:JU) trivial
 refine Ke ?_;intros;refine Pf (E:=EC 2) (xs:=z.e.ys) [aa (Ka n.Ai[k] p.Ab ((i:Nat):Int)).Ae,.slice w.b (Ka n.Ai[k] p.Ab ((i:Nat):Int)).Af.length w.d] hH (fun _=>⟨rfl,⟨rfl,EW⟩,rfl⟩) ?_;refine P3 (E:=B9) (ys:=z.e.ys) (xs:=n.Ai) (x:=Ka n.Ai[k] p.Ab ((i:Nat):Int)) k rfl hm EM fun G'=>?_;refine Eo (E:=Bi) (xs:=[((i:Nat):Int)]) (N7 _) ?_ EO;refine Az (E:=Bi) (xs:=[((i:Nat):Int)]) fun Fo=>?_;refine Eo (E:=Ap) (xs:=[Rz p]) (Dj (Rz p) (aD _)) ?_ EO;refine Az (E:=Ap) (xs:=[Rz p]) fun Fp=>?_;refine go ?_
 refine Bw (M8 n.down [((i:Nat):Int)] [Rz p] _ _ _ _ _ _ _ _ _ _ _ _ _ _ _ _ _ _ _ _ _ _ _ _ _ z.d.ys z.d.F z.d.G _ _ Fo _ _ Fp hone hd) fun y _=>?_;cases hf:Pi n.Ai[k] p.Ab
 ·rw [aq EN];refine go ?_;refine ret (⟨⟨⟨z.e.ys.set k [aa (Ka n.Ai[k] p.Ab ((i:Nat):Int)).Ae,.slice w.b (Ka n.Ai[k] p.Ab ((i:Nat):Int)).Af.length w.d],[g],G'⟩,z.r,⟨y.ys,y.F,y.G⟩,z.u⟩,⟨a2,c2,a3,c3,FS⟩⟩:SZ × Ag1) trivial rfl
 ·rw [ar rfl,Hk hku];have hu6:=hu _ (aE hku);refine go ?_;refine Fb (ys:=z.u.ys) fun hmu hlu=>?_;refine Aef (ys:=z.u.ys) (xs:=n.up) k hmu EM EM fun h9 _ Gu=>?_;refine Aal (x:=n.up[k]) fun a9 c9 e9 l9=>?_;have e10:z.u.ys[k]=[.slice a9 n.up[k].length c9]:=IV
  refine Qq (E:=EC 1) (xs:=z.u.ys) (m:=1) (Hj 1) k ?_ EP rfl h9;rintro _ gu Au cs Bu rfl j2 j3 hHu;obtain ⟨j4, -, -⟩:=j3 w0;rw [e10] at j4;subst j4;refine go ?_;refine As [0,14,15] [12] ?_;refine D7 0 1 2 3 ?_;refine D7 4 5 6 7 ?_;refine dt 8 ?_;refine dN 9 ?_;apply In;rfl;rfl;rfl;rfl;exact Ik;exact Ie;intro _;refine Eo (E:=Ap) (xs:=[p]) (Dj p hps) ?_ EO;refine Az (E:=Ap) (xs:=[p]) fun Fp2=>?_;refine dk ?_;refine dN 10 ?_;refine oC ?_;refine Bw (Adr n.up[k] [p] a9 c9 _ _ _ Fp2 EM) fun r _=>?_;refine dk ?_;refine dt 11 ?_
  refine dN 12 ?_;refine oS ?_;refine Pg ?_;refine dd ?_;refine Pf (E:=EC 1) (xs:=z.u.ys) [.slice r.a (Da n.up[k] [p]).length r.c] hHu (fun w=>⟨rfl,⟨rfl,EW⟩,rfl⟩) ?_;refine Az (E:=Ap) (xs:=Da n.up[k] [p]) fun Fu=>?_;refine X0 (E:=Ap) (x:=Da n.up[k] [p]) EN ?_;refine P3 (E:=Nr Ap EN) (ys:=z.u.ys) (xs:=n.up) (x:=Da n.up[k] [p]) k rfl hmu EM fun Gv=>?_;refine go ?_
  refine ret (⟨⟨⟨z.e.ys.set k [aa (Ka n.Ai[k] p.Ab ((i:Nat):Int)).Ae,.slice w.b (Ka n.Ai[k] p.Ab ((i:Nat):Int)).Af.length w.d],[g],G'⟩,z.r,⟨y.ys,y.F,y.G⟩,⟨z.u.ys.set k [.slice r.a (Da n.up[k] [p]).length r.c],[gu],Gv⟩⟩,⟨a2,c2,a3,c3,FS⟩⟩:SZ × Ag1) trivial rfl
structure TkZ where
 k:Nat
 z:SZ
 a:ai
 c:Nat
 F:ak
theorem Apl (n:Du) (a1:ai) (c1:Nat) (a4:ai) (c4:Nat) (a5:ai) (c5:Nat) (a6:ai) (c6:Nat) (a7:ai) (c7:Nat) (a2 a3:ai) (c2 c3:Nat) (F1 FS FT:ak) (z:SZ) (hg:At n=true) (hc:n.Ac.Ae < 9999) :
  Fn prog 75 [.agg #[ab a1 n.Ao.Ad.length c1,aa n.Ac.Aa.Al,aa n.Ac.Aa.size,ab a2 n.Ac.Aa.An.length c2,aa n.Ac.Ae,aa n.Ac.quiet,ab a3 n.Ac.holds.length c3,ab a4 n.Ao.Ad.length c4,ab a5 n.Ao.Ad.length c5,ab a6 n.Ao.Ad.length c6,ab a7 n.Ao.Ad.length c7]] [Nx FT,.sl Bi (ab a1 n.Ao.Ad.length c1) n.Ao.Ad F1,.isv El (.agg #[aa n.Ac.Aa.Al,aa n.Ac.Aa.size,ab a2 n.Ac.Aa.An.length c2,aa n.Ac.Ae,aa n.Ac.quiet,ab a3 n.Ac.holds.length c3]) n.Ac FS,.isv (EA B9 n.Ao.Ad.length) (.agg z.e.ys.flatten.toArray) n.Ai z.e.G,.isv (EA Cg n.Ao.Ad.length) (.agg z.r.ys.flatten.toArray) n.Ah z.r.G,.isv (EA (Nr Ap EN) n.Ao.Ad.length) (.agg z.d.ys.flatten.toArray) n.down z.d.G,.isv (EA (Nr Ap EN) n.Ao.Ad.length) (.agg z.u.ys.flatten.toArray) n.up z.u.G] [.ow (EC 2) 76 (ab a4 n.Ao.Ad.length c4) z.e.ys z.e.F,.ow (EC 5) 83 (ab a5 n.Ao.Ad.length c5) z.r.ys z.r.F,.ow (EC 1) 85 (ab a6 n.Ao.Ad.length c6) z.d.ys z.d.F,.ow (EC 1) 85 (ab a7 n.Ao.Ad.length c7) z.u.ys z.u.F] (fun (_:SZ × TiS × KA)=>True) (fun y=>.tuple #[.agg #[aa ((Bv n).1.Ac).Aa.Al,aa ((Bv n).1.Ac).Aa.size,.slice y.2.1.a ((Bv n).1.Ac).Aa.An.length y.2.1.c,aa ((Bv n).1.Ac).Ae,aa ((Bv n).1.Ac).quiet,.slice y.2.1.a2 ((Bv n).1.Ac).holds.length y.2.1.c2],.slice y.2.2.a (Bv n).2.length y.2.2.c]) (fun y=>[.ow (EC 2) 76 (ab a4 n.Ao.Ad.length c4) y.1.e.ys y.1.e.F,.ow (EC 5) 83 (ab a5 n.Ao.Ad.length c5) y.1.r.ys y.1.r.F,.ow (EC 1) 85 (ab a6 n.Ao.Ad.length c6) y.1.d.ys y.1.d.F,.ow (EC 1) 85 (ab a7 n.Ao.Ad.length c7) y.1.u.ys y.1.u.F,.isv (EA B9 n.Ao.Ad.length) (.agg y.1.e.ys.flatten.toArray) (Bv n).1.Ai y.1.e.G,.isv (EA Cg n.Ao.Ad.length) (.agg y.1.r.ys.flatten.toArray) (Bv n).1.Ah y.1.r.G,.isv (EA (Nr Ap EN) n.Ao.Ad.length) (.agg y.1.d.ys.flatten.toArray) (Bv n).1.down y.1.d.G,.isv (EA (Nr Ap EN) n.Ao.Ad.length) (.agg y.1.u.ys.flatten.toArray) (Bv n).1.up y.1.u.G,.isv El (.agg #[aa ((Bv n).1.Ac).Aa.Al,aa ((Bv n).1.Ac).Aa.size,.slice y.2.1.a ((Bv n).1.Ac).Aa.An.length y.2.1.c,aa ((Bv n).1.Ac).Ae,aa ((Bv n).1.Ac).quiet,.slice y.2.1.a2 ((Bv n).1.Ac).holds.length y.2.1.c2]) (Bv n).1.Ac y.2.1.F,.ow Bc 9 (.slice y.2.2.a (Bv n).2.length y.2.2.c) (Bv n).2 y.2.2.F]):=by
 have hG:=Av.1 hg;have h8:=Ev hG.t;have hn8:=h8.n1;have hn2:=h8.n0;obtain ⟨q1,q2,q3,q4⟩:=Bk.1 hG.l;have hkl:=T0 n.Ao.Ad 0;have hkx:∀x∈E7 n.Ao.Ad 0,0<=x/\x.toNat < n.down.length:=fun x hx=>by have:=If (i:=0) h8 hx;omega
 have hd:∀q∈n.down,q.length<=6:=fun q hq=>(Ga ((Mk hg).2.2.1 q hq)).1;refine enter func75 rfl ntmps75 fun w0=>?_;refine Mn n.Ao ?_;refine go ?_;intros;refine Bw (Apa n.Ac _ FS hG.s) fun u _=>?_;refine Az (E:=Ap) (xs:=G0 n.Ac.Aa n.Ac.quiet) fun Fp=>?_;refine go ?_;intros;refine As [4] [] ?_;refine D7 0 1 2 4 ?_;refine dN 3 ?_;refine oC ?_;refine Bw (O7 n.Ao 0 _ F1 (Rq h8.z (cQ _)) ⟨EM,EM⟩) fun v _=>?_;refine Az (E:=Bi) (xs:=E7 n.Ao.Ad 0) fun Fk=>?_;refine dk ?_;refine dN 5 ?_;refine oC ?_
 refine Bw (M8 n.down (E7 n.Ao.Ad 0) (G0 n.Ac.Aa n.Ac.quiet) _ _ _ _ _ _ _ _ _ _ _ _ _ _ _ _ _ _ _ _ _ _ _ _ _ z.d.ys z.d.F z.d.G _ _ Fk _ _ Fp hkx hd) fun y _=>?_;refine dk ?_;refine dd ?_;rw [show Dc n.down (E7 n.Ao.Ad 0) (G0 n.Ac.Aa n.Ac.quiet)=(A4 n 0).1.down from rfl];refine go ?_;intros;refine Dk Bc ?_;refine go ?_
 refine Cu [1,2,3,4] (fun s:TkZ=>[(6,.slice s.a (A4 n s.k).2.length s.c),(7,aa ((s.k+1:Nat):Int))]) (fun s=>[.ow (EC 2) 76 (ab a4 n.Ao.Ad.length c4) s.z.e.ys s.z.e.F,.ow (EC 5) 83 (ab a5 n.Ao.Ad.length c5) s.z.r.ys s.z.r.F,.ow (EC 1) 85 (ab a6 n.Ao.Ad.length c6) s.z.d.ys s.z.d.F,.ow (EC 1) 85 (ab a7 n.Ao.Ad.length c7) s.z.u.ys s.z.u.F,.isv (EA B9 n.Ao.Ad.length) (.agg s.z.e.ys.flatten.toArray) (A4 n s.k).1.Ai s.z.e.G,.isv (EA Cg n.Ao.Ad.length) (.agg s.z.r.ys.flatten.toArray) (A4 n s.k).1.Ah s.z.r.G,.isv (EA (Nr Ap EN) n.Ao.Ad.length) (.agg s.z.d.ys.flatten.toArray) (A4 n s.k).1.down s.z.d.G,.isv (EA (Nr Ap EN) n.Ao.Ad.length) (.agg s.z.u.ys.flatten.toArray) (A4 n s.k).1.up s.z.u.G,.ow Bc 9 (.slice s.a (A4 n s.k).2.length s.c) (A4 n s.k).2 s.F]) (fun s=>s.k+1<=n.Ao.Ad.length/\(A4 n s.k).2.length<=40000 * s.k) (fun s=>n.Ao.Ad.length - s.k) ⟨0,⟨z.e,z.r,⟨y.ys,y.F,y.G⟩,z.u⟩,_,_,_⟩ ⟨by show 0+1<=_;omega,aA _⟩ fun s hs0=>?_
 obtain ⟨k,⟨⟨ye,Fe,Ge⟩,⟨yr,Fr,Gr⟩,⟨yd,Fd,Gd⟩,⟨yu,Fu,Gu⟩⟩,ea,ec,eF⟩:=s;obtain ⟨hk,hel⟩:=hs0;dsimp only at hk hel ⊢;obtain ⟨hGN,hT,hSrc⟩:=Ot hg hc k EM;obtain ⟨r1,r2,r3,r4⟩:=Bk.1 hGN.l;rw [hT] at r1 r2 r3 r4;refine go ?_;refine Bf rfl (fun h1=>?_) (fun h1=>?_)
 ·have hj:k+1 < n.Ao.Ad.length:=EM
  obtain ⟨i1,i2,i3,i4,hrn⟩:=hGN.rn (i:=k+1) (by rw [hT];exact hj);rw [hT] at hrn;obtain ⟨d0,d1_⟩:=Lp (i:=k+1);refine go ?_;refine Bw (Aaq n.Ao ((k+1:Nat):Int) _ F1 h8 EM) fun _ _=>?_;cases hlf:Br n.Ao.Ad ((k+1:Nat):Int)
  ·obtain ⟨hge,hck, -⟩:=hrn.hn EM hlf;obtain ⟨hgc,hel5, -⟩:=D6.1 hge;have hnx:A4 n (k+1)=(⟨n.Ao,Lg n.Ac,(A4 n k).1.Ai.set (k+1) (Cn (A4 n k).1.Ai[k+1]),(A4 n k).1.Ah,(A4 n k).1.down,(A4 n k).1.up⟩,(A4 n k).2++[]):=by
    show ((Ju (A4 n k).1 (k+1)).1,(A4 n k).2++(Ju (A4 n k).1 (k+1)).2)=_;unfold Ju;rw [hT,hlf,aq EN,Jl i1,hSrc]
   rw [aP] at hnx;refine go ?_;refine Fb (ys:=ye) fun hm hlr=>?_;refine Aeg (E:=B9) (ys:=ye) (xs:=(A4 n k).1.Ai) (k+1) hm EM EM fun h2 h3 v Gi ev=>?_;generalize hE:(A4 n k).1.Ai[k+1]=E at *;refine Ez (v:=v) (x:=E) ?_;rintro b1 d1 G1 rfl l1;have e8:ye[k+1]=[aa E.Ae,ab b1 E.Af.length d1]:=IS
   refine Qq (E:=EC 2) (xs:=ye) (m:=2) (Hj 2) (k+1) ?_ EP rfl h2;rintro _ g A cs B rfl k2 k3 hH;obtain ⟨k4, -, -⟩:=k3 w0;rw [e8] at k4;subst k4;dsimp only [List.append];refine go ?_;refine As [0,16] [10] ?_;refine D7 0 1 2 3 ?_;refine D7 4 5 6 7 ?_;refine dN 8 ?_;refine oC ?_;refine cr (fun w st=>Af6 _ E Gi w (st.get (p:=.isv _ _ _ _) EQ) hgc EM (fun x hx=>by have:=Ol hge hx;omega)) fun v3 FU=>?_;refine Ez (v:=v3) ?_;rintro b3 d3 G3 rfl l3;refine dk ?_;refine dt 9 ?_;refine dN 10 ?_;refine oS ?_;refine Pg ?_;refine dd ?_
   refine Pf (E:=EC 2) (xs:=ye) [aa (Cn E).Ae,.slice b3 (Cn E).Af.length d3] hH (fun _=>⟨rfl,⟨rfl,EW⟩,rfl⟩) ?_;refine P3 (E:=B9) (ys:=ye) (xs:=(A4 n k).1.Ai) (x:=Cn E) (k+1) rfl hm EM fun G'=>?_;refine go ?_;refine Cv ⟨k+1,⟨⟨ye.set (k+1) [aa (Cn E).Ae,.slice b3 (Cn E).Af.length d3],[g],G'⟩,⟨yr,Fr,Gr⟩,⟨yd,Fd,Gd⟩,⟨yu,Fu,Gu⟩⟩,ea,ec,eF⟩ ⟨IQ,by rw [hnx];dsimp only;omega⟩ FE FJ FI
  ·obtain ⟨-,hgr0,hck⟩:=hrn.hf EM hlf;have hgr:=Gm.1 hgr0;obtain ⟨hsm,hfew⟩:=Aa6 hgr;have hnx:A4 n (k+1)=(⟨n.Ao,Lg n.Ac,(A4 n k).1.Ai,(A4 n k).1.Ah.set (k+1) (Bj (A4 n k).1.Ah[k+1] (Ij (k+1))),(A4 n k).1.down,(A4 n k).1.up.set (k+1) (Da (A4 n k).1.up[k+1] (Db (A4 n k).1.Ah[k+1]))⟩,(A4 n k).2++Q2 (k+1) (Gs (A4 n k).1.Ah[k+1])):=by
    show ((Ju (A4 n k).1 (k+1)).1,(A4 n k).2++(Ju (A4 n k).1 (k+1)).2)=_;unfold Ju;rw [hT,hlf,ar rfl,Iq i2,hSrc,Hk i4]
   have htl:(Q2 (k+1) (Gs (A4 n k).1.Ah[k+1])).length=(Gs (A4 n k).1.Ah[k+1]).length:=cg ..;have hu6:=(Ga hrn.hu).1;generalize hR:(A4 n k).1.Ah[k+1]=R at *;generalize hQ:(A4 n k).1.up[k+1]=Q at *;refine go ?_;refine Fb (ys:=yr) fun hm hlr=>?_;refine Aeg (E:=Cg) (ys:=yr) (xs:=(A4 n k).1.Ah) (k+1) hm EM EM fun h2 h3 v Gi ev=>?_;rw [hR];refine Gn (v:=v) (x:=R) ?_;rintro b1 d1 G1 b2 d2 G2 rfl l1 l2;have e8:yr[k+1]=[.bool (R).A1,aa (R).Ae,aa (R).Aa.next,.slice b1 (R).Aa.Am.length d1,.slice b2 (R).Aj.length d2]:=IS
   refine Qq (E:=EC 5) (xs:=yr) (m:=5) (Hj 5) (k+1) ?_ EP rfl h2;rintro _ g A cs B rfl k2 k3 hH;obtain ⟨k4, -, -⟩:=k3 w0;rw [e8] at k4;subst k4;dsimp only [List.append];refine go ?_
   refine Gw [1,2,3,4,6,7] [0,1,2,3,4,5,6,7,8,9,10,11,12,13,14,15,16,17,18,19,20,21,22] (fun w:Nat × TkR=>[(8,Fv w.1 0 0),(9,.slice w.2.a3 (Db R).length w.2.c3),(10,.slice w.2.a4 (Gs R).length w.2.c4)]) (fun w=>[.row w.1 83 0 [] [.bool (Bj R (Ij (k+1))).A1,aa (Bj R (Ij (k+1))).Ae,aa (Bj R (Ij (k+1))).Aa.next,.slice w.2.a1 (Bj R (Ij (k+1))).Aa.Am.length w.2.c1,.slice w.2.a2 (Bj R (Ij (k+1))).Aj.length w.2.c2] [],.isv Cg (.agg #[.bool (Bj R (Ij (k+1))).A1,aa (Bj R (Ij (k+1))).Ae,aa (Bj R (Ij (k+1))).Aa.next,.slice w.2.a1 (Bj R (Ij (k+1))).Aa.Am.length w.2.c1,.slice w.2.a2 (Bj R (Ij (k+1))).Aj.length w.2.c2]) (Bj R (Ij (k+1))) w.2.F1,.ow Ap 103 (.slice w.2.a3 (Db R).length w.2.c3) (Db R) w.2.F3,.ow Bc 9 (.slice w.2.a4 (Gs R).length w.2.c4) (Gs R) w.2.F4]) (fun _=>True) ?_ fun w _=>?_
   ·skip
    refine As [0,17] [] ?_;refine D7 0 1 2 3 ?_;refine Ek 4 5 ?_;refine dM 6 12 ?_ ?_
    ·refine oC ?_;refine Bw (Uy (k+1) EM) fun _ _=>?_;refine dk ?_;refine dM 7 12 ?_ ?_
     ·refine oC ?_;refine Bw (Aap R (Ij (k+1)) _ Gi hgr EM EM (by have:=hgr.k1;omega)) fun s _=>?_;refine dk ?_;refine D7 8 9 10 11 ?_;refine dN 12 ?_;apply Cq;rfl;intro _;refine dk ?_;refine dN 13 ?_;refine oS ?_;refine dk ?_;refine Ek 14 15 ?_;refine dd ?_;refine Cs (⟨_,s⟩:Nat × TkR) trivial
     ·apply Cq;rfl;intro _;exact BL
    ·apply Cq;rfl;intro _;refine dk ?_;refine dN 6 ?_;refine oC ?_;refine Bw (Uy (k+1) EM) fun _ _=>?_;exact BL
   obtain ⟨gr,s⟩:=w;dsimp only;refine Ke ?_;intros;refine Pf (E:=EC 5) (xs:=yr) [.bool (Bj R (Ij (k+1))).A1,aa (Bj R (Ij (k+1))).Ae,aa (Bj R (Ij (k+1))).Aa.next,.slice s.a1 (Bj R (Ij (k+1))).Aa.Am.length s.c1,.slice s.a2 (Bj R (Ij (k+1))).Aj.length s.c2] hH (fun _=>⟨rfl,⟨rfl,EW⟩,rfl⟩) ?_;refine P3 (E:=Cg) (ys:=yr) (xs:=(A4 n k).1.Ah) (x:=Bj R (Ij (k+1))) (k+1) rfl hm EM fun G'=>?_;refine Az (E:=Ap) (xs:=Db R) fun Fp9=>?_;refine Fb (ys:=yu) fun hmu hlu=>?_;refine Aef (ys:=yu) (xs:=(A4 n k).1.up) (k+1) hmu EM EM fun h9 _ Gq=>?_;rw [hQ]
   refine Aal (x:=Q) fun a9 c9 e9 l9=>?_;have e10:yu[k+1]=[ab a9 Q.length c9]:=IV
   refine Qq (E:=EC 1) (xs:=yu) (m:=1) (Hj 1) (k+1) ?_ EP rfl h9;rintro _ gu Au cs Bu rfl j2 j3 hHu;obtain ⟨j4, -, -⟩:=j3 w0;rw [e10] at j4;subst j4;refine go ?_;refine As [0,24] [11] ?_;refine D7 0 1 2 3 ?_;refine D7 4 5 6 7 ?_;refine dt 8 ?_;refine dN 9 ?_;refine oC ?_;refine Bw (Adr Q (Db R) a9 c9 _ _ _ Fp9 EM) fun r _=>?_;refine dk ?_;refine dt 10 ?_;refine dN 11 ?_;refine oS ?_;refine Pg ?_;refine dd ?_;refine Pf (E:=EC 1) (xs:=yu) [.slice r.a (Da Q (Db R)).length r.c] hHu (fun _=>⟨rfl,⟨rfl,EW⟩,rfl⟩) ?_
   refine Az (E:=Ap) (xs:=Da Q (Db R)) fun Fu=>?_;refine X0 (E:=Ap) (x:=Da Q (Db R)) EN ?_;refine P3 (E:=Nr Ap EN) (ys:=yu) (xs:=(A4 n k).1.up) (x:=Da Q (Db R)) (k+1) rfl hmu EM fun Gv=>?_;refine Az (E:=Bc) (xs:=Gs R) fun F7=>?_;refine go ?_;refine Bw (Af7 (k+1) (Gs R) _ _ F7 FT EM EM hsm) fun u9 _=>?_;refine Az (E:=Bc) (xs:=Q2 (k+1) (Gs R)) fun F8=>?_;apply wO;refine M0 (E:=Bc) (xs:=(A4 n k).2) (ys:=Q2 (k+1) (Gs R)) Ej Gp fun ax cx Fx=>?_;refine go ?_
   refine Cv ⟨k+1,⟨⟨ye,Fe,Ge⟩,⟨yr.set (k+1) [.bool (Bj R (Ij (k+1))).A1,aa (Bj R (Ij (k+1))).Ae,aa (Bj R (Ij (k+1))).Aa.next,.slice s.a1 (Bj R (Ij (k+1))).Aa.Am.length s.c1,.slice s.a2 (Bj R (Ij (k+1))).Aj.length s.c2],[g],G'⟩,⟨yd,Fd,Gd⟩,⟨yu.set (k+1) [.slice r.a (Da Q (Db R)).length r.c],[gu],Gv⟩⟩,ax,cx,Fx⟩ ⟨IQ,by rw [hnx];dsimp only;rw [aw,htl];omega⟩ FE FJ FI
 ·have hke:n.Ao.Ad.length - 1=k:=EM
  rw [show Bv n=A4 n k by unfold Bv;rw [hke],hSrc];refine go ?_;refine ret (⟨⟨⟨ye,Fe,Ge⟩,⟨yr,Fr,Gr⟩,⟨yd,Fd,Gd⟩,⟨yu,Fu,Gu⟩⟩,u,⟨0,ea,ec,eF⟩⟩:SZ × TiS × KA) trivial rfl
structure OwN where
 g:Nat
 a1:ai
 c1:Nat
 F1:ak
 s:Ag1
structure OwK where
 k:Nat
 a4:ai
 c4:Nat
 F4:ak
 a5:ai
 c5:Nat
 F5:ak
 a6:ai
 c6:Nat
 F6:ak
 a7:ai
 c7:Nat
 F7:ak
theorem Zg:Zz (Jo Ap 103):=fun h u hu=>by
 obtain ⟨v,rfl,h⟩:=h;obtain rfl:=aH.1 hu;rcases h with ⟨rfl, -, -⟩|⟨b,cap,cs,rest,G,rfl, -⟩ <;> rfl
theorem Amh {x:Cc} (hg:Cj x=true):Akp x x.Aa=x:=by
 obtain ⟨gw,hl,t0,t1,k0,k1,hm,hn,hu,hb⟩:=M4 hg;unfold Akp;rw [<-V2 hu,Xq hg]
theorem Ajj (n:Du) (v:Value) (F:ak) (hg:At n=true):Fn prog 71 [v] [.isv Nw v n F] [] (fun (_:OwN × OwK)=>True) (fun z=>.agg #[ab z.1.a1 n.Ao.Ad.length z.1.c1,aa (n.Ac).Aa.Al,aa (n.Ac).Aa.size,.slice z.1.s.a (n.Ac).Aa.An.length z.1.s.c,aa (n.Ac).Ae,aa (n.Ac).quiet,.slice z.1.s.a2 (n.Ac).holds.length z.1.s.c2,.slice z.2.a4 (n.Ai).length z.2.c4,.slice z.2.a5 (n.Ah).length z.2.c5,.slice z.2.a6 (n.down).length z.2.c6,.slice z.2.a7 (n.up).length z.2.c7]) (fun z=>[.ow Bi 3 (ab z.1.a1 n.Ao.Ad.length z.1.c1) n.Ao.Ad z.1.F1,.isv El (.agg #[aa (n.Ac).Aa.Al,aa (n.Ac).Aa.size,.slice z.1.s.a (n.Ac).Aa.An.length z.1.s.c,aa (n.Ac).Ae,aa (n.Ac).quiet,.slice z.1.s.a2 (n.Ac).holds.length z.1.s.c2]) n.Ac z.1.s.F,.ow Ck 76 (.slice z.2.a4 (n.Ai).length z.2.c4) (n.Ai) z.2.F4,.ow Ca 83 (.slice z.2.a5 (n.Ah).length z.2.c5) (n.Ah) z.2.F5,.ow (Jo Ap 103) 85 (.slice z.2.a6 (n.down).length z.2.c6) (n.down) z.2.F6,.ow (Jo Ap 103) 85 (.slice z.2.a7 (n.up).length z.2.c7) (n.up) z.2.F7]):=by
 have hG:=Av.1 hg;have h8:=(Ev hG.t).n1;have hS:=M4 hG.s;have hSl:=hS.l;have hSm:=hS.m;obtain ⟨q1,q2,q3,q4⟩:=Bk.1 hG.l;obtain ⟨g1,g2,g3,g4⟩:=Mk hg;refine enter func71 rfl ntmps71 fun w0=>?_;refine Eb ?_;rintro a1 c1 F1 a2 c2 F2 a3 c3 F3 a4 c4 F4 a5 c5 F5 a6 c6 F6 a7 c7 F7 rfl l1 l2 l3 l4 l5 l6 l7;refine Ed n.Ac ?_;refine Co n.Ac.Aa (a1:=a2) ?_;have hW:=fun vw Fw=>Apb n.Ac n.Ac.Aa (.agg #[aa n.Ac.Aa.Al,aa n.Ac.Aa.size,ab a2 n.Ac.Aa.An.length c2,aa n.Ac.Ae,aa n.Ac.quiet,ab a3 n.Ac.holds.length c3]) vw (F2++F3) Fw hS.t0 hS.t1 EM hS.n hS.u
 rw [Amh hG.s,show Mv n.Ac.Aa n.Ac.holds=n.Ac.holds by rw [<-V2 hS.u,Xq hG.s]] at hW;refine go ?_;intros
 refine Gw [1,2] [0,1,2,3,4,5,6,7,8,9,10,11] (fun w:OwN=>[(3,Fv w.g 0 0)]) (fun w=>[.row w.g 37 0 [] [ab w.a1 n.Ao.Ad.length w.c1,aa (n.Ac).Aa.Al,aa (n.Ac).Aa.size,.slice w.s.a (n.Ac).Aa.An.length w.s.c,aa (n.Ac).Ae,aa (n.Ac).quiet,.slice w.s.a2 (n.Ac).holds.length w.s.c2,ab none 0 0,ab none 0 0,ab none 0 0,ab none 0 0] [],.ow Bi 3 (ab w.a1 n.Ao.Ad.length w.c1) n.Ao.Ad w.F1,.isv El (.agg #[aa (n.Ac).Aa.Al,aa (n.Ac).Aa.size,.slice w.s.a (n.Ac).Aa.An.length w.s.c,aa (n.Ac).Ae,aa (n.Ac).quiet,.slice w.s.a2 (n.Ac).holds.length w.s.c2]) n.Ac w.s.F]) (fun _=>True) ?_ fun w _=>?_
 ·skip
  refine As [1] [] ?_;refine D7 0 1 2 5 ?_;refine D7 6 7 8 9 ?_;refine dM 3 13 ?_ ?_
  ·refine oC ?_;refine cn (fun w st=>Acg _ n.Ao.Ad F1 w (st.get (p:=.sl _ _ _ _) EQ).2 EM) fun b1 d1 G1=>?_;refine dk ?_;refine dt 4 ?_;refine dM 10 13 ?_ ?_
   ·refine oC ?_;refine Bw (Rr n.Ac.Aa _ F2 hS.t0 hS.t1 EM) fun y _=>?_;refine Jh ?_;rintro a9 c9 F9 e9 l9;rw [e9];refine Az (xs:=n.Ac.Aa.An) fun F8=>?_;refine Co n.Ac.Aa (a1:=a9) ?_;refine dk ?_;refine dM 11 13 ?_ ?_
    ·refine oC ?_;refine Bw (hW _ F8) fun s _=>?_;refine dk ?_;refine dt 12 ?_;refine dN 13 ?_;apply Cq;rfl;intro _;refine dk ?_;refine dN 14 ?_;refine oS ?_;refine dk ?_;refine dd ?_;refine Cs (⟨_,b1,d1,G1,s⟩:OwN) trivial
    ·apply Cq;rfl;intro _;exact CF
   ·apply Cq;rfl;intro _;refine dk ?_;refine dN 10 ?_;refine oC ?_;refine Bw (Rr n.Ac.Aa _ F2 hS.t0 hS.t1 EM) fun y _=>?_;refine Jh ?_;rintro a9 c9 F9 e9 l9;rw [e9];refine Az (xs:=n.Ac.Aa.An) fun F8=>?_;refine Co n.Ac.Aa (a1:=a9) ?_;exact CF
  ·apply Cq;rfl;intro _;refine dk ?_;refine dN 3 ?_;refine oC ?_;refine cn (fun w st=>Acg _ n.Ao.Ad F1 w (st.get (p:=.sl _ _ _ _) EQ).2 EM) fun b1 d1 G1=>?_;refine dk ?_;refine dt 4 ?_;refine dN 10 ?_;refine oC ?_;refine Bw (Rr n.Ac.Aa _ F2 hS.t0 hS.t1 EM) fun y _=>?_;refine Jh ?_;rintro a9 c9 F9 e9 l9;rw [e9];refine Az (xs:=n.Ac.Aa.An) fun F8=>?_;refine Co n.Ac.Aa (a1:=a9) ?_;refine dk ?_;refine dN 11 ?_;refine oC ?_;refine Bw (hW _ F8) fun s _=>?_;refine dk ?_;refine dt 12 ?_;refine dN 14 ?_;refine oS ?_;refine dk ?_;refine dd ?_
   refine Cs (⟨_,b1,d1,G1,s⟩:OwN) trivial
 refine B4 Ck 76 ?_;refine B4 Ca 83 ?_;refine B4 (Jo Ap 103) 85 ?_;refine B4 (Jo Ap 103) 85 ?_;refine go ?_
 refine Cu [1,2,3] (fun y:OwK=>[(4,aa (y.k:Nat))]) (fun y=>[.row w.g 37 0 [] [ab w.a1 n.Ao.Ad.length w.c1,aa (n.Ac).Aa.Al,aa (n.Ac).Aa.size,.slice w.s.a (n.Ac).Aa.An.length w.s.c,aa (n.Ac).Ae,aa (n.Ac).quiet,.slice w.s.a2 (n.Ac).holds.length w.s.c2,.slice y.a4 (n.Ai.take y.k).length y.c4,.slice y.a5 (n.Ah.take y.k).length y.c5,.slice y.a6 (n.down.take y.k).length y.c6,.slice y.a7 (n.up.take y.k).length y.c7] [],.ow Ck 76 (.slice y.a4 (n.Ai.take y.k).length y.c4) (n.Ai.take y.k) y.F4,.ow Ca 83 (.slice y.a5 (n.Ah.take y.k).length y.c5) (n.Ah.take y.k) y.F5,.ow (Jo Ap 103) 85 (.slice y.a6 (n.down.take y.k).length y.c6) (n.down.take y.k) y.F6,.ow (Jo Ap 103) 85 (.slice y.a7 (n.up.take y.k).length y.c7) (n.up.take y.k) y.F7]) (fun y=>y.k<=n.Ai.length) (fun y=>n.Ai.length - y.k) ⟨0,none,0,[],none,0,[],none,0,[],none,0,[]⟩ (aD _) fun y hy=>?_
 refine go ?_;refine Bf rfl (fun h1=>?_) (fun h1=>?_)
 ·have hk:y.k < n.Ai.length:=EM
  have hk5:y.k < n.Ah.length:=EM
  have hk6:y.k < n.down.length:=EM
  have hk7:y.k < n.up.length:=EM
  have t4:(n.Ai.take y.k).length<=8:=FK
  have t5:(n.Ah.take y.k).length<=8:=FK
  have t6:(n.down.take y.k).length<=8:=FK
  have t7:(n.up.take y.k).length<=8:=FK
  have hge:=g1 _ (aE hk);have hel:=(D6.1 hge).2.1;have hgr:=Gm.1 (g2 _ (aE hk5));have hrs:=(Kz hgr.w).1;have hrq:=(Dv.1 hgr.q).2.1;have hd6:=(Ga (g3 _ (aE hk6))).1;have hu6:=(Ga (g4 _ (aE hk7))).1;refine Rl (xs:=n.Ai) y.k ?_;rintro hi4 b4 o4 a8 c8 F8 e4 l8;rw [e4];refine Gk n.Ai[y.k] ?_;dsimp only [List.append];refine go ?_;refine As [1,3,11] [11] ?_;refine D7 0 1 2 3 ?_;refine Ek 4 5 ?_;refine dt 6 ?_;refine dN 7 ?_;refine oC ?_
  refine cv (fun w2 st=>Zc _ n.Ai[y.k] F8 w2 (st.get (p:=.isv _ _ _ _) EQ) EM (fun x hx=>by have:=Ol hge hx;omega)) fun v9 F9=>?_;refine Ia (x:=n.Ai[y.k]) ?_;rintro a9 c9 F10 rfl l9;refine Hg n.Ai[y.k] ?_;refine dk ?_;refine dN 8 ?_;apply In;rfl;rfl;rfl;rfl;exact Ik;exact Ie;intro _;refine dk ?_;refine dN 9 ?_;refine Ag3 U4 n.Ai[y.k] rfl fun x4 d4 G4=>?_;refine dk ?_;refine dt 10 ?_;refine dN 11 ?_;refine oS ?_;refine Pg ?_;refine dd ?_;rw [<-aZ hk];refine Od (xs:=n.Ah) y.k ?_;rintro hi5 b5 o5 a11 c11 F11 a12 c12 F12 e5 l11 l12;rw [e5]
  refine E8 n.Ah[y.k] ?_;dsimp only [List.append];refine go ?_;refine As [1,8,15] [11] ?_;refine D7 0 1 2 3 ?_;refine Ek 4 5 ?_;refine dt 6 ?_;refine dN 7 ?_;refine oC ?_;refine Bw (T2 n.Ah[y.k] _ _ EM EM) fun s9 _=>?_;refine I3 (x:=n.Ah[y.k]) ?_;rintro a9 c9 G9 a10 c10 G10 e9 l9 l10;rw [e9];refine Ln n.Ah[y.k] ?_;refine dk ?_;refine dN 8 ?_;apply In;rfl;rfl;rfl;rfl;exact Ik;exact Ie;intro _;refine dk ?_;refine dN 9 ?_;refine Ag3 Td n.Ah[y.k] rfl fun x5 d5 G5=>?_;refine dk ?_;refine dt 10 ?_;refine dN 11 ?_;refine oS ?_;refine Pg ?_;refine dd ?_
  rw [<-aZ hk5];refine O0 (E:=Ap) (hz:=EN) (xs:=n.down) y.k ?_;rintro hi6 b6 o6 a13 c13 F13 e6 l13;rw [e6];refine go ?_;refine As [0,11,17] [12] ?_;refine D7 0 1 3 4 ?_;refine Ek 5 6 ?_;refine dt 7 ?_;refine dN 2 ?_;apply Lt;rfl;intro _;refine Dk Ap ?_;refine dk ?_;refine dN 8 ?_;refine M0 Ig Kt fun a9 c9 F9=>?_;rw [bb];refine Lo n.down[y.k] ?_;refine dk ?_;refine dN 9 ?_;apply In;rfl;rfl;rfl;rfl;exact Ik;exact Ie;intro _;refine dk ?_;refine dN 10 ?_;refine Ag3 (Zg) n.down[y.k] rfl fun x6 d6 G6=>?_;refine dk ?_;refine dt 11 ?_;refine dN 12 ?_
  refine oS ?_;refine Pg ?_;refine dd ?_;rw [<-aZ hk6];refine O0 (E:=Ap) (hz:=EN) (xs:=n.up) y.k ?_;rintro hi7 b7 o7 a14 c14 F14 e7 l14;rw [e7];refine go ?_;refine As [0,14,19] [12] ?_;refine D7 0 1 3 4 ?_;refine Ek 5 6 ?_;refine dt 7 ?_;refine dN 2 ?_;apply Lt;rfl;intro _;refine Dk Ap ?_;refine dk ?_;refine dN 8 ?_;refine M0 Ig Kt fun a9 c9 F9=>?_;rw [bb];refine Lo n.up[y.k] ?_;refine dk ?_;refine dN 9 ?_;apply In;rfl;rfl;rfl;rfl;exact Ik;exact Ie;intro _;refine dk ?_;refine dN 10 ?_;refine Ag3 (Zg) n.up[y.k] rfl fun x7 d7 G7=>?_;refine dk ?_
  refine dt 11 ?_;refine dN 12 ?_;refine oS ?_;refine Pg ?_;refine dd ?_;rw [<-aZ hk7];refine go ?_;refine Cv ⟨y.k+1,x4,d4,G4,x5,d5,G5,x6,d6,G6,x7,d7,G7⟩ hk (by show n.Ai.length - (y.k+1) < n.Ai.length - y.k;omega)
 ·rw [show n.Ai.take y.k=n.Ai from bc EM,show n.Ah.take y.k=n.Ah from bc EM,show n.down.take y.k=n.down from bc EM,show n.up.take y.k=n.up from bc EM];refine go ?_;refine ret (⟨w,y⟩:OwN × OwK) trivial rfl
end Go.Proofs.YtmckdnddocfodaaGreatDoor
namespace Go.Proofs.YtmckdnddocfodaaGreatDoor
open Go.RowKit
open Go.RowKit
theorem Afr {α:Type} {O R:B8 α} (hW:Ny O R) {w:World}:∀{xs:List α} {cs:aj} {G:ak},C6 O w cs xs G->∃G',(∀b∈G',b∈G)/\C6 R w cs xs G'
 | [],_,_,h=>⟨[],EO,h.1,rfl⟩
 | x::r,_,_,h=>by
  obtain ⟨c1,c2,F1,F2,rfl,rfl,h1,h2⟩:=h;obtain ⟨G1,s1,r1⟩:=hW.L5 h1;obtain ⟨G2,s2,r2⟩:=Afr hW h2;exact ⟨G1++G2,fun b hb=>by rcases aG.1 hb with hb|hb;simp [s1 b hb];simp [s2 b hb],c1,c2,G1,G2,rfl,rfl,r1,r2⟩
theorem Kl.skip {x:Pc}:∀{B A:List Pc},Kl A B->Kl (x::A) B
 | _,_,.nil=>.nil
 | _,_,.cons hp hr=>.cons (.there hp) hr.skip
theorem Kl.all:∀A:List Pc,Kl A A
 | []=>.nil
 | _::A=>.cons .here (Kl.all A)
section
variable {c:Cx} {fr:Fr} {H:List Pc} {Φ:Gl}
theorem Aco {α:Type} {O R:B8 α} (hW:Ny O R) {cs:aj} {xs:List α} {G:ak} {S:List Pc} (h:∀G',T c fr (.isv (EA R xs.length) (.agg cs.toArray) xs G'::S) Φ) (hp:De H (.flat O cs xs G) S:=by exact En):T c fr H Φ:=.mk fun a w s g=>by
 have s1:=s.pick hp;obtain ⟨-,ho⟩:=s1.on (.flat O cs xs G) EO;obtain ⟨G',hG,hf⟩:=Afr hW ho;exact (h G').h a w (s1.conv rfl ⟨_,rfl,rfl,hf⟩ hG) g
theorem Xo (m:Du) {l:al} {N:Nat} (hT:m.Ao.Ad=l) (hN:N=l.length) (hl:Kn m=true) {a1 a2 a3 a4 a5 a6 a7:ai} {c1 c2 c3 c4 c5 c6 c7:Nat} {F1 FS F4 G4 F5 G5 F6 G6 F7 G7:ak} {ys4 ys5 ys6 ys7:List (aj)} (h4:ys4.length=N) (h5:ys5.length=N) (h6:ys6.length=N) (h7:ys7.length=N)
  (h:∀F,T c fr (.isv Nw (.agg #[ab a1 N c1,aa m.Ac.Aa.Al,aa m.Ac.Aa.size,ab a2 m.Ac.Aa.An.length c2,aa m.Ac.Ae,aa m.Ac.quiet,ab a3 m.Ac.holds.length c3,ab a4 N c4,ab a5 N c5,ab a6 N c6,ab a7 N c7]) m F::H) Φ) (p1:.sl Bi (ab a1 N c1) l F1∈H:=by exact Cb) (p2:.isv El (.agg #[aa m.Ac.Aa.Al,aa m.Ac.Aa.size,ab a2 m.Ac.Aa.An.length c2,aa m.Ac.Ae,aa m.Ac.quiet,ab a3 m.Ac.holds.length c3]) m.Ac FS∈H:=by exact Cb) (p4:.sl (EC 2) (ab a4 N c4) ys4 F4∈H:=by exact Cb) (q4:.isv (EA (B9) N) (.agg ys4.flatten.toArray) m.Ai G4∈H:=by exact Cb) (p5:.sl (EC 5) (ab a5 N c5) ys5 F5∈H:=by exact Cb) (q5:.isv (EA (Cg) N) (.agg ys5.flatten.toArray) m.Ah G5∈H:=by exact Cb) (p6:.sl (EC 1) (ab a6 N c6) ys6 F6∈H:=by exact Cb) (q6:.isv (EA (Nr Ap EN) N) (.agg ys6.flatten.toArray) m.down G6∈H:=by exact Cb) (p7:.sl (EC 1) (ab a7 N c7) ys7 F7∈H:=by exact Cb) (q7:.isv (EA (Nr Ap EN) N) (.agg ys7.flatten.toArray) m.up G7∈H:=by exact Cb):T c fr H Φ:=by
 obtain ⟨e1,e2,e3,e4⟩:=Bk.1 hl;subst hT hN;refine Gh (hm:=p2) ?_;rintro b2 d2 F2 b3 d3 F3 ev - -;have ev2:=ev;simp only [Value.agg.injEq,Array.mk.injEq,List.cons.injEq,Value.slice.injEq,cP,de] at ev2;obtain ⟨⟨rfl,rfl⟩,rfl,rfl⟩:=ev2;refine Pd (E:=B9) (xs:=m.Ai) rfl EM rfl (fun F8=>?_) (.tail _ (.tail _ p4)) (.tail _ (.tail _ q4));refine Pd (E:=Cg) (xs:=m.Ah) rfl EM rfl (fun F9=>?_) (.tail _ (.tail _ (.tail _ p5))) (.tail _ (.tail _ (.tail _ q5)))
 refine Pd (E:=Nr Ap EN) (xs:=m.down) rfl EM rfl (fun F10=>?_) (.tail _ (.tail _ (.tail _ (.tail _ p6)))) (.tail _ (.tail _ (.tail _ (.tail _ q6))));refine Pd (E:=Nr Ap EN) (xs:=m.up) rfl EM rfl (fun F11=>?_) (.tail _ (.tail _ (.tail _ (.tail _ (.tail _ p7))))) (.tail _ (.tail _ (.tail _ (.tail _ (.tail _ q7)))))
 refine I6 m (a1:=a1) (c1:=c1) (F1:=F1) (a2:=a2) (c2:=c2) (F2:=F2) (a3:=a3) (c3:=c3) (F3:=F3) (a4:=a4) (c4:=c4) (F4:=F8) (a5:=a5) (c5:=c5) (F5:=F9) (a6:=a6) (c6:=c6) (F6:=F10) (a7:=a7) (c7:=c7) (F7:=F11) ?_ (.tail _ (.tail _ (.tail _ (.tail _ (.tail _ (.tail _ p1)))))) (.tail _ (.tail _ (.tail _ (.tail _ (.head _))))) (.tail _ (.tail _ (.tail _ (.tail _ (.tail _ (.head _)))))) (by rw [e1];exact .tail _ (.tail _ (.tail _ (.head _)))) (by rw [e2];exact .tail _ (.tail _ (.head _))) (by rw [e3];exact .tail _ (.head _)) (by rw [e4];exact .head _);rw [e1,e2,e3,e4]
 exact Bbd _ (h _) (.cons .here (Kl.skip (Kl.skip (Kl.skip (Kl.skip (Kl.skip (Kl.skip (Kl.all H))))))))
end
end Go.Proofs.YtmckdnddocfodaaGreatDoor
namespace Go.Proofs.YtmckdnddocfodaaGreatDoor
open Go.RowKit
def Pb (x:Cc) (s:am):Cc:=⟨Dt x.Aa s,x.Ae,0,Hx (Dt x.Aa s) x.Ae x.holds⟩
theorem Atv {x:Cc} {s:am} (h:∀z∈x.holds,x.Ae+1<=z.Bl):Pb x s=Pp x s:=by unfold Pb Pp;rw [V2 h]
theorem Xu (x:Cc) (s:am) (v:Value) (F:ak) (t0:0<=x.Aa.Al) (t1:x.Aa.Al<=65535) (hl:x.Aa.An.length<=6) (z1:1<=x.Aa.size) (hm:x.holds.length<=1000) (hn:Xd x.holds) (hs:s.size<=maxLen) :
  Fn prog 72 [v,af s] [.isv El v x F] [] (fun (_:Ag1)=>True) (fun z=>.tuple #[.agg #[aa (Pb x s).Aa.Al,aa (Pb x s).Aa.size,.slice z.a (Pb x s).Aa.An.length z.c,aa (Pb x s).Ae,aa (Pb x s).quiet,.slice z.a2 (Pb x s).holds.length z.c2],.agg #[aa 1,aa (Di x.Aa s).Ab,aa (Di x.Aa s).Al,aa (Di x.Aa s).Cy,af s]]) (fun z=>[.isv El (.agg #[aa (Pb x s).Aa.Al,aa (Pb x s).Aa.size,.slice z.a (Pb x s).Aa.An.length z.c,aa (Pb x s).Ae,aa (Pb x s).quiet,.slice z.a2 (Pb x s).holds.length z.c2]) (Pb x s) z.F]):=by
 have hb:=P0 t0 t1;refine enter func72 rfl ntmps72 fun w0=>?_;refine Gh ?_;rintro a1 c1 F1 a2 c2 F2 rfl l1 l2;refine Co x.Aa ?_;generalize F1=F3;refine go ?_;intros;refine Bw (Asj x.Aa s _ F3 hl t0 t1 hs z1) fun y _=>?_;refine Eq (x:=Dt x.Aa s) ?_;rintro a5 c5 F5 e5 l5;rw [e5];refine go ?_;intros;refine Bw (Sd x (Dt x.Aa s) _ _ F y.2 hb.1 hb.2 EM hn) fun q _=>?_;refine Gh (x:=We x (Dt x.Aa s)) ?_;rintro a6 c6 F6 a7 c7 F7 e6 l6 l7;rw [e6];refine go ?_;intros;refine As [0,4] [] ?_;refine Ek 0 1 ?_;refine dN 2 ?_;refine oS ?_;refine dk ?_;refine dN 3 ?_;refine oS ?_;refine dk ?_
 refine dd ?_;refine Ed (Pb x s) ?_;refine go ?_;exact DP
theorem Ao9 (x:Cc) (s:am) (v:Value) (F:ak) (hg:Cj x=true) (hs:s.size<=maxLen) :
  Fn prog 72 [v,af s] [.isv El v x F] [] (fun (_:Ag1)=>True) (fun z=>.tuple #[.agg #[aa (Pp x s).Aa.Al,aa (Pp x s).Aa.size,.slice z.a (Pp x s).Aa.An.length z.c,aa (Pp x s).Ae,aa (Pp x s).quiet,.slice z.a2 (Pp x s).holds.length z.c2],.agg #[aa 1,aa (Di x.Aa s).Ab,aa (Di x.Aa s).Al,aa (Di x.Aa s).Cy,af s]]) (fun z=>[.isv El (.agg #[aa (Pp x s).Aa.Al,aa (Pp x s).Aa.size,.slice z.a (Pp x s).Aa.An.length z.c,aa (Pp x s).Ae,aa (Pp x s).quiet,.slice z.a2 (Pp x s).holds.length z.c2]) (Pp x s) z.F]):=by
 obtain ⟨gw,hl,t0,t1,k0,k1,hm,hn,hu,hb⟩:=M4 hg;obtain ⟨-,⟨z1, -⟩, -⟩:=D0.1 gw;have h:=Xu x s v F t0 t1 hl z1 EM (Acu hn) hs;rw [Atv hu] at h;exact h
theorem T3 (n:Du) (s:Gf) (v:Value) (F FT:ak) (hss:s.data.size<=maxLen) (g1:At n=true) (g2:D5 s=true):Fn prog 26 [v,.agg #[aa s.Bd,aa s.node,af s.data]] [.isv Nw v n F,Nx FT] [] (fun (_:Wx)=>True) (fun z=>.tuple #[.agg z.cs.toArray,.slice z.a (Bo n s).2.1.length z.c,.bool (Bo n s).2.2]) (fun z=>[.isv Nw (.agg z.cs.toArray) (Bo n s).1 z.F,.ow Bc 9 (.slice z.a (Bo n s).2.1.length z.c) (Bo n s).2.1 z.Fe]):=by
 have hG:=Av.1 g1;have h8:=Ev hG.t;have hn8:=h8.n1;have hn2:=h8.n0;obtain ⟨q1,q2,q3,q4⟩:=Bk.1 hG.l;have hkl:=T0 n.Ao.Ad 0;have hkx:∀x∈E7 n.Ao.Ad 0,0<=x/\x.toNat < n.down.length:=fun x hx=>by have:=If (i:=0) h8 hx;omega
 have hd6:∀q∈n.down,q.length<=6:=fun q hq=>(Ga ((Mk g1).2.2.1 q hq)).1;have hck:=Sk hG.s;refine enter func26 rfl ntmps26 fun w0=>?_;refine Eb ?_;rintro a1 c1 F1 a2 c2 F2 a3 c3 F3 a4 c4 F4 a5 c5 F5 a6 c6 F6 a7 c7 F7 rfl l1 l2 l3 l4 l5 l6 l7;refine go ?_;intros;refine Bw (Ajj n _ F g1) fun z _=>?_;obtain ⟨w,y⟩:=z;dsimp only;refine Az (E:=Bi) (xs:=n.Ao.Ad) fun Ft=>?_;refine Aa5 (E:=Ck) (xs:=n.Ai) U4 (m:=2) rfl fun ye Fe Ge he1 he2=>?_;refine Aco (R:=B9) (xs:=n.Ai) Kw fun He=>?_;refine Aa5 (E:=Ca) (xs:=n.Ah) Td (m:=5) rfl fun yr Fr Gr hr1 hr2=>?_;refine Aco (R:=Cg) (xs:=n.Ah) Tj fun Hr=>?_
 refine Aa5 (E:=Jo Ap 103) (xs:=n.down) Zg (m:=1) rfl fun yd Fd Gd hd1 hd2=>?_;refine Aco (R:=Nr Ap EN) (xs:=n.down) (So (Ny.refl Ap) EN _) fun Hd=>?_;refine Aa5 (E:=Jo Ap 103) (xs:=n.up) Zg (m:=1) rfl fun yu Fu Gu hu1 hu2=>?_;refine Aco (R:=Nr Ap EN) (xs:=n.up) (So (Ny.refl Ap) EN _) fun Hu=>?_;rw [q1,q2,q3,q4];refine Mn n.Ao (a1:=w.a1) ?_;refine go ?_;intros;refine Bf rfl (fun h1=>?_) (fun h1=>?_)
 ·have e1:Bm n s=some (Xb n s.data,[]):=by unfold Bm;rw [ar h1]
  have hgm:=Kk g1 g2 e1;rw [show Bo n s=(Xb n s.data,[],true) by unfold Bo;rw [g1,g2,e1];rfl];refine go ?_;refine Bw (Ao9 n.Ac s.data _ _ hG.s hss) fun u _=>?_;refine go ?_;intros;refine As [0,3] [] ?_;refine D7 0 1 2 4 ?_;refine dM 3 5 ?_ ?_
  ·refine oC ?_;refine Bw (O7 n.Ao 0 _ Ft (Rq h8.z (cQ _)) ⟨EM,EM⟩) fun v _=>?_;refine Az (E:=Bi) (xs:=E7 n.Ao.Ad 0) fun Fk=>?_;refine dk ?_;refine dN 5 ?_;apply In;rfl;rfl;rfl;rfl;exact Ik;exact Ie;intro _;refine Eo (E:=Ap) (xs:=[Di n.Ac.Aa s.data]) (Dj (Di n.Ac.Aa s.data) hss) ?_ EO;refine Az (E:=Ap) (xs:=[Di n.Ac.Aa s.data]) fun Fp=>?_;refine dk ?_;refine dN 6 ?_;refine oC ?_;refine Bw (M8 n.down (E7 n.Ao.Ad 0) [Di n.Ac.Aa s.data] _ _ _ _ _ _ _ _ _ _ _ _ _ _ _ _ _ _ _ _ _ _ _ _ _ yd Fd Hd _ _ Fk _ _ Fp hkx hd6) fun x _=>?_;refine dk ?_;refine dd ?_
   refine go ?_;intros;refine Dk Bc ?_;refine go ?_;refine Fb (ys:=ye) fun _ w4=>?_;refine Fb (ys:=yr) fun _ w5=>?_;refine Fb (ys:=x.ys) fun _ w6=>?_;refine Fb (ys:=yu) fun _ w7=>?_;refine Az (E:=EC 2) (xs:=ye) fun _=>?_;refine Az (E:=EC 5) (xs:=yr) fun _=>?_;refine Az (E:=EC 1) (xs:=x.ys) fun _=>?_;refine Az (E:=EC 1) (xs:=yu) fun _=>?_;refine Xo (Xb n s.data) (l:=n.Ao.Ad) (N:=n.Ao.Ad.length) rfl rfl (Av.1 hgm).l w4 w5 w6 w7 (a1:=w.a1) (c1:=w.c1) (a2:=u.a) (c2:=u.c) (a3:=u.a2) (c3:=u.c2) (a4:=y.a4) (c4:=y.c4) (a5:=y.a5) (c5:=y.c5) (a6:=y.a6) (c6:=y.c6) (a7:=y.a7) (c7:=y.c7) fun FN=>?_
   exact CI
  ·apply In;rfl;rfl;rfl;rfl;exact Ik;exact Ie;intro _;refine Eo (E:=Ap) (xs:=[Di n.Ac.Aa s.data]) (Dj (Di n.Ac.Aa s.data) hss) ?_ EO;refine Az (E:=Ap) (xs:=[Di n.Ac.Aa s.data]) fun Fp=>?_;refine dk ?_;refine dN 3 ?_;refine oC ?_;refine Bw (O7 n.Ao 0 _ Ft (Rq h8.z (cQ _)) ⟨EM,EM⟩) fun v _=>?_;refine Az (E:=Bi) (xs:=E7 n.Ao.Ad 0) fun Fk=>?_;refine dk ?_;refine dN 6 ?_;refine oC ?_;refine Bw (M8 n.down (E7 n.Ao.Ad 0) [Di n.Ac.Aa s.data] _ _ _ _ _ _ _ _ _ _ _ _ _ _ _ _ _ _ _ _ _ _ _ _ _ yd Fd Hd _ _ Fk _ _ Fp hkx hd6) fun x _=>?_;refine dk ?_;refine dd ?_
   refine go ?_;intros;refine Dk Bc ?_;refine go ?_;refine Fb (ys:=ye) fun _ w4=>?_;refine Fb (ys:=yr) fun _ w5=>?_;refine Fb (ys:=x.ys) fun _ w6=>?_;refine Fb (ys:=yu) fun _ w7=>?_;refine Az (E:=EC 2) (xs:=ye) fun _=>?_;refine Az (E:=EC 5) (xs:=yr) fun _=>?_;refine Az (E:=EC 1) (xs:=x.ys) fun _=>?_;refine Az (E:=EC 1) (xs:=yu) fun _=>?_;refine Xo (Xb n s.data) (l:=n.Ao.Ad) (N:=n.Ao.Ad.length) rfl rfl (Av.1 hgm).l w4 w5 w6 w7 (a1:=w.a1) (c1:=w.c1) (a2:=u.a) (c2:=u.c) (a3:=u.a2) (c3:=u.c2) (a4:=y.a4) (c4:=y.c4) (a5:=y.a5) (c5:=y.c5) (a6:=y.a6) (c6:=y.c6) (a7:=y.a7) (c7:=y.c7) fun FN=>?_
   exact CI
 refine go ?_;refine Bf rfl (fun h4=>?_) (fun h4=>?_)
 ·refine go ?_;refine Bf rfl (fun hc=>?_) (fun hc=>?_)
  ·have e1:Bm n s=none:=by unfold Bm;rw [aq h1,ar h4,ar hc]
   rw [show Bo n s=(L4,[],false) by unfold Bo;rw [g1,g2,e1];rfl];exact AA
  ·have e1:Bm n s=some (Bv n):=by unfold Bm;rw [aq h1,ar h4,aq hc]
   have hgm:=Kk g1 g2 e1;rw [show Bo n s=((Bv n).1,(Bv n).2,true) by unfold Bo;rw [g1,g2,e1];rfl];refine go ?_;refine Bw (Apl n w.a1 w.c1 y.a4 y.c4 y.a5 y.c5 y.a6 y.c6 y.a7 y.c7 w.s.a w.s.a2 w.s.c w.s.c2 Ft w.s.F FT ⟨⟨ye,Fe,He⟩,⟨yr,Fr,Hr⟩,⟨yd,Fd,Hd⟩,⟨yu,Fu,Hu⟩⟩ g1 EM) fun x _=>?_;refine go ?_;intros;refine Fb (ys:=x.1.e.ys) fun _ w4=>?_;refine Fb (ys:=x.1.r.ys) fun _ w5=>?_;refine Fb (ys:=x.1.d.ys) fun _ w6=>?_;refine Fb (ys:=x.1.u.ys) fun _ w7=>?_;refine Az (E:=EC 2) (xs:=x.1.e.ys) fun _=>?_;refine Az (E:=EC 5) (xs:=x.1.r.ys) fun _=>?_;refine Az (E:=EC 1) (xs:=x.1.d.ys) fun _=>?_
   refine Az (E:=EC 1) (xs:=x.1.u.ys) fun _=>?_;refine Xo ((Bv n).1) (l:=n.Ao.Ad) (N:=n.Ao.Ad.length) (congrArg Oc.Ad (P4 e1)) rfl (Av.1 hgm).l w4 w5 w6 w7 (a1:=w.a1) (c1:=w.c1) (a2:=x.2.1.a) (c2:=x.2.1.c) (a3:=x.2.1.a2) (c3:=x.2.1.c2) (a4:=y.a4) (c4:=y.c4) (a5:=y.a5) (c5:=y.c5) (a6:=y.a6) (c6:=y.c6) (a7:=y.a7) (c7:=y.c7) fun FN=>?_;exact CI
 have htk0:Bm n s=C4 n s:=by unfold Bm;rw [aq h1,aq h4]
 have hf:M7 s.node=true:=by
  have:=g2;unfold D5 at this;rw [aq h1,aq h4] at this;simp only [av] at this;exact this.1.2
 obtain ⟨f1,f2⟩:=Jy.1 hf;obtain ⟨i,hi⟩:∃i:Nat,s.node=((i:Nat):Int):=⟨s.node.toNat,EM⟩;have i0:i≠0:=EM
 rw [hi];by_cases k5:s.Bd=5
 ·have hu:Q7 s=true:=by unfold Q7;rw [au k5];rfl
  have hq:∀h:i < n.up.length,Qu n s=n.up[i]:=fun h=>by unfold Qu;rw [hu,ar rfl,hi,ba];exact N2 h []
  have hpo:Do n s=Lv n i:=HT
  refine go ?_;refine Dm rfl rfl (fun g5=>?_) (fun g5=>?_)
  rotate_left
  ·exact absurd k5 g5
  refine go ?_;refine Dm rfl rfl (fun h6=>?_) (fun h6=>?_)
  ·have e1:C4 n s=none:=by unfold C4;rw [ar EM]
   exact BC
  have hil:i < n.up.length:=EM
  have hq:=hq hil;refine Fb (ys:=yu) fun hm hlr=>?_;refine Aef (ys:=yu) (xs:=n.up) i hm EM EM fun h9 _ Gq=>?_;refine Aal (x:=n.up[i]) fun a9 c9 e9 l9=>?_;have e10:yu[i]=[.slice a9 n.up[i].length c9]:=IV
  refine Qq (E:=EC 1) (xs:=yu) (m:=1) (Hj 1) i ?_ EP rfl h9;rintro _ gq Aq cs Bq ea j2 j3 hHq;rw [ea];obtain ⟨j4, -, -⟩:=j3 w0;rw [e10] at j4;subst j4;refine go ?_;refine Bf rfl (fun h7=>?_) (fun h7=>?_)
  ·have e1:C4 n s=none:=HV
   exact BC
  have h0:0 < n.up[i].length:=EM
  refine N0 (xs:=n.up[i]) 0 ?_;rintro hi3 b3 o3 e3 s3;rw [e3];refine go ?_;intros;refine As [2,17] [10] ?_;refine D7 0 1 2 3 ?_;refine D7 4 5 6 7 ?_;refine dN 8 ?_;refine sld 1 fun a8 c8 F8=>?_;refine dk ?_;refine dt 9 ?_;refine dN 10 ?_;refine oS ?_;refine Pg ?_;refine dd ?_;refine Pf (E:=EC 1) (xs:=yu) [.slice a8 (n.up[i].drop 1).length c8] hHq (fun _=>⟨rfl,⟨rfl,EW⟩,rfl⟩) ?_;refine X0 (E:=Ap) (x:=n.up[i].drop 1) EN ?_;refine P3 (E:=Nr Ap EN) (ys:=yu) (xs:=n.up) (x:=n.up[i].drop 1) i rfl hm EM fun Gv=>?_
  rw [<-ea,show n.up.set i (n.up[i].drop 1)=(Lv n i).up from (Hk EM).symm];have hmem:=N5 h0;have hpk:Bh (Lu n.up[i])=true:=Kj (hq▸(Lw (s:=s) g1).1) hmem;have hpz:(Lu n.up[i]).data.size<=maxLen:=by
   exact BD
  have hgp:At (Lv n i)=true:=hpo▸Kr g1;have hGp:=Av.1 hgp;have hPg:=V8 h0;rw [<-hPg];generalize hP:Lu n.up[i]=P at *;have htk:C4 n s=some (Ou (Lv n i) i P,[]):=by
   unfold C4;rw [aq EM,hq,aq EM,hpo,hP,hi,ba];rw [aq EM,ar k5]
  have hgm:=Kk g1 g2 (htk0.trans htk);rw [show Bo n s=(Ou (Lv n i) i P,[],true) by unfold Bo;rw [g1,g2,htk0,htk];rfl];refine go ?_;refine Bf rfl (fun k2=>?_) (fun k2=>?_)
  ·exact absurd k2 EM
  refine go ?_;refine Bf rfl (fun m5=>?_) (fun m5=>?_)
  rotate_left
  ·exact absurd k5 m5
  have hdp:∀q∈(Lv n i).down,q.length<=6:=fun q hq=>(Ga ((Mk hgp).2.2.1 q hq)).1;have hup:∀q∈(Lv n i).up,q.length<=6:=fun q hq=>(Ga ((Mk hgp).2.2.2 q hq)).1;refine go ?_;refine Bw (Av4 (Lv n i) i P w.a1 w.c1 y.a4 y.c4 y.a5 y.c5 y.a6 y.c6 y.a7 y.c7 w.s.a w.s.a2 w.s.c w.s.c2 Ft w.s.F ⟨⟨ye,Fe,He⟩,⟨yr,Fr,Hr⟩,⟨yd,Fd,Hd⟩,⟨yu.set i [.slice a8 (n.up[i].drop 1).length c8],[gq],Gv⟩⟩ hGp.l i0 HR (Ev hGp.t) hGp.s (fun k hk hkl hl=>by obtain ⟨x1,x2,x3,x4,r⟩:=hGp.rn (i:=k) hkl;rw [Jl x1];exact (r.hn hk hl).1) hpk hpz hdp hup) fun x _=>?_;refine go ?_;intros;refine Dk Bc ?_
  refine go ?_;refine Fb (ys:=x.1.e.ys) fun _ w4=>?_;refine Fb (ys:=x.1.r.ys) fun _ w5=>?_;refine Fb (ys:=x.1.d.ys) fun _ w6=>?_;refine Fb (ys:=x.1.u.ys) fun _ w7=>?_;refine Az (E:=EC 2) (xs:=x.1.e.ys) fun _=>?_;refine Az (E:=EC 5) (xs:=x.1.r.ys) fun _=>?_;refine Az (E:=EC 1) (xs:=x.1.d.ys) fun _=>?_;refine Az (E:=EC 1) (xs:=x.1.u.ys) fun _=>?_
  refine Xo (Ou (Lv n i) i P) (l:=n.Ao.Ad) (N:=n.Ao.Ad.length) (congrArg Oc.Ad (P4 (htk0.trans htk))) rfl (Av.1 hgm).l w4 w5 w6 w7 (a1:=w.a1) (c1:=w.c1) (a2:=x.2.a) (c2:=x.2.c) (a3:=x.2.a2) (c3:=x.2.c2) (a4:=y.a4) (c4:=y.c4) (a5:=y.a5) (c5:=y.c5) (a6:=y.a6) (c6:=y.c6) (a7:=y.a7) (c7:=y.c7) fun FN=>?_;exact CI
 by_cases k6:s.Bd=6
 ·have hu:Q7 s=true:=by unfold Q7;rw [au k6,fW]
  have hq:∀h:i < n.up.length,Qu n s=n.up[i]:=fun h=>by unfold Qu;rw [hu,ar rfl,hi,ba];exact N2 h []
  have hpo:Do n s=Lv n i:=HT
  refine go ?_;refine Dm rfl rfl (fun g5=>?_) (fun g5=>?_)
  ·exact absurd g5 EM
  refine go ?_;refine Bf rfl (fun g6=>?_) (fun g6=>?_)
  rotate_left
  ·exact absurd k6 g6
  refine go ?_;refine Dm rfl rfl (fun h6=>?_) (fun h6=>?_)
  ·have e1:C4 n s=none:=by unfold C4;rw [ar EM]
   exact BC
  have hil:i < n.up.length:=EM
  have hq:=hq hil;refine Fb (ys:=yu) fun hm hlr=>?_;refine Aef (ys:=yu) (xs:=n.up) i hm EM EM fun h9 _ Gq=>?_;refine Aal (x:=n.up[i]) fun a9 c9 e9 l9=>?_;have e10:yu[i]=[.slice a9 n.up[i].length c9]:=IV
  refine Qq (E:=EC 1) (xs:=yu) (m:=1) (Hj 1) i ?_ EP rfl h9;rintro _ gq Aq cs Bq ea j2 j3 hHq;rw [ea];obtain ⟨j4, -, -⟩:=j3 w0;rw [e10] at j4;subst j4;refine go ?_;refine Bf rfl (fun h7=>?_) (fun h7=>?_)
  ·have e1:C4 n s=none:=HV
   exact BC
  have h0:0 < n.up[i].length:=EM
  refine N0 (xs:=n.up[i]) 0 ?_;rintro hi3 b3 o3 e3 s3;rw [e3];refine go ?_;intros;refine As [2,17] [10] ?_;refine D7 0 1 2 3 ?_;refine D7 4 5 6 7 ?_;refine dN 8 ?_;refine sld 1 fun a8 c8 F8=>?_;refine dk ?_;refine dt 9 ?_;refine dN 10 ?_;refine oS ?_;refine Pg ?_;refine dd ?_;refine Pf (E:=EC 1) (xs:=yu) [.slice a8 (n.up[i].drop 1).length c8] hHq (fun _=>⟨rfl,⟨rfl,EW⟩,rfl⟩) ?_;refine X0 (E:=Ap) (x:=n.up[i].drop 1) EN ?_;refine P3 (E:=Nr Ap EN) (ys:=yu) (xs:=n.up) (x:=n.up[i].drop 1) i rfl hm EM fun Gv=>?_
  rw [<-ea,show n.up.set i (n.up[i].drop 1)=(Lv n i).up from (Hk EM).symm];have hmem:=N5 h0;have hpk:Bh (Lu n.up[i])=true:=Kj (hq▸(Lw (s:=s) g1).1) hmem;have hpz:(Lu n.up[i]).data.size<=maxLen:=by
   exact BD
  have hgp:At (Lv n i)=true:=hpo▸Kr g1;have hGp:=Av.1 hgp;have hPg:=V8 h0;rw [<-hPg];generalize hP:Lu n.up[i]=P at *;have htk:C4 n s=some (Lv n i,[]):=by
   unfold C4;rw [aq EM,hq,aq EM,hpo,hP,hi,ba];rw [aq EM,aq EM]
  have hgm:=Kk g1 g2 (htk0.trans htk);rw [show Bo n s=(Lv n i,[],true) by unfold Bo;rw [g1,g2,htk0,htk];rfl];refine go ?_;refine Bf rfl (fun k2=>?_) (fun k2=>?_)
  ·exact absurd k2 EM
  refine go ?_;refine Bf rfl (fun m5=>?_) (fun m5=>?_)
  ·exact absurd m5 EM
  refine go ?_;intros;refine Dk Bc ?_;refine go ?_;refine Fb (ys:=ye) fun _ w4=>?_;refine Fb (ys:=yr) fun _ w5=>?_;refine Fb (ys:=yd) fun _ w6=>?_;refine Fb (ys:=(yu.set i [.slice a8 (n.up[i].drop 1).length c8])) fun _ w7=>?_;refine Az (E:=EC 2) (xs:=ye) fun _=>?_;refine Az (E:=EC 5) (xs:=yr) fun _=>?_;refine Az (E:=EC 1) (xs:=yd) fun _=>?_;refine Az (E:=EC 1) (xs:=(yu.set i [.slice a8 (n.up[i].drop 1).length c8])) fun _=>?_
  refine Xo (Lv n i) (l:=n.Ao.Ad) (N:=n.Ao.Ad.length) rfl rfl (Av.1 hgm).l w4 w5 w6 w7 (a1:=w.a1) (c1:=w.c1) (a2:=w.s.a) (c2:=w.s.c) (a3:=w.s.a2) (c3:=w.s.c2) (a4:=y.a4) (c4:=y.c4) (a5:=y.a5) (c5:=y.c5) (a6:=y.a6) (c6:=y.c6) (a7:=y.a7) (c7:=y.c7) fun FN=>?_;exact CI
 have hu:Q7 s=false:=by unfold Q7;rw [ay k5,ay k6];rfl
 have hq:∀h:i < n.down.length,Qu n s=n.down[i]:=fun h=>by unfold Qu;rw [hu,aq EN,hi,ba];exact N2 h []
 have hpo:Do n s=Mg n i:=by unfold Do;rw [hu,aq EN,hi,ba]
 refine go ?_;refine Dm rfl rfl (fun g5=>?_) (fun g5=>?_)
 ·exact absurd g5 k5
 refine go ?_;refine Bf rfl (fun g6=>?_) (fun g6=>?_)
 ·exact absurd g6 k6
 refine go ?_;refine Dm rfl rfl (fun h6=>?_) (fun h6=>?_)
 ·have e1:C4 n s=none:=by unfold C4;rw [ar EM]
  exact BC
 have hil:i < n.down.length:=EM
 have hq:=hq hil;refine Fb (ys:=yd) fun hm hlr=>?_;refine Aef (ys:=yd) (xs:=n.down) i hm EM EM fun h9 _ Gq=>?_;refine Aal (x:=n.down[i]) fun a9 c9 e9 l9=>?_;have e10:yd[i]=[.slice a9 n.down[i].length c9]:=IV
 refine Qq (E:=EC 1) (xs:=yd) (m:=1) (Hj 1) i ?_ EP rfl h9;rintro _ gq Aq cs Bq ea j2 j3 hHq;rw [ea];obtain ⟨j4, -, -⟩:=j3 w0;rw [e10] at j4;subst j4;refine go ?_;refine Bf rfl (fun h7=>?_) (fun h7=>?_)
 ·have e1:C4 n s=none:=HV
  exact BC
 have h0:0 < n.down[i].length:=EM
 refine N0 (xs:=n.down[i]) 0 ?_;rintro hi3 b3 o3 e3 s3;rw [e3];refine go ?_;intros;refine As [2,17] [10] ?_;refine D7 0 1 2 3 ?_;refine D7 4 5 6 7 ?_;refine dN 8 ?_;refine sld 1 fun a8 c8 F8=>?_;refine dk ?_;refine dt 9 ?_;refine dN 10 ?_;refine oS ?_;refine Pg ?_;refine dd ?_;refine Pf (E:=EC 1) (xs:=yd) [.slice a8 (n.down[i].drop 1).length c8] hHq (fun _=>⟨rfl,⟨rfl,EW⟩,rfl⟩) ?_;refine X0 (E:=Ap) (x:=n.down[i].drop 1) EN ?_;refine P3 (E:=Nr Ap EN) (ys:=yd) (xs:=n.down) (x:=n.down[i].drop 1) i rfl hm EM fun Gv=>?_
 rw [<-ea,show n.down.set i (n.down[i].drop 1)=(Mg n i).down from (Hk EM).symm];have hmem:=N5 h0;have hpk:Bh (Lu n.down[i])=true:=Kj (hq▸(Lw (s:=s) g1).1) hmem;have hpz:(Lu n.down[i]).data.size<=maxLen:=by
  exact BD
 have hgp:At (Mg n i)=true:=hpo▸Kr g1;have hGp:=Av.1 hgp;have hPg:=V8 h0;rw [<-hPg];generalize hP:Lu n.down[i]=P at *;have htk:C4 n s=if s.Bd=2 then some (C1 (Mg n i) i P) else some (Mg n i,[]):=by
  unfold C4;rw [aq EM,hq,aq EM,hpo,hP,hi,ba]
  split
  ·rfl
  ·first|rfl|rw [aq k5]
 have hdp:∀q∈(Mg n i).down,q.length<=6:=fun q hq=>(Ga ((Mk hgp).2.2.1 q hq)).1;refine go ?_;refine Bf rfl (fun k2=>?_) (fun k2=>?_)
 ·rw [ar k2] at htk;have hgm:=Kk g1 g2 (htk0.trans htk);rw [show Bo n s=((C1 (Mg n i) i P).1,(C1 (Mg n i) i P).2,true) by unfold Bo;rw [g1,g2,htk0,htk];rfl];refine go ?_;have hls:(C1 (Mg n i) i P).1.Ac=n.Ac:=by unfold C1;split <;> rfl
  refine As [4,8,20] [] ?_;refine D7 0 1 2 3 ?_;refine dt 4 ?_;refine dN 5 ?_;refine oC ?_
  refine Bw (Ahm (Mg n i) i P w.a1 w.c1 y.a4 y.c4 y.a5 y.c5 y.a6 y.c6 y.a7 y.c7 w.s.a w.s.a2 n.Ac.Aa.An.length w.s.c n.Ac.holds.length w.s.c2 _ _ _ _ Ft ⟨⟨ye,Fe,He⟩,⟨yr,Fr,Hr⟩,⟨yd.set i [.slice a8 (n.down[i].drop 1).length c8],[gq],Gv⟩,⟨yu,Fu,Hu⟩⟩ FT hGp.l HR EM (Ev hGp.t) (fun hl=>by obtain ⟨x1,x2,x3,x4,r⟩:=hGp.rn (i:=i) HR;rw [Iq x2];exact (r.hf i0 hl).2.1) (fun hl=>by obtain ⟨x1,x2,x3,x4,r⟩:=hGp.rn (i:=i) HR;rw [Jl x1];exact (r.hn i0 hl).1) hpk hpz hdp) fun x _=>?_;refine dk ?_
  refine dN 6 ?_;refine oS ?_;refine dk ?_;refine Ek 7 8 ?_;refine dd ?_;refine go ?_;rw [<-hls];refine Fb (ys:=x.1.e.ys) fun _ w4=>?_;refine Fb (ys:=x.1.r.ys) fun _ w5=>?_;refine Fb (ys:=x.1.d.ys) fun _ w6=>?_;refine Fb (ys:=x.1.u.ys) fun _ w7=>?_;refine Az (E:=EC 2) (xs:=x.1.e.ys) fun _=>?_;refine Az (E:=EC 5) (xs:=x.1.r.ys) fun _=>?_;refine Az (E:=EC 1) (xs:=x.1.d.ys) fun _=>?_;refine Az (E:=EC 1) (xs:=x.1.u.ys) fun _=>?_
  refine Xo ((C1 (Mg n i) i P).1) (l:=n.Ao.Ad) (N:=n.Ao.Ad.length) (congrArg Oc.Ad (P4 (htk0.trans htk))) rfl (Av.1 hgm).l w4 w5 w6 w7 (a1:=w.a1) (c1:=w.c1) (a2:=w.s.a) (c2:=w.s.c) (a3:=w.s.a2) (c3:=w.s.c2) (a4:=y.a4) (c4:=y.c4) (a5:=y.a5) (c5:=y.c5) (a6:=y.a6) (c6:=y.c6) (a7:=y.a7) (c7:=y.c7) fun FN=>?_;refine ret (⟨_,FN,x.2.a,x.2.c,x.2.F⟩:Wx) trivial rfl
 ·rw [aq k2] at htk;have hgm:=Kk g1 g2 (htk0.trans htk);rw [show Bo n s=(Mg n i,[],true) by unfold Bo;rw [g1,g2,htk0,htk];rfl];refine go ?_;refine Bf rfl (fun m5=>?_) (fun m5=>?_)
  ·exact absurd m5 k5
  refine go ?_;intros;refine Dk Bc ?_;refine go ?_;refine Fb (ys:=ye) fun _ w4=>?_;refine Fb (ys:=yr) fun _ w5=>?_;refine Fb (ys:=(yd.set i [.slice a8 (n.down[i].drop 1).length c8])) fun _ w6=>?_;refine Fb (ys:=yu) fun _ w7=>?_;refine Az (E:=EC 2) (xs:=ye) fun _=>?_;refine Az (E:=EC 5) (xs:=yr) fun _=>?_;refine Az (E:=EC 1) (xs:=(yd.set i [.slice a8 (n.down[i].drop 1).length c8])) fun _=>?_;refine Az (E:=EC 1) (xs:=yu) fun _=>?_
  refine Xo (Mg n i) (l:=n.Ao.Ad) (N:=n.Ao.Ad.length) rfl rfl (Av.1 hgm).l w4 w5 w6 w7 (a1:=w.a1) (c1:=w.c1) (a2:=w.s.a) (c2:=w.s.c) (a3:=w.s.a2) (c3:=w.s.c2) (a4:=y.a4) (c4:=y.c4) (a5:=y.a5) (c5:=y.c5) (a6:=y.a6) (c6:=y.c6) (a7:=y.a7) (c7:=y.c7) fun FN=>?_;exact CI
theorem Akn (v v2:Value) (xs:ah) (F F2:ak):FV 9 [v,v2] [.sl Bc v xs F,.sl Bc v2 xs F2] (.bool true):=by
 refine enter func9 rfl ntmps9 fun w0=>?_;refine Th (v:=v) (xs:=xs) (F:=F) ?_;rintro a c rfl l1 l2;refine Th (v:=v2) (xs:=xs) (F:=F2) ?_;rintro a2 c2 rfl l3 l4;refine go ?_;refine Bf rfl (fun h=>?_) (fun h=>?_)
 ·exact absurd rfl h
 refine go ?_;refine Ei [0,1,4] (fun k:Nat=>[(5,aa k)]) (fun k=>k<=xs.length) (fun k=>xs.length - k) 0 (aD _) fun k hk=>?_;refine go ?_;refine Bf rfl (fun h3=>?_) (fun h3=>?_)
 ·have hk3:k < xs.length:=EM
  refine Xk (a:=a) (xs:=xs) k ?_;rintro hi b o e s1;rw [e];refine Xk (a:=a2) (xs:=xs) k ?_;rintro hi2 b2 o2 e2 s2;rw [e2];refine Ke ?_;intros;refine As [0,1] [] ?_;refine D7 0 1 2 3 ?_;refine D7 4 5 6 7 ?_;refine dt 8 ?_;refine dd ?_;refine go ?_;refine Bf rfl (fun h4=>?_) (fun h4=>?_)
  ·exact absurd rfl h4
  refine go ?_;refine Cv (k+1) hk3 EM
 ·exact AB
theorem Az1 (v:Value) (Cd:al) (F:ak):FV 4 [v] [.sl Iy v Cd F] (.bool (decide (65536 < (Cd.length:Int)))):=by
 refine enter func4 rfl ntmps4 fun w0=>?_;refine Th (E:=Iy) ?_;rintro a c rfl l1 l2;exact AB
theorem Aqm (v v2:Value) (x:Ax) (F F2:ak):FV 78 [v,v2] [.isv Ci v x F,.isv Ci v2 x F2] (.bool true):=by
 refine enter func78 rfl ntmps78 fun w0=>?_;refine Eq (v:=v) (F:=F) ?_;rintro a1 c1 F1 rfl l1;refine Eq (v:=v2) (F:=F2) ?_;rintro a2 c2 F3 rfl l2;refine go ?_;intros;refine Dm rfl rfl (fun h1=>?_) (fun h1=>?_)
 ·refine go ?_;refine Dm rfl rfl (fun h2=>?_) (fun h2=>?_)
  ·refine go ?_;refine Bw (Akn _ _ x.An F1 F3) fun _ _=>?_;exact AB
  ·exact absurd rfl h2
 ·exact absurd rfl h1
theorem Apz (p:Ar) (w:World):(Op.equalIn 10000 103 (.agg #[aa p.Bd,aa p.Ab,aa p.Al,aa p.Cy,af p.data]) (.agg #[aa p.Bd,aa p.Ab,aa p.Al,aa p.Cy,af p.data])).run prog w=.ok true w:=by
 have u1:=underlying3;have u2:=underlying9;have hS:prog.underlying 103=some (.struct (prog.fieldsOf 103)):=ER
 rw [show (10000:Nat)=9999+1 from rfl,run_equalIn_agg w 9999 103 _ _ hS ER];have a1:=Tryz.isAgg3;have a2:=Tryz.isAgg9;simp only [Program.fieldsOf,underlying103]
 go_simp
theorem Akr {n:Nat} {fr:Fr} {H:List Pc} {x y:Operand} {ty t':TypeId} {p:Ar} (hx:ev fr x=some (.agg #[aa p.Bd,aa p.Ab,aa p.Al,aa p.Cy,af p.data])) (hy:ev fr y=some (.agg #[aa p.Bd,aa p.Ab,aa p.Al,aa p.Cy,af p.data])):Yd prog n fr H (.binOp .neq 103 x y t') ty (.bool false):=.mk fun c w d pos A8 gd hA _=>by
 have h2:(eqGuard .neq 103 x y (.agg #[aa p.Bd,aa p.Ab,aa p.Al,aa p.Cy,af p.data]) (.agg #[aa p.Bd,aa p.Ab,aa p.Al,aa p.Cy,af p.data])).run prog w=.ok () w:=run_eqGuard_agg w _ _ _ _ _ _ ER;simp only [execOp,hA.ev hx,hA.ev hy,Sem.run_bind,h2,Result.andThen_ok,run_neq_struct,Apz,Sem.run_pure];rfl
theorem Avy (s:Hm) (w:World):(Op.equalIn 10000 130 (.agg #[aa s.Ab,aa s.Bl]) (.agg #[aa s.Ab,aa s.Bl])).run prog w=.ok true w:=by
 have u0:=underlying3;have a0:=Tryz.isAgg3;have hS:prog.underlying 130=some (.struct (prog.fieldsOf 130)):=ER
 rw [show (10000:Nat)=9999+1 from rfl,run_equalIn_agg w 9999 130 _ _ hS ER];simp only [Program.fieldsOf,underlying130]
 go_simp
theorem Aqs {n:Nat} {fr:Fr} {H:List Pc} {x y:Operand} {ty t':TypeId} {s:Hm} (hx:ev fr x=some (.agg #[aa s.Ab,aa s.Bl])) (hy:ev fr y=some (.agg #[aa s.Ab,aa s.Bl])):Yd prog n fr H (.binOp .neq 130 x y t') ty (.bool false):=.mk fun c w d pos A8 gd hA _=>by
 have h2:(eqGuard .neq 130 x y (.agg #[aa s.Ab,aa s.Bl]) (.agg #[aa s.Ab,aa s.Bl])).run prog w=.ok () w:=run_eqGuard_agg w _ _ _ _ _ _ ER;simp only [execOp,hA.ev hx,hA.ev hy,Sem.run_bind,h2,Result.andThen_ok,run_neq_struct,Avy,Sem.run_pure];rfl
theorem Aql (v v2:Value) (x:Cc) (F F2:ak):FV 28 [v,v2] [.isv El v x F,.isv El v2 x F2] (.bool true):=by
 refine enter func28 rfl ntmps28 fun w0=>?_;refine Gh (v:=v) (x:=x) (F:=F) ?_;rintro a1 c1 F3 a2 c2 F4 rfl l1 l2;unfold maxLen at l1 l2;refine Co x.Aa (a1:=a1) ?_;generalize F3=F5;refine Gh (v:=v2) (x:=x) (F:=F2) ?_;rintro a3 c3 F6 a4 c4 F7 rfl l3 l4;refine Co x.Aa (a1:=a3) ?_;generalize F6=F8;refine go ?_;intros;refine Bw (Aqm _ _ x.Aa F5 F8) fun _ _=>?_;refine go ?_;refine Dm rfl rfl (fun h=>?_) (fun h=>?_)
 ·exact absurd rfl h
 refine go ?_;refine Dm rfl rfl (fun h2=>?_) (fun h2=>?_)
 ·exact absurd rfl h2
 refine go ?_;refine Bf rfl (fun h3=>?_) (fun h3=>?_)
 ·exact absurd rfl h3
 refine go ?_;refine Ei [2,3,4] (fun k:Nat=>[(5,aa k)]) (fun k=>k<=x.holds.length) (fun k=>x.holds.length - k) 0 (aD _) fun k hk=>?_;refine go ?_;refine Bf rfl (fun h4=>?_) (fun h4=>?_)
 ·have hk3:k < x.holds.length:=EM
  refine Tb (a:=a2) (xs:=x.holds) k ?_;rintro hi b o e;rw [e];refine Tb (a:=a4) (xs:=x.holds) k ?_;rintro hi2 b2 o2 e2;rw [e2];refine Ke ?_;intros;refine As [0,1,2,3] [] ?_;refine D7 0 1 2 3 ?_;refine D7 4 5 6 7 ?_;refine Ek 8 9 ?_;refine dt 10 ?_ (hy:=Aqs rfl rfl);exact AY
 ·exact AB
theorem Aew (a a2:ai) (c c2:Nat) (xs:List Ar) (F F2:ak) (hl:xs.length<=1000000000):FV 31 [ab a xs.length c,ab a2 xs.length c2] [.sl Ap (ab a xs.length c) xs F,.sl Ap (ab a2 xs.length c2) xs F2] (.bool true):=by
 refine enter func31 rfl ntmps31 fun w0=>?_;refine go ?_;refine Bf rfl (fun h2=>?_) (fun h2=>?_)
 ·exact absurd rfl h2
 refine go ?_;refine Ei [0,1,4] (fun k:Nat=>[(5,aa k)]) (fun k=>k<=xs.length) (fun k=>xs.length - k) 0 (aD _) fun k hk=>?_;refine go ?_;refine Bf rfl (fun h3=>?_) (fun h3=>?_)
 ·have hk3:k < xs.length:=EM
  refine N0 (a:=a) (xs:=xs) k ?_;rintro hi b o e s1;rw [e];refine N0 (a:=a2) (xs:=xs) k ?_;rintro hi2 b2 o2 e2 s2;rw [e2];refine Ke ?_;intros;refine As [0,1] [] ?_;refine D7 0 1 2 3 ?_;refine D7 4 5 6 7 ?_;refine dt 8 ?_ (hy:=Akr rfl rfl);exact AY
 ·exact AB
structure SwS where
 y:Ax
 a:ai
 c:Nat
 F:ak
 s:Rh
structure SwL where
 y:Ax
 i:Nat
 a:ai
 c:Nat
 F:ak
 s:Rh
structure Bb1 (B r0:Nat) (z:SwL):Prop where
 l:z.y.An.length+z.i=r0
 s:Ih (B+8+50 * z.y.An.length) z.s
theorem Ahy (B g:Nat) (F:CuF) (s:Rh) (ok:Ih B s) (hB:B<=800000000000) :
  Fn prog 100 [Fv g 0 0] [.sl Iy (ab F.a F.Cd.length F.c) F.Cd F.bs] [.row g 60 0 [] [ab F.a F.Cd.length F.c,aa (s.k:Nat),.int .u64 s.Ic] []] (fun (z:SwS)=>z.y.An.length<=7/\Ih (B+1000) z.s) (fun s=>.agg #[aa s.y.Al,aa s.y.size,ab s.a s.y.An.length s.c])
   (fun s=>[.isv Ci (.agg #[aa s.y.Al,aa s.y.size,ab s.a s.y.An.length s.c]) s.y s.F,.row g 60 0 [] [ab F.a F.Cd.length F.c,aa (s.s.k:Nat),.int .u64 s.s.Ic] []]):=by
 refine enter func100 rfl ntmps100 fun w0=>?_;refine B4 Bc 9 ?_;refine go ?_;intros;refine Bw (Ub B g F s ok EM) fun n hn=>?_;obtain ⟨hn1,hn2⟩:=hn;refine go ?_;refine Bw (Ex (B+4) g F 6 n.2 hn2 EM EM) fun y hy=>?_;obtain ⟨r1,s1⟩:=y;obtain ⟨hy1,hy2⟩:=hy;dsimp only at hy1 hy2 ⊢;have hr1:r1<=5:=EM
 refine go ?_;intros;rename_i gg;refine Bw (Ex _ g F (1+(r1:Int)+1) s1 hy2 EM EM) fun y hy=>?_;obtain ⟨r0,s2⟩:=y;obtain ⟨hz1,hz2⟩:=hy;dsimp only at hz1 hz2 ⊢;have hr0:r0<=6:=EM
 refine go ?_;refine Cu [0,2,3] (fun z:SwL=>[(4,aa (z.i:Nat))]) (fun z=>[.row gg 29 0 [] [aa z.y.Al,aa z.y.size,ab z.a z.y.An.length z.c] [],.ow Bc 9 (ab z.a z.y.An.length z.c) z.y.An z.F,.row g 60 0 [] [ab F.a F.Cd.length F.c,aa (z.s.k:Nat),.int .u64 z.s.Ic] []]) (Bb1 B r0) (fun z=>z.i) ⟨⟨n.1,1+(r1:Int),[]⟩,r0,none,0,[],s2⟩ ⟨EO,hz2.mono (by show _<=B+8+50 * 0;omega)⟩ fun z hz=>?_;obtain ⟨z1,z3⟩:=hz;refine go ?_;refine Bf rfl (fun h2=>?_) (fun h2=>?_)
 ·refine Ke ?_;intros;refine As [0] [7] ?_;refine Ek 0 1 ?_;refine dt 2 ?_;refine dN 3 ?_;refine oC ?_;refine Bw (Rs _ g F z.s 4 z3 EM EM EM) fun l hl=>?_;obtain ⟨hl1,hl2⟩:=hl;have hl3:l.1.size<=maxLen:=FG
  refine dk ?_;refine dN 4 ?_;apply In;rfl;rfl;rfl;rfl;exact Ik;exact Ie;intro _;refine dk ?_;refine dN 5 ?_;refine No (Anh hl3) Ej fun a9 c9 F9=>?_;refine dk ?_;refine dt 6 ?_;refine dN 7 ?_;refine oS ?_;refine Pg ?_;refine dd ?_;refine go ?_;rw [show ((z.i:Nat):Int) - 1=((z.i - 1:Nat):Int) by omega]
  refine Cv ⟨⟨z.y.Al,z.y.size,z.y.An++[l.1]⟩,z.i - 1,a9,c9,F9,l.2⟩ ⟨by show (z.y.An++[l.1]).length+(z.i - 1)=r0;rw [aw];simp only [aK,aV];omega,hl2.mono (by show _<=B+8+50 * (z.y.An++[l.1]).length;rw [aw];simp only [aK,aV];omega)⟩ (by show z.i - 1 < _;omega)
 ·have hl7:z.y.An.length<=6:=EM
  refine go ?_;refine Bw (Ex _ g F 24 z.s z3 EM EM) fun p hp=>?_;obtain ⟨r,s3⟩:=p;obtain ⟨-,hp⟩:=hp;dsimp only at hp ⊢;refine go ?_;refine Bf rfl (fun e0=>?_) (fun e0=>?_)
  ·refine go ?_;refine Bw (Sv _ g F s3 hp EM) fun q hq=>?_;refine go ?_;refine Az (E:=Bc) (xs:=z.y.An) fun F8=>?_;refine Co ⟨q.1,z.y.size,z.y.An⟩ ?_;refine ret ⟨⟨q.1,z.y.size,z.y.An⟩,_,_,_,q.2⟩ ⟨by show z.y.An.length<=7;omega,hq.mono EM⟩ rfl
  refine go ?_;refine Bf rfl (fun e1=>?_) (fun e1=>?_)
  ·refine Ke ?_;intros;refine Eo (xs:=[0,7,6]) (fun w=>Jm w _) ?_ EN;refine Az (E:=Bi) fun G=>?_;refine go ?_;refine Bw (Mt _ g F _ [0,7,6] G s3 hp EM EN EN) fun q hq=>?_;refine go ?_;refine Az (E:=Bc) (xs:=z.y.An) fun F8=>?_;refine Co ⟨z.y.Al,q.1,z.y.An⟩ ?_;refine ret ⟨⟨z.y.Al,q.1,z.y.An⟩,_,_,_,q.2⟩ ⟨by show z.y.An.length<=7;omega,hq.2.mono EM⟩ rfl
  refine go ?_;refine Bf rfl (fun e2=>?_) (fun e2=>?_)
  ·refine Ke ?_;intros;refine As [1] [8] ?_;refine Ek 0 1 ?_;refine dt 2 ?_;refine dN 3 ?_;apply In;rfl;rfl;rfl;rfl;exact Ik;exact Ie;intro _;refine Eo (xs:=[⟨#[65]⟩,⟨#[97,98,99,100,101,102,103,104]⟩,⟨#[97,98,99,100,101,102,103,104,105]⟩,⟨#[]⟩]) (fun w=>Adf w _ EN) ?_ EN;refine Az (E:=Bc) fun G=>?_;refine dk ?_;refine dN 4 ?_;refine oC ?_;refine Bw (Awh _ g F _ [⟨#[65]⟩,⟨#[97,98,99,100,101,102,103,104]⟩,⟨#[97,98,99,100,101,102,103,104,105]⟩,⟨#[]⟩] _ s3 hp EM EN EN) fun q2 hq2=>?_
   have hq3:q2.1.size<=maxLen:=by have:=hq2.1;simp only [aF,aM,bn] at this;rcases this with e|e|e|e <;> rw [e] <;> decide
   refine dk ?_;refine dN 5 ?_;apply In;rfl;rfl;rfl;rfl;exact Ik;exact Ie;intro _;refine dk ?_;refine dN 6 ?_;refine No (Anh hq3) Ej fun a9 c9 F9=>?_;refine dk ?_;refine dt 7 ?_;refine dN 8 ?_;refine oS ?_;refine Pg ?_;refine dd ?_;refine go ?_;refine Az (E:=Bc) (xs:=z.y.An++[q2.1]) fun F8=>?_;refine Co ⟨z.y.Al,z.y.size,z.y.An++[q2.1]⟩ ?_;refine ret ⟨⟨z.y.Al,z.y.size,z.y.An++[q2.1]⟩,_,_,_,q2.2⟩ ⟨by show (z.y.An++[q2.1]).length<=7;rw [aw];simp only [aK,aV];omega,hq2.2.mono EM⟩ rfl
  refine go ?_;refine Az (E:=Bc) (xs:=z.y.An) fun F8=>?_;refine Co z.y ?_;refine ret ⟨z.y,_,_,_,s3⟩ ⟨by show z.y.An.length<=7;omega,hp.mono EM⟩ rfl
theorem Ao0 (B g:Nat) (F:CuF) (s:Rh) (x:Ax) (v:Value) (Fx:ak) (ok:Ih B s) (hB:B<=800000000000) (hl:x.An.length<=1000) :
  Fn prog 98 [Fv g 0 0,v] [.sl Iy (ab F.a F.Cd.length F.c) F.Cd F.bs,.isv Ci v x Fx] [.row g 60 0 [] [ab F.a F.Cd.length F.c,aa (s.k:Nat),.int .u64 s.Ic] []] (fun (z:Int × Rh)=>(-1<=z.1/\z.1<=65536)/\Ih (B+8) z.2) (fun z=>aa z.1) (fun z=>[.row g 60 0 [] [ab F.a F.Cd.length F.c,aa (z.2.k:Nat),.int .u64 z.2.Ic] []]):=by
 refine enter func98 rfl ntmps98 fun w0=>?_;refine Eq ?_;rintro a1 c1 F1 rfl l1;refine go ?_;intros;refine ce (fun w s=>N3 _ _) ?_;cases g1:Cm x.Al
 ·refine go ?_;refine Bw (Ul B g F s ok EM) fun z hz=>?_;refine go ?_;refine ret z ⟨hz.1,hz.2.mono EM⟩ rfl
 obtain ⟨n0,n1⟩:=Bb.1 g1;refine go ?_;refine Bw (As4 B g F 12 s ok EM EM) fun q hq=>?_;cases hb:q.1
 ·refine go ?_;refine As [1] [] ?_;refine D7 0 1 2 3 ?_;refine Ek 4 5 ?_;refine dt 6 ?_;refine dN 7 ?_;refine oC ?_;refine Bw (Ex _ g F ((x.An.length:Int)+3) q.2 hq.2 EM EM) fun y hy=>?_;obtain ⟨hy1,hy2⟩:=hy;refine dk ?_;refine dt 8 ?_;refine dN 9 ?_;refine oC ?_;refine ce (fun w s=>Hc _ _ _ EM EM) ?_;refine dk ?_;refine dt 10 ?_;refine dd ?_;refine go ?_;refine ret (_,y.2) ⟨by have:=Is x.Al ((y.1:Int) - 1);show -1<=A8 x.Al ((y.1:Int) - 1)/\A8 x.Al ((y.1:Int) - 1)<=65536;omega,hy2.mono EM⟩ rfl
 ·refine go ?_;refine Bw (Ul (B+2) g F q.2 hq.2 EM) fun z hz=>?_;refine go ?_;refine ret z hz rfl
structure SwN where
 y:Ax
 a:ai
 c:Nat
 F:ak
 n:Int
structure SwT where
 y:Ax
 a:ai
 c:Nat
 F:ak
 t:am
structure SwP where
 y:Ax
 a:ai
 c:Nat
 F:ak
 p:Ar
structure SwJ where
 y:Ax
 a:ai
 c:Nat
 F:ak
structure OkD (m:Nat) (y:Cc):Prop where
 t0:0<=y.Aa.Al
 t1:y.Aa.Al<=65535
 z0:1<=y.Aa.size
 z6:y.Aa.size<=6
 l:(y.Aa.An.length:Int)<=y.Aa.size
 it:∀s∈y.Aa.An,s.size<=maxLen
 k0:0<=y.Ae
 km:y.Ae<=m
 q0:0<=y.quiet
 q3:y.quiet<=3
 h:y.holds.length<=m
 w:Xd y.holds
 mm:m<=100
theorem OkD.l6 {m y} (h:OkD m y):y.Aa.An.length<=6:=by have:=h.l;have:=h.z6;omega
theorem OkD.k1 {m y} (h:OkD m y):y.Ae<=99999:=by have:=h.km;have:=h.mm;omega
theorem OkD.h1 {m y} (h:OkD m y):y.holds.length<=900:=by have:=h.h;have:=h.mm;omega
theorem Aam (W:Ax) (cl:Int) (hs:List Hm):(Hx W cl hs).length<=hs.length:=bA _ _
theorem Ye {W:Ax} {cl:Int} {hs:List Hm} (h:Xd hs):Xd (Hx W cl hs):=fun z hz=>h z (aO.1 hz).1
theorem Aym {W:Ax} {p:Ar} (h:∀s∈W.An,s.size<=maxLen):(C9 W p).1.data.size<=maxLen:=by
 unfold C9
 split
 ·rename_i g;unfold Hh at g;simp only [av] at g;have hk:=Y9 g.2;show (Uu W p.Ab).size<=maxLen;rw [Tz hk];exact h _ (aE hk)
 ·decide
theorem Am8 {m y} (h:OkD m y) {s:am} (hs:s.size<=maxLen) (hm:m+1<=100:=by omega):OkD (m+1) (Pb y s):=by
 have hb:=P0 h.t0 h.t1;have hkl:=Aam (Dt y.Aa s) y.Ae y.holds;have:=h.km;have:=h.h;have hr:((Cw y.Aa).An.length:Int)+1<=y.Aa.size/\∀x∈(Cw y.Aa).An,x.size<=maxLen:=by
  have:=h.l;unfold Cw
  split
  ·exact ⟨by simp only [aU];have:=h.z0;omega,fun x hx=>h.it x (bj hx)⟩
  ·exact ⟨EM,h.it⟩
 refine ⟨hb.1,hb.2,h.z0,h.z6,?_,?_,h.k0,?_,by show (0:Int)<=0;omega,by show (0:Int)<=3;omega,?_,Ye h.w,hm⟩
 ·show (((Cw y.Aa).An++[s]).length:Int)<=y.Aa.size;simp only [aw,aK,aV];omega
 ·intro x hx;have hx:x∈(Cw y.Aa).An++[s]:=hx;simp only [aG,aF,aM,bn] at hx;rcases hx with hx|rfl
  ·exact hr.2 x hx
  ·exact hs
 ·show y.Ae<=((m+1:Nat):Int);omega
 ·show (Hx _ _ _).length<=m+1;omega
theorem Ay8 {m y} (h:OkD m y) {n:Int} (hn:-1<=n/\n<=65536) (hm:m+1<=100:=by omega):OkD (m+1) (Mx y n):=by
 have hkl:=Aam y.Aa y.Ae y.holds;have:=h.km;have:=h.h;unfold Mx
 split
 ·refine ⟨h.t0,h.t1,h.z0,h.z6,h.l,h.it,h.k0,by show y.Ae<=((m+1:Nat):Int);omega,h.q0,h.q3,?_,?_,hm⟩
  ·show (Il _ _ _).length<=m+1;unfold Il;simp;omega
  ·intro z hz;have hz:z∈Il y.holds (Fa y.Aa.Al y.holds n) ⟨n,y.Ae+3⟩:=hz;unfold Il at hz;simp only [aG,aF] at hz;rcases hz with hz|rfl|hz
   ·exact h.w z (bg hz)
   ·exact hn
   ·exact h.w z (bj hz)
 ·exact ⟨h.t0,h.t1,h.z0,h.z6,h.l,h.it,h.k0,by show y.Ae<=((m+1:Nat):Int);omega,h.q0,h.q3,by show (Hx _ _ _).length<=m+1;omega,Ye h.w,hm⟩
theorem Awj {m y} (h:OkD m y) (hm:m+1<=100:=by omega):OkD (m+1) (Mm y):=by
 have hkl:=Aam y.Aa (y.Ae+1) y.holds;have:=h.km;have:=h.h;have:=h.k0;have:=h.q0;have:=h.q3;refine ⟨h.t0,h.t1,h.z0,h.z6,h.l,h.it,by show 0<=y.Ae+1;omega,by show y.Ae+1<=((m+1:Nat):Int);omega,?_,?_,by show (Hx _ _ _).length<=m+1;omega,Ye h.w,hm⟩
 ·show 0<=L9 y.quiet;unfold L9;split <;> omega
 ·show L9 y.quiet<=3;unfold L9;split <;> omega
theorem Avu {f z:Int} (h0:0<=f) (h1:f<=65535) (z0:1<=z) (z6:z<=6):Ff f z=(⟨⟨f,z,[]⟩,0,0,[]⟩,true):=by
 have hg:Cj ⟨⟨f,z,[]⟩,0,0,[]⟩=true:=Dd.2 ⟨D0.2 ⟨⟨h0,h1⟩,⟨z0,z6⟩,ET,rfl⟩,rfl,rfl,EO,List.Pairwise.nil⟩;unfold Ff;rw [hg];rfl
structure SrD where
 y:Cc
 a:ai
 c:Nat
 a2:ai
 c2:Nat
 F:ak
 i:Nat
 s:Rh
theorem At1 (B g:Nat) (F:CuF) (s:Rh) (ok:Ih B s) (hB:B<=700000000000) :
  Fn prog 50 [Fv g 0 0] [.sl Iy (ab F.a F.Cd.length F.c) F.Cd F.bs] [.row g 60 0 [] [ab F.a F.Cd.length F.c,aa (s.k:Nat),.int .u64 s.Ic] []] (fun (z:SrD)=>z.y.Aa.An.length<=7/\z.y.holds.length<=20/\Ih (B+2000) z.s) (fun s=>.agg #[aa s.y.Aa.Al,aa s.y.Aa.size,ab s.a s.y.Aa.An.length s.c,aa s.y.Ae,aa s.y.quiet,ab s.a2 s.y.holds.length s.c2])
   (fun s=>[.isv El (.agg #[aa s.y.Aa.Al,aa s.y.Aa.size,ab s.a s.y.Aa.An.length s.c,aa s.y.Ae,aa s.y.quiet,ab s.a2 s.y.holds.length s.c2]) s.y s.F,.row g 60 0 [] [ab F.a F.Cd.length F.c,aa (s.s.k:Nat),.int .u64 s.s.Ic] []]):=by
 refine enter func50 rfl ntmps50 fun w0=>?_;refine go ?_;intros;refine Bw (Ub B g F s ok EM) fun n hn=>?_;obtain ⟨hn1,hn2⟩:=hn;refine go ?_;refine Bw (Ex (B+4) g F 6 n.2 hn2 EM EM) fun y hy=>?_;obtain ⟨r1,s1⟩:=y;obtain ⟨hy1,hy2⟩:=hy;dsimp only at hy1 hy2 ⊢;have hr1:r1<=5:=EM
 refine go ?_;refine Bw (Vn n.1 (1+(r1:Int))) fun F0 _=>?_;rw [Avu hn1.1 hn1.2 EM EM];refine go ?_;intros;rename_i gg;refine Bw (Ex _ g F 9 s1 hy2 EM EM) fun y hy=>?_;obtain ⟨r0,s2⟩:=y;obtain ⟨hz1,hz2⟩:=hy;dsimp only at hz1 hz2 ⊢;have hr0:r0<=8:=EM
 refine go ?_
 refine Cu [0,2,3] (fun z:SrD=>[(5,aa (z.i:Nat))]) (fun z=>[.row gg 32 0 [] [aa z.y.Aa.Al,aa z.y.Aa.size,ab z.a z.y.Aa.An.length z.c,aa z.y.Ae,aa z.y.quiet,ab z.a2 z.y.holds.length z.c2] [],.isv El (.agg #[aa z.y.Aa.Al,aa z.y.Aa.size,ab z.a z.y.Aa.An.length z.c,aa z.y.Ae,aa z.y.quiet,ab z.a2 z.y.holds.length z.c2]) z.y z.F,.row g 60 0 [] [ab F.a F.Cd.length F.c,aa (z.s.k:Nat),.int .u64 z.s.Ic] []]) (fun z=>OkD (r0 - z.i) z.y/\z.i<=r0/\Ih (B+20+50 * (r0 - z.i)) z.s) (fun z=>z.i) ⟨⟨⟨n.1,1+(r1:Int),[]⟩,0,0,[]⟩,none,0,none,0,F0,r0,s2⟩ ⟨⟨hn1.1,hn1.2,by show (1:Int)<=1+(r1:Int);omega,by show 1+(r1:Int)<=6;omega,by show ((0:Nat):Int)<=1+(r1:Int);omega,EO,by show (0:Int)<=0;omega,by show (0:Int)<=((r0 - r0:Nat):Int);omega,by show (0:Int)<=0;omega,by show (0:Int)<=3;omega,EO,by intro z hz;simp at hz,EM⟩,aA _,hz2.mono (by show _<=B+20+50 * (r0 - r0);omega)⟩ fun z hz=>?_
 obtain ⟨z1,z2,z3⟩:=hz;refine go ?_;refine Bf rfl (fun h2=>?_) (fun h2=>?_)
 ·have hi0:0 < z.i:=EM
  refine go ?_;refine Bw (Ex _ g F 4 z.s z3 EM EM) fun p hp=>?_;obtain ⟨r2,s4⟩:=p;obtain ⟨hr2,z3⟩:=hp;dsimp only at hr2 z3 ⊢;have hr4:r2=0\/r2=1\/r2=2\/r2=3:=EM
  rcases hr4 with rfl|rfl|rfl|rfl
  ·refine go ?_;refine As [1] [5,6,7] ?_;refine Ek 0 1 ?_;refine dN 2 ?_;refine oC ?_;refine Bw (Rs _ g F s4 3 z3 EM EM EM) fun l hl=>?_;obtain ⟨hl1,hl2⟩:=hl;have hl3:l.1.size<=maxLen:=FG
   exact AL
  ·refine go ?_;refine As [1] [5,6,7] ?_;refine Ek 0 1 ?_;refine dN 2 ?_;refine oC ?_;refine Bw (Rs _ g F s4 3 z3 EM EM EM) fun l hl=>?_;obtain ⟨hl1,hl2⟩:=hl;have hl3:l.1.size<=maxLen:=FG
   exact AL
  ·refine Gh (x:=z.y) (F:=z.F) ?_;rintro b1 d1 G1 b2 d2 G2 e5 m1 m2;simp only [Value.agg.injEq,Array.mk.injEq,List.cons.injEq,Value.slice.injEq,Value.int.injEq,cP,de] at e5;obtain ⟨⟨rfl,rfl⟩, -⟩:=e5;refine Co z.y.Aa (a1:=z.a) ?_;generalize G1=FW;refine go ?_;refine As [4] [8,9,10] ?_;refine D7 0 1 2 3 ?_;refine dN 4 ?_;refine oC ?_;refine Bw (Ao0 _ g F s4 z.y.Aa _ FW z3 EM (by have:=z1.l6;omega)) fun n hn=>?_;obtain ⟨hn1,hn2⟩:=hn;refine dk ?_;refine dt 5 ?_;refine dN 6 ?_;refine oC ?_
   refine Bw (W8 z.y ⟨3,n.1,0,0,⟨#[]⟩⟩ _ z.F z1.t0 z1.t1 z1.l6 z1.k0 z1.k1 z1.h1 z1.w hn1.1 hn1.2 GH (Aym z1.it)) fun q _=>?_;refine dk ?_;refine dt 7 ?_;refine Xn 8 ?_;refine Xn 9 ?_;refine dN 10 ?_;refine oS ?_;refine Pg ?_;refine dd ?_;refine go ?_;rw [show ((z.i:Nat):Int) - 1=((z.i - 1:Nat):Int) by omega];refine Cv ⟨Mx z.y n.1,q.a,q.c,q.a2,q.c2,q.F,z.i - 1,n.2⟩ ⟨by rw [show r0 - (z.i - 1)=r0 - z.i+1 by omega];exact Ay8 z1 hn1,JG,hn2.mono GR⟩ GO
  ·refine go ?_;refine Bw (Ado z.y _ z.F z1.t0 z1.t1 z1.l6 z1.k0 z1.k1 z1.q0 z1.q3 (by have:=z1.h1;omega) z1.w) fun q _=>?_;refine go ?_;rw [show ((z.i:Nat):Int) - 1=((z.i - 1:Nat):Int) by omega];refine Cv ⟨Mm z.y,q.a,q.c,q.a2,q.c2,q.F,z.i - 1,s4⟩ ⟨by rw [show r0 - (z.i - 1)=r0 - z.i+1 by omega];exact Awj z1,JG,z3.mono GR⟩ GO
 ·have hl7:=z1.l6;have hh7:=z1.h;refine go ?_;refine Bw (Ex _ g F 24 z.s z3 EM EM) fun p hp=>?_;obtain ⟨r,s3⟩:=p;obtain ⟨-,hp⟩:=hp;dsimp only at hp ⊢;refine Gh (x:=z.y) (F:=z.F) ?_;rintro b1 d1 G1 b2 d2 G2 e5 m1 m2;simp only [Value.agg.injEq,Array.mk.injEq,List.cons.injEq,Value.slice.injEq,Value.int.injEq,cP,de] at e5;obtain ⟨⟨rfl,rfl⟩,rfl,rfl⟩:=e5;refine go ?_;refine Bf rfl (fun e0=>?_) (fun e0=>?_)
  ·refine Ke ?_;intros;refine Eo (xs:=[-1,9999,10000]) (fun w=>Jm w _) ?_ EN;refine Az (E:=Bi) fun G=>?_;refine go ?_;refine Bw (Mt _ g F _ [-1,9999,10000] G s3 hp EM EN EN) fun q hq=>?_;refine go ?_;refine Ed ⟨z.y.Aa,q.1,z.y.quiet,z.y.holds⟩ (a1:=z.a) ?_;refine ret ⟨⟨z.y.Aa,q.1,z.y.quiet,z.y.holds⟩,_,_,_,_,_,0,q.2⟩ ⟨HU,JL,hq.2.mono EM⟩ rfl
  refine go ?_;refine Bf rfl (fun e1=>?_) (fun e1=>?_)
  ·refine Ke ?_;intros;refine Eo (xs:=[-1,3,4]) (fun w=>Jm w _) ?_ EN;refine Az (E:=Bi) fun G=>?_;refine go ?_;refine Bw (Mt _ g F _ [-1,3,4] G s3 hp EM EN EN) fun q hq=>?_;refine go ?_;refine Ed ⟨z.y.Aa,z.y.Ae,q.1,z.y.holds⟩ (a1:=z.a) ?_;refine ret ⟨⟨z.y.Aa,z.y.Ae,q.1,z.y.holds⟩,_,_,_,_,_,0,q.2⟩ ⟨HU,JL,hq.2.mono EM⟩ rfl
  refine go ?_;refine Bf rfl (fun e2=>?_) (fun e2=>?_)
  ·have hkm:=z1.km;have hk0:=z1.k0;refine Ke ?_;intros;refine As [3] [15] ?_;refine D7 1 2 4 6 ?_;refine Ek 7 8 ?_;refine dN 0 ?_;apply Lt;rfl;intro _;refine Dk Bx ?_;refine dk ?_;refine dN 3 ?_;refine M0 (ys:=z.y.holds) Iw Lc fun a7 c7 F7=>?_;rw [bb];refine dk ?_;refine dN 5 ?_;refine oC ?_;refine Bw (Sv _ g F s3 hp EM) fun q hq=>?_;refine dk ?_;refine dN 9 ?_;refine oC ?_;refine Bw (Ex _ g F 5 q.2 hq EM EM) fun r hr=>?_;obtain ⟨hr1,hr2⟩:=hr;refine dk ?_;refine Ek 10 11 ?_;refine dN 12 ?_;apply In;rfl;rfl;rfl;rfl;exact Ik;exact Ie;intro _;refine dk ?_
   refine dN 13 ?_;refine No (T9 ⟨q.1,z.y.Ae+(r.1:Nat)⟩) Iw fun a9 c9 F9=>?_;refine dk ?_;refine dt 14 ?_;refine dN 15 ?_;refine oS ?_;refine Pg ?_;refine dd ?_;refine go ?_;refine Az (E:=Bx) fun F8=>?_;refine Ed ⟨z.y.Aa,z.y.Ae,z.y.quiet,z.y.holds++[⟨q.1,z.y.Ae+(r.1:Nat)⟩]⟩ (a1:=z.a) ?_;refine ret ⟨⟨z.y.Aa,z.y.Ae,z.y.quiet,z.y.holds++[⟨q.1,z.y.Ae+(r.1:Nat)⟩]⟩,_,_,_,_,_,0,r.2⟩ ⟨HU,by show (z.y.holds++[_]).length<=20;simp;omega,hr2.mono EM⟩ rfl
  refine go ?_;refine Bf rfl (fun e3=>?_) (fun e3=>?_)
  ·refine go ?_;refine Bw (Ahy _ g F s3 hp EM) fun q hq=>?_;obtain ⟨hq1,hq2⟩:=hq;refine go ?_;refine Eq (x:=q.y) ?_;rintro b3 d3 G3 e6 m3;simp only [Value.agg.injEq,Array.mk.injEq,List.cons.injEq,Value.slice.injEq,Value.int.injEq,cP,de] at e6;obtain ⟨rfl,rfl⟩:=e6;refine Bn Bx EN ?_;refine Ed ⟨q.y,0,0,[]⟩ (a1:=q.a) ?_;refine ret ⟨⟨q.y,0,0,[]⟩,_,_,_,_,_,0,q.s⟩ ⟨by show q.y.An.length<=7;omega,by show ([]:List Hm).length<=20;simp,hq2.mono EM⟩ rfl
  ·refine go ?_;refine ret ⟨z.y,z.a,z.c,z.a2,z.c2,z.F,0,s3⟩ ⟨HU,JL,hp.mono EM⟩ rfl
structure OkE (m:Nat) (y:Bg):Prop where
 k0:0<=y.Ae
 k1:y.Ae<=30+m
 l:y.Af.length<=m
 f:∀x∈y.Af,x.Bp.length<=m
 mm:m<=100
theorem As2 {m y} (h:OkE m y) (hm:m+1<=100:=by omega):OkE (m+1) (Cn y):=by
 have:=h.k0;have:=h.k1;have hl:=bA (fun x:Et=>!decide (x.Bl<=y.Ae+1)) y.Af;exact ⟨by show 0<=y.Ae+1;omega,by show y.Ae+1<=30+((m+1:Nat):Int);omega,by show (y.Af.filter _).length<=_;have:=h.l;omega,fun x hx=>by have:=h.f x (aO.1 hx).1;omega,hm⟩
theorem Awi {m y} (h:OkE m y) {n f:Int} (hm:m+1<=100:=by omega):OkE (m+1) (Ka y n f):=by
 have:=h.k0;have:=h.k1;have hl:=h.l;have hf:∀x∈y.Af,x.Bp.length<=m+1:=fun x hx=>by have:=h.f x hx;omega
 unfold Ka
 split
 ·rename_i x hx;refine ⟨h.k0,JA,by show (y.Af.set _ _).length<=m+1;rw [bw];omega,fun z hz=>?_,hm⟩;rcases bq hz with h'|rfl
  ·exact hf z h'
  ·have:=h.f x (bM hx);have:=Ata x.Bp f;show (Px x.Bp f).length<=m+1;omega
 ·split
  ·refine ⟨h.k0,JA,by show (y.Af++[_]).length<=m+1;simp;omega,fun z hz=>?_,hm⟩;rcases aG.1 hz with h'|h'
   ·exact hf z h'
   ·simp at h';subst h';simp
  ·exact ⟨h.k0,JA,EM,hf,hm⟩
structure ElD where
 y:Bg
 a:ai
 c:Nat
 F:ak
 i:Nat
 s:Rh
theorem Alb (B g:Nat) (F:CuF) (s:Rh) (ok:Ih B s) (hB:B<=700000000000) :
  Fn prog 52 [Fv g 0 0] [.sl Iy (ab F.a F.Cd.length F.c) F.Cd F.bs] [.row g 60 0 [] [ab F.a F.Cd.length F.c,aa (s.k:Nat),.int .u64 s.Ic] []] (fun (z:ElD)=>z.y.Af.length<=1000/\(∀x∈z.y.Af,x.Bp.length<=1000)/\Ih (B+2000) z.s) (fun s=>.agg #[aa s.y.Ae,ab s.a s.y.Af.length s.c])
   (fun s=>[.isv B9 (.agg #[aa s.y.Ae,ab s.a s.y.Af.length s.c]) s.y s.F,.row g 60 0 [] [ab F.a F.Cd.length F.c,aa (s.s.k:Nat),.int .u64 s.s.Ic] []]):=by
 refine enter func52 rfl ntmps52 fun w0=>?_;refine go ?_;intros;refine Bw (Ex B g F 30 s ok EM EM) fun y hy=>?_;obtain ⟨r1,s1⟩:=y;obtain ⟨hy1,hy2⟩:=hy;dsimp only at hy1 hy2 ⊢;have hr1:r1<=29:=EM
 refine go ?_;intros;rename_i gg;refine Bw (Ub _ g F s1 hy2 EM) fun n hn=>?_;obtain ⟨hn1,hn2⟩:=hn;refine go ?_;refine Bw (Ex _ g F 10 n.2 hn2 EM EM) fun y hy=>?_;obtain ⟨r0,s2⟩:=y;obtain ⟨hz1,hz2⟩:=hy;dsimp only at hz1 hz2 ⊢;have hr0:r0<=9:=EM
 refine Bn Eg EN ?_;refine Gk ⟨(r1:Int),[]⟩ ?_;refine go ?_
 refine Cu [0,2,3,4] (fun z:ElD=>[(5,aa (z.i:Nat))]) (fun z=>[.row gg 76 0 [] [aa z.y.Ae,ab z.a z.y.Af.length z.c] [],.isv B9 (.agg #[aa z.y.Ae,ab z.a z.y.Af.length z.c]) z.y z.F,.row g 60 0 [] [ab F.a F.Cd.length F.c,aa (z.s.k:Nat),.int .u64 z.s.Ic] []]) (fun z=>OkE (r0 - z.i) z.y/\z.i<=r0/\Ih (B+20+50 * (r0 - z.i)) z.s) (fun z=>z.i) ⟨⟨(r1:Int),[]⟩,none,0,[],r0,s2⟩ ⟨⟨by show (0:Int)<=(r1:Int);omega,by show (r1:Int)<=_;omega,EO,EO,EM⟩,aA _,hz2.mono (by show _<=B+20+50 * (r0 - r0);omega)⟩ fun z hz=>?_;obtain ⟨z1,z2,z3⟩:=hz;refine go ?_
 refine Bf rfl (fun h2=>?_) (fun h2=>?_)
 ·have hi0:0 < z.i:=EM
  refine go ?_;refine Bw (As4 _ g F 5 z.s z3 EM EM) fun p hp=>?_;obtain ⟨b4,s4⟩:=p;obtain ⟨-,z4⟩:=hp;dsimp only at z4 ⊢;cases b4
  ·refine go ?_;refine As [1] [10,11,12] ?_;refine D7 0 1 2 5 ?_;refine dN 3 ?_;refine oC ?_;refine Bw (Ex _ g F 6 s4 z4 EM EM) fun p hp=>?_;obtain ⟨p1,p2⟩:=hp;refine dk ?_;refine dN 4 ?_;refine oC ?_;refine ce (fun w s=>Hc _ _ _ EM EM) ?_;refine dk ?_;refine dN 6 ?_;refine oC ?_;refine Bw (Ex _ g F 7 p.2 p2 EM EM) fun q hq=>?_;obtain ⟨q1,q2⟩:=hq;refine dk ?_;refine dt 7 ?_;refine dN 8 ?_;refine oC ?_
   refine Bw (Ux z.y (A8 n.1 (p.1:Nat)) (1+(q.1:Nat)) _ z.F (by have:=z1.l;omega) (fun x hx=>by have:=z1.f x hx;omega) (by have:=z1.k0;omega) (by have:=z1.k1;omega)) fun u _=>?_;refine Qf Kw fun F7=>?_;refine Ez (v:=u.1) ?_;rintro a6 c6 F6 e6 l6;rw [e6];refine dk ?_;refine dt 9 ?_;refine Xn 10 ?_;refine Xn 11 ?_;refine dN 12 ?_;refine oS ?_;refine Pg ?_;refine dd ?_;refine go ?_;rw [show ((z.i:Nat):Int) - 1=((z.i - 1:Nat):Int) by omega]
   refine Cv ⟨(Ka z.y (A8 n.1 (p.1:Nat)) (1+(q.1:Nat))),a6,c6,F7,z.i - 1,q.2⟩ ⟨by rw [show r0 - (z.i - 1)=r0 - z.i+1 by omega];exact Awi z1,JG,q2.mono GR⟩ GO
  ·refine go ?_;refine cr (fun w st=>Af6 _ z.y z.F w (st.get (p:=.isv B9 (.agg #[aa z.y.Ae,ab z.a z.y.Af.length z.c]) z.y z.F) EO) (Mq.2 ⟨z1.k0,by have:=z1.k1;have:=z1.mm;omega⟩) (by have:=z1.l;omega) (fun x hx=>by have:=z1.f x hx;omega)) fun u F7=>?_;refine Ez (v:=u) ?_;rintro a6 c6 F6 rfl l6;refine go ?_;rw [show ((z.i:Nat):Int) - 1=((z.i - 1:Nat):Int) by omega];refine Cv ⟨Cn z.y,a6,c6,F7,z.i - 1,s4⟩ ⟨by rw [show r0 - (z.i - 1)=r0 - z.i+1 by omega];exact As2 z1,JG,z4.mono GR⟩ GO
 ·have hl7:=z1.l;refine go ?_;refine Bw (Ex _ g F 24 z.s z3 EM EM) fun p hp=>?_;obtain ⟨r,s3⟩:=p;obtain ⟨-,hp⟩:=hp;dsimp only at hp ⊢;refine go ?_;refine Bf rfl (fun e0=>?_) (fun e0=>?_)
  ·refine Ez (x:=z.y) (F:=z.F) ?_;rintro b1 d1 G1 e5 m1;simp only [Value.agg.injEq,Array.mk.injEq,List.cons.injEq,Value.slice.injEq,Value.int.injEq,cP,de] at e5;obtain ⟨rfl,rfl⟩:=e5;refine Ke ?_;intros;refine Eo (xs:=[-1,9999,10000]) (fun w=>Jm w _) ?_ EN;refine Az (E:=Bi) fun G=>?_;refine go ?_;refine Bw (Mt _ g F _ [-1,9999,10000] G s3 hp EM EN EN) fun q hq=>?_;refine go ?_;refine Gk ⟨q.1,z.y.Af⟩ ?_;refine ret ⟨⟨q.1,z.y.Af⟩,_,_,_,0,q.2⟩ ⟨by show z.y.Af.length<=1000;omega,fun e he=>(by have:=z1.f e he;have:=z1.mm;omega),hq.2.mono EM⟩ rfl
  refine go ?_;refine Bf rfl (fun e1=>?_) (fun e1=>?_)
  ·refine Ez (x:=z.y) (F:=z.F) ?_;rintro b1 d1 G1 e5 m1;simp only [Value.agg.injEq,Array.mk.injEq,List.cons.injEq,Value.slice.injEq,Value.int.injEq,cP,de] at e5;obtain ⟨rfl,rfl⟩:=e5;refine Acp U3 (xs:=z.y.Af) (m:=3) rfl fun ys Fy Gy hyl hym=>?_;refine Ke ?_;intros;refine As [4] [18] ?_;refine D7 1 2 4 6 ?_;refine Ek 9 10 ?_;refine dt 11 ?_;refine dN 0 ?_;apply Lt;rfl;intro _;refine Dk (EC 3) ?_;refine dk ?_;refine dN 3 ?_;refine M0 (ys:=ys) (O9 3) (Hj 3) (fun a7 c7 F7=>?_) (hn:=hyl.symm) (h63:=GB) (hby:=GB);rw [bb];refine dk ?_;refine dN 5 ?_
   refine oC ?_;refine Bw (Sv _ g F s3 hp EM) fun q hq=>?_;refine dk ?_;refine dN 7 ?_;refine oC ?_;refine Bw (Ex _ g F 9 q.2 hq EM EM) fun r hr=>?_;obtain ⟨hr1,hr2⟩:=hr;refine dk ?_;refine dM 8 12 ?_ ?_
   ·apply In;rfl;rfl;rfl;rfl;exact Ik;exact Ie;intro _;rename_i gf;refine Eo (E:=Bi) (xs:=[(r.1:Int)]) (N7 _) ?_ EO;refine Az (E:=Bi) fun F10=>?_;refine dk ?_;refine dN 12 ?_;refine oC ?_;refine Bw (Ex _ g F 9 r.2 hr2 EM EM) fun t ht=>?_;obtain ⟨ht1,ht2⟩:=ht;have hk0:=z1.k0;have hk1:=z1.k1;refine dk ?_;refine Ek 13 14 ?_;refine dN 15 ?_;apply In;rfl;rfl;rfl;rfl;exact Ik;exact Ie;intro _;refine Rx ⟨q.1,[(r.1:Int)],z.y.Ae+(t.1:Nat)⟩ ?_;refine dk ?_;refine dN 16 ?_
    refine No (ys:=[([aa q.1,ab (some ⟨gf,0,none⟩) 1 1,aa (z.y.Ae+(t.1:Nat))]:aj)]) (Vt (m:=3) (cs:=[aa q.1,ab (some ⟨gf,0,none⟩) 1 1,aa (z.y.Ae+(t.1:Nat))]) rfl EW) (O9 3) (fun a9 c9 F11=>?_);refine dk ?_;refine dt 17 ?_;refine dN 18 ?_;refine oS ?_;refine Pg ?_;refine dd ?_;refine go ?_;refine Az (E:=EC 3) fun F8=>?_;refine Akh (E:=Eg) (x:=⟨q.1,[(r.1:Int)],z.y.Ae+(t.1:Nat)⟩) ?_
    refine At9 (E:=Eg) (c1:=ys.flatten) (c2:=[aa q.1,ab (some ⟨gf,0,none⟩) 1 1,aa (z.y.Ae+(t.1:Nat))]) (x1:=z.y.Af) (x2:=[⟨q.1,[(r.1:Int)],z.y.Ae+(t.1:Nat)⟩]) rfl rfl ?_;refine Pd (E:=Eg) (m:=3) (v:=.agg (ys.flatten++([aa q.1,ab (some ⟨gf,0,none⟩) 1 1,aa (z.y.Ae+(t.1:Nat))]:aj)).toArray) (ys:=ys++[([aa q.1,ab (some ⟨gf,0,none⟩) 1 1,aa (z.y.Ae+(t.1:Nat))]:aj)]) (xs:=z.y.Af++[(⟨q.1,[(r.1:Int)],z.y.Ae+(t.1:Nat)⟩:Et)]) rfl HE EO fun F9=>?_
    exact AN
   ·refine oC ?_;refine Bw (Ex _ g F 9 r.2 hr2 EM EM) fun t ht=>?_;obtain ⟨ht1,ht2⟩:=ht;have hk0:=z1.k0;have hk1:=z1.k1;refine dk ?_;refine dt 13 ?_;refine dN 8 ?_;apply In;rfl;rfl;rfl;rfl;exact Ik;exact Ie;intro _;rename_i gf;refine Eo (E:=Bi) (xs:=[(r.1:Int)]) (N7 _) ?_ EO;refine Az (E:=Bi) fun F10=>?_;refine dk ?_;refine dt 14 ?_;refine dN 15 ?_;apply In;rfl;rfl;rfl;rfl;exact Ik;exact Ie;intro _;refine Rx ⟨q.1,[(r.1:Int)],z.y.Ae+(t.1:Nat)⟩ ?_;refine dk ?_;refine dN 16 ?_
    refine No (ys:=[([aa q.1,ab (some ⟨gf,0,none⟩) 1 1,aa (z.y.Ae+(t.1:Nat))]:aj)]) (Vt (m:=3) (cs:=[aa q.1,ab (some ⟨gf,0,none⟩) 1 1,aa (z.y.Ae+(t.1:Nat))]) rfl EW) (O9 3) (fun a9 c9 F11=>?_);refine dk ?_;refine dt 17 ?_;refine dN 18 ?_;refine oS ?_;refine Pg ?_;refine dd ?_;refine go ?_;refine Az (E:=EC 3) fun F8=>?_;refine Akh (E:=Eg) (x:=⟨q.1,[(r.1:Int)],z.y.Ae+(t.1:Nat)⟩) ?_
    refine At9 (E:=Eg) (c1:=ys.flatten) (c2:=[aa q.1,ab (some ⟨gf,0,none⟩) 1 1,aa (z.y.Ae+(t.1:Nat))]) (x1:=z.y.Af) (x2:=[⟨q.1,[(r.1:Int)],z.y.Ae+(t.1:Nat)⟩]) rfl rfl ?_;refine Pd (E:=Eg) (m:=3) (v:=.agg (ys.flatten++([aa q.1,ab (some ⟨gf,0,none⟩) 1 1,aa (z.y.Ae+(t.1:Nat))]:aj)).toArray) (ys:=ys++[([aa q.1,ab (some ⟨gf,0,none⟩) 1 1,aa (z.y.Ae+(t.1:Nat))]:aj)]) (xs:=z.y.Af++[(⟨q.1,[(r.1:Int)],z.y.Ae+(t.1:Nat)⟩:Et)]) rfl HE EO fun F9=>?_
    exact AN
  refine go ?_;refine Bf rfl (fun e2=>?_) (fun e2=>?_)
  ·refine Ez (x:=z.y) (F:=z.F) ?_;rintro b1 d1 G1 e5 m1;simp only [Value.agg.injEq,Array.mk.injEq,List.cons.injEq,Value.slice.injEq,Value.int.injEq,cP,de] at e5;obtain ⟨rfl,rfl⟩:=e5;have hk0:=z1.k0;have hk1:=z1.k1;refine Acp U3 (xs:=z.y.Af) (m:=3) rfl fun ys Fy Gy hyl hym=>?_;refine Ke ?_;intros;refine As [4] [11] ?_;refine D7 1 2 4 5 ?_;refine Ek 6 7 ?_;refine dM 0 8 ?_ ?_
   ·apply Lt;rfl;intro _;refine Dk (EC 3) ?_;refine dk ?_;refine dM 3 8 ?_ ?_
    ·refine M0 (ys:=ys) (O9 3) (Hj 3) (fun a7 c7 F7=>?_) (hn:=hyl.symm) (h63:=GB) (hby:=GB);rw [bb];refine dk ?_;refine dN 8 ?_;apply In;rfl;rfl;rfl;rfl;exact Ik;exact Ie;intro _;refine Bn Bi EN ?_;refine Rx ⟨77,[],z.y.Ae+2⟩ ?_;refine dk ?_;refine dN 9 ?_;refine No (ys:=[([aa 77,ab none 0 0,aa (z.y.Ae+2)]:aj)]) (Vt (m:=3) (cs:=[aa 77,ab none 0 0,aa (z.y.Ae+2)]) rfl EW) (O9 3) (fun a9 c9 F11=>?_);refine dk ?_;refine dt 10 ?_;refine dN 11 ?_;refine oS ?_;refine Pg ?_;refine dd ?_
     refine go ?_;refine Az (E:=EC 3) fun F8=>?_;refine Akh (E:=Eg) (x:=⟨77,[],z.y.Ae+2⟩) ?_;refine At9 (E:=Eg) (c1:=ys.flatten) (c2:=[aa 77,ab none 0 0,aa (z.y.Ae+2)]) (x1:=z.y.Af) (x2:=[⟨77,[],z.y.Ae+2⟩]) rfl rfl ?_;refine Pd (E:=Eg) (m:=3) (v:=.agg (ys.flatten++([aa 77,ab none 0 0,aa (z.y.Ae+2)]:aj)).toArray) (ys:=ys++[([aa 77,ab none 0 0,aa (z.y.Ae+2)]:aj)]) (xs:=z.y.Af++[(⟨77,[],z.y.Ae+2⟩:Et)]) rfl HE EO fun F9=>?_
     exact AG
    ·apply In;rfl;rfl;rfl;rfl;exact Ik;exact Ie;intro _;refine Bn Bi EN ?_;refine Rx ⟨77,[],z.y.Ae+2⟩ ?_;refine dk ?_;refine dN 3 ?_;refine M0 (ys:=ys) (O9 3) (Hj 3) (fun a7 c7 F7=>?_) (hn:=hyl.symm) (h63:=GB) (hby:=GB);rw [bb];refine dk ?_;refine dN 9 ?_;refine No (ys:=[([aa 77,ab none 0 0,aa (z.y.Ae+2)]:aj)]) (Vt (m:=3) (cs:=[aa 77,ab none 0 0,aa (z.y.Ae+2)]) rfl EW) (O9 3) (fun a9 c9 F11=>?_);refine dk ?_;refine dt 10 ?_;refine dN 11 ?_;refine oS ?_;refine Pg ?_;refine dd ?_
     refine go ?_;refine Az (E:=EC 3) fun F8=>?_;refine Akh (E:=Eg) (x:=⟨77,[],z.y.Ae+2⟩) ?_;refine At9 (E:=Eg) (c1:=ys.flatten) (c2:=[aa 77,ab none 0 0,aa (z.y.Ae+2)]) (x1:=z.y.Af) (x2:=[⟨77,[],z.y.Ae+2⟩]) rfl rfl ?_;refine Pd (E:=Eg) (m:=3) (v:=.agg (ys.flatten++([aa 77,ab none 0 0,aa (z.y.Ae+2)]:aj)).toArray) (ys:=ys++[([aa 77,ab none 0 0,aa (z.y.Ae+2)]:aj)]) (xs:=z.y.Af++[(⟨77,[],z.y.Ae+2⟩:Et)]) rfl HE EO fun F9=>?_
     exact AG
   ·apply In;rfl;rfl;rfl;rfl;exact Ik;exact Ie;intro _;refine Bn Bi EN ?_;refine Rx ⟨77,[],z.y.Ae+2⟩ ?_;refine dk ?_;refine dN 0 ?_;apply Lt;rfl;intro _;refine Dk (EC 3) ?_;refine dk ?_;refine dN 3 ?_;refine M0 (ys:=ys) (O9 3) (Hj 3) (fun a7 c7 F7=>?_) (hn:=hyl.symm) (h63:=GB) (hby:=GB);rw [bb];refine dk ?_;refine dN 9 ?_;refine No (ys:=[([aa 77,ab none 0 0,aa (z.y.Ae+2)]:aj)]) (Vt (m:=3) (cs:=[aa 77,ab none 0 0,aa (z.y.Ae+2)]) rfl EW) (O9 3) (fun a9 c9 F11=>?_);refine dk ?_
    refine dt 10 ?_;refine dN 11 ?_;refine oS ?_;refine Pg ?_;refine dd ?_;refine go ?_;refine Az (E:=EC 3) fun F8=>?_;refine Akh (E:=Eg) (x:=⟨77,[],z.y.Ae+2⟩) ?_;refine At9 (E:=Eg) (c1:=ys.flatten) (c2:=[aa 77,ab none 0 0,aa (z.y.Ae+2)]) (x1:=z.y.Af) (x2:=[⟨77,[],z.y.Ae+2⟩]) rfl rfl ?_;refine Pd (E:=Eg) (m:=3) (v:=.agg (ys.flatten++([aa 77,ab none 0 0,aa (z.y.Ae+2)]:aj)).toArray) (ys:=ys++[([aa 77,ab none 0 0,aa (z.y.Ae+2)]:aj)]) (xs:=z.y.Af++[(⟨77,[],z.y.Ae+2⟩:Et)]) rfl HE EO fun F9=>?_
    exact AG
  ·refine go ?_;refine ret ⟨z.y,z.a,z.c,z.F,0,s3⟩ ⟨by show z.y.Af.length<=1000;omega,fun e he=>(by have:=z1.f e he;have:=z1.mm;omega),hp.mono EM⟩ rfl
theorem Afv {n:Du} (h:At n=true):2<=n.Ao.Ad.length/\n.Ao.Ad.length<=8/\n.down.length<=8/\n.up.length=n.down.length/\n.Ai.length=n.Ao.Ad.length/\n.down.length=n.Ao.Ad.length:=by
 have hG:=Av.1 h;have h1:=(Ev hG.t).n0;have h2:=(Ev hG.t).n1;obtain ⟨q1,q2,q3,q4⟩:=Bk.1 hG.l;exact ⟨h1,h2,EM,EM,EM,EM⟩
theorem Afw {n:Du} (h:At n=true):∀q∈n.down++n.up,q.length<=6:=fun q hq=>by
 obtain ⟨-, -,e3,e4⟩:=Mk h;rcases aG.1 hq with hq|hq
 ·exact (Ga (e3 q hq)).1
 ·exact (Ga (e4 q hq)).1
structure NtD where
 n:Du
 cs:aj
 F:ak
 s:Rh
structure NtW where
 n:Du
 cs:aj
 F:ak
 i:Nat
 s:Rh
structure Bbw (B:Nat) (z:NtW):Prop where
 g:At z.n=true
 i:z.i<=23
 s:Ih (B+400+200 * (23 - z.i)) z.s
theorem Atz {n:Du} {p:Ar} (h:∀q∈n.down++n.up,q.length<=6):∀q∈n.down++n.up.set 1 [p],q.length<=6:=fun q hq=>by
 rcases aG.1 hq with hq|hq
 ·exact h q (bC _ hq)
 ·rcases bq hq with hq|rfl
  ·exact h q (cI _ hq)
  ·exact (by decide:1<=6)
theorem Ay4 (B g:Nat) (F:CuF) (s:Rh) (FT:ak) (ok:Ih B s) (hB:B<=600000000000) :
  Fn prog 16 [Fv g 0 0] [.sl Iy (ab F.a F.Cd.length F.c) F.Cd F.bs,Nx FT] [.row g 60 0 [] [ab F.a F.Cd.length F.c,aa (s.k:Nat),.int .u64 s.Ic] []] (fun (z:NtD)=>(2<=z.n.Ao.Ad.length/\z.n.Ao.Ad.length<=8/\z.n.down.length<=8/\z.n.up.length=z.n.down.length/\(∀q∈z.n.down++z.n.up,q.length<=6)/\Ag0 z.n/\z.n.Ac.Aa.An.length<=1000)/\Ih (B+9000) z.s) (fun z=>.agg z.cs.toArray)
   (fun z=>[.isv Nw (.agg z.cs.toArray) z.n z.F,.row g 60 0 [] [ab F.a F.Cd.length F.c,aa (z.s.k:Nat),.int .u64 z.s.Ic] []]):=by
 refine enter func16 rfl ntmps16 fun w0=>?_;refine go ?_;intros;refine Bw (Amf B g F s ok EM) fun t ht=>?_;obtain ⟨ht1,ht2⟩:=ht;refine go ?_;refine Bw (Ub _ g F t.s ht2 EM) fun m hm=>?_;obtain ⟨hm1,hm2⟩:=hm;refine go ?_;refine Bw (Ex _ g F 6 m.2 hm2 EM EM) fun y hy=>?_;obtain ⟨k1,s1⟩:=y;obtain ⟨r1,h1⟩:=hy;dsimp only at r1 h1 ⊢;have r1:k1<=5:=EM
 refine Ke ?_;intros;refine Az (E:=Bi) (xs:=t.l) fun Ft=>?_;refine Mn ⟨t.l⟩ ?_;refine go ?_;refine Bw (Ah0 ⟨t.l⟩ m.1 (1+(k1:Nat)) _ _) fun z _=>?_;obtain ⟨en,gn⟩:=Als (t:=⟨t.l⟩) (f:=m.1) (y:=1+(k1:Nat)) ht1 hm1.1 hm1.2 EM EM;rw [en];obtain ⟨cs,F0⟩:=z;dsimp only;generalize hN:Jp ⟨t.l⟩ m.1 (1+(k1:Nat))=N at *;refine Qf Wd fun F0=>?_;refine Eb (x:=N) ?_;rintro b01 d01 G01 b02 d02 G02 b03 d03 G03 b04 d04 G04 b05 d05 G05 b06 d06 G06 b07 d07 G07 ev - - - - - - -;obtain rfl:=Oe ev;clear ev;refine go ?_;intros;rename_i g3;refine Bw (Ex _ g F 24 s1 h1 EM EM) fun y hy=>?_
 obtain ⟨r0,s2⟩:=y;obtain ⟨hr0,h2⟩:=hy;dsimp only at hr0 h2 ⊢;have hr0:r0<=23:=EM
 refine go ?_;refine Cu [0,2,3] (fun z:NtW=>[(5,aa (z.i:Nat))]) (fun z=>[.row g3 37 0 [] z.cs [],.isv Nw (.agg z.cs.toArray) z.n z.F,.row g 60 0 [] [ab F.a F.Cd.length F.c,aa (z.s.k:Nat),.int .u64 z.s.Ic] []]) (Bbw B) (fun z=>z.i) ⟨N,_,_,r0,s2⟩ ⟨gn,hr0,h2.mono (by show _<=B+400+200 * (23 - r0);omega)⟩ fun z hz=>?_;obtain ⟨x,cs,Fx,zi,zs⟩:=z;obtain ⟨z1,z2,z4⟩:=hz;obtain ⟨q2,q8,qd,qu,qe,qt⟩:=Afv z1;have qq:=Afw z1;have hsm:Ag0 x:=Te z1;have hit:x.Ac.Aa.An.length<=1000:=by have h:x.Ac.Aa.An.length<=6:=(M4 (Av.1 z1).s).l;omega
 dsimp only at z1 z2 z4 q2 q8 qd qu qe qt qq ⊢;refine Eb (x:=x) ?_;rintro b1 d1 G1 b2 d2 G2 b3 d3 G3 b4 d4 G4 b5 d5 G5 b6 d6 G6 b7 d7 G7 ev - - - - - - -;obtain rfl:=Oe ev;clear ev;refine go ?_;refine Bf rfl (fun h3=>?_) (fun h3=>?_)
 ·have hi0:0 < zi:=EM
  refine Ke ?_;intros;refine As [7] [5,6,7,8,10,11,12] ?_;refine dtl 0 ?_;refine dtl 1 ?_;refine dtl 2 ?_;refine dM 3 9 ?_ ?_
  ·refine oC ?_;refine Bw (Acn _ g F _ x _ _ EM EM EM EM qq z4 EM) fun t ht=>?_;obtain ⟨t1,t2,t3⟩:=ht;refine dk ?_;refine dM 4 9 ?_ ?_
   ·refine oC ?_;refine Bw (T3 x t.t _ _ FT t2 z1 t1) fun y _=>?_;obtain ⟨ys,yF,ya,yc,yG⟩:=y;dsimp only;refine Eb (x:=(Bo x t.t).1) ?_;rintro e1 f1 K1 e2 f2 K2 e3 f3 K3 e4 f4 K4 e5 f5 K5 e6 f6 K6 e7 f7 K7 ev - - - - - - -;obtain rfl:=Oe ev;clear ev;refine dk ?_;refine Xn 5 ?_;refine Xn 6 ?_;refine Xn 7 ?_;refine Xn 8 ?_;refine dN 9 ?_;apply Cq;rfl;intro _;refine dk ?_;refine dN 10 ?_;refine oS ?_;refine Pg ?_;refine Xn 11 ?_;refine Xn 12 ?_;refine dd ?_;rename_i g6;cases eb:(Bo x t.t).2.2
    ·exact AT
    ·exact AQ
   ·apply Cq;rfl;intro _;refine dk ?_;refine dN 4 ?_;refine oC ?_;refine Bw (T3 x t.t _ _ FT t2 z1 t1) fun y _=>?_;obtain ⟨ys,yF,ya,yc,yG⟩:=y;dsimp only;refine Eb (x:=(Bo x t.t).1) ?_;rintro e1 f1 K1 e2 f2 K2 e3 f3 K3 e4 f4 K4 e5 f5 K5 e6 f6 K6 e7 f7 K7 ev - - - - - - -;obtain rfl:=Oe ev;clear ev;refine dk ?_;refine Xn 5 ?_;refine Xn 6 ?_;refine Xn 7 ?_;refine Xn 8 ?_;refine dN 10 ?_;refine oS ?_;refine Pg ?_;refine Xn 11 ?_;refine Xn 12 ?_;refine dd ?_;rename_i g6;cases eb:(Bo x t.t).2.2
    ·exact AT
    ·exact AQ
  ·apply Cq;rfl;intro _;refine dk ?_;refine dN 3 ?_;refine oC ?_;refine Bw (Acn _ g F _ x _ _ EM EM EM EM qq z4 EM) fun t ht=>?_;obtain ⟨t1,t2,t3⟩:=ht;refine dk ?_;refine dN 4 ?_;refine oC ?_;refine Bw (T3 x t.t _ _ FT t2 z1 t1) fun y _=>?_;obtain ⟨ys,yF,ya,yc,yG⟩:=y;dsimp only;refine Eb (x:=(Bo x t.t).1) ?_;rintro e1 f1 K1 e2 f2 K2 e3 f3 K3 e4 f4 K4 e5 f5 K5 e6 f6 K6 e7 f7 K7 ev - - - - - - -;obtain rfl:=Oe ev;clear ev;refine dk ?_;refine Xn 5 ?_;refine Xn 6 ?_;refine Xn 7 ?_;refine Xn 8 ?_;refine dN 10 ?_;refine oS ?_;refine Pg ?_;refine Xn 11 ?_
   refine Xn 12 ?_;refine dd ?_;rename_i g6;cases eb:(Bo x t.t).2.2
   ·exact AT
   ·exact AQ
 refine go ?_;refine Bw (Ex _ g F 32 zs z4 EM EM) fun y hy=>?_;obtain ⟨r6,s6⟩:=y;obtain ⟨hr6,h6⟩:=hy;dsimp only at hr6 h6 ⊢;have hr6:r6<=31:=EM
 refine go ?_;refine Bf rfl (fun e0=>?_) (fun e0=>?_)
 ·refine go ?_;refine Bw (At1 _ g F s6 h6 EM) fun y hy=>?_;obtain ⟨hy1,hy2,hy3⟩:=hy;refine Gh (x:=y.y) ?_;rintro a2 c2 L2 a3 c3 L3 ev - -;simp only [Value.agg.injEq,Array.mk.injEq,List.cons.injEq,Value.slice.injEq,cP,de] at ev;obtain ⟨⟨rfl,rfl⟩,rfl,rfl⟩:=ev;refine go ?_;refine I6 ⟨x.Ao,y.y,x.Ai,x.Ah,x.down,x.up⟩ (a1:=b1) (a2:=y.a) (a3:=y.a2) (a4:=b4) (a5:=b5) (a6:=b6) (a7:=b7) ?_
  refine ret ⟨⟨x.Ao,y.y,x.Ai,x.Ah,x.down,x.up⟩,_,_,y.s⟩ ⟨⟨q2,q8,qd,qu,qq,{ hsm with i:=by show y.y.Aa.An.length<=_;omega,h:=by show y.y.holds.length<=_;omega },by show y.y.Aa.An.length<=1000;omega⟩,hy3.mono EM⟩ rfl
 refine go ?_;refine Bf rfl (fun e1=>?_) (fun e1=>?_)
 ·refine go ?_;refine Bw (Amf _ g F s6 h6 EM) fun y hy=>?_;obtain ⟨hy1,hy2⟩:=hy;refine Az (E:=Bi) (xs:=y.l) fun Ft=>?_;refine go ?_;refine I6 ⟨⟨y.l⟩,x.Ac,x.Ai,x.Ah,x.down,x.up⟩ (a1:=y.a) (a2:=b2) (a3:=b3) (a4:=b4) (a5:=b5) (a6:=b6) (a7:=b7) ?_;refine ret ⟨⟨⟨y.l⟩,x.Ac,x.Ai,x.Ah,x.down,x.up⟩,_,_,y.s⟩ ⟨⟨hy1.n0,hy1.n1,qd,qu,qq,{ hsm with t:=by have:=hy1.n1;show y.l.length<=_;omega },hit⟩,hy2.mono EM⟩ rfl
 refine go ?_;refine Bf rfl (fun e2=>?_) (fun e2=>?_)
 ·refine Acp (Awk Ap EN) (xs:=x.up) (m:=1) rfl fun ys Fy Gy hyl hym=>?_;refine Ke ?_;intros;refine Dk (EC 1) ?_;refine go ?_;apply wO;refine M0 (ys:=ys) (O9 1) (Hj 1) (fun a7 c7 F7=>?_) (hn:=hyl.symm) (h63:=JO) (hby:=JO);rw [bb];refine go ?_;have h1u:1 < ys.length:=EM
  obtain ⟨v9,e9⟩:∃v,ys[1]=[v]:=List.length_eq_one_iff.1 (hym _ (aE h1u));refine Qq (E:=EC 1) (xs:=ys) (m:=1) (Hj 1) 1 ?_ EP rfl h1u;rintro _ gq A cq Bq rfl k2 k3 hH;obtain ⟨k4, -, -⟩:=k3 w0;rw [e9] at k4;subst k4;dsimp only [List.append];refine Ke ?_;intros;refine As [11] [6] ?_;refine Ek 0 1 ?_;refine dt 2 ?_;refine dN 3 ?_;refine oC ?_;refine Bw (Air _ g F s6 h6 EM) fun p hp=>?_;obtain ⟨hp1,hp2⟩:=hp;refine dk ?_;refine dN 4 ?_;apply In;rfl;rfl;rfl;rfl;exact Ik;exact Ie;intro _;rename_i gp
  refine Eo (E:=Ap) (xs:=[p.1]) (Dj p.1 hp1) ?_ EO;refine Az (E:=Ap) (xs:=[p.1]) fun Fp=>?_;refine dk ?_;refine dt 5 ?_;refine dN 6 ?_;refine oS ?_;refine Pg ?_;refine dd ?_;refine Pf (E:=EC 1) (xs:=ys) [ab (some ⟨gp,0,none⟩) 1 1] hH (fun w=>⟨rfl,⟨rfl,EW⟩,rfl⟩) ?_;refine X0 (E:=Ap) (x:=[p.1]) EN ?_;refine P3 (E:=Nr Ap EN) (ys:=ys) (xs:=x.up) (x:=[p.1]) 1 rfl hym EM fun G'=>?_;refine Az (E:=EC 1) (xs:=ys.set 1 [ab (some ⟨gp,0,none⟩) 1 1]) fun F8=>?_
  refine Pd (E:=Nr Ap EN) (m:=1) (ys:=ys.set 1 [ab (some ⟨gp,0,none⟩) 1 1]) (xs:=x.up.set 1 [p.1]) rfl HE rfl fun F9=>?_;rw [show ys.length=(x.up.set 1 [p.1]).length by simp [hyl]];refine go ?_;refine I6 ⟨x.Ao,x.Ac,x.Ai,x.Ah,x.down,x.up.set 1 [p.1]⟩ (a1:=b1) (a2:=b2) (a3:=b3) (a4:=b4) (a5:=b5) (a6:=b6) ?_
  refine ret ⟨⟨x.Ao,x.Ac,x.Ai,x.Ah,x.down,x.up.set 1 [p.1]⟩,_,_,p.2⟩ ⟨⟨q2,q8,qd,by show (x.up.set 1 [p.1]).length=x.down.length;rw [bw];exact qu,Atz qq,{ hsm with uq:=fun q hq=>(bq hq).elim (fun hq=>hsm.uq q hq) (fun e=>by rw [e];exact (by decide:1<=1048576)),u:=by show (x.up.set 1 [p.1]).length<=_;rw [bw];exact hsm.u },hit⟩,hp2.mono EM⟩ rfl
 refine go ?_;refine Bf rfl (fun e3=>?_) (fun e3=>?_)
 ·refine Acp Ahs (xs:=x.Ai) (m:=2) rfl fun ys Fy Gy hyl hym=>?_;refine Ke ?_;intros;refine Dk (EC 2) ?_;refine go ?_;apply wO;refine M0 (ys:=ys) (O9 2) (Hj 2) (fun a7 c7 F7=>?_) (hn:=hyl.symm) (h63:=JO) (hby:=JO);rw [bb];refine go ?_;have h1u:1 < ys.length:=EM
  obtain ⟨v9,u9,e9⟩:∃v u,ys[1]=[v,u]:=by
   have h2:=hym _ (aE h1u)
   match hY:ys[1],h2 with
   | [v,u],_=>exact ⟨v,u,rfl⟩
  refine Qq (E:=EC 2) (xs:=ys) (m:=2) (Hj 2) 1 ?_ EP rfl h1u;rintro _ gq A cq Bq rfl k2 k3 hH;obtain ⟨k4, -, -⟩:=k3 w0;rw [e9] at k4;subst k4;dsimp only [List.append];refine Ke ?_;intros;refine As [11] [5] ?_;refine Ek 0 1 ?_;refine dt 2 ?_;refine dN 3 ?_;refine oC ?_;refine Bw (Alb _ g F s6 h6 EM) fun p hp=>?_;obtain ⟨hp1,hp3,hp2⟩:=hp;refine dk ?_;refine dt 4 ?_;refine dN 5 ?_;refine oS ?_;refine Pg ?_;refine dd ?_
  refine Pf (E:=EC 2) (xs:=ys) [aa p.y.Ae,ab p.a p.y.Af.length p.c] hH (fun w=>⟨rfl,⟨rfl,EW⟩,rfl⟩) ?_;refine P3 (E:=B9) (ys:=ys) (xs:=x.Ai) (x:=p.y) 1 rfl hym EM fun G'=>?_;refine Az (E:=EC 2) (xs:=ys.set 1 [aa p.y.Ae,ab p.a p.y.Af.length p.c]) fun F8=>?_;refine Pd (E:=B9) (m:=2) (ys:=ys.set 1 [aa p.y.Ae,ab p.a p.y.Af.length p.c]) (xs:=x.Ai.set 1 p.y) rfl HE rfl fun F9=>?_;rw [show ys.length=(x.Ai.set 1 p.y).length by simp [hyl]];refine go ?_
  refine I6 ⟨x.Ao,x.Ac,x.Ai.set 1 p.y,x.Ah,x.down,x.up⟩ (a1:=b1) (a2:=b2) (a3:=b3) (a5:=b5) (a6:=b6) (a7:=b7) ?_;refine ret ⟨⟨x.Ao,x.Ac,x.Ai.set 1 p.y,x.Ah,x.down,x.up⟩,_,_,p.s⟩ ⟨⟨q2,q8,qd,qu,qq,{ hsm with e:=by show (x.Ai.set 1 p.y).length<=_;rw [bw];exact hsm.e,e1:=fun e he=>(bq he).elim (fun he=>hsm.e1 e he) (fun h=>by rw [h];omega),e2:=fun e he f hf=>(bq he).elim (fun he=>hsm.e2 e he f hf) (fun h=>by rw [h] at hf;have:=hp3 f hf;omega) },hit⟩,hp2.mono EM⟩ rfl
 refine go ?_;refine I6 x (a1:=b1) (a2:=b2) (a3:=b3) (a4:=b4) (a5:=b5) (a6:=b6) (a7:=b7) ?_;refine ret ⟨x,_,_,s6⟩ ⟨⟨q2,q8,qd,qu,qq,hsm,hit⟩,h6.mono EM⟩ rfl
theorem Ax4 (B g:Nat) (F:CuF) (s:Rh) (FT:ak) (ok:Ih B s) (hB:B<=600000000000) :
  Fn prog 16 [Fv g 0 0] [.sl Iy (ab F.a F.Cd.length F.c) F.Cd F.bs,Nx FT] [.row g 60 0 [] [ab F.a F.Cd.length F.c,aa (s.k:Nat),.int .u64 s.Ic] []] (fun (z:NtD)=>(2<=z.n.Ao.Ad.length/\z.n.Ao.Ad.length<=8/\z.n.down.length<=8/\z.n.up.length=z.n.down.length/\∀q∈z.n.down++z.n.up,q.length<=6)/\Ih (B+9000) z.s) (fun z=>.agg z.cs.toArray)
   (fun z=>[.isv Nw (.agg z.cs.toArray) z.n z.F,.row g 60 0 [] [ab F.a F.Cd.length F.c,aa (z.s.k:Nat),.int .u64 z.s.Ic] []]):=(Ay4 B g F s FT ok hB).Ov fun _ h=>⟨⟨h.1.1,h.1.2.1,h.1.2.2.1,h.1.2.2.2.1,h.1.2.2.2.2.1⟩,h.2⟩
structure NtT where
 n:Du
 cs:aj
 F:ak
 t:Gf
structure NfD where
 n:Du
 cs:aj
 F:ak
 r:Int
theorem Ae2 (v:Value) (Cd:al) (G FT:ak):Fn prog 5 [v] [.sl Iy v Cd G,Nx FT] [] (fun (z:NfD)=>∀q∈z.n.down++z.n.up,q.length<=6) (fun z=>.tuple #[.agg z.cs.toArray,aa z.r]) (fun z=>[.isv Nw (.agg z.cs.toArray) z.n z.F]):=by
 refine enter func5 rfl ntmps5 fun w0=>?_;refine Th (E:=Iy) ?_;rintro a c rfl l1 l2;refine go ?_;intros;rename_i gc;refine Bw (Ax4 0 _ ⟨Cd,a,c,G⟩ ⟨0,0⟩ FT ⟨aA _,EN,EN⟩ EM) fun z hz=>?_;obtain ⟨⟨q2,q8,qd,qu,qq⟩,hz2⟩:=hz;obtain ⟨x,cs,Fx,zs⟩:=z;dsimp only at q2 q8 qd qu qq hz2 ⊢;refine Eb (x:=x) ?_;rintro b1 d1 G1 b2 d2 G2 b3 d3 G3 b4 d4 G4 b5 d5 G5 b6 d6 G6 b7 d7 G7 ev - - - - - - -;obtain rfl:=Oe ev;clear ev;refine Ke ?_;intros;refine Eo (xs:=[0,1,4,12,30,60,61, -1]) (fun w=>Jm w _) ?_ EN;refine Az (E:=Bi) (xs:=[0,1,4,12,30,60,61, -1]) fun Gx=>?_
 refine go ?_;intros;refine Bw (Mt _ gc ⟨Cd,a,c,G⟩ _ [0,1,4,12,30,60,61, -1] Gx zs hz2 EM EN EN) fun q hq=>?_;refine go ?_;intros;refine ret ⟨x,_,Fx,q.1⟩ qq rfl
structure Bb2 (B:Nat) (z:TrD):Prop where
 a:2<=z.l.length
 b:z.l.length<=9
 s:Ih (B+110+10 * z.l.length) z.s
theorem Aod (B g:Nat) (F:CuF) (s:Rh) (ok:Ih B s) (hB:B<=600000000000) :
  Fn prog 32 [Fv g 0 0] [.sl Iy (ab F.a F.Cd.length F.c) F.Cd F.bs] [.row g 60 0 [] [ab F.a F.Cd.length F.c,aa (s.k:Nat),.int .u64 s.Ic] []] (fun (z:TrD)=>z.l.length<=9/\Ih (B+300) z.s) (fun z=>.agg #[ab z.a z.l.length z.c])
   (fun z=>[.ow Bi 3 (ab z.a z.l.length z.c) z.l z.F,.row g 60 0 [] [ab F.a F.Cd.length F.c,aa (z.s.k:Nat),.int .u64 z.s.Ic] []]):=by
 refine enter func32 rfl ntmps32 fun w0=>?_;refine go ?_;intros;refine Bw (Amf B g F s ok EM) fun t ht=>?_;obtain ⟨ht1,ht2⟩:=ht;have n0:=ht1.n0;have n1:=ht1.n1;refine go ?_;intros;refine Bw (Ex _ g F 24 t.s ht2 EM EM) fun y hy=>?_;obtain ⟨r6,s6⟩:=y;obtain ⟨hr6,h6⟩:=hy;dsimp only at hr6 h6 ⊢;have hr6:r6<=23:=EM
 refine Anq (E:=Bi) (xs:=t.l) (n:=t.l.length) fun tc1 tc2=>?_;refine go ?_;refine Bf rfl (fun e0=>?_) (fun e0=>?_)
 ·refine Ke ?_;intros;refine As [1] [6] ?_;refine Ek 0 1 ?_;refine dt 2 ?_;refine dN 3 ?_;refine oC ?_;refine Bw (Ex _ g F 2 s6 h6 EM EM) fun y hy=>?_;obtain ⟨k4,s4⟩:=y;obtain ⟨r4,h4⟩:=hy;dsimp only at r4 h4 ⊢;have r4:k4<=1:=EM
  refine dk ?_;refine dt 4 ?_ (hy:=Nv (i:=k4) rfl rfl rfl EM EM);refine Aem (xs:=t.l) k4 fun F5=>?_;obtain ⟨L,hL,hLl⟩:∃L,L=t.l.take k4/\L.length=k4:=⟨_,rfl,FK⟩;rw [<-hL,<-hLl];refine dt 5 ?_;refine dN 6 ?_;refine oS ?_;refine Pg ?_;refine dd ?_;refine go ?_;refine ret ⟨L,t.a,t.c,_,0,s4⟩ ⟨by show L.length<=9;omega,h4.mono EM⟩ rfl
 refine go ?_;refine Bf rfl (fun e1=>?_) (fun e1=>?_)
 ·refine Qq (m:=1) Eh (xs:=t.l) 0 ?_ EP rfl EM;rintro _ gq A cq Bq e2 - k3 hH;rw [e2];obtain ⟨rfl, -⟩:=k3 w0;refine go ?_;refine Pf (E:=Bi) (xs:=t.l) 0 hH (fun w=>⟨rfl,rfl⟩) ?_;rw [show t.l.length=(t.l.set 0 0).length by rw [bw]];refine go ?_;refine ret ⟨t.l.set 0 0,_,t.c,_,0,s6⟩ ⟨by show (t.l.set 0 0).length<=9;rw [bw];omega,h6.mono EM⟩ rfl
 refine go ?_;refine Bf rfl (fun e2=>?_) (fun e2=>?_)
 ·refine go ?_;refine Bw (Ex _ g F (t.l.length - 1) s6 h6 EM EM) fun y hy=>?_;obtain ⟨k8,s8⟩:=y;obtain ⟨r8,h8⟩:=hy;dsimp only at r8 h8 ⊢;have r8:k8<=7:=EM
  refine go ?_;rw [show (1:Int)+(k8:Nat)=((1+k8:Nat):Int) by omega];refine Qq (m:=1) Eh (xs:=t.l) (1+k8) ?_ EP rfl EM;rintro _ gq A cq Bq e2 - k3 hH;rw [e2];obtain ⟨rfl, -⟩:=k3 w0;refine Ke ?_;intros;refine As [2] [] ?_;refine D7 0 1 2 3 ?_;refine Ek 4 5 ?_;refine dt 6 ?_;refine dN 7 ?_;apply In;rfl;rfl;rfl;rfl;exact Ik;exact Ie;intro _;refine Eo (xs:=[((1+k8:Nat):Int), -1,((1+k8:Nat):Int) - 1,9]) (fun w=>Jm w _) ?_ EO;refine Az (E:=Bi) fun G=>?_;refine dk ?_;refine dN 8 ?_;refine oC ?_
  refine Bw (Mt _ g F _ [((1+k8:Nat):Int), -1,((1+k8:Nat):Int) - 1,9] G s8 h8 EM EO EO) fun q hq=>?_;refine dk ?_;refine dt 9 ?_;refine dN 10 ?_;refine oS ?_;refine dk ?_;refine dd ?_;refine Pf (E:=Bi) (xs:=t.l) q.1 hH (fun w=>⟨rfl,rfl⟩) ?_;rw [show t.l.length=(t.l.set (1+k8) q.1).length by rw [bw]];refine go ?_;refine ret ⟨t.l.set (1+k8) q.1,_,t.c,_,0,q.2⟩ ⟨by show (t.l.set (1+k8) q.1).length<=9;rw [bw];omega,hq.2.mono EM⟩ rfl
 refine go ?_;refine Bf rfl (fun e3=>?_) (fun e3=>?_)
 ·refine go ?_;rename_i g3 g2;refine Cu [0,2,3] (fun _:TrD=>[]) (fun z=>[.row g3 26 0 [] [ab z.a z.l.length z.c] [],.ow Bi 3 (ab z.a z.l.length z.c) z.l z.F,.row g 60 0 [] [ab F.a F.Cd.length F.c,aa (z.s.k:Nat),.int .u64 z.s.Ic] []]) (Bb2 B) (fun z=>9 - z.l.length) ⟨t.l,_,_,_,0,s6⟩ ⟨n0,by show t.l.length<=9;omega,h6.mono (by show _<=B+110+10 * t.l.length;omega)⟩ fun z hz=>?_;obtain ⟨z1,z2,z3⟩:=hz;refine Ke ?_;intros;refine As [0,1] [] ?_;refine D7 0 1 2 3 ?_;refine dN 4 ?_;refine oC ?_;refine Bw (Ex _ g F 2 z.s z3 EM EM) fun y hy=>?_;obtain ⟨k5,s5⟩:=y
  obtain ⟨r5,h5⟩:=hy;dsimp only at r5 h5 ⊢;have r5:k5<=1:=EM
  refine dk ?_;refine Ek 5 6 ?_;refine dd ?_;refine go ?_;refine Bf rfl (fun h7=>?_) (fun h7=>?_)
  ·refine go ?_;intros;apply wO;refine No (N7 _) Dw fun a9 c9 F9=>?_;refine go ?_;refine Cv ⟨z.l++[1],a9,c9,F9,0,s5⟩ ⟨by show 2<=(z.l++[_]).length;simp;omega,by show (z.l++[_]).length<=9;simp;omega,h5.mono (by show _<=B+110+10 * (z.l++[_]).length;simp;omega)⟩ (by show 9 - (z.l++[_]).length < 9 - z.l.length;simp;omega)
  ·refine go ?_;refine ret ⟨z.l,z.a,z.c,_,0,s5⟩ ⟨EM,h5.mono EM⟩ rfl
 ·refine go ?_;refine ret ⟨t.l,t.a,t.c,_,0,s6⟩ ⟨by show t.l.length<=9;omega,h6.mono EM⟩ rfl
structure NwD where
 l:al
 a:ai
 c:Nat
 F:ak
 f:Int
 y:Int
theorem Akw (v:Value) (Cd:al) (G:ak):Fn prog 10 [v] [.sl Iy v Cd G] [] (fun (z:NwD)=>z.l.length<=9) (fun z=>.tuple #[.agg #[ab z.a z.l.length z.c],aa z.f,aa z.y]) (fun z=>[.isv Tn (.agg #[ab z.a z.l.length z.c]) ⟨z.l⟩ z.F]):=by
 refine enter func10 rfl ntmps10 fun w0=>?_;refine Th (E:=Iy) ?_;rintro a c rfl l1 l2;refine go ?_;intros;rename_i gc;refine Bw (Aod 0 _ ⟨Cd,a,c,G⟩ ⟨0,0⟩ ⟨aA _,EN,EN⟩ EM) fun z hz=>?_;obtain ⟨hz1,hz2⟩:=hz;refine Az (E:=Bi) (xs:=z.l) fun Ft=>?_;refine Mn ⟨z.l⟩ ?_;refine go ?_;intros;refine Bw (Sv _ gc ⟨Cd,a,c,G⟩ z.s hz2 EM) fun m hm=>?_;refine Ke ?_;intros;refine Eo (xs:=[1,3,6,7,0]) (fun w=>Jm w _) ?_ EN;refine Az (E:=Bi) (xs:=[1,3,6,7,0]) fun Gx=>?_;refine go ?_;intros
 refine Bw (Mt _ gc ⟨Cd,a,c,G⟩ _ [1,3,6,7,0] Gx m.2 hm EM EN EN) fun q hq=>?_;refine go ?_;intros;refine ret ⟨z.l,_,_,_,m.1,q.1⟩ hz1 rfl
structure RnT where
 n:Du
 cs:aj
 Fn:ak
 l:List Gf
 a:ai
 c:Nat
 F:ak
structure RnD where
 l:List Gf
 a:ai
 c:Nat
 F:ak
 i:Nat
 s:Rh
structure RnA (z:RnD):Prop where
 i:z.i<=7
 l:z.l.length+z.i<=7
 s:Ih (9100+300 * (7 - z.i)) z.s
def Aqz (L:List Gf):Prop:=∃L0 k,L0.length<=7/\L=L0++List.replicate k ⟨4,0,⟨#[]⟩⟩
def Drw (L:List Gf):Prop:=L.length<=8\/Aqz L
theorem Aqz.snoc {L:List Gf} (h:Aqz L):Aqz (L++[⟨4,0,⟨#[]⟩⟩]):=by
 obtain ⟨L0,k,h1,rfl⟩:=h;exact ⟨L0,k+1,h1,by rw [aJ,<-dG]⟩
structure RnB (z:RnD):Prop where
 i:z.i<=32
 l:z.l.length<=8+z.i
 s:Ih (12000+10 * z.i) z.s
 d:Aqz z.l
theorem Akx (v:Value) (Cd:al) (G FT:ak):Fn prog 12 [v] [.sl Iy v Cd G,Nx FT] [] (fun (z:RnT)=>z.l.length<=1000/\(∀q∈z.n.down++z.n.up,q.length<=6)/\Drw z.l) (fun z=>.tuple #[.agg z.cs.toArray,ab z.a z.l.length z.c]) (fun z=>[.isv Nw (.agg z.cs.toArray) z.n z.Fn,.sl Ox (ab z.a z.l.length z.c) z.l z.F]):=by
 refine enter func12 rfl ntmps12 fun w0=>?_;refine Th (E:=Iy) ?_;rintro a c rfl l1 l2;refine go ?_;intros;rename_i gc;refine Bw (Ax4 0 _ ⟨Cd,a,c,G⟩ ⟨0,0⟩ FT ⟨aA _,EN,EN⟩ EM) fun z hz=>?_;obtain ⟨⟨q2,q8,qd,qu,qq⟩,hz2⟩:=hz;obtain ⟨x,cs,Fx,zs⟩:=z;dsimp only at q2 q8 qd qu qq hz2 ⊢;refine Eb (x:=x) ?_;rintro b1 d1 G1 b2 d2 G2 b3 d3 G3 b4 d4 G4 b5 d5 G5 b6 d6 G6 b7 d7 G7 ev - - - - - - -;obtain rfl:=Oe ev;clear ev;refine Ke ?_;intros;refine Dk Ox ?_;refine go ?_;intros;refine Bw (Ex _ _ ⟨Cd,a,c,G⟩ 8 zs hz2 EM EM) fun y hy=>?_;obtain ⟨r0,s2⟩:=y
 obtain ⟨hr0,h2⟩:=hy;dsimp only at hr0 h2 ⊢;have hr0:r0<=7:=EM
 refine go ?_;intros;refine Cu [2,3,4,5] (fun z:RnD=>[(6,ab z.a z.l.length z.c),(7,aa (z.i:Nat))]) (fun z=>[.ow Ox 70 (ab z.a z.l.length z.c) z.l z.F,.row gc 60 0 [] [ab a Cd.length c,aa (z.s.k:Nat),.int .u64 z.s.Ic] []]) RnA (fun z=>z.i) ⟨[],_,_,_,r0,s2⟩ ⟨hr0,by show 0+r0<=7;omega,h2.mono (by show _<=9100+300 * (7 - r0);omega)⟩ fun z hz=>?_;obtain ⟨z1,z2,z3⟩:=hz;refine go ?_;intros;refine Bf rfl (fun h3=>?_) (fun h3=>?_)
 ·have hi0:0 < z.i:=EM
  refine go ?_;intros;refine Bw (Acn _ _ ⟨Cd,a,c,G⟩ z.s x _ Fx q2 q8 qd qu qq z3 EM) fun t ht=>?_;obtain ⟨t1,t2,t3⟩:=ht;refine go ?_;intros;apply wO;refine No (Ade t.t t2) Aav fun a9 c9 F9=>?_;refine go ?_;intros;rw [show ((z.i:Nat):Int) - 1=((z.i - 1:Nat):Int) by omega];refine Cv ⟨z.l++[t.t],a9,c9,F9,z.i - 1,t.s⟩ ⟨by show z.i - 1<=7;omega,by show (z.l++[_]).length+(z.i - 1)<=7;simp;omega,t3.mono (by show _<=9100+300 * (7 - (z.i - 1));omega)⟩ GO
 refine go ?_;intros;refine Bw (Ex _ _ ⟨Cd,a,c,G⟩ 24 z.s z3 EM EM) fun y hy=>?_;obtain ⟨r6,s6⟩:=y;obtain ⟨hr6,h6⟩:=hy;dsimp only at hr6 h6 ⊢;have hr6:r6<=23:=EM
 refine go ?_;intros;refine Bf rfl (fun e0=>?_) (fun e0=>?_)
 ·refine go ?_;intros;refine Bw (Aoc _ _ ⟨Cd,a,c,G⟩ s6 x _ Fx q2 q8 qd qu qq h6 EM) fun t ht=>?_;obtain ⟨t2,t3⟩:=ht;refine go ?_;intros;apply wO;refine No (Ade t.t t2) Aav fun a9 c9 F9=>?_;refine go ?_;intros;refine Az (E:=Ox) (xs:=z.l++[t.t]) fun Fs=>?_;refine ret ⟨x,_,Fx,z.l++[t.t],a9,c9,Fs⟩ ⟨by show (z.l++[_]).length<=1000;simp;omega,qq,.inl (by show (z.l++[_]).length<=8;simp;omega)⟩ rfl
 refine go ?_;intros;refine Bf rfl (fun e1=>?_) (fun e1=>?_)
 ·refine go ?_;intros;refine Cu [2,3,4,5] (fun z:RnD=>[(6,ab z.a z.l.length z.c),(8,aa (z.i:Nat))]) (fun z=>[.ow Ox 70 (ab z.a z.l.length z.c) z.l z.F,.row gc 60 0 [] [ab a Cd.length c,aa (z.s.k:Nat),.int .u64 z.s.Ic] []]) RnB (fun z=>32 - z.i) ⟨z.l,z.a,z.c,_,0,s6⟩ ⟨by show 0<=32;omega,by show z.l.length<=8+0;omega,h6.mono (by show _<=12000+10 * 0;omega),z.l,0,EM,by show z.l=z.l++[];simp⟩ fun z hz=>?_;obtain ⟨z1,z2,z3,z4⟩:=hz;refine go ?_;intros;refine Bw (Ex _ _ ⟨Cd,a,c,G⟩ 2 z.s z3 EM EM) fun y hy=>?_;obtain ⟨r5,s5⟩:=y;obtain ⟨hr5,h5⟩:=hy
  dsimp only at hr5 h5 ⊢;have hr5:r5<=1:=EM
  refine go ?_;intros;refine Dm rfl rfl (fun g1=>?_) (fun g1=>?_)
  ·refine go ?_;intros;refine Bf rfl (fun g2=>?_) (fun g2=>?_)
   ·refine go ?_;intros;apply wO;refine No (Ade ⟨4,0,⟨#[]⟩⟩ (aD _)) Aav fun a9 c9 F9=>?_;refine go ?_;intros;rw [show ((z.i:Nat):Int)+1=((z.i+1:Nat):Int) by omega];refine Cv ⟨z.l++[⟨4,0,⟨#[]⟩⟩],a9,c9,F9,z.i+1,s5⟩ ⟨by show z.i+1<=32;omega,by show (z.l++[_]).length<=8+(z.i+1);simp;omega,h5.mono (by show _<=12000+10 * (z.i+1);omega),z4.snoc⟩ (by show 32 - (z.i+1) < 32 - z.i;omega)
   ·exact CZ
  ·exact CZ
 ·refine go ?_;intros;refine Az (E:=Ox) (xs:=z.l) fun Fs=>?_;refine ret ⟨x,_,Fx,z.l,z.a,z.c,Fs⟩ ⟨by show z.l.length<=1000;omega,qq,.inl (by show z.l.length<=8;omega)⟩ rfl
theorem Aw1 (s:Hn) (w:World):(Op.equalIn 10000 190 (.agg #[.bool s.Vi,af s.Ea]) (.agg #[.bool s.Vi,af s.Ea])).run prog w=.ok true w:=by
 have u1:=underlying4;have u2:=underlying9;have hS:prog.underlying 190=some (.struct (prog.fieldsOf 190)):=ER
 rw [show (10000:Nat)=9999+1 from rfl,run_equalIn_agg w 9999 190 _ _ hS ER];have a1:=Tryz.isAgg4;have a2:=Tryz.isAgg9;simp only [Program.fieldsOf,underlying190]
 go_simp
theorem Aqt {n:Nat} {fr:Fr} {H:List Pc} {x y:Operand} {ty t':TypeId} {s:Hn} (hx:ev fr x=some (.agg #[.bool s.Vi,af s.Ea])) (hy:ev fr y=some (.agg #[.bool s.Vi,af s.Ea])):Yd prog n fr H (.binOp .neq 190 x y t') ty (.bool false):=.mk fun c w d pos A8 gd hA _=>by
 have h2:(eqGuard .neq 190 x y (.agg #[.bool s.Vi,af s.Ea]) (.agg #[.bool s.Vi,af s.Ea])).run prog w=.ok () w:=run_eqGuard_agg w _ _ _ _ _ _ ER;simp only [execOp,hA.ev hx,hA.ev hy,Sem.run_bind,h2,Result.andThen_ok,run_neq_struct,Aw1,Sem.run_pure];rfl
theorem Aul (v v2:Value) (x:Ak) (F F2:ak):FV 79 [v,v2] [.isv Bz v x F,.isv Bz v2 x F2] (.bool true):=by
 refine enter func79 rfl ntmps79 fun w0=>?_;refine Cz (v:=v) (x:=x) (F:=F) ?_;rintro a c F3 rfl l1;unfold maxLen at l1;refine Cz (v:=v2) (x:=x) (F:=F2) ?_;rintro a2 c2 F4 rfl l3;refine go ?_;intros;refine Dm rfl rfl (fun h=>?_) (fun h=>?_)
 ·exact absurd rfl h
 refine go ?_;refine Bf rfl (fun h2=>?_) (fun h2=>?_)
 ·exact absurd rfl h2
 refine go ?_;refine Ei [2,3,4] (fun k:Nat=>[(5,aa k)]) (fun k=>k<=x.Am.length) (fun k=>x.Am.length - k) 0 (aD _) fun k hk=>?_;refine go ?_;refine Bf rfl (fun h3=>?_) (fun h3=>?_)
 ·have hk3:k < x.Am.length:=EM
  refine Oz (a:=a) (xs:=x.Am) k ?_;rintro hi b o e s1;rw [e];refine Oz (a:=a2) (xs:=x.Am) k ?_;rintro hi2 b2 o2 e2 s2;rw [e2];refine Ke ?_;intros;refine As [0,1,2,3] [] ?_;refine D7 0 1 2 3 ?_;refine D7 4 5 6 7 ?_;refine Ek 8 9 ?_;refine dt 10 ?_ (hy:=Aqt rfl rfl);exact AY
 ·exact AB
theorem Alz (s:Aw) (w:World):(Op.equalIn 10000 161 (.agg #[aa s.Ab,aa s.Dh,aa s.Bl,aa s.Ch]) (.agg #[aa s.Ab,aa s.Dh,aa s.Bl,aa s.Ch])).run prog w=.ok true w:=by
 have u0:=underlying3;have a0:=Tryz.isAgg3;have hS:prog.underlying 161=some (.struct (prog.fieldsOf 161)):=ER
 rw [show (10000:Nat)=9999+1 from rfl,run_equalIn_agg w 9999 161 _ _ hS ER];simp only [Program.fieldsOf,underlying161]
 go_simp
theorem Aic {n:Nat} {fr:Fr} {H:List Pc} {x y:Operand} {ty t':TypeId} {s:Aw} (hx:ev fr x=some (.agg #[aa s.Ab,aa s.Dh,aa s.Bl,aa s.Ch])) (hy:ev fr y=some (.agg #[aa s.Ab,aa s.Dh,aa s.Bl,aa s.Ch])):Yd prog n fr H (.binOp .neq 161 x y t') ty (.bool false):=.mk fun c w d pos A8 gd hA _=>by
 have h2:(eqGuard .neq 161 x y (.agg #[aa s.Ab,aa s.Dh,aa s.Bl,aa s.Ch]) (.agg #[aa s.Ab,aa s.Dh,aa s.Bl,aa s.Ch])).run prog w=.ok () w:=run_eqGuard_agg w _ _ _ _ _ _ ER;simp only [execOp,hA.ev hx,hA.ev hy,Sem.run_bind,h2,Result.andThen_ok,run_neq_struct,Alz,Sem.run_pure];rfl
theorem Akm (a a2:ai) (c c2:Nat) (xs:List Aw) (F F2:ak) (hl:xs.length<=9223372036854775807):FV 80 [ab a xs.length c,ab a2 xs.length c2] [.sl A9 (ab a xs.length c) xs F,.sl A9 (ab a2 xs.length c2) xs F2] (.bool true):=by
 refine enter func80 rfl ntmps80 fun w0=>?_;refine go ?_;refine Bf rfl (fun h2=>?_) (fun h2=>?_)
 ·exact absurd rfl h2
 refine go ?_;refine Ei [0,1,4] (fun k:Nat=>[(5,aa k)]) (fun k=>k<=xs.length) (fun k=>xs.length - k) 0 (aD _) fun k hk=>?_;refine go ?_;refine Bf rfl (fun h3=>?_) (fun h3=>?_)
 ·have hk3:k < xs.length:=EM
  refine Iu (a:=a) (xs:=xs) k ?_;rintro hi b o e;rw [e];refine Iu (a:=a2) (xs:=xs) k ?_;rintro hi2 b2 o2 e2;rw [e2];refine Ke ?_;intros;refine As [0,1] [] ?_;refine D7 0 1 2 3 ?_;refine D7 4 5 6 7 ?_;refine dt 8 ?_ (hy:=Aic rfl rfl);exact AY
 ·exact AB
theorem Akl (v v2:Value) (x:Ay) (F F2:ak):FV 30 [v,v2] [.isv Cg v x F,.isv Cg v2 x F2] (.bool true):=by
 refine enter func30 rfl ntmps30 fun w0=>?_;refine Gn (v:=v) (x:=x) (F:=F) ?_;rintro a1 c1 F3 a2 c2 F4 rfl l1 l2;unfold maxLen at l1 l2;refine Cr x.Aa (a1:=a1) ?_;generalize F3=F5;refine Gn (v:=v2) (x:=x) (F:=F2) ?_;rintro a3 c3 F6 a4 c4 F7 rfl l3 l4;refine Cr x.Aa (a1:=a3) ?_;generalize F6=F8;cases hs:x.A1
 all_goals
  refine go ?_;intros;refine Dm rfl rfl (fun h=>?_) (fun h=>?_)
  rotate_left
  ·exact absurd rfl h
  refine go ?_;refine Bw (Aul _ _ x.Aa F5 F8) fun _ _=>?_;refine go ?_;refine Bw (Akm a2 a4 c2 c4 x.Aj F4 F7 EM) fun _ _=>?_;exact AB
theorem Az2 (v v2:Value) (x:Du) (F F2:ak) (hs:∀q∈x.down++x.up,q.length<=1000000000):FV 8 [v,v2] [.isv Nw v x F,.isv Nw v2 x F2] (.bool true):=by
 refine enter func8 rfl ntmps8 fun w0=>?_;refine Eb (v:=v) (x:=x) (F:=F) ?_;rintro a1 c1 F1 a2 c2 G2 a3 c3 F3 a4 c4 F4 a5 c5 F5 a6 c6 F6 a7 c7 F7 rfl - - - l4 l5 l6 l7;refine Ed x.Ac (a1:=a2) ?_;refine Eb (v:=v2) (x:=x) (F:=F2) ?_;rintro b1 d1 H1 b2 d2 H2 b3 d3 H3 b4 d4 H4 b5 d5 H5 b6 d6 H6 b7 d7 H7 rfl - - - - - - -;refine Ed x.Ac (a1:=b2) (a2:=b3) ?_;unfold maxLen at l4 l5 l6 l7;refine go ?_;intros;refine Bw (Ah9 _ _ x.Ao.Ad _ _) fun _ _=>?_;refine go ?_;refine Bw (Aql _ _ x.Ac _ _) fun _ _=>?_;refine go ?_;refine Dm rfl rfl (fun h=>?_) (fun h=>?_)
 ·exact absurd rfl h
 refine go ?_;refine Dm rfl rfl (fun h=>?_) (fun h=>?_)
 ·exact absurd rfl h
 refine go ?_;refine Dm rfl rfl (fun h=>?_) (fun h=>?_)
 ·exact absurd rfl h
 refine go ?_;refine Bf rfl (fun h=>?_) (fun h=>?_)
 ·exact absurd rfl h
 refine go ?_;refine Ei [2,3,4] (fun k:Nat=>[(5,aa k)]) (fun k=>k<=x.Ai.length) (fun k=>x.Ai.length - k) 0 (aD _) fun k hk=>?_;refine go ?_;refine Bf rfl (fun h3=>?_) (fun h3=>?_)
 ·have hk3:k < x.Ai.length:=EM
  refine Rl (a:=a4) (xs:=x.Ai) k ?_;rintro hia ga oa ma da La ea -;rw [ea];refine Gk x.Ai[k] ?_;refine Rl (a:=b4) (xs:=x.Ai) k ?_;rintro hib gb ob mb db Lb eb -;rw [eb];refine Gk x.Ai[k] ?_;refine Ke ?_;intros;refine As [1,4,6,7] [] ?_;refine D7 0 1 2 3 ?_;refine D7 4 5 6 7 ?_;refine Ek 8 9 ?_;refine dN 10 ?_;refine oC ?_;refine Bw (Amg _ _ x.Ai[k] _ _) fun _ _=>?_;refine dk ?_;refine dt 11 ?_;exact AY
 refine go ?_;refine Ei [2,3,4] (fun k:Nat=>[(6,aa k)]) (fun k=>k<=x.Ah.length) (fun k=>x.Ah.length - k) 0 (aD _) fun k hk=>?_;refine go ?_;refine Bf rfl (fun h3=>?_) (fun h3=>?_)
 ·have hk3:k < x.Ah.length:=EM
  refine Od (a:=a5) (xs:=x.Ah) k ?_;rintro hia ga oa ma da La na fa Ma ea - -;rw [ea];refine E8 x.Ah[k] ?_;refine Od (a:=b5) (xs:=x.Ah) k ?_;rintro hib gb ob mb db Lb nb fb Mb eb - -;rw [eb];refine E8 x.Ah[k] ?_;refine Ke ?_;intros;refine As [1,5,8,9] [] ?_;refine D7 0 1 2 3 ?_;refine D7 4 5 6 7 ?_;refine Ek 8 9 ?_;refine dN 10 ?_;refine oC ?_;refine Bw (Akl _ _ x.Ah[k] _ _) fun _ _=>?_;refine dk ?_;refine dt 11 ?_;exact AY
 refine go ?_;refine Ei [2,3,4] (fun k:Nat=>[(7,aa k)]) (fun k=>k<=x.down.length) (fun k=>x.down.length - k) 0 (aD _) fun k hk=>?_;refine go ?_;refine Bf rfl (fun h3=>?_) (fun h3=>?_)
 ·have hk3:k < x.down.length:=EM
  refine O0 (E:=Ap) (hz:=EN) (a:=a6) (xs:=x.down) k ?_;rintro hia ga oa ma da La ea -;rw [ea];refine O0 (E:=Ap) (hz:=EN) (a:=b6) (xs:=x.down) k ?_;rintro hib gb ob mb db Lb eb -;rw [eb];refine Ke ?_;intros;refine As [0,2,4,5] [] ?_;refine D7 0 1 2 3 ?_;refine D7 4 5 6 7 ?_;refine Ek 8 9 ?_;refine dN 10 ?_;refine oC ?_;refine Bw (Aew ma mb da db x.down[k] _ _ (hs _ (bC _ (aE hk3)))) fun _ _=>?_;refine dk ?_;refine dt 11 ?_;exact AY
 refine go ?_;refine Ei [2,3,4] (fun k:Nat=>[(8,aa k)]) (fun k=>k<=x.up.length) (fun k=>x.up.length - k) 0 (aD _) fun k hk=>?_;refine go ?_;refine Bf rfl (fun h3=>?_) (fun h3=>?_)
 ·have hk3:k < x.up.length:=EM
  refine O0 (E:=Ap) (hz:=EN) (a:=a7) (xs:=x.up) k ?_;rintro hia ga oa ma da La ea -;rw [ea];refine O0 (E:=Ap) (hz:=EN) (a:=b7) (xs:=x.up) k ?_;rintro hib gb ob mb db Lb eb -;rw [eb];refine Ke ?_;intros;refine As [0,2,4,5] [] ?_;refine D7 0 1 2 3 ?_;refine D7 4 5 6 7 ?_;refine Ek 8 9 ?_;refine dN 10 ?_;refine oC ?_;refine Bw (Aew ma mb da db x.up[k] _ _ (hs _ (cI _ (aE hk3)))) fun _ _=>?_;refine dk ?_;refine dt 11 ?_;exact AY
 exact AB
structure DrS where
 x:NE
 z:NV
 a:ai
 c:Nat
 F:ak
structure DrK where
 k:Nat
 z:NV
 a:ai
 c:Nat
 F:ak
theorem rdQ {w:World} {t:TypeId} {a:ai} {n c:Nat} {l:List (List Ar)} {F:ak} (h:(Pc.ow (Jo Ap 103) t (ab a n c) l F).P w):∃F',(Pc.sl (Nr Ap EN) (ab a n c) l F').P w:=by
 obtain ⟨F', -,hs⟩:=h.2.sl (So (Ny.refl Ap) EN _);exact ⟨F',EN,hs⟩
theorem Zk (l:List (List Ar)) (a:ai) (c:Nat) (F:ak) (hl:l.length<=8) (hq:∀q∈l,q.length<=6):FV 45 [ab a l.length c] [.sl (Nr Ap EN) (ab a l.length c) l F] (aa ((qd l:Nat):Int)):=by
 refine enter func45 rfl ntmps45 fun w0=>?_;refine go ?_;refine Ei [6,7] (fun k:Nat=>[(3,aa ((qd (l.take k):Nat):Int)),(8,aa (k:Nat))]) (fun k=>k<=l.length) (fun k=>l.length - k) 0 (aD _) fun k hk=>?_;have h6:=Zj hq k;refine go ?_;refine Bf rfl (fun h1=>?_) (fun h1=>?_)
 ·have hh:k < l.length:=EM
  have h7:=hq l[k] (aE hh);refine O0 (E:=Ap) (hz:=EN) (xs:=l) k ?_;rintro hi6 b6 o6 a11 c11 F11 rfl l11;refine go ?_;rw [show ((qd (l.take k):Nat):Int)+(l[k].length:Int)=((qd (l.take (k+1)):Nat):Int) by rw [Aws hh];omega];refine Cv (k+1) hh GP
 ·obtain rfl:k=l.length:=EM
  refine go ?_;refine ret () trivial ?_;rw [bG];rfl
theorem Aqh {n:Du} {s:Gf} (hg:At n=true) (hs:D5 s=true):n.Ao.Ad.length=(Ha n (Bm n s)).Ao.Ad.length/\n.Ai.length=(Ha n (Bm n s)).Ai.length/\n.Ah.length=(Ha n (Bm n s)).Ah.length/\n.down.length=(Ha n (Bm n s)).down.length/\n.up.length=(Ha n (Bm n s)).up.length:=by
 cases e:Bm n s with
 | none=>exact ⟨rfl,rfl,rfl,rfl,rfl⟩
 | some r=>exact Am1 hg (Kk hg hs e) (P4 e)
theorem Ah2 (n:Du) (s:Gf) (g:Nat) (a1:ai) (c1:Nat) (F1:ak) (a2:ai) (c2:Nat) (F2:ak) (a3:ai) (c3:Nat) (F3:ak) (a4:ai) (c4:Nat) (F4:ak) (a5:ai) (c5:Nat) (F5:ak) (a6:ai) (c6:Nat) (F6:ak) (a7:ai) (c7:Nat) (F7:ak) (FT:ak) (hg:At n=true) (hs:D5 s=true) (hss:s.data.size<=maxLen) :
  Fn prog 41 [Fv g 0 0,.agg #[aa (s).Bd,aa (s).node,af (s).data]] [Nx FT] [.row g 37 0 [] [ab a1 n.Ao.Ad.length c1,aa n.Ac.Aa.Al,aa n.Ac.Aa.size,ab a2 n.Ac.Aa.An.length c2,aa n.Ac.Ae,aa n.Ac.quiet,ab a3 n.Ac.holds.length c3,ab a4 n.Ai.length c4,ab a5 n.Ah.length c5,ab a6 n.down.length c6,ab a7 n.up.length c7] [],.ow Bi 3 (ab a1 n.Ao.Ad.length c1) n.Ao.Ad F1,.ow Bc 9 (ab a2 n.Ac.Aa.An.length c2) n.Ac.Aa.An F2,.ow Bx 130 (ab a3 n.Ac.holds.length c3) n.Ac.holds F3,.ow Ck 76 (ab a4 n.Ai.length c4) n.Ai F4,.ow Ca 83 (ab a5 n.Ah.length c5) n.Ah F5,.ow (Jo Ap 103) 85 (ab a6 n.down.length c6) n.down F6,.ow (Jo Ap 103) 85 (ab a7 n.up.length c7) n.up F7] (fun (_:NV × KA)=>True) (fun z=>.tuple #[.slice z.2.a (Zh (Bm n s)).length z.2.c,.bool (Bm n s).isSome]) (fun z=>[.row g 37 0 [] [.slice z.1.a1 (Ha n (Bm n s)).Ao.Ad.length z.1.c1,aa (Ha n (Bm n s)).Ac.Aa.Al,aa (Ha n (Bm n s)).Ac.Aa.size,.slice z.1.a2 (Ha n (Bm n s)).Ac.Aa.An.length z.1.c2,aa (Ha n (Bm n s)).Ac.Ae,aa (Ha n (Bm n s)).Ac.quiet,.slice z.1.a3 (Ha n (Bm n s)).Ac.holds.length z.1.c3,.slice z.1.a4 (Ha n (Bm n s)).Ai.length z.1.c4,.slice z.1.a5 (Ha n (Bm n s)).Ah.length z.1.c5,.slice z.1.a6 (Ha n (Bm n s)).down.length z.1.c6,.slice z.1.a7 (Ha n (Bm n s)).up.length z.1.c7] [],.ow Bi 3 (.slice z.1.a1 (Ha n (Bm n s)).Ao.Ad.length z.1.c1) (Ha n (Bm n s)).Ao.Ad z.1.F1,.ow Bc 9 (.slice z.1.a2 (Ha n (Bm n s)).Ac.Aa.An.length z.1.c2) (Ha n (Bm n s)).Ac.Aa.An z.1.F2,.ow Bx 130 (.slice z.1.a3 (Ha n (Bm n s)).Ac.holds.length z.1.c3) (Ha n (Bm n s)).Ac.holds z.1.F3,.ow Ck 76 (.slice z.1.a4 (Ha n (Bm n s)).Ai.length z.1.c4) (Ha n (Bm n s)).Ai z.1.F4,.ow Ca 83 (.slice z.1.a5 (Ha n (Bm n s)).Ah.length z.1.c5) (Ha n (Bm n s)).Ah z.1.F5,.ow (Jo Ap 103) 85 (.slice z.1.a6 (Ha n (Bm n s)).down.length z.1.c6) (Ha n (Bm n s)).down z.1.F6,.ow (Jo Ap 103) 85 (.slice z.1.a7 (Ha n (Bm n s)).up.length z.1.c7) (Ha n (Bm n s)).up z.1.F7,.ow Bc 9 (.slice z.2.a (Zh (Bm n s)).length z.2.c) (Zh (Bm n s)) z.2.F]):=by
 obtain ⟨k1,k2,k3,k4,k5⟩:=Aqh hg hs;have h:=Azu n s g a1 c1 F1 a2 c2 F2 a3 c3 F3 a4 c4 F4 a5 c5 F5 a6 c6 F6 a7 c7 F7 FT hg hs hss;rw [<-k1,<-k2,<-k3,<-k4,<-k5];exact h
theorem Aqj {n:Du} (hg:At n=true) (hc:n.Ac.Ae < 9999):n.Ao.Ad.length=(Bv n).1.Ao.Ad.length/\n.Ai.length=(Bv n).1.Ai.length/\n.Ah.length=(Bv n).1.Ah.length/\n.down.length=(Bv n).1.down.length/\n.up.length=(Bv n).1.up.length:=Am1 hg (P5 hg hc) (Qv _ _)
theorem Azy (n:Du) (g:Nat) (a1:ai) (c1:Nat) (F1:ak) (a2:ai) (c2:Nat) (F2:ak) (a3:ai) (c3:Nat) (F3:ak) (a4:ai) (c4:Nat) (F4:ak) (a5:ai) (c5:Nat) (F5:ak) (a6:ai) (c6:Nat) (F6:ak) (a7:ai) (c7:Nat) (F7:ak) (FT:ak) (hg:At n=true) (hc:n.Ac.Ae < 9999) :
  Fn prog 22 [Fv g 0 0] [Nx FT] [.row g 37 0 [] [ab a1 n.Ao.Ad.length c1,aa n.Ac.Aa.Al,aa n.Ac.Aa.size,ab a2 n.Ac.Aa.An.length c2,aa n.Ac.Ae,aa n.Ac.quiet,ab a3 n.Ac.holds.length c3,ab a4 n.Ai.length c4,ab a5 n.Ah.length c5,ab a6 n.down.length c6,ab a7 n.up.length c7] [],.ow Bi 3 (ab a1 n.Ao.Ad.length c1) n.Ao.Ad F1,.ow Bc 9 (ab a2 n.Ac.Aa.An.length c2) n.Ac.Aa.An F2,.ow Bx 130 (ab a3 n.Ac.holds.length c3) n.Ac.holds F3,.ow Ck 76 (ab a4 n.Ai.length c4) n.Ai F4,.ow Ca 83 (ab a5 n.Ah.length c5) n.Ah F5,.ow (Jo Ap 103) 85 (ab a6 n.down.length c6) n.down F6,.ow (Jo Ap 103) 85 (ab a7 n.up.length c7) n.up F7] (fun (_:NV × KA)=>True) (fun z=>.slice z.2.a (Bv n).2.length z.2.c) (fun z=>[.row g 37 0 [] [.slice z.1.a1 (Bv n).1.Ao.Ad.length z.1.c1,aa (Bv n).1.Ac.Aa.Al,aa (Bv n).1.Ac.Aa.size,.slice z.1.a2 (Bv n).1.Ac.Aa.An.length z.1.c2,aa (Bv n).1.Ac.Ae,aa (Bv n).1.Ac.quiet,.slice z.1.a3 (Bv n).1.Ac.holds.length z.1.c3,.slice z.1.a4 (Bv n).1.Ai.length z.1.c4,.slice z.1.a5 (Bv n).1.Ah.length z.1.c5,.slice z.1.a6 (Bv n).1.down.length z.1.c6,.slice z.1.a7 (Bv n).1.up.length z.1.c7] [],.ow Bi 3 (.slice z.1.a1 (Bv n).1.Ao.Ad.length z.1.c1) (Bv n).1.Ao.Ad z.1.F1,.ow Bc 9 (.slice z.1.a2 (Bv n).1.Ac.Aa.An.length z.1.c2) (Bv n).1.Ac.Aa.An z.1.F2,.ow Bx 130 (.slice z.1.a3 (Bv n).1.Ac.holds.length z.1.c3) (Bv n).1.Ac.holds z.1.F3,.ow Ck 76 (.slice z.1.a4 (Bv n).1.Ai.length z.1.c4) (Bv n).1.Ai z.1.F4,.ow Ca 83 (.slice z.1.a5 (Bv n).1.Ah.length z.1.c5) (Bv n).1.Ah z.1.F5,.ow (Jo Ap 103) 85 (.slice z.1.a6 (Bv n).1.down.length z.1.c6) (Bv n).1.down z.1.F6,.ow (Jo Ap 103) 85 (.slice z.1.a7 (Bv n).1.up.length z.1.c7) (Bv n).1.up z.1.F7,.ow Bc 9 (.slice z.2.a (Bv n).2.length z.2.c) (Bv n).2 z.2.F]):=by
 obtain ⟨k1,k2,k3,k4,k5⟩:=Aqj hg hc;have h:=Amn n g a1 c1 F1 a2 c2 F2 a3 c3 F3 a4 c4 F4 a5 c5 F5 a6 c6 F6 a7 c7 F7 FT hg hc;rw [<-k1,<-k2,<-k3,<-k4,<-k5];exact h
theorem Ail (n:Du) (g:Nat) (a1:ai) (c1:Nat) (F1:ak) (a2:ai) (c2:Nat) (F2:ak) (a3:ai) (c3:Nat) (F3:ak) (a4:ai) (c4:Nat) (F4:ak) (a5:ai) (c5:Nat) (F5:ak) (a6:ai) (c6:Nat) (F6:ak) (a7:ai) (c7:Nat) (F7:ak) (FT:ak) (hg:At n=true) :
  Fn prog 21 [Fv g 0 0] [Nx FT] [.row g 37 0 [] [ab a1 n.Ao.Ad.length c1,aa n.Ac.Aa.Al,aa n.Ac.Aa.size,ab a2 n.Ac.Aa.An.length c2,aa n.Ac.Ae,aa n.Ac.quiet,ab a3 n.Ac.holds.length c3,ab a4 n.Ai.length c4,ab a5 n.Ah.length c5,ab a6 n.down.length c6,ab a7 n.up.length c7] [],.ow Bi 3 (ab a1 n.Ao.Ad.length c1) n.Ao.Ad F1,.ow Bc 9 (ab a2 n.Ac.Aa.An.length c2) n.Ac.Aa.An F2,.ow Bx 130 (ab a3 n.Ac.holds.length c3) n.Ac.holds F3,.ow Ck 76 (ab a4 n.Ai.length c4) n.Ai F4,.ow Ca 83 (ab a5 n.Ah.length c5) n.Ah F5,.ow (Jo Ap 103) 85 (ab a6 n.down.length c6) n.down F6,.ow (Jo Ap 103) 85 (ab a7 n.up.length c7) n.up F7] (fun (_:NV × KA)=>True) (fun z=>.slice z.2.a (Jk n).2.length z.2.c) (fun z=>[.row g 37 0 [] [.slice z.1.a1 (Jk n).1.Ao.Ad.length z.1.c1,aa (Jk n).1.Ac.Aa.Al,aa (Jk n).1.Ac.Aa.size,.slice z.1.a2 (Jk n).1.Ac.Aa.An.length z.1.c2,aa (Jk n).1.Ac.Ae,aa (Jk n).1.Ac.quiet,.slice z.1.a3 (Jk n).1.Ac.holds.length z.1.c3,.slice z.1.a4 (Jk n).1.Ai.length z.1.c4,.slice z.1.a5 (Jk n).1.Ah.length z.1.c5,.slice z.1.a6 (Jk n).1.down.length z.1.c6,.slice z.1.a7 (Jk n).1.up.length z.1.c7] [],.ow Bi 3 (.slice z.1.a1 (Jk n).1.Ao.Ad.length z.1.c1) (Jk n).1.Ao.Ad z.1.F1,.ow Bc 9 (.slice z.1.a2 (Jk n).1.Ac.Aa.An.length z.1.c2) (Jk n).1.Ac.Aa.An z.1.F2,.ow Bx 130 (.slice z.1.a3 (Jk n).1.Ac.holds.length z.1.c3) (Jk n).1.Ac.holds z.1.F3,.ow Ck 76 (.slice z.1.a4 (Jk n).1.Ai.length z.1.c4) (Jk n).1.Ai z.1.F4,.ow Ca 83 (.slice z.1.a5 (Jk n).1.Ah.length z.1.c5) (Jk n).1.Ah z.1.F5,.ow (Jo Ap 103) 85 (.slice z.1.a6 (Jk n).1.down.length z.1.c6) (Jk n).1.down z.1.F6,.ow (Jo Ap 103) 85 (.slice z.1.a7 (Jk n).1.up.length z.1.c7) (Jk n).1.up z.1.F7,.ow Bc 9 (.slice z.2.a (Jk n).2.length z.2.c) (Jk n).2 z.2.F]):=by
 have hwn:=Aur hg;refine enter func21 rfl ntmps21 fun w0=>?_;refine B4 Bc 9 ?_;refine go ?_
 refine Cu [0] (fun s:DrS=>[(3,ab s.a s.x.2.length s.c)]) (fun s=>[.row g 37 0 [] [ab s.z.a1 s.x.1.Ao.Ad.length s.z.c1,aa s.x.1.Ac.Aa.Al,aa s.x.1.Ac.Aa.size,ab s.z.a2 s.x.1.Ac.Aa.An.length s.z.c2,aa s.x.1.Ac.Ae,aa s.x.1.Ac.quiet,ab s.z.a3 s.x.1.Ac.holds.length s.z.c3,ab s.z.a4 s.x.1.Ai.length s.z.c4,ab s.z.a5 s.x.1.Ah.length s.z.c5,ab s.z.a6 s.x.1.down.length s.z.c6,ab s.z.a7 s.x.1.up.length s.z.c7] [],.ow Bi 3 (ab s.z.a1 s.x.1.Ao.Ad.length s.z.c1) s.x.1.Ao.Ad s.z.F1,.ow Bc 9 (ab s.z.a2 s.x.1.Ac.Aa.An.length s.z.c2) s.x.1.Ac.Aa.An s.z.F2,.ow Bx 130 (ab s.z.a3 s.x.1.Ac.holds.length s.z.c3) s.x.1.Ac.holds s.z.F3,.ow Ck 76 (ab s.z.a4 s.x.1.Ai.length s.z.c4) s.x.1.Ai s.z.F4,.ow Ca 83 (ab s.z.a5 s.x.1.Ah.length s.z.c5) s.x.1.Ah s.z.F5,.ow (Jo Ap 103) 85 (ab s.z.a6 s.x.1.down.length s.z.c6) s.x.1.down s.z.F6,.ow (Jo Ap 103) 85 (ab s.z.a7 s.x.1.up.length s.z.c7) s.x.1.up s.z.F7,.ow Bc 9 (ab s.a s.x.2.length s.c) s.x.2 s.F]) (fun s=>Uj (n,[]) s.x/\drE s.x=Jk n) (fun s=>wN s.x.1) ⟨(n,[]),⟨a1,c1,F1,a2,c2,F2,a3,c3,F3,a4,c4,F4,a5,c5,F5,a6,c6,F6,a7,c7,F7⟩,none,0,[]⟩ ⟨.refl hg,rfl⟩ fun s hs0=>?_
 obtain ⟨x,⟨x1,w1,K1,x2,w2,K2,x3,w3,K3,x4,w4,K4,x5,w5,K5,x6,w6,K6,x7,w7,K7⟩,ea,ec,eF⟩:=s;obtain ⟨fx,hR⟩:=hs0;dsimp only at fx hR ⊢;have hG:=Av.1 fx.g;have h8:=Ev hG.t;have hn8:=h8.n1;have hn2:=h8.n0;obtain ⟨q1,q2,q3,q4⟩:=Bk.1 hG.l;obtain ⟨-, -,hd6,hu6⟩:=Mk fx.g;have hd6:∀q∈x.1.down,q.length<=6:=fun q hq=>(Ga (hd6 q hq)).1;have hu6:∀q∈x.1.up,q.length<=6:=fun q hq=>(Ga (hu6 q hq)).1;have hb1:=Zj hd6 x.1.down.length;have hb2:=Zj hu6 x.1.up.length;rw [bG] at hb1 hb2;have hev:=fx.e;simp only [aV] at hev;refine go ?_;refine As [0] [] ?_;refine D7 0 1 2 3 ?_
 refine D7 5 6 7 8 ?_;refine dN 4 ?_;refine oC ?_;refine cfr (fun w st=>by obtain ⟨Fq,hq⟩:=rdQ (st.get (p:=.ow (Jo Ap 103) 85 (ab x6 x.1.down.length w6) x.1.down K6) EQ);exact ⟨_,I0 hq,rfl,Zk _ _ _ Fq EM GJ⟩) (fun _ _=>?_);refine Q3 ?_;refine dk ?_;refine dN 9 ?_;refine oC ?_;refine cfr (fun w st=>by obtain ⟨Fq,hq⟩:=rdQ (st.get (p:=.ow (Jo Ap 103) 85 (ab x7 x.1.up.length w7) x.1.up K7) EQ);exact ⟨_,I0 hq,rfl,Zk _ _ _ Fq EM GJ⟩) (fun _ _=>?_);refine Q3 ?_;refine dk ?_;refine Ek 10 11 ?_;refine dd ?_;refine go ?_
 refine Bf rfl (fun h1=>?_) (fun h1=>?_)
 ·have hq0:¬Wp x.1=0:=by unfold Wp;omega
  obtain ⟨fR,hw⟩:=L8 fx.g;have hw:=hw hq0;refine go ?_
  refine Cu [0,24] (fun y:DrK=>[(3,.slice y.a (Ey x y.k).2.length y.c),(25,aa (y.k:Nat))]) (fun y=>[.row g 37 0 [] [.slice y.z.a1 (Ey x y.k).1.Ao.Ad.length y.z.c1,aa (Ey x y.k).1.Ac.Aa.Al,aa (Ey x y.k).1.Ac.Aa.size,.slice y.z.a2 (Ey x y.k).1.Ac.Aa.An.length y.z.c2,aa (Ey x y.k).1.Ac.Ae,aa (Ey x y.k).1.Ac.quiet,.slice y.z.a3 (Ey x y.k).1.Ac.holds.length y.z.c3,.slice y.z.a4 (Ey x y.k).1.Ai.length y.z.c4,.slice y.z.a5 (Ey x y.k).1.Ah.length y.z.c5,.slice y.z.a6 (Ey x y.k).1.down.length y.z.c6,.slice y.z.a7 (Ey x y.k).1.up.length y.z.c7] [],.ow Bi 3 (.slice y.z.a1 (Ey x y.k).1.Ao.Ad.length y.z.c1) (Ey x y.k).1.Ao.Ad y.z.F1,.ow Bc 9 (.slice y.z.a2 (Ey x y.k).1.Ac.Aa.An.length y.z.c2) (Ey x y.k).1.Ac.Aa.An y.z.F2,.ow Bx 130 (.slice y.z.a3 (Ey x y.k).1.Ac.holds.length y.z.c3) (Ey x y.k).1.Ac.holds y.z.F3,.ow Ck 76 (.slice y.z.a4 (Ey x y.k).1.Ai.length y.z.c4) (Ey x y.k).1.Ai y.z.F4,.ow Ca 83 (.slice y.z.a5 (Ey x y.k).1.Ah.length y.z.c5) (Ey x y.k).1.Ah y.z.F5,.ow (Jo Ap 103) 85 (.slice y.z.a6 (Ey x y.k).1.down.length y.z.c6) (Ey x y.k).1.down y.z.F6,.ow (Jo Ap 103) 85 (.slice y.z.a7 (Ey x y.k).1.up.length y.z.c7) (Ey x y.k).1.up y.z.F7,.ow Bc 9 (.slice y.a (Ey x y.k).2.length y.c) (Ey x y.k).2 y.F]) (fun y=>y.k<=x.1.Ao.Ad.length) (fun y=>x.1.Ao.Ad.length - y.k) ⟨0,⟨x1,w1,K1,x2,w2,K2,x3,w3,K3,x4,w4,K4,x5,w5,K5,x6,w6,K6,x7,w7,K7⟩,ea,ec,eF⟩ (aD _) fun y hy0=>?_
  obtain ⟨j,⟨x1,w1,K1,x2,w2,K2,x3,w3,K3,x4,w4,K4,x5,w5,K5,x6,w6,K6,x7,w7,K7⟩,ya,yc,yF⟩:=y;dsimp only at hy0 ⊢;have fJ:=Abw fx.g j hy0;have fX:=fx.trans fJ;generalize hX:Ey x j=X at fJ fX ⊢;refine go ?_;refine Bf rfl (fun h2=>?_) (fun h2=>?_)
  ·have hj:j < x.1.Ao.Ad.length:=EM
   have hXt:X.1.Ao.Ad.length=x.1.Ao.Ad.length:=by rw [fJ.t]
   have hG:=Av.1 fX.g;obtain ⟨q1,q2,q3,q4⟩:=Bk.1 hG.l;have hjd:j < X.1.down.length:=EM
   have hsd:=S0 (n:=X.1) (i:=j) EM;rw [N2 hjd] at hsd;have hz1:=Abs fX.g;have hev2:=fX.e;simp only [aV] at hev2;refine go ?_;refine Aae (xs:=X.1.down) (m:=1) j ?_ rfl EM;rintro _ g6 A6 cs6 B6 p6 q6 G6 Gi6 H6 e6 - hc6 hH6;rw [e6];refine Wo ?_;rintro a6 c6 ev6 l6;obtain rfl:=Oe ev6;refine go ?_;refine Bf rfl (fun h4=>?_) (fun h4=>?_)
   ·have j1:1<=j:=by
     rcases bQ j with rfl|h
     ·have:=hz1.1;rw [N2 hjd] at this;omega
     ·exact h
    have ok:=Apw j1 EM;refine Lo X.1.down[j] ?_;refine Vb _ hH6 rfl fun J6=>?_;rw [bu];refine go ?_;refine Bw (Ah2 X.1 (Gz j) g x1 w1 K1 x2 w2 K2 x3 w3 K3 x4 w4 K4 x5 w5 K5 _ w6 J6 x7 w7 K7 FT fX.g ok (aD _)) fun z _=>?_;have hfe:=fX.trans (Azz fX.g (i:=j) EM);have hfe2:=hfe.e;have htl:(J0 X (Gz j)).2.length=X.2.length+(Zh (Bm X.1 (Gz j))).length:=aw;simp only [aV] at hfe2;refine Az (E:=Bc) (xs:=Zh (Bm X.1 (Gz j))) fun F8=>?_;refine go ?_;apply wO;refine M0 (E:=Bc) (xs:=X.2) (ys:=Zh (Bm X.1 (Gz j))) Ej Gp fun a9 c9 F9=>?_
    generalize hX1:J0 X (Gz j)=X1 at hfe hfe2 htl;rw [show X.2++Zh (Bm X.1 (Gz j))=X1.2 by rw [<-hX1];rfl,show Ha X.1 (Bm X.1 (Gz j))=X1.1 by rw [<-hX1];rfl];have fX1:Uj X X1:=by rw [<-hX1];exact Azz fX.g (by rw [hXt];exact hj)
    have hG1:=Av.1 fX1.g;obtain ⟨r1,r2,r3,r4⟩:=Bk.1 hG1.l;have hX1t:X1.1.Ao.Ad.length=x.1.Ao.Ad.length:=by rw [fX1.t];exact hXt
    have hju:j < X1.1.up.length:=EM
    have hsu:=Rb (n:=X1.1) (i:=j) EM;rw [N2 hju] at hsu;have hz0:=Abs fX1.g;refine go ?_;refine Aae (xs:=X1.1.up) (m:=1) j ?_ rfl EM;rintro _ g7 A7 cs7 B7 p7 q7 G7 Gi7 H7 e7 - hc7 hH7;rw [e7];refine Wo ?_;rintro a7 c7 ev7 l7;obtain rfl:=Oe ev7;refine go ?_;refine Bf rfl (fun h3=>?_) (fun h3=>?_)
    ·have j1:1<=j:=by
      rcases bQ j with rfl|h
      ·have:=hz0.2;rw [N2 hju] at this;omega
      ·exact h
     have ok:=Alu j1 EM;have hnx:Ey x (j+1)=(Ha X1.1 (Bm X1.1 (Jw j)),X1.2):=by
      show J0 (J0 (Ey x j) (Gz j)) (Jw j)=_;rw [hX,hX1];exact Prod.ext rfl (Az0 fX1.g (i:=j) EM).2
     refine Lo X1.1.up[j] ?_;refine Vb _ hH7 rfl fun J7=>?_;rw [bu];refine go ?_;refine Bw (Ah2 X1.1 (Jw j) g z.1.a1 z.1.c1 z.1.F1 z.1.a2 z.1.c2 z.1.F2 z.1.a3 z.1.c3 z.1.F3 z.1.a4 z.1.c4 z.1.F4 z.1.a5 z.1.c5 z.1.F5 z.1.a6 z.1.c6 z.1.F6 _ z.1.c7 J7 FT fX1.g ok (aD _)) fun y _=>?_;refine go ?_
     refine Cv ⟨j+1,⟨y.1.a1,y.1.c1,y.1.F1,y.1.a2,y.1.c2,y.1.F2,y.1.a3,y.1.c3,y.1.F3,y.1.a4,y.1.c4,y.1.F4,y.1.a5,y.1.c5,y.1.F5,y.1.a6,y.1.c6,y.1.F6,y.1.a7,y.1.c7,y.1.F7⟩,a9,c9,F9⟩ JQ FR FJ FI
    ·have hnx:Ey x (j+1)=X1:=by
      show J0 (J0 (Ey x j) (Gz j)) (Jw j)=_;rw [hX,hX1];exact Ix (by rw [hsu,ar EM])
     refine Lo X1.1.up[j] ?_;refine Vb _ hH7 rfl fun J7=>?_;rw [bu];refine go ?_;refine Cv ⟨j+1,⟨z.1.a1,z.1.c1,z.1.F1,z.1.a2,z.1.c2,z.1.F2,z.1.a3,z.1.c3,z.1.F3,z.1.a4,z.1.c4,z.1.F4,z.1.a5,z.1.c5,z.1.F5,z.1.a6,z.1.c6,z.1.F6,_,z.1.c7,J7⟩,a9,c9,F9⟩ JQ FR FJ FI
   ·have htn:J0 X (Gz j)=X:=Ix (by rw [hsd,ar EM]);refine Lo X.1.down[j] ?_;refine Vb _ hH6 rfl fun J6=>?_;rw [bu];obtain ⟨X1,hX1⟩:∃X1,J0 X (Gz j)=X1:=⟨_,rfl⟩;have hXX:X1=X:=by rw [<-hX1,htn]
    subst hXX;have fX1:Uj X1 X1:=.refl fX.g;have hG1:=Av.1 fX1.g;obtain ⟨r1,r2,r3,r4⟩:=Bk.1 hG1.l;have hX1t:X1.1.Ao.Ad.length=x.1.Ao.Ad.length:=by rw [fX1.t];exact hXt
    have hju:j < X1.1.up.length:=EM
    have hsu:=Rb (n:=X1.1) (i:=j) EM;rw [N2 hju] at hsu;have hz0:=Abs fX1.g;refine go ?_;refine Aae (xs:=X1.1.up) (m:=1) j ?_ rfl EM;rintro _ g7 A7 cs7 B7 p7 q7 G7 Gi7 H7 e7 - hc7 hH7;rw [e7];refine Wo ?_;rintro a7 c7 ev7 l7;obtain rfl:=Oe ev7;refine go ?_;refine Bf rfl (fun h3=>?_) (fun h3=>?_)
    ·have j1:1<=j:=by
      rcases bQ j with rfl|h
      ·have:=hz0.2;rw [N2 hju] at this;omega
      ·exact h
     have ok:=Alu j1 EM;have hnx:Ey x (j+1)=(Ha X1.1 (Bm X1.1 (Jw j)),X1.2):=by
      show J0 (J0 (Ey x j) (Gz j)) (Jw j)=_;rw [hX,hX1];exact Prod.ext rfl (Az0 fX1.g (i:=j) EM).2
     refine Lo X1.1.up[j] ?_;refine Vb _ hH7 rfl fun J7=>?_;rw [bu];refine go ?_;refine Bw (Ah2 X1.1 (Jw j) g x1 w1 K1 x2 w2 K2 x3 w3 K3 x4 w4 K4 x5 w5 K5 _ w6 J6 _ w7 J7 FT fX1.g ok (aD _)) fun y _=>?_;refine go ?_;refine Cv ⟨j+1,⟨y.1.a1,y.1.c1,y.1.F1,y.1.a2,y.1.c2,y.1.F2,y.1.a3,y.1.c3,y.1.F3,y.1.a4,y.1.c4,y.1.F4,y.1.a5,y.1.c5,y.1.F5,y.1.a6,y.1.c6,y.1.F6,y.1.a7,y.1.c7,y.1.F7⟩,ya,yc,yF⟩ JQ FR FJ FI
    ·have hnx:Ey x (j+1)=X1:=by
      show J0 (J0 (Ey x j) (Gz j)) (Jw j)=_;rw [hX,hX1];exact Ix (by rw [hsu,ar EM])
     refine Lo X1.1.up[j] ?_;refine Vb _ hH7 rfl fun J7=>?_;rw [bu];refine go ?_;refine Cv ⟨j+1,⟨x1,w1,K1,x2,w2,K2,x3,w3,K3,x4,w4,K4,x5,w5,K5,_,w6,J6,_,w7,J7⟩,ya,yc,yF⟩ JQ FR FJ FI
  ·obtain rfl:j=x.1.Ao.Ad.length:=EM
   have hX:=hX;rw [Al1 fx.g] at hX;refine go ?_;refine Cv ⟨X,⟨x1,w1,K1,x2,w2,K2,x3,w3,K3,x4,w4,K4,x5,w5,K5,x6,w6,K6,x7,w7,K7⟩,ya,yc,yF⟩ ⟨fX,by rw [<-hR,Ac9 fx.g hq0,hX]⟩ (by show wN X.1 < wN x.1;rw [<-hX];exact hw)
 ·have hq0:Wp x.1=0:=by unfold Wp;omega
  rw [Yu hq0] at hR;rw [hR];exact ED
end Go.Proofs.YtmckdnddocfodaaGreatDoor
namespace Go.Proofs.YtmckdnddocfodaaGreatDoor

open Go.RowKit
end Go.Proofs.YtmckdnddocfodaaGreatDoor
