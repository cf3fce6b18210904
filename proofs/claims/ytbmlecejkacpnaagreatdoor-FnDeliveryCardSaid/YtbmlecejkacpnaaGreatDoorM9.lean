/- Part 9 of the proof: 23 texts, one behind the other. -/
import Derived.Laws.StructEq
import Derived.Test.YtbmlecejkacpnaaGreatDoorM8
open _root_.Go.Proofs.Tryz
set_option maxRecDepth 100000
set_option maxHeartbeats 8000000
set_option linter.all false
set_option linter.unusedVariables false
set_option linter.unusedSimpArgs false
namespace Go.Proofs.YtbmlecejkacpnaaGreatDoor
open Go.RowKit
open Go.RowKit
theorem Ac2 {α:Type} {E:Br α} {w:World}:∀{ys:List (List Value)} {xs:List α} {G:List Nat},Cq E w ys.flatten xs G→(∀y∈ys,y.length=E.sz)→∀i (h1:i < ys.length) (h2:i < xs.length),∃Gi,E.Jr w ys[i] xs[i] Gi∧∀b∈Gi,b∈G
 | [],_,_,_,_,i,h1,_=>by simp at h1
 | y::r,[],_,_,_,i,_,h2=>by simp at h2
 | y::r,x::s,G,h,hm,i,h1,h2=>by
  obtain ⟨c1,c2,F1,F2,e,rfl,hr,hs⟩:=h
  rw [List.flatten_cons] at e
  obtain ⟨e1,e2⟩:=List.append_inj e (by rw [hm y (by simp),E.len hr])
  subst e1 e2
  cases i with
  | zero=>exact ⟨F1,hr,fun b hb=>by simp [hb]⟩
  | succ j =>
   obtain ⟨Gi,g1,g2⟩:=Ac2 hs (fun z hz=>hm z (by simp [hz])) j (by simpa using h1) (by simpa using h2)
   exact ⟨Gi,g1,fun b hb=>by simp [g2 b hb]⟩
theorem Z7 {α:Type} {E:Br α} {w:World} {cs:List Value} {x:α} {G2:List Nat} (hx:E.Jr w cs x G2):∀{ys:List (List Value)} {xs:List α} {G:List Nat},Cq E w ys.flatten xs G→(∀y∈ys,y.length=E.sz)→ys.length=xs.length→∀i,∃G',Cq E w (ys.set i cs).flatten (xs.set i x) G'∧∀b∈G',b∈G∨b∈G2
 | [],[],G,h,_,_,i=>⟨G,h,fun b hb=>.inl hb⟩
 | [],y::r,_,_,_,hl,_=>by simp at hl
 | y::r,[],_,_,_,hl,_=>by simp at hl
 | y::r,x1::s,G,h,hm,hl,i=>by
  obtain ⟨c1,c2,F1,F2,e,rfl,hr,hs⟩:=h
  rw [List.flatten_cons] at e
  obtain ⟨e1,e2⟩:=List.append_inj e (by rw [hm y (by simp),E.len hr])
  subst e1 e2
  cases i with
  | zero=>exact ⟨G2++F2,⟨cs,r.flatten,G2,F2,by simp,rfl,hx,hs⟩,fun b hb=>by rcases List.mem_append.1 hb with hb|hb;exact .inr hb;exact .inl (by simp [hb])⟩
  | succ j =>
   obtain ⟨G',g1,g2⟩:=Z7 hx hs (fun z hz=>hm z (by simp [hz])) (by simpa using hl) j
   refine ⟨F1++G',⟨y,(r.set j cs).flatten,F1,G',by simp,rfl,hr,g1⟩,fun b hb=>?_⟩
   rcases List.mem_append.1 hb with hb|hb
   ·exact .inl (by simp [hb])
   ·rcases g2 b hb with h|h
    ·exact .inl (by simp [h])
    ·exact .inr h
section
variable {c:Cx} {fr:Fr} {H:List Pc} {Φ:Gl}
theorem Ed {m:Nat} {t:TypeId} {a:Option Addr} {n cp:Nat} {ys:List (List Value)} {F:List Nat} (h:(∀y∈ys,y.length=m)→ys.length=n→T c fr H Φ) (hp:.ow (EC m) t (.slice a n cp) ys F∈H:=by exact B8):T c fr H Φ:=.mk fun ac w s g=>by
 obtain ⟨hnd,ho⟩:=s.get hp
 have key:(∀y∈ys,y.length=m)∧ys.length=n:=by
  rcases ho with ⟨e,rfl, -⟩|⟨b,cap,cs,rest,G,e,h2,h3,h4,h5,h6, -⟩
  ·cases e;exact ⟨by simp,rfl⟩
  ·cases e;exact ⟨(Abi h6).2.2,rfl⟩
 exact (h key.1 key.2).h ac w s g
theorem Ap3 {α:Type} {E:Br α} {k:Nat} {v:Value} {xs:List α} {G:List Nat} (h:xs.length=k→T c fr H Φ) (hp:.isv (EA E k) v xs G∈H:=by exact B8):T c fr H Φ:=.mk fun ac w s g=>by
 obtain ⟨cs,e,hl,hf⟩:=s.get hp
 exact (h hl).h ac w s g
theorem Y3 {α:Type} {E:Br α} {k:Nat} {ys:List (List Value)} {xs:List α} {G:List Nat} (i:Nat) (hm:∀y∈ys,y.length=E.sz) (hl:ys.length=xs.length) (h1:i < ys.length) (h:∀(h1:i < ys.length) (h2:i < xs.length) Gi,T c fr (.isv E (.agg ys[i].toArray) xs[i] Gi::H) Φ) (hp:.isv (EA E k) (.agg ys.flatten.toArray) xs G∈H:=by exact B8):T c fr H Φ:=.mk fun ac w s g=>by
 obtain ⟨cs,e, -,hf⟩:=s.get hp
 obtain rfl:ys.flatten=cs:=by simpa using e
 obtain ⟨Gi,g1,g2⟩:=Ac2 hf hm i h1 (by omega)
 exact (h h1 (by omega) Gi).h ac w (s.ro hp rfl rfl ⟨_,rfl,g1⟩ g2) g
theorem Y4 {α:Type} {E:Br α} {k:Nat} {ys:List (List Value)} {xs:List α} {G:List Nat} (i:Nat) (hm:∀y∈ys,y.length=E.sz) (hl:ys.length=xs.length) (h1:i < ys.length) (h:∀(h1:i < ys.length) (h2:i < xs.length) v Gi,v=.agg ys[i].toArray→T c fr (.isv E v xs[i] Gi::H) Φ) (hp:.isv (EA E k) (.agg ys.flatten.toArray) xs G∈H:=by exact B8):T c fr H Φ:=Y3 i hm hl h1 (fun h1 h2 Gi=>h h1 h2 _ Gi rfl) hp
theorem M8 {α:Type} {E:Br α} {k:Nat} {ys:List (List Value)} {xs:List α} {G G2:List Nat} {v:Value} {cs:List Value} {x:α} (i:Nat) (hv:v=.agg cs.toArray) (hm:∀y∈ys,y.length=E.sz) (hl:ys.length=xs.length) (h:∀G',T c fr (.isv (EA E k) (.agg (ys.set i cs).flatten.toArray) (xs.set i x) G'::H) Φ) (hp:.isv (EA E k) (.agg ys.flatten.toArray) xs G∈H:=by exact B8) (hp2:.isv E v x G2∈H:=by exact B8):T c fr H Φ:=.mk fun ac w s g=>by
 subst hv
 obtain ⟨c1,e,hk,hf⟩:=s.get hp
 obtain rfl:ys.flatten=c1:=by simpa using e
 obtain ⟨c2,e2,hx⟩:=s.get hp2
 obtain rfl:cs=c2:=by simpa using e2
 obtain ⟨G',g1,g2⟩:=Z7 hx hf hm hl i
 refine (h G').h ac w (s.add (N:=[.isv (EA E k) (.agg (ys.set i cs).flatten.toArray) (xs.set i x) G']) (Below.refl _ _) (by intro p hq;rw [List.mem_singleton] at hq;subst hq;exact ⟨_,rfl,by simpa using hk,g1⟩) ⟨by simp,trivial⟩ ?_) g
 intro p hq z hb
 rw [List.mem_singleton] at hq;subst hq
 rcases g2 z hb with hb|hb
 ·exact .inr ⟨rfl,_,hp,rfl,hb⟩
 ·exact .inr ⟨rfl,_,hp2,rfl,hb⟩
theorem Ve {α:Type} {E:Br α} {hz:0 < E.sz} {v:Value} {x:List α} {G:List Nat} (h:∀a1 c1,v=.agg #[.slice a1 x.length c1]→x.length≤maxLen→T c fr (.sl E (.slice a1 x.length c1) x G::H) Φ) (hp:.isv (Ly E hz) v x G∈H:=by exact B8):T c fr H Φ:=.mk fun ac w s g=>by
 obtain ⟨cs,rfl,v1,rfl,h1⟩:=s.get hp
 obtain ⟨a1,c1,rfl⟩:=h1.slice
 exact (h a1 c1 rfl h1.len).h ac w (s.ro hp rfl rfl ⟨hz,h1⟩ fun b hb=>hb) g
theorem Tw {α:Type} {E:Br α} {v:Value} {x:List α} {G:List Nat} (hz:0 < E.sz) (h:T c fr (.isv (Ly E hz) (.agg #[v]) x G::H) Φ) (hp:.sl E v x G∈H:=by exact B8):T c fr H Φ:=.mk fun ac w s g=>by
 obtain ⟨-,h1⟩:=s.get hp
 exact h.h ac w (s.ro hp rfl rfl ⟨[v],rfl,v,rfl,h1⟩ fun b hb=>hb) g
end
end Go.Proofs.YtbmlecejkacpnaaGreatDoor
namespace Go.Proofs.YtbmlecejkacpnaaGreatDoor
open Go.RowKit
theorem Aic {q ps:List As} {k:Nat} (h:6≤(Eq q (ps.take k)).length):Eq q (ps.take k)=Eq q ps:=by
 unfold Eq at *
 rw [List.length_append,List.length_take,List.length_take] at h
 rw [List.take_take]
 congr 1
 by_cases h6:6≤q.length
 ·rw [show min (6 - q.length) k=6 - q.length by omega]
 ·by_cases hk:6 - q.length≤k
  ·rw [show min (6 - q.length) k=6 - q.length by omega]
  ·rw [show min (6 - q.length) k=k by omega,List.take_of_length_le (by omega),List.take_of_length_le (by omega)]
theorem Aid {q ps:List As} {k:Nat} (hk:k < ps.length) (h:(Eq q (ps.take k)).length < 6):Eq q (ps.take (k+1))=Eq q (ps.take k)++[ps[k]]:=by
 rw [List.take_succ_eq_append_getElem hk,Aaw]
 unfold P8;rw [if_pos h]
theorem Yk (q ps:List As) (a:Option Addr) (c:Nat) (F:List Nat) (a2:Option Addr) (c2:Nat) (F2:List Nat) (hq:q.length≤1000000):Fn prog 155 [.slice a q.length c,.slice a2 ps.length c2] [.sl Al (.slice a q.length c) q F,.sl Al (.slice a2 ps.length c2) ps F2] [] (fun (_:KA)=>True) (fun z=>.slice z.a (Eq q ps).length z.c) (fun z=>[.ow Al 108 (.slice z.a (Eq q ps).length z.c) (Eq q ps) z.F]):=by
 refine enter func155 rfl ntmps155 fun w0=>?_
 refine Wy (E:=Al) (xs:=ps) ?_
 rintro _ _ e0 hn1 hn2
 refine Ab2 (E:=Al) (xs:=ps) (fun p:As=>p.data.size≤maxLen) (fun w cs x F h=>by obtain ⟨_,h,_⟩:=h;exact h) ?_
 intro hz
 cases e0
 refine go ?_;intros
 refine C6 Al ?_
 refine go ?_;intros
 apply wO
 refine Ku Gz I3 fun a3 c3 F3=>?_
 rw [List.nil_append]
 refine go ?_;intros
 have e0:Eq q (ps.take 0)=q:=by unfold Eq;simp
 refine Ck [1,4] (fun z:KA=>[(5,.slice z.a (Eq q (ps.take z.k)).length z.c),(6,.int .i64 (z.k:Nat))]) (fun z=>[.ow Al 108 (.slice z.a (Eq q (ps.take z.k)).length z.c) (Eq q (ps.take z.k)) z.F]) (fun z=>z.k≤ps.length) (fun z=>ps.length - z.k) ⟨0,a3,c3,F3⟩ (Nat.zero_le _) (fun z hz0=>?_) (hf:=by dsimp only;rw [e0];exact frE) (hH:=by dsimp only;rw [e0];exact Yr)
 have hql:(Eq q (ps.take z.k)).length≤q.length+ps.length:=by unfold Eq;rw [List.length_append,List.length_take,List.length_take];omega
 have hnn:ps.length≤9223372036854775807:=by omega
 refine go ?_;intros
 refine Ee rfl rfl (fun h1=>?_) (fun h1=>?_)
 ·have hk:z.k < ps.length:=by omega
  refine go ?_;intros
  refine Bf rfl (fun h2=>?_) (fun h2=>?_)
  ·have h6:(Eq q (ps.take z.k)).length < 6:=by omega
   have hpz:=hz _ (List.getElem_mem hk)
   refine Ok (xs:=ps) z.k ?_
   rintro hi3 b3 o3 e3 s3
   rw [e3]
   refine go ?_;intros
   apply wO
   refine Lh (ys:=[ps[z.k]]) (C4 ps[z.k] hpz) Gz fun a7 c7 F7=>?_
   rw [←Aid hk h6]
   refine go ?_;intros
   refine Ct ⟨z.k+1,a7,c7,F7⟩ hk (by show ps.length - (z.k+1) < ps.length - z.k;omega)
  ·rw [Aic (by omega)]
   refine go ?_;intros
   refine ret z trivial rfl
 ·rw [show ps.take z.k=ps from List.take_of_length_le (by omega)]
  refine go ?_;intros
  refine ret z trivial rfl
theorem Aku {q ps:List As} (h:q.length≤6):(Eq q ps).length≤6:=by unfold Eq;rw [List.length_append,List.length_take];omega
theorem Am4 {d:List (List As)} {i:Nat} {ps:List As} (h:∀q∈d,q.length≤6):∀q∈d.modify i (fun q=>Eq q ps),q.length≤6:=fun q hq=>by
 by_cases hi:i < d.length
 ·rw [Fb hi] at hq
  rcases List.mem_or_eq_of_mem_set hq with h'|rfl
  ·exact h q h'
  ·exact Aku (h _ (List.getElem_mem hi))
 ·rw [Tq hi] at hq;exact h q hq
theorem Y6 {ps:List As}:∀{nodes:List Int} {d:List (List As)},(∀q∈d,q.length≤6)→∀q∈Dd d nodes ps,q.length≤6
 | [],_,h=>h
 | x::r,d,h=>by
  show ∀q∈Dd (d.modify x.toNat fun q=>Eq q ps) r ps,q.length≤6
  exact Y6 (Am4 h)
structure ShZ where
 k:Nat
 ys:List (List Value)
 F:List Nat
 G:List Nat
theorem La (d:List (List As)) (nodes:List Int) (ps:List As) (a1 a2 a3 a4 a5 a7:Option Addr) (l1 c1 l2 c2 l3 c3 l4 c4 l5 c5 l7 c7:Nat) (w1 w2 w3 w4:Int) (a:Option Addr) (n c:Nat) (ys:List (List Value)) (F G:List Nat) (an:Option Addr) (cn:Nat) (Fn_:List Nat) (ap:Option Addr) (cp:Nat) (Fp:List Nat) (hx:∀x∈nodes,0≤x∧x.toNat < d.length) (hd:∀q∈d,q.length≤6) :
  Fn prog 91 [.agg #[.slice a1 l1 c1,.int .i64 w1,.int .i64 w2,.slice a2 l2 c2,.int .i64 w3,.int .i64 w4,.slice a3 l3 c3,.slice a4 l4 c4,.slice a5 l5 c5,.slice a n c,.slice a7 l7 c7],.slice an nodes.length cn,.slice ap ps.length cp] [.sl Bd (.slice an nodes.length cn) nodes Fn_,.sl Al (.slice ap ps.length cp) ps Fp,.isv (EA (Ly Al (by decide)) n) (.agg (ys).flatten.toArray) d G] [.ow (EC 1) 99 (.slice a n c) ys F] (fun (_:ShZ)=>True) (fun _=>.tuple #[]) (fun z=>[.ow (EC 1) 99 (.slice a n c) z.ys z.F,.isv (EA (Ly Al (by decide)) n) (.agg (z.ys).flatten.toArray) (Dd d nodes ps) z.G]):=by
 refine enter func91 rfl ntmps91 fun w0=>?_
 refine Wy (E:=Bd) (xs:=nodes) ?_
 rintro _ _ e0 hn1 hn2
 cases e0
 refine Ap3 (xs:=d) fun hdn=>?_
 refine go ?_;intros
 refine Ck [1,2,3] (fun z:ShZ=>[(6,.int .i64 (z.k:Nat))]) (fun z=>[.ow (EC 1) 99 (.slice a n c) z.ys z.F,.isv (EA (Ly Al (by decide)) n) (.agg (z.ys).flatten.toArray) (Dd d (nodes.take z.k) ps) z.G]) (fun z=>z.k≤nodes.length) (fun z=>nodes.length - z.k) ⟨0,ys,F,G⟩ (Nat.zero_le _) fun z hz0=>?_
 have hsl:=Tz ps (nodes.take z.k) d
 have hd6:=Y6 (ps:=ps) (nodes:=nodes.take z.k) hd
 refine go ?_;intros
 refine Bf rfl (fun h1=>?_) (fun h1=>?_)
 ·have hk:z.k < nodes.length:=by omega
  obtain ⟨x0,x1⟩:=hx _ (List.getElem_mem hk)
  obtain ⟨i,hi⟩:∃i:Nat,nodes[z.k]=((i:Nat):Int):=⟨nodes[z.k].toNat,by omega⟩
  have hil:i < (Dd d (nodes.take z.k) ps).length:=by omega
  have hst:=Wq (d:=d) (ps:=ps) hk
  rw [show nodes[z.k].toNat=i by omega] at hst
  unfold Np at hst
  rw [Fb hil] at hst
  have h6:=hd6 _ (List.getElem_mem hil)
  refine Je (xs:=nodes) z.k ?_
  rintro hi2 b o e1
  rw [e1,hi]
  refine Ed (ys:=z.ys) fun hm hl=>?_
  refine Y3 (ys:=z.ys) (xs:=Dd d (nodes.take z.k) ps) i hm (by omega) (by omega) fun h2 h3 Gi=>?_
  refine Ve (x:=(Dd d (nodes.take z.k) ps)[i]) fun a9 c9 e9 l9=>?_
  refine Nl (E:=EC 1) (xs:=z.ys) (m:=1) (E9 1) i ?_ (by repeat (first|exact .here|apply C1.there)) rfl h2
  rintro _ g A cs B rfl k2 k3 hH
  obtain ⟨k4, -, -⟩:=k3 w0
  have e8:z.ys[i]=[.slice a9 (Dd d (nodes.take z.k) ps)[i].length c9]:=by simpa using e9
  rw [e8] at k4
  subst k4
  dsimp only [List.append]
  refine go ?_;intros
  refine Aw [0,3,5] [17] ?_
  refine dt 0 ?_
  refine dt 1 ?_
  refine dt 2 ?_
  refine dt 3 ?_
  refine dt 4 ?_
  refine dt 5 ?_
  refine dt 6 ?_
  refine dt 7 ?_
  refine dt 8 ?_
  refine dt 9 ?_
  refine dt 10 ?_
  refine dt 11 ?_
  refine dt 12 ?_
  refine dt 13 ?_
  refine dt 14 ?_
  refine dO 15 (by kernel_rfl) (by rw [List.getElem?_toArray];rfl) ?_
  apply At;rfl;kernel_rfl;exact Be
  refine cf (Yk (Dd d (nodes.take z.k) ps)[i] ps a9 c9 _ ap cp Fp (by omega)) fun u _=>?_
  refine Ar ?_
  refine dk ?_
  refine dt 16 ?_
  refine dO 17 (by kernel_rfl) (by rw [List.getElem?_toArray];rfl) ?_
  apply Cu;rfl;rfl;rfl;(first|exact AggC.s|exact OneC.s);rfl;exact Cw;exact Cv;rfl
  refine Mg ?_
  refine dd ?_
  refine Mr (E:=EC 1) (xs:=z.ys) [.slice u.a (Eq (Dd d (nodes.take z.k) ps)[i] ps).length u.c] hH (fun w=>⟨rfl,⟨rfl,by simp [Value.oneCell']⟩,rfl⟩) ?_
  refine Ay (E:=Al) (xs:=Eq (Dd d (nodes.take z.k) ps)[i] ps) fun Fq=>?_
  refine Tw (E:=Al) (x:=Eq (Dd d (nodes.take z.k) ps)[i] ps) (by decide) ?_
  refine M8 (E:=Ly Al (by decide)) (ys:=z.ys) (xs:=Dd d (nodes.take z.k) ps) (x:=Eq (Dd d (nodes.take z.k) ps)[i] ps) i rfl hm (by omega) fun G'=>?_
  rw [←hst]
  refine go ?_;intros
  refine Ct ⟨z.k+1,z.ys.set i [.slice u.a (Eq (Dd d (nodes.take z.k) ps)[i] ps).length u.c],[g],G'⟩ hk (by show nodes.length - (z.k+1) < nodes.length - z.k;omega)
 ·rw [show nodes.take z.k=nodes from List.take_of_length_le (by omega)]
  refine go ?_;intros
  refine Q4 ?_
  refine ret z trivial rfl
theorem Ade {l:List Int} (hg:Mw l) (i:Nat):Pm 1 7 (Fv l ((i:Nat):Int))=true:=by
 refine Aax ?_ fun z hz=>?_
 ·unfold Fv Ib
  rw [List.pairwise_map]
  exact (List.Pairwise.filter _ List.pairwise_lt_range).imp fun h=>by omega
 ·have:=Iy hg hz
  have:=hg.n1
  omega
structure ShA where
 ys:List (List Value)
 F:List Nat
 G:List Nat
structure SZ where
 e:ShA
 r:ShA
 d:ShA
 u:ShA
structure JE where
 g:Nat
 b:Option Addr
 d:Nat
 F:List Nat
 a:Option Addr
 c:Nat
 G:List Nat
theorem Abo (n:Eg) (i:Nat) (p:As) (a1:Option Addr) (c1:Nat) (a4:Option Addr) (c4:Nat) (a5:Option Addr) (c5:Nat) (a6:Option Addr) (c6:Nat) (a7:Option Addr) (c7:Nat) (a2 a3:Option Addr) (l2 c2 l3 c3:Nat) (w1 w2 w3 w4:Int) (F1:List Nat) (z:SZ) (FT:List Nat) (hl:L7 n=true) (hi:i < n.An.Ac.length) (hi0:0 < i) (h8:Mw n.An.Ac) (hr:Hw n.An.Ac (i:Nat)=true→Hc (Wx n i)=true) (he:Hw n.An.Ac (i:Nat)=false→Bw (Pj n i)=true) (hp:Bk p=true) (hps:p.data.size≤maxLen) (hd:∀q∈n.down,q.length≤6) :
  Fn prog 94 [.agg #[.slice a1 n.An.Ac.length c1,.int .i64 w1,.int .i64 w2,.slice a2 l2 c2,.int .i64 w3,.int .i64 w4,.slice a3 l3 c3,.slice a4 n.An.Ac.length c4,.slice a5 n.An.Ac.length c5,.slice a6 n.An.Ac.length c6,.slice a7 n.An.Ac.length c7],.int .i64 (i:Nat),.agg #[.int .i64 (p).C2,.int .i64 (p).Ad,.int .i64 (p).Ak,.int .i64 (p).D0,.string (p).data]] [Mt FT,.sl Bd (.slice a1 n.An.Ac.length c1) n.An.Ac F1,.isv (EA Bv n.An.Ac.length) (.agg z.e.ys.flatten.toArray) n.Af z.e.G,.isv (EA Cb n.An.Ac.length) (.agg z.r.ys.flatten.toArray) n.Ae z.r.G,.isv (EA (Ly Al (by decide)) n.An.Ac.length) (.agg z.d.ys.flatten.toArray) n.down z.d.G,.isv (EA (Ly Al (by decide)) n.An.Ac.length) (.agg z.u.ys.flatten.toArray) n.up z.u.G] [.ow (EC 2) 96 (.slice a4 n.An.Ac.length c4) z.e.ys z.e.F,.ow (EC 5) 55 (.slice a5 n.An.Ac.length c5) z.r.ys z.r.F,.ow (EC 1) 99 (.slice a6 n.An.Ac.length c6) z.d.ys z.d.F,.ow (EC 1) 99 (.slice a7 n.An.Ac.length c7) z.u.ys z.u.F] (fun (_:SZ × KA)=>True) (fun y=>.slice y.2.a (Ci n i p).2.length y.2.c) (fun y=>[.ow (EC 2) 96 (.slice a4 n.An.Ac.length c4) y.1.e.ys y.1.e.F,.ow (EC 5) 55 (.slice a5 n.An.Ac.length c5) y.1.r.ys y.1.r.F,.ow (EC 1) 99 (.slice a6 n.An.Ac.length c6) y.1.d.ys y.1.d.F,.ow (EC 1) 99 (.slice a7 n.An.Ac.length c7) y.1.u.ys y.1.u.F,.isv (EA Bv n.An.Ac.length) (.agg y.1.e.ys.flatten.toArray) (Ci n i p).1.Af y.1.e.G,.isv (EA Cb n.An.Ac.length) (.agg y.1.r.ys.flatten.toArray) (Ci n i p).1.Ae y.1.r.G,.isv (EA (Ly Al (by decide)) n.An.Ac.length) (.agg y.1.d.ys.flatten.toArray) (Ci n i p).1.down y.1.d.G,.isv (EA (Ly Al (by decide)) n.An.Ac.length) (.agg y.1.u.ys.flatten.toArray) (Ci n i p).1.up y.1.u.G,.ow A9 9 (.slice y.2.a (Ci n i p).2.length y.2.c) (Ci n i p).2 y.2.F]):=by
 obtain ⟨q1,q2,q3,q4⟩:=Bz.1 hl
 have hn8:=h8.n1
 obtain ⟨d0,d1_⟩:=U8 (i:=i)
 refine enter func94 rfl ntmps94 fun w0=>?_
 refine M3 n.An ?_
 refine go ?_;intros
 refine cf (Aam n.An ((i:Nat):Int) _ F1 h8 (by omega)) fun _ _=>?_
 refine Ar ?_
 cases hlf:Hw n.An.Ac (i:Nat)
 rotate_left
 ·have hir:i < n.Ae.length:=by omega
  have hgr:=Gm.1 (Jo hir▸hr hlf)
  have hev:=(Pw (d:=Ke i) hgr hp d0 d1_).2
  rw [show Ci n i p=(⟨n.An,n.Ab,n.Af,n.Ae.set i (C9 n.Ae[i] p (Ke i)),n.down,n.up⟩,Ny i (Ff n.Ae[i] p)) by unfold Ci;rw [if_pos hlf,Jo hir]]
  refine go ?_;intros
  refine Ed (ys:=z.r.ys) fun hm hlr=>?_
  refine Y4 (E:=Cb) (ys:=z.r.ys) (xs:=n.Ae) i hm (by omega) (by omega) fun h2 h3 v Gi ev=>?_
  refine Ic (v:=v) (x:=n.Ae[i]) ?_
  rintro b1 d1 G1 b2 d2 G2 rfl l1 l2
  have e8:z.r.ys[i]=[.bool (n.Ae[i]).Bg,.int .i64 (n.Ae[i]).Ai,.int .i64 (n.Ae[i]).Aa.next,.slice b1 (n.Ae[i]).Aa.Ao.length d1,.slice b2 (n.Ae[i]).Ap.length d2]:=by simpa using ev.symm
  refine Nl (E:=EC 5) (xs:=z.r.ys) (m:=5) (E9 5) i ?_ (by repeat (first|exact .here|apply C1.there)) rfl h2
  rintro _ g A cs B rfl k2 k3 hH
  obtain ⟨k4, -, -⟩:=k3 w0
  rw [e8] at k4
  subst k4
  dsimp only [List.append]
  refine go ?_;intros
  refine Gc [1,3,5,6] [0,1,2,3,4,5,6,7,8,9,10,11,12,13,14,15] (fun w:Nat × NwS=>[(7,Eu w.1 0 0),(8,.slice w.2.ae (Ff n.Ae[i] p).length w.2.ce)]) (fun w=>[.row w.1 55 0 [] [.bool (C9 n.Ae[i] p (Ke i)).Bg,.int .i64 (C9 n.Ae[i] p (Ke i)).Ai,.int .i64 (C9 n.Ae[i] p (Ke i)).Aa.next,.slice w.2.a1 (C9 n.Ae[i] p (Ke i)).Aa.Ao.length w.2.c1,.slice w.2.a2 (C9 n.Ae[i] p (Ke i)).Ap.length w.2.c2] [],.isv Cb (.agg #[.bool (C9 n.Ae[i] p (Ke i)).Bg,.int .i64 (C9 n.Ae[i] p (Ke i)).Ai,.int .i64 (C9 n.Ae[i] p (Ke i)).Aa.next,.slice w.2.a1 (C9 n.Ae[i] p (Ke i)).Aa.Ao.length w.2.c1,.slice w.2.a2 (C9 n.Ae[i] p (Ke i)).Ap.length w.2.c2]) (C9 n.Ae[i] p (Ke i)) w.2.F1,.ow A9 9 (.slice w.2.ae (Ff n.Ae[i] p).length w.2.ce) (Ff n.Ae[i] p) w.2.Fe]) (fun _=>True) ?_ fun w _=>?_
  ·skip
   refine Aw [0,4,5] [] ?_
   refine dt 0 ?_
   refine dt 1 ?_
   refine dt 2 ?_
   refine dt 3 ?_
   refine dt 4 ?_
   refine dt 5 ?_
   refine dt 6 ?_
   refine Ob 7 12 (by kernel_rfl) (by rw [List.getElem?_toArray];rfl) (by rw [List.getElem?_toArray];rfl) ?_ ?_
   ·apply At;rfl;kernel_rfl;exact Be
    refine cf (Qq i (by omega)) fun _ _=>?_
    refine Ar ?_
    refine dk ?_
    refine Ob 8 12 (by kernel_rfl) (by rw [List.getElem?_toArray];rfl) (by rw [List.getElem?_toArray];rfl) ?_ ?_
    ·apply At;rfl;kernel_rfl;exact Be
     refine cf (Vg n.Ae[i] p (Ke i) _ Gi hgr hp d0 d1_) fun s _=>?_
     refine Ar ?_
     refine dk ?_
     refine dt 9 ?_
     refine dt 10 ?_
     refine dt 11 ?_
     refine dO 12 (by kernel_rfl) (by rw [List.getElem?_toArray];rfl) ?_
     apply Co;rfl;intro _
     refine dk ?_
     refine dO 13 (by kernel_rfl) (by rw [List.getElem?_toArray];rfl) ?_
     apply Cu;rfl;rfl;rfl;(first|exact AggC.s|exact OneC.s);rfl;exact Cw;exact Cv;rfl
     refine dk ?_
     refine dt 14 ?_
     refine dd ?_
     refine Cm (⟨_,s⟩:Nat × NwS) trivial
    ·apply Co;rfl;intro _
     refine dk ?_
     refine dO 8 (by kernel_rfl) (by rw [List.getElem?_toArray];rfl) ?_
     apply At;rfl;kernel_rfl;exact Be
     refine cf (Vg n.Ae[i] p (Ke i) _ Gi hgr hp d0 d1_) fun s _=>?_
     refine Ar ?_
     refine dk ?_
     refine dt 9 ?_
     refine dt 10 ?_
     refine dt 11 ?_
     refine dO 13 (by kernel_rfl) (by rw [List.getElem?_toArray];rfl) ?_
     apply Cu;rfl;rfl;rfl;(first|exact AggC.s|exact OneC.s);rfl;exact Cw;exact Cv;rfl
     refine dk ?_
     refine dt 14 ?_
     refine dd ?_
     refine Cm (⟨_,s⟩:Nat × NwS) trivial
   ·apply Co;rfl;intro _
    refine dk ?_
    refine dO 7 (by kernel_rfl) (by rw [List.getElem?_toArray];rfl) ?_
    apply At;rfl;kernel_rfl;exact Be
    refine cf (Qq i (by omega)) fun _ _=>?_
    refine Ar ?_
    refine dk ?_
    refine dO 8 (by kernel_rfl) (by rw [List.getElem?_toArray];rfl) ?_
    apply At;rfl;kernel_rfl;exact Be
    refine cf (Vg n.Ae[i] p (Ke i) _ Gi hgr hp d0 d1_) fun s _=>?_
    refine Ar ?_
    refine dk ?_
    refine dt 9 ?_
    refine dt 10 ?_
    refine dt 11 ?_
    refine dO 13 (by kernel_rfl) (by rw [List.getElem?_toArray];rfl) ?_
    apply Cu;rfl;rfl;rfl;(first|exact AggC.s|exact OneC.s);rfl;exact Cw;exact Cv;rfl
    refine dk ?_
    refine dt 14 ?_
    refine dd ?_
    refine Cm (⟨_,s⟩:Nat × NwS) trivial
  obtain ⟨gr,s⟩:=w
  dsimp only
  refine Kx ?_;intros
  refine Mr (E:=EC 5) (xs:=z.r.ys) [.bool (C9 n.Ae[i] p (Ke i)).Bg,.int .i64 (C9 n.Ae[i] p (Ke i)).Ai,.int .i64 (C9 n.Ae[i] p (Ke i)).Aa.next,.slice s.a1 (C9 n.Ae[i] p (Ke i)).Aa.Ao.length s.c1,.slice s.a2 (C9 n.Ae[i] p (Ke i)).Ap.length s.c2] hH (fun w=>⟨rfl,⟨rfl,by simp [Value.oneCell']⟩,rfl⟩) ?_
  refine M8 (E:=Cb) (ys:=z.r.ys) (xs:=n.Ae) (x:=C9 n.Ae[i] p (Ke i)) i rfl hm (by omega) fun G'=>?_
  refine Ay (E:=A9) (xs:=Ff n.Ae[i] p) fun Fq=>?_
  refine go ?_;intros
  refine cf (Aan i (Ff n.Ae[i] p) _ _ Fq FT (by omega) (by omega) (Yf hgr hp)) fun u _=>?_
  refine Ar ?_
  refine go ?_;intros
  refine ret (⟨z.e,⟨z.r.ys.set i [.bool (C9 n.Ae[i] p (Ke i)).Bg,.int .i64 (C9 n.Ae[i] p (Ke i)).Ai,.int .i64 (C9 n.Ae[i] p (Ke i)).Aa.next,.slice s.a1 (C9 n.Ae[i] p (Ke i)).Aa.Ao.length s.c1,.slice s.a2 (C9 n.Ae[i] p (Ke i)).Ap.length s.c2],[g],G'⟩,z.d,z.u⟩,u) trivial rfl
 ·have hir:i < n.Af.length:=by omega
  have hge:Bw n.Af[i]=true:=Iw hir▸he hlf
  have hel:=(Ey.1 hge).2.1
  have hkl:=P3 n.An.Ac ((i:Nat):Int)
  have hkx:∀x∈Fv n.An.Ac ((i:Nat):Int),0≤x∧x.toNat < n.down.length:=fun x hx=>by have:=Iy h8 hx;omega
  have hri:=Ade h8 i
  refine go ?_;intros
  refine cf (Mj n.An ((i:Nat):Int) _ F1 (Od h8.z (by omega)) ⟨by omega,by omega⟩) fun u _=>?_
  refine Ar ?_
  refine Ay (E:=Bd) (xs:=Fv n.An.Ac ((i:Nat):Int)) fun Fk=>?_
  refine go ?_;intros
  refine Bf rfl (fun hk=>?_) (fun hk=>?_)
  ·rw [show Ci n i p=(⟨n.An,n.Ab,n.Af.set i (Mm n.Af[i] p.Ad),n.Ae,Dd n.down (Pt n.Af[i] p.Ad (Fv n.An.Ac ((i:Nat):Int))) [p],n.up⟩,[]) by unfold Ci Ww Sw;rw [if_neg (by rw [hlf];decide),if_pos hk,if_pos hk,Iw hir]]
   rw [←Af1 hge hri]
   refine go ?_;intros
   refine Ed (ys:=z.e.ys) fun hm hlr=>?_
   refine Y4 (E:=Bv) (ys:=z.e.ys) (xs:=n.Af) i hm (by omega) (by omega) fun h2 h3 v Gi ev=>?_
   refine Er (v:=v) (x:=n.Af[i]) ?_
   rintro b1 d1 G1 rfl l1
   have e8:z.e.ys[i]=[.int .i64 n.Af[i].Ai,.slice b1 n.Af[i].Ah.length d1]:=by simpa using ev.symm
   refine Nl (E:=EC 2) (xs:=z.e.ys) (m:=2) (E9 2) i ?_ (by repeat (first|exact .here|apply C1.there)) rfl h2
   rintro _ g A cs B rfl k2 k3 hH
   obtain ⟨k4, -, -⟩:=k3 w0
   rw [e8] at k4
   subst k4
   dsimp only [List.append]
   refine go ?_;intros
   refine Gc [1,3,5,6,9] [0,1,2,3,4,5,6,7,8,9,10,11,12,13,14,15] (fun w:JE=>[(10,Eu w.g 0 0),(11,.slice w.a (Ue n.Af[i] p.Ad (Fv n.An.Ac ((i:Nat):Int))).length w.c)]) (fun w=>[.row w.g 96 0 [] [.int .i64 (Mm n.Af[i] p.Ad).Ai,.slice w.b (Mm n.Af[i] p.Ad).Ah.length w.d] [],.isv Bv (.agg #[.int .i64 (Mm n.Af[i] p.Ad).Ai,.slice w.b (Mm n.Af[i] p.Ad).Ah.length w.d]) (Mm n.Af[i] p.Ad) w.F,.ow Bd 3 (.slice w.a (Ue n.Af[i] p.Ad (Fv n.An.Ac ((i:Nat):Int))).length w.c) (Ue n.Af[i] p.Ad (Fv n.An.Ac ((i:Nat):Int))) w.G]) (fun _=>True) ?_ fun w _=>?_
   ·skip
    refine Aw [0,4,5] [] ?_
    refine dt 0 ?_
    refine dt 1 ?_
    refine dt 2 ?_
    refine dt 3 ?_
    refine dt 4 ?_
    refine dt 5 ?_
    refine dt 6 ?_
    refine dt 7 ?_
    refine Ob 8 12 (by kernel_rfl) (by rw [List.getElem?_toArray];rfl) (by rw [List.getElem?_toArray];rfl) ?_ ?_
    ·apply At;rfl;kernel_rfl;exact Be
     refine cf (Wh n.Af[i] p.Ad (Fv n.An.Ac ((i:Nat):Int)) _ Gi u.a u.c Fk (by omega) (fun x hx=>by have:=L5 hge hx;omega) (by omega)) fun s _=>?_
     refine Ar ?_
     refine Gh ?_
     rintro b3 d3 G3 es l3
     rw [es]
     refine E5 (Mm n.Af[i] p.Ad) ?_
     refine Mq J0 fun Fe=>?_
     refine dk ?_
     refine dt 9 ?_
     refine dt 10 ?_
     refine dt 11 ?_
     refine dO 12 (by kernel_rfl) (by rw [List.getElem?_toArray];rfl) ?_
     apply Co;rfl;intro _
     refine dk ?_
     refine dO 13 (by kernel_rfl) (by rw [List.getElem?_toArray];rfl) ?_
     apply Cu;rfl;rfl;rfl;(first|exact AggC.s|exact OneC.s);rfl;exact Cw;exact Cv;rfl
     refine dk ?_
     refine dt 14 ?_
     refine dd ?_
     refine Cm (⟨_,b3,d3,Fe,s.a,s.c,s.G⟩:JE) trivial
    ·apply Co;rfl;intro _
     refine dk ?_
     refine dO 8 (by kernel_rfl) (by rw [List.getElem?_toArray];rfl) ?_
     apply At;rfl;kernel_rfl;exact Be
     refine cf (Wh n.Af[i] p.Ad (Fv n.An.Ac ((i:Nat):Int)) _ Gi u.a u.c Fk (by omega) (fun x hx=>by have:=L5 hge hx;omega) (by omega)) fun s _=>?_
     refine Ar ?_
     refine Gh ?_
     rintro b3 d3 G3 es l3
     rw [es]
     refine E5 (Mm n.Af[i] p.Ad) ?_
     refine Mq J0 fun Fe=>?_
     refine dk ?_
     refine dt 9 ?_
     refine dt 10 ?_
     refine dt 11 ?_
     refine dO 13 (by kernel_rfl) (by rw [List.getElem?_toArray];rfl) ?_
     apply Cu;rfl;rfl;rfl;(first|exact AggC.s|exact OneC.s);rfl;exact Cw;exact Cv;rfl
     refine dk ?_
     refine dt 14 ?_
     refine dd ?_
     refine Cm (⟨_,b3,d3,Fe,s.a,s.c,s.G⟩:JE) trivial
   refine Kx ?_;intros
   refine Mr (E:=EC 2) (xs:=z.e.ys) [.int .i64 (Mm n.Af[i] p.Ad).Ai,.slice w.b (Mm n.Af[i] p.Ad).Ah.length w.d] hH (fun _=>⟨rfl,⟨rfl,by simp [Value.oneCell']⟩,rfl⟩) ?_
   refine M8 (E:=Bv) (ys:=z.e.ys) (xs:=n.Af) (x:=Mm n.Af[i] p.Ad) i rfl hm (by omega) fun G'=>?_
   refine Ay (E:=Bd) (xs:=Ue n.Af[i] p.Ad (Fv n.An.Ac ((i:Nat):Int))) fun Fk2=>?_
   refine Dz (E:=Al) (xs:=[p]) (C4 p hps) ?_ (by simp)
   refine Ay (E:=Al) (xs:=[p]) fun Fp=>?_
   refine go ?_;intros
   refine cf (La n.down (Ue n.Af[i] p.Ad (Fv n.An.Ac ((i:Nat):Int))) [p] _ _ _ _ _ _ _ _ _ _ _ _ _ _ _ _ _ _ _ _ _ _ _ _ _ z.d.ys z.d.F z.d.G _ _ Fk2 _ _ Fp (by rw [Af1 hge hri];exact fun x hx=>hkx x (Ud x hx)) hd) fun y _=>?_
   refine Ar ?_
   refine go ?_;intros
   refine C6 A9 ?_
   refine go ?_;intros
   refine ret (⟨⟨z.e.ys.set i [.int .i64 (Mm n.Af[i] p.Ad).Ai,.slice w.b (Mm n.Af[i] p.Ad).Ah.length w.d],[g],G'⟩,z.r,⟨y.ys,y.F,y.G⟩,z.u⟩,⟨0,_,_,_⟩) trivial rfl
  ·rw [show Ci n i p=(⟨n.An,n.Ab,n.Af,n.Ae,Dd n.down (Fv n.An.Ac ((i:Nat):Int)) [p],n.up⟩,[]) by unfold Ci Ww Sw;rw [if_neg (by rw [hlf];decide),if_neg hk,if_neg hk]]
   refine Kx ?_;intros
   refine Dz (E:=Al) (xs:=[p]) (C4 p hps) ?_ (by simp)
   refine Ay (E:=Al) (xs:=[p]) fun Fp=>?_
   refine go ?_;intros
   refine cf (La n.down (Fv n.An.Ac ((i:Nat):Int)) [p] _ _ _ _ _ _ _ _ _ _ _ _ _ _ _ _ _ _ _ _ _ _ _ _ _ z.d.ys z.d.F z.d.G _ _ Fk _ _ Fp hkx hd) fun w _=>?_
   refine Ar ?_
   refine go ?_;intros
   refine C6 A9 ?_
   refine go ?_;intros
   refine ret (⟨z.e,z.r,⟨w.ys,w.F,w.G⟩,z.u⟩,⟨0,_,_,_⟩) trivial rfl
structure RjS where
 g:Nat
 a:Option Addr
 c:Nat
 a2:Option Addr
 c2:Nat
 F:List Nat
structure Al2 where
 a:Option Addr
 c:Nat
 F:List Nat
theorem Ahr (x:Ch) (n:Int) (v:Value) (F:List Nat) (t0:0≤x.Aa.Ak) (t1:x.Aa.Ak≤65535) (hm:x.holds.length≤1000) (hn:Ta x.holds) (n0:-1≤n) (n1:n≤65536) :
  Fn prog 167 [v,.int .i64 n] [.isv Dn v x F] [] (fun (_:Unit)=>True) (fun _=>.tuple #[.int .i64 (Ek x.Aa.Ak x.holds n:Nat),.bool (Lp x.Aa.Ak x.holds n)]) (fun _=>[]):=by
 refine enter func167 rfl ntmps167 fun w0=>?_
 refine Gj ?_
 rintro a1 c1 F1 a2 c2 F2 rfl l1 l2
 refine go ?_;intros
 refine H2 [1,2,4,5] (fun k:Nat=>[(6,.int .i64 (k:Nat))]) (fun k=>k≤x.holds.length∧∀j (_:j < k) (h:j < x.holds.length),gp x.Aa.Ak x.holds[j].Ad < gp x.Aa.Ak n) (fun k=>x.holds.length - k) 0 ⟨Nat.zero_le _,fun j h=>by omega⟩ fun k hk=>?_
 obtain ⟨hk1,hk2⟩:=hk
 by_cases hlt:k < x.holds.length
 ·obtain ⟨m0,m1⟩:=hn x.holds[k] (List.getElem_mem hlt)
  refine Rk (xs:=x.holds) k ?_
  rintro hi b o e
  rw [e]
  refine go ?_;intros
  refine Aw [0,1] [] ?_
  refine dt 0 ?_
  refine dt 1 ?_
  refine dt 2 ?_
  refine dt 3 ?_
  refine dt 4 ?_
  rw [decide_eq_true (show (k:Int) < x.holds.length by omega)]
  refine dt 5 ?_
  refine En 6 ?_
  refine En 7 ?_
  refine En 8 ?_
  refine En 9 ?_
  refine En 10 ?_
  refine En 11 ?_
  refine En 12 ?_
  refine En 13 ?_
  refine En 14 ?_
  refine En 16 ?_
  refine En 17 ?_
  refine En 18 ?_
  refine En 19 ?_
  refine d1g 15 ?_
  apply On.h
  apply At;rfl;kernel_rfl;exact Be
  refine ce (fun w s=>Il _ _ _ (by omega) (by omega)) ?_
  refine dk ?_
  refine d1g 20 ?_
  apply On.h
  apply At;rfl;kernel_rfl;exact Be
  refine ce (fun w s=>Il _ _ _ (by omega) (by omega)) ?_
  refine dk ?_
  refine En 21 ?_
  refine dt 22 ?_
  refine dd ?_
  refine go ?_;intros
  refine Bf rfl (fun h=>?_) (fun h=>?_)
  ·refine go ?_;intros
   refine Ct (k+1) ⟨hlt,fun j hj hh=>?_⟩ (by omega)
   rcases Nat.lt_or_eq_of_le (Nat.lt_succ_iff.1 hj) with h2|rfl
   ·exact hk2 j h2 hh
   ·exact h
  ·have hh:Ek x.Aa.Ak x.holds n=k:=R8 hk1 (fun j hj h=>decide_eq_true (hk2 j hj h)) (fun _=>decide_eq_false h)
   have ht:Lp x.Aa.Ak x.holds n=decide (x.holds[k].Ad=n):=by unfold Lp;rw [hh,List.getElem?_eq_getElem hlt]
   rw [ht,hh]
   refine go ?_;intros
   refine Aw [0,1] [] ?_
   refine dt 0 ?_
   refine dt 1 ?_
   refine dt 2 ?_
   refine dt 3 ?_
   refine dt 4 ?_
   refine dt 5 ?_
   rw [decide_eq_true (show (k:Int) < x.holds.length by omega)]
   refine dt 6 ?_
   refine En 7 ?_
   refine En 8 ?_
   refine En 9 ?_
   refine En 10 ?_
   refine En 11 ?_
   refine En 12 ?_
   refine En 13 ?_
   refine En 14 ?_
   refine dt 15 ?_
   refine dt 16 ?_
   refine dt 17 ?_
   refine dd ?_
   refine go ?_;intros
   refine ret () trivial rfl
 ·have hh:Ek x.Aa.Ak x.holds n=k:=R8 hk1 (fun j hj h=>decide_eq_true (hk2 j hj h)) (fun h=>absurd h hlt)
  have ht:Lp x.Aa.Ak x.holds n=false:=by unfold Lp;rw [hh,List.getElem?_eq_none (by omega)]
  rw [ht,hh]
  refine go ?_;intros
  refine Aw [0] [] ?_
  refine dt 0 ?_
  refine dt 1 ?_
  refine dt 2 ?_
  refine dt 3 ?_
  refine dt 4 ?_
  rw [decide_eq_false (show ¬(k:Int) < x.holds.length by omega)]
  refine dt 5 ?_
  refine ds 6 ?_
  refine ds 7 ?_
  refine ds 8 ?_
  refine ds 9 ?_
  refine ds 10 ?_
  refine ds 11 ?_
  refine ds 12 ?_
  refine ds 13 ?_
  refine ds 14 ?_
  refine ds 15 ?_
  refine ds 16 ?_
  refine ds 17 ?_
  refine ds 18 ?_
  refine ds 19 ?_
  refine ds 20 ?_
  refine ds 21 ?_
  refine dt 22 ?_
  refine dd ?_
  refine go ?_;intros
  refine Aw [0] [] ?_
  refine dt 0 ?_
  refine dt 1 ?_
  refine dt 2 ?_
  refine dt 3 ?_
  refine dt 4 ?_
  refine dt 5 ?_
  rw [decide_eq_false (show ¬(k:Int) < x.holds.length by omega)]
  refine dt 6 ?_
  refine ds 7 ?_
  refine ds 8 ?_
  refine ds 9 ?_
  refine ds 10 ?_
  refine ds 11 ?_
  refine ds 12 ?_
  refine ds 13 ?_
  refine ds 14 ?_
  refine dt 15 ?_
  refine dt 16 ?_
  refine dt 17 ?_
  refine dd ?_
  refine go ?_;intros
  refine ret () trivial rfl
theorem Sx (x:Ch) (p:As) (v:Value) (F:List Nat) (t0:0≤x.Aa.Ak) (t1:x.Aa.Ak≤65535) (hl:x.Aa.Aj.length≤6) (k0:0≤x.Ai) (k1:x.Ai≤99999) (hm:x.holds.length≤900) (hn:Ta x.holds) (n0:-1≤p.Ad) (n1:p.Ad≤65536) (hps:p.data.size≤maxLen) (hans:(Da x.Aa p).1.data.size≤maxLen) :
  Fn prog 110 [v,.agg #[.int .i64 p.C2,.int .i64 p.Ad,.int .i64 p.Ak,.int .i64 p.D0,.string p.data]] [.isv Dn v x F] [] (fun (_:TiS)=>True) (fun s=>.tuple #[.agg #[.int .i64 (Kn x p.Ad).Aa.Ak,.int .i64 (Kn x p.Ad).Aa.size,.slice s.a (Kn x p.Ad).Aa.Aj.length s.c,.int .i64 (Kn x p.Ad).Ai,.int .i64 (Kn x p.Ad).quiet,.slice s.a2 (Kn x p.Ad).holds.length s.c2],.slice s.ae (J8 x p).length s.ce])
   (fun s=>[.isv Dn (.agg #[.int .i64 (Kn x p.Ad).Aa.Ak,.int .i64 (Kn x p.Ad).Aa.size,.slice s.a (Kn x p.Ad).Aa.Aj.length s.c,.int .i64 (Kn x p.Ad).Ai,.int .i64 (Kn x p.Ad).quiet,.slice s.a2 (Kn x p.Ad).holds.length s.c2]) (Kn x p.Ad) s.F,.ow Al 108 (.slice s.ae (J8 x p).length s.ce) (J8 x p) s.Fe]):=by
 refine enter func110 rfl ntmps110 fun w0=>?_
 refine Gj ?_
 rintro a1 c1 F1 a2 c2 F2 rfl l1 l2
 refine Cn x.Aa (a1:=a1) ?_
 generalize F1=F3
 refine go ?_;intros
 refine Gc [2,3,4,5] [0,1,2,3,4,5,6] (fun s:RjS=>[(6,Eu s.g 0 0)]) (fun s=>[.row s.g 34 0 [] [.int .i64 x.Aa.Ak,.int .i64 x.Aa.size,.slice s.a x.Aa.Aj.length s.c,.int .i64 x.Ai,.int .i64 x.quiet,.slice s.a2 (Fm x.Aa x.Ai x.holds).length s.c2] [],.isv Dn (.agg #[.int .i64 x.Aa.Ak,.int .i64 x.Aa.size,.slice s.a x.Aa.Aj.length s.c,.int .i64 x.Ai,.int .i64 x.quiet,.slice s.a2 (Fm x.Aa x.Ai x.holds).length s.c2]) (Sb x x.Aa) s.F]) (fun _=>True) ?_ fun s _=>?_
 ·refine Kx ?_;intros
  refine Aw [1,2] [] ?_
  refine dt 0 ?_
  refine dt 1 ?_
  refine dt 2 ?_
  refine Ob 3 5 (by kernel_rfl) (by rw [List.getElem?_toArray];rfl) (by rw [List.getElem?_toArray];rfl) ?_ ?_
  ·apply At;rfl;kernel_rfl;exact Be
   refine cf (Oe x.Aa _ F3 t0 t1 (by omega)) fun y _=>?_
   refine Ar ?_
   refine H8 ?_
   rintro a5 c5 F5 e5 l5
   rw [e5]
   refine Ay (xs:=x.Aa.Aj) fun F8=>?_
   refine Cn x.Aa (a1:=a5) ?_
   refine dk ?_
   refine Ob 4 5 (by kernel_rfl) (by rw [List.getElem?_toArray];rfl) (by rw [List.getElem?_toArray];rfl) ?_ ?_
   ·apply At;rfl;kernel_rfl;exact Be
    refine cf (Oq x x.Aa _ _ F _ t0 t1 (by omega) hn) fun z _=>?_
    refine Ar ?_
    refine dk ?_
    refine dO 5 (by kernel_rfl) (by rw [List.getElem?_toArray];rfl) ?_
    apply Co;rfl;intro _
    refine dk ?_
    refine dO 6 (by kernel_rfl) (by rw [List.getElem?_toArray];rfl) ?_
    apply Cu;rfl;rfl;rfl;(first|exact AggC.s|exact OneC.s);rfl;exact Cw;exact Cv;rfl
    refine dk ?_
    refine dd ?_
    refine go ?_;intros
    refine Cm (⟨_,z.a,z.c,z.a2,z.c2,z.F⟩:RjS) trivial
   ·apply Co;rfl;intro _
    refine dk ?_
    refine dO 4 (by kernel_rfl) (by rw [List.getElem?_toArray];rfl) ?_
    apply At;rfl;kernel_rfl;exact Be
    refine cf (Oq x x.Aa _ _ F _ t0 t1 (by omega) hn) fun z _=>?_
    refine Ar ?_
    refine dk ?_
    refine dO 6 (by kernel_rfl) (by rw [List.getElem?_toArray];rfl) ?_
    apply Cu;rfl;rfl;rfl;(first|exact AggC.s|exact OneC.s);rfl;exact Cw;exact Cv;rfl
    refine dk ?_
    refine dd ?_
    refine go ?_;intros
    refine Cm (⟨_,z.a,z.c,z.a2,z.c2,z.F⟩:RjS) trivial
  ·apply Co;rfl;intro _
   refine dk ?_
   refine dO 3 (by kernel_rfl) (by rw [List.getElem?_toArray];rfl) ?_
   apply At;rfl;kernel_rfl;exact Be
   refine cf (Oe x.Aa _ F3 t0 t1 (by omega)) fun y _=>?_
   refine Ar ?_
   refine H8 ?_
   rintro a5 c5 F5 e5 l5
   rw [e5]
   refine Ay (xs:=x.Aa.Aj) fun F8=>?_
   refine Cn x.Aa (a1:=a5) ?_
   refine dk ?_
   refine dO 4 (by kernel_rfl) (by rw [List.getElem?_toArray];rfl) ?_
   apply At;rfl;kernel_rfl;exact Be
   refine cf (Oq x x.Aa _ _ F _ t0 t1 (by omega) hn) fun z _=>?_
   refine Ar ?_
   refine dk ?_
   refine dO 6 (by kernel_rfl) (by rw [List.getElem?_toArray];rfl) ?_
   apply Cu;rfl;rfl;rfl;(first|exact AggC.s|exact OneC.s);rfl;exact Cw;exact Cv;rfl
   refine dk ?_
   refine dd ?_
   refine go ?_;intros
   refine Cm (⟨_,z.a,z.c,z.a2,z.c2,z.F⟩:RjS) trivial
 refine go ?_;intros
 refine cb (fun w st=>(Si x.Aa p.Ad _ F3 t0 t1 n0 n1).val w (H9 (st.get (p:=.isv B4 (.agg #[.int .i64 x.Aa.Ak,.int .i64 x.Aa.size,.slice a1 x.Aa.Aj.length c1]) x.Aa F3) (by simp)))) ?_
 cases hb:Gw x.Aa p.Ad
 ·have e1:Kn x p.Ad=Sb x x.Aa:=by unfold Kn;rw [hb];rfl
  have e2:J8 x p=[Nr x.Aa]:=by unfold J8;rw [hb];rfl
  rw [e1,e2]
  refine go ?_;intros
  refine Aw [0,4] [] ?_
  refine dt 0 ?_
  refine dt 1 ?_
  refine dt 2 ?_
  refine dO 3 (by kernel_rfl) (by rw [List.getElem?_toArray];rfl) ?_
  apply At;rfl;kernel_rfl;exact Be
  refine cf (Tp x.Aa.Ak x.Aa.size _ x.Aa.Aj.length _ t0 t1 (by omega)) fun _ _=>?_
  refine Ar ?_
  refine dk ?_
  refine Ob 4 5 (by kernel_rfl) (by rw [List.getElem?_toArray];rfl) (by rw [List.getElem?_toArray];rfl) ?_ ?_
  ·apply Hh;rfl;rfl;rfl;rfl;exact Hb;exact Gp;intro _
   refine dk ?_
   refine dO 5 (by kernel_rfl) (by rw [List.getElem?_toArray];rfl) ?_
   apply Cu;rfl;rfl;rfl;(first|exact AggC.s|exact OneC.s);rfl;exact Cw;exact Cv;rfl
   refine dk ?_
   refine dt 6 ?_
   refine dd ?_
   refine go ?_;intros
   refine Dz (xs:=[Nr x.Aa]) (C4 _ (by show (⟨#[]⟩:ByteArray).size≤maxLen;decide)) ?_ (by simp)
   refine ret ⟨s.a,s.c,s.a2,s.c2,s.F,_,_,_⟩ trivial rfl
  ·apply Cu;rfl;rfl;rfl;(first|exact AggC.s|exact OneC.s);rfl;exact Cw;exact Cv;rfl
   refine dk ?_
   refine dO 4 (by kernel_rfl) (by rw [List.getElem?_toArray];rfl) ?_
   apply Hh;rfl;rfl;rfl;rfl;exact Hb;exact Gp;intro _
   refine dk ?_
   refine dt 6 ?_
   refine dd ?_
   refine go ?_;intros
   refine Dz (xs:=[Nr x.Aa]) (C4 _ (by show (⟨#[]⟩:ByteArray).size≤maxLen;decide)) ?_ (by simp)
   refine ret ⟨s.a,s.c,s.a2,s.c2,s.F,_,_,_⟩ trivial rfl
 refine go ?_;intros
 refine Aw [3,4] [] ?_
 refine dt 0 ?_
 refine dt 1 ?_
 refine dt 2 ?_
 refine dt 3 ?_
 refine dt 4 ?_
 refine dt 5 ?_
 refine dt 6 ?_
 refine dO 7 (by kernel_rfl) (by rw [List.getElem?_toArray];rfl) ?_
 apply At;rfl;kernel_rfl;exact Be
 refine cb (fun w _=>Rv _ _ _ _ _ w t0 t1 (by omega)) ?_
 refine dk ?_
 refine dt 8 ?_
 refine dO 9 (by kernel_rfl) (by rw [List.getElem?_toArray];rfl) ?_
 apply Hh;rfl;rfl;rfl;rfl;exact Hb;exact Gp;intro _
 refine dk ?_
 refine dt 10 ?_
 refine dd ?_
 refine Kx ?_;intros
 refine Dz (xs:=[Su x.Aa p.Ad]) (C4 _ (by show (⟨#[]⟩:ByteArray).size≤maxLen;decide)) ?_ (by simp)
 refine go ?_;intros
 refine cf (Ahr x p.Ad _ F t0 t1 (by omega) hn n0 n1) fun _ _=>?_
 refine Ar ?_
 cases ht:Lp x.Aa.Ak x.holds p.Ad
 ·have e1:Kn x p.Ad=⟨x.Aa,x.Ai,x.quiet,(Iv x.holds (Ek x.Aa.Ak x.holds p.Ad) ⟨p.Ad,x.Ai+3⟩)⟩:=by unfold Kn;rw [hb,ht];rfl
  have e2:J8 x p=[Su x.Aa p.Ad]++[(Da x.Aa p).1]:=by unfold J8;rw [hb,ht];rfl
  rw [e1,e2]
  have hkk:=Sh x.Aa.Ak x.holds p.Ad
  refine Wy (E:=Bh) (xs:=x.holds) ?_
  rintro _ _ e8 q1 q2
  cases e8
  refine go ?_;intros
  refine cb (fun w st=>(Y5 x.Aa p _ F3 hps).val w (H9 (st.get (p:=.isv B4 (.agg #[.int .i64 x.Aa.Ak,.int .i64 x.Aa.size,.slice a1 x.Aa.Aj.length c1]) x.Aa F3) (by simp)))) ?_
  refine go ?_;intros
  refine Agm (E:=Bh) (xs:=x.holds) (Ek x.Aa.Ak x.holds p.Ad) (fun FT=>?_) hkk
  obtain ⟨T1,hT1⟩:∃T1,T1=x.holds.take (Ek x.Aa.Ak x.holds p.Ad):=⟨_,rfl⟩
  have hT1l:T1.length=Ek x.Aa.Ak x.holds p.Ad:=by rw [hT1,List.length_take];omega
  rw [←hT1]
  have hAdd:T1++[⟨p.Ad,x.Ai+3⟩]++x.holds.drop (Ek x.Aa.Ak x.holds p.Ad)=(Iv x.holds (Ek x.Aa.Ak x.holds p.Ad) ⟨p.Ad,x.Ai+3⟩):=by rw [hT1];unfold Iv;simp
  refine Gc [4,5,6,7,10] [0,1,2,3,5,6,7,8,9,10,11,12] (fun _:Al2=>[]) (fun z=>[.row s.g 34 0 [] [.int .i64 x.Aa.Ak,.int .i64 x.Aa.size,.slice s.a x.Aa.Aj.length s.c,.int .i64 x.Ai,.int .i64 x.quiet,.slice z.a (Iv x.holds (Ek x.Aa.Ak x.holds p.Ad) ⟨p.Ad,x.Ai+3⟩).length z.c] [],.ow Bh 137 (.slice z.a (Iv x.holds (Ek x.Aa.Ak x.holds p.Ad) ⟨p.Ad,x.Ai+3⟩).length z.c) (Iv x.holds (Ek x.Aa.Ak x.holds p.Ad) ⟨p.Ad,x.Ai+3⟩) z.F]) (fun _=>True) ?_ fun z _=>?_
  ·refine Kx ?_;intros
   refine Aw [1,8] [] ?_
   refine dt 1 ?_
   refine dt 2 ?_
   refine dt 3 ?_
   refine dt 4 ?_ (hy:=Lq (i:=T1.length) rfl rfl (by rw [hT1l]) (by omega) (by omega))
   refine dt 6 ?_
   refine dt 9 ?_
   refine dt 10 ?_
   refine dt 11 ?_
   refine Aes 12 (Ek x.Aa.Ak x.holds p.Ad) (fun a6 c6 F6=>?_)
   refine Ob 0 7 (by kernel_rfl) (by rw [List.getElem?_toArray];rfl) (by rw [List.getElem?_toArray];rfl) ?_ ?_
   ·apply Jk;rfl;intro _
    refine C6 Bh ?_
    refine dk ?_
    refine Ob 5 7 (by kernel_rfl) (by rw [List.getElem?_toArray];rfl) (by rw [List.getElem?_toArray];rfl) ?_ ?_
    ·refine Ku (ys:=T1) Hl I8 fun a7 c7 F7=>?_
     rw [List.nil_append]
     refine dk ?_
     refine dO 7 (by kernel_rfl) (by rw [List.getElem?_toArray];rfl) ?_
     apply Hh;rfl;rfl;rfl;rfl;exact Hb;exact Gp;intro _
     refine dk ?_
     refine dO 8 (by kernel_rfl) (by rw [List.getElem?_toArray];rfl) ?_
     refine Lh (Qa ⟨p.Ad,x.Ai+3⟩) Hl fun a8 c8 F8=>?_
     refine dk ?_
     refine dO 13 (by kernel_rfl) (by rw [List.getElem?_toArray];rfl) ?_
     refine Ku (ys:=x.holds.drop (Ek x.Aa.Ak x.holds p.Ad)) Hl I8 (h63:=by simp;omega) (hby:=by simp;omega) fun a9 c9 F9=>?_
     refine dk ?_
     refine dt 14 ?_
     refine dO 15 (by kernel_rfl) (by rw [List.getElem?_toArray];rfl) ?_
     apply Cu;rfl;rfl;rfl;(first|exact AggC.s|exact OneC.s);rfl;exact Cw;exact Cv;rfl
     refine dk ?_
     refine dd ?_
     refine go ?_;intros
     rw [hAdd]
     refine Cm (⟨a9,c9,F9⟩:Al2) trivial
    ·apply Hh;rfl;rfl;rfl;rfl;exact Hb;exact Gp;intro _
     refine dk ?_
     refine dO 5 (by kernel_rfl) (by rw [List.getElem?_toArray];rfl) ?_
     refine Ku (ys:=T1) Hl I8 fun a7 c7 F7=>?_
     rw [List.nil_append]
     refine dk ?_
     refine dO 8 (by kernel_rfl) (by rw [List.getElem?_toArray];rfl) ?_
     refine Lh (Qa ⟨p.Ad,x.Ai+3⟩) Hl fun a8 c8 F8=>?_
     refine dk ?_
     refine dO 13 (by kernel_rfl) (by rw [List.getElem?_toArray];rfl) ?_
     refine Ku (ys:=x.holds.drop (Ek x.Aa.Ak x.holds p.Ad)) Hl I8 (h63:=by simp;omega) (hby:=by simp;omega) fun a9 c9 F9=>?_
     refine dk ?_
     refine dt 14 ?_
     refine dO 15 (by kernel_rfl) (by rw [List.getElem?_toArray];rfl) ?_
     apply Cu;rfl;rfl;rfl;(first|exact AggC.s|exact OneC.s);rfl;exact Cw;exact Cv;rfl
     refine dk ?_
     refine dd ?_
     refine go ?_;intros
     rw [hAdd]
     refine Cm (⟨a9,c9,F9⟩:Al2) trivial
   ·apply Hh;rfl;rfl;rfl;rfl;exact Hb;exact Gp;intro _
    refine dk ?_
    refine dO 0 (by kernel_rfl) (by rw [List.getElem?_toArray];rfl) ?_
    apply Jk;rfl;intro _
    refine C6 Bh ?_
    refine dk ?_
    refine dO 5 (by kernel_rfl) (by rw [List.getElem?_toArray];rfl) ?_
    refine Ku (ys:=T1) Hl I8 fun a7 c7 F7=>?_
    rw [List.nil_append]
    refine dk ?_
    refine dO 8 (by kernel_rfl) (by rw [List.getElem?_toArray];rfl) ?_
    refine Lh (Qa ⟨p.Ad,x.Ai+3⟩) Hl fun a8 c8 F8=>?_
    refine dk ?_
    refine dO 13 (by kernel_rfl) (by rw [List.getElem?_toArray];rfl) ?_
    refine Ku (ys:=x.holds.drop (Ek x.Aa.Ak x.holds p.Ad)) Hl I8 (h63:=by simp;omega) (hby:=by simp;omega) fun a9 c9 F9=>?_
    refine dk ?_
    refine dt 14 ?_
    refine dO 15 (by kernel_rfl) (by rw [List.getElem?_toArray];rfl) ?_
    apply Cu;rfl;rfl;rfl;(first|exact AggC.s|exact OneC.s);rfl;exact Cw;exact Cv;rfl
    refine dk ?_
    refine dd ?_
    refine go ?_;intros
    rw [hAdd]
    refine Cm (⟨a9,c9,F9⟩:Al2) trivial
  refine Gj (x:=Sb x x.Aa) ?_
  rintro b1 d1 G1 b2 d2 G2 e5 m1 m2
  simp only [Value.agg.injEq,Array.mk.injEq,List.cons.injEq,Value.slice.injEq,Value.int.injEq,true_and,and_true] at e5
  obtain ⟨-, -,⟨rfl, -,rfl⟩, -⟩:=e5
  refine Ay (E:=Bh) fun F9=>?_
  refine D7 ⟨x.Aa,x.Ai,x.quiet,(Iv x.holds (Ek x.Aa.Ak x.holds p.Ad) ⟨p.Ad,x.Ai+3⟩)⟩ (a1:=s.a) ?_
  refine go ?_;intros
  refine Aw [4,7] [] ?_
  refine dt 0 ?_
  refine dt 1 ?_
  refine dt 2 ?_
  refine dO 3 (by kernel_rfl) (by rw [List.getElem?_toArray];rfl) ?_
  apply Hh;rfl;rfl;rfl;rfl;exact Hb;exact Gp;intro _
  refine dk ?_
  refine dO 4 (by kernel_rfl) (by rw [List.getElem?_toArray];rfl) ?_
  refine Lh (C4 (Da x.Aa p).1 hans) Gz fun a9 c9 F9=>?_
  refine dk ?_
  refine dO 5 (by kernel_rfl) (by rw [List.getElem?_toArray];rfl) ?_
  apply Cu;rfl;rfl;rfl;(first|exact AggC.s|exact OneC.s);rfl;exact Cw;exact Cv;rfl
  refine dk ?_
  refine dt 6 ?_
  refine dd ?_
  refine go ?_;intros
  refine ret ⟨s.a,s.c,z.a,z.c,_,a9,c9,F9⟩ trivial rfl
 ·have e1:Kn x p.Ad=Sb x x.Aa:=by unfold Kn;rw [hb,ht];rfl
  have e2:J8 x p=[Su x.Aa p.Ad]:=by unfold J8;rw [hb,ht];rfl
  rw [e1,e2]
  refine go ?_;intros
  refine ret ⟨s.a,s.c,s.a2,s.c2,s.F,_,_,_⟩ trivial rfl
theorem Abm (x:Ch) (p:As) (v:Value) (F:List Nat) (hg:Cd x=true) (n0:0≤p.Ad) (n1:p.Ad≤65535) (hps:p.data.size≤maxLen) :
  Fn prog 110 [v,.agg #[.int .i64 p.C2,.int .i64 p.Ad,.int .i64 p.Ak,.int .i64 p.D0,.string p.data]] [.isv Dn v x F] [] (fun (_:TiS)=>True) (fun s=>.tuple #[.agg #[.int .i64 (I0 x p.Ad).Aa.Ak,.int .i64 (I0 x p.Ad).Aa.size,.slice s.a (I0 x p.Ad).Aa.Aj.length s.c,.int .i64 (I0 x p.Ad).Ai,.int .i64 (I0 x p.Ad).quiet,.slice s.a2 (I0 x p.Ad).holds.length s.c2],.slice s.ae (J8 x p).length s.ce])
   (fun s=>[.isv Dn (.agg #[.int .i64 (I0 x p.Ad).Aa.Ak,.int .i64 (I0 x p.Ad).Aa.size,.slice s.a (I0 x p.Ad).Aa.Aj.length s.c,.int .i64 (I0 x p.Ad).Ai,.int .i64 (I0 x p.Ad).quiet,.slice s.a2 (I0 x p.Ad).holds.length s.c2]) (I0 x p.Ad) s.F,.ow Al 108 (.slice s.ae (J8 x p).length s.ce) (J8 x p) s.Fe]):=by
 obtain ⟨gw,hl,t0,t1,k0,k1,hm,hn,hu,hb⟩:=Mi hg
 have h:=Sx x p v F t0 t1 hl k0 (by omega) (by omega) (Xo hn) (by omega) (by omega) hps (Xy gw)
 rw [Ak3 hg] at h
 exact h
structure JU where
 g:Nat
 b:Option Addr
 d:Nat
 F:List Nat
theorem Amz (n:Eg) (i:Nat) (p:As) (a1:Option Addr) (c1:Nat) (a4:Option Addr) (c4:Nat) (a5:Option Addr) (c5:Nat) (a6:Option Addr) (c6:Nat) (a7:Option Addr) (c7:Nat) (a2 a3:Option Addr) (c2 c3:Nat) (F1 FS:List Nat) (z:SZ) (hl:L7 n=true) (h0:i≠0) (hi:i < n.An.Ac.length) (h8:Mw n.An.Ac) (hsrc:Cd n.Ab=true) (he:∀k,k≠0→k < n.An.Ac.length→Hw n.An.Ac (k:Nat)=false→Bw (Pj n k)=true) (hp:Bk p=true) (hps:p.data.size≤maxLen) (hd:∀q∈n.down,q.length≤6) (hu:∀q∈n.up,q.length≤6) :
  Fn prog 95 [.agg #[.slice a1 n.An.Ac.length c1,.int .i64 n.Ab.Aa.Ak,.int .i64 n.Ab.Aa.size,.slice a2 n.Ab.Aa.Aj.length c2,.int .i64 n.Ab.Ai,.int .i64 n.Ab.quiet,.slice a3 n.Ab.holds.length c3,.slice a4 n.An.Ac.length c4,.slice a5 n.An.Ac.length c5,.slice a6 n.An.Ac.length c6,.slice a7 n.An.Ac.length c7],.int .i64 (i:Nat),.agg #[.int .i64 (p).C2,.int .i64 (p).Ad,.int .i64 (p).Ak,.int .i64 (p).D0,.string (p).data]] [.sl Bd (.slice a1 n.An.Ac.length c1) n.An.Ac F1,.isv Dn (.agg #[.int .i64 n.Ab.Aa.Ak,.int .i64 n.Ab.Aa.size,.slice a2 n.Ab.Aa.Aj.length c2,.int .i64 n.Ab.Ai,.int .i64 n.Ab.quiet,.slice a3 n.Ab.holds.length c3]) n.Ab FS,.isv (EA Bv n.An.Ac.length) (.agg z.e.ys.flatten.toArray) n.Af z.e.G,.isv (EA Cb n.An.Ac.length) (.agg z.r.ys.flatten.toArray) n.Ae z.r.G,.isv (EA (Ly Al (by decide)) n.An.Ac.length) (.agg z.d.ys.flatten.toArray) n.down z.d.G,.isv (EA (Ly Al (by decide)) n.An.Ac.length) (.agg z.u.ys.flatten.toArray) n.up z.u.G] [.ow (EC 2) 96 (.slice a4 n.An.Ac.length c4) z.e.ys z.e.F,.ow (EC 5) 55 (.slice a5 n.An.Ac.length c5) z.r.ys z.r.F,.ow (EC 1) 99 (.slice a6 n.An.Ac.length c6) z.d.ys z.d.F,.ow (EC 1) 99 (.slice a7 n.An.Ac.length c7) z.u.ys z.u.F] (fun (_:SZ × Aa9)=>True) (fun y=>.agg #[.int .i64 ((Lx n i p).Ab).Aa.Ak,.int .i64 ((Lx n i p).Ab).Aa.size,.slice y.2.a ((Lx n i p).Ab).Aa.Aj.length y.2.c,.int .i64 ((Lx n i p).Ab).Ai,.int .i64 ((Lx n i p).Ab).quiet,.slice y.2.a2 ((Lx n i p).Ab).holds.length y.2.c2]) (fun y=>[.ow (EC 2) 96 (.slice a4 n.An.Ac.length c4) y.1.e.ys y.1.e.F,.ow (EC 5) 55 (.slice a5 n.An.Ac.length c5) y.1.r.ys y.1.r.F,.ow (EC 1) 99 (.slice a6 n.An.Ac.length c6) y.1.d.ys y.1.d.F,.ow (EC 1) 99 (.slice a7 n.An.Ac.length c7) y.1.u.ys y.1.u.F,.isv (EA Bv n.An.Ac.length) (.agg y.1.e.ys.flatten.toArray) (Lx n i p).Af y.1.e.G,.isv (EA Cb n.An.Ac.length) (.agg y.1.r.ys.flatten.toArray) (Lx n i p).Ae y.1.r.G,.isv (EA (Ly Al (by decide)) n.An.Ac.length) (.agg y.1.d.ys.flatten.toArray) (Lx n i p).down y.1.d.G,.isv (EA (Ly Al (by decide)) n.An.Ac.length) (.agg y.1.u.ys.flatten.toArray) (Lx n i p).up y.1.u.G,.isv Dn (.agg #[.int .i64 ((Lx n i p).Ab).Aa.Ak,.int .i64 ((Lx n i p).Ab).Aa.size,.slice y.2.a ((Lx n i p).Ab).Aa.Aj.length y.2.c,.int .i64 ((Lx n i p).Ab).Ai,.int .i64 ((Lx n i p).Ab).quiet,.slice y.2.a2 ((Lx n i p).Ab).holds.length y.2.c2]) (Lx n i p).Ab y.2.F]):=by
 obtain ⟨q1,q2,q3,q4⟩:=Bz.1 hl
 have hn8:=h8.n1
 obtain ⟨n0,n1⟩:=H5 hp
 have hone:∀x∈[((i:Nat):Int)],0≤x∧x.toNat < n.down.length:=fun x hx=>by
  rw [List.mem_singleton] at hx;subst hx;omega
 obtain ⟨k,hk⟩:∃k,Sq n i=k:=⟨_,rfl⟩
 obtain ⟨e1,e2,e3⟩:=Agd h8 hi h0 hk
 refine enter func95 rfl ntmps95 fun w0=>?_
 refine Je (xs:=n.An.Ac) i ?_
 rintro hi2 b o e4
 rw [e4,e1]
 refine go ?_;intros
 refine Bf rfl (fun h5=>?_) (fun h5=>?_)
 ·obtain rfl:k=0:=by omega
  rw [show Lx n i p=⟨n.An,I0 n.Ab p.Ad,n.Af,n.Ae,Dd n.down [((i:Nat):Int)] (J8 n.Ab p),n.up⟩ by unfold Lx;rw [if_pos hk]]
  refine go ?_;intros
  refine cf (Abm n.Ab p _ FS hsrc n0 n1 hps) fun u _=>?_
  refine Ar ?_
  refine Kx ?_;intros
  refine Dz (E:=Bd) (xs:=[((i:Nat):Int)]) (Ma _) ?_ (by simp)
  refine Ay (E:=Bd) (xs:=[((i:Nat):Int)]) fun Fo=>?_
  refine Ay (E:=Al) (xs:=J8 n.Ab p) fun Fq=>?_
  refine go ?_;intros
  refine cf (La n.down [((i:Nat):Int)] (J8 n.Ab p) _ _ _ _ _ _ _ _ _ _ _ _ _ _ _ _ _ _ _ _ _ _ _ _ _ z.d.ys z.d.F z.d.G _ _ Fo _ _ Fq hone hd) fun y _=>?_
  refine Ar ?_
  refine go ?_;intros
  refine ret (⟨⟨z.e,z.r,⟨y.ys,y.F,y.G⟩,z.u⟩,⟨u.a,u.c,u.a2,u.c2,u.F⟩⟩:SZ × Aa9) trivial rfl
 have h6:k≠0:=by omega
 have hkl:k < n.Af.length:=by omega
 have hku:k < n.up.length:=by omega
 have hge:Bw n.Af[k]=true:=Iw hkl▸he k h6 (by omega) e3
 have hel:=(Ey.1 hge).2.1
 obtain ⟨hc0,hc1⟩:=Lk.1 (Ey.1 hge).1
 rw [show Lx n i p=⟨n.An,n.Ab,n.Af.set k (Ks n.Af[k] p.Ad ((i:Nat):Int)),n.Ae,Dd n.down [((i:Nat):Int)] [Ti p],if Vb n.Af[k] p.Ad then n.up.modify k fun q=>Eq q [p] else n.up⟩ by unfold Lx;rw [if_neg (by omega),hk,Iw hkl]]
 refine go ?_;intros
 refine Ed (ys:=z.e.ys) fun hm hlr=>?_
 refine Y4 (E:=Bv) (ys:=z.e.ys) (xs:=n.Af) k hm (by omega) (by omega) fun h2 h3 v Gi ev=>?_
 refine Er (v:=v) (x:=n.Af[k]) ?_
 rintro b1 d1 G1 rfl l1
 have e8:z.e.ys[k]=[.int .i64 n.Af[k].Ai,.slice b1 n.Af[k].Ah.length d1]:=by simpa using ev.symm
 refine Nl (E:=EC 2) (xs:=z.e.ys) (m:=2) (E9 2) k ?_ (by repeat (first|exact .here|apply C1.there)) rfl h2
 rintro _ g A cs B rfl k2 k3 hH
 obtain ⟨k4, -, -⟩:=k3 w0
 rw [e8] at k4
 subst k4
 dsimp only [List.append]
 refine go ?_;intros
 refine Gc [1,3,5,6,7] [0,1,2,3,4,5,6,7,8,9,10,11,12,13,14,15] (fun w:JU=>[(10,Eu w.g 0 0),(11,.bool (Vb n.Af[k] p.Ad))]) (fun w=>[.row w.g 96 0 [] [.int .i64 (Ks n.Af[k] p.Ad ((i:Nat):Int)).Ai,.slice w.b (Ks n.Af[k] p.Ad ((i:Nat):Int)).Ah.length w.d] [],.isv Bv (.agg #[.int .i64 (Ks n.Af[k] p.Ad ((i:Nat):Int)).Ai,.slice w.b (Ks n.Af[k] p.Ad ((i:Nat):Int)).Ah.length w.d]) (Ks n.Af[k] p.Ad ((i:Nat):Int)) w.F]) (fun _=>True) ?_ fun w _=>?_
 ·skip
  refine Aw [0,4,5] [] ?_
  refine dt 0 ?_
  refine dt 1 ?_
  refine dt 2 ?_
  refine dt 3 ?_
  refine dt 4 ?_
  refine dt 5 ?_
  refine dt 6 ?_
  refine dt 7 ?_
  refine Ob 8 12 (by kernel_rfl) (by rw [List.getElem?_toArray];rfl) (by rw [List.getElem?_toArray];rfl) ?_ ?_
  ·apply At;rfl;kernel_rfl;exact Be
   refine cf (Qp n.Af[k] p.Ad ((i:Nat):Int) _ Gi (by omega) (fun x hx=>by have:=L5 hge hx;omega) (by omega) (by omega)) fun s _=>?_
   refine Ar ?_
   refine Gh ?_
   rintro b3 d3 G3 es l3
   rw [es]
   refine E5 (Ks n.Af[k] p.Ad ((i:Nat):Int)) ?_
   refine Mq J0 fun Fe=>?_
   refine dk ?_
   refine dt 9 ?_
   refine dt 10 ?_
   refine dt 11 ?_
   refine dO 12 (by kernel_rfl) (by rw [List.getElem?_toArray];rfl) ?_
   apply Co;rfl;intro _
   refine dk ?_
   refine dO 13 (by kernel_rfl) (by rw [List.getElem?_toArray];rfl) ?_
   apply Cu;rfl;rfl;rfl;(first|exact AggC.s|exact OneC.s);rfl;exact Cw;exact Cv;rfl
   refine dk ?_
   refine dt 14 ?_
   refine dd ?_
   refine Cm (⟨_,b3,d3,Fe⟩:JU) trivial
  ·apply Co;rfl;intro _
   refine dk ?_
   refine dO 8 (by kernel_rfl) (by rw [List.getElem?_toArray];rfl) ?_
   apply At;rfl;kernel_rfl;exact Be
   refine cf (Qp n.Af[k] p.Ad ((i:Nat):Int) _ Gi (by omega) (fun x hx=>by have:=L5 hge hx;omega) (by omega) (by omega)) fun s _=>?_
   refine Ar ?_
   refine Gh ?_
   rintro b3 d3 G3 es l3
   rw [es]
   refine E5 (Ks n.Af[k] p.Ad ((i:Nat):Int)) ?_
   refine Mq J0 fun Fe=>?_
   refine dk ?_
   refine dt 9 ?_
   refine dt 10 ?_
   refine dt 11 ?_
   refine dO 13 (by kernel_rfl) (by rw [List.getElem?_toArray];rfl) ?_
   apply Cu;rfl;rfl;rfl;(first|exact AggC.s|exact OneC.s);rfl;exact Cw;exact Cv;rfl
   refine dk ?_
   refine dt 14 ?_
   refine dd ?_
   refine Cm (⟨_,b3,d3,Fe⟩:JU) trivial
 refine Kx ?_;intros
 refine Mr (E:=EC 2) (xs:=z.e.ys) [.int .i64 (Ks n.Af[k] p.Ad ((i:Nat):Int)).Ai,.slice w.b (Ks n.Af[k] p.Ad ((i:Nat):Int)).Ah.length w.d] hH (fun _=>⟨rfl,⟨rfl,by simp [Value.oneCell']⟩,rfl⟩) ?_
 refine M8 (E:=Bv) (ys:=z.e.ys) (xs:=n.Af) (x:=Ks n.Af[k] p.Ad ((i:Nat):Int)) k rfl hm (by omega) fun G'=>?_
 refine Dz (E:=Bd) (xs:=[((i:Nat):Int)]) (Ma _) ?_ (by simp)
 refine Ay (E:=Bd) (xs:=[((i:Nat):Int)]) fun Fo=>?_
 refine Dz (E:=Al) (xs:=[Ti p]) (C4 (Ti p) (Nat.zero_le _)) ?_ (by simp)
 refine Ay (E:=Al) (xs:=[Ti p]) fun Fp=>?_
 refine go ?_;intros
 refine cf (La n.down [((i:Nat):Int)] [Ti p] _ _ _ _ _ _ _ _ _ _ _ _ _ _ _ _ _ _ _ _ _ _ _ _ _ z.d.ys z.d.F z.d.G _ _ Fo _ _ Fp hone hd) fun y _=>?_
 refine Ar ?_
 cases hf:Vb n.Af[k] p.Ad
 ·rw [if_neg (by decide)]
  refine go ?_;intros
  refine ret (⟨⟨⟨z.e.ys.set k [.int .i64 (Ks n.Af[k] p.Ad ((i:Nat):Int)).Ai,.slice w.b (Ks n.Af[k] p.Ad ((i:Nat):Int)).Ah.length w.d],[g],G'⟩,z.r,⟨y.ys,y.F,y.G⟩,z.u⟩,⟨a2,c2,a3,c3,FS⟩⟩:SZ × Aa9) trivial rfl
 ·rw [if_pos rfl,Fb hku]
  have hu6:=hu _ (List.getElem_mem hku)
  refine go ?_;intros
  refine Ed (ys:=z.u.ys) fun hmu hlu=>?_
  refine Y3 (ys:=z.u.ys) (xs:=n.up) k hmu (by omega) (by omega) fun h9 _ Gu=>?_
  refine Ve (x:=n.up[k]) fun a9 c9 e9 l9=>?_
  have e10:z.u.ys[k]=[.slice a9 n.up[k].length c9]:=by simpa using e9
  refine Nl (E:=EC 1) (xs:=z.u.ys) (m:=1) (E9 1) k ?_ (by repeat (first|exact .here|apply C1.there)) rfl h9
  rintro _ gu Au cs Bu rfl j2 j3 hHu
  obtain ⟨j4, -, -⟩:=j3 w0
  rw [e10] at j4
  subst j4
  refine go ?_;intros
  refine Aw [0,14,15] [12] ?_
  refine dt 0 ?_
  refine dt 1 ?_
  refine dt 2 ?_
  refine dt 3 ?_
  refine dt 4 ?_
  refine dt 5 ?_
  refine dt 6 ?_
  refine dt 7 ?_
  refine dt 8 ?_
  refine dO 9 (by kernel_rfl) (by rw [List.getElem?_toArray];rfl) ?_
  apply Hh;rfl;rfl;rfl;rfl;exact Hb;exact Gp;intro _
  refine Dz (E:=Al) (xs:=[p]) (C4 p hps) ?_ (by simp)
  refine Ay (E:=Al) (xs:=[p]) fun Fp2=>?_
  refine dk ?_
  refine dO 10 (by kernel_rfl) (by rw [List.getElem?_toArray];rfl) ?_
  apply At;rfl;kernel_rfl;exact Be
  refine cf (Yk n.up[k] [p] a9 c9 _ _ _ Fp2 (by omega)) fun r _=>?_
  refine Ar ?_
  refine dk ?_
  refine dt 11 ?_
  refine dO 12 (by kernel_rfl) (by rw [List.getElem?_toArray];rfl) ?_
  apply Cu;rfl;rfl;rfl;(first|exact AggC.s|exact OneC.s);rfl;exact Cw;exact Cv;rfl
  refine Mg ?_
  refine dd ?_
  refine Mr (E:=EC 1) (xs:=z.u.ys) [.slice r.a (Eq n.up[k] [p]).length r.c] hHu (fun w=>⟨rfl,⟨rfl,by simp [Value.oneCell']⟩,rfl⟩) ?_
  refine Ay (E:=Al) (xs:=Eq n.up[k] [p]) fun Fu=>?_
  refine Tw (E:=Al) (x:=Eq n.up[k] [p]) (by decide) ?_
  refine M8 (E:=Ly Al (by decide)) (ys:=z.u.ys) (xs:=n.up) (x:=Eq n.up[k] [p]) k rfl hmu (by omega) fun Gv=>?_
  refine go ?_;intros
  refine ret (⟨⟨⟨z.e.ys.set k [.int .i64 (Ks n.Af[k] p.Ad ((i:Nat):Int)).Ai,.slice w.b (Ks n.Af[k] p.Ad ((i:Nat):Int)).Ah.length w.d],[g],G'⟩,z.r,⟨y.ys,y.F,y.G⟩,⟨z.u.ys.set k [.slice r.a (Eq n.up[k] [p]).length r.c],[gu],Gv⟩⟩,⟨a2,c2,a3,c3,FS⟩⟩:SZ × Aa9) trivial rfl
structure TkZ where
 k:Nat
 z:SZ
 a:Option Addr
 c:Nat
 F:List Nat
theorem Ahy (n:Eg) (a1:Option Addr) (c1:Nat) (a4:Option Addr) (c4:Nat) (a5:Option Addr) (c5:Nat) (a6:Option Addr) (c6:Nat) (a7:Option Addr) (c7:Nat) (a2 a3:Option Addr) (c2 c3:Nat) (F1 FS FT:List Nat) (z:SZ) (hg:A8 n=true) (hc:n.Ab.Ai < 9999) :
  Fn prog 93 [.agg #[.slice a1 n.An.Ac.length c1,.int .i64 n.Ab.Aa.Ak,.int .i64 n.Ab.Aa.size,.slice a2 n.Ab.Aa.Aj.length c2,.int .i64 n.Ab.Ai,.int .i64 n.Ab.quiet,.slice a3 n.Ab.holds.length c3,.slice a4 n.An.Ac.length c4,.slice a5 n.An.Ac.length c5,.slice a6 n.An.Ac.length c6,.slice a7 n.An.Ac.length c7]] [Mt FT,.sl Bd (.slice a1 n.An.Ac.length c1) n.An.Ac F1,.isv Dn (.agg #[.int .i64 n.Ab.Aa.Ak,.int .i64 n.Ab.Aa.size,.slice a2 n.Ab.Aa.Aj.length c2,.int .i64 n.Ab.Ai,.int .i64 n.Ab.quiet,.slice a3 n.Ab.holds.length c3]) n.Ab FS,.isv (EA Bv n.An.Ac.length) (.agg z.e.ys.flatten.toArray) n.Af z.e.G,.isv (EA Cb n.An.Ac.length) (.agg z.r.ys.flatten.toArray) n.Ae z.r.G,.isv (EA (Ly Al (by decide)) n.An.Ac.length) (.agg z.d.ys.flatten.toArray) n.down z.d.G,.isv (EA (Ly Al (by decide)) n.An.Ac.length) (.agg z.u.ys.flatten.toArray) n.up z.u.G] [.ow (EC 2) 96 (.slice a4 n.An.Ac.length c4) z.e.ys z.e.F,.ow (EC 5) 55 (.slice a5 n.An.Ac.length c5) z.r.ys z.r.F,.ow (EC 1) 99 (.slice a6 n.An.Ac.length c6) z.d.ys z.d.F,.ow (EC 1) 99 (.slice a7 n.An.Ac.length c7) z.u.ys z.u.F] (fun (_:SZ × TiS × KA)=>True) (fun y=>.tuple #[.agg #[.int .i64 ((Bp n).1.Ab).Aa.Ak,.int .i64 ((Bp n).1.Ab).Aa.size,.slice y.2.1.a ((Bp n).1.Ab).Aa.Aj.length y.2.1.c,.int .i64 ((Bp n).1.Ab).Ai,.int .i64 ((Bp n).1.Ab).quiet,.slice y.2.1.a2 ((Bp n).1.Ab).holds.length y.2.1.c2],.slice y.2.2.a (Bp n).2.length y.2.2.c]) (fun y=>[.ow (EC 2) 96 (.slice a4 n.An.Ac.length c4) y.1.e.ys y.1.e.F,.ow (EC 5) 55 (.slice a5 n.An.Ac.length c5) y.1.r.ys y.1.r.F,.ow (EC 1) 99 (.slice a6 n.An.Ac.length c6) y.1.d.ys y.1.d.F,.ow (EC 1) 99 (.slice a7 n.An.Ac.length c7) y.1.u.ys y.1.u.F,.isv (EA Bv n.An.Ac.length) (.agg y.1.e.ys.flatten.toArray) (Bp n).1.Af y.1.e.G,.isv (EA Cb n.An.Ac.length) (.agg y.1.r.ys.flatten.toArray) (Bp n).1.Ae y.1.r.G,.isv (EA (Ly Al (by decide)) n.An.Ac.length) (.agg y.1.d.ys.flatten.toArray) (Bp n).1.down y.1.d.G,.isv (EA (Ly Al (by decide)) n.An.Ac.length) (.agg y.1.u.ys.flatten.toArray) (Bp n).1.up y.1.u.G,.isv Dn (.agg #[.int .i64 ((Bp n).1.Ab).Aa.Ak,.int .i64 ((Bp n).1.Ab).Aa.size,.slice y.2.1.a ((Bp n).1.Ab).Aa.Aj.length y.2.1.c,.int .i64 ((Bp n).1.Ab).Ai,.int .i64 ((Bp n).1.Ab).quiet,.slice y.2.1.a2 ((Bp n).1.Ab).holds.length y.2.1.c2]) (Bp n).1.Ab y.2.1.F,.ow A9 9 (.slice y.2.2.a (Bp n).2.length y.2.2.c) (Bp n).2 y.2.2.F]):=by
 have hG:=A1.1 hg
 have h8:=Ex hG.t
 have hn8:=h8.n1
 have hn2:=h8.n0
 obtain ⟨q1,q2,q3,q4⟩:=Bz.1 hG.l
 have hkl:=P3 n.An.Ac 0
 have hkx:∀x∈Fv n.An.Ac 0,0≤x∧x.toNat < n.down.length:=fun x hx=>by have:=Iy (i:=0) h8 hx;omega
 have hd:∀q∈n.down,q.length≤6:=fun q hq=>(Gk ((Ky hg).2.2.1 q hq)).1
 refine enter func93 rfl ntmps93 fun w0=>?_
 refine M3 n.An ?_
 refine go ?_;intros
 refine cf (Aht n.Ab _ FS hG.s) fun u _=>?_
 refine Ar ?_
 refine Ay (E:=Al) (xs:=Ka n.Ab.Aa n.Ab.quiet) fun Fp=>?_
 refine go ?_;intros
 refine Aw [4] [] ?_
 refine dt 0 ?_
 refine dt 1 ?_
 refine dt 2 ?_
 refine dt 4 ?_
 refine dO 3 (by kernel_rfl) (by rw [List.getElem?_toArray];rfl) ?_
 apply At;rfl;kernel_rfl;exact Be
 refine cf (Mj n.An 0 _ F1 (Od h8.z (Int.le_refl _)) ⟨by omega,by omega⟩) fun v _=>?_
 refine Ar ?_
 refine Ay (E:=Bd) (xs:=Fv n.An.Ac 0) fun Fk=>?_
 refine dk ?_
 refine dO 5 (by kernel_rfl) (by rw [List.getElem?_toArray];rfl) ?_
 apply At;rfl;kernel_rfl;exact Be
 refine cf (La n.down (Fv n.An.Ac 0) (Ka n.Ab.Aa n.Ab.quiet) _ _ _ _ _ _ _ _ _ _ _ _ _ _ _ _ _ _ _ _ _ _ _ _ _ z.d.ys z.d.F z.d.G _ _ Fk _ _ Fp hkx hd) fun y _=>?_
 refine Ar ?_
 refine dk ?_
 refine dd ?_
 rw [show Dd n.down (Fv n.An.Ac 0) (Ka n.Ab.Aa n.Ab.quiet)=(Bb n 0).1.down from rfl]
 refine go ?_;intros
 refine C6 A9 ?_
 refine go ?_;intros
 refine Ck [1,2,3,4] (fun s:TkZ=>[(6,.slice s.a (Bb n s.k).2.length s.c),(7,.int .i64 ((s.k+1:Nat):Int))]) (fun s=>[.ow (EC 2) 96 (.slice a4 n.An.Ac.length c4) s.z.e.ys s.z.e.F,.ow (EC 5) 55 (.slice a5 n.An.Ac.length c5) s.z.r.ys s.z.r.F,.ow (EC 1) 99 (.slice a6 n.An.Ac.length c6) s.z.d.ys s.z.d.F,.ow (EC 1) 99 (.slice a7 n.An.Ac.length c7) s.z.u.ys s.z.u.F,.isv (EA Bv n.An.Ac.length) (.agg s.z.e.ys.flatten.toArray) (Bb n s.k).1.Af s.z.e.G,.isv (EA Cb n.An.Ac.length) (.agg s.z.r.ys.flatten.toArray) (Bb n s.k).1.Ae s.z.r.G,.isv (EA (Ly Al (by decide)) n.An.Ac.length) (.agg s.z.d.ys.flatten.toArray) (Bb n s.k).1.down s.z.d.G,.isv (EA (Ly Al (by decide)) n.An.Ac.length) (.agg s.z.u.ys.flatten.toArray) (Bb n s.k).1.up s.z.u.G,.ow A9 9 (.slice s.a (Bb n s.k).2.length s.c) (Bb n s.k).2 s.F]) (fun s=>s.k+1≤n.An.Ac.length∧(Bb n s.k).2.length≤40000 * s.k) (fun s=>n.An.Ac.length - s.k) ⟨0,⟨z.e,z.r,⟨y.ys,y.F,y.G⟩,z.u⟩,_,_,_⟩ ⟨by show 0+1≤_;omega,Nat.le_refl _⟩ fun s hs0=>?_
 obtain ⟨k,⟨⟨ye,Fe,Ge⟩,⟨yr,Fr,Gr⟩,⟨yd,Fd,Gd⟩,⟨yu,Fu,Gu⟩⟩,ea,ec,eF⟩:=s
 obtain ⟨hk,hel⟩:=hs0
 dsimp only at hk hel ⊢
 obtain ⟨hGN,hT,hSrc⟩:=Mb hg hc k (by omega)
 obtain ⟨r1,r2,r3,r4⟩:=Bz.1 hGN.l
 rw [hT] at r1 r2 r3 r4
 refine go ?_;intros
 refine Bf rfl (fun h1=>?_) (fun h1=>?_)
 ·have hj:k+1 < n.An.Ac.length:=by omega
  obtain ⟨i1,i2,i3,i4,hrn⟩:=hGN.rn (i:=k+1) (by rw [hT];exact hj)
  rw [hT] at hrn
  obtain ⟨d0,d1_⟩:=U8 (i:=k+1)
  refine go ?_;intros
  refine cf (Aam n.An ((k+1:Nat):Int) _ F1 h8 (by omega)) fun _ _=>?_
  refine Ar ?_
  cases hlf:Hw n.An.Ac ((k+1:Nat):Int)
  ·obtain ⟨hge,hck, -⟩:=hrn.hn (by omega) hlf
   obtain ⟨hgc,hel5, -⟩:=Ey.1 hge
   have hnx:Bb n (k+1)=(⟨n.An,Jv n.Ab,(Bb n k).1.Af.set (k+1) (Dx (Bb n k).1.Af[k+1]),(Bb n k).1.Ae,(Bb n k).1.down,(Bb n k).1.up⟩,(Bb n k).2++[]):=by
    show ((J9 (Bb n k).1 (k+1)).1,(Bb n k).2++(J9 (Bb n k).1 (k+1)).2)=_
    unfold J9
    rw [hT,hlf,if_neg (by decide),Iw i1,hSrc]
   rw [List.append_nil] at hnx
   refine go ?_;intros
   refine Ed (ys:=ye) fun hm hlr=>?_
   refine Y4 (E:=Bv) (ys:=ye) (xs:=(Bb n k).1.Af) (k+1) hm (by omega) (by omega) fun h2 h3 v Gi ev=>?_
   generalize hE:(Bb n k).1.Af[k+1]=E at *
   refine Er (v:=v) (x:=E) ?_
   rintro b1 d1 G1 rfl l1
   have e8:ye[k+1]=[.int .i64 E.Ai,.slice b1 E.Ah.length d1]:=by simpa using ev.symm
   refine Nl (E:=EC 2) (xs:=ye) (m:=2) (E9 2) (k+1) ?_ (by repeat (first|exact .here|apply C1.there)) rfl h2
   rintro _ g A cs B rfl k2 k3 hH
   obtain ⟨k4, -, -⟩:=k3 w0
   rw [e8] at k4
   subst k4
   dsimp only [List.append]
   refine go ?_;intros
   refine Aw [0,16] [10] ?_
   refine dt 0 ?_
   refine dt 1 ?_
   refine dt 2 ?_
   refine dt 3 ?_
   refine dt 4 ?_
   refine dt 5 ?_
   refine dt 6 ?_
   refine dt 7 ?_
   refine dO 8 (by kernel_rfl) (by rw [List.getElem?_toArray];rfl) ?_
   apply At;rfl;kernel_rfl;exact Be
   refine cr (fun w st=>Aal _ E Gi w (st.get (p:=.isv Bv (.agg #[.int .i64 E.Ai,.slice b1 E.Ah.length d1]) E Gi) (by exact B8)) hgc (by omega) (fun x hx=>by have:=L5 hge hx;omega)) fun v3 FU=>?_
   refine Er (v:=v3) ?_
   rintro b3 d3 G3 rfl l3
   refine dk ?_
   refine dt 9 ?_
   refine dO 10 (by kernel_rfl) (by rw [List.getElem?_toArray];rfl) ?_
   apply Cu;rfl;rfl;rfl;(first|exact AggC.s|exact OneC.s);rfl;exact Cw;exact Cv;rfl
   refine Mg ?_
   refine dd ?_
   refine Mr (E:=EC 2) (xs:=ye) [.int .i64 (Dx E).Ai,.slice b3 (Dx E).Ah.length d3] hH (fun _=>⟨rfl,⟨rfl,by simp [Value.oneCell']⟩,rfl⟩) ?_
   refine M8 (E:=Bv) (ys:=ye) (xs:=(Bb n k).1.Af) (x:=Dx E) (k+1) rfl hm (by omega) fun G'=>?_
   refine go ?_;intros
   refine Ct ⟨k+1,⟨⟨ye.set (k+1) [.int .i64 (Dx E).Ai,.slice b3 (Dx E).Ah.length d3],[g],G'⟩,⟨yr,Fr,Gr⟩,⟨yd,Fd,Gd⟩,⟨yu,Fu,Gu⟩⟩,ea,ec,eF⟩ ⟨by show k+1+1≤_;omega,by rw [hnx];dsimp only;omega⟩ (by show n.An.Ac.length - (k+1) < n.An.Ac.length - k;omega) (by dsimp only;rw [hnx];exact frE) (by dsimp only;rw [hnx];exact hsE)
  ·obtain ⟨-,hgr0,hck⟩:=hrn.hf (by omega) hlf
   have hgr:=Gm.1 hgr0
   obtain ⟨hsm,hfew⟩:=Vy hgr
   have hnx:Bb n (k+1)=(⟨n.An,Jv n.Ab,(Bb n k).1.Af,(Bb n k).1.Ae.set (k+1) (Cj (Bb n k).1.Ae[k+1] (Ke (k+1))),(Bb n k).1.down,(Bb n k).1.up.set (k+1) (Eq (Bb n k).1.up[k+1] (D9 (Bb n k).1.Ae[k+1]))⟩,(Bb n k).2++Ny (k+1) (Ev (Bb n k).1.Ae[k+1])):=by
    show ((J9 (Bb n k).1 (k+1)).1,(Bb n k).2++(J9 (Bb n k).1 (k+1)).2)=_
    unfold J9
    rw [hT,hlf,if_pos rfl,Jo i2,hSrc,Fb i4]
   have htl:(Ny (k+1) (Ev (Bb n k).1.Ae[k+1])).length=(Ev (Bb n k).1.Ae[k+1]).length:=List.length_map ..
   have hu6:=(Gk hrn.hu).1
   generalize hR:(Bb n k).1.Ae[k+1]=R at *
   generalize hQ:(Bb n k).1.up[k+1]=Q at *
   refine go ?_;intros
   refine Ed (ys:=yr) fun hm hlr=>?_
   refine Y4 (E:=Cb) (ys:=yr) (xs:=(Bb n k).1.Ae) (k+1) hm (by omega) (by omega) fun h2 h3 v Gi ev=>?_
   rw [hR]
   refine Ic (v:=v) (x:=R) ?_
   rintro b1 d1 G1 b2 d2 G2 rfl l1 l2
   have e8:yr[k+1]=[.bool (R).Bg,.int .i64 (R).Ai,.int .i64 (R).Aa.next,.slice b1 (R).Aa.Ao.length d1,.slice b2 (R).Ap.length d2]:=by simpa using ev.symm
   refine Nl (E:=EC 5) (xs:=yr) (m:=5) (E9 5) (k+1) ?_ (by repeat (first|exact .here|apply C1.there)) rfl h2
   rintro _ g A cs B rfl k2 k3 hH
   obtain ⟨k4, -, -⟩:=k3 w0
   rw [e8] at k4
   subst k4
   dsimp only [List.append]
   refine go ?_;intros
   refine Gc [1,2,3,4,6,7] [0,1,2,3,4,5,6,7,8,9,10,11,12,13,14,15,16,17,18,19,20,21,22] (fun w:Nat × TkR=>[(8,Eu w.1 0 0),(9,.slice w.2.a3 (D9 R).length w.2.c3),(10,.slice w.2.a4 (Ev R).length w.2.c4)]) (fun w=>[.row w.1 55 0 [] [.bool (Cj R (Ke (k+1))).Bg,.int .i64 (Cj R (Ke (k+1))).Ai,.int .i64 (Cj R (Ke (k+1))).Aa.next,.slice w.2.a1 (Cj R (Ke (k+1))).Aa.Ao.length w.2.c1,.slice w.2.a2 (Cj R (Ke (k+1))).Ap.length w.2.c2] [],.isv Cb (.agg #[.bool (Cj R (Ke (k+1))).Bg,.int .i64 (Cj R (Ke (k+1))).Ai,.int .i64 (Cj R (Ke (k+1))).Aa.next,.slice w.2.a1 (Cj R (Ke (k+1))).Aa.Ao.length w.2.c1,.slice w.2.a2 (Cj R (Ke (k+1))).Ap.length w.2.c2]) (Cj R (Ke (k+1))) w.2.F1,.ow Al 108 (.slice w.2.a3 (D9 R).length w.2.c3) (D9 R) w.2.F3,.ow A9 9 (.slice w.2.a4 (Ev R).length w.2.c4) (Ev R) w.2.F4]) (fun _=>True) ?_ fun w _=>?_
   ·skip
    refine Aw [0,17] [] ?_
    refine dt 0 ?_
    refine dt 1 ?_
    refine dt 2 ?_
    refine dt 3 ?_
    refine dt 4 ?_
    refine dt 5 ?_
    refine Ob 6 12 (by kernel_rfl) (by rw [List.getElem?_toArray];rfl) (by rw [List.getElem?_toArray];rfl) ?_ ?_
    ·apply At;rfl;kernel_rfl;exact Be
     refine cf (Qq (k+1) (by omega)) fun _ _=>?_
     refine Ar ?_
     refine dk ?_
     refine Ob 7 12 (by kernel_rfl) (by rw [List.getElem?_toArray];rfl) (by rw [List.getElem?_toArray];rfl) ?_ ?_
     ·apply At;rfl;kernel_rfl;exact Be
      refine cf (Vh R (Ke (k+1)) _ Gi hgr (by omega) (by omega) (by have:=hgr.k1;omega)) fun s _=>?_
      refine Ar ?_
      refine dk ?_
      refine dt 8 ?_
      refine dt 9 ?_
      refine dt 10 ?_
      refine dt 11 ?_
      refine dO 12 (by kernel_rfl) (by rw [List.getElem?_toArray];rfl) ?_
      apply Co;rfl;intro _
      refine dk ?_
      refine dO 13 (by kernel_rfl) (by rw [List.getElem?_toArray];rfl) ?_
      apply Cu;rfl;rfl;rfl;(first|exact AggC.s|exact OneC.s);rfl;exact Cw;exact Cv;rfl
      refine dk ?_
      refine dt 14 ?_
      refine dt 15 ?_
      refine dd ?_
      refine Cm (⟨_,s⟩:Nat × TkR) trivial
     ·apply Co;rfl;intro _
      refine dk ?_
      refine dO 7 (by kernel_rfl) (by rw [List.getElem?_toArray];rfl) ?_
      apply At;rfl;kernel_rfl;exact Be
      refine cf (Vh R (Ke (k+1)) _ Gi hgr (by omega) (by omega) (by have:=hgr.k1;omega)) fun s _=>?_
      refine Ar ?_
      refine dk ?_
      refine dt 8 ?_
      refine dt 9 ?_
      refine dt 10 ?_
      refine dt 11 ?_
      refine dO 13 (by kernel_rfl) (by rw [List.getElem?_toArray];rfl) ?_
      apply Cu;rfl;rfl;rfl;(first|exact AggC.s|exact OneC.s);rfl;exact Cw;exact Cv;rfl
      refine dk ?_
      refine dt 14 ?_
      refine dt 15 ?_
      refine dd ?_
      refine Cm (⟨_,s⟩:Nat × TkR) trivial
    ·apply Co;rfl;intro _
     refine dk ?_
     refine dO 6 (by kernel_rfl) (by rw [List.getElem?_toArray];rfl) ?_
     apply At;rfl;kernel_rfl;exact Be
     refine cf (Qq (k+1) (by omega)) fun _ _=>?_
     refine Ar ?_
     refine dk ?_
     refine dO 7 (by kernel_rfl) (by rw [List.getElem?_toArray];rfl) ?_
     apply At;rfl;kernel_rfl;exact Be
     refine cf (Vh R (Ke (k+1)) _ Gi hgr (by omega) (by omega) (by have:=hgr.k1;omega)) fun s _=>?_
     refine Ar ?_
     refine dk ?_
     refine dt 8 ?_
     refine dt 9 ?_
     refine dt 10 ?_
     refine dt 11 ?_
     refine dO 13 (by kernel_rfl) (by rw [List.getElem?_toArray];rfl) ?_
     apply Cu;rfl;rfl;rfl;(first|exact AggC.s|exact OneC.s);rfl;exact Cw;exact Cv;rfl
     refine dk ?_
     refine dt 14 ?_
     refine dt 15 ?_
     refine dd ?_
     refine Cm (⟨_,s⟩:Nat × TkR) trivial
   obtain ⟨gr,s⟩:=w
   dsimp only
   refine Kx ?_;intros
   refine Mr (E:=EC 5) (xs:=yr) [.bool (Cj R (Ke (k+1))).Bg,.int .i64 (Cj R (Ke (k+1))).Ai,.int .i64 (Cj R (Ke (k+1))).Aa.next,.slice s.a1 (Cj R (Ke (k+1))).Aa.Ao.length s.c1,.slice s.a2 (Cj R (Ke (k+1))).Ap.length s.c2] hH (fun _=>⟨rfl,⟨rfl,by simp [Value.oneCell']⟩,rfl⟩) ?_
   refine M8 (E:=Cb) (ys:=yr) (xs:=(Bb n k).1.Ae) (x:=Cj R (Ke (k+1))) (k+1) rfl hm (by omega) fun G'=>?_
   refine Ay (E:=Al) (xs:=D9 R) fun Fp9=>?_
   refine Ed (ys:=yu) fun hmu hlu=>?_
   refine Y3 (ys:=yu) (xs:=(Bb n k).1.up) (k+1) hmu (by omega) (by omega) fun h9 _ Gq=>?_
   rw [hQ]
   refine Ve (x:=Q) fun a9 c9 e9 l9=>?_
   have e10:yu[k+1]=[.slice a9 Q.length c9]:=by simpa using e9
   refine Nl (E:=EC 1) (xs:=yu) (m:=1) (E9 1) (k+1) ?_ (by repeat (first|exact .here|apply C1.there)) rfl h9
   rintro _ gu Au cs Bu rfl j2 j3 hHu
   obtain ⟨j4, -, -⟩:=j3 w0
   rw [e10] at j4
   subst j4
   refine go ?_;intros
   refine Aw [0,24] [11] ?_
   refine dt 0 ?_
   refine dt 1 ?_
   refine dt 2 ?_
   refine dt 3 ?_
   refine dt 4 ?_
   refine dt 5 ?_
   refine dt 6 ?_
   refine dt 7 ?_
   refine dt 8 ?_
   refine dO 9 (by kernel_rfl) (by rw [List.getElem?_toArray];rfl) ?_
   apply At;rfl;kernel_rfl;exact Be
   refine cf (Yk Q (D9 R) a9 c9 _ _ _ Fp9 (by omega)) fun r _=>?_
   refine Ar ?_
   refine dk ?_
   refine dt 10 ?_
   refine dO 11 (by kernel_rfl) (by rw [List.getElem?_toArray];rfl) ?_
   apply Cu;rfl;rfl;rfl;(first|exact AggC.s|exact OneC.s);rfl;exact Cw;exact Cv;rfl
   refine Mg ?_
   refine dd ?_
   refine Mr (E:=EC 1) (xs:=yu) [.slice r.a (Eq Q (D9 R)).length r.c] hHu (fun _=>⟨rfl,⟨rfl,by simp [Value.oneCell']⟩,rfl⟩) ?_
   refine Ay (E:=Al) (xs:=Eq Q (D9 R)) fun Fu=>?_
   refine Tw (E:=Al) (x:=Eq Q (D9 R)) (by decide) ?_
   refine M8 (E:=Ly Al (by decide)) (ys:=yu) (xs:=(Bb n k).1.up) (x:=Eq Q (D9 R)) (k+1) rfl hmu (by omega) fun Gv=>?_
   refine Ay (E:=A9) (xs:=Ev R) fun F7=>?_
   refine go ?_;intros
   refine cf (Aan (k+1) (Ev R) _ _ F7 FT (by omega) (by omega) hsm) fun u9 _=>?_
   refine Ar ?_
   refine Ay (E:=A9) (xs:=Ny (k+1) (Ev R)) fun F8=>?_
   apply wO
   refine Ku (E:=A9) (xs:=(Bb n k).2) (ys:=Ny (k+1) (Ev R)) Dh E4 fun ax cx Fx=>?_
   refine go ?_;intros
   refine Ct ⟨k+1,⟨⟨ye,Fe,Ge⟩,⟨yr.set (k+1) [.bool (Cj R (Ke (k+1))).Bg,.int .i64 (Cj R (Ke (k+1))).Ai,.int .i64 (Cj R (Ke (k+1))).Aa.next,.slice s.a1 (Cj R (Ke (k+1))).Aa.Ao.length s.c1,.slice s.a2 (Cj R (Ke (k+1))).Ap.length s.c2],[g],G'⟩,⟨yd,Fd,Gd⟩,⟨yu.set (k+1) [.slice r.a (Eq Q (D9 R)).length r.c],[gu],Gv⟩⟩,ax,cx,Fx⟩ ⟨by show k+1+1≤_;omega,by rw [hnx];dsimp only;rw [List.length_append,htl];omega⟩ (by show n.An.Ac.length - (k+1) < n.An.Ac.length - k;omega) (by dsimp only;rw [hnx];exact frE) (by dsimp only;rw [hnx];exact hsE)
 ·have hke:n.An.Ac.length - 1=k:=by omega
  rw [show Bp n=Bb n k by unfold Bp;rw [hke],hSrc]
  refine go ?_;intros
  refine ret (⟨⟨⟨ye,Fe,Ge⟩,⟨yr,Fr,Gr⟩,⟨yd,Fd,Gd⟩,⟨yu,Fu,Gu⟩⟩,u,⟨0,ea,ec,eF⟩⟩:SZ × TiS × KA) trivial rfl
structure OwN where
 g:Nat
 a1:Option Addr
 c1:Nat
 F1:List Nat
 s:Aa9
structure OwK where
 k:Nat
 a4:Option Addr
 c4:Nat
 F4:List Nat
 a5:Option Addr
 c5:Nat
 F5:List Nat
 a6:Option Addr
 c6:Nat
 F6:List Nat
 a7:Option Addr
 c7:Nat
 F7:List Nat
theorem Up:U2 (Gt Al 108):=fun h u hu=>by
 obtain ⟨v,rfl,h⟩:=h
 obtain rfl:=List.mem_singleton.1 hu
 rcases h with ⟨rfl, -, -⟩|⟨b,cap,cs,rest,G,rfl, -⟩ <;> rfl
theorem Afo {x:Ch} (hg:Cd x=true):Aec x x.Aa=x:=by
 obtain ⟨gw,hl,t0,t1,k0,k1,hm,hn,hu,hb⟩:=Mi hg
 unfold Aec
 rw [←Rt hu,Tm hg]
theorem Aj6 (n:Eg) (v:Value) (F:List Nat) (hg:A8 n=true):Fn prog 89 [v] [.isv Pp v n F] [] (fun (_:OwN × OwK)=>True) (fun z=>.agg #[.slice z.1.a1 n.An.Ac.length z.1.c1,.int .i64 (n.Ab).Aa.Ak,.int .i64 (n.Ab).Aa.size,.slice z.1.s.a (n.Ab).Aa.Aj.length z.1.s.c,.int .i64 (n.Ab).Ai,.int .i64 (n.Ab).quiet,.slice z.1.s.a2 (n.Ab).holds.length z.1.s.c2,.slice z.2.a4 (n.Af).length z.2.c4,.slice z.2.a5 (n.Ae).length z.2.c5,.slice z.2.a6 (n.down).length z.2.c6,.slice z.2.a7 (n.up).length z.2.c7]) (fun z=>[.ow Bd 3 (.slice z.1.a1 n.An.Ac.length z.1.c1) n.An.Ac z.1.F1,.isv Dn (.agg #[.int .i64 (n.Ab).Aa.Ak,.int .i64 (n.Ab).Aa.size,.slice z.1.s.a (n.Ab).Aa.Aj.length z.1.s.c,.int .i64 (n.Ab).Ai,.int .i64 (n.Ab).quiet,.slice z.1.s.a2 (n.Ab).holds.length z.1.s.c2]) n.Ab z.1.s.F,.ow Bm 96 (.slice z.2.a4 (n.Af).length z.2.c4) (n.Af) z.2.F4,.ow Bi 55 (.slice z.2.a5 (n.Ae).length z.2.c5) (n.Ae) z.2.F5,.ow (Gt Al 108) 99 (.slice z.2.a6 (n.down).length z.2.c6) (n.down) z.2.F6,.ow (Gt Al 108) 99 (.slice z.2.a7 (n.up).length z.2.c7) (n.up) z.2.F7]):=by
 have hG:=A1.1 hg
 have h8:=(Ex hG.t).n1
 have hS:=Mi hG.s
 have hSl:=hS.l
 have hSm:=hS.m
 obtain ⟨q1,q2,q3,q4⟩:=Bz.1 hG.l
 obtain ⟨g1,g2,g3,g4⟩:=Ky hg
 refine enter func89 rfl ntmps89 fun w0=>?_
 refine Hf ?_
 rintro a1 c1 F1 a2 c2 F2 a3 c3 F3 a4 c4 F4 a5 c5 F5 a6 c6 F6 a7 c7 F7 rfl l1 l2 l3 l4 l5 l6 l7
 refine D7 n.Ab ?_
 refine Cn n.Ab.Aa (a1:=a2) ?_
 have hW:=fun vw Fw=>Ahu n.Ab n.Ab.Aa (.agg #[.int .i64 n.Ab.Aa.Ak,.int .i64 n.Ab.Aa.size,.slice a2 n.Ab.Aa.Aj.length c2,.int .i64 n.Ab.Ai,.int .i64 n.Ab.quiet,.slice a3 n.Ab.holds.length c3]) vw (F2++F3) Fw hS.t0 hS.t1 (by omega) hS.n hS.u
 rw [Afo hG.s,show K9 n.Ab.Aa n.Ab.holds=n.Ab.holds by rw [←Rt hS.u,Tm hG.s]] at hW
 refine go ?_;intros
 refine Gc [1,2] [0,1,2,3,4,5,6,7,8,9,10,11] (fun w:OwN=>[(3,Eu w.g 0 0)]) (fun w=>[.row w.g 39 0 [] [.slice w.a1 n.An.Ac.length w.c1,.int .i64 (n.Ab).Aa.Ak,.int .i64 (n.Ab).Aa.size,.slice w.s.a (n.Ab).Aa.Aj.length w.s.c,.int .i64 (n.Ab).Ai,.int .i64 (n.Ab).quiet,.slice w.s.a2 (n.Ab).holds.length w.s.c2,.slice none 0 0,.slice none 0 0,.slice none 0 0,.slice none 0 0] [],.ow Bd 3 (.slice w.a1 n.An.Ac.length w.c1) n.An.Ac w.F1,.isv Dn (.agg #[.int .i64 (n.Ab).Aa.Ak,.int .i64 (n.Ab).Aa.size,.slice w.s.a (n.Ab).Aa.Aj.length w.s.c,.int .i64 (n.Ab).Ai,.int .i64 (n.Ab).quiet,.slice w.s.a2 (n.Ab).holds.length w.s.c2]) n.Ab w.s.F]) (fun _=>True) ?_ fun w _=>?_
 ·skip
  refine Aw [1] [] ?_
  refine dt 0 ?_
  refine dt 1 ?_
  refine dt 2 ?_
  refine dt 5 ?_
  refine dt 6 ?_
  refine dt 7 ?_
  refine dt 8 ?_
  refine dt 9 ?_
  refine Ob 3 13 (by kernel_rfl) (by rw [List.getElem?_toArray];rfl) (by rw [List.getElem?_toArray];rfl) ?_ ?_
  ·apply At;rfl;kernel_rfl;exact Be
   refine cn (fun w st=>Xe _ n.An.Ac F1 w (st.get (p:=.sl Bd (.slice a1 n.An.Ac.length c1) n.An.Ac F1) (by exact B8)).2 (by omega)) fun b1 d1 G1=>?_
   refine dk ?_
   refine dt 4 ?_
   refine Ob 10 13 (by kernel_rfl) (by rw [List.getElem?_toArray];rfl) (by rw [List.getElem?_toArray];rfl) ?_ ?_
   ·apply At;rfl;kernel_rfl;exact Be
    refine cf (Oe n.Ab.Aa _ F2 hS.t0 hS.t1 (by omega)) fun y _=>?_
    refine Ar ?_
    refine H8 ?_
    rintro a9 c9 F9 e9 l9
    rw [e9]
    refine Ay (xs:=n.Ab.Aa.Aj) fun F8=>?_
    refine Cn n.Ab.Aa (a1:=a9) ?_
    refine dk ?_
    refine Ob 11 13 (by kernel_rfl) (by rw [List.getElem?_toArray];rfl) (by rw [List.getElem?_toArray];rfl) ?_ ?_
    ·apply At;rfl;kernel_rfl;exact Be
     refine cf (hW _ F8) fun s _=>?_
     refine Ar ?_
     refine dk ?_
     refine dt 12 ?_
     refine dO 13 (by kernel_rfl) (by rw [List.getElem?_toArray];rfl) ?_
     apply Co;rfl;intro _
     refine dk ?_
     refine dO 14 (by kernel_rfl) (by rw [List.getElem?_toArray];rfl) ?_
     apply Cu;rfl;rfl;rfl;(first|exact AggC.s|exact OneC.s);rfl;exact Cw;exact Cv;rfl
     refine dk ?_
     refine dd ?_
     refine Cm (⟨_,b1,d1,G1,s⟩:OwN) trivial
    ·apply Co;rfl;intro _
     refine dk ?_
     refine dO 11 (by kernel_rfl) (by rw [List.getElem?_toArray];rfl) ?_
     apply At;rfl;kernel_rfl;exact Be
     refine cf (hW _ F8) fun s _=>?_
     refine Ar ?_
     refine dk ?_
     refine dt 12 ?_
     refine dO 14 (by kernel_rfl) (by rw [List.getElem?_toArray];rfl) ?_
     apply Cu;rfl;rfl;rfl;(first|exact AggC.s|exact OneC.s);rfl;exact Cw;exact Cv;rfl
     refine dk ?_
     refine dd ?_
     refine Cm (⟨_,b1,d1,G1,s⟩:OwN) trivial
   ·apply Co;rfl;intro _
    refine dk ?_
    refine dO 10 (by kernel_rfl) (by rw [List.getElem?_toArray];rfl) ?_
    apply At;rfl;kernel_rfl;exact Be
    refine cf (Oe n.Ab.Aa _ F2 hS.t0 hS.t1 (by omega)) fun y _=>?_
    refine Ar ?_
    refine H8 ?_
    rintro a9 c9 F9 e9 l9
    rw [e9]
    refine Ay (xs:=n.Ab.Aa.Aj) fun F8=>?_
    refine Cn n.Ab.Aa (a1:=a9) ?_
    refine dk ?_
    refine dO 11 (by kernel_rfl) (by rw [List.getElem?_toArray];rfl) ?_
    apply At;rfl;kernel_rfl;exact Be
    refine cf (hW _ F8) fun s _=>?_
    refine Ar ?_
    refine dk ?_
    refine dt 12 ?_
    refine dO 14 (by kernel_rfl) (by rw [List.getElem?_toArray];rfl) ?_
    apply Cu;rfl;rfl;rfl;(first|exact AggC.s|exact OneC.s);rfl;exact Cw;exact Cv;rfl
    refine dk ?_
    refine dd ?_
    refine Cm (⟨_,b1,d1,G1,s⟩:OwN) trivial
  ·apply Co;rfl;intro _
   refine dk ?_
   refine dO 3 (by kernel_rfl) (by rw [List.getElem?_toArray];rfl) ?_
   apply At;rfl;kernel_rfl;exact Be
   refine cn (fun w st=>Xe _ n.An.Ac F1 w (st.get (p:=.sl Bd (.slice a1 n.An.Ac.length c1) n.An.Ac F1) (by exact B8)).2 (by omega)) fun b1 d1 G1=>?_
   refine dk ?_
   refine dt 4 ?_
   refine dO 10 (by kernel_rfl) (by rw [List.getElem?_toArray];rfl) ?_
   apply At;rfl;kernel_rfl;exact Be
   refine cf (Oe n.Ab.Aa _ F2 hS.t0 hS.t1 (by omega)) fun y _=>?_
   refine Ar ?_
   refine H8 ?_
   rintro a9 c9 F9 e9 l9
   rw [e9]
   refine Ay (xs:=n.Ab.Aa.Aj) fun F8=>?_
   refine Cn n.Ab.Aa (a1:=a9) ?_
   refine dk ?_
   refine dO 11 (by kernel_rfl) (by rw [List.getElem?_toArray];rfl) ?_
   apply At;rfl;kernel_rfl;exact Be
   refine cf (hW _ F8) fun s _=>?_
   refine Ar ?_
   refine dk ?_
   refine dt 12 ?_
   refine dO 14 (by kernel_rfl) (by rw [List.getElem?_toArray];rfl) ?_
   apply Cu;rfl;rfl;rfl;(first|exact AggC.s|exact OneC.s);rfl;exact Cw;exact Cv;rfl
   refine dk ?_
   refine dd ?_
   refine Cm (⟨_,b1,d1,G1,s⟩:OwN) trivial
 refine Bx Bm 96 ?_
 refine Bx Bi 55 ?_
 refine Bx (Gt Al 108) 99 ?_
 refine Bx (Gt Al 108) 99 ?_
 refine go ?_;intros
 refine Ck [1,2,3] (fun y:OwK=>[(4,.int .i64 (y.k:Nat))]) (fun y=>[.row w.g 39 0 [] [.slice w.a1 n.An.Ac.length w.c1,.int .i64 (n.Ab).Aa.Ak,.int .i64 (n.Ab).Aa.size,.slice w.s.a (n.Ab).Aa.Aj.length w.s.c,.int .i64 (n.Ab).Ai,.int .i64 (n.Ab).quiet,.slice w.s.a2 (n.Ab).holds.length w.s.c2,.slice y.a4 (n.Af.take y.k).length y.c4,.slice y.a5 (n.Ae.take y.k).length y.c5,.slice y.a6 (n.down.take y.k).length y.c6,.slice y.a7 (n.up.take y.k).length y.c7] [],.ow Bm 96 (.slice y.a4 (n.Af.take y.k).length y.c4) (n.Af.take y.k) y.F4,.ow Bi 55 (.slice y.a5 (n.Ae.take y.k).length y.c5) (n.Ae.take y.k) y.F5,.ow (Gt Al 108) 99 (.slice y.a6 (n.down.take y.k).length y.c6) (n.down.take y.k) y.F6,.ow (Gt Al 108) 99 (.slice y.a7 (n.up.take y.k).length y.c7) (n.up.take y.k) y.F7]) (fun y=>y.k≤n.Af.length) (fun y=>n.Af.length - y.k) ⟨0,none,0,[],none,0,[],none,0,[],none,0,[]⟩ (Nat.zero_le _) fun y hy=>?_
 refine go ?_;intros
 refine Bf rfl (fun h1=>?_) (fun h1=>?_)
 ·have hk:y.k < n.Af.length:=by omega
  have hk5:y.k < n.Ae.length:=by omega
  have hk6:y.k < n.down.length:=by omega
  have hk7:y.k < n.up.length:=by omega
  have t4:(n.Af.take y.k).length≤8:=by rw [List.length_take];omega
  have t5:(n.Ae.take y.k).length≤8:=by rw [List.length_take];omega
  have t6:(n.down.take y.k).length≤8:=by rw [List.length_take];omega
  have t7:(n.up.take y.k).length≤8:=by rw [List.length_take];omega
  have hge:=g1 _ (List.getElem_mem hk)
  have hel:=(Ey.1 hge).2.1
  have hgr:=Gm.1 (g2 _ (List.getElem_mem hk5))
  have hrs:=(I5 hgr.w).1
  have hrq:=(Dr.1 hgr.q).2.1
  have hd6:=(Gk (g3 _ (List.getElem_mem hk6))).1
  have hu6:=(Gk (g4 _ (List.getElem_mem hk7))).1
  refine U5 (xs:=n.Af) y.k ?_
  rintro hi4 b4 o4 a8 c8 F8 e4 l8
  rw [e4]
  refine Ho n.Af[y.k] ?_
  dsimp only [List.append]
  refine go ?_;intros
  refine Aw [1,3,11] [11] ?_
  refine dt 0 ?_
  refine dt 1 ?_
  refine dt 2 ?_
  refine dt 3 ?_
  refine dt 4 ?_
  refine dt 5 ?_
  refine dt 6 ?_
  refine dO 7 (by kernel_rfl) (by rw [List.getElem?_toArray];rfl) ?_
  apply At;rfl;kernel_rfl;exact Be
  refine cv (fun w2 st=>Ul _ n.Af[y.k] F8 w2 (st.get (p:=.isv Bv (.agg #[.int .i64 n.Af[y.k].Ai,.slice a8 n.Af[y.k].Ah.length c8]) n.Af[y.k] F8) (by exact B8)) (by omega) (fun x hx=>by have:=L5 hge hx;omega)) fun v9 F9=>?_
  refine Gh (x:=n.Af[y.k]) ?_
  rintro a9 c9 F10 rfl l9
  refine E5 n.Af[y.k] ?_
  refine dk ?_
  refine dO 8 (by kernel_rfl) (by rw [List.getElem?_toArray];rfl) ?_
  apply Hh;rfl;rfl;rfl;rfl;exact Hb;exact Gp;intro _
  refine dk ?_
  refine dO 9 (by kernel_rfl) (by rw [List.getElem?_toArray];rfl) ?_
  refine Abb Qw n.Af[y.k] rfl fun x4 d4 G4=>?_
  refine dk ?_
  refine dt 10 ?_
  refine dO 11 (by kernel_rfl) (by rw [List.getElem?_toArray];rfl) ?_
  apply Cu;rfl;rfl;rfl;(first|exact AggC.s|exact OneC.s);rfl;exact Cw;exact Cv;rfl
  refine Mg ?_
  refine dd ?_
  rw [←List.take_succ_eq_append_getElem hk]
  refine Qh (xs:=n.Ae) y.k ?_
  rintro hi5 b5 o5 a11 c11 F11 a12 c12 F12 e5 l11 l12
  rw [e5]
  refine Ga n.Ae[y.k] ?_
  dsimp only [List.append]
  refine go ?_;intros
  refine Aw [1,8,15] [11] ?_
  refine dt 0 ?_
  refine dt 1 ?_
  refine dt 2 ?_
  refine dt 3 ?_
  refine dt 4 ?_
  refine dt 5 ?_
  refine dt 6 ?_
  refine dO 7 (by kernel_rfl) (by rw [List.getElem?_toArray];rfl) ?_
  apply At;rfl;kernel_rfl;exact Be
  refine cf (P4 n.Ae[y.k] _ _ (by omega) (by omega)) fun s9 _=>?_
  refine Ar ?_
  refine Hp (x:=n.Ae[y.k]) ?_
  rintro a9 c9 G9 a10 c10 G10 e9 l9 l10
  rw [e9]
  refine Jg n.Ae[y.k] ?_
  refine dk ?_
  refine dO 8 (by kernel_rfl) (by rw [List.getElem?_toArray];rfl) ?_
  apply Hh;rfl;rfl;rfl;rfl;exact Hb;exact Gp;intro _
  refine dk ?_
  refine dO 9 (by kernel_rfl) (by rw [List.getElem?_toArray];rfl) ?_
  refine Abb Pk n.Ae[y.k] rfl fun x5 d5 G5=>?_
  refine dk ?_
  refine dt 10 ?_
  refine dO 11 (by kernel_rfl) (by rw [List.getElem?_toArray];rfl) ?_
  apply Cu;rfl;rfl;rfl;(first|exact AggC.s|exact OneC.s);rfl;exact Cw;exact Cv;rfl
  refine Mg ?_
  refine dd ?_
  rw [←List.take_succ_eq_append_getElem hk5]
  refine Rm (E:=Al) (hz:=by decide) (xs:=n.down) y.k ?_
  rintro hi6 b6 o6 a13 c13 F13 e6 l13
  rw [e6]
  refine go ?_;intros
  refine Aw [0,11,17] [12] ?_
  refine dt 0 ?_
  refine dt 1 ?_
  refine dt 3 ?_
  refine dt 4 ?_
  refine dt 5 ?_
  refine dt 6 ?_
  refine dt 7 ?_
  refine dO 2 (by kernel_rfl) (by rw [List.getElem?_toArray];rfl) ?_
  apply Jk;rfl;intro _
  refine C6 Al ?_
  refine dk ?_
  refine dO 8 (by kernel_rfl) (by rw [List.getElem?_toArray];rfl) ?_
  refine Ku Gz I3 fun a9 c9 F9=>?_
  rw [List.nil_append]
  refine Jh n.down[y.k] ?_
  refine dk ?_
  refine dO 9 (by kernel_rfl) (by rw [List.getElem?_toArray];rfl) ?_
  apply Hh;rfl;rfl;rfl;rfl;exact Hb;exact Gp;intro _
  refine dk ?_
  refine dO 10 (by kernel_rfl) (by rw [List.getElem?_toArray];rfl) ?_
  refine Abb (Up) n.down[y.k] rfl fun x6 d6 G6=>?_
  refine dk ?_
  refine dt 11 ?_
  refine dO 12 (by kernel_rfl) (by rw [List.getElem?_toArray];rfl) ?_
  apply Cu;rfl;rfl;rfl;(first|exact AggC.s|exact OneC.s);rfl;exact Cw;exact Cv;rfl
  refine Mg ?_
  refine dd ?_
  rw [←List.take_succ_eq_append_getElem hk6]
  refine Rm (E:=Al) (hz:=by decide) (xs:=n.up) y.k ?_
  rintro hi7 b7 o7 a14 c14 F14 e7 l14
  rw [e7]
  refine go ?_;intros
  refine Aw [0,14,19] [12] ?_
  refine dt 0 ?_
  refine dt 1 ?_
  refine dt 3 ?_
  refine dt 4 ?_
  refine dt 5 ?_
  refine dt 6 ?_
  refine dt 7 ?_
  refine dO 2 (by kernel_rfl) (by rw [List.getElem?_toArray];rfl) ?_
  apply Jk;rfl;intro _
  refine C6 Al ?_
  refine dk ?_
  refine dO 8 (by kernel_rfl) (by rw [List.getElem?_toArray];rfl) ?_
  refine Ku Gz I3 fun a9 c9 F9=>?_
  rw [List.nil_append]
  refine Jh n.up[y.k] ?_
  refine dk ?_
  refine dO 9 (by kernel_rfl) (by rw [List.getElem?_toArray];rfl) ?_
  apply Hh;rfl;rfl;rfl;rfl;exact Hb;exact Gp;intro _
  refine dk ?_
  refine dO 10 (by kernel_rfl) (by rw [List.getElem?_toArray];rfl) ?_
  refine Abb (Up) n.up[y.k] rfl fun x7 d7 G7=>?_
  refine dk ?_
  refine dt 11 ?_
  refine dO 12 (by kernel_rfl) (by rw [List.getElem?_toArray];rfl) ?_
  apply Cu;rfl;rfl;rfl;(first|exact AggC.s|exact OneC.s);rfl;exact Cw;exact Cv;rfl
  refine Mg ?_
  refine dd ?_
  rw [←List.take_succ_eq_append_getElem hk7]
  refine go ?_;intros
  refine Ct ⟨y.k+1,x4,d4,G4,x5,d5,G5,x6,d6,G6,x7,d7,G7⟩ hk (by show n.Af.length - (y.k+1) < n.Af.length - y.k;omega)
 ·rw [show n.Af.take y.k=n.Af from List.take_of_length_le (by omega),show n.Ae.take y.k=n.Ae from List.take_of_length_le (by omega),show n.down.take y.k=n.down from List.take_of_length_le (by omega),show n.up.take y.k=n.up from List.take_of_length_le (by omega)]
  refine go ?_;intros
  refine ret (⟨w,y⟩:OwN × OwK) trivial rfl
end Go.Proofs.YtbmlecejkacpnaaGreatDoor
namespace Go.Proofs.YtbmlecejkacpnaaGreatDoor
open Go.RowKit
open Go.RowKit
theorem Z8 {α:Type} {O R:Br α} (hW:Me O R) {w:World}:∀{xs:List α} {cs:List Value} {G:List Nat},Cq O w cs xs G→∃G',(∀b∈G',b∈G)∧Cq R w cs xs G'
 | [],_,_,h=>⟨[],by simp,h.1,rfl⟩
 | x::r,_,_,h=>by
  obtain ⟨c1,c2,F1,F2,rfl,rfl,h1,h2⟩:=h
  obtain ⟨G1,s1,r1⟩:=hW.Jr h1
  obtain ⟨G2,s2,r2⟩:=Z8 hW h2
  exact ⟨G1++G2,fun b hb=>by rcases List.mem_append.1 hb with hb|hb;simp [s1 b hb];simp [s2 b hb],c1,c2,G1,G2,rfl,rfl,r1,r2⟩
theorem Is.skip {x:Pc}:∀{B A:List Pc},Is A B→Is (x::A) B
 | _,_,.nil=>.nil
 | _,_,.cons hp hr=>.cons (.there hp) hr.skip
theorem Is.all:∀A:List Pc,Is A A
 | []=>.nil
 | _::A=>.cons .here (Is.all A)
section
variable {c:Cx} {fr:Fr} {H:List Pc} {Φ:Gl}
theorem Xl {α:Type} {O R:Br α} (hW:Me O R) {cs:List Value} {xs:List α} {G:List Nat} {S:List Pc} (h:∀G',T c fr (.isv (EA R xs.length) (.agg cs.toArray) xs G'::S) Φ) (hp:C1 H (.flat O cs xs G) S:=by exact Dy):T c fr H Φ:=.mk fun a w s g=>by
 have s1:=s.pick hp
 obtain ⟨-,ho⟩:=s1.on (.flat O cs xs G) (by simp)
 obtain ⟨G',hG,hf⟩:=Z8 hW ho
 exact (h G').h a w (s1.conv rfl ⟨_,rfl,rfl,hf⟩ hG) g
theorem Tk (m:Eg) {l:List Int} {N:Nat} (hT:m.An.Ac=l) (hN:N=l.length) (hl:L7 m=true) {a1 a2 a3 a4 a5 a6 a7:Option Addr} {c1 c2 c3 c4 c5 c6 c7:Nat} {F1 FS F4 G4 F5 G5 F6 G6 F7 G7:List Nat} {ys4 ys5 ys6 ys7:List (List Value)} (h4:ys4.length=N) (h5:ys5.length=N) (h6:ys6.length=N) (h7:ys7.length=N)
  (h:∀F,T c fr (.isv Pp (.agg #[.slice a1 N c1,.int .i64 m.Ab.Aa.Ak,.int .i64 m.Ab.Aa.size,.slice a2 m.Ab.Aa.Aj.length c2,.int .i64 m.Ab.Ai,.int .i64 m.Ab.quiet,.slice a3 m.Ab.holds.length c3,.slice a4 N c4,.slice a5 N c5,.slice a6 N c6,.slice a7 N c7]) m F::H) Φ) (p1:.sl Bd (.slice a1 N c1) l F1∈H:=by exact B8) (p2:.isv Dn (.agg #[.int .i64 m.Ab.Aa.Ak,.int .i64 m.Ab.Aa.size,.slice a2 m.Ab.Aa.Aj.length c2,.int .i64 m.Ab.Ai,.int .i64 m.Ab.quiet,.slice a3 m.Ab.holds.length c3]) m.Ab FS∈H:=by exact B8) (p4:.sl (EC 2) (.slice a4 N c4) ys4 F4∈H:=by exact B8) (q4:.isv (EA (Bv) N) (.agg ys4.flatten.toArray) m.Af G4∈H:=by exact B8) (p5:.sl (EC 5) (.slice a5 N c5) ys5 F5∈H:=by exact B8) (q5:.isv (EA (Cb) N) (.agg ys5.flatten.toArray) m.Ae G5∈H:=by exact B8) (p6:.sl (EC 1) (.slice a6 N c6) ys6 F6∈H:=by exact B8) (q6:.isv (EA (Ly Al (by decide)) N) (.agg ys6.flatten.toArray) m.down G6∈H:=by exact B8) (p7:.sl (EC 1) (.slice a7 N c7) ys7 F7∈H:=by exact B8) (q7:.isv (EA (Ly Al (by decide)) N) (.agg ys7.flatten.toArray) m.up G7∈H:=by exact B8):T c fr H Φ:=by
 obtain ⟨e1,e2,e3,e4⟩:=Bz.1 hl
 subst hT hN
 refine Gj (hm:=p2) ?_
 rintro b2 d2 F2 b3 d3 F3 ev - -
 have ev2:=ev
 simp only [Value.agg.injEq,Array.mk.injEq,List.cons.injEq,Value.slice.injEq,true_and,and_true] at ev2
 obtain ⟨⟨rfl,rfl⟩,rfl,rfl⟩:=ev2
 refine Mp (E:=Bv) (xs:=m.Af) rfl (by omega) rfl (fun F8=>?_) (.tail _ (.tail _ p4)) (.tail _ (.tail _ q4))
 refine Mp (E:=Cb) (xs:=m.Ae) rfl (by omega) rfl (fun F9=>?_) (.tail _ (.tail _ (.tail _ p5))) (.tail _ (.tail _ (.tail _ q5)))
 refine Mp (E:=Ly Al (by decide)) (xs:=m.down) rfl (by omega) rfl (fun F10=>?_) (.tail _ (.tail _ (.tail _ (.tail _ p6)))) (.tail _ (.tail _ (.tail _ (.tail _ q6))))
 refine Mp (E:=Ly Al (by decide)) (xs:=m.up) rfl (by omega) rfl (fun F11=>?_) (.tail _ (.tail _ (.tail _ (.tail _ (.tail _ p7))))) (.tail _ (.tail _ (.tail _ (.tail _ (.tail _ q7)))))
 refine Jf m (a1:=a1) (c1:=c1) (F1:=F1) (a2:=a2) (c2:=c2) (F2:=F2) (a3:=a3) (c3:=c3) (F3:=F3) (a4:=a4) (c4:=c4) (F4:=F8) (a5:=a5) (c5:=c5) (F5:=F9) (a6:=a6) (c6:=c6) (F6:=F10) (a7:=a7) (c7:=c7) (F7:=F11) ?_ (.tail _ (.tail _ (.tail _ (.tail _ (.tail _ (.tail _ p1)))))) (.tail _ (.tail _ (.tail _ (.tail _ (.head _))))) (.tail _ (.tail _ (.tail _ (.tail _ (.tail _ (.head _)))))) (by rw [e1];exact .tail _ (.tail _ (.tail _ (.head _)))) (by rw [e2];exact .tail _ (.tail _ (.head _))) (by rw [e3];exact .tail _ (.head _)) (by rw [e4];exact .head _)
 rw [e1,e2,e3,e4]
 exact Arj _ (h _) (.cons .here (Is.skip (Is.skip (Is.skip (Is.skip (Is.skip (Is.skip (Is.all H))))))))
end
end Go.Proofs.YtbmlecejkacpnaaGreatDoor
namespace Go.Proofs.YtbmlecejkacpnaaGreatDoor
open Go.RowKit
def Mo (x:Ch) (s:ByteArray):Ch:=⟨C8 x.Aa s,x.Ai,0,Fm (C8 x.Aa s) x.Ai x.holds⟩
theorem Ak7 {x:Ch} {s:ByteArray} (h:∀z∈x.holds,x.Ai+1≤z.Cf):Mo x s=Nq x s:=by unfold Mo Nq;rw [Rt h]
theorem To (x:Ch) (s:ByteArray) (v:Value) (F:List Nat) (t0:0≤x.Aa.Ak) (t1:x.Aa.Ak≤65535) (hl:x.Aa.Aj.length≤6) (z1:1≤x.Aa.size) (hm:x.holds.length≤1000) (hn:Ta x.holds) (hs:s.size≤maxLen) :
  Fn prog 90 [v,.string s] [.isv Dn v x F] [] (fun (_:Aa9)=>True) (fun z=>.tuple #[.agg #[.int .i64 (Mo x s).Aa.Ak,.int .i64 (Mo x s).Aa.size,.slice z.a (Mo x s).Aa.Aj.length z.c,.int .i64 (Mo x s).Ai,.int .i64 (Mo x s).quiet,.slice z.a2 (Mo x s).holds.length z.c2],.agg #[.int .i64 1,.int .i64 (Dg x.Aa s).Ad,.int .i64 (Dg x.Aa s).Ak,.int .i64 (Dg x.Aa s).D0,.string s]]) (fun z=>[.isv Dn (.agg #[.int .i64 (Mo x s).Aa.Ak,.int .i64 (Mo x s).Aa.size,.slice z.a (Mo x s).Aa.Aj.length z.c,.int .i64 (Mo x s).Ai,.int .i64 (Mo x s).quiet,.slice z.a2 (Mo x s).holds.length z.c2]) (Mo x s) z.F]):=by
 have hb:=M7 t0 t1
 refine enter func90 rfl ntmps90 fun w0=>?_
 refine Gj ?_
 rintro a1 c1 F1 a2 c2 F2 rfl l1 l2
 refine Cn x.Aa ?_
 generalize F1=F3
 refine go ?_;intros
 refine cf (Aj8 x.Aa s _ F3 hl t0 t1 hs z1) fun y _=>?_
 refine Ar ?_
 refine Es (x:=C8 x.Aa s) ?_
 rintro a5 c5 F5 e5 l5
 rw [e5]
 refine go ?_;intros
 refine cf (Oq x (C8 x.Aa s) _ _ F y.2 hb.1 hb.2 (by omega) hn) fun q _=>?_
 refine Ar ?_
 refine Gj (x:=Sb x (C8 x.Aa s)) ?_
 rintro a6 c6 F6 a7 c7 F7 e6 l6 l7
 rw [e6]
 refine go ?_;intros
 refine Aw [0,4] [] ?_
 refine dt 0 ?_
 refine dt 1 ?_
 refine dO 2 (by kernel_rfl) (by rw [List.getElem?_toArray];rfl) ?_
 apply Cu;rfl;rfl;rfl;(first|exact AggC.s|exact OneC.s);rfl;exact Cw;exact Cv;rfl
 refine dk ?_
 refine dO 3 (by kernel_rfl) (by rw [List.getElem?_toArray];rfl) ?_
 apply Cu;rfl;rfl;rfl;(first|exact AggC.s|exact OneC.s);rfl;exact Cw;exact Cv;rfl
 refine dk ?_
 refine dd ?_
 refine D7 (Mo x s) ?_
 refine go ?_;intros
 refine ret ⟨_,_,_,_,_⟩ trivial rfl
theorem Ahs (x:Ch) (s:ByteArray) (v:Value) (F:List Nat) (hg:Cd x=true) (hs:s.size≤maxLen) :
  Fn prog 90 [v,.string s] [.isv Dn v x F] [] (fun (_:Aa9)=>True) (fun z=>.tuple #[.agg #[.int .i64 (Nq x s).Aa.Ak,.int .i64 (Nq x s).Aa.size,.slice z.a (Nq x s).Aa.Aj.length z.c,.int .i64 (Nq x s).Ai,.int .i64 (Nq x s).quiet,.slice z.a2 (Nq x s).holds.length z.c2],.agg #[.int .i64 1,.int .i64 (Dg x.Aa s).Ad,.int .i64 (Dg x.Aa s).Ak,.int .i64 (Dg x.Aa s).D0,.string s]]) (fun z=>[.isv Dn (.agg #[.int .i64 (Nq x s).Aa.Ak,.int .i64 (Nq x s).Aa.size,.slice z.a (Nq x s).Aa.Aj.length z.c,.int .i64 (Nq x s).Ai,.int .i64 (Nq x s).quiet,.slice z.a2 (Nq x s).holds.length z.c2]) (Nq x s) z.F]):=by
 obtain ⟨gw,hl,t0,t1,k0,k1,hm,hn,hu,hb⟩:=Mi hg
 obtain ⟨-,⟨z1, -⟩, -⟩:=Dw.1 gw
 have h:=To x s v F t0 t1 hl z1 (by omega) (Xo hn) hs
 rw [Ak7 hu] at h
 exact h
theorem Vi (n:Eg) (s:I4) (v:Value) (F FT:List Nat) (hss:s.data.size≤maxLen) (g1:A8 n=true) (g2:Eo s=true):Fn prog 45 [v,.agg #[.int .i64 s.C2,.int .i64 s.node,.string s.data]] [.isv Pp v n F,Mt FT] [] (fun (_:Wu)=>True) (fun z=>.tuple #[.agg z.cs.toArray,.slice z.a (Av n s).2.1.length z.c,.bool (Av n s).2.2]) (fun z=>[.isv Pp (.agg z.cs.toArray) (Av n s).1 z.F,.ow A9 9 (.slice z.a (Av n s).2.1.length z.c) (Av n s).2.1 z.Fe]):=by
 have hG:=A1.1 g1
 have h8:=Ex hG.t
 have hn8:=h8.n1
 have hn2:=h8.n0
 obtain ⟨q1,q2,q3,q4⟩:=Bz.1 hG.l
 have hkl:=P3 n.An.Ac 0
 have hkx:∀x∈Fv n.An.Ac 0,0≤x∧x.toNat < n.down.length:=fun x hx=>by have:=Iy (i:=0) h8 hx;omega
 have hd6:∀q∈n.down,q.length≤6:=fun q hq=>(Gk ((Ky g1).2.2.1 q hq)).1
 have hck:=Qc hG.s
 refine enter func45 rfl ntmps45 fun w0=>?_
 refine Hf ?_
 rintro a1 c1 F1 a2 c2 F2 a3 c3 F3 a4 c4 F4 a5 c5 F5 a6 c6 F6 a7 c7 F7 rfl l1 l2 l3 l4 l5 l6 l7
 refine go ?_;intros
 refine cf (Aj6 n _ F g1) fun z _=>?_
 refine Ar ?_
 obtain ⟨w,y⟩:=z
 dsimp only
 refine Ay (E:=Bd) (xs:=n.An.Ac) fun Ft=>?_
 refine Vx (E:=Bm) (xs:=n.Af) Qw (m:=2) rfl fun ye Fe Ge he1 he2=>?_
 refine Xl (R:=Bv) (xs:=n.Af) J0 fun He=>?_
 refine Vx (E:=Bi) (xs:=n.Ae) Pk (m:=5) rfl fun yr Fr Gr hr1 hr2=>?_
 refine Xl (R:=Cb) (xs:=n.Ae) S9 fun Hr=>?_
 refine Vx (E:=Gt Al 108) (xs:=n.down) Up (m:=1) rfl fun yd Fd Gd hd1 hd2=>?_
 refine Xl (R:=Ly Al (by decide)) (xs:=n.down) (Sa (Me.refl Al) (by decide) _) fun Hd=>?_
 refine Vx (E:=Gt Al 108) (xs:=n.up) Up (m:=1) rfl fun yu Fu Gu hu1 hu2=>?_
 refine Xl (R:=Ly Al (by decide)) (xs:=n.up) (Sa (Me.refl Al) (by decide) _) fun Hu=>?_
 rw [q1,q2,q3,q4]
 refine M3 n.An (a1:=w.a1) ?_
 refine go ?_;intros
 refine Bf rfl (fun h1=>?_) (fun h1=>?_)
 ·have e1:Bo n s=some (Mn n s.data,[]):=by unfold Bo;rw [if_pos h1]
  have hgm:=Ie g1 g2 e1
  rw [show Av n s=(Mn n s.data,[],true) by unfold Av;rw [g1,g2,e1];rfl]
  refine go ?_;intros
  refine cf (Ahs n.Ab s.data _ _ hG.s hss) fun u _=>?_
  refine Ar ?_
  refine go ?_;intros
  refine Aw [0,3] [] ?_
  refine dt 0 ?_
  refine dt 1 ?_
  refine dt 2 ?_
  refine dt 4 ?_
  refine Ob 3 5 (by kernel_rfl) (by rw [List.getElem?_toArray];rfl) (by rw [List.getElem?_toArray];rfl) ?_ ?_
  ·apply At;rfl;kernel_rfl;exact Be
   refine cf (Mj n.An 0 _ Ft (Od h8.z (Int.le_refl _)) ⟨by omega,by omega⟩) fun v _=>?_
   refine Ar ?_
   refine Ay (E:=Bd) (xs:=Fv n.An.Ac 0) fun Fk=>?_
   refine dk ?_
   refine dO 5 (by kernel_rfl) (by rw [List.getElem?_toArray];rfl) ?_
   apply Hh;rfl;rfl;rfl;rfl;exact Hb;exact Gp;intro _
   refine Dz (E:=Al) (xs:=[Dg n.Ab.Aa s.data]) (C4 (Dg n.Ab.Aa s.data) hss) ?_ (by simp)
   refine Ay (E:=Al) (xs:=[Dg n.Ab.Aa s.data]) fun Fp=>?_
   refine dk ?_
   refine dO 6 (by kernel_rfl) (by rw [List.getElem?_toArray];rfl) ?_
   apply At;rfl;kernel_rfl;exact Be
   refine cf (La n.down (Fv n.An.Ac 0) [Dg n.Ab.Aa s.data] _ _ _ _ _ _ _ _ _ _ _ _ _ _ _ _ _ _ _ _ _ _ _ _ _ yd Fd Hd _ _ Fk _ _ Fp hkx hd6) fun x _=>?_
   refine Ar ?_
   refine dk ?_
   refine dd ?_
   refine go ?_;intros
   refine C6 A9 ?_
   refine go ?_;intros
   refine Ed (ys:=ye) fun _ w4=>?_
   refine Ed (ys:=yr) fun _ w5=>?_
   refine Ed (ys:=x.ys) fun _ w6=>?_
   refine Ed (ys:=yu) fun _ w7=>?_
   refine Ay (E:=EC 2) (xs:=ye) fun _=>?_
   refine Ay (E:=EC 5) (xs:=yr) fun _=>?_
   refine Ay (E:=EC 1) (xs:=x.ys) fun _=>?_
   refine Ay (E:=EC 1) (xs:=yu) fun _=>?_
   refine Tk (Mn n s.data) (l:=n.An.Ac) (N:=n.An.Ac.length) rfl rfl (A1.1 hgm).l w4 w5 w6 w7 (a1:=w.a1) (c1:=w.c1) (a2:=u.a) (c2:=u.c) (a3:=u.a2) (c3:=u.c2) (a4:=y.a4) (c4:=y.c4) (a5:=y.a5) (c5:=y.c5) (a6:=y.a6) (c6:=y.c6) (a7:=y.a7) (c7:=y.c7) fun FN=>?_
   refine ret (⟨[.slice w.a1 n.An.Ac.length w.c1,.int .i64 ((Mn n s.data).Ab).Aa.Ak,.int .i64 ((Mn n s.data).Ab).Aa.size,.slice u.a ((Mn n s.data).Ab).Aa.Aj.length u.c,.int .i64 ((Mn n s.data).Ab).Ai,.int .i64 ((Mn n s.data).Ab).quiet,.slice u.a2 ((Mn n s.data).Ab).holds.length u.c2,.slice y.a4 n.An.Ac.length y.c4,.slice y.a5 n.An.Ac.length y.c5,.slice y.a6 n.An.Ac.length y.c6,.slice y.a7 n.An.Ac.length y.c7],FN,_,_,_⟩:Wu) trivial rfl
  ·apply Hh;rfl;rfl;rfl;rfl;exact Hb;exact Gp;intro _
   refine Dz (E:=Al) (xs:=[Dg n.Ab.Aa s.data]) (C4 (Dg n.Ab.Aa s.data) hss) ?_ (by simp)
   refine Ay (E:=Al) (xs:=[Dg n.Ab.Aa s.data]) fun Fp=>?_
   refine dk ?_
   refine dO 3 (by kernel_rfl) (by rw [List.getElem?_toArray];rfl) ?_
   apply At;rfl;kernel_rfl;exact Be
   refine cf (Mj n.An 0 _ Ft (Od h8.z (Int.le_refl _)) ⟨by omega,by omega⟩) fun v _=>?_
   refine Ar ?_
   refine Ay (E:=Bd) (xs:=Fv n.An.Ac 0) fun Fk=>?_
   refine dk ?_
   refine dO 6 (by kernel_rfl) (by rw [List.getElem?_toArray];rfl) ?_
   apply At;rfl;kernel_rfl;exact Be
   refine cf (La n.down (Fv n.An.Ac 0) [Dg n.Ab.Aa s.data] _ _ _ _ _ _ _ _ _ _ _ _ _ _ _ _ _ _ _ _ _ _ _ _ _ yd Fd Hd _ _ Fk _ _ Fp hkx hd6) fun x _=>?_
   refine Ar ?_
   refine dk ?_
   refine dd ?_
   refine go ?_;intros
   refine C6 A9 ?_
   refine go ?_;intros
   refine Ed (ys:=ye) fun _ w4=>?_
   refine Ed (ys:=yr) fun _ w5=>?_
   refine Ed (ys:=x.ys) fun _ w6=>?_
   refine Ed (ys:=yu) fun _ w7=>?_
   refine Ay (E:=EC 2) (xs:=ye) fun _=>?_
   refine Ay (E:=EC 5) (xs:=yr) fun _=>?_
   refine Ay (E:=EC 1) (xs:=x.ys) fun _=>?_
   refine Ay (E:=EC 1) (xs:=yu) fun _=>?_
   refine Tk (Mn n s.data) (l:=n.An.Ac) (N:=n.An.Ac.length) rfl rfl (A1.1 hgm).l w4 w5 w6 w7 (a1:=w.a1) (c1:=w.c1) (a2:=u.a) (c2:=u.c) (a3:=u.a2) (c3:=u.c2) (a4:=y.a4) (c4:=y.c4) (a5:=y.a5) (c5:=y.c5) (a6:=y.a6) (c6:=y.c6) (a7:=y.a7) (c7:=y.c7) fun FN=>?_
   refine ret (⟨[.slice w.a1 n.An.Ac.length w.c1,.int .i64 ((Mn n s.data).Ab).Aa.Ak,.int .i64 ((Mn n s.data).Ab).Aa.size,.slice u.a ((Mn n s.data).Ab).Aa.Aj.length u.c,.int .i64 ((Mn n s.data).Ab).Ai,.int .i64 ((Mn n s.data).Ab).quiet,.slice u.a2 ((Mn n s.data).Ab).holds.length u.c2,.slice y.a4 n.An.Ac.length y.c4,.slice y.a5 n.An.Ac.length y.c5,.slice y.a6 n.An.Ac.length y.c6,.slice y.a7 n.An.Ac.length y.c7],FN,_,_,_⟩:Wu) trivial rfl
 refine go ?_;intros
 refine Bf rfl (fun h4=>?_) (fun h4=>?_)
 ·refine go ?_;intros
  refine Bf rfl (fun hc=>?_) (fun hc=>?_)
  ·have e1:Bo n s=none:=by unfold Bo;rw [if_neg h1,if_pos h4,if_pos hc]
   rw [show Av n s=(Lz,[],false) by unfold Av;rw [g1,g2,e1];rfl]
   refine B9 Bd (by decide) ?_
   refine B9 A9 (by decide) ?_
   refine B9 Bh (by decide) ?_
   refine B9 Bv (by decide) ?_
   refine B9 Cb (by decide) ?_
   refine B9 (Ly Al (by decide)) (by decide) ?_
   refine B9 (Ly Al (by decide)) (by decide) ?_
   refine Jf Lz (a1:=none) (c1:=0) (a2:=none) (c2:=0) (a3:=none) (c3:=0) (a4:=none) (c4:=0) (a5:=none) (c5:=0) (a6:=none) (c6:=0) (a7:=none) (c7:=0) ?_
   refine go ?_;intros
   refine C6 A9 ?_
   refine go ?_;intros
   refine ret (⟨[.slice none 0 0,.int .i64 0,.int .i64 0,.slice none 0 0,.int .i64 0,.int .i64 0,.slice none 0 0,.slice none 0 0,.slice none 0 0,.slice none 0 0,.slice none 0 0],_,_,_,_⟩:Wu) trivial rfl
  ·have e1:Bo n s=some (Bp n):=by unfold Bo;rw [if_neg h1,if_pos h4,if_neg hc]
   have hgm:=Ie g1 g2 e1
   rw [show Av n s=((Bp n).1,(Bp n).2,true) by unfold Av;rw [g1,g2,e1];rfl]
   refine go ?_;intros
   refine cf (Ahy n w.a1 w.c1 y.a4 y.c4 y.a5 y.c5 y.a6 y.c6 y.a7 y.c7 w.s.a w.s.a2 w.s.c w.s.c2 Ft w.s.F FT ⟨⟨ye,Fe,He⟩,⟨yr,Fr,Hr⟩,⟨yd,Fd,Hd⟩,⟨yu,Fu,Hu⟩⟩ g1 (by omega)) fun x _=>?_
   refine Ar ?_
   refine go ?_;intros
   refine Ed (ys:=x.1.e.ys) fun _ w4=>?_
   refine Ed (ys:=x.1.r.ys) fun _ w5=>?_
   refine Ed (ys:=x.1.d.ys) fun _ w6=>?_
   refine Ed (ys:=x.1.u.ys) fun _ w7=>?_
   refine Ay (E:=EC 2) (xs:=x.1.e.ys) fun _=>?_
   refine Ay (E:=EC 5) (xs:=x.1.r.ys) fun _=>?_
   refine Ay (E:=EC 1) (xs:=x.1.d.ys) fun _=>?_
   refine Ay (E:=EC 1) (xs:=x.1.u.ys) fun _=>?_
   refine Tk ((Bp n).1) (l:=n.An.Ac) (N:=n.An.Ac.length) (congrArg Mu.Ac (Lm e1)) rfl (A1.1 hgm).l w4 w5 w6 w7 (a1:=w.a1) (c1:=w.c1) (a2:=x.2.1.a) (c2:=x.2.1.c) (a3:=x.2.1.a2) (c3:=x.2.1.c2) (a4:=y.a4) (c4:=y.c4) (a5:=y.a5) (c5:=y.c5) (a6:=y.a6) (c6:=y.c6) (a7:=y.a7) (c7:=y.c7) fun FN=>?_
   refine ret (⟨[.slice w.a1 n.An.Ac.length w.c1,.int .i64 (((Bp n).1).Ab).Aa.Ak,.int .i64 (((Bp n).1).Ab).Aa.size,.slice x.2.1.a (((Bp n).1).Ab).Aa.Aj.length x.2.1.c,.int .i64 (((Bp n).1).Ab).Ai,.int .i64 (((Bp n).1).Ab).quiet,.slice x.2.1.a2 (((Bp n).1).Ab).holds.length x.2.1.c2,.slice y.a4 n.An.Ac.length y.c4,.slice y.a5 n.An.Ac.length y.c5,.slice y.a6 n.An.Ac.length y.c6,.slice y.a7 n.An.Ac.length y.c7],FN,_,_,_⟩:Wu) trivial rfl
 have htk0:Bo n s=Cs n s:=by unfold Bo;rw [if_neg h1,if_neg h4]
 have hf:L6 s.node=true:=by
  have:=g2
  unfold Eo at this
  rw [if_neg h1,if_neg h4] at this
  simp only [Bool.and_eq_true] at this
  exact this.1.2
 obtain ⟨f1,f2⟩:=Kh.1 hf
 obtain ⟨i,hi⟩:∃i:Nat,s.node=((i:Nat):Int):=⟨s.node.toNat,by omega⟩
 have i0:i≠0:=by omega
 rw [hi]
 by_cases k5:s.C2=5
 ·have hu:Py s=true:=by unfold Py;rw [decide_eq_true k5];rfl
  have hq:∀h:i < n.up.length,Ov n s=n.up[i]:=fun h=>by unfold Ov;rw [hu,if_pos rfl,hi,Int.toNat_natCast];exact Nu h []
  have hpo:Ei n s=Iq n i:=by unfold Ei;rw [hu,if_pos rfl,hi,Int.toNat_natCast]
  refine go ?_;intros
  refine Ee rfl rfl (fun g5=>?_) (fun g5=>?_)
  rotate_left
  ·exact absurd k5 g5
  refine go ?_;intros
  refine Ee rfl rfl (fun h6=>?_) (fun h6=>?_)
  ·have e1:Cs n s=none:=by unfold Cs;rw [if_pos (by omega)]
   rw [show Av n s=(Lz,[],false) by unfold Av;rw [g1,g2,htk0,e1];rfl]
   refine B9 Bd (by decide) ?_
   refine B9 A9 (by decide) ?_
   refine B9 Bh (by decide) ?_
   refine B9 Bv (by decide) ?_
   refine B9 Cb (by decide) ?_
   refine B9 (Ly Al (by decide)) (by decide) ?_
   refine B9 (Ly Al (by decide)) (by decide) ?_
   refine Jf Lz (a1:=none) (c1:=0) (a2:=none) (c2:=0) (a3:=none) (c3:=0) (a4:=none) (c4:=0) (a5:=none) (c5:=0) (a6:=none) (c6:=0) (a7:=none) (c7:=0) ?_
   refine go ?_;intros
   refine C6 A9 ?_
   refine go ?_;intros
   refine ret (⟨[.slice none 0 0,.int .i64 0,.int .i64 0,.slice none 0 0,.int .i64 0,.int .i64 0,.slice none 0 0,.slice none 0 0,.slice none 0 0,.slice none 0 0,.slice none 0 0],_,_,_,_⟩:Wu) trivial rfl
  have hil:i < n.up.length:=by omega
  have hq:=hq hil
  refine Ed (ys:=yu) fun hm hlr=>?_
  refine Y3 (ys:=yu) (xs:=n.up) i hm (by omega) (by omega) fun h9 _ Gq=>?_
  refine Ve (x:=n.up[i]) fun a9 c9 e9 l9=>?_
  have e10:yu[i]=[.slice a9 n.up[i].length c9]:=by simpa using e9
  refine Nl (E:=EC 1) (xs:=yu) (m:=1) (E9 1) i ?_ (by repeat (first|exact .here|apply C1.there)) rfl h9
  rintro _ gq Aq cs Bq ea j2 j3 hHq
  rw [ea]
  obtain ⟨j4, -, -⟩:=j3 w0
  rw [e10] at j4
  subst j4
  refine go ?_;intros
  refine Bf rfl (fun h7=>?_) (fun h7=>?_)
  ·have e1:Cs n s=none:=by unfold Cs;rw [if_neg (by omega),hq,if_pos (by omega)]
   rw [show Av n s=(Lz,[],false) by unfold Av;rw [g1,g2,htk0,e1];rfl]
   refine B9 Bd (by decide) ?_
   refine B9 A9 (by decide) ?_
   refine B9 Bh (by decide) ?_
   refine B9 Bv (by decide) ?_
   refine B9 Cb (by decide) ?_
   refine B9 (Ly Al (by decide)) (by decide) ?_
   refine B9 (Ly Al (by decide)) (by decide) ?_
   refine Jf Lz (a1:=none) (c1:=0) (a2:=none) (c2:=0) (a3:=none) (c3:=0) (a4:=none) (c4:=0) (a5:=none) (c5:=0) (a6:=none) (c6:=0) (a7:=none) (c7:=0) ?_
   refine go ?_;intros
   refine C6 A9 ?_
   refine go ?_;intros
   refine ret (⟨[.slice none 0 0,.int .i64 0,.int .i64 0,.slice none 0 0,.int .i64 0,.int .i64 0,.slice none 0 0,.slice none 0 0,.slice none 0 0,.slice none 0 0,.slice none 0 0],_,_,_,_⟩:Wu) trivial rfl
  have h0:0 < n.up[i].length:=by omega
  refine Ok (xs:=n.up[i]) 0 ?_
  rintro hi3 b3 o3 e3 s3
  rw [e3]
  refine go ?_;intros
  refine Aw [2,17] [10] ?_
  refine dt 0 ?_
  refine dt 1 ?_
  refine dt 2 ?_
  refine dt 3 ?_
  refine dt 4 ?_
  refine dt 5 ?_
  refine dt 6 ?_
  refine dt 7 ?_
  refine dO 8 (by kernel_rfl) (by rw [List.getElem?_toArray];rfl) ?_
  refine sld 1 fun a8 c8 F8=>?_
  refine dk ?_
  refine dt 9 ?_
  refine dO 10 (by kernel_rfl) (by rw [List.getElem?_toArray];rfl) ?_
  apply Cu;rfl;rfl;rfl;(first|exact AggC.s|exact OneC.s);rfl;exact Cw;exact Cv;rfl
  refine Mg ?_
  refine dd ?_
  refine Mr (E:=EC 1) (xs:=yu) [.slice a8 (n.up[i].drop 1).length c8] hHq (fun _=>⟨rfl,⟨rfl,by simp [Value.oneCell']⟩,rfl⟩) ?_
  refine Tw (E:=Al) (x:=n.up[i].drop 1) (by decide) ?_
  refine M8 (E:=Ly Al (by decide)) (ys:=yu) (xs:=n.up) (x:=n.up[i].drop 1) i rfl hm (by omega) fun Gv=>?_
  rw [←ea,show n.up.set i (n.up[i].drop 1)=(Iq n i).up from (Fb (by omega)).symm]
  have hmem:=Lu h0
  have hpk:Bk (Kk n.up[i])=true:=Kg (hq▸(Jm (s:=s) g1).1) hmem
  have hpz:(Kk n.up[i]).data.size≤maxLen:=by
   have h9:=hpk
   unfold Bk N1 at h9
   simp only [Bool.and_eq_true,decide_eq_true_eq] at h9
   unfold maxLen;omega
  have hgp:A8 (Iq n i)=true:=hpo▸Iz g1
  have hGp:=A1.1 hgp
  have hPg:=Rx h0
  rw [←hPg]
  generalize hP:Kk n.up[i]=P at *
  have htk:Cs n s=some (Lx (Iq n i) i P,[]):=by
   unfold Cs
   rw [if_neg (by omega),hq,if_neg (by omega),hpo,hP,hi,Int.toNat_natCast]
   rw [if_neg (by omega),if_pos k5]
  have hgm:=Ie g1 g2 (htk0.trans htk)
  rw [show Av n s=(Lx (Iq n i) i P,[],true) by unfold Av;rw [g1,g2,htk0,htk];rfl]
  refine go ?_;intros
  refine Bf rfl (fun k2=>?_) (fun k2=>?_)
  ·exact absurd k2 (by omega)
  refine go ?_;intros
  refine Bf rfl (fun m5=>?_) (fun m5=>?_)
  rotate_left
  ·exact absurd k5 m5
  have hdp:∀q∈(Iq n i).down,q.length≤6:=fun q hq=>(Gk ((Ky hgp).2.2.1 q hq)).1
  have hup:∀q∈(Iq n i).up,q.length≤6:=fun q hq=>(Gk ((Ky hgp).2.2.2 q hq)).1
  refine go ?_;intros
  refine cf (Amz (Iq n i) i P w.a1 w.c1 y.a4 y.c4 y.a5 y.c5 y.a6 y.c6 y.a7 y.c7 w.s.a w.s.a2 w.s.c w.s.c2 Ft w.s.F ⟨⟨ye,Fe,He⟩,⟨yr,Fr,Hr⟩,⟨yd,Fd,Hd⟩,⟨yu.set i [.slice a8 (n.up[i].drop 1).length c8],[gq],Gv⟩⟩ hGp.l i0 (by show i < n.An.Ac.length;omega) (Ex hGp.t) hGp.s (fun k hk hkl hl=>by obtain ⟨x1,x2,x3,x4,r⟩:=hGp.rn (i:=k) hkl;rw [Iw x1];exact (r.hn hk hl).1) hpk hpz hdp hup) fun x _=>?_
  refine Ar ?_
  refine go ?_;intros
  refine C6 A9 ?_
  refine go ?_;intros
  refine Ed (ys:=x.1.e.ys) fun _ w4=>?_
  refine Ed (ys:=x.1.r.ys) fun _ w5=>?_
  refine Ed (ys:=x.1.d.ys) fun _ w6=>?_
  refine Ed (ys:=x.1.u.ys) fun _ w7=>?_
  refine Ay (E:=EC 2) (xs:=x.1.e.ys) fun _=>?_
  refine Ay (E:=EC 5) (xs:=x.1.r.ys) fun _=>?_
  refine Ay (E:=EC 1) (xs:=x.1.d.ys) fun _=>?_
  refine Ay (E:=EC 1) (xs:=x.1.u.ys) fun _=>?_
  refine Tk (Lx (Iq n i) i P) (l:=n.An.Ac) (N:=n.An.Ac.length) (congrArg Mu.Ac (Lm (htk0.trans htk))) rfl (A1.1 hgm).l w4 w5 w6 w7 (a1:=w.a1) (c1:=w.c1) (a2:=x.2.a) (c2:=x.2.c) (a3:=x.2.a2) (c3:=x.2.c2) (a4:=y.a4) (c4:=y.c4) (a5:=y.a5) (c5:=y.c5) (a6:=y.a6) (c6:=y.c6) (a7:=y.a7) (c7:=y.c7) fun FN=>?_
  refine ret (⟨[.slice w.a1 n.An.Ac.length w.c1,.int .i64 ((Lx (Iq n i) i P).Ab).Aa.Ak,.int .i64 ((Lx (Iq n i) i P).Ab).Aa.size,.slice x.2.a ((Lx (Iq n i) i P).Ab).Aa.Aj.length x.2.c,.int .i64 ((Lx (Iq n i) i P).Ab).Ai,.int .i64 ((Lx (Iq n i) i P).Ab).quiet,.slice x.2.a2 ((Lx (Iq n i) i P).Ab).holds.length x.2.c2,.slice y.a4 n.An.Ac.length y.c4,.slice y.a5 n.An.Ac.length y.c5,.slice y.a6 n.An.Ac.length y.c6,.slice y.a7 n.An.Ac.length y.c7],FN,_,_,_⟩:Wu) trivial rfl
 by_cases k6:s.C2=6
 ·have hu:Py s=true:=by unfold Py;rw [decide_eq_true k6,Bool.or_true]
  have hq:∀h:i < n.up.length,Ov n s=n.up[i]:=fun h=>by unfold Ov;rw [hu,if_pos rfl,hi,Int.toNat_natCast];exact Nu h []
  have hpo:Ei n s=Iq n i:=by unfold Ei;rw [hu,if_pos rfl,hi,Int.toNat_natCast]
  refine go ?_;intros
  refine Ee rfl rfl (fun g5=>?_) (fun g5=>?_)
  ·exact absurd g5 (by omega)
  refine go ?_;intros
  refine Bf rfl (fun g6=>?_) (fun g6=>?_)
  rotate_left
  ·exact absurd k6 g6
  refine go ?_;intros
  refine Ee rfl rfl (fun h6=>?_) (fun h6=>?_)
  ·have e1:Cs n s=none:=by unfold Cs;rw [if_pos (by omega)]
   rw [show Av n s=(Lz,[],false) by unfold Av;rw [g1,g2,htk0,e1];rfl]
   refine B9 Bd (by decide) ?_
   refine B9 A9 (by decide) ?_
   refine B9 Bh (by decide) ?_
   refine B9 Bv (by decide) ?_
   refine B9 Cb (by decide) ?_
   refine B9 (Ly Al (by decide)) (by decide) ?_
   refine B9 (Ly Al (by decide)) (by decide) ?_
   refine Jf Lz (a1:=none) (c1:=0) (a2:=none) (c2:=0) (a3:=none) (c3:=0) (a4:=none) (c4:=0) (a5:=none) (c5:=0) (a6:=none) (c6:=0) (a7:=none) (c7:=0) ?_
   refine go ?_;intros
   refine C6 A9 ?_
   refine go ?_;intros
   refine ret (⟨[.slice none 0 0,.int .i64 0,.int .i64 0,.slice none 0 0,.int .i64 0,.int .i64 0,.slice none 0 0,.slice none 0 0,.slice none 0 0,.slice none 0 0,.slice none 0 0],_,_,_,_⟩:Wu) trivial rfl
  have hil:i < n.up.length:=by omega
  have hq:=hq hil
  refine Ed (ys:=yu) fun hm hlr=>?_
  refine Y3 (ys:=yu) (xs:=n.up) i hm (by omega) (by omega) fun h9 _ Gq=>?_
  refine Ve (x:=n.up[i]) fun a9 c9 e9 l9=>?_
  have e10:yu[i]=[.slice a9 n.up[i].length c9]:=by simpa using e9
  refine Nl (E:=EC 1) (xs:=yu) (m:=1) (E9 1) i ?_ (by repeat (first|exact .here|apply C1.there)) rfl h9
  rintro _ gq Aq cs Bq ea j2 j3 hHq
  rw [ea]
  obtain ⟨j4, -, -⟩:=j3 w0
  rw [e10] at j4
  subst j4
  refine go ?_;intros
  refine Bf rfl (fun h7=>?_) (fun h7=>?_)
  ·have e1:Cs n s=none:=by unfold Cs;rw [if_neg (by omega),hq,if_pos (by omega)]
   rw [show Av n s=(Lz,[],false) by unfold Av;rw [g1,g2,htk0,e1];rfl]
   refine B9 Bd (by decide) ?_
   refine B9 A9 (by decide) ?_
   refine B9 Bh (by decide) ?_
   refine B9 Bv (by decide) ?_
   refine B9 Cb (by decide) ?_
   refine B9 (Ly Al (by decide)) (by decide) ?_
   refine B9 (Ly Al (by decide)) (by decide) ?_
   refine Jf Lz (a1:=none) (c1:=0) (a2:=none) (c2:=0) (a3:=none) (c3:=0) (a4:=none) (c4:=0) (a5:=none) (c5:=0) (a6:=none) (c6:=0) (a7:=none) (c7:=0) ?_
   refine go ?_;intros
   refine C6 A9 ?_
   refine go ?_;intros
   refine ret (⟨[.slice none 0 0,.int .i64 0,.int .i64 0,.slice none 0 0,.int .i64 0,.int .i64 0,.slice none 0 0,.slice none 0 0,.slice none 0 0,.slice none 0 0,.slice none 0 0],_,_,_,_⟩:Wu) trivial rfl
  have h0:0 < n.up[i].length:=by omega
  refine Ok (xs:=n.up[i]) 0 ?_
  rintro hi3 b3 o3 e3 s3
  rw [e3]
  refine go ?_;intros
  refine Aw [2,17] [10] ?_
  refine dt 0 ?_
  refine dt 1 ?_
  refine dt 2 ?_
  refine dt 3 ?_
  refine dt 4 ?_
  refine dt 5 ?_
  refine dt 6 ?_
  refine dt 7 ?_
  refine dO 8 (by kernel_rfl) (by rw [List.getElem?_toArray];rfl) ?_
  refine sld 1 fun a8 c8 F8=>?_
  refine dk ?_
  refine dt 9 ?_
  refine dO 10 (by kernel_rfl) (by rw [List.getElem?_toArray];rfl) ?_
  apply Cu;rfl;rfl;rfl;(first|exact AggC.s|exact OneC.s);rfl;exact Cw;exact Cv;rfl
  refine Mg ?_
  refine dd ?_
  refine Mr (E:=EC 1) (xs:=yu) [.slice a8 (n.up[i].drop 1).length c8] hHq (fun _=>⟨rfl,⟨rfl,by simp [Value.oneCell']⟩,rfl⟩) ?_
  refine Tw (E:=Al) (x:=n.up[i].drop 1) (by decide) ?_
  refine M8 (E:=Ly Al (by decide)) (ys:=yu) (xs:=n.up) (x:=n.up[i].drop 1) i rfl hm (by omega) fun Gv=>?_
  rw [←ea,show n.up.set i (n.up[i].drop 1)=(Iq n i).up from (Fb (by omega)).symm]
  have hmem:=Lu h0
  have hpk:Bk (Kk n.up[i])=true:=Kg (hq▸(Jm (s:=s) g1).1) hmem
  have hpz:(Kk n.up[i]).data.size≤maxLen:=by
   have h9:=hpk
   unfold Bk N1 at h9
   simp only [Bool.and_eq_true,decide_eq_true_eq] at h9
   unfold maxLen;omega
  have hgp:A8 (Iq n i)=true:=hpo▸Iz g1
  have hGp:=A1.1 hgp
  have hPg:=Rx h0
  rw [←hPg]
  generalize hP:Kk n.up[i]=P at *
  have htk:Cs n s=some (Iq n i,[]):=by
   unfold Cs
   rw [if_neg (by omega),hq,if_neg (by omega),hpo,hP,hi,Int.toNat_natCast]
   rw [if_neg (by omega),if_neg (by omega)]
  have hgm:=Ie g1 g2 (htk0.trans htk)
  rw [show Av n s=(Iq n i,[],true) by unfold Av;rw [g1,g2,htk0,htk];rfl]
  refine go ?_;intros
  refine Bf rfl (fun k2=>?_) (fun k2=>?_)
  ·exact absurd k2 (by omega)
  refine go ?_;intros
  refine Bf rfl (fun m5=>?_) (fun m5=>?_)
  ·exact absurd m5 (by omega)
  refine go ?_;intros
  refine C6 A9 ?_
  refine go ?_;intros
  refine Ed (ys:=ye) fun _ w4=>?_
  refine Ed (ys:=yr) fun _ w5=>?_
  refine Ed (ys:=yd) fun _ w6=>?_
  refine Ed (ys:=(yu.set i [.slice a8 (n.up[i].drop 1).length c8])) fun _ w7=>?_
  refine Ay (E:=EC 2) (xs:=ye) fun _=>?_
  refine Ay (E:=EC 5) (xs:=yr) fun _=>?_
  refine Ay (E:=EC 1) (xs:=yd) fun _=>?_
  refine Ay (E:=EC 1) (xs:=(yu.set i [.slice a8 (n.up[i].drop 1).length c8])) fun _=>?_
  refine Tk (Iq n i) (l:=n.An.Ac) (N:=n.An.Ac.length) rfl rfl (A1.1 hgm).l w4 w5 w6 w7 (a1:=w.a1) (c1:=w.c1) (a2:=w.s.a) (c2:=w.s.c) (a3:=w.s.a2) (c3:=w.s.c2) (a4:=y.a4) (c4:=y.c4) (a5:=y.a5) (c5:=y.c5) (a6:=y.a6) (c6:=y.c6) (a7:=y.a7) (c7:=y.c7) fun FN=>?_
  refine ret (⟨[.slice w.a1 n.An.Ac.length w.c1,.int .i64 ((Iq n i).Ab).Aa.Ak,.int .i64 ((Iq n i).Ab).Aa.size,.slice w.s.a ((Iq n i).Ab).Aa.Aj.length w.s.c,.int .i64 ((Iq n i).Ab).Ai,.int .i64 ((Iq n i).Ab).quiet,.slice w.s.a2 ((Iq n i).Ab).holds.length w.s.c2,.slice y.a4 n.An.Ac.length y.c4,.slice y.a5 n.An.Ac.length y.c5,.slice y.a6 n.An.Ac.length y.c6,.slice y.a7 n.An.Ac.length y.c7],FN,_,_,_⟩:Wu) trivial rfl
 have hu:Py s=false:=by unfold Py;rw [decide_eq_false k5,decide_eq_false k6];rfl
 have hq:∀h:i < n.down.length,Ov n s=n.down[i]:=fun h=>by unfold Ov;rw [hu,if_neg (by decide),hi,Int.toNat_natCast];exact Nu h []
 have hpo:Ei n s=Jx n i:=by unfold Ei;rw [hu,if_neg (by decide),hi,Int.toNat_natCast]
 refine go ?_;intros
 refine Ee rfl rfl (fun g5=>?_) (fun g5=>?_)
 ·exact absurd g5 k5
 refine go ?_;intros
 refine Bf rfl (fun g6=>?_) (fun g6=>?_)
 ·exact absurd g6 k6
 refine go ?_;intros
 refine Ee rfl rfl (fun h6=>?_) (fun h6=>?_)
 ·have e1:Cs n s=none:=by unfold Cs;rw [if_pos (by omega)]
  rw [show Av n s=(Lz,[],false) by unfold Av;rw [g1,g2,htk0,e1];rfl]
  refine B9 Bd (by decide) ?_
  refine B9 A9 (by decide) ?_
  refine B9 Bh (by decide) ?_
  refine B9 Bv (by decide) ?_
  refine B9 Cb (by decide) ?_
  refine B9 (Ly Al (by decide)) (by decide) ?_
  refine B9 (Ly Al (by decide)) (by decide) ?_
  refine Jf Lz (a1:=none) (c1:=0) (a2:=none) (c2:=0) (a3:=none) (c3:=0) (a4:=none) (c4:=0) (a5:=none) (c5:=0) (a6:=none) (c6:=0) (a7:=none) (c7:=0) ?_
  refine go ?_;intros
  refine C6 A9 ?_
  refine go ?_;intros
  refine ret (⟨[.slice none 0 0,.int .i64 0,.int .i64 0,.slice none 0 0,.int .i64 0,.int .i64 0,.slice none 0 0,.slice none 0 0,.slice none 0 0,.slice none 0 0,.slice none 0 0],_,_,_,_⟩:Wu) trivial rfl
 have hil:i < n.down.length:=by omega
 have hq:=hq hil
 refine Ed (ys:=yd) fun hm hlr=>?_
 refine Y3 (ys:=yd) (xs:=n.down) i hm (by omega) (by omega) fun h9 _ Gq=>?_
 refine Ve (x:=n.down[i]) fun a9 c9 e9 l9=>?_
 have e10:yd[i]=[.slice a9 n.down[i].length c9]:=by simpa using e9
 refine Nl (E:=EC 1) (xs:=yd) (m:=1) (E9 1) i ?_ (by repeat (first|exact .here|apply C1.there)) rfl h9
 rintro _ gq Aq cs Bq ea j2 j3 hHq
 rw [ea]
 obtain ⟨j4, -, -⟩:=j3 w0
 rw [e10] at j4
 subst j4
 refine go ?_;intros
 refine Bf rfl (fun h7=>?_) (fun h7=>?_)
 ·have e1:Cs n s=none:=by unfold Cs;rw [if_neg (by omega),hq,if_pos (by omega)]
  rw [show Av n s=(Lz,[],false) by unfold Av;rw [g1,g2,htk0,e1];rfl]
  refine B9 Bd (by decide) ?_
  refine B9 A9 (by decide) ?_
  refine B9 Bh (by decide) ?_
  refine B9 Bv (by decide) ?_
  refine B9 Cb (by decide) ?_
  refine B9 (Ly Al (by decide)) (by decide) ?_
  refine B9 (Ly Al (by decide)) (by decide) ?_
  refine Jf Lz (a1:=none) (c1:=0) (a2:=none) (c2:=0) (a3:=none) (c3:=0) (a4:=none) (c4:=0) (a5:=none) (c5:=0) (a6:=none) (c6:=0) (a7:=none) (c7:=0) ?_
  refine go ?_;intros
  refine C6 A9 ?_
  refine go ?_;intros
  refine ret (⟨[.slice none 0 0,.int .i64 0,.int .i64 0,.slice none 0 0,.int .i64 0,.int .i64 0,.slice none 0 0,.slice none 0 0,.slice none 0 0,.slice none 0 0,.slice none 0 0],_,_,_,_⟩:Wu) trivial rfl
 have h0:0 < n.down[i].length:=by omega
 refine Ok (xs:=n.down[i]) 0 ?_
 rintro hi3 b3 o3 e3 s3
 rw [e3]
 refine go ?_;intros
 refine Aw [2,17] [10] ?_
 refine dt 0 ?_
 refine dt 1 ?_
 refine dt 2 ?_
 refine dt 3 ?_
 refine dt 4 ?_
 refine dt 5 ?_
 refine dt 6 ?_
 refine dt 7 ?_
 refine dO 8 (by kernel_rfl) (by rw [List.getElem?_toArray];rfl) ?_
 refine sld 1 fun a8 c8 F8=>?_
 refine dk ?_
 refine dt 9 ?_
 refine dO 10 (by kernel_rfl) (by rw [List.getElem?_toArray];rfl) ?_
 apply Cu;rfl;rfl;rfl;(first|exact AggC.s|exact OneC.s);rfl;exact Cw;exact Cv;rfl
 refine Mg ?_
 refine dd ?_
 refine Mr (E:=EC 1) (xs:=yd) [.slice a8 (n.down[i].drop 1).length c8] hHq (fun _=>⟨rfl,⟨rfl,by simp [Value.oneCell']⟩,rfl⟩) ?_
 refine Tw (E:=Al) (x:=n.down[i].drop 1) (by decide) ?_
 refine M8 (E:=Ly Al (by decide)) (ys:=yd) (xs:=n.down) (x:=n.down[i].drop 1) i rfl hm (by omega) fun Gv=>?_
 rw [←ea,show n.down.set i (n.down[i].drop 1)=(Jx n i).down from (Fb (by omega)).symm]
 have hmem:=Lu h0
 have hpk:Bk (Kk n.down[i])=true:=Kg (hq▸(Jm (s:=s) g1).1) hmem
 have hpz:(Kk n.down[i]).data.size≤maxLen:=by
  have h9:=hpk
  unfold Bk N1 at h9
  simp only [Bool.and_eq_true,decide_eq_true_eq] at h9
  unfold maxLen;omega
 have hgp:A8 (Jx n i)=true:=hpo▸Iz g1
 have hGp:=A1.1 hgp
 have hPg:=Rx h0
 rw [←hPg]
 generalize hP:Kk n.down[i]=P at *
 have htk:Cs n s=if s.C2=2 then some (Ci (Jx n i) i P) else some (Jx n i,[]):=by
  unfold Cs
  rw [if_neg (by omega),hq,if_neg (by omega),hpo,hP,hi,Int.toNat_natCast]
  split
  ·rfl
  ·first|rfl|rw [if_neg k5]
 have hdp:∀q∈(Jx n i).down,q.length≤6:=fun q hq=>(Gk ((Ky hgp).2.2.1 q hq)).1
 refine go ?_;intros
 refine Bf rfl (fun k2=>?_) (fun k2=>?_)
 ·rw [if_pos k2] at htk
  have hgm:=Ie g1 g2 (htk0.trans htk)
  rw [show Av n s=((Ci (Jx n i) i P).1,(Ci (Jx n i) i P).2,true) by unfold Av;rw [g1,g2,htk0,htk];rfl]
  refine go ?_;intros
  have hls:(Ci (Jx n i) i P).1.Ab=n.Ab:=by unfold Ci;split <;> rfl
  refine Aw [4,8,20] [] ?_
  refine dt 0 ?_
  refine dt 1 ?_
  refine dt 2 ?_
  refine dt 3 ?_
  refine dt 4 ?_
  refine dO 5 (by kernel_rfl) (by rw [List.getElem?_toArray];rfl) ?_
  apply At;rfl;kernel_rfl;exact Be
  refine cf (Abo (Jx n i) i P w.a1 w.c1 y.a4 y.c4 y.a5 y.c5 y.a6 y.c6 y.a7 y.c7 w.s.a w.s.a2 n.Ab.Aa.Aj.length w.s.c n.Ab.holds.length w.s.c2 _ _ _ _ Ft ⟨⟨ye,Fe,He⟩,⟨yr,Fr,Hr⟩,⟨yd.set i [.slice a8 (n.down[i].drop 1).length c8],[gq],Gv⟩,⟨yu,Fu,Hu⟩⟩ FT hGp.l (by show i < n.An.Ac.length;omega) (by omega) (Ex hGp.t) (fun hl=>by obtain ⟨x1,x2,x3,x4,r⟩:=hGp.rn (i:=i) (by show i < n.An.Ac.length;omega);rw [Jo x2];exact (r.hf i0 hl).2.1) (fun hl=>by obtain ⟨x1,x2,x3,x4,r⟩:=hGp.rn (i:=i) (by show i < n.An.Ac.length;omega);rw [Iw x1];exact (r.hn i0 hl).1) hpk hpz hdp) fun x _=>?_
  refine Ar ?_
  refine dk ?_
  refine dO 6 (by kernel_rfl) (by rw [List.getElem?_toArray];rfl) ?_
  apply Cu;rfl;rfl;rfl;(first|exact AggC.s|exact OneC.s);rfl;exact Cw;exact Cv;rfl
  refine dk ?_
  refine dt 7 ?_
  refine dt 8 ?_
  refine dd ?_
  refine go ?_;intros
  rw [←hls]
  refine Ed (ys:=x.1.e.ys) fun _ w4=>?_
  refine Ed (ys:=x.1.r.ys) fun _ w5=>?_
  refine Ed (ys:=x.1.d.ys) fun _ w6=>?_
  refine Ed (ys:=x.1.u.ys) fun _ w7=>?_
  refine Ay (E:=EC 2) (xs:=x.1.e.ys) fun _=>?_
  refine Ay (E:=EC 5) (xs:=x.1.r.ys) fun _=>?_
  refine Ay (E:=EC 1) (xs:=x.1.d.ys) fun _=>?_
  refine Ay (E:=EC 1) (xs:=x.1.u.ys) fun _=>?_
  refine Tk ((Ci (Jx n i) i P).1) (l:=n.An.Ac) (N:=n.An.Ac.length) (congrArg Mu.Ac (Lm (htk0.trans htk))) rfl (A1.1 hgm).l w4 w5 w6 w7 (a1:=w.a1) (c1:=w.c1) (a2:=w.s.a) (c2:=w.s.c) (a3:=w.s.a2) (c3:=w.s.c2) (a4:=y.a4) (c4:=y.c4) (a5:=y.a5) (c5:=y.c5) (a6:=y.a6) (c6:=y.c6) (a7:=y.a7) (c7:=y.c7) fun FN=>?_
  refine ret (⟨[.slice w.a1 n.An.Ac.length w.c1,.int .i64 (((Ci (Jx n i) i P).1).Ab).Aa.Ak,.int .i64 (((Ci (Jx n i) i P).1).Ab).Aa.size,.slice w.s.a (((Ci (Jx n i) i P).1).Ab).Aa.Aj.length w.s.c,.int .i64 (((Ci (Jx n i) i P).1).Ab).Ai,.int .i64 (((Ci (Jx n i) i P).1).Ab).quiet,.slice w.s.a2 (((Ci (Jx n i) i P).1).Ab).holds.length w.s.c2,.slice y.a4 n.An.Ac.length y.c4,.slice y.a5 n.An.Ac.length y.c5,.slice y.a6 n.An.Ac.length y.c6,.slice y.a7 n.An.Ac.length y.c7],FN,x.2.a,x.2.c,x.2.F⟩:Wu) trivial rfl
 ·rw [if_neg k2] at htk
  have hgm:=Ie g1 g2 (htk0.trans htk)
  rw [show Av n s=(Jx n i,[],true) by unfold Av;rw [g1,g2,htk0,htk];rfl]
  refine go ?_;intros
  refine Bf rfl (fun m5=>?_) (fun m5=>?_)
  ·exact absurd m5 k5
  refine go ?_;intros
  refine C6 A9 ?_
  refine go ?_;intros
  refine Ed (ys:=ye) fun _ w4=>?_
  refine Ed (ys:=yr) fun _ w5=>?_
  refine Ed (ys:=(yd.set i [.slice a8 (n.down[i].drop 1).length c8])) fun _ w6=>?_
  refine Ed (ys:=yu) fun _ w7=>?_
  refine Ay (E:=EC 2) (xs:=ye) fun _=>?_
  refine Ay (E:=EC 5) (xs:=yr) fun _=>?_
  refine Ay (E:=EC 1) (xs:=(yd.set i [.slice a8 (n.down[i].drop 1).length c8])) fun _=>?_
  refine Ay (E:=EC 1) (xs:=yu) fun _=>?_
  refine Tk (Jx n i) (l:=n.An.Ac) (N:=n.An.Ac.length) rfl rfl (A1.1 hgm).l w4 w5 w6 w7 (a1:=w.a1) (c1:=w.c1) (a2:=w.s.a) (c2:=w.s.c) (a3:=w.s.a2) (c3:=w.s.c2) (a4:=y.a4) (c4:=y.c4) (a5:=y.a5) (c5:=y.c5) (a6:=y.a6) (c6:=y.c6) (a7:=y.a7) (c7:=y.c7) fun FN=>?_
  refine ret (⟨[.slice w.a1 n.An.Ac.length w.c1,.int .i64 ((Jx n i).Ab).Aa.Ak,.int .i64 ((Jx n i).Ab).Aa.size,.slice w.s.a ((Jx n i).Ab).Aa.Aj.length w.s.c,.int .i64 ((Jx n i).Ab).Ai,.int .i64 ((Jx n i).Ab).quiet,.slice w.s.a2 ((Jx n i).Ab).holds.length w.s.c2,.slice y.a4 n.An.Ac.length y.c4,.slice y.a5 n.An.Ac.length y.c5,.slice y.a6 n.An.Ac.length y.c6,.slice y.a7 n.An.Ac.length y.c7],FN,_,_,_⟩:Wu) trivial rfl
theorem Aqc (v:Value) (Bl:List Int) (F:List Nat):Fn prog 5 [v] [.sl Gs v Bl F] [] (fun (_:Unit)=>True) (fun _=>.bool (decide (65536 < (Bl.length:Int)))) (fun _=>[]):=by
 refine enter func5 rfl ntmps5 fun w0=>?_
 refine Wy (E:=Gs) ?_
 rintro a c rfl l1 l2
 refine go ?_;intros
 refine ret () trivial rfl
end Go.Proofs.YtbmlecejkacpnaaGreatDoor
namespace Go.Proofs.YtbmlecejkacpnaaGreatDoor

open Go.RowKit
open Go.RowKit
open Go.RowKit
end Go.Proofs.YtbmlecejkacpnaaGreatDoor
namespace Go.Proofs.YtbmlecejkacpnaaGreatDoor
open Go.RowKit
structure SwS where
 y:Ax
 a:Option Addr
 c:Nat
 F:List Nat
 s:Oi
structure SwL where
 y:Ax
 i:Nat
 a:Option Addr
 c:Nat
 F:List Nat
 s:Oi
structure Asa (B r0:Nat) (z:SwL):Prop where
 l:z.y.Aj.length+z.i=r0
 s:Hi (B+8+50 * z.y.Aj.length) z.s
theorem Ab0 (B g:Nat) (F:Ss) (s:Oi) (ok:Hi B s) (hB:B≤800000000000) :
  Fn prog 113 [Eu g 0 0] [.sl Gs (.slice F.a F.Bl.length F.c) F.Bl F.bs] [.row g 70 0 [] [.slice F.a F.Bl.length F.c,.int .i64 (s.k:Nat),.int .u64 s.Dq] []] (fun (z:SwS)=>z.y.Aj.length≤7∧Hi (B+1000) z.s) (fun s=>.agg #[.int .i64 s.y.Ak,.int .i64 s.y.size,.slice s.a s.y.Aj.length s.c])
   (fun s=>[.isv B4 (.agg #[.int .i64 s.y.Ak,.int .i64 s.y.size,.slice s.a s.y.Aj.length s.c]) s.y s.F,.row g 70 0 [] [.slice F.a F.Bl.length F.c,.int .i64 (s.s.k:Nat),.int .u64 s.s.Dq] []]):=by
 refine enter func113 rfl ntmps113 fun w0=>?_
 refine Bx A9 9 ?_
 refine go ?_;intros
 refine cf (Qb B g F s ok (by omega)) fun n hn=>?_
 refine Ar ?_
 obtain ⟨hn1,hn2⟩:=hn
 refine go ?_;intros
 refine cf (Eb (B+4) g F 6 n.2 hn2 (by omega) (by omega)) fun y hy=>?_
 refine Ar ?_
 obtain ⟨r1,s1⟩:=y
 obtain ⟨hy1,hy2⟩:=hy
 dsimp only at hy1 hy2 ⊢
 have hr1:r1≤5:=by omega
 refine go ?_;intros
 rename_i gg
 refine cf (Eb _ g F (1+(r1:Int)+1) s1 hy2 (by omega) (by omega)) fun y hy=>?_
 refine Ar ?_
 obtain ⟨r0,s2⟩:=y
 obtain ⟨hz1,hz2⟩:=hy
 dsimp only at hz1 hz2 ⊢
 have hr0:r0≤6:=by omega
 refine go ?_;intros
 refine Ck [0,2,3] (fun z:SwL=>[(4,.int .i64 (z.i:Nat))]) (fun z=>[.row gg 31 0 [] [.int .i64 z.y.Ak,.int .i64 z.y.size,.slice z.a z.y.Aj.length z.c] [],.ow A9 9 (.slice z.a z.y.Aj.length z.c) z.y.Aj z.F,.row g 70 0 [] [.slice F.a F.Bl.length F.c,.int .i64 (z.s.k:Nat),.int .u64 z.s.Dq] []]) (Asa B r0) (fun z=>z.i) ⟨⟨n.1,1+(r1:Int),[]⟩,r0,none,0,[],s2⟩ ⟨by simp,hz2.mono (by show _≤B+8+50 * 0;omega)⟩ fun z hz=>?_
 obtain ⟨z1,z3⟩:=hz
 refine go ?_;intros
 refine Bf rfl (fun h2=>?_) (fun h2=>?_)
 ·refine Kx ?_;intros
  refine Aw [0] [7] ?_
  refine dt 0 ?_
  refine dt 1 ?_
  refine dt 2 ?_
  refine dO 3 (by kernel_rfl) (by rw [List.getElem?_toArray];rfl) ?_
  apply At;rfl;kernel_rfl;exact Be
  refine cf (Of _ g F z.s 4 z3 (by omega) (by omega) (by omega)) fun l hl=>?_
  refine Ar ?_
  obtain ⟨hl1,hl2⟩:=hl
  have hl3:l.1.size≤maxLen:=by unfold maxLen;omega
  refine dk ?_
  refine dO 4 (by kernel_rfl) (by rw [List.getElem?_toArray];rfl) ?_
  apply Hh;rfl;rfl;rfl;rfl;exact Hb;exact Gp;intro _
  refine dk ?_
  refine dO 5 (by kernel_rfl) (by rw [List.getElem?_toArray];rfl) ?_
  refine Lh (Yv hl3) Dh fun a9 c9 F9=>?_
  refine dk ?_
  refine dt 6 ?_
  refine dO 7 (by kernel_rfl) (by rw [List.getElem?_toArray];rfl) ?_
  apply Cu;rfl;rfl;rfl;(first|exact AggC.s|exact OneC.s);rfl;exact Cw;exact Cv;rfl
  refine Mg ?_
  refine dd ?_
  refine go ?_;intros
  rw [show ((z.i:Nat):Int) - 1=((z.i - 1:Nat):Int) by omega]
  refine Ct ⟨⟨z.y.Ak,z.y.size,z.y.Aj++[l.1]⟩,z.i - 1,a9,c9,F9,l.2⟩ ⟨by show (z.y.Aj++[l.1]).length+(z.i - 1)=r0;rw [List.length_append];simp only [List.length_cons,List.length_nil];omega,hl2.mono (by show _≤B+8+50 * (z.y.Aj++[l.1]).length;rw [List.length_append];simp only [List.length_cons,List.length_nil];omega)⟩ (by show z.i - 1 < _;omega)
 ·have hl7:z.y.Aj.length≤6:=by omega
  refine go ?_;intros
  refine cf (Eb _ g F 24 z.s z3 (by omega) (by omega)) fun p hp=>?_
  refine Ar ?_
  obtain ⟨r,s3⟩:=p
  obtain ⟨-,hp⟩:=hp
  dsimp only at hp ⊢
  refine go ?_;intros
  refine Bf rfl (fun e0=>?_) (fun e0=>?_)
  ·refine go ?_;intros
   refine cf (O7 _ g F s3 hp (by omega)) fun q hq=>?_
   refine Ar ?_
   refine go ?_;intros
   refine Ay (E:=A9) (xs:=z.y.Aj) fun F8=>?_
   refine Cn ⟨q.1,z.y.size,z.y.Aj⟩ ?_
   refine ret ⟨⟨q.1,z.y.size,z.y.Aj⟩,_,_,_,q.2⟩ ⟨by show z.y.Aj.length≤7;omega,hq.mono (by omega)⟩ rfl
  refine go ?_;intros
  refine Bf rfl (fun e1=>?_) (fun e1=>?_)
  ·refine Kx ?_;intros
   refine Dz (xs:=[0,7,6]) (fun w=>Ih w _) ?_ (by decide)
   refine Ay (E:=Bd) fun G=>?_
   refine go ?_;intros
   refine cf (Li _ g F _ [0,7,6] G s3 hp (by omega) (by decide) (by decide)) fun q hq=>?_
   refine Ar ?_
   refine go ?_;intros
   refine Ay (E:=A9) (xs:=z.y.Aj) fun F8=>?_
   refine Cn ⟨z.y.Ak,q.1,z.y.Aj⟩ ?_
   refine ret ⟨⟨z.y.Ak,q.1,z.y.Aj⟩,_,_,_,q.2⟩ ⟨by show z.y.Aj.length≤7;omega,hq.2.mono (by omega)⟩ rfl
  refine go ?_;intros
  refine Bf rfl (fun e2=>?_) (fun e2=>?_)
  ·refine Kx ?_;intros
   refine Aw [1] [8] ?_
   refine dt 0 ?_
   refine dt 1 ?_
   refine dt 2 ?_
   refine dO 3 (by kernel_rfl) (by rw [List.getElem?_toArray];rfl) ?_
   apply Hh;rfl;rfl;rfl;rfl;exact Hb;exact Gp;intro _
   refine Dz (xs:=[⟨#[65]⟩,⟨#[97,98,99,100,101,102,103,104]⟩,⟨#[97,98,99,100,101,102,103,104,105]⟩,⟨#[]⟩]) (fun w=>X7 w _ (by decide)) ?_ (by decide)
   refine Ay (E:=A9) fun G=>?_
   refine dk ?_
   refine dO 4 (by kernel_rfl) (by rw [List.getElem?_toArray];rfl) ?_
   apply At;rfl;kernel_rfl;exact Be
   refine cf (Am9 _ g F _ [⟨#[65]⟩,⟨#[97,98,99,100,101,102,103,104]⟩,⟨#[97,98,99,100,101,102,103,104,105]⟩,⟨#[]⟩] _ s3 hp (by omega) (by decide) (by decide)) fun q2 hq2=>?_
   refine Ar ?_
   have hq3:q2.1.size≤maxLen:=by have:=hq2.1;simp only [List.mem_cons,List.not_mem_nil,or_false] at this;rcases this with e|e|e|e <;> rw [e] <;> decide
   refine dk ?_
   refine dO 5 (by kernel_rfl) (by rw [List.getElem?_toArray];rfl) ?_
   apply Hh;rfl;rfl;rfl;rfl;exact Hb;exact Gp;intro _
   refine dk ?_
   refine dO 6 (by kernel_rfl) (by rw [List.getElem?_toArray];rfl) ?_
   refine Lh (Yv hq3) Dh fun a9 c9 F9=>?_
   refine dk ?_
   refine dt 7 ?_
   refine dO 8 (by kernel_rfl) (by rw [List.getElem?_toArray];rfl) ?_
   apply Cu;rfl;rfl;rfl;(first|exact AggC.s|exact OneC.s);rfl;exact Cw;exact Cv;rfl
   refine Mg ?_
   refine dd ?_
   refine go ?_;intros
   refine Ay (E:=A9) (xs:=z.y.Aj++[q2.1]) fun F8=>?_
   refine Cn ⟨z.y.Ak,z.y.size,z.y.Aj++[q2.1]⟩ ?_
   refine ret ⟨⟨z.y.Ak,z.y.size,z.y.Aj++[q2.1]⟩,_,_,_,q2.2⟩ ⟨by show (z.y.Aj++[q2.1]).length≤7;rw [List.length_append];simp only [List.length_cons,List.length_nil];omega,hq2.2.mono (by omega)⟩ rfl
  refine go ?_;intros
  refine Ay (E:=A9) (xs:=z.y.Aj) fun F8=>?_
  refine Cn z.y ?_
  refine ret ⟨z.y,_,_,_,s3⟩ ⟨by show z.y.Aj.length≤7;omega,hp.mono (by omega)⟩ rfl
theorem Ahj (B g:Nat) (F:Ss) (s:Oi) (x:Ax) (v:Value) (Fx:List Nat) (ok:Hi B s) (hB:B≤800000000000) (hl:x.Aj.length≤1000) :
  Fn prog 111 [Eu g 0 0,v] [.sl Gs (.slice F.a F.Bl.length F.c) F.Bl F.bs,.isv B4 v x Fx] [.row g 70 0 [] [.slice F.a F.Bl.length F.c,.int .i64 (s.k:Nat),.int .u64 s.Dq] []] (fun (z:Int × Oi)=>(-1≤z.1∧z.1≤65536)∧Hi (B+8) z.2) (fun z=>.int .i64 z.1) (fun z=>[.row g 70 0 [] [.slice F.a F.Bl.length F.c,.int .i64 (z.2.k:Nat),.int .u64 z.2.Dq] []]):=by
 refine enter func111 rfl ntmps111 fun w0=>?_
 refine Es ?_
 rintro a1 c1 F1 rfl l1
 refine go ?_;intros
 refine ce (fun w s=>P5 _ _) ?_
 cases g1:Ca x.Ak
 ·refine go ?_;intros
  refine cf (Qg B g F s ok (by omega)) fun z hz=>?_
  refine Ar ?_
  refine go ?_;intros
  refine ret z ⟨hz.1,hz.2.mono (by omega)⟩ rfl
 obtain ⟨n0,n1⟩:=Ba.1 g1
 refine go ?_;intros
 refine cf (Ako B g F 12 s ok (by omega) (by omega)) fun q hq=>?_
 refine Ar ?_
 cases hb:q.1
 ·refine go ?_;intros
  refine Aw [1] [] ?_
  refine dt 0 ?_
  refine dt 1 ?_
  refine dt 2 ?_
  refine dt 3 ?_
  refine dt 4 ?_
  refine dt 5 ?_
  refine dt 6 ?_
  refine dO 7 (by kernel_rfl) (by rw [List.getElem?_toArray];rfl) ?_
  apply At;rfl;kernel_rfl;exact Be
  refine cf (Eb _ g F ((x.Aj.length:Int)+3) q.2 hq.2 (by omega) (by omega)) fun y hy=>?_
  refine Ar ?_
  obtain ⟨hy1,hy2⟩:=hy
  refine dk ?_
  refine dt 8 ?_
  refine dO 9 (by kernel_rfl) (by rw [List.getElem?_toArray];rfl) ?_
  apply At;rfl;kernel_rfl;exact Be
  refine ce (fun w s=>Ez _ _ _ (by omega) (by omega)) ?_
  refine dk ?_
  refine dt 10 ?_
  refine dd ?_
  refine go ?_;intros
  refine ret (_,y.2) ⟨by have:=Hj x.Ak ((y.1:Int) - 1);show -1≤Bn x.Ak ((y.1:Int) - 1)∧Bn x.Ak ((y.1:Int) - 1)≤65536;omega,hy2.mono (by omega)⟩ rfl
 ·refine go ?_;intros
  refine cf (Qg (B+2) g F q.2 hq.2 (by omega)) fun z hz=>?_
  refine Ar ?_
  refine go ?_;intros
  refine ret z hz rfl
structure SwN where
 y:Ax
 a:Option Addr
 c:Nat
 F:List Nat
 n:Int
structure SwT where
 y:Ax
 a:Option Addr
 c:Nat
 F:List Nat
 t:ByteArray
structure SwP where
 y:Ax
 a:Option Addr
 c:Nat
 F:List Nat
 p:As
structure SwJ where
 y:Ax
 a:Option Addr
 c:Nat
 F:List Nat
structure OkD (m:Nat) (y:Ch):Prop where
 t0:0≤y.Aa.Ak
 t1:y.Aa.Ak≤65535
 z0:1≤y.Aa.size
 z6:y.Aa.size≤6
 l:(y.Aa.Aj.length:Int)≤y.Aa.size
 it:∀s∈y.Aa.Aj,s.size≤maxLen
 k0:0≤y.Ai
 km:y.Ai≤m
 q0:0≤y.quiet
 q3:y.quiet≤3
 h:y.holds.length≤m
 w:Ta y.holds
 mm:m≤100
theorem OkD.l6 {m y} (h:OkD m y):y.Aa.Aj.length≤6:=by have:=h.l;have:=h.z6;omega
theorem OkD.k1 {m y} (h:OkD m y):y.Ai≤99999:=by have:=h.km;have:=h.mm;omega
theorem OkD.h1 {m y} (h:OkD m y):y.holds.length≤900:=by have:=h.h;have:=h.mm;omega
theorem Vf (W:Ax) (cl:Int) (hs:List G0):(Fm W cl hs).length≤hs.length:=List.length_filter_le _ _
theorem T2 {W:Ax} {cl:Int} {hs:List G0} (h:Ta hs):Ta (Fm W cl hs):=fun z hz=>h z (List.mem_filter.1 hz).1
theorem Ao5 {W:Ax} {p:As} (h:∀s∈W.Aj,s.size≤maxLen):(Da W p).1.data.size≤maxLen:=by
 unfold Da
 split
 ·rename_i g
  unfold Hx at g
  simp only [Bool.and_eq_true] at g
  have hk:=Uj g.2
  show (Qn W p.Ad).size≤maxLen
  rw [P0 hk]
  exact h _ (List.getElem_mem hk)
 ·decide
theorem Agc {m y} (h:OkD m y) {s:ByteArray} (hs:s.size≤maxLen) (hm:m+1≤100:=by omega):OkD (m+1) (Mo y s):=by
 have hb:=M7 h.t0 h.t1
 have hkl:=Vf (C8 y.Aa s) y.Ai y.holds
 have:=h.km;have:=h.h
 have hr:((Cr y.Aa).Aj.length:Int)+1≤y.Aa.size∧∀x∈(Cr y.Aa).Aj,x.size≤maxLen:=by
  have:=h.l
  unfold Cr
  split
  ·exact ⟨by simp only [List.length_drop];have:=h.z0;omega,fun x hx=>h.it x (List.mem_of_mem_drop hx)⟩
  ·exact ⟨by omega,h.it⟩
 refine ⟨hb.1,hb.2,h.z0,h.z6,?_,?_,h.k0,?_,by show (0:Int)≤0;omega,by show (0:Int)≤3;omega,?_,T2 h.w,hm⟩
 ·show (((Cr y.Aa).Aj++[s]).length:Int)≤y.Aa.size
  simp only [List.length_append,List.length_cons,List.length_nil];omega
 ·intro x hx
  have hx:x∈(Cr y.Aa).Aj++[s]:=hx
  simp only [List.mem_append,List.mem_cons,List.not_mem_nil,or_false] at hx
  rcases hx with hx|rfl
  ·exact hr.2 x hx
  ·exact hs
 ·show y.Ai≤((m+1:Nat):Int);omega
 ·show (Fm _ _ _).length≤m+1;omega
theorem Apr {m y} (h:OkD m y) {n:Int} (hn:-1≤n∧n≤65536) (hm:m+1≤100:=by omega):OkD (m+1) (Kn y n):=by
 have hkl:=Vf y.Aa y.Ai y.holds
 have:=h.km;have:=h.h
 unfold Kn
 split
 ·refine ⟨h.t0,h.t1,h.z0,h.z6,h.l,h.it,h.k0,by show y.Ai≤((m+1:Nat):Int);omega,h.q0,h.q3,?_,?_,hm⟩
  ·show (Iv _ _ _).length≤m+1
   unfold Iv;simp;omega
  ·intro z hz
   have hz:z∈Iv y.holds (Ek y.Aa.Ak y.holds n) ⟨n,y.Ai+3⟩:=hz
   unfold Iv at hz
   simp only [List.mem_append,List.mem_cons] at hz
   rcases hz with hz|rfl|hz
   ·exact h.w z (List.mem_of_mem_take hz)
   ·exact hn
   ·exact h.w z (List.mem_of_mem_drop hz)
 ·exact ⟨h.t0,h.t1,h.z0,h.z6,h.l,h.it,h.k0,by show y.Ai≤((m+1:Nat):Int);omega,h.q0,h.q3,by show (Fm _ _ _).length≤m+1;omega,T2 h.w,hm⟩
theorem Anb {m y} (h:OkD m y) (hm:m+1≤100:=by omega):OkD (m+1) (Kb y):=by
 have hkl:=Vf y.Aa (y.Ai+1) y.holds
 have:=h.km;have:=h.h;have:=h.k0;have:=h.q0;have:=h.q3
 refine ⟨h.t0,h.t1,h.z0,h.z6,h.l,h.it,by show 0≤y.Ai+1;omega,by show y.Ai+1≤((m+1:Nat):Int);omega,?_,?_,by show (Fm _ _ _).length≤m+1;omega,T2 h.w,hm⟩
 ·show 0≤N2 y.quiet;unfold N2;split <;> omega
 ·show N2 y.quiet≤3;unfold N2;split <;> omega
theorem Ams {f z:Int} (h0:0≤f) (h1:f≤65535) (z0:1≤z) (z6:z≤6):Eh f z=(⟨⟨f,z,[]⟩,0,0,[]⟩,true):=by
 have hg:Cd ⟨⟨f,z,[]⟩,0,0,[]⟩=true:=Ej.2 ⟨Dw.2 ⟨⟨h0,h1⟩,⟨z0,z6⟩,by simp;omega,rfl⟩,rfl,rfl,by simp,List.Pairwise.nil⟩
 unfold Eh;rw [hg];rfl
structure SrD where
 y:Ch
 a:Option Addr
 c:Nat
 a2:Option Addr
 c2:Nat
 F:List Nat
 i:Nat
 s:Oi
theorem Alc (B g:Nat) (F:Ss) (s:Oi) (ok:Hi B s) (hB:B≤700000000000) :
  Fn prog 62 [Eu g 0 0] [.sl Gs (.slice F.a F.Bl.length F.c) F.Bl F.bs] [.row g 70 0 [] [.slice F.a F.Bl.length F.c,.int .i64 (s.k:Nat),.int .u64 s.Dq] []] (fun (z:SrD)=>z.y.Aa.Aj.length≤7∧z.y.holds.length≤20∧Hi (B+2000) z.s) (fun s=>.agg #[.int .i64 s.y.Aa.Ak,.int .i64 s.y.Aa.size,.slice s.a s.y.Aa.Aj.length s.c,.int .i64 s.y.Ai,.int .i64 s.y.quiet,.slice s.a2 s.y.holds.length s.c2])
   (fun s=>[.isv Dn (.agg #[.int .i64 s.y.Aa.Ak,.int .i64 s.y.Aa.size,.slice s.a s.y.Aa.Aj.length s.c,.int .i64 s.y.Ai,.int .i64 s.y.quiet,.slice s.a2 s.y.holds.length s.c2]) s.y s.F,.row g 70 0 [] [.slice F.a F.Bl.length F.c,.int .i64 (s.s.k:Nat),.int .u64 s.s.Dq] []]):=by
 refine enter func62 rfl ntmps62 fun w0=>?_
 refine go ?_;intros
 refine cf (Qb B g F s ok (by omega)) fun n hn=>?_
 refine Ar ?_
 obtain ⟨hn1,hn2⟩:=hn
 refine go ?_;intros
 refine cf (Eb (B+4) g F 6 n.2 hn2 (by omega) (by omega)) fun y hy=>?_
 refine Ar ?_
 obtain ⟨r1,s1⟩:=y
 obtain ⟨hy1,hy2⟩:=hy
 dsimp only at hy1 hy2 ⊢
 have hr1:r1≤5:=by omega
 refine go ?_;intros
 refine cf (Re n.1 (1+(r1:Int))) fun F0 _=>?_
 refine Ar ?_
 rw [Ams hn1.1 hn1.2 (by omega) (by omega)]
 refine go ?_;intros
 rename_i gg
 refine cf (Eb _ g F 9 s1 hy2 (by omega) (by omega)) fun y hy=>?_
 refine Ar ?_
 obtain ⟨r0,s2⟩:=y
 obtain ⟨hz1,hz2⟩:=hy
 dsimp only at hz1 hz2 ⊢
 have hr0:r0≤8:=by omega
 refine go ?_;intros
 refine Ck [0,2,3] (fun z:SrD=>[(5,.int .i64 (z.i:Nat))]) (fun z=>[.row gg 34 0 [] [.int .i64 z.y.Aa.Ak,.int .i64 z.y.Aa.size,.slice z.a z.y.Aa.Aj.length z.c,.int .i64 z.y.Ai,.int .i64 z.y.quiet,.slice z.a2 z.y.holds.length z.c2] [],.isv Dn (.agg #[.int .i64 z.y.Aa.Ak,.int .i64 z.y.Aa.size,.slice z.a z.y.Aa.Aj.length z.c,.int .i64 z.y.Ai,.int .i64 z.y.quiet,.slice z.a2 z.y.holds.length z.c2]) z.y z.F,.row g 70 0 [] [.slice F.a F.Bl.length F.c,.int .i64 (z.s.k:Nat),.int .u64 z.s.Dq] []]) (fun z=>OkD (r0 - z.i) z.y∧z.i≤r0∧Hi (B+20+50 * (r0 - z.i)) z.s) (fun z=>z.i) ⟨⟨⟨n.1,1+(r1:Int),[]⟩,0,0,[]⟩,none,0,none,0,F0,r0,s2⟩ ⟨⟨hn1.1,hn1.2,by show (1:Int)≤1+(r1:Int);omega,by show 1+(r1:Int)≤6;omega,by show ((0:Nat):Int)≤1+(r1:Int);omega,by simp,by show (0:Int)≤0;omega,by show (0:Int)≤((r0 - r0:Nat):Int);omega,by show (0:Int)≤0;omega,by show (0:Int)≤3;omega,by simp,by intro z hz;simp at hz,by omega⟩,Nat.le_refl _,hz2.mono (by show _≤B+20+50 * (r0 - r0);omega)⟩ fun z hz=>?_
 obtain ⟨z1,z2,z3⟩:=hz
 refine go ?_;intros
 refine Bf rfl (fun h2=>?_) (fun h2=>?_)
 ·have hi0:0 < z.i:=by omega
  refine go ?_;intros
  refine cf (Eb _ g F 4 z.s z3 (by omega) (by omega)) fun p hp=>?_
  refine Ar ?_
  obtain ⟨r2,s4⟩:=p
  obtain ⟨hr2,z3⟩:=hp
  dsimp only at hr2 z3 ⊢
  have hr4:r2=0∨r2=1∨r2=2∨r2=3:=by omega
  rcases hr4 with rfl|rfl|rfl|rfl
  ·refine go ?_;intros
   refine Aw [1] [5,6,7] ?_
   refine dt 0 ?_
   refine dt 1 ?_
   refine dO 2 (by kernel_rfl) (by rw [List.getElem?_toArray];rfl) ?_
   apply At;rfl;kernel_rfl;exact Be
   refine cf (Of _ g F s4 3 z3 (by omega) (by omega) (by omega)) fun l hl=>?_
   refine Ar ?_
   obtain ⟨hl1,hl2⟩:=hl
   have hl3:l.1.size≤maxLen:=by unfold maxLen;omega
   refine dk ?_
   refine dO 3 (by kernel_rfl) (by rw [List.getElem?_toArray];rfl) ?_
   apply At;rfl;kernel_rfl;exact Be
   refine cf (To z.y l.1 _ z.F z1.t0 z1.t1 z1.l6 z1.z0 (by have:=z1.h1;omega) z1.w hl3) fun q _=>?_
   refine Ar ?_
   refine dk ?_
   refine dt 4 ?_
   refine Pi 5 ?_
   refine Pi 6 ?_
   refine dO 7 (by kernel_rfl) (by rw [List.getElem?_toArray];rfl) ?_
   apply Cu;rfl;rfl;rfl;(first|exact AggC.s|exact OneC.s);rfl;exact Cw;exact Cv;rfl
   refine Mg ?_
   refine dd ?_
   refine go ?_;intros
   rw [show ((z.i:Nat):Int) - 1=((z.i - 1:Nat):Int) by omega]
   refine Ct ⟨Mo z.y l.1,q.a,q.c,q.a2,q.c2,q.F,z.i - 1,l.2⟩ ⟨by rw [show r0 - (z.i - 1)=r0 - z.i+1 by omega];exact Agc z1 hl3,by show z.i - 1≤r0;omega,hl2.mono (by show _≤B+20+50 * (r0 - (z.i - 1));omega)⟩ (by show z.i - 1 < z.i;omega)
  ·refine go ?_;intros
   refine Aw [1] [5,6,7] ?_
   refine dt 0 ?_
   refine dt 1 ?_
   refine dO 2 (by kernel_rfl) (by rw [List.getElem?_toArray];rfl) ?_
   apply At;rfl;kernel_rfl;exact Be
   refine cf (Of _ g F s4 3 z3 (by omega) (by omega) (by omega)) fun l hl=>?_
   refine Ar ?_
   obtain ⟨hl1,hl2⟩:=hl
   have hl3:l.1.size≤maxLen:=by unfold maxLen;omega
   refine dk ?_
   refine dO 3 (by kernel_rfl) (by rw [List.getElem?_toArray];rfl) ?_
   apply At;rfl;kernel_rfl;exact Be
   refine cf (To z.y l.1 _ z.F z1.t0 z1.t1 z1.l6 z1.z0 (by have:=z1.h1;omega) z1.w hl3) fun q _=>?_
   refine Ar ?_
   refine dk ?_
   refine dt 4 ?_
   refine Pi 5 ?_
   refine Pi 6 ?_
   refine dO 7 (by kernel_rfl) (by rw [List.getElem?_toArray];rfl) ?_
   apply Cu;rfl;rfl;rfl;(first|exact AggC.s|exact OneC.s);rfl;exact Cw;exact Cv;rfl
   refine Mg ?_
   refine dd ?_
   refine go ?_;intros
   rw [show ((z.i:Nat):Int) - 1=((z.i - 1:Nat):Int) by omega]
   refine Ct ⟨Mo z.y l.1,q.a,q.c,q.a2,q.c2,q.F,z.i - 1,l.2⟩ ⟨by rw [show r0 - (z.i - 1)=r0 - z.i+1 by omega];exact Agc z1 hl3,by show z.i - 1≤r0;omega,hl2.mono (by show _≤B+20+50 * (r0 - (z.i - 1));omega)⟩ (by show z.i - 1 < z.i;omega)
  ·refine Gj (x:=z.y) (F:=z.F) ?_
   rintro b1 d1 G1 b2 d2 G2 e5 m1 m2
   simp only [Value.agg.injEq,Array.mk.injEq,List.cons.injEq,Value.slice.injEq,Value.int.injEq,true_and,and_true] at e5
   obtain ⟨⟨rfl,rfl⟩, -⟩:=e5
   refine Cn z.y.Aa (a1:=z.a) ?_
   generalize G1=FW
   refine go ?_;intros
   refine Aw [4] [8,9,10] ?_
   refine dt 0 ?_
   refine dt 1 ?_
   refine dt 2 ?_
   refine dt 3 ?_
   refine dO 4 (by kernel_rfl) (by rw [List.getElem?_toArray];rfl) ?_
   apply At;rfl;kernel_rfl;exact Be
   refine cf (Ahj _ g F s4 z.y.Aa _ FW z3 (by omega) (by have:=z1.l6;omega)) fun n hn=>?_
   refine Ar ?_
   obtain ⟨hn1,hn2⟩:=hn
   refine dk ?_
   refine dt 5 ?_
   refine dO 6 (by kernel_rfl) (by rw [List.getElem?_toArray];rfl) ?_
   apply At;rfl;kernel_rfl;exact Be
   refine cf (Sx z.y ⟨3,n.1,0,0,⟨#[]⟩⟩ _ z.F z1.t0 z1.t1 z1.l6 z1.k0 z1.k1 z1.h1 z1.w hn1.1 hn1.2 (by show (⟨#[]⟩:ByteArray).size≤maxLen;decide) (Ao5 z1.it)) fun q _=>?_
   refine Ar ?_
   refine dk ?_
   refine dt 7 ?_
   refine Pi 8 ?_
   refine Pi 9 ?_
   refine dO 10 (by kernel_rfl) (by rw [List.getElem?_toArray];rfl) ?_
   apply Cu;rfl;rfl;rfl;(first|exact AggC.s|exact OneC.s);rfl;exact Cw;exact Cv;rfl
   refine Mg ?_
   refine dd ?_
   refine go ?_;intros
   rw [show ((z.i:Nat):Int) - 1=((z.i - 1:Nat):Int) by omega]
   refine Ct ⟨Kn z.y n.1,q.a,q.c,q.a2,q.c2,q.F,z.i - 1,n.2⟩ ⟨by rw [show r0 - (z.i - 1)=r0 - z.i+1 by omega];exact Apr z1 hn1,by show z.i - 1≤r0;omega,hn2.mono (by show _≤B+20+50 * (r0 - (z.i - 1));omega)⟩ (by show z.i - 1 < z.i;omega)
  ·refine go ?_;intros
   refine cf (Yi z.y _ z.F z1.t0 z1.t1 z1.l6 z1.k0 z1.k1 z1.q0 z1.q3 (by have:=z1.h1;omega) z1.w) fun q _=>?_
   refine Ar ?_
   refine go ?_;intros
   rw [show ((z.i:Nat):Int) - 1=((z.i - 1:Nat):Int) by omega]
   refine Ct ⟨Kb z.y,q.a,q.c,q.a2,q.c2,q.F,z.i - 1,s4⟩ ⟨by rw [show r0 - (z.i - 1)=r0 - z.i+1 by omega];exact Anb z1,by show z.i - 1≤r0;omega,z3.mono (by show _≤B+20+50 * (r0 - (z.i - 1));omega)⟩ (by show z.i - 1 < z.i;omega)
 ·have hl7:=z1.l6
  have hh7:=z1.h
  refine go ?_;intros
  refine cf (Eb _ g F 24 z.s z3 (by omega) (by omega)) fun p hp=>?_
  refine Ar ?_
  obtain ⟨r,s3⟩:=p
  obtain ⟨-,hp⟩:=hp
  dsimp only at hp ⊢
  refine Gj (x:=z.y) (F:=z.F) ?_
  rintro b1 d1 G1 b2 d2 G2 e5 m1 m2
  simp only [Value.agg.injEq,Array.mk.injEq,List.cons.injEq,Value.slice.injEq,Value.int.injEq,true_and,and_true] at e5
  obtain ⟨⟨rfl,rfl⟩,rfl,rfl⟩:=e5
  refine go ?_;intros
  refine Bf rfl (fun e0=>?_) (fun e0=>?_)
  ·refine Kx ?_;intros
   refine Dz (xs:=[-1,9999,10000]) (fun w=>Ih w _) ?_ (by decide)
   refine Ay (E:=Bd) fun G=>?_
   refine go ?_;intros
   refine cf (Li _ g F _ [-1,9999,10000] G s3 hp (by omega) (by decide) (by decide)) fun q hq=>?_
   refine Ar ?_
   refine go ?_;intros
   refine D7 ⟨z.y.Aa,q.1,z.y.quiet,z.y.holds⟩ (a1:=z.a) ?_
   refine ret ⟨⟨z.y.Aa,q.1,z.y.quiet,z.y.holds⟩,_,_,_,_,_,0,q.2⟩ ⟨by show z.y.Aa.Aj.length≤7;omega,by show z.y.holds.length≤20;omega,hq.2.mono (by omega)⟩ rfl
  refine go ?_;intros
  refine Bf rfl (fun e1=>?_) (fun e1=>?_)
  ·refine Kx ?_;intros
   refine Dz (xs:=[-1,3,4]) (fun w=>Ih w _) ?_ (by decide)
   refine Ay (E:=Bd) fun G=>?_
   refine go ?_;intros
   refine cf (Li _ g F _ [-1,3,4] G s3 hp (by omega) (by decide) (by decide)) fun q hq=>?_
   refine Ar ?_
   refine go ?_;intros
   refine D7 ⟨z.y.Aa,z.y.Ai,q.1,z.y.holds⟩ (a1:=z.a) ?_
   refine ret ⟨⟨z.y.Aa,z.y.Ai,q.1,z.y.holds⟩,_,_,_,_,_,0,q.2⟩ ⟨by show z.y.Aa.Aj.length≤7;omega,by show z.y.holds.length≤20;omega,hq.2.mono (by omega)⟩ rfl
  refine go ?_;intros
  refine Bf rfl (fun e2=>?_) (fun e2=>?_)
  ·have hkm:=z1.km
   have hk0:=z1.k0
   refine Kx ?_;intros
   refine Aw [3] [15] ?_
   refine dt 1 ?_
   refine dt 2 ?_
   refine dt 4 ?_
   refine dt 6 ?_
   refine dt 7 ?_
   refine dt 8 ?_
   refine dO 0 (by kernel_rfl) (by rw [List.getElem?_toArray];rfl) ?_
   apply Jk;rfl;intro _
   refine C6 Bh ?_
   refine dk ?_
   refine dO 3 (by kernel_rfl) (by rw [List.getElem?_toArray];rfl) ?_
   refine Ku (ys:=z.y.holds) Hl I8 fun a7 c7 F7=>?_
   rw [List.nil_append]
   refine dk ?_
   refine dO 5 (by kernel_rfl) (by rw [List.getElem?_toArray];rfl) ?_
   apply At;rfl;kernel_rfl;exact Be
   refine cf (O7 _ g F s3 hp (by omega)) fun q hq=>?_
   refine Ar ?_
   refine dk ?_
   refine dO 9 (by kernel_rfl) (by rw [List.getElem?_toArray];rfl) ?_
   apply At;rfl;kernel_rfl;exact Be
   refine cf (Eb _ g F 5 q.2 hq (by omega) (by omega)) fun r hr=>?_
   refine Ar ?_
   obtain ⟨hr1,hr2⟩:=hr
   refine dk ?_
   refine dt 10 ?_
   refine dt 11 ?_
   refine dO 12 (by kernel_rfl) (by rw [List.getElem?_toArray];rfl) ?_
   apply Hh;rfl;rfl;rfl;rfl;exact Hb;exact Gp;intro _
   refine dk ?_
   refine dO 13 (by kernel_rfl) (by rw [List.getElem?_toArray];rfl) ?_
   refine Lh (Qa ⟨q.1,z.y.Ai+(r.1:Nat)⟩) Hl fun a9 c9 F9=>?_
   refine dk ?_
   refine dt 14 ?_
   refine dO 15 (by kernel_rfl) (by rw [List.getElem?_toArray];rfl) ?_
   apply Cu;rfl;rfl;rfl;(first|exact AggC.s|exact OneC.s);rfl;exact Cw;exact Cv;rfl
   refine Mg ?_
   refine dd ?_
   refine go ?_;intros
   refine Ay (E:=Bh) fun F8=>?_
   refine D7 ⟨z.y.Aa,z.y.Ai,z.y.quiet,z.y.holds++[⟨q.1,z.y.Ai+(r.1:Nat)⟩]⟩ (a1:=z.a) ?_
   refine ret ⟨⟨z.y.Aa,z.y.Ai,z.y.quiet,z.y.holds++[⟨q.1,z.y.Ai+(r.1:Nat)⟩]⟩,_,_,_,_,_,0,r.2⟩ ⟨by show z.y.Aa.Aj.length≤7;omega,by show (z.y.holds++[_]).length≤20;simp;omega,hr2.mono (by omega)⟩ rfl
  refine go ?_;intros
  refine Bf rfl (fun e3=>?_) (fun e3=>?_)
  ·refine go ?_;intros
   refine cf (Ab0 _ g F s3 hp (by omega)) fun q hq=>?_
   refine Ar ?_
   obtain ⟨hq1,hq2⟩:=hq
   refine go ?_;intros
   refine Es (x:=q.y) ?_
   rintro b3 d3 G3 e6 m3
   simp only [Value.agg.injEq,Array.mk.injEq,List.cons.injEq,Value.slice.injEq,Value.int.injEq,true_and,and_true] at e6
   obtain ⟨rfl,rfl⟩:=e6
   refine B9 Bh (by decide) ?_
   refine D7 ⟨q.y,0,0,[]⟩ (a1:=q.a) ?_
   refine ret ⟨⟨q.y,0,0,[]⟩,_,_,_,_,_,0,q.s⟩ ⟨by show q.y.Aj.length≤7;omega,by show ([]:List G0).length≤20;simp,hq2.mono (by omega)⟩ rfl
  ·refine go ?_;intros
   refine ret ⟨z.y,z.a,z.c,z.a2,z.c2,z.F,0,s3⟩ ⟨by show z.y.Aa.Aj.length≤7;omega,by show z.y.holds.length≤20;omega,hp.mono (by omega)⟩ rfl
structure OkE (m:Nat) (y:Bt):Prop where
 k0:0≤y.Ai
 k1:y.Ai≤30+m
 l:y.Ah.length≤m
 f:∀x∈y.Ah,x.Bj.length≤m
 mm:m≤100
theorem Akn {m y} (h:OkE m y) (hm:m+1≤100:=by omega):OkE (m+1) (Dx y):=by
 have:=h.k0;have:=h.k1
 have hl:=List.length_filter_le (fun x:Fa=>!decide (x.Cf≤y.Ai+1)) y.Ah
 exact ⟨by show 0≤y.Ai+1;omega,by show y.Ai+1≤30+((m+1:Nat):Int);omega,by show (y.Ah.filter _).length≤_;have:=h.l;omega,fun x hx=>by have:=h.f x (List.mem_filter.1 hx).1;omega,hm⟩
theorem Ana {m y} (h:OkE m y) {n f:Int} (hm:m+1≤100:=by omega):OkE (m+1) (Ks y n f):=by
 have:=h.k0;have:=h.k1;have hl:=h.l
 have hf:∀x∈y.Ah,x.Bj.length≤m+1:=fun x hx=>by have:=h.f x hx;omega
 unfold Ks
 split
 ·rename_i x hx
  refine ⟨h.k0,by show y.Ai≤30+((m+1:Nat):Int);omega,by show (y.Ah.set _ _).length≤m+1;rw [List.length_set];omega,fun z hz=>?_,hm⟩
  rcases List.mem_or_eq_of_mem_set hz with h'|rfl
  ·exact hf z h'
  ·have:=h.f x (List.mem_of_getElem? hx)
   have:=Akr x.Bj f
   show (Nx x.Bj f).length≤m+1
   omega
 ·split
  ·refine ⟨h.k0,by show y.Ai≤30+((m+1:Nat):Int);omega,by show (y.Ah++[_]).length≤m+1;simp;omega,fun z hz=>?_,hm⟩
   rcases List.mem_append.1 hz with h'|h'
   ·exact hf z h'
   ·simp at h';subst h';simp
  ·exact ⟨h.k0,by show y.Ai≤30+((m+1:Nat):Int);omega,by omega,hf,hm⟩
structure ElD where
 y:Bt
 a:Option Addr
 c:Nat
 F:List Nat
 i:Nat
 s:Oi
theorem Ag1 (B g:Nat) (F:Ss) (s:Oi) (ok:Hi B s) (hB:B≤700000000000) :
  Fn prog 64 [Eu g 0 0] [.sl Gs (.slice F.a F.Bl.length F.c) F.Bl F.bs] [.row g 70 0 [] [.slice F.a F.Bl.length F.c,.int .i64 (s.k:Nat),.int .u64 s.Dq] []] (fun (z:ElD)=>z.y.Ah.length≤1000∧Hi (B+2000) z.s) (fun s=>.agg #[.int .i64 s.y.Ai,.slice s.a s.y.Ah.length s.c])
   (fun s=>[.isv Bv (.agg #[.int .i64 s.y.Ai,.slice s.a s.y.Ah.length s.c]) s.y s.F,.row g 70 0 [] [.slice F.a F.Bl.length F.c,.int .i64 (s.s.k:Nat),.int .u64 s.s.Dq] []]):=by
 refine enter func64 rfl ntmps64 fun w0=>?_
 refine go ?_;intros
 refine cf (Eb B g F 30 s ok (by omega) (by omega)) fun y hy=>?_
 refine Ar ?_
 obtain ⟨r1,s1⟩:=y
 obtain ⟨hy1,hy2⟩:=hy
 dsimp only at hy1 hy2 ⊢
 have hr1:r1≤29:=by omega
 refine go ?_;intros
 rename_i gg
 refine cf (Qb _ g F s1 hy2 (by omega)) fun n hn=>?_
 refine Ar ?_
 obtain ⟨hn1,hn2⟩:=hn
 refine go ?_;intros
 refine cf (Eb _ g F 10 n.2 hn2 (by omega) (by omega)) fun y hy=>?_
 refine Ar ?_
 obtain ⟨r0,s2⟩:=y
 obtain ⟨hz1,hz2⟩:=hy
 dsimp only at hz1 hz2 ⊢
 have hr0:r0≤9:=by omega
 refine B9 Dc (by decide) ?_
 refine Ho ⟨(r1:Int),[]⟩ ?_
 refine go ?_;intros
 refine Ck [0,2,3,4] (fun z:ElD=>[(5,.int .i64 (z.i:Nat))]) (fun z=>[.row gg 96 0 [] [.int .i64 z.y.Ai,.slice z.a z.y.Ah.length z.c] [],.isv Bv (.agg #[.int .i64 z.y.Ai,.slice z.a z.y.Ah.length z.c]) z.y z.F,.row g 70 0 [] [.slice F.a F.Bl.length F.c,.int .i64 (z.s.k:Nat),.int .u64 z.s.Dq] []]) (fun z=>OkE (r0 - z.i) z.y∧z.i≤r0∧Hi (B+20+50 * (r0 - z.i)) z.s) (fun z=>z.i) ⟨⟨(r1:Int),[]⟩,none,0,[],r0,s2⟩ ⟨⟨by show (0:Int)≤(r1:Int);omega,by show (r1:Int)≤_;omega,by simp,by simp,by omega⟩,Nat.le_refl _,hz2.mono (by show _≤B+20+50 * (r0 - r0);omega)⟩ fun z hz=>?_
 obtain ⟨z1,z2,z3⟩:=hz
 refine go ?_;intros
 refine Bf rfl (fun h2=>?_) (fun h2=>?_)
 ·have hi0:0 < z.i:=by omega
  refine go ?_;intros
  refine cf (Ako _ g F 5 z.s z3 (by omega) (by omega)) fun p hp=>?_
  refine Ar ?_
  obtain ⟨b4,s4⟩:=p
  obtain ⟨-,z4⟩:=hp
  dsimp only at z4 ⊢
  cases b4
  ·refine go ?_;intros
   refine Aw [1] [10,11,12] ?_
   refine dt 0 ?_
   refine dt 1 ?_
   refine dt 2 ?_
   refine dt 5 ?_
   refine dO 3 (by kernel_rfl) (by rw [List.getElem?_toArray];rfl) ?_
   apply At;rfl;kernel_rfl;exact Be
   refine cf (Eb _ g F 6 s4 z4 (by omega) (by omega)) fun p hp=>?_
   refine Ar ?_
   obtain ⟨p1,p2⟩:=hp
   refine dk ?_
   refine dO 4 (by kernel_rfl) (by rw [List.getElem?_toArray];rfl) ?_
   apply At;rfl;kernel_rfl;exact Be
   refine ce (fun w s=>Ez _ _ _ (by omega) (by omega)) ?_
   refine dk ?_
   refine dO 6 (by kernel_rfl) (by rw [List.getElem?_toArray];rfl) ?_
   apply At;rfl;kernel_rfl;exact Be
   refine cf (Eb _ g F 7 p.2 p2 (by omega) (by omega)) fun q hq=>?_
   refine Ar ?_
   obtain ⟨q1,q2⟩:=hq
   refine dk ?_
   refine dt 7 ?_
   refine dO 8 (by kernel_rfl) (by rw [List.getElem?_toArray];rfl) ?_
   apply At;rfl;kernel_rfl;exact Be
   refine cf (Qp z.y (Bn n.1 (p.1:Nat)) (1+(q.1:Nat)) _ z.F (by have:=z1.l;omega) (fun x hx=>by have:=z1.f x hx;omega) (by have:=z1.k0;omega) (by have:=z1.k1;omega)) fun u _=>?_
   refine Ar ?_
   refine Mq J0 fun F7=>?_
   refine Er (v:=u.1) ?_
   rintro a6 c6 F6 e6 l6
   rw [e6]
   refine dk ?_
   refine dt 9 ?_
   refine Pi 10 ?_
   refine Pi 11 ?_
   refine dO 12 (by kernel_rfl) (by rw [List.getElem?_toArray];rfl) ?_
   apply Cu;rfl;rfl;rfl;(first|exact AggC.s|exact OneC.s);rfl;exact Cw;exact Cv;rfl
   refine Mg ?_
   refine dd ?_
   refine go ?_;intros
   rw [show ((z.i:Nat):Int) - 1=((z.i - 1:Nat):Int) by omega]
   refine Ct ⟨(Ks z.y (Bn n.1 (p.1:Nat)) (1+(q.1:Nat))),a6,c6,F7,z.i - 1,q.2⟩ ⟨by rw [show r0 - (z.i - 1)=r0 - z.i+1 by omega];exact Ana z1,by show z.i - 1≤r0;omega,q2.mono (by show _≤B+20+50 * (r0 - (z.i - 1));omega)⟩ (by show z.i - 1 < z.i;omega)
  ·refine go ?_;intros
   refine cr (fun w st=>Aal _ z.y z.F w (st.get (p:=.isv Bv (.agg #[.int .i64 z.y.Ai,.slice z.a z.y.Ah.length z.c]) z.y z.F) (by simp)) (Lk.2 ⟨z1.k0,by have:=z1.k1;have:=z1.mm;omega⟩) (by have:=z1.l;omega) (fun x hx=>by have:=z1.f x hx;omega)) fun u F7=>?_
   refine Er (v:=u) ?_
   rintro a6 c6 F6 rfl l6
   refine go ?_;intros
   rw [show ((z.i:Nat):Int) - 1=((z.i - 1:Nat):Int) by omega]
   refine Ct ⟨Dx z.y,a6,c6,F7,z.i - 1,s4⟩ ⟨by rw [show r0 - (z.i - 1)=r0 - z.i+1 by omega];exact Akn z1,by show z.i - 1≤r0;omega,z4.mono (by show _≤B+20+50 * (r0 - (z.i - 1));omega)⟩ (by show z.i - 1 < z.i;omega)
 ·have hl7:=z1.l
  refine go ?_;intros
  refine cf (Eb _ g F 24 z.s z3 (by omega) (by omega)) fun p hp=>?_
  refine Ar ?_
  obtain ⟨r,s3⟩:=p
  obtain ⟨-,hp⟩:=hp
  dsimp only at hp ⊢
  refine go ?_;intros
  refine Bf rfl (fun e0=>?_) (fun e0=>?_)
  ·refine Er (x:=z.y) (F:=z.F) ?_
   rintro b1 d1 G1 e5 m1
   simp only [Value.agg.injEq,Array.mk.injEq,List.cons.injEq,Value.slice.injEq,Value.int.injEq,true_and,and_true] at e5
   obtain ⟨rfl,rfl⟩:=e5
   refine Kx ?_;intros
   refine Dz (xs:=[-1,9999,10000]) (fun w=>Ih w _) ?_ (by decide)
   refine Ay (E:=Bd) fun G=>?_
   refine go ?_;intros
   refine cf (Li _ g F _ [-1,9999,10000] G s3 hp (by omega) (by decide) (by decide)) fun q hq=>?_
   refine Ar ?_
   refine go ?_;intros
   refine Ho ⟨q.1,z.y.Ah⟩ ?_
   refine ret ⟨⟨q.1,z.y.Ah⟩,_,_,_,0,q.2⟩ ⟨by show z.y.Ah.length≤1000;omega,hq.2.mono (by omega)⟩ rfl
  refine go ?_;intros
  refine Bf rfl (fun e1=>?_) (fun e1=>?_)
  ·refine Er (x:=z.y) (F:=z.F) ?_
   rintro b1 d1 G1 e5 m1
   simp only [Value.agg.injEq,Array.mk.injEq,List.cons.injEq,Value.slice.injEq,Value.int.injEq,true_and,and_true] at e5
   obtain ⟨rfl,rfl⟩:=e5
   refine Xm Qv (xs:=z.y.Ah) (m:=3) rfl fun ys Fy Gy hyl hym=>?_
   refine Kx ?_;intros
   refine Aw [4] [18] ?_
   refine dt 1 ?_
   refine dt 2 ?_
   refine dt 4 ?_
   refine dt 6 ?_
   refine dt 9 ?_
   refine dt 10 ?_
   refine dt 11 ?_
   refine dO 0 (by kernel_rfl) (by rw [List.getElem?_toArray];rfl) ?_
   apply Jk;rfl;intro _
   refine C6 (EC 3) ?_
   refine dk ?_
   refine dO 3 (by kernel_rfl) (by rw [List.getElem?_toArray];rfl) ?_
   refine Ku (ys:=ys) (Ml 3) (E9 3) (fun a7 c7 F7=>?_) (hn:=hyl.symm) (h63:=by simp only [List.length_nil];omega) (hby:=by simp only [List.length_nil];omega)
   rw [List.nil_append]
   refine dk ?_
   refine dO 5 (by kernel_rfl) (by rw [List.getElem?_toArray];rfl) ?_
   apply At;rfl;kernel_rfl;exact Be
   refine cf (O7 _ g F s3 hp (by omega)) fun q hq=>?_
   refine Ar ?_
   refine dk ?_
   refine dO 7 (by kernel_rfl) (by rw [List.getElem?_toArray];rfl) ?_
   apply At;rfl;kernel_rfl;exact Be
   refine cf (Eb _ g F 9 q.2 hq (by omega) (by omega)) fun r hr=>?_
   refine Ar ?_
   obtain ⟨hr1,hr2⟩:=hr
   refine dk ?_
   refine Ob 8 12 (by kernel_rfl) (by rw [List.getElem?_toArray];rfl) (by rw [List.getElem?_toArray];rfl) ?_ ?_
   ·apply Hh;rfl;rfl;rfl;rfl;exact Hb;exact Gp;intro _
    rename_i gf
    refine Dz (E:=Bd) (xs:=[(r.1:Int)]) (Ma _) ?_ (by simp)
    refine Ay (E:=Bd) fun F10=>?_
    refine dk ?_
    refine dO 12 (by kernel_rfl) (by rw [List.getElem?_toArray];rfl) ?_
    apply At;rfl;kernel_rfl;exact Be
    refine cf (Eb _ g F 9 r.2 hr2 (by omega) (by omega)) fun t ht=>?_
    refine Ar ?_
    obtain ⟨ht1,ht2⟩:=ht
    have hk0:=z1.k0
    have hk1:=z1.k1
    refine dk ?_
    refine dt 13 ?_
    refine dt 14 ?_
    refine dO 15 (by kernel_rfl) (by rw [List.getElem?_toArray];rfl) ?_
    apply Hh;rfl;rfl;rfl;rfl;exact Hb;exact Gp;intro _
    refine Ol ⟨q.1,[(r.1:Int)],z.y.Ai+(t.1:Nat)⟩ ?_
    refine dk ?_
    refine dO 16 (by kernel_rfl) (by rw [List.getElem?_toArray];rfl) ?_
    refine Lh (ys:=[([.int .i64 q.1,.slice (some ⟨gf,0,none⟩) 1 1,.int .i64 (z.y.Ai+(t.1:Nat))]:List Value)]) (Rp (m:=3) (cs:=[.int .i64 q.1,.slice (some ⟨gf,0,none⟩) 1 1,.int .i64 (z.y.Ai+(t.1:Nat))]) rfl (by simp [Value.oneCell'])) (Ml 3) (fun a9 c9 F11=>?_)
    refine dk ?_
    refine dt 17 ?_
    refine dO 18 (by kernel_rfl) (by rw [List.getElem?_toArray];rfl) ?_
    apply Cu;rfl;rfl;rfl;(first|exact AggC.s|exact OneC.s);rfl;exact Cw;exact Cv;rfl
    refine Mg ?_
    refine dd ?_
    refine go ?_;intros
    refine Ay (E:=EC 3) fun F8=>?_
    refine Ad8 (E:=Dc) (x:=⟨q.1,[(r.1:Int)],z.y.Ai+(t.1:Nat)⟩) ?_
    refine Alj (E:=Dc) (c1:=ys.flatten) (c2:=[.int .i64 q.1,.slice (some ⟨gf,0,none⟩) 1 1,.int .i64 (z.y.Ai+(t.1:Nat))]) (x1:=z.y.Ah) (x2:=[⟨q.1,[(r.1:Int)],z.y.Ai+(t.1:Nat)⟩]) rfl rfl ?_
    refine Mp (E:=Dc) (m:=3) (v:=.agg (ys.flatten++([.int .i64 q.1,.slice (some ⟨gf,0,none⟩) 1 1,.int .i64 (z.y.Ai+(t.1:Nat))]:List Value)).toArray) (ys:=ys++[([.int .i64 q.1,.slice (some ⟨gf,0,none⟩) 1 1,.int .i64 (z.y.Ai+(t.1:Nat))]:List Value)]) (xs:=z.y.Ah++[(⟨q.1,[(r.1:Int)],z.y.Ai+(t.1:Nat)⟩:Fa)]) rfl (by simp [hyl]) (by simp) fun F9=>?_
    rw [show (ys++[([.int .i64 q.1,.slice (some ⟨gf,0,none⟩) 1 1,.int .i64 (z.y.Ai+(t.1:Nat))]:List Value)]).length=(z.y.Ah++[(⟨q.1,[(r.1:Int)],z.y.Ai+(t.1:Nat)⟩:Fa)]).length by simp [hyl]]
    refine Ho ⟨z.y.Ai,z.y.Ah++[⟨q.1,[(r.1:Int)],z.y.Ai+(t.1:Nat)⟩]⟩ ?_
    refine ret ⟨⟨z.y.Ai,z.y.Ah++[⟨q.1,[(r.1:Int)],z.y.Ai+(t.1:Nat)⟩]⟩,_,_,_,0,t.2⟩ ⟨by show (z.y.Ah++[_]).length≤1000;simp;omega,ht2.mono (by omega)⟩ rfl
   ·apply At;rfl;kernel_rfl;exact Be
    refine cf (Eb _ g F 9 r.2 hr2 (by omega) (by omega)) fun t ht=>?_
    refine Ar ?_
    obtain ⟨ht1,ht2⟩:=ht
    have hk0:=z1.k0
    have hk1:=z1.k1
    refine dk ?_
    refine dt 13 ?_
    refine dO 8 (by kernel_rfl) (by rw [List.getElem?_toArray];rfl) ?_
    apply Hh;rfl;rfl;rfl;rfl;exact Hb;exact Gp;intro _
    rename_i gf
    refine Dz (E:=Bd) (xs:=[(r.1:Int)]) (Ma _) ?_ (by simp)
    refine Ay (E:=Bd) fun F10=>?_
    refine dk ?_
    refine dt 14 ?_
    refine dO 15 (by kernel_rfl) (by rw [List.getElem?_toArray];rfl) ?_
    apply Hh;rfl;rfl;rfl;rfl;exact Hb;exact Gp;intro _
    refine Ol ⟨q.1,[(r.1:Int)],z.y.Ai+(t.1:Nat)⟩ ?_
    refine dk ?_
    refine dO 16 (by kernel_rfl) (by rw [List.getElem?_toArray];rfl) ?_
    refine Lh (ys:=[([.int .i64 q.1,.slice (some ⟨gf,0,none⟩) 1 1,.int .i64 (z.y.Ai+(t.1:Nat))]:List Value)]) (Rp (m:=3) (cs:=[.int .i64 q.1,.slice (some ⟨gf,0,none⟩) 1 1,.int .i64 (z.y.Ai+(t.1:Nat))]) rfl (by simp [Value.oneCell'])) (Ml 3) (fun a9 c9 F11=>?_)
    refine dk ?_
    refine dt 17 ?_
    refine dO 18 (by kernel_rfl) (by rw [List.getElem?_toArray];rfl) ?_
    apply Cu;rfl;rfl;rfl;(first|exact AggC.s|exact OneC.s);rfl;exact Cw;exact Cv;rfl
    refine Mg ?_
    refine dd ?_
    refine go ?_;intros
    refine Ay (E:=EC 3) fun F8=>?_
    refine Ad8 (E:=Dc) (x:=⟨q.1,[(r.1:Int)],z.y.Ai+(t.1:Nat)⟩) ?_
    refine Alj (E:=Dc) (c1:=ys.flatten) (c2:=[.int .i64 q.1,.slice (some ⟨gf,0,none⟩) 1 1,.int .i64 (z.y.Ai+(t.1:Nat))]) (x1:=z.y.Ah) (x2:=[⟨q.1,[(r.1:Int)],z.y.Ai+(t.1:Nat)⟩]) rfl rfl ?_
    refine Mp (E:=Dc) (m:=3) (v:=.agg (ys.flatten++([.int .i64 q.1,.slice (some ⟨gf,0,none⟩) 1 1,.int .i64 (z.y.Ai+(t.1:Nat))]:List Value)).toArray) (ys:=ys++[([.int .i64 q.1,.slice (some ⟨gf,0,none⟩) 1 1,.int .i64 (z.y.Ai+(t.1:Nat))]:List Value)]) (xs:=z.y.Ah++[(⟨q.1,[(r.1:Int)],z.y.Ai+(t.1:Nat)⟩:Fa)]) rfl (by simp [hyl]) (by simp) fun F9=>?_
    rw [show (ys++[([.int .i64 q.1,.slice (some ⟨gf,0,none⟩) 1 1,.int .i64 (z.y.Ai+(t.1:Nat))]:List Value)]).length=(z.y.Ah++[(⟨q.1,[(r.1:Int)],z.y.Ai+(t.1:Nat)⟩:Fa)]).length by simp [hyl]]
    refine Ho ⟨z.y.Ai,z.y.Ah++[⟨q.1,[(r.1:Int)],z.y.Ai+(t.1:Nat)⟩]⟩ ?_
    refine ret ⟨⟨z.y.Ai,z.y.Ah++[⟨q.1,[(r.1:Int)],z.y.Ai+(t.1:Nat)⟩]⟩,_,_,_,0,t.2⟩ ⟨by show (z.y.Ah++[_]).length≤1000;simp;omega,ht2.mono (by omega)⟩ rfl
  refine go ?_;intros
  refine Bf rfl (fun e2=>?_) (fun e2=>?_)
  ·refine Er (x:=z.y) (F:=z.F) ?_
   rintro b1 d1 G1 e5 m1
   simp only [Value.agg.injEq,Array.mk.injEq,List.cons.injEq,Value.slice.injEq,Value.int.injEq,true_and,and_true] at e5
   obtain ⟨rfl,rfl⟩:=e5
   have hk0:=z1.k0
   have hk1:=z1.k1
   refine Xm Qv (xs:=z.y.Ah) (m:=3) rfl fun ys Fy Gy hyl hym=>?_
   refine Kx ?_;intros
   refine Aw [4] [11] ?_
   refine dt 1 ?_
   refine dt 2 ?_
   refine dt 4 ?_
   refine dt 5 ?_
   refine dt 6 ?_
   refine dt 7 ?_
   refine Ob 0 8 (by kernel_rfl) (by rw [List.getElem?_toArray];rfl) (by rw [List.getElem?_toArray];rfl) ?_ ?_
   ·apply Jk;rfl;intro _
    refine C6 (EC 3) ?_
    refine dk ?_
    refine Ob 3 8 (by kernel_rfl) (by rw [List.getElem?_toArray];rfl) (by rw [List.getElem?_toArray];rfl) ?_ ?_
    ·refine Ku (ys:=ys) (Ml 3) (E9 3) (fun a7 c7 F7=>?_) (hn:=hyl.symm) (h63:=by simp only [List.length_nil];omega) (hby:=by simp only [List.length_nil];omega)
     rw [List.nil_append]
     refine dk ?_
     refine dO 8 (by kernel_rfl) (by rw [List.getElem?_toArray];rfl) ?_
     apply Hh;rfl;rfl;rfl;rfl;exact Hb;exact Gp;intro _
     refine B9 Bd (by decide) ?_
     refine Ol ⟨77,[],z.y.Ai+2⟩ ?_
     refine dk ?_
     refine dO 9 (by kernel_rfl) (by rw [List.getElem?_toArray];rfl) ?_
     refine Lh (ys:=[([.int .i64 77,.slice none 0 0,.int .i64 (z.y.Ai+2)]:List Value)]) (Rp (m:=3) (cs:=[.int .i64 77,.slice none 0 0,.int .i64 (z.y.Ai+2)]) rfl (by simp [Value.oneCell'])) (Ml 3) (fun a9 c9 F11=>?_)
     refine dk ?_
     refine dt 10 ?_
     refine dO 11 (by kernel_rfl) (by rw [List.getElem?_toArray];rfl) ?_
     apply Cu;rfl;rfl;rfl;(first|exact AggC.s|exact OneC.s);rfl;exact Cw;exact Cv;rfl
     refine Mg ?_
     refine dd ?_
     refine go ?_;intros
     refine Ay (E:=EC 3) fun F8=>?_
     refine Ad8 (E:=Dc) (x:=⟨77,[],z.y.Ai+2⟩) ?_
     refine Alj (E:=Dc) (c1:=ys.flatten) (c2:=[.int .i64 77,.slice none 0 0,.int .i64 (z.y.Ai+2)]) (x1:=z.y.Ah) (x2:=[⟨77,[],z.y.Ai+2⟩]) rfl rfl ?_
     refine Mp (E:=Dc) (m:=3) (v:=.agg (ys.flatten++([.int .i64 77,.slice none 0 0,.int .i64 (z.y.Ai+2)]:List Value)).toArray) (ys:=ys++[([.int .i64 77,.slice none 0 0,.int .i64 (z.y.Ai+2)]:List Value)]) (xs:=z.y.Ah++[(⟨77,[],z.y.Ai+2⟩:Fa)]) rfl (by simp [hyl]) (by simp) fun F9=>?_
     rw [show (ys++[([.int .i64 77,.slice none 0 0,.int .i64 (z.y.Ai+2)]:List Value)]).length=(z.y.Ah++[(⟨77,[],z.y.Ai+2⟩:Fa)]).length by simp [hyl]]
     refine Ho ⟨z.y.Ai,z.y.Ah++[⟨77,[],z.y.Ai+2⟩]⟩ ?_
     refine ret ⟨⟨z.y.Ai,z.y.Ah++[⟨77,[],z.y.Ai+2⟩]⟩,_,_,_,0,s3⟩ ⟨by show (z.y.Ah++[_]).length≤1000;simp;omega,hp.mono (by omega)⟩ rfl
    ·apply Hh;rfl;rfl;rfl;rfl;exact Hb;exact Gp;intro _
     refine B9 Bd (by decide) ?_
     refine Ol ⟨77,[],z.y.Ai+2⟩ ?_
     refine dk ?_
     refine dO 3 (by kernel_rfl) (by rw [List.getElem?_toArray];rfl) ?_
     refine Ku (ys:=ys) (Ml 3) (E9 3) (fun a7 c7 F7=>?_) (hn:=hyl.symm) (h63:=by simp only [List.length_nil];omega) (hby:=by simp only [List.length_nil];omega)
     rw [List.nil_append]
     refine dk ?_
     refine dO 9 (by kernel_rfl) (by rw [List.getElem?_toArray];rfl) ?_
     refine Lh (ys:=[([.int .i64 77,.slice none 0 0,.int .i64 (z.y.Ai+2)]:List Value)]) (Rp (m:=3) (cs:=[.int .i64 77,.slice none 0 0,.int .i64 (z.y.Ai+2)]) rfl (by simp [Value.oneCell'])) (Ml 3) (fun a9 c9 F11=>?_)
     refine dk ?_
     refine dt 10 ?_
     refine dO 11 (by kernel_rfl) (by rw [List.getElem?_toArray];rfl) ?_
     apply Cu;rfl;rfl;rfl;(first|exact AggC.s|exact OneC.s);rfl;exact Cw;exact Cv;rfl
     refine Mg ?_
     refine dd ?_
     refine go ?_;intros
     refine Ay (E:=EC 3) fun F8=>?_
     refine Ad8 (E:=Dc) (x:=⟨77,[],z.y.Ai+2⟩) ?_
     refine Alj (E:=Dc) (c1:=ys.flatten) (c2:=[.int .i64 77,.slice none 0 0,.int .i64 (z.y.Ai+2)]) (x1:=z.y.Ah) (x2:=[⟨77,[],z.y.Ai+2⟩]) rfl rfl ?_
     refine Mp (E:=Dc) (m:=3) (v:=.agg (ys.flatten++([.int .i64 77,.slice none 0 0,.int .i64 (z.y.Ai+2)]:List Value)).toArray) (ys:=ys++[([.int .i64 77,.slice none 0 0,.int .i64 (z.y.Ai+2)]:List Value)]) (xs:=z.y.Ah++[(⟨77,[],z.y.Ai+2⟩:Fa)]) rfl (by simp [hyl]) (by simp) fun F9=>?_
     rw [show (ys++[([.int .i64 77,.slice none 0 0,.int .i64 (z.y.Ai+2)]:List Value)]).length=(z.y.Ah++[(⟨77,[],z.y.Ai+2⟩:Fa)]).length by simp [hyl]]
     refine Ho ⟨z.y.Ai,z.y.Ah++[⟨77,[],z.y.Ai+2⟩]⟩ ?_
     refine ret ⟨⟨z.y.Ai,z.y.Ah++[⟨77,[],z.y.Ai+2⟩]⟩,_,_,_,0,s3⟩ ⟨by show (z.y.Ah++[_]).length≤1000;simp;omega,hp.mono (by omega)⟩ rfl
   ·apply Hh;rfl;rfl;rfl;rfl;exact Hb;exact Gp;intro _
    refine B9 Bd (by decide) ?_
    refine Ol ⟨77,[],z.y.Ai+2⟩ ?_
    refine dk ?_
    refine dO 0 (by kernel_rfl) (by rw [List.getElem?_toArray];rfl) ?_
    apply Jk;rfl;intro _
    refine C6 (EC 3) ?_
    refine dk ?_
    refine dO 3 (by kernel_rfl) (by rw [List.getElem?_toArray];rfl) ?_
    refine Ku (ys:=ys) (Ml 3) (E9 3) (fun a7 c7 F7=>?_) (hn:=hyl.symm) (h63:=by simp only [List.length_nil];omega) (hby:=by simp only [List.length_nil];omega)
    rw [List.nil_append]
    refine dk ?_
    refine dO 9 (by kernel_rfl) (by rw [List.getElem?_toArray];rfl) ?_
    refine Lh (ys:=[([.int .i64 77,.slice none 0 0,.int .i64 (z.y.Ai+2)]:List Value)]) (Rp (m:=3) (cs:=[.int .i64 77,.slice none 0 0,.int .i64 (z.y.Ai+2)]) rfl (by simp [Value.oneCell'])) (Ml 3) (fun a9 c9 F11=>?_)
    refine dk ?_
    refine dt 10 ?_
    refine dO 11 (by kernel_rfl) (by rw [List.getElem?_toArray];rfl) ?_
    apply Cu;rfl;rfl;rfl;(first|exact AggC.s|exact OneC.s);rfl;exact Cw;exact Cv;rfl
    refine Mg ?_
    refine dd ?_
    refine go ?_;intros
    refine Ay (E:=EC 3) fun F8=>?_
    refine Ad8 (E:=Dc) (x:=⟨77,[],z.y.Ai+2⟩) ?_
    refine Alj (E:=Dc) (c1:=ys.flatten) (c2:=[.int .i64 77,.slice none 0 0,.int .i64 (z.y.Ai+2)]) (x1:=z.y.Ah) (x2:=[⟨77,[],z.y.Ai+2⟩]) rfl rfl ?_
    refine Mp (E:=Dc) (m:=3) (v:=.agg (ys.flatten++([.int .i64 77,.slice none 0 0,.int .i64 (z.y.Ai+2)]:List Value)).toArray) (ys:=ys++[([.int .i64 77,.slice none 0 0,.int .i64 (z.y.Ai+2)]:List Value)]) (xs:=z.y.Ah++[(⟨77,[],z.y.Ai+2⟩:Fa)]) rfl (by simp [hyl]) (by simp) fun F9=>?_
    rw [show (ys++[([.int .i64 77,.slice none 0 0,.int .i64 (z.y.Ai+2)]:List Value)]).length=(z.y.Ah++[(⟨77,[],z.y.Ai+2⟩:Fa)]).length by simp [hyl]]
    refine Ho ⟨z.y.Ai,z.y.Ah++[⟨77,[],z.y.Ai+2⟩]⟩ ?_
    refine ret ⟨⟨z.y.Ai,z.y.Ah++[⟨77,[],z.y.Ai+2⟩]⟩,_,_,_,0,s3⟩ ⟨by show (z.y.Ah++[_]).length≤1000;simp;omega,hp.mono (by omega)⟩ rfl
  ·refine go ?_;intros
   refine ret ⟨z.y,z.a,z.c,z.F,0,s3⟩ ⟨by show z.y.Ah.length≤1000;omega,hp.mono (by omega)⟩ rfl
structure NtD where
 n:Eg
 cs:List Value
 F:List Nat
 s:Oi
structure NtW where
 n:Eg
 cs:List Value
 F:List Nat
 i:Nat
 s:Oi
structure Ar4 (B:Nat) (z:NtW):Prop where
 g:A8 z.n=true
 i:z.i≤23
 s:Hi (B+400+200 * (23 - z.i)) z.s
theorem Ahc {n:Eg} (h:A8 n=true):2≤n.An.Ac.length∧n.An.Ac.length≤8∧n.down.length≤8∧n.up.length=n.down.length∧n.Af.length=n.An.Ac.length∧n.down.length=n.An.Ac.length:=by
 have hG:=A1.1 h
 have h1:=(Ex hG.t).n0
 have h2:=(Ex hG.t).n1
 obtain ⟨q1,q2,q3,q4⟩:=Bz.1 hG.l
 exact ⟨h1,h2,by omega,by omega,by omega,by omega⟩
theorem Alb {n:Eg} {p:As} (h:∀q∈n.down++n.up,q.length≤6):∀q∈n.down++n.up.set 1 [p],q.length≤6:=fun q hq=>by
 rcases List.mem_append.1 hq with hq|hq
 ·exact h q (List.mem_append_left _ hq)
 ·rcases List.mem_or_eq_of_mem_set hq with hq|rfl
  ·exact h q (List.mem_append_right _ hq)
  ·exact (by decide:1≤6)
theorem Ahd {n:Eg} (h:A8 n=true):∀q∈n.down++n.up,q.length≤6:=fun q hq=>by
 obtain ⟨-, -,e3,e4⟩:=Ky h
 rcases List.mem_append.1 hq with hq|hq
 ·exact (Gk (e3 q hq)).1
 ·exact (Gk (e4 q hq)).1
theorem Ara (B g:Nat) (F:Ss) (s:Oi) (FT:List Nat) (ok:Hi B s) (hB:B≤600000000000) :
  Fn prog 29 [Eu g 0 0] [.sl Gs (.slice F.a F.Bl.length F.c) F.Bl F.bs,Mt FT] [.row g 70 0 [] [.slice F.a F.Bl.length F.c,.int .i64 (s.k:Nat),.int .u64 s.Dq] []] (fun (z:NtD)=>(2≤z.n.An.Ac.length∧z.n.An.Ac.length≤8∧z.n.down.length≤8∧z.n.up.length=z.n.down.length∧∀q∈z.n.down++z.n.up,q.length≤6)∧Hi (B+9000) z.s) (fun z=>.agg z.cs.toArray)
   (fun z=>[.isv Pp (.agg z.cs.toArray) z.n z.F,.row g 70 0 [] [.slice F.a F.Bl.length F.c,.int .i64 (z.s.k:Nat),.int .u64 z.s.Dq] []]):=by
 refine enter func29 rfl ntmps29 fun w0=>?_
 refine go ?_;intros
 refine cf (Afn B g F s ok (by omega)) fun t ht=>?_
 refine Ar ?_
 obtain ⟨ht1,ht2⟩:=ht
 refine go ?_;intros
 refine cf (Qb _ g F t.s ht2 (by omega)) fun m hm=>?_
 refine Ar ?_
 obtain ⟨hm1,hm2⟩:=hm
 refine go ?_;intros
 refine cf (Eb _ g F 6 m.2 hm2 (by omega) (by omega)) fun y hy=>?_
 refine Ar ?_
 obtain ⟨k1,s1⟩:=y
 obtain ⟨r1,h1⟩:=hy
 dsimp only at r1 h1 ⊢
 have r1:k1≤5:=by omega
 refine Kx ?_;intros
 refine Ay (E:=Bd) (xs:=t.l) fun Ft=>?_
 refine M3 ⟨t.l⟩ ?_
 refine go ?_;intros
 refine cf (Ut ⟨t.l⟩ m.1 (1+(k1:Nat)) _ _) fun z _=>?_
 refine Ar ?_
 obtain ⟨en,gn⟩:=Ae5 (t:=⟨t.l⟩) (f:=m.1) (y:=1+(k1:Nat)) ht1 hm1.1 hm1.2 (by omega) (by omega)
 rw [en]
 obtain ⟨cs,F0⟩:=z
 dsimp only
 generalize hN:Mk ⟨t.l⟩ m.1 (1+(k1:Nat))=N at *
 refine Mq Qe fun F0=>?_
 refine Hf (x:=N) ?_
 rintro b01 d01 G01 b02 d02 G02 b03 d03 G03 b04 d04 G04 b05 d05 G05 b06 d06 G06 b07 d07 G07 ev - - - - - - -
 obtain rfl:cs=[.slice b01 N.An.Ac.length d01,.int .i64 N.Ab.Aa.Ak,.int .i64 N.Ab.Aa.size,.slice b02 N.Ab.Aa.Aj.length d02,.int .i64 N.Ab.Ai,.int .i64 N.Ab.quiet,.slice b03 N.Ab.holds.length d03,.slice b04 N.Af.length d04,.slice b05 N.Ae.length d05,.slice b06 N.down.length d06,.slice b07 N.up.length d07]:=by simpa using ev
 clear ev
 refine go ?_;intros
 rename_i g3
 refine cf (Eb _ g F 24 s1 h1 (by omega) (by omega)) fun y hy=>?_
 refine Ar ?_
 obtain ⟨r0,s2⟩:=y
 obtain ⟨hr0,h2⟩:=hy
 dsimp only at hr0 h2 ⊢
 have hr0:r0≤23:=by omega
 refine go ?_;intros
 refine Ck [0,2,3] (fun z:NtW=>[(5,.int .i64 (z.i:Nat))]) (fun z=>[.row g3 39 0 [] z.cs [],.isv Pp (.agg z.cs.toArray) z.n z.F,.row g 70 0 [] [.slice F.a F.Bl.length F.c,.int .i64 (z.s.k:Nat),.int .u64 z.s.Dq] []]) (Ar4 B) (fun z=>z.i) ⟨N,_,_,r0,s2⟩ ⟨gn,hr0,h2.mono (by show _≤B+400+200 * (23 - r0);omega)⟩ fun z hz=>?_
 obtain ⟨x,cs,Fx,zi,zs⟩:=z
 obtain ⟨z1,z2,z4⟩:=hz
 obtain ⟨q2,q8,qd,qu,qe,qt⟩:=Ahc z1
 have qq:=Ahd z1
 dsimp only at z1 z2 z4 q2 q8 qd qu qe qt qq ⊢
 refine Hf (x:=x) ?_
 rintro b1 d1 G1 b2 d2 G2 b3 d3 G3 b4 d4 G4 b5 d5 G5 b6 d6 G6 b7 d7 G7 ev - - - - - - -
 obtain rfl:cs=[.slice b1 x.An.Ac.length d1,.int .i64 x.Ab.Aa.Ak,.int .i64 x.Ab.Aa.size,.slice b2 x.Ab.Aa.Aj.length d2,.int .i64 x.Ab.Ai,.int .i64 x.Ab.quiet,.slice b3 x.Ab.holds.length d3,.slice b4 x.Af.length d4,.slice b5 x.Ae.length d5,.slice b6 x.down.length d6,.slice b7 x.up.length d7]:=by simpa using ev
 clear ev
 refine go ?_;intros
 refine Bf rfl (fun h3=>?_) (fun h3=>?_)
 ·have hi0:0 < zi:=by omega
  refine Kx ?_;intros
  refine Aw [7] [5,6,7,8,10,11,12] ?_
  refine W9 0 ?_
  refine W9 1 ?_
  refine W9 2 ?_
  refine Ob 3 9 (by kernel_rfl) (by rw [List.getElem?_toArray];rfl) (by rw [List.getElem?_toArray];rfl) ?_ ?_
  ·apply At;rfl;kernel_rfl;exact Be
   refine cf (Xk _ g F _ x _ _ (by omega) (by omega) (by omega) (by omega) qq z4 (by omega)) fun t ht=>?_
   refine Ar ?_
   obtain ⟨t1,t2,t3⟩:=ht
   refine dk ?_
   refine Ob 4 9 (by kernel_rfl) (by rw [List.getElem?_toArray];rfl) (by rw [List.getElem?_toArray];rfl) ?_ ?_
   ·apply At;rfl;kernel_rfl;exact Be
    refine cf (Vi x t.t _ _ FT t2 z1 t1) fun y _=>?_
    refine Ar ?_
    obtain ⟨ys,yF,ya,yc,yG⟩:=y
    dsimp only
    refine Hf (x:=(Av x t.t).1) ?_
    rintro e1 f1 K1 e2 f2 K2 e3 f3 K3 e4 f4 K4 e5 f5 K5 e6 f6 K6 e7 f7 K7 ev - - - - - - -
    obtain rfl:ys=[.slice e1 (Av x t.t).1.An.Ac.length f1,.int .i64 (Av x t.t).1.Ab.Aa.Ak,.int .i64 (Av x t.t).1.Ab.Aa.size,.slice e2 (Av x t.t).1.Ab.Aa.Aj.length f2,.int .i64 (Av x t.t).1.Ab.Ai,.int .i64 (Av x t.t).1.Ab.quiet,.slice e3 (Av x t.t).1.Ab.holds.length f3,.slice e4 (Av x t.t).1.Af.length f4,.slice e5 (Av x t.t).1.Ae.length f5,.slice e6 (Av x t.t).1.down.length f6,.slice e7 (Av x t.t).1.up.length f7]:=by simpa using ev
    clear ev
    refine dk ?_
    refine Pi 5 ?_
    refine Pi 6 ?_
    refine Pi 7 ?_
    refine Pi 8 ?_
    refine dO 9 (by kernel_rfl) (by rw [List.getElem?_toArray];rfl) ?_
    apply Co;rfl;intro _
    refine dk ?_
    refine dO 10 (by kernel_rfl) (by rw [List.getElem?_toArray];rfl) ?_
    apply Cu;rfl;rfl;rfl;(first|exact AggC.s|exact OneC.s);rfl;exact Cw;exact Cv;rfl
    refine Mg ?_
    refine Pi 11 ?_
    refine Pi 12 ?_
    refine dd ?_
    rename_i g6
    cases eb:(Av x t.t).2.2
    ·refine go ?_;intros
     rw [show ((zi:Nat):Int) - 1=((zi - 1:Nat):Int) by omega]
     refine Ct ⟨x,_,_,zi - 1,t.s⟩ ⟨z1,by show zi - 1≤23;omega,t3.mono (by show _≤B+400+200 * (23 - (zi - 1));omega)⟩ (by show zi - 1 < zi;omega)
    ·refine go ?_;intros
     rw [show ((zi:Nat):Int) - 1=((zi - 1:Nat):Int) by omega]
     refine Ct ⟨(Av x t.t).1,_,_,zi - 1,t.s⟩ ⟨Q2 eb,by show zi - 1≤23;omega,t3.mono (by show _≤B+400+200 * (23 - (zi - 1));omega)⟩ (by show zi - 1 < zi;omega)
   ·apply Co;rfl;intro _
    refine dk ?_
    refine dO 4 (by kernel_rfl) (by rw [List.getElem?_toArray];rfl) ?_
    apply At;rfl;kernel_rfl;exact Be
    refine cf (Vi x t.t _ _ FT t2 z1 t1) fun y _=>?_
    refine Ar ?_
    obtain ⟨ys,yF,ya,yc,yG⟩:=y
    dsimp only
    refine Hf (x:=(Av x t.t).1) ?_
    rintro e1 f1 K1 e2 f2 K2 e3 f3 K3 e4 f4 K4 e5 f5 K5 e6 f6 K6 e7 f7 K7 ev - - - - - - -
    obtain rfl:ys=[.slice e1 (Av x t.t).1.An.Ac.length f1,.int .i64 (Av x t.t).1.Ab.Aa.Ak,.int .i64 (Av x t.t).1.Ab.Aa.size,.slice e2 (Av x t.t).1.Ab.Aa.Aj.length f2,.int .i64 (Av x t.t).1.Ab.Ai,.int .i64 (Av x t.t).1.Ab.quiet,.slice e3 (Av x t.t).1.Ab.holds.length f3,.slice e4 (Av x t.t).1.Af.length f4,.slice e5 (Av x t.t).1.Ae.length f5,.slice e6 (Av x t.t).1.down.length f6,.slice e7 (Av x t.t).1.up.length f7]:=by simpa using ev
    clear ev
    refine dk ?_
    refine Pi 5 ?_
    refine Pi 6 ?_
    refine Pi 7 ?_
    refine Pi 8 ?_
    refine dO 10 (by kernel_rfl) (by rw [List.getElem?_toArray];rfl) ?_
    apply Cu;rfl;rfl;rfl;(first|exact AggC.s|exact OneC.s);rfl;exact Cw;exact Cv;rfl
    refine Mg ?_
    refine Pi 11 ?_
    refine Pi 12 ?_
    refine dd ?_
    rename_i g6
    cases eb:(Av x t.t).2.2
    ·refine go ?_;intros
     rw [show ((zi:Nat):Int) - 1=((zi - 1:Nat):Int) by omega]
     refine Ct ⟨x,_,_,zi - 1,t.s⟩ ⟨z1,by show zi - 1≤23;omega,t3.mono (by show _≤B+400+200 * (23 - (zi - 1));omega)⟩ (by show zi - 1 < zi;omega)
    ·refine go ?_;intros
     rw [show ((zi:Nat):Int) - 1=((zi - 1:Nat):Int) by omega]
     refine Ct ⟨(Av x t.t).1,_,_,zi - 1,t.s⟩ ⟨Q2 eb,by show zi - 1≤23;omega,t3.mono (by show _≤B+400+200 * (23 - (zi - 1));omega)⟩ (by show zi - 1 < zi;omega)
  ·apply Co;rfl;intro _
   refine dk ?_
   refine dO 3 (by kernel_rfl) (by rw [List.getElem?_toArray];rfl) ?_
   apply At;rfl;kernel_rfl;exact Be
   refine cf (Xk _ g F _ x _ _ (by omega) (by omega) (by omega) (by omega) qq z4 (by omega)) fun t ht=>?_
   refine Ar ?_
   obtain ⟨t1,t2,t3⟩:=ht
   refine dk ?_
   refine dO 4 (by kernel_rfl) (by rw [List.getElem?_toArray];rfl) ?_
   apply At;rfl;kernel_rfl;exact Be
   refine cf (Vi x t.t _ _ FT t2 z1 t1) fun y _=>?_
   refine Ar ?_
   obtain ⟨ys,yF,ya,yc,yG⟩:=y
   dsimp only
   refine Hf (x:=(Av x t.t).1) ?_
   rintro e1 f1 K1 e2 f2 K2 e3 f3 K3 e4 f4 K4 e5 f5 K5 e6 f6 K6 e7 f7 K7 ev - - - - - - -
   obtain rfl:ys=[.slice e1 (Av x t.t).1.An.Ac.length f1,.int .i64 (Av x t.t).1.Ab.Aa.Ak,.int .i64 (Av x t.t).1.Ab.Aa.size,.slice e2 (Av x t.t).1.Ab.Aa.Aj.length f2,.int .i64 (Av x t.t).1.Ab.Ai,.int .i64 (Av x t.t).1.Ab.quiet,.slice e3 (Av x t.t).1.Ab.holds.length f3,.slice e4 (Av x t.t).1.Af.length f4,.slice e5 (Av x t.t).1.Ae.length f5,.slice e6 (Av x t.t).1.down.length f6,.slice e7 (Av x t.t).1.up.length f7]:=by simpa using ev
   clear ev
   refine dk ?_
   refine Pi 5 ?_
   refine Pi 6 ?_
   refine Pi 7 ?_
   refine Pi 8 ?_
   refine dO 10 (by kernel_rfl) (by rw [List.getElem?_toArray];rfl) ?_
   apply Cu;rfl;rfl;rfl;(first|exact AggC.s|exact OneC.s);rfl;exact Cw;exact Cv;rfl
   refine Mg ?_
   refine Pi 11 ?_
   refine Pi 12 ?_
   refine dd ?_
   rename_i g6
   cases eb:(Av x t.t).2.2
   ·refine go ?_;intros
    rw [show ((zi:Nat):Int) - 1=((zi - 1:Nat):Int) by omega]
    refine Ct ⟨x,_,_,zi - 1,t.s⟩ ⟨z1,by show zi - 1≤23;omega,t3.mono (by show _≤B+400+200 * (23 - (zi - 1));omega)⟩ (by show zi - 1 < zi;omega)
   ·refine go ?_;intros
    rw [show ((zi:Nat):Int) - 1=((zi - 1:Nat):Int) by omega]
    refine Ct ⟨(Av x t.t).1,_,_,zi - 1,t.s⟩ ⟨Q2 eb,by show zi - 1≤23;omega,t3.mono (by show _≤B+400+200 * (23 - (zi - 1));omega)⟩ (by show zi - 1 < zi;omega)
 refine go ?_;intros
 refine cf (Eb _ g F 32 zs z4 (by omega) (by omega)) fun y hy=>?_
 refine Ar ?_
 obtain ⟨r6,s6⟩:=y
 obtain ⟨hr6,h6⟩:=hy
 dsimp only at hr6 h6 ⊢
 have hr6:r6≤31:=by omega
 refine go ?_;intros
 refine Bf rfl (fun e0=>?_) (fun e0=>?_)
 ·refine go ?_;intros
  refine cf (Alc _ g F s6 h6 (by omega)) fun y hy=>?_
  refine Ar ?_
  obtain ⟨hy1,hy2,hy3⟩:=hy
  refine Gj (x:=y.y) ?_
  rintro a2 c2 L2 a3 c3 L3 ev - -
  simp only [Value.agg.injEq,Array.mk.injEq,List.cons.injEq,Value.slice.injEq,true_and,and_true] at ev
  obtain ⟨⟨rfl,rfl⟩,rfl,rfl⟩:=ev
  refine go ?_;intros
  refine Jf ⟨x.An,y.y,x.Af,x.Ae,x.down,x.up⟩ (a1:=b1) (a2:=y.a) (a3:=y.a2) (a4:=b4) (a5:=b5) (a6:=b6) (a7:=b7) ?_
  refine ret ⟨⟨x.An,y.y,x.Af,x.Ae,x.down,x.up⟩,_,_,y.s⟩ ⟨⟨q2,q8,qd,qu,qq⟩,hy3.mono (by omega)⟩ rfl
 refine go ?_;intros
 refine Bf rfl (fun e1=>?_) (fun e1=>?_)
 ·refine go ?_;intros
  refine cf (Afn _ g F s6 h6 (by omega)) fun y hy=>?_
  refine Ar ?_
  obtain ⟨hy1,hy2⟩:=hy
  refine Ay (E:=Bd) (xs:=y.l) fun Ft=>?_
  refine go ?_;intros
  refine Jf ⟨⟨y.l⟩,x.Ab,x.Af,x.Ae,x.down,x.up⟩ (a1:=y.a) (a2:=b2) (a3:=b3) (a4:=b4) (a5:=b5) (a6:=b6) (a7:=b7) ?_
  refine ret ⟨⟨⟨y.l⟩,x.Ab,x.Af,x.Ae,x.down,x.up⟩,_,_,y.s⟩ ⟨⟨hy1.n0,hy1.n1,qd,qu,qq⟩,hy2.mono (by omega)⟩ rfl
 refine go ?_;intros
 refine Bf rfl (fun e2=>?_) (fun e2=>?_)
 ·refine Xm (Ane Al (by decide)) (xs:=x.up) (m:=1) rfl fun ys Fy Gy hyl hym=>?_
  refine Kx ?_;intros
  refine C6 (EC 1) ?_
  refine go ?_;intros
  apply wO
  refine Ku (ys:=ys) (Ml 1) (E9 1) (fun a7 c7 F7=>?_) (hn:=hyl.symm) (h63:=by simp only [List.length_nil];omega) (hby:=by simp only [List.length_nil];omega)
  rw [List.nil_append]
  refine go ?_;intros
  have h1u:1 < ys.length:=by omega
  obtain ⟨v9,e9⟩:∃v,ys[1]=[v]:=List.length_eq_one_iff.1 (hym _ (List.getElem_mem h1u))
  refine Nl (E:=EC 1) (xs:=ys) (m:=1) (E9 1) 1 ?_ (by repeat (first|exact .here|apply C1.there)) rfl h1u
  rintro _ gq A cq Bq rfl k2 k3 hH
  obtain ⟨k4, -, -⟩:=k3 w0
  rw [e9] at k4
  subst k4
  dsimp only [List.append]
  refine Kx ?_;intros
  refine Aw [11] [6] ?_
  refine dt 0 ?_
  refine dt 1 ?_
  refine dt 2 ?_
  refine dO 3 (by kernel_rfl) (by rw [List.getElem?_toArray];rfl) ?_
  apply At;rfl;kernel_rfl;exact Be
  refine cf (Acn _ g F s6 h6 (by omega)) fun p hp=>?_
  refine Ar ?_
  obtain ⟨hp1,hp2⟩:=hp
  refine dk ?_
  refine dO 4 (by kernel_rfl) (by rw [List.getElem?_toArray];rfl) ?_
  apply Hh;rfl;rfl;rfl;rfl;exact Hb;exact Gp;intro _
  rename_i gp
  refine Dz (E:=Al) (xs:=[p.1]) (C4 p.1 hp1) ?_ (by simp)
  refine Ay (E:=Al) (xs:=[p.1]) fun Fp=>?_
  refine dk ?_
  refine dt 5 ?_
  refine dO 6 (by kernel_rfl) (by rw [List.getElem?_toArray];rfl) ?_
  apply Cu;rfl;rfl;rfl;(first|exact AggC.s|exact OneC.s);rfl;exact Cw;exact Cv;rfl
  refine Mg ?_
  refine dd ?_
  refine Mr (E:=EC 1) (xs:=ys) [.slice (some ⟨gp,0,none⟩) 1 1] hH (fun w=>⟨rfl,⟨rfl,by simp [Value.oneCell']⟩,rfl⟩) ?_
  refine Tw (E:=Al) (x:=[p.1]) (by decide) ?_
  refine M8 (E:=Ly Al (by decide)) (ys:=ys) (xs:=x.up) (x:=[p.1]) 1 rfl hym (by omega) fun G'=>?_
  refine Ay (E:=EC 1) (xs:=ys.set 1 [.slice (some ⟨gp,0,none⟩) 1 1]) fun F8=>?_
  refine Mp (E:=Ly Al (by decide)) (m:=1) (ys:=ys.set 1 [.slice (some ⟨gp,0,none⟩) 1 1]) (xs:=x.up.set 1 [p.1]) rfl (by simp [hyl]) rfl fun F9=>?_
  rw [show ys.length=(x.up.set 1 [p.1]).length by simp [hyl]]
  refine go ?_;intros
  refine Jf ⟨x.An,x.Ab,x.Af,x.Ae,x.down,x.up.set 1 [p.1]⟩ (a1:=b1) (a2:=b2) (a3:=b3) (a4:=b4) (a5:=b5) (a6:=b6) ?_
  refine ret ⟨⟨x.An,x.Ab,x.Af,x.Ae,x.down,x.up.set 1 [p.1]⟩,_,_,p.2⟩ ⟨⟨q2,q8,qd,by show (x.up.set 1 [p.1]).length=x.down.length;rw [List.length_set];exact qu,Alb qq⟩,hp2.mono (by omega)⟩ rfl
 refine go ?_;intros
 refine Bf rfl (fun e3=>?_) (fun e3=>?_)
 ·refine Xm Abu (xs:=x.Af) (m:=2) rfl fun ys Fy Gy hyl hym=>?_
  refine Kx ?_;intros
  refine C6 (EC 2) ?_
  refine go ?_;intros
  apply wO
  refine Ku (ys:=ys) (Ml 2) (E9 2) (fun a7 c7 F7=>?_) (hn:=hyl.symm) (h63:=by simp only [List.length_nil];omega) (hby:=by simp only [List.length_nil];omega)
  rw [List.nil_append]
  refine go ?_;intros
  have h1u:1 < ys.length:=by omega
  obtain ⟨v9,u9,e9⟩:∃v u,ys[1]=[v,u]:=by
   have h2:=hym _ (List.getElem_mem h1u)
   match hY:ys[1],h2 with
   | [v,u],_=>exact ⟨v,u,rfl⟩
  refine Nl (E:=EC 2) (xs:=ys) (m:=2) (E9 2) 1 ?_ (by repeat (first|exact .here|apply C1.there)) rfl h1u
  rintro _ gq A cq Bq rfl k2 k3 hH
  obtain ⟨k4, -, -⟩:=k3 w0
  rw [e9] at k4
  subst k4
  dsimp only [List.append]
  refine Kx ?_;intros
  refine Aw [11] [5] ?_
  refine dt 0 ?_
  refine dt 1 ?_
  refine dt 2 ?_
  refine dO 3 (by kernel_rfl) (by rw [List.getElem?_toArray];rfl) ?_
  apply At;rfl;kernel_rfl;exact Be
  refine cf (Ag1 _ g F s6 h6 (by omega)) fun p hp=>?_
  refine Ar ?_
  obtain ⟨hp1,hp2⟩:=hp
  refine dk ?_
  refine dt 4 ?_
  refine dO 5 (by kernel_rfl) (by rw [List.getElem?_toArray];rfl) ?_
  apply Cu;rfl;rfl;rfl;(first|exact AggC.s|exact OneC.s);rfl;exact Cw;exact Cv;rfl
  refine Mg ?_
  refine dd ?_
  refine Mr (E:=EC 2) (xs:=ys) [.int .i64 p.y.Ai,.slice p.a p.y.Ah.length p.c] hH (fun w=>⟨rfl,⟨rfl,by simp [Value.oneCell']⟩,rfl⟩) ?_
  refine M8 (E:=Bv) (ys:=ys) (xs:=x.Af) (x:=p.y) 1 rfl hym (by omega) fun G'=>?_
  refine Ay (E:=EC 2) (xs:=ys.set 1 [.int .i64 p.y.Ai,.slice p.a p.y.Ah.length p.c]) fun F8=>?_
  refine Mp (E:=Bv) (m:=2) (ys:=ys.set 1 [.int .i64 p.y.Ai,.slice p.a p.y.Ah.length p.c]) (xs:=x.Af.set 1 p.y) rfl (by simp [hyl]) rfl fun F9=>?_
  rw [show ys.length=(x.Af.set 1 p.y).length by simp [hyl]]
  refine go ?_;intros
  refine Jf ⟨x.An,x.Ab,x.Af.set 1 p.y,x.Ae,x.down,x.up⟩ (a1:=b1) (a2:=b2) (a3:=b3) (a5:=b5) (a6:=b6) (a7:=b7) ?_
  refine ret ⟨⟨x.An,x.Ab,x.Af.set 1 p.y,x.Ae,x.down,x.up⟩,_,_,p.s⟩ ⟨⟨q2,q8,qd,qu,qq⟩,hp2.mono (by omega)⟩ rfl
 refine go ?_;intros
 refine Jf x (a1:=b1) (a2:=b2) (a3:=b3) (a4:=b4) (a5:=b5) (a6:=b6) (a7:=b7) ?_
 refine ret ⟨x,_,_,s6⟩ ⟨⟨q2,q8,qd,qu,qq⟩,h6.mono (by omega)⟩ rfl
structure Asb (B:Nat) (z:TrD):Prop where
 a:2≤z.l.length
 b:z.l.length≤9
 s:Hi (B+110+10 * z.l.length) z.s
theorem Agx (B g:Nat) (F:Ss) (s:Oi) (ok:Hi B s) (hB:B≤600000000000) :
  Fn prog 20 [Eu g 0 0] [.sl Gs (.slice F.a F.Bl.length F.c) F.Bl F.bs] [.row g 70 0 [] [.slice F.a F.Bl.length F.c,.int .i64 (s.k:Nat),.int .u64 s.Dq] []] (fun (z:TrD)=>z.l.length≤9∧Hi (B+300) z.s) (fun z=>.agg #[.slice z.a z.l.length z.c])
   (fun z=>[.ow Bd 3 (.slice z.a z.l.length z.c) z.l z.F,.row g 70 0 [] [.slice F.a F.Bl.length F.c,.int .i64 (z.s.k:Nat),.int .u64 z.s.Dq] []]):=by
 refine enter func20 rfl ntmps20 fun w0=>?_
 refine go ?_;intros
 refine cf (Afn B g F s ok (by omega)) fun t ht=>?_
 refine Ar ?_
 obtain ⟨ht1,ht2⟩:=ht
 have n0:=ht1.n0
 have n1:=ht1.n1
 refine go ?_;intros
 refine cf (Eb _ g F 24 t.s ht2 (by omega) (by omega)) fun y hy=>?_
 refine Ar ?_
 obtain ⟨r6,s6⟩:=y
 obtain ⟨hr6,h6⟩:=hy
 dsimp only at hr6 h6 ⊢
 have hr6:r6≤23:=by omega
 refine Agj (E:=Bd) (xs:=t.l) (n:=t.l.length) fun tc1 tc2=>?_
 refine go ?_;intros
 refine Bf rfl (fun e0=>?_) (fun e0=>?_)
 ·refine Kx ?_;intros
  refine Aw [1] [6] ?_
  refine dt 0 ?_
  refine dt 1 ?_
  refine dt 2 ?_
  refine dO 3 (by kernel_rfl) (by rw [List.getElem?_toArray];rfl) ?_
  apply At;rfl;kernel_rfl;exact Be
  refine cf (Eb _ g F 2 s6 h6 (by omega) (by omega)) fun y hy=>?_
  refine Ar ?_
  obtain ⟨k4,s4⟩:=y
  obtain ⟨r4,h4⟩:=hy
  dsimp only at r4 h4 ⊢
  have r4:k4≤1:=by omega
  refine dk ?_
  refine dt 4 ?_ (hy:=Lq (i:=k4) rfl rfl rfl (by omega) (by omega))
  refine Za (xs:=t.l) k4 fun F5=>?_
  obtain ⟨L,hL,hLl⟩:∃L,L=t.l.take k4∧L.length=k4:=⟨_,rfl,by rw [List.length_take];omega⟩
  rw [←hL,←hLl]
  refine dt 5 ?_
  refine dO 6 (by kernel_rfl) (by rw [List.getElem?_toArray];rfl) ?_
  apply Cu;rfl;rfl;rfl;(first|exact AggC.s|exact OneC.s);rfl;exact Cw;exact Cv;rfl
  refine Mg ?_
  refine dd ?_
  refine go ?_;intros
  refine ret ⟨L,t.a,t.c,_,0,s4⟩ ⟨by show L.length≤9;omega,h4.mono (by omega)⟩ rfl
 refine go ?_;intros
 refine Bf rfl (fun e1=>?_) (fun e1=>?_)
 ·refine Nl (m:=1) Dl (xs:=t.l) 0 ?_ (by repeat (first|exact .here|apply C1.there)) rfl (by omega)
  rintro _ gq A cq Bq e2 - k3 hH
  rw [e2]
  obtain ⟨rfl, -⟩:=k3 w0
  refine go ?_;intros
  refine Mr (E:=Bd) (xs:=t.l) 0 hH (fun w=>⟨rfl,rfl⟩) ?_
  rw [show t.l.length=(t.l.set 0 0).length by rw [List.length_set]]
  refine go ?_;intros
  refine ret ⟨t.l.set 0 0,_,t.c,_,0,s6⟩ ⟨by show (t.l.set 0 0).length≤9;rw [List.length_set];omega,h6.mono (by omega)⟩ rfl
 refine go ?_;intros
 refine Bf rfl (fun e2=>?_) (fun e2=>?_)
 ·refine go ?_;intros
  refine cf (Eb _ g F (t.l.length - 1) s6 h6 (by omega) (by omega)) fun y hy=>?_
  refine Ar ?_
  obtain ⟨k8,s8⟩:=y
  obtain ⟨r8,h8⟩:=hy
  dsimp only at r8 h8 ⊢
  have r8:k8≤7:=by omega
  refine go ?_;intros
  rw [show (1:Int)+(k8:Nat)=((1+k8:Nat):Int) by omega]
  refine Nl (m:=1) Dl (xs:=t.l) (1+k8) ?_ (by repeat (first|exact .here|apply C1.there)) rfl (by omega)
  rintro _ gq A cq Bq e2 - k3 hH
  rw [e2]
  obtain ⟨rfl, -⟩:=k3 w0
  refine Kx ?_;intros
  refine Aw [2] [] ?_
  refine dt 0 ?_
  refine dt 1 ?_
  refine dt 2 ?_
  refine dt 3 ?_
  refine dt 4 ?_
  refine dt 5 ?_
  refine dt 6 ?_
  refine dO 7 (by kernel_rfl) (by rw [List.getElem?_toArray];rfl) ?_
  apply Hh;rfl;rfl;rfl;rfl;exact Hb;exact Gp;intro _
  refine Dz (xs:=[((1+k8:Nat):Int), -1,((1+k8:Nat):Int) - 1,9]) (fun w=>Ih w _) ?_ (by simp)
  refine Ay (E:=Bd) fun G=>?_
  refine dk ?_
  refine dO 8 (by kernel_rfl) (by rw [List.getElem?_toArray];rfl) ?_
  apply At;rfl;kernel_rfl;exact Be
  refine cf (Li _ g F _ [((1+k8:Nat):Int), -1,((1+k8:Nat):Int) - 1,9] G s8 h8 (by omega) (by simp) (by simp)) fun q hq=>?_
  refine Ar ?_
  refine dk ?_
  refine dt 9 ?_
  refine dO 10 (by kernel_rfl) (by rw [List.getElem?_toArray];rfl) ?_
  apply Cu;rfl;rfl;rfl;(first|exact AggC.s|exact OneC.s);rfl;exact Cw;exact Cv;rfl
  refine dk ?_
  refine dd ?_
  refine Mr (E:=Bd) (xs:=t.l) q.1 hH (fun w=>⟨rfl,rfl⟩) ?_
  rw [show t.l.length=(t.l.set (1+k8) q.1).length by rw [List.length_set]]
  refine go ?_;intros
  refine ret ⟨t.l.set (1+k8) q.1,_,t.c,_,0,q.2⟩ ⟨by show (t.l.set (1+k8) q.1).length≤9;rw [List.length_set];omega,hq.2.mono (by omega)⟩ rfl
 refine go ?_;intros
 refine Bf rfl (fun e3=>?_) (fun e3=>?_)
 ·refine go ?_;intros
  rename_i g3 g2
  refine Ck [0,2,3] (fun _:TrD=>[]) (fun z=>[.row g3 26 0 [] [.slice z.a z.l.length z.c] [],.ow Bd 3 (.slice z.a z.l.length z.c) z.l z.F,.row g 70 0 [] [.slice F.a F.Bl.length F.c,.int .i64 (z.s.k:Nat),.int .u64 z.s.Dq] []]) (Asb B) (fun z=>9 - z.l.length) ⟨t.l,_,_,_,0,s6⟩ ⟨n0,by show t.l.length≤9;omega,h6.mono (by show _≤B+110+10 * t.l.length;omega)⟩ fun z hz=>?_
  obtain ⟨z1,z2,z3⟩:=hz
  refine Kx ?_;intros
  refine Aw [0,1] [] ?_
  refine dt 0 ?_
  refine dt 1 ?_
  refine dt 2 ?_
  refine dt 3 ?_
  refine dO 4 (by kernel_rfl) (by rw [List.getElem?_toArray];rfl) ?_
  apply At;rfl;kernel_rfl;exact Be
  refine cf (Eb _ g F 2 z.s z3 (by omega) (by omega)) fun y hy=>?_
  refine Ar ?_
  obtain ⟨k5,s5⟩:=y
  obtain ⟨r5,h5⟩:=hy
  dsimp only at r5 h5 ⊢
  have r5:k5≤1:=by omega
  refine dk ?_
  refine dt 5 ?_
  refine dt 6 ?_
  refine dd ?_
  refine go ?_;intros
  refine Bf rfl (fun h7=>?_) (fun h7=>?_)
  ·refine go ?_;intros
   apply wO
   refine Lh (Ma _) Db fun a9 c9 F9=>?_
   refine go ?_;intros
   refine Ct ⟨z.l++[1],a9,c9,F9,0,s5⟩ ⟨by show 2≤(z.l++[_]).length;simp;omega,by show (z.l++[_]).length≤9;simp;omega,h5.mono (by show _≤B+110+10 * (z.l++[_]).length;simp;omega)⟩ (by show 9 - (z.l++[_]).length < 9 - z.l.length;simp;omega)
  ·refine go ?_;intros
   refine ret ⟨z.l,z.a,z.c,_,0,s5⟩ ⟨by omega,h5.mono (by omega)⟩ rfl
 ·refine go ?_;intros
  refine ret ⟨t.l,t.a,t.c,_,0,s6⟩ ⟨by show t.l.length≤9;omega,h6.mono (by omega)⟩ rfl
structure NwD where
 l:List Int
 a:Option Addr
 c:Nat
 F:List Nat
 f:Int
 y:Int
theorem Aeh (v:Value) (Bl:List Int) (G:List Nat):Fn prog 6 [v] [.sl Gs v Bl G] [] (fun (z:NwD)=>z.l.length≤9) (fun z=>.tuple #[.agg #[.slice z.a z.l.length z.c],.int .i64 z.f,.int .i64 z.y]) (fun z=>[.isv O5 (.agg #[.slice z.a z.l.length z.c]) ⟨z.l⟩ z.F]):=by
 refine enter func6 rfl ntmps6 fun w0=>?_
 refine Wy (E:=Gs) ?_
 rintro a c rfl l1 l2
 refine go ?_;intros
 rename_i gc
 refine cf (Agx 0 _ ⟨Bl,a,c,G⟩ ⟨0,0⟩ ⟨Nat.le_refl _,by decide,by decide⟩ (by omega)) fun z hz=>?_
 refine Ar ?_
 obtain ⟨hz1,hz2⟩:=hz
 refine Ay (E:=Bd) (xs:=z.l) fun Ft=>?_
 refine M3 ⟨z.l⟩ ?_
 refine go ?_;intros
 refine cf (O7 _ gc ⟨Bl,a,c,G⟩ z.s hz2 (by omega)) fun m hm=>?_
 refine Ar ?_
 refine Kx ?_;intros
 refine Dz (xs:=[1,3,6,7,0]) (fun w=>Ih w _) ?_ (by decide)
 refine Ay (E:=Bd) (xs:=[1,3,6,7,0]) fun Gx=>?_
 refine go ?_;intros
 refine cf (Li _ gc ⟨Bl,a,c,G⟩ _ [1,3,6,7,0] Gx m.2 hm (by omega) (by decide) (by decide)) fun q hq=>?_
 refine Ar ?_
 refine go ?_;intros
 refine ret ⟨z.l,_,_,_,m.1,q.1⟩ hz1 rfl
structure NtT where
 n:Eg
 cs:List Value
 F:List Nat
 t:I4
structure RnT where
 n:Eg
 cs:List Value
 Fn:List Nat
 l:List I4
 a:Option Addr
 c:Nat
 F:List Nat
structure RnD where
 l:List I4
 a:Option Addr
 c:Nat
 F:List Nat
 i:Nat
 s:Oi
structure RnA (z:RnD):Prop where
 i:z.i≤7
 l:z.l.length+z.i≤7
 s:Hi (9100+300 * (7 - z.i)) z.s
structure RnB (z:RnD):Prop where
 i:z.i≤32
 l:z.l.length≤8+z.i
 s:Hi (12000+10 * z.i) z.s
theorem Aei (v:Value) (Bl:List Int) (G FT:List Nat):Fn prog 9 [v] [.sl Gs v Bl G,Mt FT] [] (fun (z:RnT)=>z.l.length≤1000∧∀q∈z.n.down++z.n.up,q.length≤6) (fun z=>.tuple #[.agg z.cs.toArray,.slice z.a z.l.length z.c]) (fun z=>[.isv Pp (.agg z.cs.toArray) z.n z.Fn,.sl Ri (.slice z.a z.l.length z.c) z.l z.F]):=by
 refine enter func9 rfl ntmps9 fun w0=>?_
 refine Wy (E:=Gs) ?_
 rintro a c rfl l1 l2
 refine go ?_;intros
 rename_i gc
 refine cf (Ara 0 _ ⟨Bl,a,c,G⟩ ⟨0,0⟩ FT ⟨Nat.le_refl _,by decide,by decide⟩ (by omega)) fun z hz=>?_
 refine Ar ?_
 obtain ⟨⟨q2,q8,qd,qu,qq⟩,hz2⟩:=hz
 obtain ⟨x,cs,Fx,zs⟩:=z
 dsimp only at q2 q8 qd qu qq hz2 ⊢
 refine Hf (x:=x) ?_
 rintro b1 d1 G1 b2 d2 G2 b3 d3 G3 b4 d4 G4 b5 d5 G5 b6 d6 G6 b7 d7 G7 ev - - - - - - -
 obtain rfl:cs=[.slice b1 x.An.Ac.length d1,.int .i64 x.Ab.Aa.Ak,.int .i64 x.Ab.Aa.size,.slice b2 x.Ab.Aa.Aj.length d2,.int .i64 x.Ab.Ai,.int .i64 x.Ab.quiet,.slice b3 x.Ab.holds.length d3,.slice b4 x.Af.length d4,.slice b5 x.Ae.length d5,.slice b6 x.down.length d6,.slice b7 x.up.length d7]:=by simpa using ev
 clear ev
 refine Kx ?_;intros
 refine C6 Ri ?_
 refine go ?_;intros
 refine cf (Eb _ _ ⟨Bl,a,c,G⟩ 8 zs hz2 (by omega) (by omega)) fun y hy=>?_
 refine Ar ?_
 obtain ⟨r0,s2⟩:=y
 obtain ⟨hr0,h2⟩:=hy
 dsimp only at hr0 h2 ⊢
 have hr0:r0≤7:=by omega
 refine go ?_;intros
 refine Ck [2,3,4,5] (fun z:RnD=>[(6,.slice z.a z.l.length z.c),(7,.int .i64 (z.i:Nat))]) (fun z=>[.ow Ri 48 (.slice z.a z.l.length z.c) z.l z.F,.row gc 70 0 [] [.slice a Bl.length c,.int .i64 (z.s.k:Nat),.int .u64 z.s.Dq] []]) RnA (fun z=>z.i) ⟨[],_,_,_,r0,s2⟩ ⟨hr0,by show 0+r0≤7;omega,h2.mono (by show _≤9100+300 * (7 - r0);omega)⟩ fun z hz=>?_
 obtain ⟨z1,z2,z3⟩:=hz
 refine go ?_;intros
 refine Bf rfl (fun h3=>?_) (fun h3=>?_)
 ·have hi0:0 < z.i:=by omega
  refine go ?_;intros
  refine cf (Xk _ _ ⟨Bl,a,c,G⟩ z.s x _ Fx q2 q8 qd qu qq z3 (by omega)) fun t ht=>?_
  refine Ar ?_
  obtain ⟨t1,t2,t3⟩:=ht
  refine go ?_;intros
  apply wO
  refine Lh (X6 t.t t2) Vo fun a9 c9 F9=>?_
  refine go ?_;intros
  rw [show ((z.i:Nat):Int) - 1=((z.i - 1:Nat):Int) by omega]
  refine Ct ⟨z.l++[t.t],a9,c9,F9,z.i - 1,t.s⟩ ⟨by show z.i - 1≤7;omega,by show (z.l++[_]).length+(z.i - 1)≤7;simp;omega,t3.mono (by show _≤9100+300 * (7 - (z.i - 1));omega)⟩ (by show z.i - 1 < z.i;omega)
 refine go ?_;intros
 refine cf (Eb _ _ ⟨Bl,a,c,G⟩ 24 z.s z3 (by omega) (by omega)) fun y hy=>?_
 refine Ar ?_
 obtain ⟨r6,s6⟩:=y
 obtain ⟨hr6,h6⟩:=hy
 dsimp only at hr6 h6 ⊢
 have hr6:r6≤23:=by omega
 refine go ?_;intros
 refine Bf rfl (fun e0=>?_) (fun e0=>?_)
 ·refine go ?_;intros
  refine cf (Agw _ _ ⟨Bl,a,c,G⟩ s6 x _ Fx q2 q8 qd qu qq h6 (by omega)) fun t ht=>?_
  refine Ar ?_
  obtain ⟨t2,t3⟩:=ht
  refine go ?_;intros
  apply wO
  refine Lh (X6 t.t t2) Vo fun a9 c9 F9=>?_
  refine go ?_;intros
  refine Ay (E:=Ri) (xs:=z.l++[t.t]) fun Fs=>?_
  refine ret ⟨x,_,Fx,z.l++[t.t],a9,c9,Fs⟩ ⟨by show (z.l++[_]).length≤1000;simp;omega,qq⟩ rfl
 refine go ?_;intros
 refine Bf rfl (fun e1=>?_) (fun e1=>?_)
 ·refine go ?_;intros
  refine Ck [2,3,4,5] (fun z:RnD=>[(6,.slice z.a z.l.length z.c),(8,.int .i64 (z.i:Nat))]) (fun z=>[.ow Ri 48 (.slice z.a z.l.length z.c) z.l z.F,.row gc 70 0 [] [.slice a Bl.length c,.int .i64 (z.s.k:Nat),.int .u64 z.s.Dq] []]) RnB (fun z=>32 - z.i) ⟨z.l,z.a,z.c,_,0,s6⟩ ⟨by show 0≤32;omega,by show z.l.length≤8+0;omega,h6.mono (by show _≤12000+10 * 0;omega)⟩ fun z hz=>?_
  obtain ⟨z1,z2,z3⟩:=hz
  refine go ?_;intros
  refine cf (Eb _ _ ⟨Bl,a,c,G⟩ 2 z.s z3 (by omega) (by omega)) fun y hy=>?_
  refine Ar ?_
  obtain ⟨r5,s5⟩:=y
  obtain ⟨hr5,h5⟩:=hy
  dsimp only at hr5 h5 ⊢
  have hr5:r5≤1:=by omega
  refine go ?_;intros
  refine Ee rfl rfl (fun g1=>?_) (fun g1=>?_)
  ·refine go ?_;intros
   refine Bf rfl (fun g2=>?_) (fun g2=>?_)
   ·refine go ?_;intros
    apply wO
    refine Lh (X6 ⟨4,0,⟨#[]⟩⟩ (Nat.zero_le _)) Vo fun a9 c9 F9=>?_
    refine go ?_;intros
    rw [show ((z.i:Nat):Int)+1=((z.i+1:Nat):Int) by omega]
    refine Ct ⟨z.l++[⟨4,0,⟨#[]⟩⟩],a9,c9,F9,z.i+1,s5⟩ ⟨by show z.i+1≤32;omega,by show (z.l++[_]).length≤8+(z.i+1);simp;omega,h5.mono (by show _≤12000+10 * (z.i+1);omega)⟩ (by show 32 - (z.i+1) < 32 - z.i;omega)
   ·refine go ?_;intros
    refine Ay (E:=Ri) (xs:=z.l) fun Fs=>?_
    refine ret ⟨x,_,Fx,z.l,z.a,z.c,Fs⟩ ⟨by show z.l.length≤1000;omega,qq⟩ rfl
  ·refine go ?_;intros
   refine Ay (E:=Ri) (xs:=z.l) fun Fs=>?_
   refine ret ⟨x,_,Fx,z.l,z.a,z.c,Fs⟩ ⟨by show z.l.length≤1000;omega,qq⟩ rfl
 ·refine go ?_;intros
  refine Ay (E:=Ri) (xs:=z.l) fun Fs=>?_
  refine ret ⟨x,_,Fx,z.l,z.a,z.c,Fs⟩ ⟨by show z.l.length≤1000;omega,qq⟩ rfl
end Go.Proofs.YtbmlecejkacpnaaGreatDoor
