/- Part 3 of the proof: 14 texts, one behind the other. -/
import Derived.BigQuiet
import Derived.Deep.RegionLaw
import Derived.Test.YtaemjogbahcbcaaGreatDoorM2
open _root_.Go.Proofs.Tryz
set_option maxRecDepth 100000
set_option maxHeartbeats 8000000
set_option linter.all false
set_option linter.unusedVariables false
set_option linter.unusedSimpArgs false
namespace Go.Proofs.YtaemjogbahcbcaaGreatDoor
open Go.RowKit
theorem I0 {p:Prop} (h:p:=by first|omega|(simp only [List.length_append,List.length_take,List.length_drop,List.length_cons,List.length_nil,List.length_set,List.length_replicate];omega)):p:=h
def EC (m:Nat):Bv (List Value) where
 sz:=m
 Ka _ cs x F:=cs=x∧(x.length=m∧∀u∈x,u.oneCell'=true)∧F=[]
 len h:=by obtain ⟨rfl,⟨h,_⟩,_⟩:=h;exact h
 lt h:=by obtain ⟨_,_,rfl⟩:=h;simp
 frame h _:=h
theorem Ga (m:Nat):U1 (EC m):=fun h=>h.2.2
theorem M6 (m:Nat):W0 (EC m):=fun h=>by obtain ⟨rfl,⟨_,h⟩,_⟩:=h;exact h
theorem Aca {m:Nat} {w:World}:∀{ys:List (List Value)} {cs:List Value} {F:List Nat},Cw (EC m) w cs ys F→cs=ys.flatten∧F=[]∧∀y∈ys,y.length=m
 | [],_,_,h=>⟨h.1,h.2,by simp⟩
 | y::r,_,_,h=>by
  obtain ⟨c1,c2,F1,F2,rfl,rfl,⟨rfl,⟨h1,_⟩,rfl⟩,h2⟩:=h
  obtain ⟨rfl,rfl,h4⟩:=Aca h2
  refine ⟨by simp,rfl,fun z hz=>?_⟩
  rcases List.mem_cons.1 hz with rfl|hz
  ·exact h1
  ·exact h4 z hz
theorem Acb {α:Type} {E:Bv α} {w w':World} (one:W0 E):∀{xs:List α} {cs:List Value} {G:List Nat},Cw E w cs xs G→∃ys:List (List Value),ys.length=xs.length∧cs=ys.flatten∧(∀y∈ys,y.length=E.sz)∧Cw (EC E.sz) w' cs ys []
 | [],_,_,h=>⟨[],rfl,h.1,by simp,h.1,rfl⟩
 | x::r,_,_,h=>by
  obtain ⟨c1,c2,F1,F2,rfl,rfl,h1,h2⟩:=h
  obtain ⟨ys,e1,rfl,e2,h3⟩:=Acb (w':=w') one h2
  refine ⟨c1::ys,by simp [e1],by simp,fun z hz=>?_,c1,ys.flatten,[],[],rfl,rfl,⟨rfl,⟨E.len h1,one h1⟩,rfl⟩,h3⟩
  rcases List.mem_cons.1 hz with rfl|hz
  ·exact E.len h1
  ·exact e2 z hz
theorem Ady {m:Nat}:∀{ys:List (List Value)},(∀y∈ys,y.length=m)→ys.flatten.length=ys.length * m
 | [],_=>by simp
 | y::r,h=>by
  have:=Ady (m:=m) (ys:=r) fun z hz=>h z (by simp [hz])
  rw [List.flatten_cons,List.length_append,this,h y (by simp),List.length_cons,Nat.add_mul];omega
theorem Cw.cut {α:Type} {E:Bv α} {w:World} {c1 c2:List Value} {x1 x2:List α} {G:List Nat} (h:Cw E w (c1++c2) (x1++x2) G) (hl:c1.length=x1.length * E.sz):∃G1 G2,G=G1++G2∧Cw E w c1 x1 G1∧Cw E w c2 x2 G2:=by
 obtain ⟨d1,d2,G1,G2,he,hG,h1,h2⟩:=h.split
 have:d1.length=c1.length:=by rw [h1.len,hl]
 obtain ⟨rfl,rfl⟩:=List.append_inj he this.symm
 exact ⟨G1,G2,hG,h1,h2⟩
theorem Amm:∀{N:List Pc},(fp N).Nodup→Px N
 | [],_=>trivial
 | p::N,h=>⟨fun q hq _ b hb hqb=>Ea h hb (Oj.2 ⟨q,hq,hqb⟩),Amm (List.nodup_append.1 h).2.1⟩
theorem St.swap {G D w0 H M N R w} (s:St G D w0 H w) (hM:Fc H M R) (hm:∀p∈M,p.mu=true) (hN:Nf N w) (hnd:(fp M).Nodup→(fp N).Nodup) (hF:∀b∈fp N,b∈fp M):St G D w0 (N++R) w :=
 have s1:St G D w0 (M++R) w:=by simpa using hM.st (X:=[]) (by simpa using s)
 have sM:Px M:=by
  have:∀(M:List Pc),Px (M++R)→Px M:=by
   intro M
   induction M with
   | nil=>intro _;trivial
   | cons p M ih=>intro h;exact ⟨fun q hq=>h.1 q (by simp [hq]),ih h.2⟩
  exact this M s1.Zr
 have hn:(fp M).Nodup:=Agw (by simpa using hm) (fun p hp=>s1.on p (by simp [hp])) sM
 St.turn (M:=M) (N:=N) s1 (Dy.refl _ w) hN (Amm (hnd hn)) fun p hp b hb=>by
  obtain ⟨q,hq,hqb⟩:=Oj.1 (hF b (Oj.2 ⟨p,hp,hb⟩))
  exact .inr (.inl ⟨q,hq,hm q hq,hqb⟩)
section
variable {c:Cx} {fr:Fr} {H:List Pc} {Φ:Gl}
theorem Wt {α:Type} {E:Bv α} (one:W0 E) {t:TypeId} {v:Value} {xs:List α} {F:List Nat} {S:List Pc} {m:Nat} (hm:E.sz=m)
  (h:∀(ys:List (List Value)) F0 G,ys.length=xs.length→(∀y∈ys,y.length=m)→T c fr (.ow (EC m) t v ys F0::.flat E ys.flatten xs G::S) Φ) (hp:C0 H (.ow E t v xs F) S:=by exact D0):T c fr H Φ:=.mk fun a w s g=>by
 subst hm
 have s1:=s.pick hp
 obtain ⟨hnd,ho⟩:=s1.on (.ow E t v xs F) (by simp)
 rcases ho with ⟨rfl,rfl,rfl⟩|⟨b,cap,cs,rest,G,rfl,h2,h3,h4,h5,h6,rfl⟩
 ·refine (h [] [] [] rfl (by simp)).h a w (s1.swap (M:=[_]) (N:=[.ow (EC E.sz) t (.slice none 0 0) [] [],.flat E [] [] []]) (.cons .here .nil) (by intro p hp;simp at hp;subst hp;rfl) ?_ (fun _=>by simp [fp,Pc.F]) (by simp [fp,Pc.F])) g
  intro p hp
  simp only [List.mem_cons,List.not_mem_nil,or_false] at hp
  rcases hp with rfl|rfl
  ·exact ⟨by simp,.inl ⟨rfl,rfl,rfl⟩⟩
  ·exact ⟨by simp,rfl,rfl⟩
 ·obtain ⟨ys,e1,rfl,e2,h7⟩:=Acb (w':=w) one h6
  refine (h ys [b] G e1 e2).h a w (s1.swap (M:=[_]) (N:=[.ow (EC E.sz) t (.slice (some ⟨b,0,none⟩) xs.length cap) ys [b],.flat E ys.flatten xs G]) (.cons .here .nil) (by intro p hp;simp at hp;subst hp;rfl) ?_ (fun hn=>by simpa [fp,Pc.F] using hn) (by simp [fp,Pc.F])) g
  intro p hp
  simp only [List.mem_cons,List.not_mem_nil,or_false] at hp
  rcases hp with rfl|rfl
  ·exact ⟨by simp,.inr ⟨b,cap,ys.flatten,rest,[],by rw [e1],h2,by rw [e1];exact h3,h4,h5,h7,rfl⟩⟩
  ·exact ⟨(List.nodup_cons.1 hnd).2,h6⟩
theorem Amu {α:Type} {E:Bv α} {t:TypeId} {a:Option Addr} {n cp:Nat} {ys:List (List Value)} {cs:List Value} {xs:List α} {F G:List Nat} {S S2:List Pc} {m:Nat}
  (h:T c fr (.ow E t (.slice a n cp) xs (F++G)::S2) Φ) (hm:E.sz=m) (hc:cs=ys.flatten) (hl:ys.length=xs.length) (hp:C0 H (.ow (EC m) t (.slice a n cp) ys F) S:=by exact D0) (hp2:C0 S (.flat E cs xs G) S2:=by exact D0):T c fr H Φ:=.mk fun ac w s g=>by
 subst hm hc
 have a1:=s.on _ hp.mem
 have a2:=s.on _ (hp.sub _ hp2.mem)
 obtain ⟨nd1,o1⟩:=a1
 obtain ⟨nd2,f2⟩:=a2
 refine h.h ac w (s.swap (M:=[.ow (EC E.sz) t (.slice a n cp) ys F,.flat E ys.flatten xs G]) (N:=[.ow E t (.slice a n cp) xs (F++G)]) (.cons hp (.cons hp2 .nil)) (by intro p hp;simp at hp;rcases hp with rfl|rfl <;> rfl) ?_ (fun hn=>by simpa [fp,Pc.F] using hn) (by simp [fp,Pc.F])) g
 have hnd:(F++G).Nodup:=by
  have s2:=s.pick hp
  refine List.nodup_append.2 ⟨nd1,nd2,fun b hb b' hb' e=>?_⟩
  subst e
  exact s2.Zr.1 (.flat E ys.flatten xs G) hp2.mem rfl b hb hb'
 intro p hp
 simp only [List.mem_cons,List.not_mem_nil,or_false] at hp
 subst hp
 refine ⟨hnd,?_⟩
 rcases o1 with ⟨h1,rfl,rfl⟩|⟨b,cap,cs,rest,G',h1,h2,h3,h4,h5,h6,rfl⟩
 ·cases h1
  have:xs=[]:=List.eq_nil_of_length_eq_zero hl.symm
  subst this
  exact .inl ⟨rfl,rfl,by simpa using f2.2⟩
 ·cases h1
  obtain ⟨rfl,rfl, -⟩:=Aca h6
  exact .inr ⟨b,cp,ys.flatten,rest,G,by rw [hl],h2,by rw [←hl];exact h3,h4,h5,f2,rfl⟩
theorem Amw {α:Type} {E:Bv α} {ys:List (List Value)} {xs:List α} {G:List Nat} {S:List Pc} (i:Nat) (hi:i < xs.length) (hl:ys.length=xs.length) (hm:∀y∈ys,y.length=E.sz)
  (h:∀G1 Gi G2,T c fr (.flat E (ys.take i).flatten (xs.take i) G1::.own E (.agg (ys[i]'(by omega)).toArray) xs[i] Gi::.flat E (ys.drop (i+1)).flatten (xs.drop (i+1)) G2::S) Φ) (hp:C0 H (.flat E ys.flatten xs G) S:=by exact D0):T c fr H Φ:=.mk fun ac w s g=>by
 have s1:=s.pick hp
 obtain ⟨hnd,hf⟩:=s1.on (.flat E ys.flatten xs G) (by simp)
 have e1:ys.flatten=(ys.take i).flatten++(ys[i]'(by omega)++(ys.drop (i+1)).flatten):=by
  rw [←List.flatten_cons,←List.drop_eq_getElem_cons,←List.flatten_append,List.take_append_drop]
 have e2:xs=xs.take i++([xs[i]]++xs.drop (i+1)):=by simp
 have hf2:Cw E w ((ys.take i).flatten++(ys[i]'(by omega)++(ys.drop (i+1)).flatten)) (xs.take i++([xs[i]]++xs.drop (i+1))) G:=by rw [←e1,←e2];exact hf
 obtain ⟨G1,G',rfl,f1,f2⟩:=hf2.cut (by rw [Ady (m:=E.sz) fun y hy=>hm y (List.mem_of_mem_take hy)];simp [hl])
 obtain ⟨Gi,G2,rfl,⟨d1,d2,F1,F2,h1,h2,h3,h4⟩,f3⟩:=f2.cut (by rw [hm _ (List.getElem_mem _)];simp)
 obtain ⟨rfl,rfl⟩:=h4
 simp only [List.append_nil] at h1 h2
 subst h1 h2
 refine (h G1 Gi G2).h ac w (s1.swap (M:=[_]) (N:=[.flat E (ys.take i).flatten (xs.take i) G1,.own E (.agg (ys[i]'(by omega)).toArray) xs[i] Gi,.flat E (ys.drop (i+1)).flatten (xs.drop (i+1)) G2]) (.cons .here .nil) (by intro p hp;simp at hp;subst hp;rfl) ?_ (fun hn=>by simpa [fp,Pc.F] using hn) (by simp [fp,Pc.F])) g
 have hn1:=List.nodup_append.1 hnd
 have hn2:=List.nodup_append.1 hn1.2.1
 intro p hp
 simp only [List.mem_cons,List.not_mem_nil,or_false] at hp
 rcases hp with rfl|rfl|rfl
 ·exact ⟨hn1.1,f1⟩
 ·exact ⟨hn2.1,_,rfl,h3⟩
 ·exact ⟨hn2.2.1,f3⟩
theorem Ahi {α:Type} {E:Bv α} {c1 c2:List Value} {x1 x2:List α} {G1 G2:List Nat} {S S2:List Pc} (h:T c fr (.flat E (c1++c2) (x1++x2) (G1++G2)::S2) Φ) (hp:C0 H (.flat E c1 x1 G1) S:=by exact D0) (hp2:C0 S (.flat E c2 x2 G2) S2:=by exact D0):T c fr H Φ:=.mk fun ac w s g=>by
 obtain ⟨nd1,f1⟩:=s.on _ hp.mem
 obtain ⟨nd2,f2⟩:=s.on _ (hp.sub _ hp2.mem)
 refine h.h ac w (s.swap (M:=[.flat E c1 x1 G1,.flat E c2 x2 G2]) (N:=[.flat E (c1++c2) (x1++x2) (G1++G2)]) (.cons hp (.cons hp2 .nil)) (by intro p hp;simp at hp;rcases hp with rfl|rfl <;> rfl) ?_ (fun hn=>by simpa [fp,Pc.F] using hn) (by simp [fp,Pc.F])) g
 intro p hq
 simp only [List.mem_cons,List.not_mem_nil,or_false] at hq
 subst hq
 refine ⟨List.nodup_append.2 ⟨nd1,nd2,fun b hb b' hb' e=>?_⟩,f1.append f2⟩
 subst e
 exact (s.pick hp).Zr.1 (.flat E c2 x2 G2) hp2.mem rfl b hb hb'
def Apn {α:Type} (E:Bv α) (t:TypeId) (g:Nat) (v:Value) (xs:List α) (i:Nat) (A B c1 c2:List Value):Prop :=
 ∀w cs y G1 Gi G2,Hm w g t (A++cs++B)→Cw E w c1 (xs.take i) G1→E.Ka w cs y Gi→Cw E w c2 (xs.drop (i+1)) G2→Ow E t w v (xs.set i y) (g::(G1++Gi++G2))
theorem V5 {α:Type} {E:Bv α} {t:TypeId} {a:Option Addr} {n cp m:Nat} {xs:List α} {F:List Nat} {S:List Pc} (i:Nat)
  (h:∀(_:i < xs.length) g A cs B c1 c2 G1 Gi G2,a=some ⟨g,0,none⟩→n=xs.length→n≤cp→Apn E t g (.slice (some ⟨g,0,none⟩) n cp) xs i A B c1 c2→T c fr (.row g t (0+i * m) A cs B::.own E (.agg cs.toArray) xs[i] Gi::.flat E c1 (xs.take i) G1::.flat E c2 (xs.drop (i+1)) G2::S) Φ)
  (hm:E.sz=m) (hi:i < xs.length) (hp:C0 H (.ow E t (.slice a n cp) xs F) S:=by exact D0):T c fr H Φ:=.mk fun ac w s ag=>by
 subst hm
 have s1:=s.pick hp
 obtain ⟨hnd,ho⟩:=s1.on (.ow E t (.slice a n cp) xs F) (by simp)
 rcases ho with ⟨-,rfl, -⟩|⟨g,cap,cs0,rest,G,h1,h2,h3,h4,h5,h6,rfl⟩
 ·simp at hi
 cases h1
 obtain ⟨A,cs,B,G1,Gi,G2,rfl,rfl,hA,hc,f1,f2,f3⟩:=h6.focus i hi
 refine (h hi g A cs (B++rest) A B G1 Gi G2 rfl rfl h3 ?_).h ac w (s1.swap (M:=[_]) (N:=[.row g t (0+i * E.sz) A cs (B++rest),.own E (.agg cs.toArray) xs[i] Gi,.flat E A (xs.take i) G1,.flat E B (xs.drop (i+1)) G2]) (.cons .here .nil) (by intro p hp;simp at hp;subst hp;rfl) ?_ (fun hn=>?_) (fun b hb=>?_)) ag
 ·intro w' cs' y G1' Gi' G2' hr k1 k2 k3
  have:=Cw.build hi k1 k2 k3
  have hl:=this.len
  exact .inr ⟨g,cp,A++cs'++B,rest,G1'++Gi'++G2',by simp,by simpa using hr,by simpa using h3,h4,by
   have e1:=E.len k2
   simp only [List.length_append] at h5 ⊢
   omega,this,rfl⟩
 ·have hn1:=List.nodup_append.1 (List.nodup_cons.1 hnd).2
  have hn2:=List.nodup_append.1 hn1.1
  intro p hp
  simp only [List.mem_cons,List.not_mem_nil,or_false] at hp
  rcases hp with rfl|rfl|rfl|rfl
  ·exact ⟨by omega,by simpa using h2⟩
  ·exact ⟨hn2.2.1,_,rfl,f2⟩
  ·exact ⟨hn2.1,f1⟩
  ·exact ⟨hn1.2.1,f3⟩
 ·have:(g::(G1++Gi++G2)).Perm ([g]++(Gi++(G1++(G2++[])))):=by
   simp only [List.singleton_append,List.append_nil,List.append_assoc]
   refine List.Perm.cons _ ?_
   rw [←List.append_assoc,←List.append_assoc]
   exact (List.perm_append_comm).append_right _
  exact this.nodup_iff.1 (by simpa [fp,Pc.F] using hn)
 ·simp only [fp,Pc.F,List.append_nil,List.mem_append,List.mem_cons,List.not_mem_nil,or_false] at hb ⊢
  grind
theorem Rw {α:Type} {E:Bv α} {t:TypeId} {g o i:Nat} {u v:Value} {xs:List α} {A cs B c1 c2:List Value} {x1 x2:List α} {G1 Gi G2:List Nat} {S1 S2 S3 S4:List Pc} (y:α) (hh:Apn E t g u xs i A B c1 c2) (hv:v=.agg cs.toArray) (h:∀F',T c fr (.ow E t u (xs.set i y) F'::S4) Φ) (e1:x1=xs.take i:=by rfl) (e2:x2=xs.drop (i+1):=by rfl)
  (hp1:C0 H (.row g t o A cs B) S1:=by exact D0) (hp2:C0 S1 (.own E v y Gi) S2:=by exact D0) (hp3:C0 S2 (.flat E c1 x1 G1) S3:=by exact D0) (hp4:C0 S3 (.flat E c2 x2 G2) S4:=by exact D0):T c fr H Φ:=.mk fun ac w s ag=>by
 subst hv e1 e2
 have hP:Fc H [.row g t o A cs B,.own E (.agg cs.toArray) y Gi,.flat E c1 (xs.take i) G1,.flat E c2 (xs.drop (i+1)) G2] S4:=.cons hp1 (.cons hp2 (.cons hp3 (.cons hp4 .nil)))
 have s1:St c.G c.D c.w0 ([.row g t o A cs B,.own E (.agg cs.toArray) y Gi,.flat E c1 (xs.take i) G1,.flat E c2 (xs.drop (i+1)) G2]++S4) w:=by simpa using hP.st (X:=[]) (by simpa using s)
 obtain ⟨-,r⟩:=s1.on (.row g t o A cs B) (by simp)
 obtain ⟨-,cs',e,hr⟩:=s1.on (.own E (.agg cs.toArray) y Gi) (by simp)
 obtain rfl:cs=cs':=by simpa using e
 have f1:=(s1.on (.flat E c1 (xs.take i) G1) (by simp)).2
 have f3:=(s1.on (.flat E c2 (xs.drop (i+1)) G2) (by simp)).2
 have hO:=hh w cs y G1 Gi G2 r f1 hr f3
 have hpm:(g::(G1++Gi++G2)).Perm ([g]++(Gi++(G1++(G2++[])))):=by
  simp only [List.singleton_append,List.append_nil,List.append_assoc]
  refine List.Perm.cons _ ?_
  rw [←List.append_assoc,←List.append_assoc]
  exact (List.perm_append_comm).append_right _
 have hmM:∀p∈[Pc.row g t o A cs B,.own E (.agg cs.toArray) y Gi,.flat E c1 (xs.take i) G1,.flat E c2 (xs.drop (i+1)) G2],p.mu=true:=by intro p hp;simp only [List.mem_cons,List.not_mem_nil,or_false] at hp;rcases hp with rfl|rfl|rfl|rfl <;> rfl
 have hndM:(fp [Pc.row g t o A cs B,.own E (.agg cs.toArray) y Gi,.flat E c1 (xs.take i) G1,.flat E c2 (xs.drop (i+1)) G2]).Nodup:=Agw (by simpa using hmM) (fun p hp=>s1.on p (List.mem_append_left _ hp)) (by
  have sp:=s1.Zr
  exact ⟨fun q hq=>sp.1 q (List.mem_append_left _ hq),fun q hq=>sp.2.1 q (List.mem_append_left _ hq),fun q hq=>sp.2.2.1 q (List.mem_append_left _ hq),fun q hq=>sp.2.2.2.1 q (List.mem_append_left _ hq),trivial⟩)
 have hnd:(g::(G1++Gi++G2)).Nodup:=hpm.nodup_iff.2 (by simpa [fp,Pc.F] using hndM)
 refine (h (g::(G1++Gi++G2))).h ac w (s.swap hP hmM (N:=[.ow E t u (xs.set i y) (g::(G1++Gi++G2))]) (by intro p hp;rw [List.mem_singleton] at hp;subst hp;exact ⟨hnd,hO⟩) (fun _=>by simpa [fp,Pc.F] using hnd) (fun b hb=>?_)) ag
 simp only [fp,Pc.F,List.append_nil,List.mem_append,List.mem_cons,List.not_mem_nil,or_false] at hb ⊢
 grind
theorem Ab3 {α:Type} {E:Bv α} {t e m b:Nat} {z:Value} [hS:SlC c.P t e m] [hE:ElT c.P e z m b] {xs:List α} {F Fy:List Nat} {g tt:Nat} {cs:List Value} {u:Value} {R R2 S:List Pc} {d:Nat} {ty:TypeId} {v:Value} {x y:Operand} (one:W0 E) (ey:α) (hu:u=.agg cs.toArray)
  (h:∀a' c' F',T c ((d,.slice a' (xs++[ey]).length c')::fr) (.ow E e (.slice a' (xs++[ey]).length c') (xs++[ey]) F'::S) Φ)
  (hx:ev fr x=some v:=by rfl) (hy:ev fr y=some (.slice (some ⟨g,0,none⟩) 1 1):=by rfl) (hp:C0 H (.ow E e v xs F) R:=by exact D0) (hp2:C0 R (.row g tt 0 [] cs []) R2:=by exact D0) (hp3:C0 R2 (.own E u ey Fy) S:=by exact D0) (hz:0 < E.sz:=by decide) (hm:E.sz=m:=by rfl)
  (h63:xs.length+1≤9223372036854775807:=by omega) (hby:(xs.length+1) * b≤140737488355328:=by omega) (hd:Nat.blt d c.n=true:=by rfl) :
  On c fr H (some d) (.call { callee:=.builtin .append,args:=#[x,y],argTypes:=#[t,t] }) ty Φ:=⟨fun _ _ _=>by
 subst hu
 refine ap (ys:=[ey]) (Fy:=Fy) (S:=S) one hz hm hp hx hy rfl (fun w s=>?_) (fun w v' F' s hF w' hk hv=>?_) (by unfold maxLen;exact h63) hby h hd
 ·have hro:=s.on (.row g tt 0 [] cs []) (by simp [hp2.mem])
  have how:=s.on (.own E (.agg cs.toArray) ey Fy) (by simp [hp2.sub _ hp3.mem])
  obtain ⟨hnd,cs',e1,hrep⟩:=how
  obtain rfl:cs=cs':=by simpa using e1
  refine ⟨cs,Cw.one hrep,.inr ⟨_,rfl,fun j u hu=>?_⟩,fun b hb hbF=>?_,hnd⟩
  ·have hr:=hro.2
   have:=hr.cell j
   simp only [List.nil_append,List.append_nil] at this
   rw [hu] at this
   unfold Addr.add
   split
   ·rename_i e;subst e;exact this
   ·simpa using this
  ·exact s.Zr.1 (.own E (.agg cs.toArray) ey Fy) (hp2.sub _ hp3.mem) rfl b hbF hb
 ·have hP:Fc (.ow E e v xs F::R) [.ow E e v xs F,.own E (.agg cs.toArray) ey Fy,.row g tt 0 [] cs []] S:=.cons .here (by
   have:∀{R R2 S:List Pc} {p q:Pc},C0 R p R2→C0 R2 q S→Fc R [q,p] S:=by
    intro R R2 S p q h1
    induction h1 generalizing S with
    | here=>intro h2;exact .cons (.there h2) (.cons .here .nil)
    | @there x p R R' h ih =>
     intro h2
     cases h2 with
     | here=>exact .cons .here (.cons h .nil)
     | there h3 =>
      cases ih h3 with
      | cons a1 a2 =>
       cases a2 with
       | cons b1 b2=>cases b2;exact .cons (.there a1) (.cons (.there b1) .nil)
   exact this hp2 hp3)
  have s1:St c.G c.D c.w0 ([.ow E e v xs F,.own E (.agg cs.toArray) ey Fy]++S) w:=by
   have s0:St c.G c.D c.w0 ([.ow E e v xs F,.own E (.agg cs.toArray) ey Fy,.row g tt 0 [] cs []]++S) w:=by simpa using hP.st (X:=[]) (by simpa using s)
   have sp:=s0.Zr
   have hm3:∀q,q∈[Pc.ow E e v xs F,.own E (.agg cs.toArray) ey Fy]++S→q∈[Pc.ow E e v xs F,.own E (.agg cs.toArray) ey Fy,.row g tt 0 [] cs []]++S:=fun q hq=>by
    simp only [List.cons_append,List.nil_append,List.mem_cons] at hq ⊢
    rcases hq with h|h|h
    ·exact .inl h
    ·exact .inr (.inl h)
    ·exact .inr (.inr (.inr h))
   exact ⟨s0.Ky,fun q hq=>s0.on q (hm3 q hq),⟨fun q hq=>sp.1 q (by
    rcases List.mem_cons.1 hq with h|h
    ·simp [h]
    ·exact List.mem_cons_of_mem _ (List.mem_cons_of_mem _ h)),fun q hq=>sp.2.1 q (List.mem_cons_of_mem _ hq),sp.2.2.2⟩,fun q hq=>s0.Wi q (hm3 q hq)⟩
  refine St.turn (M:=[.ow E e v xs F,.own E (.agg cs.toArray) ey Fy]) (N:=[.ow E e v' (xs++[ey]) F']) s1 (hk.mono (fun b hb _=>by simp [List.filter,Pc.mu,fp,Pc.F,hb])) (by intro q hq;simp at hq;subst hq;exact hv) ⟨by simp,trivial⟩ ?_
  intro q hq b hb
  simp only [List.mem_cons,List.not_mem_nil,or_false] at hq;subst hq
  rcases hF b hb with h|h|h
  ·exact .inr (.inl ⟨.ow E e v xs F,by simp,rfl,h⟩)
  ·exact .inr (.inl ⟨.own E (.agg cs.toArray) ey Fy,by simp,rfl,h⟩)
  ·exact .inl (by omega)⟩
theorem Amz {α:Type} {E:Bv α} {a:Option Addr} {n cp:Nat} {xs:List α} {F:List Nat} (k:Nat) (hk:k≤xs.length) (h:∀F',n≤cp→cp≤9223372036854775807→T c fr (.sl E (.slice a k cp) (xs.take k) F'::H) Φ) (hm:.sl E (.slice a n cp) xs F∈H:=by exact B8):T c fr H Φ:=.mk fun ac w s g=>by
 obtain ⟨hz,hs⟩:=s.get hm
 obtain ⟨rfl,hnc,hmx⟩:=hs.caps
 obtain ⟨F',hF,h2⟩:=hs.takeS k hk
 exact (h F' hnc (by unfold maxLen at hmx;omega)).h ac w (s.ro hm rfl rfl ⟨hz,h2⟩ hF) g
/-! the same for slices that read -/
def EA {α:Type} (E:Bv α) (n:Nat):Bv (List α) where
 sz:=n * E.sz
 Ka w cs xs F:=xs.length=n∧Cw E w cs xs F
 len h:=by obtain ⟨rfl,h⟩:=h;exact h.len
 lt h:=h.2.lt
 frame h hF:=⟨h.1,h.2.frame hF⟩
theorem Ye {α:Type} {E:Bv α} (one:W0 E) {a:Option Addr} {n cp:Nat} {xs:List α} {F:List Nat} {m:Nat} (hm:E.sz=m)
  (h:∀(ys:List (List Value)) F1 F2,ys.length=xs.length→(∀y∈ys,y.length=m)→T c fr (.sl (EC m) (.slice a n cp) ys F1::.isv (EA E xs.length) (.agg ys.flatten.toArray) xs F2::H) Φ) (hp:.sl E (.slice a n cp) xs F∈H:=by exact B8):T c fr H Φ:=.mk fun ac w s g=>by
 subst hm
 obtain ⟨hz,a',cap,hv,hl,hh⟩:=s.get hp
 cases hv
 rcases hh with ⟨rfl,rfl,h0⟩|⟨b,off,F',rfl,hne,rfl,hc⟩
 ·refine (h [] [] [] rfl (by simp)).h ac w (s.add (N:=[.sl (EC E.sz) (.slice a 0 cp) [] [],.isv (EA E 0) (.agg #[]) [] []]) (Below.refl _ _) ?_ ?_ ?_) g
  ·intro p hp
   simp only [List.mem_cons,List.not_mem_nil,or_false] at hp
   rcases hp with rfl|rfl
   ·exact ⟨hz,a,cp,rfl,hl,.inl ⟨rfl,rfl,h0⟩⟩
   ·exact ⟨[],rfl,rfl,rfl,rfl⟩
  ·exact ⟨fun q _ hm=>by simp at *;subst_vars;simp [Pc.mu] at hm,fun q hq=>by simp at hq,trivial⟩
  ·intro p hp b hb
   simp only [List.mem_cons,List.not_mem_nil,or_false] at hp
   rcases hp with rfl|rfl <;> simp [Pc.F] at hb
 ·have key:∀(xs:List α) (off:Nat) (G:List Nat),L5 E w b off xs G→∃cs,Cw E w cs xs G∧∀j u,cs[j]?=some u→w.cell? ⟨b,off+j,none⟩=some u:=by
   intro xs
   induction xs with
   | nil=>intro off G h;exact ⟨[],⟨rfl,h⟩,by simp⟩
   | cons x r ih =>
    intro off G h
    obtain ⟨c1,F1,F2,rfl,h1,h2,h3⟩:=h
    obtain ⟨c2,f2,k2⟩:=ih _ _ h3
    have hl1:=E.len h1
    refine ⟨c1++c2,⟨c1,c2,F1,F2,rfl,rfl,h1,f2⟩,fun j u hu=>?_⟩
    by_cases hj:j < c1.length
    ·rw [List.getElem?_append_left hj] at hu
     rw [h2 j (by omega)];exact hu
    ·rw [List.getElem?_append_right (by omega)] at hu
     have:=k2 _ _ hu
     rwa [show off+E.sz+(j - c1.length)=off+j by omega] at this
  obtain ⟨cs,f1,k1⟩:=key xs off F' hc
  obtain ⟨ys,e1,rfl,e2,f2⟩:=Acb (w':=w) one f1
  have hys:ys≠[]:=by rintro rfl;exact hne (List.eq_nil_of_length_eq_zero e1.symm)
  refine (h ys [b] F' e1 e2).h ac w (s.add (N:=[.sl (EC E.sz) (.slice (some ⟨b,off,none⟩) xs.length cp) ys [b],.isv (EA E xs.length) (.agg ys.flatten.toArray) xs F']) (Below.refl _ _) ?_ ?_ ?_) g
  ·intro p hp
   simp only [List.mem_cons,List.not_mem_nil,or_false] at hp
   rcases hp with rfl|rfl
   ·refine ⟨hz,_,cp,by rw [e1],by rw [e1];exact hl,.inr ⟨b,off,[],rfl,hys,rfl,f2.cells (fun j u hu=>k1 j u hu)⟩⟩
   ·exact ⟨_,rfl,rfl,f1⟩
  ·exact ⟨fun q hq hm=>by simp only [List.mem_cons,List.not_mem_nil,or_false] at hq;subst hq;simp [Pc.mu] at hm,fun q hq=>by simp at hq,trivial⟩
  ·intro p hq z hb
   simp only [List.mem_cons,List.not_mem_nil,or_false] at hq
   rcases hq with rfl|rfl
   ·exact .inr ⟨rfl,_,hp,rfl,by simp only [Pc.F,List.mem_cons,List.not_mem_nil,or_false] at hb ⊢;exact .inl hb⟩
   ·exact .inr ⟨rfl,_,hp,rfl,by simp only [Pc.F,List.mem_cons] at hb ⊢;exact .inr hb⟩
theorem Nc {α:Type} {E:Bv α} {a:Option Addr} {n cp m k:Nat} {ys:List (List Value)} {v:Value} {xs:List α} {F G:List Nat} (hm:E.sz=m) (hl:ys.length=xs.length) (hv:v=.agg ys.flatten.toArray)
  (h:∀F',T c fr (.sl E (.slice a n cp) xs F'::H) Φ) (hp:.sl (EC m) (.slice a n cp) ys F∈H:=by exact B8) (hp2:.isv (EA E k) v xs G∈H:=by exact B8):T c fr H Φ:=.mk fun ac w s g=>by
 subst hm hv
 obtain ⟨hz,a',cap,hv,hlc,hh⟩:=s.get hp
 cases hv
 obtain ⟨cs,e, -,hf⟩:=s.get hp2
 obtain rfl:ys.flatten=cs:=by simpa using e
 rcases hh with ⟨rfl,rfl,h0⟩|⟨b,off,F',rfl,hne,rfl,hc⟩
 ·have:xs=[]:=List.eq_nil_of_length_eq_zero hl.symm
  subst this
  refine (h []).h ac w (s.add (N:=[.sl E (.slice a 0 cp) [] []]) (Below.refl _ _) (by intro p hp;simp only [List.mem_cons,List.not_mem_nil,or_false] at hp;subst hp;exact ⟨hz,a,cp,rfl,hlc,.inl ⟨rfl,rfl,h0⟩⟩) ⟨by simp,trivial⟩ (by intro p hp b hb;simp only [List.mem_cons,List.not_mem_nil,or_false] at hp;subst hp;simp [Pc.F] at hb)) g
 ·have hxs:xs≠[]:=by rintro rfl;exact hne (List.eq_nil_of_length_eq_zero hl)
  have key:∀(ys:List (List Value)) (off:Nat) (G:List Nat),L5 (EC E.sz) w b off ys G→∀j u,ys.flatten[j]?=some u→w.cell? ⟨b,off+j,none⟩=some u:=by
   intro ys
   induction ys with
   | nil=>intro off G _ j u hu;simp at hu
   | cons y r ih =>
    intro off G h j u hu
    obtain ⟨c1,F1,F2,rfl,⟨rfl,⟨hy, -⟩, -⟩,h2,h3⟩:=h
    rw [List.flatten_cons] at hu
    by_cases hj:j < c1.length
    ·rw [List.getElem?_append_left hj] at hu
     rw [h2 j (by show j < E.sz;omega)];exact hu
    ·rw [List.getElem?_append_right (by omega)] at hu
     have:=ih _ _ h3 _ _ hu
     rwa [show off+(EC E.sz).sz+(j - c1.length)=off+j by show off+E.sz+(j - c1.length)=off+j;omega] at this
  refine (h (b::G)).h ac w (s.add (N:=[.sl E (.slice (some ⟨b,off,none⟩) ys.length cp) xs (b::G)]) (Below.refl _ _) (by
   intro p hp
   simp only [List.mem_cons,List.not_mem_nil,or_false] at hp;subst hp
   exact ⟨hz,_,cp,by rw [hl],by rw [←hl];exact hlc,.inr ⟨b,off,G,rfl,hxs,rfl,hf.cells (fun j u hu=>key ys off F' hc j u hu)⟩⟩) ⟨by simp,trivial⟩ (by
   intro p hq z hb
   simp only [List.mem_cons,List.not_mem_nil,or_false] at hq;subst hq
   simp only [Pc.F,List.mem_cons] at hb
   rcases hb with rfl|hb
   ·exact .inr ⟨rfl,_,hp,rfl,by simp [Pc.F]⟩
   ·exact .inr ⟨rfl,_,hp2,rfl,hb⟩)) g
theorem Aez {α:Type} {E:Bv α} {v:Value} {x:α} {F:List Nat} (h:T c fr (.isv (EA E 1) v [x] F::H) Φ) (hp:.isv E v x F∈H:=by exact B8):T c fr H Φ:=.mk fun ac w s g=>by
 obtain ⟨cs,e,hr⟩:=s.get hp
 exact h.h ac w (s.ro hp rfl rfl ⟨cs,e,rfl,Cw.one hr⟩ (fun b hb=>hb)) g
theorem Amv {α:Type} {E:Bv α} {k1 k2:Nat} {c1 c2:List Value} {v1 v2:Value} {x1 x2:List α} {F1 F2:List Nat} (e1:v1=.agg c1.toArray) (e2:v2=.agg c2.toArray) (h:T c fr (.isv (EA E (k1+k2)) (.agg (c1++c2).toArray) (x1++x2) (F1++F2)::H) Φ) (hp:.isv (EA E k1) v1 x1 F1∈H:=by exact B8) (hp2:.isv (EA E k2) v2 x2 F2∈H:=by exact B8):T c fr H Φ:=.mk fun ac w s g=>by
 subst e1 e2
 obtain ⟨cs,e,hl,hf⟩:=s.get hp
 obtain ⟨cs2,e2,hl2,hf2⟩:=s.get hp2
 obtain rfl:c1=cs:=by simpa using e
 obtain rfl:c2=cs2:=by simpa using e2
 refine h.h ac w (s.add (N:=[.isv (EA E (k1+k2)) (.agg (c1++c2).toArray) (x1++x2) (F1++F2)]) (Below.refl _ _) (by intro p hp;rw [List.mem_singleton] at hp;subst hp;exact ⟨_,rfl,by simp [hl,hl2],hf.append hf2⟩) ⟨by simp,trivial⟩ (by
  intro p hq z hb
  rw [List.mem_singleton] at hq;subst hq
  rcases List.mem_append.1 hb with hb|hb
  ·exact .inr ⟨rfl,_,hp,rfl,hb⟩
  ·exact .inr ⟨rfl,_,hp2,rfl,hb⟩)) g
theorem Sn {m:Nat} {cs:List Value} (hm:cs.length=m) (h1:∀u∈cs,u.oneCell'=true) (w:World):Cw (EC m) w cs [cs] []:=Cw.one ⟨rfl,⟨hm,h1⟩,rfl⟩
theorem N0 {α:Type} {O R:Bv α} (hW:Me O R) {v:Value} {x:α} {F:List Nat} {S:List Pc} (h:∀F',T c fr (.isv R v x F'::S) Φ) (hp:C0 H (.own O v x F) S:=by exact D0):T c fr H Φ:=.mk fun a w s g=>by
 have s1:=s.pick hp
 obtain ⟨-,ho⟩:=s1.on (.own O v x F) (by simp)
 obtain ⟨F',hF,hs⟩:=Pt.weak hW ho
 exact (h F').h a w (s1.conv rfl hs hF) g
end
section
variable {c:Cx} {fr:Fr} {H:List Pc} {Φ:Gl}
theorem Abh {v:Value} {x:Fb} {F:List Nat} (h:∀(a1:Option Addr) (c1:Nat) (F1:List Nat),v=.agg #[.int .i64 x.Ae,.slice a1 x.Bi.length c1,.int .i64 x.Ca]→x.Bi.length≤maxLen→T c fr (.sl Bd (.slice a1 x.Bi.length c1) x.Bi F1::H) Φ) (hm:.isv Da v x F∈H:=by exact B8):T c fr H Φ:=.mk fun a w s g=>by
 obtain ⟨cs,rfl,v1,rfl,h1⟩:=s.get hm
 obtain ⟨a1,c1,rfl⟩:=h1.slice;have l1:=h1.len
 have t1:=s.ro (p:=.sl Bd (.slice a1 x.Bi.length c1) x.Bi F) hm rfl rfl ⟨by decide,h1⟩ fun b hb=>hb
 exact (h a1 c1 F rfl  l1).h a w t1 g
theorem Pg (x:Fb) {a1:Option Addr} {c1:Nat} {F1:List Nat}  (h:T c fr (.isv Da (.agg #[.int .i64 x.Ae,.slice a1 x.Bi.length c1,.int .i64 x.Ca]) x (F1)::H) Φ) (m1:.sl Bd (.slice a1 x.Bi.length c1) x.Bi F1∈H:=by exact B8):T c fr H Φ:=.mk fun a w s g=>by
 have hP:Pt Da w (.agg #[.int .i64 x.Ae,.slice a1 x.Bi.length c1,.int .i64 x.Ca]) x (F1):=⟨_,rfl,_,rfl,(s.get m1).2⟩
 refine h.h a w (s.add (N:=[.isv Da (.agg #[.int .i64 x.Ae,.slice a1 x.Bi.length c1,.int .i64 x.Ca]) x (F1)]) (Below.refl _ _) (by intro q hq;simp at hq;subst hq;exact hP) ⟨by simp,trivial⟩ fun q hq b hb=>?_) g
 simp at hq;subst hq
 simp only [Pc.F,List.mem_append] at hb
 exact .inr ⟨rfl,_,m1,rfl,hb⟩
theorem Uk {v:Value} {x:Fb} {F:List Nat} {S:List Pc} (h:∀(a1:Option Addr) (c1:Nat) (F1:List Nat),v=.agg #[.int .i64 x.Ae,.slice a1 x.Bi.length c1,.int .i64 x.Ca]→x.Bi.length≤maxLen→T c fr (.ow Bd 3 (.slice a1 x.Bi.length c1) x.Bi F1::S) Φ) (hp:C0 H (.own Ee v x F) S:=by exact D0):T c fr H Φ:=.mk fun a w s g=>by
 have z1:=s.pick hp
 obtain ⟨hn,cs,rfl,v1,rfl,h1⟩:=z1.on (.own Ee v x F) (by simp)
 obtain ⟨a1,c1,rfl⟩:=h1.slice;have l1:=h1.len
 refine (h a1 c1 F rfl  l1).h a w (St.turn (M:=[.own Ee (.agg #[.int .i64 x.Ae,.slice a1 x.Bi.length c1,.int .i64 x.Ca]) x _]) (N:=[.ow Bd 3 (.slice a1 x.Bi.length c1) x.Bi F]) z1 (Dy.refl _ w) ?_ ?_ ?_) g
 ·intro q hq;simp at hq;subst hq;exact ⟨hn,h1⟩
 ·exact ⟨by simp,trivial⟩
 ·intro q hq b hb;simp at hq;subst hq;exact .inr (.inl ⟨_,List.mem_singleton.2 rfl,rfl,hb⟩)
theorem Mm (x:Fb) {a1:Option Addr} {c1:Nat} {F1:List Nat} {S1:List Pc}  (h:T c fr (.own Ee (.agg #[.int .i64 x.Ae,.slice a1 x.Bi.length c1,.int .i64 x.Ca]) x (F1)::S1) Φ) (m1:C0 H (.ow Bd 3 (.slice a1 x.Bi.length c1) x.Bi F1) S1:=by exact D0)  : T c fr H Φ:=.mk fun a w s g=>by
 have z1:St c.G c.D c.w0 ([.ow Bd 3 (.slice a1 x.Bi.length c1) x.Bi F1]++S1) w:=by simpa using (show Fc H [.ow Bd 3 (.slice a1 x.Bi.length c1) x.Bi F1] S1 from Fc.cons m1 (Fc.nil)).st (X:=[]) (by simpa using s)
 obtain ⟨n1,k1⟩:=z1.on (.ow Bd 3 (.slice a1 x.Bi.length c1) x.Bi F1) (by simp)
 have hN:=n1
 refine h.h a w (St.turn (M:=[.ow Bd 3 (.slice a1 x.Bi.length c1) x.Bi F1]) (N:=[.own Ee (.agg #[.int .i64 x.Ae,.slice a1 x.Bi.length c1,.int .i64 x.Ca]) x (F1)]) z1 (Dy.refl _ w) (by intro q hq;simp at hq;subst hq;exact ⟨hN,_,rfl,_,rfl,k1⟩) ⟨by simp,trivial⟩ fun q hq b hb=>?_) g
 simp at hq;subst hq
 simp only [Pc.F,List.mem_append] at hb
 exact .inr (.inl ⟨_,List.mem_singleton.2 rfl,rfl,hb⟩)
theorem U2 {a:Option Addr} {n cp:Nat} {xs:List Fb} {F:List Nat} (i:Nat) (h:∀(hi:i < xs.length) (b o:Nat) (a1:Option Addr) (c1:Nat) (F1:List Nat),a=some ⟨b,o,none⟩→xs[i].Bi.length≤maxLen→T c fr (.cel b (o+i * 3) [.int .i64 xs[i].Ae,.slice a1 xs[i].Bi.length c1,.int .i64 xs[i].Ca]::.sl Bd (.slice a1 xs[i].Bi.length c1) xs[i].Bi F1::H) Φ) (hm:.sl Da (.slice a n cp) xs F∈H:=by exact B8) (hi:i < xs.length:=by omega):T c fr H Φ:=.mk fun ac w s g=>by
 obtain ⟨b,o,cs,G,ha,hrep,hG,hb,hne,hr⟩:=Tw (s.get hm) i hi
 obtain ⟨v1,rfl,h1⟩:=hrep
 obtain ⟨a1,c1,rfl⟩:=h1.slice;have l1:=h1.len
 have t1:=s.ro (p:=.sl Bd (.slice a1 xs[i].Bi.length c1) xs[i].Bi G) hm rfl rfl ⟨by decide,h1⟩ (by intro b hb;simp only [Pc.F] at hb ⊢;exact hG b (by simp [hb]))
 exact (h hi b o a1 c1 G ha  l1).h ac w (t1.ro (List.mem_cons_of_mem _ hm) rfl rfl ⟨hne,hr⟩ (by intro x hx;simp [Pc.F] at hx;subst hx;exact hb)) g
end
section
variable {c:Cx} {fr:Fr} {H:List Pc} {Φ:Gl}
theorem Ep {v:Value} {x:Bl} {F:List Nat} (h:∀(a1:Option Addr) (c1:Nat) (F1:List Nat),v=.agg #[.int .i64 x.Ai,.slice a1 x.Ah.length c1]→x.Ah.length≤maxLen→T c fr (.sl Da (.slice a1 x.Ah.length c1) x.Ah F1::H) Φ) (hm:.isv Bn v x F∈H:=by exact B8):T c fr H Φ:=.mk fun a w s g=>by
 obtain ⟨cs,rfl,v1,rfl,h1⟩:=s.get hm
 obtain ⟨a1,c1,rfl⟩:=h1.slice;have l1:=h1.len
 have t1:=s.ro (p:=.sl Da (.slice a1 x.Ah.length c1) x.Ah F) hm rfl rfl ⟨by decide,h1⟩ fun b hb=>hb
 exact (h a1 c1 F rfl  l1).h a w t1 g
theorem E7 (x:Bl) {a1:Option Addr} {c1:Nat} {F1:List Nat}  (h:T c fr (.isv Bn (.agg #[.int .i64 x.Ai,.slice a1 x.Ah.length c1]) x (F1)::H) Φ) (m1:.sl Da (.slice a1 x.Ah.length c1) x.Ah F1∈H:=by exact B8):T c fr H Φ:=.mk fun a w s g=>by
 have hP:Pt Bn w (.agg #[.int .i64 x.Ai,.slice a1 x.Ah.length c1]) x (F1):=⟨_,rfl,_,rfl,(s.get m1).2⟩
 refine h.h a w (s.add (N:=[.isv Bn (.agg #[.int .i64 x.Ai,.slice a1 x.Ah.length c1]) x (F1)]) (Below.refl _ _) (by intro q hq;simp at hq;subst hq;exact hP) ⟨by simp,trivial⟩ fun q hq b hb=>?_) g
 simp at hq;subst hq
 simp only [Pc.F,List.mem_append] at hb
 exact .inr ⟨rfl,_,m1,rfl,hb⟩
theorem Ha {v:Value} {x:Bl} {F:List Nat} {S:List Pc} (h:∀(a1:Option Addr) (c1:Nat) (F1:List Nat),v=.agg #[.int .i64 x.Ai,.slice a1 x.Ah.length c1]→x.Ah.length≤maxLen→T c fr (.ow Ee 136 (.slice a1 x.Ah.length c1) x.Ah F1::S) Φ) (hp:C0 H (.own Bt v x F) S:=by exact D0):T c fr H Φ:=.mk fun a w s g=>by
 have z1:=s.pick hp
 obtain ⟨hn,cs,rfl,v1,rfl,h1⟩:=z1.on (.own Bt v x F) (by simp)
 obtain ⟨a1,c1,rfl⟩:=h1.slice;have l1:=h1.len
 refine (h a1 c1 F rfl  l1).h a w (St.turn (M:=[.own Bt (.agg #[.int .i64 x.Ai,.slice a1 x.Ah.length c1]) x _]) (N:=[.ow Ee 136 (.slice a1 x.Ah.length c1) x.Ah F]) z1 (Dy.refl _ w) ?_ ?_ ?_) g
 ·intro q hq;simp at hq;subst hq;exact ⟨hn,h1⟩
 ·exact ⟨by simp,trivial⟩
 ·intro q hq b hb;simp at hq;subst hq;exact .inr (.inl ⟨_,List.mem_singleton.2 rfl,rfl,hb⟩)
theorem Fj (x:Bl) {a1:Option Addr} {c1:Nat} {F1:List Nat} {S1:List Pc}  (h:T c fr (.own Bt (.agg #[.int .i64 x.Ai,.slice a1 x.Ah.length c1]) x (F1)::S1) Φ) (m1:C0 H (.ow Ee 136 (.slice a1 x.Ah.length c1) x.Ah F1) S1:=by exact D0)  : T c fr H Φ:=.mk fun a w s g=>by
 have z1:St c.G c.D c.w0 ([.ow Ee 136 (.slice a1 x.Ah.length c1) x.Ah F1]++S1) w:=by simpa using (show Fc H [.ow Ee 136 (.slice a1 x.Ah.length c1) x.Ah F1] S1 from Fc.cons m1 (Fc.nil)).st (X:=[]) (by simpa using s)
 obtain ⟨n1,k1⟩:=z1.on (.ow Ee 136 (.slice a1 x.Ah.length c1) x.Ah F1) (by simp)
 have hN:=n1
 refine h.h a w (St.turn (M:=[.ow Ee 136 (.slice a1 x.Ah.length c1) x.Ah F1]) (N:=[.own Bt (.agg #[.int .i64 x.Ai,.slice a1 x.Ah.length c1]) x (F1)]) z1 (Dy.refl _ w) (by intro q hq;simp at hq;subst hq;exact ⟨hN,_,rfl,_,rfl,k1⟩) ⟨by simp,trivial⟩ fun q hq b hb=>?_) g
 simp at hq;subst hq
 simp only [Pc.F,List.mem_append] at hb
 exact .inr (.inl ⟨_,List.mem_singleton.2 rfl,rfl,hb⟩)
theorem O1 {a:Option Addr} {n cp:Nat} {xs:List Bl} {F:List Nat} (i:Nat) (h:∀(hi:i < xs.length) (b o:Nat) (a1:Option Addr) (c1:Nat) (F1:List Nat),a=some ⟨b,o,none⟩→xs[i].Ah.length≤maxLen→T c fr (.cel b (o+i * 2) [.int .i64 xs[i].Ai,.slice a1 xs[i].Ah.length c1]::.sl Da (.slice a1 xs[i].Ah.length c1) xs[i].Ah F1::H) Φ) (hm:.sl Bn (.slice a n cp) xs F∈H:=by exact B8) (hi:i < xs.length:=by omega):T c fr H Φ:=.mk fun ac w s g=>by
 obtain ⟨b,o,cs,G,ha,hrep,hG,hb,hne,hr⟩:=Tw (s.get hm) i hi
 obtain ⟨v1,rfl,h1⟩:=hrep
 obtain ⟨a1,c1,rfl⟩:=h1.slice;have l1:=h1.len
 have t1:=s.ro (p:=.sl Da (.slice a1 xs[i].Ah.length c1) xs[i].Ah G) hm rfl rfl ⟨by decide,h1⟩ (by intro b hb;simp only [Pc.F] at hb ⊢;exact hG b (by simp [hb]))
 exact (h hi b o a1 c1 G ha  l1).h ac w (t1.ro (List.mem_cons_of_mem _ hm) rfl rfl ⟨hne,hr⟩ (by intro x hx;simp [Pc.F] at hx;subst hx;exact hb)) g
end
section
variable {P:Program} {ops:Array Oper} {Q:Exit→Act→World→Prop} {md:Region.Mode} {S:World→Prop} {X:Nat→Bool}
theorem C4.firstP {i:Nat} {oi:Oper} {v:Value} (hi:ops[i]?=some oi) (hsel:∀(j:Nat) (o:Oper) cs b,ops[j]?=some o→o.op≠.select cs b)
  (hQ:∀c a w,Q (.panic c) (a.put oi.dst v) w→Q (.panic c) a w) (hXi:X i=true) :
  ∀(f:Nat) (listed:Array Bool) (a:Act) (w:World),
   (∀j oj,ops[j]?=some oj→j≠i→listed.getD j true=false→(∀e∈oj.after,Region.binds md e=true→e.on≠i)→oi.apart ops oj=true) →
   i∈Region.ready md ops listed→YieldsIf P ops (fun _=>True) oi v a→C4 P md ops Q S X f (listed.setIfInBounds i true) (a.put oi.dst v) w→C4 P md ops Q S X (f+1) listed a w:=by
 intro f
 induction f with
 | zero =>
  intro listed a w _ hr hy H
  refine ⟨fun h=>(by rw [h] at hr;cases hr),fun j hj=>?_⟩
  by_cases hji:j=i
  ·subst hji;exact hy.wpOp hi trivial ⟨(fun h=>by rw [hXi] at h;cases h),H⟩
  ·have:=ready_mono hj hji
   rw [H.1] at this;cases this
 | succ f ih =>
  intro listed a w hfree hr hy H
  refine ⟨fun h=>(by rw [h] at hr;cases hr),fun j hj=>?_⟩
  by_cases hji:j=i
  ·subst hji;exact hy.wpOp hi trivial ⟨(fun h=>by rw [hXi] at h;cases h),H⟩
  ·obtain ⟨hju,oj,hoj,hall⟩:=mem_ready.1 hj
   have hiu:=Sz (mem_ready.1 hr).1
   have hnot:∀e∈oj.after,Region.binds md e=true→e.on≠i:=fun e he hb heq=>by
    have h1:=hall e he hb
    rw [heq,hiu] at h1;cases h1
   have h2:=wpOp_putIf hoj (hfree j oj hoj hji hju hnot) (fun cs b=>hsel i oi cs b hi) (fun cs b=>hsel j oj cs b hoj) hQ hy (H.2 j (ready_mono hj hji))
   refine wpOp_mono (fun a' w' h3=>⟨h3.2.1,ih (listed.setIfInBounds j true) a' w' (fun k ok hk hki hun hno=>hfree k ok hk hki ?_ hno) (ready_mono hr (Ne.symm hji)) h3.1 ?_⟩) h2
   ·by_cases hjk:j=k
    ·subst hjk;exact hju
    ·rw [getD_set_ne true hjk] at hun;exact hun
   ·rw [Array.setIfInBounds_comm _ _ hji];exact h3.2.2
theorem C4.takeP {i:Nat} {oi:Oper} {v:Value} {f:Nat} {listed:Array Bool} {a:Act} {w:World} (hi:ops[i]?=some oi)
  (hs:Region.noSelect ops=true) (hf:Region.free md ops listed i=true) (hr:(Region.ready md ops listed).contains i=true) (hXi:X i=true)
  (hQ:∀c a w,Q (.panic c) (a.put oi.dst v) w→Q (.panic c) a w) (hy:YieldsIf P ops (fun _=>True) oi v a)
  (h:C4 P md ops Q S X f (listed.setIfInBounds i true) (a.put oi.dst v) w):C4 P md ops Q S X (f+1) listed a w :=
 C4.firstP hi (Region.noSelect_spec hs) hQ hXi f listed a w (Region.free_spec hi hf) (by simpa using hr) hy h
end
section
variable {c:Cx} {fr:Fr} {H H0:List Pc} {k:List It} {X:List Nat} {ops:Array Oper} {f:Nat} {listed:Array Bool} {d:Nat} {o:Op} {ty:TypeId} {pos:String} {Cg:Array Edge} {v:Value}
theorem Ua (i:Nat) (h:T c ((d,v)::fr) H (.dx k H0 X ops f (listed.setIfInBounds i true))) (ho:ops[i]?=some ⟨some d,o,ty,pos,Cg,none⟩:=by rw [List.getElem?_toArray];rfl) (hy:Yd c.P c.n fr [] o ty v:=by exact ydE) (hX:X.contains i=true:=by rfl)
  (h1:Region.noSelect ops=true:=by kernel_rfl) (h2:Region.free .any ops listed i=true:=by kernel_rfl) (h3:(Region.ready .any ops listed).contains i=true:=by kernel_rfl) (hR:Uz c:=by exact Xo) (hd:Nat.blt d c.n=true:=by rfl) :
  T c fr H (.dx k H0 X ops (f+1) listed):=.mk fun a w s g =>
 C4.takeP (v:=v) ho h1 h2 h3 hX (fun ch a w hp=>by rw [Jz] at hp ⊢;exact hR _ _ _ _ _ hp) (.inl ⟨rfl,fun w' _=>hy.h a w' _ _ _ _ g (by intro p hp;simp at hp)⟩) (h.h _ _ s (g.put hd))
theorem Anv {c:Cx} {fr:Fr} {H:List Pc} {k:List It} {x y:Code} {σ:Type} {cst:Fr} {rest:List Pc} (ks rs:List Nat) (upd:σ→Fr) (chg:σ→List Pc) (C:σ→Prop) (h:T c fr H (.Br (.cd y::.lp (Jn c (fun s=>upd s++cst) (fun s=>chg s++rest) C)::k) x)) (h2:∀s,C s→T c (upd s++cst) (chg s++rest) (.norm k))
  (_hk:Kf fr ks cst:=by repeat (first|exact Kf.nil|apply Kf.cons (by rfl))) (_hr:Sel H rs rest:=by repeat constructor):T c fr H (.Br (.cd y::k) x):=.mk fun a w s g=>by
 refine wp_mono (h.h a w s g) fun e a1 w1 he=>?_
 cases e with
 | normal =>
  refine wp_mono he fun e a2 w2 he=>?_
  cases e with
  | normal=>obtain ⟨s,hC,hs,hg⟩:=he;exact (h2 s hC).h a2 w2 hs hg
  | _=>exact he
 | _=>exact he
end
section
variable {c:Cx} {fr:Fr} {H H0:List Pc} {k:List It} {Φ:Gl} {X:List Nat} {ops:Array Oper} {f:Nat} {listed:Array Bool} {d:Nat} {o:Op} {ty:TypeId} {v u:Value} {x y:Operand}
theorem Yf {α:Type} {O R:Bv α} (hW:Me O R) {t:TypeId} {v:Value} {xs:List α} {F:List Nat} {S:List Pc} (h:∀F',T c fr (.sl R v xs F'::S) Φ) (hp:C0 H (.ow O t v xs F) S:=by exact D0) (hz:0 < R.sz:=by decide):T c fr H Φ:=.mk fun a w s g=>by
 have s1:=s.pick hp
 obtain ⟨-,ho⟩:=s1.on (.ow O t v xs F) (by simp)
 obtain ⟨F',hF,hs⟩:=ho.sl hW
 exact (h F').h a w (s1.conv rfl ⟨hz,hs⟩ hF) g
theorem Put.all:∀{zs l:List Value},zs.length=l.length→Put zs 0 l l
 | [],[],_=>.zero
 | [],_::_,h=>by simp at h
 | _::_,[],h=>by simp at h
 | _::zs,_::l,h=>.one (Put.all (by simpa using h))
end
/-! contracts, with what they ask read off pieces -/
section
variable {G D:List Nat} {w0 w:World} {H:List Pc}
end
structure EcS where
 k:Nat
 a:Option Addr
 c:Nat
 F:List Nat
theorem Aoy {α:Type} {O:Bv α} {P:Program} {f:FuncId} {args:List Value} {x:α} {A:List Pc} (h:Fn P f args A [] (fun (_:Value × List Nat)=>True) (fun z=>z.1) (fun z=>[.own O z.1 x z.2])) (hA:A.all (fun p=>!p.mu)=true) {w:World} (hH:Nf A w):Calls P f args.toArray w (Akj O x w):=by
 refine (h.made w hH (fun _=>rfl) hA).mono ?_
 rintro e w' ⟨z, -,he,hh,hn,hF,hB⟩
 obtain ⟨h1,h2⟩:=hh (.own O z.1 x z.2) (by simp)
 exact ⟨z.1,z.2,he,h2,h1,fun b hb=>hF b (by simpa [fp,Pc.F,Pc.mu] using hb),hB⟩
theorem Aiy (v:Value) (e:Bl) (F:List Nat) (hm:e.Ah.length≤4294967296) (hm2:∀x∈e.Ah,x.Bi.length≤4294967296):Fn prog 118 [v] [.isv Bn v e F] [] (fun (_:Value × List Nat)=>True) (fun z=>z.1) (fun z=>[.own Bt z.1 e z.2]):=by
 refine enter func118 rfl ntmps118 fun w0=>?_
 refine Ep ?_
 rintro a1 c1 F1 rfl l1
 refine Cb Ee 136 ?_
 refine go ?_;intros
 rename_i g
 refine Cp [1,2,3] (fun y:EcS=>[(4,.int .i64 (y.k:Nat))]) (fun y=>[.row g 77 0 [] [.int .i64 e.Ai,.slice y.a (e.Ah.take y.k).length y.c] [],.ow Ee 136 (.slice y.a (e.Ah.take y.k).length y.c) (e.Ah.take y.k) y.F]) (fun y=>y.k≤e.Ah.length) (fun y=>e.Ah.length - y.k) ⟨0,none,0,[]⟩ (Nat.zero_le _) fun y hy0=>?_
 obtain ⟨k,ya,yc,yF⟩:=y
 dsimp only at hy0 ⊢
 have htk:(e.Ah.take k).length=k:=by rw [List.length_take];omega
 refine go ?_;intros
 refine Bg rfl (fun h1=>?_) (fun h1=>?_)
 ·have hk:k < e.Ah.length:=by omega
  have hfl:=hm2 _ (List.getElem_mem hk)
  refine U2 (xs:=e.Ah) k ?_
  rintro hi b8 o8 a8 c8 F8 e8 l8
  rw [e8]
  refine go ?_;intros
  refine As [0,3] [13] ?_
  refine dt 0 ?_
  refine dt 1 ?_
  refine dt 2 ?_
  refine dt 3 ?_
  refine dt 4 ?_
  refine dt 5 ?_
  refine dt 7 ?_
  refine dt 8 ?_
  refine dO 6 (by kernel_rfl) (by rw [List.getElem?_toArray];rfl) ?_
  apply At;rfl;kernel_rfl;exact Bf
  refine cn (fun w st=>X7 _ e.Ah[k].Bi F8 w (st.get (p:=.sl Bd (.slice a8 e.Ah[k].Bi.length c8) e.Ah[k].Bi F8) (by exact B8)).2 (by omega)) fun a9 c9 F9=>?_
  refine Mm e.Ah[k] ?_
  refine dk ?_
  refine dt 9 ?_
  refine dO 10 (by kernel_rfl) (by rw [List.getElem?_toArray];rfl) ?_
  apply Ho;rfl;rfl;rfl;rfl;exact Hl;exact Hg;intro _
  refine dk ?_
  refine dO 11 (by kernel_rfl) (by rw [List.getElem?_toArray];rfl) ?_
  refine Ab3 Pm e.Ah[k] rfl fun x4 d4 G4=>?_
  refine dk ?_
  refine dt 12 ?_
  refine dO 13 (by kernel_rfl) (by rw [List.getElem?_toArray];rfl) ?_
  apply Cs;rfl;rfl;rfl;(first|exact AggC.s|exact OneC.s);rfl;exact Cu;exact Ct;rfl
  refine Ng ?_
  refine dd ?_
  rw [←List.take_succ_eq_append_getElem hk]
  refine go ?_;intros
  refine Ck ⟨k+1,x4,d4,G4⟩ hk (by show e.Ah.length - (k+1) < e.Ah.length - k;omega)
 ·rw [show e.Ah.take k=e.Ah from List.take_of_length_le (by omega)]
  refine go ?_;intros
  refine Fj e ?_
  refine ret (_,_) trivial rfl
theorem Vc (v:Value) (e:Bl) (F:List Nat) (w:World) (h:Pt Bn w v e F) (hm:e.Ah.length≤4294967296) (hm2:∀x∈e.Ah,x.Bi.length≤4294967296):Calls prog 118 #[v] w (Akj Bt e w):=Aoy (Aiy v e F hm hm2) rfl (Il h)
def D8 (e:Bl):Bl:=⟨e.Ai+1,e.Ah.filter fun x=>!decide (x.Ca≤e.Ai+1)⟩
theorem Sl.headIn {α:Type} {E:Bv α} {w:World} {b off n cap:Nat} {xs:List α} {F} (h:Sl E w (.slice (some ⟨b,off,none⟩) n cap) xs F) (k:Nat) (hk:k < xs.length):b∈F:=by
 obtain ⟨a',cap',hv,hl,h⟩:=h
 cases hv
 rcases h with ⟨rfl,_⟩|⟨b,off,F',he,_,rfl,hc⟩
 ·simp at hk
 ·cases he;simp
theorem Abb (v:Value) (e:Bl) (F:List Nat) (w:World) (h:Pt Bn w v e F) (hc:Iy e.Ai=true) (hm:e.Ah.length≤4294967296) (hm2:∀x∈e.Ah,x.Bi.length≤4294967296) :
  Calls prog 130 #[v] w (Ar1 Bn (D8 e) w):=by
 have hcb:=Kt.1 hc
 have hm2:=Lib.hid hm2
 have h0:=h
 obtain ⟨_,rfl,v1,rfl,h1⟩:=h
 obtain ⟨a,cap,rfl⟩:=h1.slice
 have hB0:∀A B:Obj,Below w.heap.size w ((w.alloc A).alloc B):=fun A B=>((Below.refl _ _).alloc (Nat.le_refl _) _).alloc (by simp) _
 go_enter func130,ntmps130
 go_wp2_with fail
 refine (Vc _ e F _ (h0.below (hB0 _ _)) hm hm2.out).mono ?_
 rintro e' w1 ⟨_,Fo,rfl,⟨_,rfl,v2,rfl,ho⟩,hn,hFo,hb1⟩
 obtain ⟨a2,cap2,rfl⟩:=ho.slice
 have r0:=Hm.below (g:=w.heap.size) (t:=77) (cs:=[.int .i64 e.Ai,.slice a e.Ah.length cap]) (by simp [Iq] <;> omega) hb1
 have r1:=Hm.below (g:=w.heap.size+1) (t:=77) (cs:=[.int .i64 0,.slice none 0 0]) (by simp [Iq] <;> omega) hb1
 obtain ⟨Fr,hFr,hs⟩:=ho.sl Nw
 have hFl:=ho.lt
 have hB:=tr (hB0 _ _) hb1 (Nat.le_refl _)
 have d0:=fun A=>(r0.alloc A).cells
 have c0:=r0.cells
 clear hb1
 go_wp2_with fail
 go_loopw [5] (fun i wr=>∃k:Nat,k≤e.Ah.length∧i=.int .i64 k∧∃oa oc F,Hid (Ow Da 136 wr (.slice oa ((e.Ah.take k).filter fun x=>!decide (x.Ca≤e.Ai+1)).length oc) ((e.Ah.take k).filter fun x=>!decide (x.Ca≤e.Ai+1)) F)∧Hd F∧(∀b,oa=some b→w1.heap.size+1+1≤b.block)∧(∀c∈F,w.heap.size+2≤c∧c≠w1.heap.size∧c≠w1.heap.size+1) ∧
  Hm wr (w.heap.size+1) 77 [.int .i64 0,.slice none 0 0]∧Hm wr w1.heap.size 77 [.int .i64 e.Ai,.slice a2 e.Ah.length cap2]∧Hm wr (w1.heap.size+1) 77 [.int .i64 (e.Ai+1),.slice oa ((e.Ah.take k).filter fun x=>!decide (x.Ca≤e.Ai+1)).length oc]∧Below w1.heap.size w1 wr) (fun i _=>e.Ah.length - (intOf i).toNat)
 case atStart=>exact ⟨0,Nat.zero_le _,rfl,none,0,[],Lib.hid (.inl ⟨rfl,by simp,rfl⟩),Hd.nil,by simp,by simp,(r1.alloc _).alloc _,by simp [Iq],by simp [Iq],((Below.refl _ _).alloc (Nat.le_refl _) _).alloc (by simp) _⟩
 case round =>
  obtain ⟨k,hk,rfl,oa,oc,F2,hO,hd2,hoa,hF2,hr1,hr2,hr3,hB2⟩:=hrel
  have c1:=hr2.cells;have c2:=hr3.cells;have c4:=hr1.cells;have f4:=hr1.frozens
  by_cases hlt:k < e.Ah.length
  ·obtain ⟨b,off,_,F1,rfl,hx,hFx,ja⟩:=(hs.below (by decide) hB2).at k hlt
   obtain ⟨u1,rfl,hf⟩:=id hx
   obtain ⟨fa,fc,rfl⟩:=hf.slice
   have a0:=ja 0 (by decide)
   have a1:=ja 1 (by decide)
   have a2:=ja 2 (by decide)
   simp only [show Da.sz=3 from rfl,Nat.add_zero,List.getElem?_cons_zero,List.getElem?_cons_succ] at a0 a1 a2
   clear ja
   by_cases hq:e.Ah[k].Ca > e.Ai+1
   ·have hqf:=Lib.hid (E5 (q:=fun x:Fb=>!decide (x.Ca≤e.Ai+1)) hlt (by simp;omega))
    generalize hys:((e.Ah.take k).filter fun x=>!decide (x.Ca≤e.Ai+1))=ys at *
    have hys:=Lib.hid hys
    go_wp2_with fail
    go_quiet (fail)
    go_wp2_with fail
    have D1:=show Hm (wr.drewN nq) _ _ _ from hr1
    have D2:=show Hm (wr.drewN nq) _ _ _ from hr2
    have D3:=show Hm (wr.drewN nq) _ _ _ from hr3
    have DO:=Lib.hid (show Ow Da 136 (wr.drewN nq) _ _ _ from hO.out.frame fun _ _=>rfl)
    have DX:Da.Ka (wr.drewN nq) _ _ _:=Da.frame hx fun _ _=>rfl
    have DB:=Ek hB2 nq
    have b0:(wr.drewN nq).cell? ⟨b,off+k * 3,none⟩=_:=a0
    have b1:(wr.drewN nq).cell? ⟨b,off+k * 3+1,none⟩=_:=a1
    have b2:(wr.drewN nq).cell? ⟨b,off+k * 3+2,none⟩=_:=a2
    clear hr1 hr2 hr3 hO hx hf hB2 a0 a1 a2 c1 c2 c4 f4
    generalize wr.drewN nq=w2 at *
    have hbb:=World.block_lt_of_cell? w2 _ b0
    simp only at hbb
    have DBs:=DB.size
    have t3:=fun A=>(D3.alloc A).cells 1;have t0:=D3.cells 1
    have o0:=D2.cells 1
    simp only [List.getElem?_cons_zero,List.getElem?_cons_succ] at t3 t0 o0
    have hyl:ys.length≤4294967295:=by have:=congrArg List.length hys.out;have:=List.length_filter_le (fun x:Fb=>!decide (x.Ca≤e.Ai+1)) (e.Ah.take k);simp at this;omega
    have hA:=(Below.refl w2.heap.size w2).alloc (Nat.le_refl _) (.cells #[.int .i64 e.Ah[k].Ae,.slice fa e.Ah[k].Bi.length fc,.int .i64 e.Ah[k].Ca] 136)
    have DOd:=Lib.hid ((DO.out.below hA).frame (w':=(w2.alloc (.cells #[.int .i64 e.Ah[k].Ae,.slice fa e.Ah[k].Bi.length fc,.int .i64 e.Ah[k].Ca] 136)).drew) fun _ _=>rfl)
    have DXd:=Da.frame (w':=(w2.alloc (.cells #[.int .i64 e.Ah[k].Ae,.slice fa e.Ah[k].Bi.length fc,.int .i64 e.Ah[k].Ca] 136)).drew) (Da.below DX hA) fun _ _=>rfl
    have E0':=kc hA o0;have E0:(w2.alloc (.cells #[.int .i64 e.Ah[k].Ae,.slice fa e.Ah[k].Bi.length fc,.int .i64 e.Ah[k].Ca] 136)).drew.cell? _=_:=E0'
    have E1':=kc hA b0;have E1:(w2.alloc (.cells #[.int .i64 e.Ah[k].Ae,.slice fa e.Ah[k].Bi.length fc,.int .i64 e.Ah[k].Ca] 136)).drew.cell? _=_:=E1'
    have E2':=kc hA b1;have E2:(w2.alloc (.cells #[.int .i64 e.Ah[k].Ae,.slice fa e.Ah[k].Bi.length fc,.int .i64 e.Ah[k].Ca] 136)).drew.cell? _=_:=E2'
    have E3':=kc hA b2;have E3:(w2.alloc (.cells #[.int .i64 e.Ah[k].Ae,.slice fa e.Ah[k].Bi.length fc,.int .i64 e.Ah[k].Ca] 136)).drew.cell? _=_:=E3'
    have nob:∀c∈(Value.slice oa ys.length oc).ownBlock.toList,w1.heap.size+1+1≤c:=fun c hc=>by
     cases oa with
     | none=>simp [Value.ownBlock] at hc
     | some b=>simp [Value.ownBlock] at hc;subst hc;exact hoa b rfl
    have D3a:=show Hm (w2.alloc (.cells #[.int .i64 e.Ah[k].Ae,.slice fa e.Ah[k].Bi.length fc,.int .i64 e.Ah[k].Ca] 136)).drew _ _ _ from D3.alloc (.cells #[.int .i64 e.Ah[k].Ae,.slice fa e.Ah[k].Bi.length fc,.int .i64 e.Ah[k].Ca] 136)
    have hFs:∀c∈F1,c < w1.heap.size:=fun c hc=>hs.lt (by decide) c (hFx c hc)
    have hbw:b < w1.heap.size:=hs.lt (by decide) b (hs.headIn k hlt)
    have hn1:¬b=w1.heap.size+1:=by omega
    have hn2:¬w1.heap.size+1=b:=by omega
    go_region_law (first|((refine Amq Ri (by decide) (by rfl) _ _ _ (by rfl) 136 (.agg #[.int .i64 0,.slice none 0 0,.int .i64 0]) 40 underlying75 Uc rfl (.slice oa ys.length oc) ys F2 (by rfl) DOd.out hd2 (some ⟨w2.heap.size,0,none⟩) [e.Ah[k]] 1 (by rfl) [.int .i64 e.Ah[k].Ae,.slice fa e.Ah[k].Bi.length fc,.int .i64 e.Ah[k].Ca] F1 (Cw.one DXd) (.inr ⟨_,rfl,World.news_of_block (w:=(w2.alloc (.cells #[.int .i64 e.Ah[k].Ae,.slice fa e.Ah[k].Bi.length fc,.int .i64 e.Ah[k].Ca] 136)).drew) (heap_alloc_new w2 _)⟩) (fun c hc he=>by have h1:=nob c (by rw [he];simp);have h2:=hFs c hc;omega) (by unfold maxLen;simp;omega) (by simp;omega) ?_);intro v4 w4 F4 hA4;obtain ⟨oa2,oc2,rfl⟩:=hA4.val;have D4:=D3a.keepK hA4.Ag0 (fun hm=>by have:=nob _ hm;omega);have t4:=D4.cells 1;have f4:=D4.frozens 1;simp only [List.getElem?_cons_zero,List.getElem?_cons_succ] at t4))
    all_goals
     have hn4:w1.heap.size+1 ∉ F4:=fun hm=>by
      rcases hA4.mem _ hm with h|h|h
      ·exact (hF2 _ h).2.2 rfl
      ·have:=hFs _ h;omega
      ·have:=D3.lt;simp at h;omega
     have P1:=Lib.hid (hA4.ow.setFar (p:=⟨w1.heap.size+1,1,none⟩) hn4 (.slice oa2 (ys.length+1) oc2))
     have L1:=((show Hm (w2.alloc (.cells #[.int .i64 e.Ah[k].Ae,.slice fa e.Ah[k].Bi.length fc,.int .i64 e.Ah[k].Ca] 136)).drew _ _ _ from D1.alloc (.cells #[.int .i64 e.Ah[k].Ae,.slice fa e.Ah[k].Bi.length fc,.int .i64 e.Ah[k].Ca] 136)).keepK hA4.Ag0 (fun hm=>by have:=nob _ hm;have:=r1.lt;omega)).setOther (p:=⟨w1.heap.size+1,1,none⟩) (by have:=r1.lt;simp;omega) (.slice oa2 (ys.length+1) oc2)
     have L2:=((show Hm (w2.alloc (.cells #[.int .i64 e.Ah[k].Ae,.slice fa e.Ah[k].Bi.length fc,.int .i64 e.Ah[k].Ca] 136)).drew _ _ _ from D2.alloc (.cells #[.int .i64 e.Ah[k].Ae,.slice fa e.Ah[k].Bi.length fc,.int .i64 e.Ah[k].Ca] 136)).keepK hA4.Ag0 (fun hm=>by have:=nob _ hm;omega)).setOther (p:=⟨w1.heap.size+1,1,none⟩) (by simp) (.slice oa2 (ys.length+1) oc2)
     have L3:=D4.set 1 (.slice oa2 (ys.length+1) oc2)
     have hoa2:∀b,oa2=some b→w1.heap.size+1+1≤b.block:=fun c hc=>by
      subst hc
      rcases hA4.Af8 with h|h
      ·simp only [Value.ownBlock] at h;exact nob _ (by cases oa <;> simp_all [Value.ownBlock])
      ·simp [Value.ownBlock] at h;have:=D3.lt;omega
     have hF4:∀c∈F4,w.heap.size+2≤c∧c≠w1.heap.size∧c≠w1.heap.size+1:=fun c hc=>by
      have hs3:=D3.lt
      have hsw:=r1.lt
      rcases hA4.mem _ hc with h|h|h
      ·exact hF2 _ h
      ·have h1:=hFs _ h;have h2:w.heap.size+2≤c:=(by simpa using hFo c (hFr c (hFx c h)));exact ⟨h2,by omega,by omega⟩
      ·simp at h;exact ⟨by omega,by omega,by omega⟩
     have hB5:Below w1.heap.size w1 (w4.setCell ⟨w1.heap.size+1,1,none⟩ (.slice oa2 (ys.length+1) oc2)) :=
      Below.setCell ((Ek (tr DB hA (Nat.le_refl _)) 1).trans (hA4.Ag0.below (by simp;omega) (fun b hb=>by have:=nob b hb;omega))) (by simp) _
     have hd4:=hA4.hd
     clear hA4 D1 D2 D3 D4
     go_wp2_with fail
     exact ⟨⟨k+1,by omega,by go_num,oa2,oc2,F4,by rw [hqf.out,List.length_append];exact P1,hd4,hoa2,hF4,L1,L2,by rw [hqf.out,List.length_append];exact L3,hB5⟩,by simp [intOf];omega⟩
   ·have hqf:=Lib.hid (C1 (q:=fun x:Fb=>!decide (x.Ca≤e.Ai+1)) hlt (by simp;omega))
    generalize hys:((e.Ah.take k).filter fun x=>!decide (x.Ca≤e.Ai+1))=ys at *
    have hys:=Lib.hid hys
    go_wp2_with fail
    go_quiet (fail)
    go_wp2_with fail
    refine ⟨⟨k+1,by omega,by go_num,oa,oc,F2,?_,hd2,hoa,hF2,hr1,hr2,?_,Ek hB2 _⟩,by simp [intOf];omega⟩
    ·rw [hqf.out];exact Lib.hid (hO.out.frame fun _ _=>rfl)
    ·rw [hqf.out];exact hr3
  ·have hk:k=e.Ah.length:=by omega
   subst hk
   simp only [List.take_length] at hO hr3 c2
   obtain ⟨F3,hF3,hs3⟩:=hO.out.read
   have hB3:=tr hB hB2 (Nat.le_refl _)
   go_wp2_with fail
   refine bodyPost_ret (v:=.agg #[.int .i64 (e.Ai+1),.slice oa (e.Ah.filter fun x=>!decide (x.Ca≤e.Ai+1)).length oc]) ?_ rfl ?_
   ·simp [results,results130,go_sem,c4,c2,f4]
   ·refine ⟨_,F3,rfl,⟨_,rfl,_,rfl,?_⟩,fun b hb=>by have:=(hF2 b (hF3 b hb)).1;omega,?_⟩
    ·refine hs3.frame fun b hb=>?_
     have h2:=(hF2 b (hF3 b hb)).1
     rw [Below.heap_setCell _ _ _ _ (by simp;omega),Below.heap_setCell _ _ _ _ (by simp;omega)]
    ·repeat refine Below.setCell ?_ (by simp <;> omega) _
     exact hB3
theorem Af5 {lo hi:Int} {zs:List Int} (h:Ns lo hi zs=true):(zs.length:Int)≤hi - lo+1∨zs=[]:=by
 by_cases h0:zs=[]
 ·exact .inr h0
 ·left
  have key:∀i (hi':i < zs.length),lo+i≤zs[i]∧zs[i]≤hi:=by
   intro i
   induction i with
   | zero =>
    intro hi'
    have:=Ib h 0 hi'
    rw [Rn hi'] at this
    simp [Ig] at this
    simpa using this
   | succ i ih =>
    intro hi'
    have:=Ib h (i+1) hi'
    rw [Pn hi'] at this
    have:=ih (by omega)
    simp [Ig] at *
    omega
  have hp:=List.length_pos_iff.2 h0
  have:=key (zs.length - 1) (by omega)
  omega
theorem Aa2 {e:Bl} (h:Be e=true):Iy e.Ai=true∧e.Ah.length≤5∧∀x∈e.Ah,x.Bi.length≤7:=by
 unfold Be at h
 simp only [Bool.and_eq_true,decide_eq_true_eq] at h
 refine ⟨h.1.1,h.1.2,fun x hx=>?_⟩
 obtain ⟨i,hi,rfl⟩:=List.getElem_of_mem hx
 have:=Ib h.2 i hi
 rw [Iu hi] at this
 simp [Jf] at this
 rcases Af5 this.1.2.2.1 with h|h
 ·omega
 ·rw [h];simp
def I3 (l:List Int) (n:Int):Nat:=(l.takeWhile fun x=>decide (x < n)).length
def Ok (l:List Int) (n:Int):List Int:=if l[I3 l n]?=some n then l else l.take (I3 l n)++n::l.drop (I3 l n)
def Ke (e:Bl) (n:Int):Nat:=e.Ah.findIdx fun x=>x.Ae == n
def Lf (e:Bl) (n f:Int):Bl:=match e.Ah[Ke e n]? with
 | some x=>⟨e.Ai,e.Ah.set (Ke e n) ⟨x.Ae,Ok x.Bi f,x.Ca⟩⟩
 | none=>if e.Ah.length < 5 then ⟨e.Ai,e.Ah++[⟨n,[f],e.Ai+6⟩]⟩ else e
def V6 (e:Bl) (n:Int):Bool:=!e.Ah.any fun x=>x.Ae == n
def M9 (e:Bl) (n:Int):Bl:=match e.Ah[Ke e n]? with
 | some _=>⟨e.Ai,e.Ah.take (Ke e n)++e.Ah.drop (Ke e n+1)⟩
 | none=>e
def Qj (e:Bl) (n:Int) (below:List Int):List Int:=match e.Ah[Ke e n]? with
 | some x=>x.Bi.filter fun f=>decide (f∈below)
 | none=>if e.Ah.length=5 then below else []
theorem Ql (e:Bl) (n:Int):(∃(h:Ke e n < e.Ah.length),Ox (fun x=>x.Ae == n) e.Ah=(Ke e n:Nat)∧e.Ah[Ke e n].Ae=n∧V6 e n=false)∨(Ox (fun x=>x.Ae == n) e.Ah=-1∧e.Ah[Ke e n]?=none∧V6 e n=true∧∀x∈e.Ah,x.Ae≠n):=by
 cases h:e.Ah.any fun x=>x.Ae == n
 ·right
  have h':=List.any_eq_false.1 h
  refine ⟨by unfold Ox;rw [h];rfl,?_,by simp [V6,h],fun x hx=>by have:=h' x hx;simpa using this⟩
  have:Ke e n=e.Ah.length:=List.findIdx_eq_length.2 (fun x hx=>by have:=h' x hx;simpa using this)
  rw [this];simp
 ·left
  have h2:Ke e n < e.Ah.length:=by
   obtain ⟨x,hx,hp⟩:=List.any_eq_true.1 h
   exact List.findIdx_lt_length_of_exists ⟨x,hx,hp⟩
  refine ⟨h2,by unfold Ox;rw [h];rfl,?_,by simp [V6,h]⟩
  have:(e.Ah[Ke e n].Ae == n)=true:=List.findIdx_getElem (p:=fun x:Fb=>x.Ae == n) (xs:=e.Ah) (w:=h2)
  simpa using this
theorem Wp {lo hi:Int} {zs:List Int} (h:Ns lo hi zs=true):zs.Pairwise (· < ·)∧∀z∈zs,lo≤z∧z≤hi:=by
 have hb:∀i (hi':i < zs.length),lo≤zs[i]∧zs[i]≤hi:=fun i hi'=>by
  have:=Ib h i hi'
  unfold Xr Ig at this
  simp only [Bool.and_eq_true,decide_eq_true_eq] at this
  rw [List.getD_eq_getElem?_getD,List.getElem?_eq_getElem hi'] at this
  simpa using this.1
 refine ⟨?_,fun z hz=>by obtain ⟨i,hi',rfl⟩:=List.getElem_of_mem hz;exact hb i hi'⟩
 have step:∀i (hi:i+1 < zs.length),zs[i] < zs[i+1]:=fun i hi'=>by
  have:=Ib h (i+1) hi'
  rw [Pn hi'] at this
  simp only [Bool.and_eq_true,decide_eq_true_eq] at this
  exact this.2
 refine List.pairwise_iff_getElem.2 fun i j hi' hj hij=>?_
 obtain ⟨d,rfl⟩:∃d,j=i+1+d:=⟨j - i - 1,by omega⟩
 clear hij
 induction d with
 | zero=>exact step i hj
 | succ d ih=>exact Int.lt_trans (ih (by omega)) (step (i+1+d) hj)
theorem Abm {lo hi:Int} {zs:List Int} (h1:zs.Pairwise (· < ·)) (h2:∀z∈zs,lo≤z∧z≤hi):Ns lo hi zs=true:=by
 unfold Ns
 refine Ip fun i hi'=>?_
 have hb:=h2 zs[i] (List.getElem_mem hi')
 cases i with
 | zero=>rw [Rn hi'];simp [Ig,hb]
 | succ i =>
  rw [Pn hi']
  have:=List.pairwise_iff_getElem.1 h1 i (i+1) (by omega) hi' (by omega)
  simp [Ig,hb,this]
theorem Al6:∀{a b:List Int},a.Pairwise (· < ·)→b.Pairwise (· < ·)→(∀x,x∈a↔x∈b)→a=b
 | [],[],_,_,_=>rfl
 | [],y::b,_,_,h=>absurd ((h y).2 (by simp)) (by simp)
 | x::a,[],_,_,h=>absurd ((h x).1 (by simp)) (by simp)
 | x::a,y::b,h1,h2,h=>by
  have a1:=List.pairwise_cons.1 h1
  have b1:=List.pairwise_cons.1 h2
  have e:x=y:=by
   rcases List.mem_cons.1 ((h x).1 (by simp)) with e|m
   ·exact e
   ·rcases List.mem_cons.1 ((h y).2 (by simp)) with e|m2
    ·exact e.symm
    ·have:=b1.1 x m;have:=a1.1 y m2;omega
  subst e
  congr 1
  refine Al6 a1.2 b1.2 fun z=>⟨fun hz=>?_,fun hz=>?_⟩
  ·rcases List.mem_cons.1 ((h z).1 (by simp [hz])) with e|m
   ·have:=a1.1 z hz;omega
   ·exact m
  ·rcases List.mem_cons.1 ((h z).2 (by simp [hz])) with e|m
   ·have:=b1.1 z hz;omega
   ·exact m
theorem Adu {a b:List Int} (h1:a.Pairwise (· < ·)) (h2:b.Pairwise (· < ·)):(a.filter fun f=>decide (f∈b))=b.filter fun f=>decide (f∈a) :=
 Al6 (h1.filter _) (h2.filter _) fun x=>by simp [and_comm]
theorem Aqd (n:Int):Fn prog 294 [.int .i64 n] [] [] (fun (_:Unit)=>True) (fun _=>.bool false) (fun _=>[]):=by
 refine enter func294 rfl ntmps294 fun w0=>?_
 refine go ?_;intros
 refine ret () trivial ?_
 simp [Pv]
theorem Aq3 (n:Int):Fn prog 278 [.int .i64 n] [] [] (fun (_:Unit)=>True) (fun _=>.bool false) (fun _=>[]):=by
 refine enter func278 rfl ntmps278 fun w0=>?_
 refine go ?_;intros
 refine ret () trivial ?_
 simp [Pv]
theorem Anu (a b:Int):Fn prog 277 [.int .i64 a,.int .i64 b] [] [] (fun (_:Unit)=>True) (fun _=>.bool (decide (a < b))) (fun _=>[]):=by
 refine enter func277 rfl ntmps277 fun w0=>?_
 refine go ?_;intros
 refine cf (Aqd a) fun _ _=>?_
 refine Ap ?_
 refine go ?_;intros
 refine ret () trivial rfl
def Ako (l:List Int) (n:Int):Bool:=decide (l[I3 l n]?=some n)
theorem Wl {l:List Int} {n:Int} {k:Nat} (h1:k≤l.length) (h2:∀j (_:j < k) (h:j < l.length),l[j] < n) (h3:∀h:k < l.length,¬l[k] < n):I3 l n=k:=Sy h1 (fun j hj h=>by simpa using h2 j hj h) (fun h=>by simpa using h3 h)
theorem Ant (xs:List Int) (n:Int) (a:Option Addr) (c:Nat) (F:List Nat) (hs:xs.Pairwise (· < ·)) (hl:xs.length≤1000000):Fn prog 249 [.slice a xs.length c,.int .i64 n] [.sl Bd (.slice a xs.length c) xs F] [] (fun (_:Unit)=>True) (fun _=>.tuple #[.int .i64 (I3 xs n:Nat),.bool (Ako xs n)]) (fun _=>[]):=by
 have hm:=List.pairwise_iff_getElem.1 hs
 refine enter func249 rfl ntmps249 fun w0=>?_
 refine go ?_;intros
 refine Dv [0,1,4,5,6] (fun s:Nat × Nat=>[(7,.int .i64 (s.1:Nat)),(8,.int .i64 (s.2:Nat))]) (fun s=>s.1≤s.2∧s.2≤xs.length∧(∀j (_:j < s.1) (h:j < xs.length),xs[j] < n)∧(∀j (_:s.2≤j) (h:j < xs.length),¬xs[j] < n)) (fun s=>s.2 - s.1) (0,xs.length) ⟨Nat.zero_le _,Nat.le_refl _,fun j h=>by omega,fun j h1 h2=>by omega⟩ fun s hs=>?_
 obtain ⟨i,j⟩:=s
 obtain ⟨h1,h2,h3,h4⟩:=hs
 dsimp only at h1 h2 h3 h4 ⊢
 refine go ?_;intros
 refine Bg rfl (fun h5=>?_) (fun h5=>?_)
 ·have hh:(i+j) / 2 < xs.length:=by omega
  have e2:((i:Int)+(j:Int)) / 2=(((i+j) / 2:Nat):Int):=by omega
  refine go ?_;intros
  apply wO;apply oc;rfl;exact Agn rfl (by omega) (by omega)
  refine go ?_;intros
  apply wO;apply oc;rfl;exact Ac7 rfl
  rw [e2]
  apply wO;apply oc;rfl;exact Ahn rfl (by omega) (by omega)
  generalize hq:(i+j) / 2=q at hh
  refine go ?_;intros
  refine In (xs:=xs) q ?_
  rintro hi b o e
  rw [e]
  refine go ?_;intros
  refine cf (Anu _ _) fun _ _=>?_
  refine Ap ?_
  refine go ?_;intros
  refine Bg rfl (fun h6=>?_) (fun h6=>?_)
  ·refine go ?_;intros
   refine Rs ?_
   refine Ck (hH:=I6 _) (q+1,j) ⟨by show q+1≤j;omega,h2,fun k hk h=>?_,h4⟩ (by show j - (q+1) < j - i;omega)
   rcases Nat.lt_or_eq_of_le (Nat.lt_succ_iff.1 (show k < q+1 from hk)) with hk|rfl
   ·have:=hm k q h hh hk;omega
   ·exact h6
  ·refine go ?_;intros
   refine Rs ?_
   refine Ck (hH:=I6 _) (i,q) ⟨by show i≤q;omega,by show q≤xs.length;omega,h3,fun k hk h hn=>h6 ?_⟩ (by show q - i < j - i;omega)
   rcases Nat.lt_or_eq_of_le (show q≤k from hk) with hk|rfl
   ·have:=hm q k hh h hk;omega
   ·exact hn
 ·have hij:i=j:=by omega
  subst hij
  have hk:I3 xs n=i:=Wl h2 h3 (fun h=>h4 i (Nat.le_refl _) h)
  unfold Ako
  rw [hk]
  refine go ?_;intros
  refine Dc rfl rfl (fun h6=>?_) (fun h6=>?_)
  ·have hh:i < xs.length:=by omega
   rw [List.getElem?_eq_getElem hh]
   refine go ?_;intros
   refine In (xs:=xs) i ?_
   rintro hi b o e
   rw [e]
   refine go ?_;intros
   refine Dc rfl rfl (fun h7=>?_) (fun h7=>?_)
   ·refine go ?_;intros
    refine ret () trivial ?_
    rw [decide_eq_true (by simpa using h7)];rfl
   ·refine go ?_;intros
    refine cf (Aq3 _) fun _ _=>?_
    refine Ap ?_
    refine go ?_;intros
    refine ret () trivial ?_
    rw [decide_eq_false (by simpa using h7)];rfl
  ·refine go ?_;intros
   refine ret () trivial ?_
   rw [List.getElem?_eq_none (by omega)];rfl
theorem Aqk (xs:List Int) (n:Int) (a:Option Addr) (c:Nat) (F:List Nat):Fn prog 223 [.slice a xs.length c,.int .i64 n] [.sl Bd (.slice a xs.length c) xs F] [] (fun (_:Unit)=>True) (fun _=>.int .i64 (Ox (fun x=>x == n) xs)) (fun _=>[]):=by
 refine enter func223 rfl ntmps223 fun w0=>?_
 refine Tp (xs:=xs) ?_
 rintro _ _ - l2 l3
 refine go ?_;intros
 refine Dv [0,1,4,7] (fun k:Nat=>[(8,.int .i64 (k:Nat))]) (fun k=>k≤xs.length∧∀j (_:j < k) (hj:j < xs.length),(xs[j] == n)=false) (fun k=>xs.length - k) 0 ⟨Nat.zero_le _,fun j h=>by omega⟩ fun k hk=>?_
 obtain ⟨hk1,hk2⟩:=hk
 refine go ?_;intros
 refine Bg rfl (fun h1=>?_) (fun h1=>?_)
 ·have hh:k < xs.length:=by omega
  refine go ?_;intros
  refine In (xs:=xs) k ?_
  rintro hi b o e1
  rw [e1]
  refine go ?_;intros
  refine Bg rfl (fun h2=>?_) (fun h2=>?_)
  ·refine go ?_;intros
   refine ret () trivial ?_
   rw [M4 hh hk2 (by simpa using h2.symm)];rfl
  ·refine go ?_;intros
   refine Ck (k+1) ⟨hh,fun j hj hl=>?_⟩ (by omega)
   rcases Nat.lt_or_eq_of_le (Nat.lt_succ_iff.1 hj) with h|rfl
   ·exact hk2 j h hl
   ·simpa using fun e=>h2 e.symm
 ·obtain rfl:k=xs.length:=by omega
  refine go ?_;intros
  refine ret () trivial ?_
  rw [Ly (fun j hj=>hk2 j hj hj)];rfl
theorem Ans (l:List Int) (n:Int):(l.any fun x=>x == n)=decide (n∈l):=by
 rw [Bool.eq_iff_iff,List.any_eq_true,decide_eq_true_eq]
 exact ⟨fun ⟨x,hx,h⟩=>by simp at h;exact h▸hx,fun h=>⟨n,h,by simp⟩⟩
theorem Aks (xs:List Int) (n:Int) (a:Option Addr) (c:Nat) (F:List Nat):Fn prog 168 [.slice a xs.length c,.int .i64 n] [.sl Bd (.slice a xs.length c) xs F] [] (fun (_:Unit)=>True) (fun _=>.bool (decide (n∈xs))) (fun _=>[]):=by
 refine enter func168 rfl ntmps168 fun w0=>?_
 refine go ?_;intros
 refine cf (Aqk xs n _ _ F) fun _ _=>?_
 refine Ap ?_
 refine go ?_;intros
 refine ret () trivial ?_
 rw [Qk,Ans];rfl
theorem Ama (y:Int) (w:World):Cw Bd w [.int .i64 y] [y] []:=⟨_,[],[],[],by simp,by simp,⟨rfl,rfl⟩,rfl,rfl⟩
theorem Aka (xs:List Int) (y:Int) (i:Nat) (a:Option Addr) (c vb:Nat) (F:List Nat) (hi:i≤xs.length) (hl:xs.length≤1000000) :
  Fn prog 250 [.slice a xs.length c,.int .i64 i,.slice (some ⟨vb,0,none⟩) 1 1] [] [.ow Bd 3 (.slice a xs.length c) xs F,.row vb 3 0 [] [.int .i64 y] []] (fun (_:Option Addr × Nat × List Nat)=>True)
   (fun z=>.slice z.1 (xs.take i++y::xs.drop i).length z.2.1) (fun z=>[.ow Bd 3 (.slice z.1 (xs.take i++y::xs.drop i).length z.2.1) (xs.take i++y::xs.drop i) z.2.2]):=by
 have hone:∀w':World,∀cs:List Value,Cw Bd w' cs xs []→∀u∈cs,u.oneCell'=true:=fun w' cs h=>h.one' C8
 have hy:=Ama y
 have h1y:∀u∈([.int .i64 y]:List Value),u.oneCell'=true:=by intro u hu;simp at hu;rcases hu with rfl|rfl|rfl|rfl <;> rfl
 refine enter func250 rfl ntmps250 fun w0=>?_
 refine Ahh (E:=Bd) fun hc1 hc2=>?_
 refine go ?_;intros
 apply wO
 refine Acm rfl rfl rfl rfl hi (fun _=>?_) hc1
 refine go ?_;intros
 refine Bg rfl (fun h1=>?_) (fun h1=>?_)
 ·have hin:i=xs.length:=by omega
  subst hin
  have e:xs.take xs.length++y::xs.drop xs.length=xs++[y]:=by simp
  refine go ?_;intros
  apply wO
  refine Mf hy C8 fun a2 c2 F2=>?_
  rw [e]
  refine go ?_;intros
  refine ret (a2,c2,F2) trivial rfl
 ·have hlt:i < xs.length:=by omega
  refine Ac1 (xs:=xs) Du (by rintro rfl;simp at hlt) ?_
  rintro g cs rest rfl - - - hcl hcr hfl
  rw [show Bd.sz=1 from rfl] at hcl hcr
  have h1c:=hone w0 cs (hfl w0)
  obtain ⟨A,B,hcs,hA,hB⟩:∃A B,cs=A++B∧A=cs.take (i * 1)∧B=cs.drop (i * 1):=⟨_,_,(List.take_append_drop _ _).symm,rfl,rfl⟩
  have hAl:A.length=i * 1:=by rw [hA,List.length_take];omega
  have hBl:B.length=(xs.length - i) * 1:=by rw [hB,List.length_drop];omega
  have hins:∀w,Cw Bd w (A++[.int .i64 y]++B) (xs.take i++y::xs.drop i) []:=fun w=>by rw [hA,hB];exact (hfl w).insL (hy w) i hi
  have h1A:∀u∈A,u.oneCell'=true:=fun u hu=>h1c u (by rw [hcs];simp [hu])
  have h1B:∀u∈B,u.oneCell'=true:=fun u hu=>h1c u (by rw [hcs];simp [hu])
  have hlen:(xs.take i++y::xs.drop i).length=xs.length+1:=by simp;omega
  clear hA hB hfl hone
  subst hcs
  have eA:A=((A++B++rest).drop 0).take (i * 1):=by rw [List.drop_zero,List.append_assoc,List.take_left' hAl]
  have eB:B=((A++B++rest).drop (0+i * 1)).take ((xs.length - i) * 1):=by rw [Nat.zero_add,List.append_assoc,List.drop_left' hAl,List.take_left' hBl]
  rw [hlen]
  refine go ?_;intros
  apply wO;apply oc;rfl;exact Agm rfl
  refine go ?_;intros
  refine Bg rfl (fun h2=>?_) (fun h2=>?_)
  ·refine go ?_;intros
   apply wO;apply oc;rfl;exact Mc (i:=i) rfl rfl rfl (by omega) (by omega)
   refine go ?_;intros
   apply wO
   refine Afy (k:=xs.length+1 - i) (olds:=A) rfl rfl rfl (by omega) (Kj (m:=i * 1) (.head _) eA) (by omega) (by decide) (by omega) (by omega) (by omega) (by omega) fun g' cp' Z rest' h3 h4 h5 h6=>?_
   rw [show i+(xs.length+1 - i)=xs.length+1 by omega] at h3 ⊢
   obtain ⟨Z1,Z2,rfl,hZ1,hZ2⟩:∃Z1 Z2,Z=Z1++Z2∧Z1.length=1∧Z2.length=B.length:=⟨Z.take 1,Z.drop 1,(List.take_append_drop _ _).symm,by rw [List.length_take];omega,by rw [List.length_drop];omega⟩
   refine go ?_;intros
   apply wO;apply oc;rfl;exact Iz (i:=i) rfl rfl rfl (by omega) (by omega) (by omega)
   refine go ?_;intros
   apply wO
   refine Sc (cs:=[.int .i64 y]) (L':=A++[.int .i64 y]++(Z2++rest')) rfl rfl rfl (Kj (L:=[.int .i64 y]) (o:=0) (m:=1) (by exact B8) rfl) .here (Xx (M:=Z1) (by simp [List.append_assoc]) (by omega) (by simpa using hZ1)) (by show 1=min 1 (xs.length+1 - i) * 1;omega) (by simp only [List.length_append,List.length_cons,List.length_nil];omega) h1y ?_
   refine go ?_;intros
   refine As [] [] ?_
   refine dt 0 ?_
   refine dt 1 ?_
   refine dt 2 ?_
   refine dt 3 ?_
   refine dt 4 ?_ (hy:=Iz (i:=i+1) rfl rfl (by omega) (by omega) (by omega) (by omega))
   refine dt 5 ?_
   refine dt 6 ?_
   refine dt 7 ?_ (hy:=Iz (i:=i) rfl rfl (by omega) (by omega) (by omega) (by omega))
   refine dO 8 (by kernel_rfl) (by rw [List.getElem?_toArray];rfl) ?_
   refine Sc (cs:=B) (L':=A++[.int .i64 y]++B++rest') rfl rfl rfl (Kj (by exact B8) eB) .here (Xx (P:=A++[.int .i64 y]) (M:=Z2) (by simp [List.append_assoc]) (by simp only [List.length_append,List.length_cons,List.length_nil];omega) hZ2) (by rw [hBl];congr 1;show _=min (xs.length - i) (xs.length+1 - (i+1));omega) (by simp only [List.length_append,List.length_cons,List.length_nil];omega) h1B ?_
   refine dk ?_
   refine dd ?_
   refine Ws (cs:=A++[.int .i64 y]++B) (rest:=rest') (xs:=xs.take i++y::xs.drop i) cp' rfl hins (by omega) h4 (by rw [show Bd.sz=1 from rfl];simp only [List.length_append,List.length_cons,List.length_nil] at h6 ⊢;omega) ?_
   rw [hlen]
   refine go ?_;intros
   refine ret (_,cp',[g']) trivial rfl
  ·have hcx:xs.length+1≤c:=by omega
   obtain ⟨X,Y,hXY,hX,hY⟩:=Agb (B:=B) (R:=rest) 1 (by omega)
   refine go ?_;intros
   apply wO;apply oc;rfl;exact Mc (i:=xs.length+1) rfl rfl (by omega) (by omega) (by omega)
   refine go ?_;intros
   apply wO;apply oc;rfl;exact Iz (i:=i+1) rfl rfl (by omega) (by omega) (by omega) (by omega)
   refine Jm ?_;intros
   apply wO
   refine Alu rfl Bf (ovl (tS:=24) (tR:=4) (run_callFunc_extern func279 (by kernel_rfl) (by kernel_rfl) (by kernel_rfl) (e:=Extern.SlicesOverlaps.overlaps #[24,24] #[4]) (by kernel_rfl)) (.there .here) (.head _) (by intro e;have:=congrArg List.length e;simp only [List.length_append,List.length_nil] at this;omega)) ?_
   refine go ?_;intros
   refine As [] [] ?_
   refine dt 0 ?_
   refine dt 1 ?_
   refine dt 2 ?_
   refine dt 3 ?_
   refine dt 4 ?_ (hy:=Iz (i:=i+1) rfl rfl (by omega) (by omega) (by omega) (by omega))
   refine dt 5 ?_
   refine dt 6 ?_
   refine dt 7 ?_ (hy:=Iz (i:=i) rfl rfl (by omega) (by omega) (by omega) (by omega))
   refine dO 8 (by kernel_rfl) (by rw [List.getElem?_toArray];rfl) ?_
   refine Sc (cs:=B) (L':=A++X++B++rest.drop 1) rfl rfl rfl (Kj (by exact B8) eB) .here (Xx (P:=A++X) (M:=Y) (by rw [List.append_assoc A B rest,hXY];simp [List.append_assoc]) (by simp only [List.length_append];omega) hY) (by rw [hBl];congr 1;show _=min (xs.length+1 - i) (xs.length+1 - (i+1));omega) (by simp only [List.length_append];omega) h1B ?_
   refine dk ?_
   refine dd ?_
   refine go ?_;intros
   apply wO;apply oc;rfl;exact Iz (i:=i) rfl rfl rfl (by omega) (by omega) (by omega)
   refine go ?_;intros
   apply wO
   refine Sc (cs:=[.int .i64 y]) (L':=A++[.int .i64 y]++(B++rest.drop 1)) rfl rfl rfl (Kj (L:=[.int .i64 y]) (o:=0) (m:=1) (by exact B8) rfl) .here (Xx (M:=X) (by simp [List.append_assoc]) (by omega) (by simpa using hX)) (by show 1=min 1 (xs.length+1 - i) * 1;omega) (by simp only [List.length_append,List.length_cons,List.length_nil];omega) h1y ?_
   refine go ?_;intros
   refine Ws (L:=A++[.int .i64 y]++(B++rest.drop 1)) (cs:=A++[.int .i64 y]++B) (rest:=rest.drop 1) (xs:=xs.take i++y::xs.drop i) c (by simp [List.append_assoc]) hins (by omega) (by omega) (by rw [show Bd.sz=1 from rfl];simp only [List.length_append,List.length_cons,List.length_nil,List.length_drop];omega) ?_
   rw [hlen]
   refine ret (_,c,[g]) trivial rfl
theorem P7 (t:Nl) (v:Value) (F:List Nat):Fn prog 43 [v] [.isv Pd v t F] [] (fun (_:Unit)=>True) (fun _=>.bool (Er t)) (fun _=>[]):=by
 refine enter func43 rfl ntmps43 fun w0=>?_
 refine M7 ?_
 rintro a1 c1 F1 rfl l1
 unfold maxLen at l1
 refine go ?_;intros
 refine Dv [1,2,6,7] (fun k:Nat=>[(8,.int .i64 (k:Nat))]) (fun k=>k≤t.Ac.length∧∀j,j < k→Xp t.Ac j=true) (fun k=>t.Ac.length - k) 0 ⟨Nat.zero_le _,fun j h=>by omega⟩ fun k hk=>?_
 obtain ⟨hk1,hk2⟩:=hk
 refine go ?_;intros
 refine Bg rfl (fun h1=>?_) (fun h1=>?_)
 ·have hh:k < t.Ac.length:=by omega
  refine In (xs:=t.Ac) k ?_
  rintro hi b o e1
  rw [e1]
  refine go ?_;intros
  refine Dc rfl rfl (fun h2=>?_) (fun h2=>?_)
  ·obtain rfl:k=0:=by omega
   refine go ?_;intros
   refine Dc rfl rfl (fun h3=>?_) (fun h3=>?_)
   ·refine go ?_;intros
    rw [U9 hh (by rw [Nq hh];exact decide_eq_false h3)]
    refine ret () trivial rfl
   ·refine go ?_;intros
    refine Ck 1 ⟨hh,fun j hj=>by obtain rfl:j=0:=(by omega);rw [Nq hh];exact decide_eq_true (by omega)⟩ (by show t.Ac.length - 1 < t.Ac.length - 0;omega)
  ·refine go ?_;intros
   refine Dc rfl rfl (fun h3=>?_) (fun h3=>?_)
   ·refine go ?_;intros
    refine ce (fun w s=>Ie _ _ _ w) ?_
    cases g:Ig 0 t.Ac[k] ((k:Int) - 1)
    ·refine go ?_;intros
     rw [U9 hh (by rw [O8 hh (by omega)];exact g)]
     refine ret () trivial rfl
    ·refine go ?_;intros
     refine Ck (k+1) ⟨hh,fun j hj=>?_⟩ (by show t.Ac.length - (k+1) < t.Ac.length - k;omega)
     rcases Nat.lt_or_eq_of_le (Nat.lt_succ_iff.1 hj) with h|rfl
     ·exact hk2 j h
     ·rw [O8 hh (by omega)];exact g
   ·exact absurd h3 (by omega)
 ·obtain rfl:k=t.Ac.length:=by omega
  refine go ?_;intros
  refine ce (fun w s=>Ie _ _ _ w) ?_
  refine go ?_;intros
  refine ret () trivial ?_
  unfold Er
  rw [Ip hk2,Bool.and_true];rfl
theorem Za (t:Nl) (v:Value) (F:List Nat):Fn prog 68 [v] [.isv Pd v t F] [] (fun (_:Unit)=>True) (fun _=>.bool (Er t)) (fun _=>[]):=by
 refine enter func68 rfl ntmps68 fun w0=>?_
 refine M7 ?_
 rintro a1 c1 F1 rfl l1
 unfold maxLen at l1
 refine go ?_;intros
 refine ce (fun w s=>Kg _ _ _ w) ?_
 cases g0:Ig 2 (t.Ac.length:Int) 8
 ·rw [Ah8 g0]
  refine go ?_;intros
  refine ret () trivial rfl
 have hb:2≤t.Ac.length∧t.Ac.length≤8:=by
  unfold Ig at g0
  simp only [Bool.and_eq_true,decide_eq_true_eq] at g0
  omega
 have h0:0 < t.Ac.length:=by omega
 refine In (xs:=t.Ac) 0 ?_
 rintro hi b o e1
 rw [e1]
 refine go ?_;intros
 refine Bg rfl (fun h2=>?_) (fun h2=>?_)
 ·refine go ?_;intros
  rw [U9 h0 (by rw [Nq h0];exact decide_eq_false h2)]
  refine ret () trivial rfl
 refine go ?_;intros
 refine Dv [1,2,3] (fun k:Nat=>[(4,.int .i64 ((k+1:Nat):Int))]) (fun k=>k+1≤t.Ac.length∧∀j,j < k+1→Xp t.Ac j=true) (fun k=>t.Ac.length - k) 0 ⟨by omega,fun j h=>by obtain rfl:j=0:=(by omega);rw [Nq h0];exact decide_eq_true (by omega)⟩ fun k hk=>?_
 obtain ⟨hk1,hk2⟩:=hk
 refine go ?_;intros
 refine Bg rfl (fun h1=>?_) (fun h1=>?_)
 ·have hh:k+1 < t.Ac.length:=by omega
  refine In (a:=some ⟨b,o,none⟩) (xs:=t.Ac) (k+1) ?_
  rintro hi2 _ _ e2
  cases e2
  refine go ?_;intros
  refine ce (fun w s=>Kg _ _ _ w) ?_
  cases g:Ig 0 t.Ac[k+1] (((k+1:Nat):Int) - 1)
  ·refine go ?_;intros
   rw [U9 hh (by rw [O8 hh (by omega)];exact g)]
   refine ret () trivial rfl
  ·refine go ?_;intros
   refine Ck (k+1) ⟨hh,fun j hj=>?_⟩ (by show t.Ac.length - (k+1) < t.Ac.length - k;omega)
   rcases Nat.lt_or_eq_of_le (Nat.lt_succ_iff.1 hj) with h|rfl
   ·exact hk2 j h
   ·rw [O8 hh (by omega)];exact g
 ·have hk:k+1=t.Ac.length:=by omega
  refine go ?_;intros
  refine ret () trivial ?_
  unfold Er
  rw [g0,Ip (fun j hj=>hk2 j (by omega))];rfl
section
variable {c:Cx} {fr:Fr} {H:List Pc} {Φ:Gl}
theorem Di {v:Value} {x:D9} {F:List Nat} (h:∀(a1:Option Addr) (c1:Nat) (F1:List Nat) (a2:Option Addr) (c2:Nat) (F2:List Nat) (a3:Option Addr) (c3:Nat) (F3:List Nat) (a4:Option Addr) (c4:Nat) (F4:List Nat) (a5:Option Addr) (c5:Nat) (F5:List Nat) (a6:Option Addr) (c6:Nat) (F6:List Nat) (a7:Option Addr) (c7:Nat) (F7:List Nat),v=.agg #[.slice a1 x.Am.Ac.length c1,.int .i64 x.Ab.Aa.Al,.int .i64 x.Ab.Aa.size,.slice a2 x.Ab.Aa.Aj.length c2,.int .i64 x.Ab.Ai,.int .i64 x.Ab.quiet,.slice a3 x.Ab.holds.length c3,.slice a4 x.Af.length c4,.slice a5 x.Ad.length c5,.slice a6 x.down.length c6,.slice a7 x.up.length c7]→x.Am.Ac.length≤maxLen→x.Ab.Aa.Aj.length≤maxLen→x.Ab.holds.length≤maxLen→x.Af.length≤maxLen→x.Ad.length≤maxLen→x.down.length≤maxLen→x.up.length≤maxLen→T c fr (.sl Bd (.slice a1 x.Am.Ac.length c1) x.Am.Ac F1::.sl Ba (.slice a2 x.Ab.Aa.Aj.length c2) x.Ab.Aa.Aj F2::.sl Bj (.slice a3 x.Ab.holds.length c3) x.Ab.holds F3::.sl Bn (.slice a4 x.Af.length c4) x.Af F4::.sl B4 (.slice a5 x.Ad.length c5) x.Ad F5::.sl (Md Ak (by decide)) (.slice a6 x.down.length c6) x.down F6::.sl (Md Ak (by decide)) (.slice a7 x.up.length c7) x.up F7::H) Φ) (hm:.isv Le v x F∈H:=by exact B8):T c fr H Φ:=.mk fun a w s g=>by
 obtain ⟨cs,rfl,v1,v2,v3,v4,v5,v6,v7,G1,G2,G3,G4,G5,G6,G7,rfl,h1,h2,h3,h4,h5,h6,h7,rfl⟩:=s.get hm
 obtain ⟨a1,c1,rfl⟩:=h1.slice;have l1:=h1.len
 obtain ⟨a2,c2,rfl⟩:=h2.slice;have l2:=h2.len
 obtain ⟨a3,c3,rfl⟩:=h3.slice;have l3:=h3.len
 obtain ⟨a4,c4,rfl⟩:=h4.slice;have l4:=h4.len
 obtain ⟨a5,c5,rfl⟩:=h5.slice;have l5:=h5.len
 obtain ⟨a6,c6,rfl⟩:=h6.slice;have l6:=h6.len
 obtain ⟨a7,c7,rfl⟩:=h7.slice;have l7:=h7.len
 have t7:=s.ro (p:=.sl (Md Ak (by decide)) (.slice a7 x.up.length c7) x.up G7) hm rfl rfl ⟨by decide,h7⟩ (by intro b hb;simp only [Pc.F] at hb ⊢;simp [hb])
 have t6:=t7.ro (p:=.sl (Md Ak (by decide)) (.slice a6 x.down.length c6) x.down G6) (List.mem_cons_of_mem _ hm) rfl rfl ⟨by decide,h6⟩ (by intro b hb;simp only [Pc.F] at hb ⊢;simp [hb])
 have t5:=t6.ro (p:=.sl B4 (.slice a5 x.Ad.length c5) x.Ad G5) (List.mem_cons_of_mem _ (List.mem_cons_of_mem _ hm)) rfl rfl ⟨by decide,h5⟩ (by intro b hb;simp only [Pc.F] at hb ⊢;simp [hb])
 have t4:=t5.ro (p:=.sl Bn (.slice a4 x.Af.length c4) x.Af G4) (List.mem_cons_of_mem _ (List.mem_cons_of_mem _ (List.mem_cons_of_mem _ hm))) rfl rfl ⟨by decide,h4⟩ (by intro b hb;simp only [Pc.F] at hb ⊢;simp [hb])
 have t3:=t4.ro (p:=.sl Bj (.slice a3 x.Ab.holds.length c3) x.Ab.holds G3) (List.mem_cons_of_mem _ (List.mem_cons_of_mem _ (List.mem_cons_of_mem _ (List.mem_cons_of_mem _ hm)))) rfl rfl ⟨by decide,h3⟩ (by intro b hb;simp only [Pc.F] at hb ⊢;simp [hb])
 have t2:=t3.ro (p:=.sl Ba (.slice a2 x.Ab.Aa.Aj.length c2) x.Ab.Aa.Aj G2) (List.mem_cons_of_mem _ (List.mem_cons_of_mem _ (List.mem_cons_of_mem _ (List.mem_cons_of_mem _ (List.mem_cons_of_mem _ hm))))) rfl rfl ⟨by decide,h2⟩ (by intro b hb;simp only [Pc.F] at hb ⊢;simp [hb])
 have t1:=t2.ro (p:=.sl Bd (.slice a1 x.Am.Ac.length c1) x.Am.Ac G1) (List.mem_cons_of_mem _ (List.mem_cons_of_mem _ (List.mem_cons_of_mem _ (List.mem_cons_of_mem _ (List.mem_cons_of_mem _ (List.mem_cons_of_mem _ hm)))))) rfl rfl ⟨by decide,h1⟩ (by intro b hb;simp only [Pc.F] at hb ⊢;simp [hb])
 exact (h a1 c1 G1 a2 c2 G2 a3 c3 G3 a4 c4 G4 a5 c5 G5 a6 c6 G6 a7 c7 G7 rfl  l1 l2 l3 l4 l5 l6 l7).h a w t1 g
theorem Is (x:D9) {a1:Option Addr} {c1:Nat} {F1:List Nat} {a2:Option Addr} {c2:Nat} {F2:List Nat} {a3:Option Addr} {c3:Nat} {F3:List Nat} {a4:Option Addr} {c4:Nat} {F4:List Nat} {a5:Option Addr} {c5:Nat} {F5:List Nat} {a6:Option Addr} {c6:Nat} {F6:List Nat} {a7:Option Addr} {c7:Nat} {F7:List Nat}  (h:T c fr (.isv Le (.agg #[.slice a1 x.Am.Ac.length c1,.int .i64 x.Ab.Aa.Al,.int .i64 x.Ab.Aa.size,.slice a2 x.Ab.Aa.Aj.length c2,.int .i64 x.Ab.Ai,.int .i64 x.Ab.quiet,.slice a3 x.Ab.holds.length c3,.slice a4 x.Af.length c4,.slice a5 x.Ad.length c5,.slice a6 x.down.length c6,.slice a7 x.up.length c7]) x (F1++F2++F3++F4++F5++F6++F7)::H) Φ) (m1:.sl Bd (.slice a1 x.Am.Ac.length c1) x.Am.Ac F1∈H:=by exact B8) (m2:.sl Ba (.slice a2 x.Ab.Aa.Aj.length c2) x.Ab.Aa.Aj F2∈H:=by exact B8) (m3:.sl Bj (.slice a3 x.Ab.holds.length c3) x.Ab.holds F3∈H:=by exact B8) (m4:.sl Bn (.slice a4 x.Af.length c4) x.Af F4∈H:=by exact B8) (m5:.sl B4 (.slice a5 x.Ad.length c5) x.Ad F5∈H:=by exact B8) (m6:.sl (Md Ak (by decide)) (.slice a6 x.down.length c6) x.down F6∈H:=by exact B8) (m7:.sl (Md Ak (by decide)) (.slice a7 x.up.length c7) x.up F7∈H:=by exact B8):T c fr H Φ:=.mk fun a w s g=>by
 have hP:Pt Le w (.agg #[.slice a1 x.Am.Ac.length c1,.int .i64 x.Ab.Aa.Al,.int .i64 x.Ab.Aa.size,.slice a2 x.Ab.Aa.Aj.length c2,.int .i64 x.Ab.Ai,.int .i64 x.Ab.quiet,.slice a3 x.Ab.holds.length c3,.slice a4 x.Af.length c4,.slice a5 x.Ad.length c5,.slice a6 x.down.length c6,.slice a7 x.up.length c7]) x (F1++F2++F3++F4++F5++F6++F7):=⟨_,rfl,_,_,_,_,_,_,_,_,_,_,_,_,_,_,rfl,(s.get m1).2,(s.get m2).2,(s.get m3).2,(s.get m4).2,(s.get m5).2,(s.get m6).2,(s.get m7).2,rfl⟩
 refine h.h a w (s.add (N:=[.isv Le (.agg #[.slice a1 x.Am.Ac.length c1,.int .i64 x.Ab.Aa.Al,.int .i64 x.Ab.Aa.size,.slice a2 x.Ab.Aa.Aj.length c2,.int .i64 x.Ab.Ai,.int .i64 x.Ab.quiet,.slice a3 x.Ab.holds.length c3,.slice a4 x.Af.length c4,.slice a5 x.Ad.length c5,.slice a6 x.down.length c6,.slice a7 x.up.length c7]) x (F1++F2++F3++F4++F5++F6++F7)]) (Below.refl _ _) (by intro q hq;obtain rfl:=List.mem_singleton.1 hq;exact hP) ⟨by simp,trivial⟩ fun q hq b hb=>?_) g
 obtain rfl:=List.mem_singleton.1 hq
 simp only [Pc.F,List.mem_append] at hb
 rcases hb with (((((hb|hb)|hb)|hb)|hb)|hb)|hb
 ·exact .inr ⟨rfl,_,m1,rfl,hb⟩
 ·exact .inr ⟨rfl,_,m2,rfl,hb⟩
 ·exact .inr ⟨rfl,_,m3,rfl,hb⟩
 ·exact .inr ⟨rfl,_,m4,rfl,hb⟩
 ·exact .inr ⟨rfl,_,m5,rfl,hb⟩
 ·exact .inr ⟨rfl,_,m6,rfl,hb⟩
 ·exact .inr ⟨rfl,_,m7,rfl,hb⟩
theorem Alz {v:Value} {x:D9} {F:List Nat} {S:List Pc} (h:∀(a1:Option Addr) (c1:Nat) (F1:List Nat) (a2:Option Addr) (c2:Nat) (F2:List Nat) (a3:Option Addr) (c3:Nat) (F3:List Nat) (a4:Option Addr) (c4:Nat) (F4:List Nat) (a5:Option Addr) (c5:Nat) (F5:List Nat) (a6:Option Addr) (c6:Nat) (F6:List Nat) (a7:Option Addr) (c7:Nat) (F7:List Nat),v=.agg #[.slice a1 x.Am.Ac.length c1,.int .i64 x.Ab.Aa.Al,.int .i64 x.Ab.Aa.size,.slice a2 x.Ab.Aa.Aj.length c2,.int .i64 x.Ab.Ai,.int .i64 x.Ab.quiet,.slice a3 x.Ab.holds.length c3,.slice a4 x.Af.length c4,.slice a5 x.Ad.length c5,.slice a6 x.down.length c6,.slice a7 x.up.length c7]→x.Am.Ac.length≤maxLen→x.Ab.Aa.Aj.length≤maxLen→x.Ab.holds.length≤maxLen→x.Af.length≤maxLen→x.Ad.length≤maxLen→x.down.length≤maxLen→x.up.length≤maxLen→T c fr (.ow Bd 3 (.slice a1 x.Am.Ac.length c1) x.Am.Ac F1::.ow Ba 9 (.slice a2 x.Ab.Aa.Aj.length c2) x.Ab.Aa.Aj F2::.ow Bj 134 (.slice a3 x.Ab.holds.length c3) x.Ab.holds F3::.ow Bt 77 (.slice a4 x.Af.length c4) x.Af F4::.ow Bk 84 (.slice a5 x.Ad.length c5) x.Ad F5::.ow (Hi Ak 110) 86 (.slice a6 x.down.length c6) x.down F6::.ow (Hi Ak 110) 86 (.slice a7 x.up.length c7) x.up F7::S) Φ) (hp:C0 H (.own Aab v x F) S:=by exact D0):T c fr H Φ:=.mk fun a w s g=>by
 have z1:=s.pick hp
 obtain ⟨hn,cs,rfl,v1,v2,v3,v4,v5,v6,v7,G1,G2,G3,G4,G5,G6,G7,rfl,h1,h2,h3,h4,h5,h6,h7,rfl⟩:=z1.on (.own Aab v x F) (by simp)
 obtain ⟨a1,c1,rfl⟩:=h1.slice;have l1:=h1.len
 obtain ⟨a2,c2,rfl⟩:=h2.slice;have l2:=h2.len
 obtain ⟨a3,c3,rfl⟩:=h3.slice;have l3:=h3.len
 obtain ⟨a4,c4,rfl⟩:=h4.slice;have l4:=h4.len
 obtain ⟨a5,c5,rfl⟩:=h5.slice;have l5:=h5.len
 obtain ⟨a6,c6,rfl⟩:=h6.slice;have l6:=h6.len
 obtain ⟨a7,c7,rfl⟩:=h7.slice;have l7:=h7.len
 have hn2:=hn;simp only [List.nodup_append,List.mem_append] at hn2
 refine (h a1 c1 G1 a2 c2 G2 a3 c3 G3 a4 c4 G4 a5 c5 G5 a6 c6 G6 a7 c7 G7 rfl  l1 l2 l3 l4 l5 l6 l7).h a w (St.turn (M:=[.own Aab (.agg #[.slice a1 x.Am.Ac.length c1,.int .i64 x.Ab.Aa.Al,.int .i64 x.Ab.Aa.size,.slice a2 x.Ab.Aa.Aj.length c2,.int .i64 x.Ab.Ai,.int .i64 x.Ab.quiet,.slice a3 x.Ab.holds.length c3,.slice a4 x.Af.length c4,.slice a5 x.Ad.length c5,.slice a6 x.down.length c6,.slice a7 x.up.length c7]) x _]) (N:=[.ow Bd 3 (.slice a1 x.Am.Ac.length c1) x.Am.Ac G1,.ow Ba 9 (.slice a2 x.Ab.Aa.Aj.length c2) x.Ab.Aa.Aj G2,.ow Bj 134 (.slice a3 x.Ab.holds.length c3) x.Ab.holds G3,.ow Bt 77 (.slice a4 x.Af.length c4) x.Af G4,.ow Bk 84 (.slice a5 x.Ad.length c5) x.Ad G5,.ow (Hi Ak 110) 86 (.slice a6 x.down.length c6) x.down G6,.ow (Hi Ak 110) 86 (.slice a7 x.up.length c7) x.up G7]) z1 (Dy.refl _ w) ?_ ?_ ?_) g
 ·intro q hq;simp only [List.mem_cons,List.not_mem_nil,or_false] at hq
  rcases hq with rfl|rfl|rfl|rfl|rfl|rfl|rfl
  ·exact ⟨(List.nodup_append.1 (List.nodup_append.1 (List.nodup_append.1 (List.nodup_append.1 (List.nodup_append.1 (List.nodup_append.1 hn).1).1).1).1).1).1,h1⟩
  ·exact ⟨(List.nodup_append.1 (List.nodup_append.1 (List.nodup_append.1 (List.nodup_append.1 (List.nodup_append.1 (List.nodup_append.1 hn).1).1).1).1).1).2.1,h2⟩
  ·exact ⟨(List.nodup_append.1 (List.nodup_append.1 (List.nodup_append.1 (List.nodup_append.1 (List.nodup_append.1 hn).1).1).1).1).2.1,h3⟩
  ·exact ⟨(List.nodup_append.1 (List.nodup_append.1 (List.nodup_append.1 (List.nodup_append.1 hn).1).1).1).2.1,h4⟩
  ·exact ⟨(List.nodup_append.1 (List.nodup_append.1 (List.nodup_append.1 hn).1).1).2.1,h5⟩
  ·exact ⟨(List.nodup_append.1 (List.nodup_append.1 hn).1).2.1,h6⟩
  ·exact ⟨(List.nodup_append.1 hn).2.1,h7⟩
 ·refine ⟨?_,⟨?_,⟨?_,⟨?_,⟨?_,⟨?_,⟨?_,trivial⟩⟩⟩⟩⟩⟩⟩
  ·intro q hq _ b hb hb2;simp only [List.mem_cons,List.not_mem_nil,or_false] at hq
   rcases hq with rfl|rfl|rfl|rfl|rfl|rfl
   ·simp only [Pc.F] at hb hb2;exact Ea (List.nodup_append.1 (List.nodup_append.1 (List.nodup_append.1 (List.nodup_append.1 (List.nodup_append.1 hn).1).1).1).1).1 (by simp [hb]) hb2
   ·simp only [Pc.F] at hb hb2;exact Ea (List.nodup_append.1 (List.nodup_append.1 (List.nodup_append.1 (List.nodup_append.1 hn).1).1).1).1 (by simp [hb]) hb2
   ·simp only [Pc.F] at hb hb2;exact Ea (List.nodup_append.1 (List.nodup_append.1 (List.nodup_append.1 hn).1).1).1 (by simp [hb]) hb2
   ·simp only [Pc.F] at hb hb2;exact Ea (List.nodup_append.1 (List.nodup_append.1 hn).1).1 (by simp [hb]) hb2
   ·simp only [Pc.F] at hb hb2;exact Ea (List.nodup_append.1 hn).1 (by simp [hb]) hb2
   ·simp only [Pc.F] at hb hb2;exact Ea hn (by simp [hb]) hb2
  ·intro q hq _ b hb hb2;simp only [List.mem_cons,List.not_mem_nil,or_false] at hq
   rcases hq with rfl|rfl|rfl|rfl|rfl
   ·simp only [Pc.F] at hb hb2;exact Ea (List.nodup_append.1 (List.nodup_append.1 (List.nodup_append.1 (List.nodup_append.1 hn).1).1).1).1 (by simp [hb]) hb2
   ·simp only [Pc.F] at hb hb2;exact Ea (List.nodup_append.1 (List.nodup_append.1 (List.nodup_append.1 hn).1).1).1 (by simp [hb]) hb2
   ·simp only [Pc.F] at hb hb2;exact Ea (List.nodup_append.1 (List.nodup_append.1 hn).1).1 (by simp [hb]) hb2
   ·simp only [Pc.F] at hb hb2;exact Ea (List.nodup_append.1 hn).1 (by simp [hb]) hb2
   ·simp only [Pc.F] at hb hb2;exact Ea hn (by simp [hb]) hb2
  ·intro q hq _ b hb hb2;simp only [List.mem_cons,List.not_mem_nil,or_false] at hq
   rcases hq with rfl|rfl|rfl|rfl
   ·simp only [Pc.F] at hb hb2;exact Ea (List.nodup_append.1 (List.nodup_append.1 (List.nodup_append.1 hn).1).1).1 (by simp [hb]) hb2
   ·simp only [Pc.F] at hb hb2;exact Ea (List.nodup_append.1 (List.nodup_append.1 hn).1).1 (by simp [hb]) hb2
   ·simp only [Pc.F] at hb hb2;exact Ea (List.nodup_append.1 hn).1 (by simp [hb]) hb2
   ·simp only [Pc.F] at hb hb2;exact Ea hn (by simp [hb]) hb2
  ·intro q hq _ b hb hb2;simp only [List.mem_cons,List.not_mem_nil,or_false] at hq
   rcases hq with rfl|rfl|rfl
   ·simp only [Pc.F] at hb hb2;exact Ea (List.nodup_append.1 (List.nodup_append.1 hn).1).1 (by simp [hb]) hb2
   ·simp only [Pc.F] at hb hb2;exact Ea (List.nodup_append.1 hn).1 (by simp [hb]) hb2
   ·simp only [Pc.F] at hb hb2;exact Ea hn (by simp [hb]) hb2
  ·intro q hq _ b hb hb2;simp only [List.mem_cons,List.not_mem_nil,or_false] at hq
   rcases hq with rfl|rfl
   ·simp only [Pc.F] at hb hb2;exact Ea (List.nodup_append.1 hn).1 (by simp [hb]) hb2
   ·simp only [Pc.F] at hb hb2;exact Ea hn (by simp [hb]) hb2
  ·intro q hq _ b hb hb2;simp only [List.mem_cons,List.not_mem_nil,or_false] at hq
   rcases hq with rfl
   ·simp only [Pc.F] at hb hb2;exact Ea hn (by simp [hb]) hb2
  ·intro q hq _ b hb hb2;simp at hq
 ·intro q hq b hb;refine .inr (.inl ⟨_,List.mem_singleton.2 rfl,rfl,?_⟩);simp only [List.mem_cons,List.not_mem_nil,or_false] at hq;rcases hq with rfl|rfl|rfl|rfl|rfl|rfl|rfl <;> simp only [Pc.F] at hb ⊢ <;> simp [hb]
theorem Nm (x:D9) {a1:Option Addr} {c1:Nat} {F1:List Nat} {a2:Option Addr} {c2:Nat} {F2:List Nat} {a3:Option Addr} {c3:Nat} {F3:List Nat} {a4:Option Addr} {c4:Nat} {F4:List Nat} {a5:Option Addr} {c5:Nat} {F5:List Nat} {a6:Option Addr} {c6:Nat} {F6:List Nat} {a7:Option Addr} {c7:Nat} {F7:List Nat} {S1 S2 S3 S4 S5 S6 S7:List Pc}  (h:T c fr (.own Aab (.agg #[.slice a1 x.Am.Ac.length c1,.int .i64 x.Ab.Aa.Al,.int .i64 x.Ab.Aa.size,.slice a2 x.Ab.Aa.Aj.length c2,.int .i64 x.Ab.Ai,.int .i64 x.Ab.quiet,.slice a3 x.Ab.holds.length c3,.slice a4 x.Af.length c4,.slice a5 x.Ad.length c5,.slice a6 x.down.length c6,.slice a7 x.up.length c7]) x (F1++F2++F3++F4++F5++F6++F7)::S7) Φ) (m1:C0 H (.ow Bd 3 (.slice a1 x.Am.Ac.length c1) x.Am.Ac F1) S1:=by exact D0) (m2:C0 S1 (.ow Ba 9 (.slice a2 x.Ab.Aa.Aj.length c2) x.Ab.Aa.Aj F2) S2:=by exact D0) (m3:C0 S2 (.ow Bj 134 (.slice a3 x.Ab.holds.length c3) x.Ab.holds F3) S3:=by exact D0) (m4:C0 S3 (.ow Bt 77 (.slice a4 x.Af.length c4) x.Af F4) S4:=by exact D0) (m5:C0 S4 (.ow Bk 84 (.slice a5 x.Ad.length c5) x.Ad F5) S5:=by exact D0) (m6:C0 S5 (.ow (Hi Ak 110) 86 (.slice a6 x.down.length c6) x.down F6) S6:=by exact D0) (m7:C0 S6 (.ow (Hi Ak 110) 86 (.slice a7 x.up.length c7) x.up F7) S7:=by exact D0)  : T c fr H Φ:=.mk fun a w s g=>by
 have z1:St c.G c.D c.w0 ([.ow Bd 3 (.slice a1 x.Am.Ac.length c1) x.Am.Ac F1,.ow Ba 9 (.slice a2 x.Ab.Aa.Aj.length c2) x.Ab.Aa.Aj F2,.ow Bj 134 (.slice a3 x.Ab.holds.length c3) x.Ab.holds F3,.ow Bt 77 (.slice a4 x.Af.length c4) x.Af F4,.ow Bk 84 (.slice a5 x.Ad.length c5) x.Ad F5,.ow (Hi Ak 110) 86 (.slice a6 x.down.length c6) x.down F6,.ow (Hi Ak 110) 86 (.slice a7 x.up.length c7) x.up F7]++S7) w:=by simpa using (show Fc H [.ow Bd 3 (.slice a1 x.Am.Ac.length c1) x.Am.Ac F1,.ow Ba 9 (.slice a2 x.Ab.Aa.Aj.length c2) x.Ab.Aa.Aj F2,.ow Bj 134 (.slice a3 x.Ab.holds.length c3) x.Ab.holds F3,.ow Bt 77 (.slice a4 x.Af.length c4) x.Af F4,.ow Bk 84 (.slice a5 x.Ad.length c5) x.Ad F5,.ow (Hi Ak 110) 86 (.slice a6 x.down.length c6) x.down F6,.ow (Hi Ak 110) 86 (.slice a7 x.up.length c7) x.up F7] S7 from Fc.cons m1 (Fc.cons m2 (Fc.cons m3 (Fc.cons m4 (Fc.cons m5 (Fc.cons m6 (Fc.cons m7 (Fc.nil)))))))).st (X:=[]) (by simpa using s)
 obtain ⟨n1,k1⟩:=z1.on (.ow Bd 3 (.slice a1 x.Am.Ac.length c1) x.Am.Ac F1) (by simp)
 obtain ⟨n2,k2⟩:=z1.on (.ow Ba 9 (.slice a2 x.Ab.Aa.Aj.length c2) x.Ab.Aa.Aj F2) (by simp)
 obtain ⟨n3,k3⟩:=z1.on (.ow Bj 134 (.slice a3 x.Ab.holds.length c3) x.Ab.holds F3) (by simp)
 obtain ⟨n4,k4⟩:=z1.on (.ow Bt 77 (.slice a4 x.Af.length c4) x.Af F4) (by simp)
 obtain ⟨n5,k5⟩:=z1.on (.ow Bk 84 (.slice a5 x.Ad.length c5) x.Ad F5) (by simp)
 obtain ⟨n6,k6⟩:=z1.on (.ow (Hi Ak 110) 86 (.slice a6 x.down.length c6) x.down F6) (by simp)
 obtain ⟨n7,k7⟩:=z1.on (.ow (Hi Ak 110) 86 (.slice a7 x.up.length c7) x.up F7) (by simp)
 have hsp:=z1.Zr
 have p1_2:∀b∈F1,b ∉ F2:=hsp.1 (.ow Ba 9 (.slice a2 x.Ab.Aa.Aj.length c2) x.Ab.Aa.Aj F2) (by simp) rfl
 have p1_3:∀b∈F1,b ∉ F3:=hsp.1 (.ow Bj 134 (.slice a3 x.Ab.holds.length c3) x.Ab.holds F3) (by simp) rfl
 have p1_4:∀b∈F1,b ∉ F4:=hsp.1 (.ow Bt 77 (.slice a4 x.Af.length c4) x.Af F4) (by simp) rfl
 have p1_5:∀b∈F1,b ∉ F5:=hsp.1 (.ow Bk 84 (.slice a5 x.Ad.length c5) x.Ad F5) (by simp) rfl
 have p1_6:∀b∈F1,b ∉ F6:=hsp.1 (.ow (Hi Ak 110) 86 (.slice a6 x.down.length c6) x.down F6) (by simp) rfl
 have p1_7:∀b∈F1,b ∉ F7:=hsp.1 (.ow (Hi Ak 110) 86 (.slice a7 x.up.length c7) x.up F7) (by simp) rfl
 have p2_3:∀b∈F2,b ∉ F3:=hsp.2.1 (.ow Bj 134 (.slice a3 x.Ab.holds.length c3) x.Ab.holds F3) (by simp) rfl
 have p2_4:∀b∈F2,b ∉ F4:=hsp.2.1 (.ow Bt 77 (.slice a4 x.Af.length c4) x.Af F4) (by simp) rfl
 have p2_5:∀b∈F2,b ∉ F5:=hsp.2.1 (.ow Bk 84 (.slice a5 x.Ad.length c5) x.Ad F5) (by simp) rfl
 have p2_6:∀b∈F2,b ∉ F6:=hsp.2.1 (.ow (Hi Ak 110) 86 (.slice a6 x.down.length c6) x.down F6) (by simp) rfl
 have p2_7:∀b∈F2,b ∉ F7:=hsp.2.1 (.ow (Hi Ak 110) 86 (.slice a7 x.up.length c7) x.up F7) (by simp) rfl
 have p3_4:∀b∈F3,b ∉ F4:=hsp.2.2.1 (.ow Bt 77 (.slice a4 x.Af.length c4) x.Af F4) (by simp) rfl
 have p3_5:∀b∈F3,b ∉ F5:=hsp.2.2.1 (.ow Bk 84 (.slice a5 x.Ad.length c5) x.Ad F5) (by simp) rfl
 have p3_6:∀b∈F3,b ∉ F6:=hsp.2.2.1 (.ow (Hi Ak 110) 86 (.slice a6 x.down.length c6) x.down F6) (by simp) rfl
 have p3_7:∀b∈F3,b ∉ F7:=hsp.2.2.1 (.ow (Hi Ak 110) 86 (.slice a7 x.up.length c7) x.up F7) (by simp) rfl
 have p4_5:∀b∈F4,b ∉ F5:=hsp.2.2.2.1 (.ow Bk 84 (.slice a5 x.Ad.length c5) x.Ad F5) (by simp) rfl
 have p4_6:∀b∈F4,b ∉ F6:=hsp.2.2.2.1 (.ow (Hi Ak 110) 86 (.slice a6 x.down.length c6) x.down F6) (by simp) rfl
 have p4_7:∀b∈F4,b ∉ F7:=hsp.2.2.2.1 (.ow (Hi Ak 110) 86 (.slice a7 x.up.length c7) x.up F7) (by simp) rfl
 have p5_6:∀b∈F5,b ∉ F6:=hsp.2.2.2.2.1 (.ow (Hi Ak 110) 86 (.slice a6 x.down.length c6) x.down F6) (by simp) rfl
 have p5_7:∀b∈F5,b ∉ F7:=hsp.2.2.2.2.1 (.ow (Hi Ak 110) 86 (.slice a7 x.up.length c7) x.up F7) (by simp) rfl
 have p6_7:∀b∈F6,b ∉ F7:=hsp.2.2.2.2.2.1 (.ow (Hi Ak 110) 86 (.slice a7 x.up.length c7) x.up F7) (by simp) rfl
 have hN:(F1++F2++F3++F4++F5++F6++F7).Nodup:=by
  simp only [List.nodup_append,List.mem_append]
  grind
 refine h.h a w (St.turn (M:=[.ow Bd 3 (.slice a1 x.Am.Ac.length c1) x.Am.Ac F1,.ow Ba 9 (.slice a2 x.Ab.Aa.Aj.length c2) x.Ab.Aa.Aj F2,.ow Bj 134 (.slice a3 x.Ab.holds.length c3) x.Ab.holds F3,.ow Bt 77 (.slice a4 x.Af.length c4) x.Af F4,.ow Bk 84 (.slice a5 x.Ad.length c5) x.Ad F5,.ow (Hi Ak 110) 86 (.slice a6 x.down.length c6) x.down F6,.ow (Hi Ak 110) 86 (.slice a7 x.up.length c7) x.up F7]) (N:=[.own Aab (.agg #[.slice a1 x.Am.Ac.length c1,.int .i64 x.Ab.Aa.Al,.int .i64 x.Ab.Aa.size,.slice a2 x.Ab.Aa.Aj.length c2,.int .i64 x.Ab.Ai,.int .i64 x.Ab.quiet,.slice a3 x.Ab.holds.length c3,.slice a4 x.Af.length c4,.slice a5 x.Ad.length c5,.slice a6 x.down.length c6,.slice a7 x.up.length c7]) x (F1++F2++F3++F4++F5++F6++F7)]) z1 (Dy.refl _ w) (by intro q hq;obtain rfl:=List.mem_singleton.1 hq;exact ⟨hN,_,rfl,_,_,_,_,_,_,_,_,_,_,_,_,_,_,rfl,k1,k2,k3,k4,k5,k6,k7,rfl⟩) ⟨by simp,trivial⟩ fun q hq b hb=>?_) g
 obtain rfl:=List.mem_singleton.1 hq
 simp only [Pc.F,List.mem_append] at hb
 rcases hb with (((((hb|hb)|hb)|hb)|hb)|hb)|hb
 ·exact .inr (.inl ⟨.ow Bd 3 (.slice a1 x.Am.Ac.length c1) x.Am.Ac F1,by simp,rfl,hb⟩)
 ·exact .inr (.inl ⟨.ow Ba 9 (.slice a2 x.Ab.Aa.Aj.length c2) x.Ab.Aa.Aj F2,by simp,rfl,hb⟩)
 ·exact .inr (.inl ⟨.ow Bj 134 (.slice a3 x.Ab.holds.length c3) x.Ab.holds F3,by simp,rfl,hb⟩)
 ·exact .inr (.inl ⟨.ow Bt 77 (.slice a4 x.Af.length c4) x.Af F4,by simp,rfl,hb⟩)
 ·exact .inr (.inl ⟨.ow Bk 84 (.slice a5 x.Ad.length c5) x.Ad F5,by simp,rfl,hb⟩)
 ·exact .inr (.inl ⟨.ow (Hi Ak 110) 86 (.slice a6 x.down.length c6) x.down F6,by simp,rfl,hb⟩)
 ·exact .inr (.inl ⟨.ow (Hi Ak 110) 86 (.slice a7 x.up.length c7) x.up F7,by simp,rfl,hb⟩)
end
end Go.Proofs.YtaemjogbahcbcaaGreatDoor
namespace Go.Proofs.YtaemjogbahcbcaaGreatDoor

open Go.RowKit
end Go.Proofs.YtaemjogbahcbcaaGreatDoor
