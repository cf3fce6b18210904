/- Part 3 of the proof: 33 texts, one behind the other. -/
import Derived.Lib.SliceRun
import Derived.ArgAppend
import Derived.Deep.RegionLaw
import Derived.Test.YtbmlecejkacpnaaGreatDoorM2
open _root_.Go.Proofs.Tryz
set_option maxRecDepth 100000
set_option maxHeartbeats 8000000
set_option linter.all false
set_option linter.unusedVariables false
set_option linter.unusedSimpArgs false
namespace Go.Proofs.YtbmlecejkacpnaaGreatDoor
open Go.RowKit
theorem Im {p:Prop} (h:p:=by first|omega|(simp only [List.length_append,List.length_take,List.length_drop,List.length_cons,List.length_nil,List.length_set,List.length_replicate];omega)):p:=h
def EC (m:Nat):Br (List Value) where
 sz:=m
 Jr _ cs x F:=cs=x∧(x.length=m∧∀u∈x,u.oneCell'=true)∧F=[]
 len h:=by obtain ⟨rfl,⟨h,_⟩,_⟩:=h;exact h
 lt h:=by obtain ⟨_,_,rfl⟩:=h;simp
 frame h _:=h
theorem E9 (m:Nat):Ua (EC m):=fun h=>h.2.2
theorem Ml (m:Nat):U2 (EC m):=fun h=>by obtain ⟨rfl,⟨_,h⟩,_⟩:=h;exact h
theorem Abi {m:Nat} {w:World}:∀{ys:List (List Value)} {cs:List Value} {F:List Nat},Cq (EC m) w cs ys F→cs=ys.flatten∧F=[]∧∀y∈ys,y.length=m
 | [],_,_,h=>⟨h.1,h.2,by simp⟩
 | y::r,_,_,h=>by
  obtain ⟨c1,c2,F1,F2,rfl,rfl,⟨rfl,⟨h1,_⟩,rfl⟩,h2⟩:=h
  obtain ⟨rfl,rfl,h4⟩:=Abi h2
  refine ⟨by simp,rfl,fun z hz=>?_⟩
  rcases List.mem_cons.1 hz with rfl|hz
  ·exact h1
  ·exact h4 z hz
theorem Abj {α:Type} {E:Br α} {w w':World} (one:U2 E):∀{xs:List α} {cs:List Value} {G:List Nat},Cq E w cs xs G→∃ys:List (List Value),ys.length=xs.length∧cs=ys.flatten∧(∀y∈ys,y.length=E.sz)∧Cq (EC E.sz) w' cs ys []
 | [],_,_,h=>⟨[],rfl,h.1,by simp,h.1,rfl⟩
 | x::r,_,_,h=>by
  obtain ⟨c1,c2,F1,F2,rfl,rfl,h1,h2⟩:=h
  obtain ⟨ys,e1,rfl,e2,h3⟩:=Abj (w':=w') one h2
  refine ⟨c1::ys,by simp [e1],by simp,fun z hz=>?_,c1,ys.flatten,[],[],rfl,rfl,⟨rfl,⟨E.len h1,one h1⟩,rfl⟩,h3⟩
  rcases List.mem_cons.1 hz with rfl|hz
  ·exact E.len h1
  ·exact e2 z hz
theorem Ac3 {m:Nat}:∀{ys:List (List Value)},(∀y∈ys,y.length=m)→ys.flatten.length=ys.length * m
 | [],_=>by simp
 | y::r,h=>by
  have:=Ac3 (m:=m) (ys:=r) fun z hz=>h z (by simp [hz])
  rw [List.flatten_cons,List.length_append,this,h y (by simp),List.length_cons,Nat.add_mul];omega
theorem Cq.cut {α:Type} {E:Br α} {w:World} {c1 c2:List Value} {x1 x2:List α} {G:List Nat} (h:Cq E w (c1++c2) (x1++x2) G) (hl:c1.length=x1.length * E.sz):∃G1 G2,G=G1++G2∧Cq E w c1 x1 G1∧Cq E w c2 x2 G2:=by
 obtain ⟨d1,d2,G1,G2,he,hG,h1,h2⟩:=h.split
 have:d1.length=c1.length:=by rw [h1.len,hl]
 obtain ⟨rfl,rfl⟩:=List.append_inj he this.symm
 exact ⟨G1,G2,hG,h1,h2⟩
theorem Ala:∀{N:List Pc},(fp N).Nodup→O6 N
 | [],_=>trivial
 | p::N,h=>⟨fun q hq _ b hb hqb=>Vn h hb (Nw.2 ⟨q,hq,hqb⟩),Ala (List.nodup_append.1 h).2.1⟩
theorem St.swap {G D w0 H M N R w} (s:St G D w0 H w) (hM:Ew H M R) (hm:∀p∈M,p.mu=true) (hN:Ms N w) (hnd:(fp M).Nodup→(fp N).Nodup) (hF:∀b∈fp N,b∈fp M):St G D w0 (N++R) w :=
 have s1:St G D w0 (M++R) w:=by simpa using hM.st (X:=[]) (by simpa using s)
 have sM:O6 M:=by
  have:∀(M:List Pc),O6 (M++R)→O6 M:=by
   intro M
   induction M with
   | nil=>intro _;trivial
   | cons p M ih=>intro h;exact ⟨fun q hq=>h.1 q (by simp [hq]),ih h.2⟩
  exact this M s1.Y2
 have hn:(fp M).Nodup:=Af2 (by simpa using hm) (fun p hp=>s1.on p (by simp [hp])) sM
 St.turn (M:=M) (N:=N) s1 (Dt.refl _ w) hN (Ala (hnd hn)) fun p hp b hb=>by
  obtain ⟨q,hq,hqb⟩:=Nw.1 (hF b (Nw.2 ⟨p,hp,hb⟩))
  exact .inr (.inl ⟨q,hq,hm q hq,hqb⟩)
section
variable {c:Cx} {fr:Fr} {H:List Pc} {Φ:Gl}
theorem Vx {α:Type} {E:Br α} (one:U2 E) {t:TypeId} {v:Value} {xs:List α} {F:List Nat} {S:List Pc} {m:Nat} (hm:E.sz=m)
  (h:∀(ys:List (List Value)) F0 G,ys.length=xs.length→(∀y∈ys,y.length=m)→T c fr (.ow (EC m) t v ys F0::.flat E ys.flatten xs G::S) Φ) (hp:C1 H (.ow E t v xs F) S:=by exact Dy):T c fr H Φ:=.mk fun a w s g=>by
 subst hm
 have s1:=s.pick hp
 obtain ⟨hnd,ho⟩:=s1.on (.ow E t v xs F) (by simp)
 rcases ho with ⟨rfl,rfl,rfl⟩|⟨b,cap,cs,rest,G,rfl,h2,h3,h4,h5,h6,rfl⟩
 ·refine (h [] [] [] rfl (by simp)).h a w (s1.swap (M:=[_]) (N:=[.ow (EC E.sz) t (.slice none 0 0) [] [],.flat E [] [] []]) (.cons .here .nil) (by intro p hp;simp at hp;subst hp;rfl) ?_ (fun _=>by simp [fp,Pc.F]) (by simp [fp,Pc.F])) g
  intro p hp
  simp only [List.mem_cons,List.not_mem_nil,or_false] at hp
  rcases hp with rfl|rfl
  ·exact ⟨by simp,.inl ⟨rfl,rfl,rfl⟩⟩
  ·exact ⟨by simp,rfl,rfl⟩
 ·obtain ⟨ys,e1,rfl,e2,h7⟩:=Abj (w':=w) one h6
  refine (h ys [b] G e1 e2).h a w (s1.swap (M:=[_]) (N:=[.ow (EC E.sz) t (.slice (some ⟨b,0,none⟩) xs.length cap) ys [b],.flat E ys.flatten xs G]) (.cons .here .nil) (by intro p hp;simp at hp;subst hp;rfl) ?_ (fun hn=>by simpa [fp,Pc.F] using hn) (by simp [fp,Pc.F])) g
  intro p hp
  simp only [List.mem_cons,List.not_mem_nil,or_false] at hp
  rcases hp with rfl|rfl
  ·exact ⟨by simp,.inr ⟨b,cap,ys.flatten,rest,[],by rw [e1],h2,by rw [e1];exact h3,h4,h5,h7,rfl⟩⟩
  ·exact ⟨(List.nodup_cons.1 hnd).2,h6⟩
theorem Ali {α:Type} {E:Br α} {t:TypeId} {a:Option Addr} {n cp:Nat} {ys:List (List Value)} {cs:List Value} {xs:List α} {F G:List Nat} {S S2:List Pc} {m:Nat}
  (h:T c fr (.ow E t (.slice a n cp) xs (F++G)::S2) Φ) (hm:E.sz=m) (hc:cs=ys.flatten) (hl:ys.length=xs.length) (hp:C1 H (.ow (EC m) t (.slice a n cp) ys F) S:=by exact Dy) (hp2:C1 S (.flat E cs xs G) S2:=by exact Dy):T c fr H Φ:=.mk fun ac w s g=>by
 subst hm hc
 have a1:=s.on _ hp.mem
 have a2:=s.on _ (hp.sub _ hp2.mem)
 obtain ⟨nd1,o1⟩:=a1
 obtain ⟨nd2,f2⟩:=a2
 refine h.h ac w (s.swap (M:=[.ow (EC E.sz) t (.slice a n cp) ys F,.flat E ys.flatten xs G]) (N:=[.ow E t (.slice a n cp) xs (F++G)]) (.cons hp (.cons hp2 .nil)) (by intro p hp;simp at hp;rcases hp with rfl|rfl <;> rfl) ?_ (fun hn=>by simpa [fp,Pc.F] using hn) (by simp [fp,Pc.F])) g
 have hnd:(F++G).Nodup:=by
  have s2:=s.pick hp
  refine List.nodup_append.2 ⟨nd1,nd2,fun b hb b' hb' e=>?_⟩
  subst e
  exact s2.Y2.1 (.flat E ys.flatten xs G) hp2.mem rfl b hb hb'
 intro p hp
 simp only [List.mem_cons,List.not_mem_nil,or_false] at hp
 subst hp
 refine ⟨hnd,?_⟩
 rcases o1 with ⟨h1,rfl,rfl⟩|⟨b,cap,cs,rest,G',h1,h2,h3,h4,h5,h6,rfl⟩
 ·cases h1
  have:xs=[]:=List.eq_nil_of_length_eq_zero hl.symm
  subst this
  exact .inl ⟨rfl,rfl,by simpa using f2.2⟩
 ·cases h1
  obtain ⟨rfl,rfl, -⟩:=Abi h6
  exact .inr ⟨b,cp,ys.flatten,rest,G,by rw [hl],h2,by rw [←hl];exact h3,h4,h5,f2,rfl⟩
theorem Alk {α:Type} {E:Br α} {ys:List (List Value)} {xs:List α} {G:List Nat} {S:List Pc} (i:Nat) (hi:i < xs.length) (hl:ys.length=xs.length) (hm:∀y∈ys,y.length=E.sz)
  (h:∀G1 Gi G2,T c fr (.flat E (ys.take i).flatten (xs.take i) G1::.own E (.agg (ys[i]'(by omega)).toArray) xs[i] Gi::.flat E (ys.drop (i+1)).flatten (xs.drop (i+1)) G2::S) Φ) (hp:C1 H (.flat E ys.flatten xs G) S:=by exact Dy):T c fr H Φ:=.mk fun ac w s g=>by
 have s1:=s.pick hp
 obtain ⟨hnd,hf⟩:=s1.on (.flat E ys.flatten xs G) (by simp)
 have e1:ys.flatten=(ys.take i).flatten++(ys[i]'(by omega)++(ys.drop (i+1)).flatten):=by
  rw [←List.flatten_cons,←List.drop_eq_getElem_cons,←List.flatten_append,List.take_append_drop]
 have e2:xs=xs.take i++([xs[i]]++xs.drop (i+1)):=by simp
 have hf2:Cq E w ((ys.take i).flatten++(ys[i]'(by omega)++(ys.drop (i+1)).flatten)) (xs.take i++([xs[i]]++xs.drop (i+1))) G:=by rw [←e1,←e2];exact hf
 obtain ⟨G1,G',rfl,f1,f2⟩:=hf2.cut (by rw [Ac3 (m:=E.sz) fun y hy=>hm y (List.mem_of_mem_take hy)];simp [hl])
 obtain ⟨Gi,G2,rfl,⟨d1,d2,F1,F2,h1,h2,h3,h4⟩,f3⟩:=f2.cut (by rw [hm _ (List.getElem_mem _)];simp)
 obtain ⟨rfl,rfl⟩:=h4
 simp only [List.append_nil] at h1 h2
 subst h1 h2
 refine (h G1 Gi G2).h ac w (s1.swap (M:=[_]) (N:=[.flat E (ys.take i).flatten (xs.take i) G1,.own E (.agg (ys[i]'(by omega)).toArray) xs[i] Gi,.flat E (ys.drop (i+1)).flatten (xs.drop (i+1)) G2]) (.cons .here .nil) (by intro p hp;simp at hp;subst hp;rfl) ?_ (fun hn=>by simpa [fp,Pc.F] using hn) (by simp [fp,Pc.F])) g
 have hn1:=List.nodup_append.1 hnd
 have hn2:=List.nodup_append.1 hn1.2.1
 intro p hp
 simp only [List.mem_cons,List.not_mem_nil,or_false] at hp
 rcases hp with rfl|rfl|rfl
 ·exact ⟨hn1.1,f1⟩
 ·exact ⟨hn2.1,_,rfl,h3⟩
 ·exact ⟨hn2.2.1,f3⟩
theorem Agk {α:Type} {E:Br α} {c1 c2:List Value} {x1 x2:List α} {G1 G2:List Nat} {S S2:List Pc} (h:T c fr (.flat E (c1++c2) (x1++x2) (G1++G2)::S2) Φ) (hp:C1 H (.flat E c1 x1 G1) S:=by exact Dy) (hp2:C1 S (.flat E c2 x2 G2) S2:=by exact Dy):T c fr H Φ:=.mk fun ac w s g=>by
 obtain ⟨nd1,f1⟩:=s.on _ hp.mem
 obtain ⟨nd2,f2⟩:=s.on _ (hp.sub _ hp2.mem)
 refine h.h ac w (s.swap (M:=[.flat E c1 x1 G1,.flat E c2 x2 G2]) (N:=[.flat E (c1++c2) (x1++x2) (G1++G2)]) (.cons hp (.cons hp2 .nil)) (by intro p hp;simp at hp;rcases hp with rfl|rfl <;> rfl) ?_ (fun hn=>by simpa [fp,Pc.F] using hn) (by simp [fp,Pc.F])) g
 intro p hq
 simp only [List.mem_cons,List.not_mem_nil,or_false] at hq
 subst hq
 refine ⟨List.nodup_append.2 ⟨nd1,nd2,fun b hb b' hb' e=>?_⟩,f1.append f2⟩
 subst e
 exact (s.pick hp).Y2.1 (.flat E c2 x2 G2) hp2.mem rfl b hb hb'
def An7 {α:Type} (E:Br α) (t:TypeId) (g:Nat) (v:Value) (xs:List α) (i:Nat) (A B c1 c2:List Value):Prop :=
 ∀w cs y G1 Gi G2,Hm w g t (A++cs++B)→Cq E w c1 (xs.take i) G1→E.Jr w cs y Gi→Cq E w c2 (xs.drop (i+1)) G2→Ow E t w v (xs.set i y) (g::(G1++Gi++G2))
theorem Va {α:Type} {E:Br α} {t:TypeId} {a:Option Addr} {n cp m:Nat} {xs:List α} {F:List Nat} {S:List Pc} (i:Nat)
  (h:∀(_:i < xs.length) g A cs B c1 c2 G1 Gi G2,a=some ⟨g,0,none⟩→n=xs.length→n≤cp→An7 E t g (.slice (some ⟨g,0,none⟩) n cp) xs i A B c1 c2→T c fr (.row g t (0+i * m) A cs B::.own E (.agg cs.toArray) xs[i] Gi::.flat E c1 (xs.take i) G1::.flat E c2 (xs.drop (i+1)) G2::S) Φ)
  (hm:E.sz=m) (hi:i < xs.length) (hp:C1 H (.ow E t (.slice a n cp) xs F) S:=by exact Dy):T c fr H Φ:=.mk fun ac w s ag=>by
 subst hm
 have s1:=s.pick hp
 obtain ⟨hnd,ho⟩:=s1.on (.ow E t (.slice a n cp) xs F) (by simp)
 rcases ho with ⟨-,rfl, -⟩|⟨g,cap,cs0,rest,G,h1,h2,h3,h4,h5,h6,rfl⟩
 ·simp at hi
 cases h1
 obtain ⟨A,cs,B,G1,Gi,G2,rfl,rfl,hA,hc,f1,f2,f3⟩:=h6.focus i hi
 refine (h hi g A cs (B++rest) A B G1 Gi G2 rfl rfl h3 ?_).h ac w (s1.swap (M:=[_]) (N:=[.row g t (0+i * E.sz) A cs (B++rest),.own E (.agg cs.toArray) xs[i] Gi,.flat E A (xs.take i) G1,.flat E B (xs.drop (i+1)) G2]) (.cons .here .nil) (by intro p hp;simp at hp;subst hp;rfl) ?_ (fun hn=>?_) (fun b hb=>?_)) ag
 ·intro w' cs' y G1' Gi' G2' hr k1 k2 k3
  have:=Cq.build hi k1 k2 k3
  have hl:=this.len
  exact .inr ⟨g,cp,A++cs'++B,rest,G1'++Gi'++G2',by simp,by simpa using hr,by simpa using h3,h4,by
   have e1:=E.len k2
   simp only [List.length_append] at h5 ⊢
   omega,this,rfl⟩
 ·have hn1:=List.nodup_append.1 (List.nodup_cons.1 hnd).2
  have hn2:=List.nodup_append.1 hn1.1
  intro p hp
  simp only [List.mem_cons,List.not_mem_nil,or_false] at hp
  rcases hp with rfl|rfl|rfl|rfl
  ·exact ⟨by omega,by simpa using h2⟩
  ·exact ⟨hn2.2.1,_,rfl,f2⟩
  ·exact ⟨hn2.1,f1⟩
  ·exact ⟨hn1.2.1,f3⟩
 ·have:(g::(G1++Gi++G2)).Perm ([g]++(Gi++(G1++(G2++[])))):=by
   simp only [List.singleton_append,List.append_nil,List.append_assoc]
   refine List.Perm.cons _ ?_
   rw [←List.append_assoc,←List.append_assoc]
   exact (List.perm_append_comm).append_right _
  exact this.nodup_iff.1 (by simpa [fp,Pc.F] using hn)
 ·simp only [fp,Pc.F,List.append_nil,List.mem_append,List.mem_cons,List.not_mem_nil,or_false] at hb ⊢
  grind
theorem Q5 {α:Type} {E:Br α} {t:TypeId} {g o i:Nat} {u v:Value} {xs:List α} {A cs B c1 c2:List Value} {x1 x2:List α} {G1 Gi G2:List Nat} {S1 S2 S3 S4:List Pc} (y:α) (hh:An7 E t g u xs i A B c1 c2) (hv:v=.agg cs.toArray) (h:∀F',T c fr (.ow E t u (xs.set i y) F'::S4) Φ) (e1:x1=xs.take i:=by rfl) (e2:x2=xs.drop (i+1):=by rfl)
  (hp1:C1 H (.row g t o A cs B) S1:=by exact Dy) (hp2:C1 S1 (.own E v y Gi) S2:=by exact Dy) (hp3:C1 S2 (.flat E c1 x1 G1) S3:=by exact Dy) (hp4:C1 S3 (.flat E c2 x2 G2) S4:=by exact Dy):T c fr H Φ:=.mk fun ac w s ag=>by
 subst hv e1 e2
 have hP:Ew H [.row g t o A cs B,.own E (.agg cs.toArray) y Gi,.flat E c1 (xs.take i) G1,.flat E c2 (xs.drop (i+1)) G2] S4:=.cons hp1 (.cons hp2 (.cons hp3 (.cons hp4 .nil)))
 have s1:St c.G c.D c.w0 ([.row g t o A cs B,.own E (.agg cs.toArray) y Gi,.flat E c1 (xs.take i) G1,.flat E c2 (xs.drop (i+1)) G2]++S4) w:=by simpa using hP.st (X:=[]) (by simpa using s)
 obtain ⟨-,r⟩:=s1.on (.row g t o A cs B) (by simp)
 obtain ⟨-,cs',e,hr⟩:=s1.on (.own E (.agg cs.toArray) y Gi) (by simp)
 obtain rfl:cs=cs':=by simpa using e
 have f1:=(s1.on (.flat E c1 (xs.take i) G1) (by simp)).2
 have f3:=(s1.on (.flat E c2 (xs.drop (i+1)) G2) (by simp)).2
 have hO:=hh w cs y G1 Gi G2 r f1 hr f3
 have hpm:(g::(G1++Gi++G2)).Perm ([g]++(Gi++(G1++(G2++[])))):=by
  simp only [List.singleton_append,List.append_nil,List.append_assoc]
  refine List.Perm.cons _ ?_
  rw [←List.append_assoc,←List.append_assoc]
  exact (List.perm_append_comm).append_right _
 have hmM:∀p∈[Pc.row g t o A cs B,.own E (.agg cs.toArray) y Gi,.flat E c1 (xs.take i) G1,.flat E c2 (xs.drop (i+1)) G2],p.mu=true:=by intro p hp;simp only [List.mem_cons,List.not_mem_nil,or_false] at hp;rcases hp with rfl|rfl|rfl|rfl <;> rfl
 have hndM:(fp [Pc.row g t o A cs B,.own E (.agg cs.toArray) y Gi,.flat E c1 (xs.take i) G1,.flat E c2 (xs.drop (i+1)) G2]).Nodup:=Af2 (by simpa using hmM) (fun p hp=>s1.on p (List.mem_append_left _ hp)) (by
  have sp:=s1.Y2
  exact ⟨fun q hq=>sp.1 q (List.mem_append_left _ hq),fun q hq=>sp.2.1 q (List.mem_append_left _ hq),fun q hq=>sp.2.2.1 q (List.mem_append_left _ hq),fun q hq=>sp.2.2.2.1 q (List.mem_append_left _ hq),trivial⟩)
 have hnd:(g::(G1++Gi++G2)).Nodup:=hpm.nodup_iff.2 (by simpa [fp,Pc.F] using hndM)
 refine (h (g::(G1++Gi++G2))).h ac w (s.swap hP hmM (N:=[.ow E t u (xs.set i y) (g::(G1++Gi++G2))]) (by intro p hp;rw [List.mem_singleton] at hp;subst hp;exact ⟨hnd,hO⟩) (fun _=>by simpa [fp,Pc.F] using hnd) (fun b hb=>?_)) ag
 simp only [fp,Pc.F,List.append_nil,List.mem_append,List.mem_cons,List.not_mem_nil,or_false] at hb ⊢
 grind
theorem Abb {α:Type} {E:Br α} {t e m b:Nat} {z:Value} [hS:SlC c.P t e m] [hE:ElT c.P e z m b] {xs:List α} {F Fy:List Nat} {g tt:Nat} {cs:List Value} {u:Value} {R R2 S:List Pc} {d:Nat} {ty:TypeId} {v:Value} {x y:Operand} (one:U2 E) (ey:α) (hu:u=.agg cs.toArray)
  (h:∀a' c' F',T c ((d,.slice a' (xs++[ey]).length c')::fr) (.ow E e (.slice a' (xs++[ey]).length c') (xs++[ey]) F'::S) Φ)
  (hx:ev fr x=some v:=by rfl) (hy:ev fr y=some (.slice (some ⟨g,0,none⟩) 1 1):=by rfl) (hp:C1 H (.ow E e v xs F) R:=by exact Dy) (hp2:C1 R (.row g tt 0 [] cs []) R2:=by exact Dy) (hp3:C1 R2 (.own E u ey Fy) S:=by exact Dy) (hz:0 < E.sz:=by decide) (hm:E.sz=m:=by rfl)
  (h63:xs.length+1≤9223372036854775807:=by omega) (hby:(xs.length+1) * b≤140737488355328:=by omega) (hd:Nat.blt d c.n=true:=by rfl) :
  On c fr H (some d) (.call { callee:=.builtin .append,args:=#[x,y],argTypes:=#[t,t] }) ty Φ:=⟨fun _ _ _=>by
 subst hu
 refine ap (ys:=[ey]) (Fy:=Fy) (S:=S) one hz hm hp hx hy rfl (fun w s=>?_) (fun w v' F' s hF w' hk hv=>?_) (by unfold maxLen;exact h63) hby h hd
 ·have hro:=s.on (.row g tt 0 [] cs []) (by simp [hp2.mem])
  have how:=s.on (.own E (.agg cs.toArray) ey Fy) (by simp [hp2.sub _ hp3.mem])
  obtain ⟨hnd,cs',e1,hrep⟩:=how
  obtain rfl:cs=cs':=by simpa using e1
  refine ⟨cs,Cq.one hrep,.inr ⟨_,rfl,fun j u hu=>?_⟩,fun b hb hbF=>?_,hnd⟩
  ·have hr:=hro.2
   have:=hr.cell j
   simp only [List.nil_append,List.append_nil] at this
   rw [hu] at this
   unfold Addr.add
   split
   ·rename_i e;subst e;exact this
   ·simpa using this
  ·exact s.Y2.1 (.own E (.agg cs.toArray) ey Fy) (hp2.sub _ hp3.mem) rfl b hbF hb
 ·have hP:Ew (.ow E e v xs F::R) [.ow E e v xs F,.own E (.agg cs.toArray) ey Fy,.row g tt 0 [] cs []] S:=.cons .here (by
   have:∀{R R2 S:List Pc} {p q:Pc},C1 R p R2→C1 R2 q S→Ew R [q,p] S:=by
    intro R R2 S p q h1
    induction h1 generalizing S with
    | here=>intro h2;exact .cons (.there h2) (.cons .here .nil)
    | @there x p R R' h ih =>
     intro h2
     cases h2 with
     | here=>exact .cons .here (.cons h .nil)
     | there h3 =>
      cases ih h3 with
      | cons a1 a2 =>
       cases a2 with
       | cons b1 b2=>cases b2;exact .cons (.there a1) (.cons (.there b1) .nil)
   exact this hp2 hp3)
  have s1:St c.G c.D c.w0 ([.ow E e v xs F,.own E (.agg cs.toArray) ey Fy]++S) w:=by
   have s0:St c.G c.D c.w0 ([.ow E e v xs F,.own E (.agg cs.toArray) ey Fy,.row g tt 0 [] cs []]++S) w:=by simpa using hP.st (X:=[]) (by simpa using s)
   have sp:=s0.Y2
   have hm3:∀q,q∈[Pc.ow E e v xs F,.own E (.agg cs.toArray) ey Fy]++S→q∈[Pc.ow E e v xs F,.own E (.agg cs.toArray) ey Fy,.row g tt 0 [] cs []]++S:=fun q hq=>by
    simp only [List.cons_append,List.nil_append,List.mem_cons] at hq ⊢
    rcases hq with h|h|h
    ·exact .inl h
    ·exact .inr (.inl h)
    ·exact .inr (.inr (.inr h))
   exact ⟨s0.Kj,fun q hq=>s0.on q (hm3 q hq),⟨fun q hq=>sp.1 q (by
    rcases List.mem_cons.1 hq with h|h
    ·simp [h]
    ·exact List.mem_cons_of_mem _ (List.mem_cons_of_mem _ h)),fun q hq=>sp.2.1 q (List.mem_cons_of_mem _ hq),sp.2.2.2⟩,fun q hq=>s0.Vk q (hm3 q hq)⟩
  refine St.turn (M:=[.ow E e v xs F,.own E (.agg cs.toArray) ey Fy]) (N:=[.ow E e v' (xs++[ey]) F']) s1 (hk.mono (fun b hb _=>by simp [List.filter,Pc.mu,fp,Pc.F,hb])) (by intro q hq;simp at hq;subst hq;exact hv) ⟨by simp,trivial⟩ ?_
  intro q hq b hb
  simp only [List.mem_cons,List.not_mem_nil,or_false] at hq;subst hq
  rcases hF b hb with h|h|h
  ·exact .inr (.inl ⟨.ow E e v xs F,by simp,rfl,h⟩)
  ·exact .inr (.inl ⟨.own E (.agg cs.toArray) ey Fy,by simp,rfl,h⟩)
  ·exact .inl (by omega)⟩
theorem Alm {α:Type} {E:Br α} {a:Option Addr} {n cp:Nat} {xs:List α} {F:List Nat} (k:Nat) (hk:k≤xs.length) (h:∀F',n≤cp→cp≤9223372036854775807→T c fr (.sl E (.slice a k cp) (xs.take k) F'::H) Φ) (hm:.sl E (.slice a n cp) xs F∈H:=by exact B8):T c fr H Φ:=.mk fun ac w s g=>by
 obtain ⟨hz,hs⟩:=s.get hm
 obtain ⟨rfl,hnc,hmx⟩:=hs.caps
 obtain ⟨F',hF,h2⟩:=hs.takeS k hk
 exact (h F' hnc (by unfold maxLen at hmx;omega)).h ac w (s.ro hm rfl rfl ⟨hz,h2⟩ hF) g
/-! the same for slices that read -/
def EA {α:Type} (E:Br α) (n:Nat):Br (List α) where
 sz:=n * E.sz
 Jr w cs xs F:=xs.length=n∧Cq E w cs xs F
 len h:=by obtain ⟨rfl,h⟩:=h;exact h.len
 lt h:=h.2.lt
 frame h hF:=⟨h.1,h.2.frame hF⟩
theorem Xm {α:Type} {E:Br α} (one:U2 E) {a:Option Addr} {n cp:Nat} {xs:List α} {F:List Nat} {m:Nat} (hm:E.sz=m)
  (h:∀(ys:List (List Value)) F1 F2,ys.length=xs.length→(∀y∈ys,y.length=m)→T c fr (.sl (EC m) (.slice a n cp) ys F1::.isv (EA E xs.length) (.agg ys.flatten.toArray) xs F2::H) Φ) (hp:.sl E (.slice a n cp) xs F∈H:=by exact B8):T c fr H Φ:=.mk fun ac w s g=>by
 subst hm
 obtain ⟨hz,a',cap,hv,hl,hh⟩:=s.get hp
 cases hv
 rcases hh with ⟨rfl,rfl,h0⟩|⟨b,off,F',rfl,hne,rfl,hc⟩
 ·refine (h [] [] [] rfl (by simp)).h ac w (s.add (N:=[.sl (EC E.sz) (.slice a 0 cp) [] [],.isv (EA E 0) (.agg #[]) [] []]) (Below.refl _ _) ?_ ?_ ?_) g
  ·intro p hp
   simp only [List.mem_cons,List.not_mem_nil,or_false] at hp
   rcases hp with rfl|rfl
   ·exact ⟨hz,a,cp,rfl,hl,.inl ⟨rfl,rfl,h0⟩⟩
   ·exact ⟨[],rfl,rfl,rfl,rfl⟩
  ·exact ⟨fun q _ hm=>by simp at *;subst_vars;simp [Pc.mu] at hm,fun q hq=>by simp at hq,trivial⟩
  ·intro p hp b hb
   simp only [List.mem_cons,List.not_mem_nil,or_false] at hp
   rcases hp with rfl|rfl <;> simp [Pc.F] at hb
 ·have key:∀(xs:List α) (off:Nat) (G:List Nat),Ln E w b off xs G→∃cs,Cq E w cs xs G∧∀j u,cs[j]?=some u→w.cell? ⟨b,off+j,none⟩=some u:=by
   intro xs
   induction xs with
   | nil=>intro off G h;exact ⟨[],⟨rfl,h⟩,by simp⟩
   | cons x r ih =>
    intro off G h
    obtain ⟨c1,F1,F2,rfl,h1,h2,h3⟩:=h
    obtain ⟨c2,f2,k2⟩:=ih _ _ h3
    have hl1:=E.len h1
    refine ⟨c1++c2,⟨c1,c2,F1,F2,rfl,rfl,h1,f2⟩,fun j u hu=>?_⟩
    by_cases hj:j < c1.length
    ·rw [List.getElem?_append_left hj] at hu
     rw [h2 j (by omega)];exact hu
    ·rw [List.getElem?_append_right (by omega)] at hu
     have:=k2 _ _ hu
     rwa [show off+E.sz+(j - c1.length)=off+j by omega] at this
  obtain ⟨cs,f1,k1⟩:=key xs off F' hc
  obtain ⟨ys,e1,rfl,e2,f2⟩:=Abj (w':=w) one f1
  have hys:ys≠[]:=by rintro rfl;exact hne (List.eq_nil_of_length_eq_zero e1.symm)
  refine (h ys [b] F' e1 e2).h ac w (s.add (N:=[.sl (EC E.sz) (.slice (some ⟨b,off,none⟩) xs.length cp) ys [b],.isv (EA E xs.length) (.agg ys.flatten.toArray) xs F']) (Below.refl _ _) ?_ ?_ ?_) g
  ·intro p hp
   simp only [List.mem_cons,List.not_mem_nil,or_false] at hp
   rcases hp with rfl|rfl
   ·refine ⟨hz,_,cp,by rw [e1],by rw [e1];exact hl,.inr ⟨b,off,[],rfl,hys,rfl,f2.cells (fun j u hu=>k1 j u hu)⟩⟩
   ·exact ⟨_,rfl,rfl,f1⟩
  ·exact ⟨fun q hq hm=>by simp only [List.mem_cons,List.not_mem_nil,or_false] at hq;subst hq;simp [Pc.mu] at hm,fun q hq=>by simp at hq,trivial⟩
  ·intro p hq z hb
   simp only [List.mem_cons,List.not_mem_nil,or_false] at hq
   rcases hq with rfl|rfl
   ·exact .inr ⟨rfl,_,hp,rfl,by simp only [Pc.F,List.mem_cons,List.not_mem_nil,or_false] at hb ⊢;exact .inl hb⟩
   ·exact .inr ⟨rfl,_,hp,rfl,by simp only [Pc.F,List.mem_cons] at hb ⊢;exact .inr hb⟩
theorem Mp {α:Type} {E:Br α} {a:Option Addr} {n cp m k:Nat} {ys:List (List Value)} {v:Value} {xs:List α} {F G:List Nat} (hm:E.sz=m) (hl:ys.length=xs.length) (hv:v=.agg ys.flatten.toArray)
  (h:∀F',T c fr (.sl E (.slice a n cp) xs F'::H) Φ) (hp:.sl (EC m) (.slice a n cp) ys F∈H:=by exact B8) (hp2:.isv (EA E k) v xs G∈H:=by exact B8):T c fr H Φ:=.mk fun ac w s g=>by
 subst hm hv
 obtain ⟨hz,a',cap,hv,hlc,hh⟩:=s.get hp
 cases hv
 obtain ⟨cs,e, -,hf⟩:=s.get hp2
 obtain rfl:ys.flatten=cs:=by simpa using e
 rcases hh with ⟨rfl,rfl,h0⟩|⟨b,off,F',rfl,hne,rfl,hc⟩
 ·have:xs=[]:=List.eq_nil_of_length_eq_zero hl.symm
  subst this
  refine (h []).h ac w (s.add (N:=[.sl E (.slice a 0 cp) [] []]) (Below.refl _ _) (by intro p hp;simp only [List.mem_cons,List.not_mem_nil,or_false] at hp;subst hp;exact ⟨hz,a,cp,rfl,hlc,.inl ⟨rfl,rfl,h0⟩⟩) ⟨by simp,trivial⟩ (by intro p hp b hb;simp only [List.mem_cons,List.not_mem_nil,or_false] at hp;subst hp;simp [Pc.F] at hb)) g
 ·have hxs:xs≠[]:=by rintro rfl;exact hne (List.eq_nil_of_length_eq_zero hl)
  have key:∀(ys:List (List Value)) (off:Nat) (G:List Nat),Ln (EC E.sz) w b off ys G→∀j u,ys.flatten[j]?=some u→w.cell? ⟨b,off+j,none⟩=some u:=by
   intro ys
   induction ys with
   | nil=>intro off G _ j u hu;simp at hu
   | cons y r ih =>
    intro off G h j u hu
    obtain ⟨c1,F1,F2,rfl,⟨rfl,⟨hy, -⟩, -⟩,h2,h3⟩:=h
    rw [List.flatten_cons] at hu
    by_cases hj:j < c1.length
    ·rw [List.getElem?_append_left hj] at hu
     rw [h2 j (by show j < E.sz;omega)];exact hu
    ·rw [List.getElem?_append_right (by omega)] at hu
     have:=ih _ _ h3 _ _ hu
     rwa [show off+(EC E.sz).sz+(j - c1.length)=off+j by show off+E.sz+(j - c1.length)=off+j;omega] at this
  refine (h (b::G)).h ac w (s.add (N:=[.sl E (.slice (some ⟨b,off,none⟩) ys.length cp) xs (b::G)]) (Below.refl _ _) (by
   intro p hp
   simp only [List.mem_cons,List.not_mem_nil,or_false] at hp;subst hp
   exact ⟨hz,_,cp,by rw [hl],by rw [←hl];exact hlc,.inr ⟨b,off,G,rfl,hxs,rfl,hf.cells (fun j u hu=>key ys off F' hc j u hu)⟩⟩) ⟨by simp,trivial⟩ (by
   intro p hq z hb
   simp only [List.mem_cons,List.not_mem_nil,or_false] at hq;subst hq
   simp only [Pc.F,List.mem_cons] at hb
   rcases hb with rfl|hb
   ·exact .inr ⟨rfl,_,hp,rfl,by simp [Pc.F]⟩
   ·exact .inr ⟨rfl,_,hp2,rfl,hb⟩)) g
theorem Ad8 {α:Type} {E:Br α} {v:Value} {x:α} {F:List Nat} (h:T c fr (.isv (EA E 1) v [x] F::H) Φ) (hp:.isv E v x F∈H:=by exact B8):T c fr H Φ:=.mk fun ac w s g=>by
 obtain ⟨cs,e,hr⟩:=s.get hp
 exact h.h ac w (s.ro hp rfl rfl ⟨cs,e,rfl,Cq.one hr⟩ (fun b hb=>hb)) g
theorem Alj {α:Type} {E:Br α} {k1 k2:Nat} {c1 c2:List Value} {v1 v2:Value} {x1 x2:List α} {F1 F2:List Nat} (e1:v1=.agg c1.toArray) (e2:v2=.agg c2.toArray) (h:T c fr (.isv (EA E (k1+k2)) (.agg (c1++c2).toArray) (x1++x2) (F1++F2)::H) Φ) (hp:.isv (EA E k1) v1 x1 F1∈H:=by exact B8) (hp2:.isv (EA E k2) v2 x2 F2∈H:=by exact B8):T c fr H Φ:=.mk fun ac w s g=>by
 subst e1 e2
 obtain ⟨cs,e,hl,hf⟩:=s.get hp
 obtain ⟨cs2,e2,hl2,hf2⟩:=s.get hp2
 obtain rfl:c1=cs:=by simpa using e
 obtain rfl:c2=cs2:=by simpa using e2
 refine h.h ac w (s.add (N:=[.isv (EA E (k1+k2)) (.agg (c1++c2).toArray) (x1++x2) (F1++F2)]) (Below.refl _ _) (by intro p hp;rw [List.mem_singleton] at hp;subst hp;exact ⟨_,rfl,by simp [hl,hl2],hf.append hf2⟩) ⟨by simp,trivial⟩ (by
  intro p hq z hb
  rw [List.mem_singleton] at hq;subst hq
  rcases List.mem_append.1 hb with hb|hb
  ·exact .inr ⟨rfl,_,hp,rfl,hb⟩
  ·exact .inr ⟨rfl,_,hp2,rfl,hb⟩)) g
theorem Rp {m:Nat} {cs:List Value} (hm:cs.length=m) (h1:∀u∈cs,u.oneCell'=true) (w:World):Cq (EC m) w cs [cs] []:=Cq.one ⟨rfl,⟨hm,h1⟩,rfl⟩
theorem Mq {α:Type} {O R:Br α} (hW:Me O R) {v:Value} {x:α} {F:List Nat} {S:List Pc} (h:∀F',T c fr (.isv R v x F'::S) Φ) (hp:C1 H (.own O v x F) S:=by exact Dy):T c fr H Φ:=.mk fun a w s g=>by
 have s1:=s.pick hp
 obtain ⟨-,ho⟩:=s1.on (.own O v x F) (by simp)
 obtain ⟨F',hF,hs⟩:=O1.weak hW ho
 exact (h F').h a w (s1.conv rfl hs hF) g
end
section
variable {c:Cx} {fr:Fr} {H:List Pc} {Φ:Gl}
theorem Rm {α:Type} {E:Br α} {hz:0 < E.sz} {a:Option Addr} {n cp:Nat} {xs:List (List α)} {F:List Nat} (i:Nat) (h:∀(hi:i < xs.length) (b o:Nat) (a1:Option Addr) (c1:Nat) (F1:List Nat),a=some ⟨b,o,none⟩→xs[i].length≤maxLen→T c fr (.cel b (o+i * 1) [.slice a1 xs[i].length c1]::.sl E (.slice a1 xs[i].length c1) xs[i] F1::H) Φ) (hm:.sl (Ly E hz) (.slice a n cp) xs F∈H:=by exact B8) (hi:i < xs.length:=by omega):T c fr H Φ:=.mk fun ac w s g=>by
 obtain ⟨b,o,cs,G,ha,hrep,hG,hb,hne,hr⟩:=Rz (s.get hm) i hi
 obtain ⟨v1,rfl,h1⟩:=hrep
 obtain ⟨a1,c1,rfl⟩:=h1.slice;have l1:=h1.len
 have t1:=s.ro (p:=.sl E (.slice a1 xs[i].length c1) xs[i] G) hm rfl rfl ⟨hz,h1⟩ (by intro b hb;simp only [Pc.F] at hb ⊢;exact hG b (by simp [hb]))
 exact (h hi b o a1 c1 G ha l1).h ac w (t1.ro (List.mem_cons_of_mem _ hm) rfl rfl ⟨hne,hr⟩ (by intro x hx;simp [Pc.F] at hx;subst hx;exact hb)) g
theorem Sk {α:Type} {O:Br α} {t:TypeId} {v:Value} {xs:List α} {F:List Nat} {S:List Pc} (h:∀(a1:Option Addr) (c1:Nat),v=.agg #[.slice a1 xs.length c1]→xs.length≤maxLen→T c fr (.ow O t (.slice a1 xs.length c1) xs F::S) Φ) (hp:C1 H (.own (Gt O t) v xs F) S:=by exact Dy):T c fr H Φ:=.mk fun a w s g=>by
 have z1:=s.pick hp
 obtain ⟨hn,cs,rfl,v1,rfl,h1⟩:=z1.on (.own (Gt O t) v xs F) (by simp)
 obtain ⟨a1,c1,rfl⟩:=h1.slice
 have l1:=h1.len
 exact (h a1 c1 rfl l1).h a w (z1.conv rfl ⟨hn,h1⟩ (fun b hb=>hb)) g
theorem Jh {α:Type} {O:Br α} {t:TypeId} (xs:List α) {a1:Option Addr} {c1:Nat} {F:List Nat} {S:List Pc} (h:T c fr (.own (Gt O t) (.agg #[.slice a1 xs.length c1]) xs F::S) Φ) (hp:C1 H (.ow O t (.slice a1 xs.length c1) xs F) S:=by exact Dy):T c fr H Φ:=.mk fun a w s g=>by
 have z1:=s.pick hp
 obtain ⟨hn,h1⟩:=z1.on (.ow O t (.slice a1 xs.length c1) xs F) (by simp)
 exact h.h a w (z1.conv rfl ⟨hn,_,rfl,_,rfl,h1⟩ (fun b hb=>hb)) g
end
theorem Ab1:∀(A:List Pc),A.all (fun p=>!p.mu)=true→O6 A
 | [],_=>trivial
 | p::A,h=>by
  simp only [List.all_cons,Bool.and_eq_true,Bool.not_eq_true'] at h
  exact ⟨fun q hq hm=>by
   have hq':=List.all_eq_true.1 h.2 q hq
   simp only [Bool.not_eq_true'] at hq'
   rw [h.1,hq'] at hm;simp at hm,Ab1 A h.2⟩
section
variable {c:Cx} {fr:Fr} {H:List Pc} {d:Nat} {Φ:Gl}
theorem cfr {f:Nat} {vs:List Value} {σ:Type} {C:σ→Prop} {vv:σ→Value} {N:σ→List Pc} (hf:∀w,St c.G c.D c.w0 H w→∃A,Ms A w∧A.all (fun p=>!p.mu)=true∧Fn c.P f vs A [] C vv N)
  (h:∀s,C s→T c ((d,vv s)::fr) (N s++H) Φ) (hN:∀s,(N s).all (·.mu)=true:=by intro s;rfl):Cl c fr H d f vs Φ :=
 V8 (R:=fun w e w'=>∃s,C s∧e=.returned (vv s)∧Ms (N s) w'∧O6 (N s)∧Dt [] w w'∧∀p∈N s,∀b∈p.F,w.heap.size≤b)
  (fun w s=>by
   obtain ⟨A,hA,hm,hF⟩:=hf w s
   refine (hF w (by simpa using hA) (by simpa using Ab1 A hm)).mono fun e w' ⟨z,hz,he,h1,h2,h3,h4⟩=>⟨z,hz,he,h1,h2,h3,fun p hp b hb=>?_⟩
   rcases h4 p hp b hb with h|⟨q,hq, -⟩|⟨hp', -⟩
   ·exact h
   ·cases hq
   ·have:=List.all_eq_true.1 (hN z) p hp
    rw [hp'] at this;cases this)
  (fun w e w' s ⟨z,hz,he,h1,h2,h3,h4⟩=>⟨_,he,fun a g=>(h z hz).h a w' (St.turn (M:=[]) (R:=H) (N:=N z) s h3 h1 h2 fun p hp b hb=>.inl (h4 p hp b hb)) g⟩)
theorem Ak9 {M A R:List Pc} (hm:M.all (·.mu)=true) (hA:A.all (fun p=>!p.mu)=true) (hb:∀p∈A,∀b∈p.F,∃q∈R,b∈q.F):O6 (M++R)→O6 (M++A):=by
 induction M with
 | nil=>intro _;exact Ab1 A hA
 | cons p M ih =>
  simp only [List.all_cons,Bool.and_eq_true] at hm
  intro s
  refine ⟨fun q hq=>?_,ih hm.2 s.2⟩
  rcases List.mem_append.1 hq with h|h
  ·exact s.1 q (by simp [h])
  ·intro _ b hp hq2
   obtain ⟨r,hr,hbr⟩:=hb q h b hq2
   exact s.1 r (by simp [hr]) (by rw [hm.1];rfl) b hp hbr
theorem cfm {f:Nat} {vs:List Value} {M R:List Pc} {σ:Type} {C:σ→Prop} {vv:σ→Value} {N:σ→List Pc} (hM:Ew H M R) (hf:∀w,St c.G c.D c.w0 (M++R) w→∃A,Ms A w∧A.all (fun p=>!p.mu)=true∧(∀p∈A,∀b∈p.F,∃q∈R,b∈q.F)∧Fn c.P f vs A M C vv N)
  (h:∀s,C s→T c ((d,vv s)::fr) (N s++R) Φ) (hmM:M.all (·.mu)=true:=by rfl) (hN:∀s,(N s).all (·.mu)=true:=by intro s;rfl):Cl c fr H d f vs Φ :=
 have hMR:∀w,St c.G c.D c.w0 H w→St c.G c.D c.w0 (M++R) w:=fun w s=>by simpa using hM.st (X:=[]) (by simpa using s)
 have hmu:∀p∈M,p.mu=true:=fun p hp=>List.all_eq_true.1 hmM p hp
 V8 (R:=fun w e w'=>∃s,C s∧e=.returned (vv s)∧Ms (N s) w'∧O6 (N s)∧Dt (fp M) w w'∧∀p∈N s,∀b∈p.F,w.heap.size≤b∨∃q∈M,b∈q.F)
  (fun w s=>by
   obtain ⟨A,hA,hm,hb,hF⟩:=hf w (hMR w s)
   have s2:=hMR w s
   refine (hF w (fun p hp=>?_) (Ak9 hmM hm hb s2.Y2)).mono fun e w' ⟨z,hz,he,h1,h2,h3,h4⟩=>⟨z,hz,he,h1,h2,h3,fun p hp b hb=>?_⟩
   ·rcases List.mem_append.1 hp with hp|hp
    ·exact s2.on p (by simp [hp])
    ·exact hA p hp
   ·rcases h4 p hp b hb with h|h|⟨hp', -⟩
    ·exact .inl h
    ·exact .inr h
    ·have:=List.all_eq_true.1 (hN z) p hp
     rw [hp'] at this;cases this)
  (fun w e w' s ⟨z,hz,he,h1,h2,h3,h4⟩=>⟨_,he,fun a g=>(h z hz).h a w' (St.turn (hMR w s) (by rwa [List.filter_eq_self.2 hmu]) h1 h2 fun p hp b hb=>by
   rcases h4 p hp b hb with h|⟨q,hq,hqb⟩
   ·exact .inl h
   ·exact .inr (.inl ⟨q,hq,hmu q hq,hqb⟩)) g⟩)
theorem Ab2 {α:Type} {E:Br α} (Q:α→Prop) (hQ:∀w cs x F,E.Jr w cs x F→Q x) {a:Option Addr} {n cp:Nat} {xs:List α} {F:List Nat} (h:(∀x∈xs,Q x)→T c fr H Φ) (hm:.sl E (.slice a n cp) xs F∈H:=by exact B8):T c fr H Φ:=.mk fun ac w s g =>
 (h fun x hx=>by
  obtain ⟨k,hk,rfl⟩:=List.getElem_of_mem hx
  obtain ⟨-,hs⟩:=s.get hm
  obtain ⟨-, -,cs,F1, -,h1, -, -⟩:=hs.at k hk
  exact hQ _ _ _ _ h1).h ac w s g
theorem Q4 {P:Program} {fn:Func} {G D:List Nat} {w0:World} {n:Nat} {R:Ending→World→Prop} (h:T ⟨P,G,D,w0,n,bodyPost P fn R⟩ fr H (.fin .ret)):T ⟨P,G,D,w0,n,bodyPost P fn R⟩ fr H (.norm []):=Aq8 ⟨fun a w s g=>h.h a w s g⟩
end
section
variable {P:Program} {ops:Array Oper} {Q:Exit→Act→World→Prop} {md:Region.Mode} {S:World→Prop} {X:Nat→Bool}
theorem C3.firstP {i:Nat} {oi:Oper} {v:Value} (hi:ops[i]?=some oi) (hsel:∀(j:Nat) (o:Oper) cs b,ops[j]?=some o→o.op≠.select cs b)
  (hQ:∀c a w,Q (.panic c) (a.put oi.dst v) w→Q (.panic c) a w) (hXi:X i=true) :
  ∀(f:Nat) (listed:Array Bool) (a:Act) (w:World),
   (∀j oj,ops[j]?=some oj→j≠i→listed.getD j true=false→(∀e∈oj.after,Region.binds md e=true→e.on≠i)→oi.apart ops oj=true) →
   i∈Region.ready md ops listed→YieldsIf P ops (fun _=>True) oi v a→C3 P md ops Q S X f (listed.setIfInBounds i true) (a.put oi.dst v) w→C3 P md ops Q S X (f+1) listed a w:=by
 intro f
 induction f with
 | zero =>
  intro listed a w _ hr hy H
  refine ⟨fun h=>(by rw [h] at hr;cases hr),fun j hj=>?_⟩
  by_cases hji:j=i
  ·subst hji;exact hy.wpOp hi trivial ⟨(fun h=>by rw [hXi] at h;cases h),H⟩
  ·have:=ready_mono hj hji
   rw [H.1] at this;cases this
 | succ f ih =>
  intro listed a w hfree hr hy H
  refine ⟨fun h=>(by rw [h] at hr;cases hr),fun j hj=>?_⟩
  by_cases hji:j=i
  ·subst hji;exact hy.wpOp hi trivial ⟨(fun h=>by rw [hXi] at h;cases h),H⟩
  ·obtain ⟨hju,oj,hoj,hall⟩:=mem_ready.1 hj
   have hiu:=R9 (mem_ready.1 hr).1
   have hnot:∀e∈oj.after,Region.binds md e=true→e.on≠i:=fun e he hb heq=>by
    have h1:=hall e he hb
    rw [heq,hiu] at h1;cases h1
   have h2:=wpOp_putIf hoj (hfree j oj hoj hji hju hnot) (fun cs b=>hsel i oi cs b hi) (fun cs b=>hsel j oj cs b hoj) hQ hy (H.2 j (ready_mono hj hji))
   refine wpOp_mono (fun a' w' h3=>⟨h3.2.1,ih (listed.setIfInBounds j true) a' w' (fun k ok hk hki hun hno=>hfree k ok hk hki ?_ hno) (ready_mono hr (Ne.symm hji)) h3.1 ?_⟩) h2
   ·by_cases hjk:j=k
    ·subst hjk;exact hju
    ·rw [getD_set_ne true hjk] at hun;exact hun
   ·rw [Array.setIfInBounds_comm _ _ hji];exact h3.2.2
theorem C3.takeP {i:Nat} {oi:Oper} {v:Value} {f:Nat} {listed:Array Bool} {a:Act} {w:World} (hi:ops[i]?=some oi)
  (hs:Region.noSelect ops=true) (hf:Region.free md ops listed i=true) (hr:(Region.ready md ops listed).contains i=true) (hXi:X i=true)
  (hQ:∀c a w,Q (.panic c) (a.put oi.dst v) w→Q (.panic c) a w) (hy:YieldsIf P ops (fun _=>True) oi v a)
  (h:C3 P md ops Q S X f (listed.setIfInBounds i true) (a.put oi.dst v) w):C3 P md ops Q S X (f+1) listed a w :=
 C3.firstP hi (Region.noSelect_spec hs) hQ hXi f listed a w (Region.free_spec hi hf) (by simpa using hr) hy h
end
section
variable {c:Cx} {fr:Fr} {H H0:List Pc} {k:List It} {X:List Nat} {ops:Array Oper} {f:Nat} {listed:Array Bool} {d:Nat} {o:Op} {ty:TypeId} {pos:String} {Bn:Array Edge} {v:Value}
theorem Pi (i:Nat) (h:T c ((d,v)::fr) H (.dx k H0 X ops f (listed.setIfInBounds i true))) (ho:ops[i]?=some ⟨some d,o,ty,pos,Bn,none⟩:=by rw [List.getElem?_toArray];rfl) (hy:Yd c.P c.n fr [] o ty v:=by exact ydE) (hX:X.contains i=true:=by rfl)
  (h1:Region.noSelect ops=true:=by kernel_rfl) (h2:Region.free .any ops listed i=true:=by kernel_rfl) (h3:(Region.ready .any ops listed).contains i=true:=by kernel_rfl) (hR:T8 c:=by exact Wm) (hd:Nat.blt d c.n=true:=by rfl) :
  T c fr H (.dx k H0 X ops (f+1) listed):=.mk fun a w s g =>
 C3.takeP (v:=v) ho h1 h2 h3 hX (fun ch a w hp=>by rw [Jq] at hp ⊢;exact hR _ _ _ _ _ hp) (.inl ⟨rfl,fun w' _=>hy.h a w' _ _ _ _ g (by intro p hp;simp at hp)⟩) (h.h _ _ s (g.put hd))
theorem Amj {c:Cx} {fr:Fr} {H:List Pc} {k:List It} {x y:Code} {σ:Type} {cst:Fr} {rest:List Pc} (ks rs:List Nat) (upd:σ→Fr) (chg:σ→List Pc) (C:σ→Prop) (h:T c fr H (.Bl (.cd y::.lp (Jn c (fun s=>upd s++cst) (fun s=>chg s++rest) C)::k) x)) (h2:∀s,C s→T c (upd s++cst) (chg s++rest) (.norm k))
  (_hk:Kf fr ks cst:=by repeat (first|exact Kf.nil|apply Kf.cons (by rfl))) (_hr:Sel H rs rest:=by repeat constructor):T c fr H (.Bl (.cd y::k) x):=.mk fun a w s g=>by
 refine wp_mono (h.h a w s g) fun e a1 w1 he=>?_
 cases e with
 | normal =>
  refine wp_mono he fun e a2 w2 he=>?_
  cases e with
  | normal=>obtain ⟨s,hC,hs,hg⟩:=he;exact (h2 s hC).h a2 w2 hs hg
  | _=>exact he
 | _=>exact he
end
section
variable {c:Cx} {fr:Fr} {H H0:List Pc} {k:List It} {Φ:Gl} {X:List Nat} {ops:Array Oper} {f:Nat} {listed:Array Bool} {d:Nat} {o:Op} {ty:TypeId} {v u:Value} {x y:Operand}
theorem Put.all:∀{zs l:List Value},zs.length=l.length→Put zs 0 l l
 | [],[],_=>.zero
 | [],_::_,h=>by simp at h
 | _::_,[],h=>by simp at h
 | _::zs,_::l,h=>.one (Put.all (by simpa using h))
end
/-! contracts, with what they ask read off pieces -/
section
variable {G D:List Nat} {w0 w:World} {H:List Pc}
end
theorem Nu {α:Type} {l:List α} {i:Nat} (h:i < l.length) (x:α):l.getD i x=l[i]:=by rw [List.getD_eq_getElem?_getD,List.getElem?_eq_getElem h];rfl
theorem Vm (d:List (List As)) (i:Nat) (p:As) (a:Option Addr) (n c:Nat) (F:List Nat) (hn:n=d.length) (hi:i < d.length) (hs:p.data.size≤maxLen):Fn prog 85 [.slice a n c,.int .i64 (i:Nat),.agg #[.int .i64 (p).C2,.int .i64 (p).Ad,.int .i64 (p).Ak,.int .i64 (p).D0,.string (p).data]] [] [.ow (Gt Al 108) 99 (.slice a n c) d F] (fun (_:List Nat)=>True) (fun _=>.tuple #[]) (fun G=>[.ow (Gt Al 108) 99 (.slice a n c) (d.set i (P8 d[i] p)) G]):=by
 refine enter func85 rfl ntmps85 fun w0=>?_
 refine Va (m:=1) i ?_ rfl hi
 rintro _ g A cs B k1 k2 G1 Gi G2 rfl - hc hH
 refine Sk ?_
 rintro a5 c5 ev l5
 obtain rfl:cs=[.slice a5 d[i].length c5]:=by simpa using ev
 refine go ?_;intros
 refine Bf rfl (fun h1=>?_) (fun h1=>?_)
 ·have h6:d[i].length < 6:=by omega
  rw [show P8 d[i] p=d[i]++[p] by unfold P8;rw [if_pos h6]]
  refine go ?_;intros
  refine Aw [0,2] [10] ?_
  refine dt 0 ?_
  refine dt 1 ?_
  refine dt 2 ?_
  refine dt 3 ?_
  refine dt 4 ?_
  refine dt 5 ?_
  refine dt 6 ?_
  refine dO 7 (by kernel_rfl) (by rw [List.getElem?_toArray];rfl) ?_
  apply Hh;rfl;rfl;rfl;rfl;exact Hb;exact Gp;intro _
  refine dk ?_
  refine dO 8 (by kernel_rfl) (by rw [List.getElem?_toArray];rfl) ?_
  refine Lh (ys:=[p]) (C4 p hs) Gz fun a7 c7 F7=>?_
  refine dk ?_
  refine dt 9 ?_
  refine dO 10 (by kernel_rfl) (by rw [List.getElem?_toArray];rfl) ?_
  apply Cu;rfl;rfl;rfl;(first|exact AggC.s|exact OneC.s);rfl;exact Cw;exact Cv;rfl
  refine Mg ?_
  refine dd ?_
  refine Jh (d[i]++[p]) ?_
  refine go ?_;intros
  refine Q5 _ hH rfl fun F6=>?_
  refine Q4 ?_
  refine ret F6 trivial rfl
 ·rw [show P8 d[i] p=d[i] by unfold P8;rw [if_neg (by omega)]]
  refine go ?_;intros
  refine Jh d[i] ?_
  refine Q5 _ hH rfl fun F6=>?_
  refine Q4 ?_
  refine ret F6 trivial rfl
theorem Aaw (q l:List As) (p:As):Eq q (l++[p])=P8 (Eq q l) p:=by
 unfold Eq P8
 by_cases h:l.length < 6 - q.length
 ·rw [List.take_of_length_le (by rw [List.length_append];simp;omega),List.take_of_length_le (by omega),if_pos (by rw [List.length_append];omega),List.append_assoc]
 ·have e:(l++[p]).take (6 - q.length)=l.take (6 - q.length):=by rw [List.take_append_of_le_length (by omega)]
  rw [e,if_neg (by rw [List.length_append,List.length_take];omega)]
def Np (s:List (List As)) (i:Nat) (ps:List As):List (List As):=s.modify i fun q=>Eq q ps
theorem Aau (s:List (List As)) (i:Nat) (ps:List As):(Np s i ps).length=s.length:=List.length_modify ..
theorem Aav (s:List (List As)) (i:Nat):Np s i []=s:=by
 unfold Np
 by_cases h:i < s.length
 ·rw [Fb h,Adx,List.set_getElem_self]
 ·exact Tq h
theorem Ys {s:List (List As)} {i j:Nat} {ps:List As} (hi:i < s.length) (hj:j < ps.length) (h:i < (Np s i (ps.take j)).length):(Np s i (ps.take j)).set i (P8 (Np s i (ps.take j))[i] ps[j])=Np s i (ps.take (j+1)):=by
 unfold Np
 simp only [Fb hi]
 rw [List.getElem_set_self,List.set_set,List.take_succ_eq_append_getElem hj,Aaw]
theorem Wq {d:List (List As)} {nodes:List Int} {ps:List As} {k:Nat} (hk:k < nodes.length):Dd d (nodes.take (k+1)) ps=Np (Dd d (nodes.take k) ps) nodes[k].toNat ps:=by rw [List.take_succ_eq_append_getElem hk,Ad4];rfl
structure KF where
 k:Nat
 F:List Nat
theorem Tj (d:List (List As)) (nodes:List Int) (ps:List As) (g:Nat) (v0 v1 v2 v3 v4 v5 v6 v7 v8 v10:Value) (a:Option Addr) (n c:Nat) (F:List Nat) (an:Option Addr) (cn:Nat) (Fn_:List Nat) (ap:Option Addr) (cp:Nat) (Fp:List Nat) (hn:n=d.length) (hx:∀x∈nodes,0≤x∧x.toNat < d.length) :
  Fn prog 76 [Eu g 0 0,.slice an nodes.length cn,.slice ap ps.length cp] [.sl Bd (.slice an nodes.length cn) nodes Fn_,.sl Al (.slice ap ps.length cp) ps Fp] [.row g 39 0 [] [v0,v1,v2,v3,v4,v5,v6,v7,v8,.slice a n c,v10] [],.ow (Gt Al 108) 99 (.slice a n c) d F] (fun (_:List Nat)=>True) (fun _=>.tuple #[]) (fun G=>[.row g 39 0 [] [v0,v1,v2,v3,v4,v5,v6,v7,v8,.slice a n c,v10] [],.ow (Gt Al 108) 99 (.slice a n c) (Dd d nodes ps) G]):=by
 refine enter func76 rfl ntmps76 fun w0=>?_
 refine Wy (E:=Bd) (xs:=nodes) ?_
 rintro _ _ e0 hn1 hn2
 refine Wy (E:=Al) (xs:=ps) ?_
 rintro _ _ e3 hp1 hp2
 refine Ab2 (E:=Al) (fun p:As=>p.data.size≤maxLen) (fun w cs x F h=>by obtain ⟨_,h,_⟩:=h;exact h) ?_
 intro hz
 cases e0;cases e3
 refine go ?_;intros
 refine Ck [0,2,10,11] (fun z:KF=>[(12,.int .i64 (z.k:Nat))]) (fun z=>[.ow (Gt Al 108) 99 (.slice a n c) (Dd d (nodes.take z.k) ps) z.F]) (fun z=>z.k≤nodes.length) (fun z=>nodes.length - z.k) ⟨0,_⟩ (Nat.zero_le _) fun z hz0=>?_
 have hsl:=Tz ps (nodes.take z.k) d
 refine go ?_;intros
 refine Bf rfl (fun h1=>?_) (fun h1=>?_)
 ·have hk:z.k < nodes.length:=by omega
  obtain ⟨x0,x1⟩:=hx _ (List.getElem_mem hk)
  obtain ⟨i,hi⟩:∃i:Nat,nodes[z.k]=((i:Nat):Int):=⟨nodes[z.k].toNat,by omega⟩
  have hil:i < (Dd d (nodes.take z.k) ps).length:=by omega
  have hst:=Wq (d:=d) (ps:=ps) hk
  rw [show nodes[z.k].toNat=i by omega] at hst
  refine Je (xs:=nodes) z.k ?_
  rintro hi2 b o e1
  rw [e1,hi]
  refine go ?_;intros
  rw [show Dd d (nodes.take z.k) ps=Np (Dd d (nodes.take z.k) ps) i (ps.take 0) by rw [List.take_zero,Aav]]
  refine Ck [0,2,7,10,11,12,13,14,15,16,17] (fun y:KF=>[(18,.int .i64 (y.k:Nat))]) (fun y=>[.ow (Gt Al 108) 99 (.slice a n c) (Np (Dd d (nodes.take z.k) ps) i (ps.take y.k)) y.F]) (fun y=>y.k≤ps.length) (fun y=>ps.length - y.k) ⟨0,z.F⟩ (Nat.zero_le _) fun y hy0=>?_
  have hpl:=Aau (Dd d (nodes.take z.k) ps) i (ps.take y.k)
  refine go ?_;intros
  refine Bf rfl (fun h2=>?_) (fun h2=>?_)
  ·have hj:y.k < ps.length:=by omega
   refine Ok (xs:=ps) y.k ?_
   rintro hi3 b3 o3 e3 s3
   rw [e3]
   refine go ?_;intros
   refine Aw [0,4] [] ?_
   refine dt 0 ?_
   refine dt 1 ?_
   refine dt 2 ?_
   refine dt 3 ?_
   refine dt 4 ?_
   refine dt 5 ?_
   refine dO 6 (by kernel_rfl) (by rw [List.getElem?_toArray];rfl) ?_
   apply At;rfl;kernel_rfl;exact Be
   refine cf (Vm (Np (Dd d (nodes.take z.k) ps) i (ps.take y.k)) i ps[y.k] a n c y.F (by omega) (by omega) s3) fun f1 _=>?_
   refine Ar ?_
   rw [Ys hil hj]
   refine dk ?_
   refine dd ?_
   refine go ?_;intros
   refine Ct ⟨y.k+1,f1⟩ hj (by show ps.length - (y.k+1) < ps.length - y.k;omega)
  ·rw [show ps.take y.k=ps from List.take_of_length_le (by omega),←hst]
   refine go ?_;intros
   refine Ct ⟨z.k+1,y.F⟩ hk (by show nodes.length - (z.k+1) < nodes.length - z.k;omega)
 ·rw [show nodes.take z.k=nodes from List.take_of_length_le (by omega)]
  refine go ?_;intros
  refine Q4 ?_
  refine ret z.F trivial rfl
section
variable {c:Cx} {fr:Fr} {H:List Pc} {Φ:Gl}
theorem Kd {a:Option Addr} {n cp:Nat} {xs:List A4} {F:List Nat} (i:Nat) (h:∀(hi:i < xs.length) (b o:Nat),a=some ⟨b,o,none⟩→T c fr (.cel b (o+i * 4) [.int .i64 xs[i].Ad,.int .i64 xs[i].H4,.int .i64 xs[i].Cf,.int .i64 xs[i].Du]::H) Φ) (hm:.sl Az (.slice a n cp) xs F∈H:=by exact B8) (hi:i < xs.length:=by omega):T c fr H Φ:=.mk fun ac w s g=>by
 obtain ⟨b,o,cs,G,ha,hrep,hG,hb,hne,hr⟩:=Rz (s.get hm) i hi
 obtain ⟨rfl,rfl⟩:=hrep
 exact (h hi b o  ha  ).h ac w (s.ro hm rfl rfl ⟨hne,hr⟩ (by intro x hx;simp [Pc.F] at hx;subst hx;exact hb)) g
theorem X8 {t:TypeId} {a:Option Addr} {n cp:Nat} {xs:List A4} {F:List Nat} {S:List Pc} (i:Nat) (h:∀(_:i < xs.length) g A B,a=some ⟨g,0,none⟩→F=[g]→Ai2 Az t g (.slice (some ⟨g,0,none⟩) n cp) xs i A B→T c fr (.row g t (0+i * 4) A [.int .i64 xs[i].Ad,.int .i64 xs[i].H4,.int .i64 xs[i].Cf,.int .i64 xs[i].Du] B::S) Φ) (hp:C1 H (.ow Az t (.slice a n cp) xs F) S:=by exact Dy) (hi:i < xs.length:=by omega):T c fr H Φ :=
 Nl Dk i (fun hi g A cs B ha hF hr hh=>by obtain ⟨rfl, -⟩:=hr default;exact h hi g A B ha hF  hh) hp rfl hi
theorem Kw (x:A4)  (w:World):Cq Az w [.int .i64 x.Ad,.int .i64 x.H4,.int .i64 x.Cf,.int .i64 x.Du] [x] []:=⟨_,[],[],[],by simp,by simp,⟨rfl,rfl⟩,rfl,rfl⟩
end
theorem Ab7 {P:Program} {n:Nat} {fr:Fr} {H:List Pc} {ty t':TypeId} {x:Operand} {t e m:Nat} [hS:SlC P t e m] {a:Option Addr} {l c:Nat} (hx:ev fr x=some (.slice a l c)):Yd P n fr H (.binOp .eql t x (.const (.slice none 0 0)) t') ty (.bool a.isNone):=.mk fun ac w d pos Bn gd hA _=>by
 have he:ac.eval (.const (.slice none 0 0))=.slice none 0 0:=rfl
 have eg:eqGuard .eql t x (.const (.slice none 0 0)) (.slice a l c) (.slice none 0 0)=pure ():=by unfold eqGuard;simp
 simp only [execOp,hA.ev hx,he,eg,Sem.run_bind,Sem.run_pure,Result.andThen_ok,Lib.run_eql_slice_nil w t e a l c 0 0 hS.u]
theorem All {c:Cx} {fr:Fr} {H:List Pc} {Φ:Gl} {α:Type} {E:Br α} {n cp:Nat} {xs:List α} {F:List Nat} (h:xs=[]→T c fr H Φ) (hm:.sl E (.slice none n cp) xs F∈H:=by exact B8):T c fr H Φ:=.mk fun ac w s g=>by
 obtain ⟨-,a,cap,hv, -,⟨rfl, -, -⟩|⟨b,off,F',rfl, -⟩⟩:=s.get hm
 ·exact (h rfl).h ac w s g
 ·cases hv
theorem O3 (xs:List A4) (a:Option Addr) (c:Nat) (F:List Nat) (hl:xs.length≤1000000000) :
  Fn prog 130 [.slice a xs.length c] [.sl Az (.slice a xs.length c) xs F] [] (fun (_:Option Addr × Nat × List Nat)=>True) (fun z=>.slice z.1 xs.length z.2.1) (fun z=>[.ow Az 166 (.slice z.1 xs.length z.2.1) xs z.2.2]):=by
 refine enter func130 rfl ntmps130 fun w0=>?_
 refine go ?_;intros
 cases a with
 | none =>
  refine All (xs:=xs) fun h0=>?_
  subst h0
  apply wO;apply oc;rfl;exact Ab7 rfl
  refine Bx Az 166 ?_
  refine go ?_;intros
  refine ret (none,0,[]) trivial rfl
 | some ad =>
  apply wO;apply oc;rfl;exact Ab7 rfl
  refine go ?_;intros
  refine C6 Az ?_
  apply wO
  refine Ku C0 Dk fun a2 c2 F2=>?_
  rw [List.nil_append]
  refine go ?_;intros
  refine ret (a2,c2,F2) trivial rfl
section
variable {P:Program} {n:Nat} {fr:Fr} {H:List Pc} {ty:TypeId} {x y z u:Operand}
theorem Al1 {t e m i g o len cp:Nat} {kd:IntKind} {q:Int} [hS:SlC P t e m] (hx:ev fr x=some (.slice (some ⟨g,o,none⟩) len cp)) (hy:ev fr y=some (.int kd q)) (hq:q=(i:Int)) (hi:i≤len) (hlc:len≤cp):Yd P n fr H (.slice t x (some y) none none) ty (.slice (some ⟨g,if cp=i then o else o+i * m,none⟩) (len - i) (cp - i)):=.mk fun ac w d pos Bn gd hA _=>by
 subst hq
 have he2:P.elem t=e:=by simp [Program.elem,hS.u]
 have h3:(Instr.sliceAt t (.slice (some ⟨g,o,none⟩) len cp) (some (.int kd (i:Int))) none none).run P w=.ok (.slice (some ⟨g,if cp=i then o else o+i * m,none⟩) (len - i) (cp - i)) w:=by
  rw [run_sliceAt_slice (h:=by rw [he2];exact hS.u),run_slice_l (ht:=by rw [he2];exact hS.u) (h0:=by omega) (h1:=by omega),he2,Jy hS.s]
  simp only [Result.andThen,sliced,Option.map_some,Addr.add_lit,Int.toNat_natCast]
  split <;> rfl
 simp only [execOp,Option.map_none,Option.map_some,hA.ev hx,hA.ev hy,Sem.run_bind,h3,Result.andThen_ok,Sem.run_pure]
theorem Agp {t e m i j g o len cp:Nat} {kd kd2:IntKind} {q r:Int} [hS:SlC P t e m] (hx:ev fr x=some (.slice (some ⟨g,o,none⟩) len cp)) (hy:ev fr y=some (.int kd q)) (hz:ev fr z=some (.int kd2 r)) (hq:q=(i:Int)) (hr:r=(j:Int)) (hi:i < cp) (hij:i≤j) (hj:j≤cp):Yd P n fr H (.slice t x (some y) (some z) none) ty (.slice (some ⟨g,o+i * m,none⟩) (j - i) (cp - i)):=.mk fun ac w d pos Bn gd hA _=>by
 subst hq hr
 have he2:P.elem t=e:=by simp [Program.elem,hS.u]
 have h3:(Instr.sliceAt t (.slice (some ⟨g,o,none⟩) len cp) (some (.int kd (i:Int))) (some (.int kd2 (j:Int))) none).run P w=.ok (.slice (some ⟨g,o+i * m,none⟩) (j - i) (cp - i)) w:=by
  rw [run_sliceAt_slice (h:=by rw [he2];exact hS.u),run_slice_lh (ht:=by rw [he2];exact hS.u) (h0:=by omega) (h1:=by omega) (h2:=by omega),he2,Jy hS.s]
  simp only [Result.andThen,sliced,Option.map_some,Addr.add_lit,Int.toNat_natCast]
  rw [if_neg (by omega)]
 simp only [execOp,Option.map_none,Option.map_some,hA.ev hx,hA.ev hy,hA.ev hz,Sem.run_bind,h3,Result.andThen_ok,Sem.run_pure]
end
section
variable {c:Cx} {fr:Fr} {H:List Pc} {k:List It} {Φ:Gl} {d:Nat} {ty:TypeId} {x y z u:Operand}
theorem Adm {t e m n cp i j l:Nat} {a:Option Addr} {q r s:Int} [hS:SlC c.P t e m] (hd:Nat.blt d c.n=true) (hx:ev fr x=some (.slice a n cp)) (hy:ev fr y=some (.int .i64 q)) (hz:ev fr z=some (.int .i64 r)) (hu:ev fr u=some (.int .i64 s)) (hq:q=(i:Int)) (hr:r=(j:Int)) (hs:s=(l:Int)) (hij:i≤j) (hjl:j≤l) (hl:l≤cp) (h:∀v,T c ((d,v)::fr) H Φ):On c fr H (some d) (.slice t x (some y) (some z) (some u)) ty Φ:=⟨fun _ _ _=>Mx fun Q ac w st g=>by
 subst hq hr hs
 have he2:=Xa hS
 obtain ⟨v,h3⟩:∃v,(Instr.sliceAt t (.slice a n cp) (some (.int .i64 (i:Int))) (some (.int .i64 (j:Int))) (some (.int .i64 (l:Int)))).run c.P w=.ok v w:=by
  rw [run_sliceAt_slice (h:=by rw [he2];exact hS.u),run_slice_lhm (ht:=by rw [he2];exact hS.u) (h0:=by omega) (h1:=by omega) (h2:=by omega) (h3:=by omega),he2,Jy hS.s]
  exact ⟨_,rfl⟩
 have e1:∀pos Bn gd,(execOp ac.eval ⟨some d,.slice t x (some y) (some z) (some u),ty,pos,Bn,gd⟩).run c.P w=.ok (.value v) w:=by
  intro pos Bn gd
  simp only [execOp,Option.map_none,Option.map_some,g.ev hx,g.ev hy,g.ev hz,g.ev hu,Sem.run_bind,h3,Result.andThen_ok,Sem.run_pure]
 rw [e1]
 exact (h v).h _ w st (g.put hd)⟩
theorem Aki {α:Type} {E:Br α} (sc:Ua E) (one:U2 E) {t e m b g n cp i j q c2:Nat} {zv:Value} [hS:SlC c.P t e m] [hE:ElT c.P e zv m b] (hm:E.sz=m) {xs:List α} {F:List Nat} {S:List Pc}
  (hd:Nat.blt d c.n=true) (hx:ev fr x=some (.slice (some ⟨g,0,none⟩) i cp)) (hy:ev fr y=some (.slice (some ⟨g,q,none⟩) (n - j) c2)) (hq:j < n→q=j * m) (hij:i≤j) (hj:j≤n) (hn:n=xs.length)
  (hp:C1 H (.ow E e (.slice (some ⟨g,0,none⟩) n cp) xs F) S) (h:T c ((d,.slice (some ⟨g,0,none⟩) (i+(n - j)) cp)::fr) (.ow E e (.slice (some ⟨g,0,none⟩) n cp) (xs.take i++xs.drop j++xs.drop (i+(n - j))) F::S) Φ) :
  On c fr H (some d) (.call { callee:=.builtin .append,args:=#[x,y],argTypes:=#[t,t] }) ty Φ:=⟨fun _ _ _=>Mx fun Q a w s ag=>by
 subst hm hn
 have s1:=s.pick hp
 obtain ⟨hnd,ho⟩:=s1.on (.ow E e (.slice (some ⟨g,0,none⟩) xs.length cp) xs F) (by simp)
 have hF:=ho.scal sc
 rcases ho with ⟨h1, -, -⟩|⟨g2,cap,cs,rest,G,h1,h2,h3,h4,h5,h6,h7⟩
 ·cases h1
 cases h1
 have hG:G=[]:=by rw [h7] at hF;simpa [Value.ownBlock] using hF
 subst hG h7
 obtain ⟨ti,hi,hiz⟩:=Option.map_eq_some_iff.1 hE.i
 simp only [Prod.mk.injEq] at hiz
 obtain ⟨-,i2, -⟩:=hiz
 have hl:=h6.len
 have hle:i+(xs.length - j)≤xs.length:=by omega
 have fi:=(h6.cutL i (by omega)).1
 have fj:=(h6.cutL j hj).2
 have fk:=(h6.cutL (i+(xs.length - j)) hle).2
 have hd1:(cs.take (i * E.sz)).length=i * E.sz:=by have:=fi.len;rw [List.length_take (l:=xs),Nat.min_eq_left (by omega)] at this;exact this
 have hd2:(cs.drop (j * E.sz)).length=(xs.length - j) * E.sz:=by have:=fj.len;rwa [List.length_drop (l:=xs)] at this
 have h1c:=h6.one' one
 have hsm:(i+(xs.length - j)) * E.sz≤xs.length * E.sz:=Nat.mul_le_mul_right _ hle
 have hadd:(i+(xs.length - j)) * E.sz=i * E.sz+(xs.length - j) * E.sz:=Nat.add_mul _ _ _
 have hsrc:∀r u,(cs.drop (j * E.sz))[r]?=some u→w.cell? ((⟨g,q,none⟩:Addr).add r)=some u:=fun r u hu=>by
  have hr:r < (cs.drop (j * E.sz)).length:=(List.getElem?_eq_some_iff.1 hu).1
  have hlt:j < xs.length:=by
   rcases Nat.lt_or_ge j xs.length with h|h
   ·exact h
   ·rw [hd2,show xs.length - j=0 by omega] at hr;simp at hr
  rw [hq hlt,Addr.add_lit,h2.cell,List.getElem?_append_left (by rw [List.length_drop] at hr;omega)]
  rw [List.getElem?_drop] at hu;exact hu
 have hr:=fun ty=>run_append_room_cells (P:=c.P) w t ty e ti hS.u hi g 0 i cp ⟨g,q,none⟩ (xs.length - j) c2 (cs.drop (j * E.sz)) (by rw [hd2,i2]) hsrc (fun u hu=>h1c u (List.mem_of_mem_drop hu)) (by omega)
  (fun r hr=>by rw [i2,h2.cell,List.getElem?_eq_getElem (by rw [List.length_append];omega)];rfl) (fun r _=>h2.frozen _)
 have e1:∀pos Bn gd,(execOp a.eval ⟨some d,.call { callee:=.builtin .append,args:=#[x,y],argTypes:=#[t,t] },ty,pos,Bn,gd⟩).run c.P w=.ok (.value (.slice (some ⟨g,0,none⟩) (i+(xs.length - j)) cp)) (w.setCells g (0+i * E.sz) (cs.drop (j * E.sz))):=by
  intro pos Bn gd
  simp only [execOp,resolve,invoke,builtin,Sem.run_bind,Sem.run_pure,Result.andThen_ok,List.map_toArray,List.map_cons,List.map_nil,ag.ev hx,ag.ev hy,hr,i2]
 rw [e1]
 have R0:Hm w g e (cs.take (i * E.sz)++(cs.drop (i * E.sz)).take ((xs.length - j) * E.sz)++(cs.drop ((i+(xs.length - j)) * E.sz)++rest)):=by
  rw [hadd,←List.drop_drop,List.append_assoc,←List.append_assoc _ _ rest,List.take_append_drop,←List.append_assoc,List.take_append_drop];exact h2
 have R1:=Hm.put (cs.drop (j * E.sz)) _ R0 (p:=0+i * E.sz) (by omega) (by rw [hd2,List.length_take,List.length_drop];omega)
 have hk:=I7 (g:=g) (cs.drop (j * E.sz)) w (0+i * E.sz)
 rw [Ju w g] at R1 hk
 have hW:(Pc.ow E e (.slice (some ⟨g,0,none⟩) xs.length cp) (xs.take i++xs.drop j++xs.drop (i+(xs.length - j))) [g]).P (w.setCells g (0+i * E.sz) (cs.drop (j * E.sz))):=by
  have hll:(xs.take i++xs.drop j++xs.drop (i+(xs.length - j))).length=xs.length:=by simp only [List.length_append,List.length_take,List.length_drop];omega
  refine ⟨by simp,.inr ⟨g,cp,cs.take (i * E.sz)++cs.drop (j * E.sz)++cs.drop ((i+(xs.length - j)) * E.sz),rest,[],by rw [hll],by simpa [List.append_assoc] using R1,by rw [hll];exact h3,h4,?_,?_,rfl⟩⟩
  ·rw [List.length_append,List.length_append,hd1,hd2,List.length_drop,hl,←h5];omega
  ·have:=((fi.all (w.setCells g (0+i * E.sz) (cs.drop (j * E.sz)))).append (fj.all _)).append (fk.all _)
   simpa using this
 exact h.h _ _ (St.turn (M:=[.ow E e (.slice (some ⟨g,0,none⟩) xs.length cp) xs [g]]) (N:=[.ow E e (.slice (some ⟨g,0,none⟩) xs.length cp) (xs.take i++xs.drop j++xs.drop (i+(xs.length - j))) [g]]) s1 (by simpa [List.filter,Pc.mu,fp,Pc.F] using hk) (by intro q hq;rw [List.mem_singleton] at hq;subst hq;exact hW) ⟨by simp,trivial⟩ (by
   intro q hq b hb
   rw [List.mem_singleton] at hq;subst hq
   exact .inr (.inl ⟨_,List.mem_singleton.2 rfl,rfl,hb⟩))) (ag.put hd)⟩
end
theorem Aox (xs:List (List Value)) (n i:Nat) (j:Int) (a:Option Addr) (c:Nat) (F:List Nat) (hn:n=xs.length) (hi:i < xs.length) (hj:j=(i:Int)+1) (hl:xs.length≤1000000) :
  Fn prog 234 [.slice a n c,.int .i64 i,.int .i64 j] [] [.ow (EC 3) 139 (.slice a n c) xs F] (fun (_:Option Addr × Nat × List Nat)=>True)
   (fun z=>.slice z.1 (xs.take i++xs.drop (i+1)).length z.2.1) (fun z=>[.ow (EC 3) 139 (.slice z.1 (xs.take i++xs.drop (i+1)).length z.2.1) (xs.take i++xs.drop (i+1)) z.2.2]):=by
 subst hn
 refine enter func234 rfl ntmps234 fun w0=>?_
 refine Ab3 (xs:=xs) (E9 3) (by rintro rfl;simp at hi) ?_
 rintro g rfl rfl - hc1 hc2
 refine go ?_;intros
 apply wO
 refine Adm (i:=i) (j:=i+1) (l:=xs.length) rfl rfl rfl rfl rfl rfl (by omega) rfl (by omega) (by omega) hc1 (fun _=>?_)
 refine go ?_;intros
 refine Bf rfl (fun h=>absurd h (by omega)) (fun _=>?_)
 refine go ?_;intros
 refine Aw [] [] ?_
 refine dt 0 ?_
 refine dt 1 ?_
 refine dt 2 ?_ (hy:=Lq (i:=i) rfl rfl rfl (by omega) (by omega))
 refine dt 3 ?_
 refine dt 4 ?_
 refine dt 5 ?_ (hy:=Al1 (i:=i+1) rfl rfl (by omega) (by omega) hc1)
 refine dO 6 (by kernel_rfl) (by rw [List.getElem?_toArray];rfl) ?_
 refine Aki (m:=3) (i:=i) (j:=i+1) (q:=if c=i+1 then 0 else 0+(i+1) * 3) (g:=g) (cp:=c) (n:=xs.length) (E9 3) (Ml 3) rfl rfl rfl rfl (fun h=>by rw [if_neg (by omega)];omega) (by omega) (by omega) rfl (by repeat (first|exact .here|apply C1.there)) ?_
 refine dk ?_
 refine dt 7 ?_
 refine dd ?_
 refine go ?_;intros
 apply wO;apply oc;rfl;exact Agp (i:=i+(xs.length - (i+1))) (j:=xs.length) rfl rfl rfl rfl rfl (by omega) (by omega) hc1
 refine go ?_;intros
 apply wO
 refine Agb (xs:=xs.take i++xs.drop (i+1)++xs.drop (i+(xs.length - (i+1)))) (z0:=[.int .i64 0,.slice none 0 0,.int .i64 0]) (n:=xs.length) (cp:=c) (i:=i+(xs.length - (i+1))) (g:=g) (E9 3) (fun w=>⟨rfl,⟨rfl,by simp [Value.oneCell']⟩,rfl⟩) (by decide) rfl rfl (by omega) (by exact Im) (by repeat (first|exact .here|apply C1.there)) ?_
 have hk:(xs.take i++xs.drop (i+1)).length=i+(xs.length - (i+1)):=by exact Im
 refine Za (xs:=(xs.take i++xs.drop (i+1)++xs.drop (i+(xs.length - (i+1)))).take (i+(xs.length - (i+1)))++List.replicate (xs.length - (i+(xs.length - (i+1)))) [.int .i64 0,.slice none 0 0,.int .i64 0]) (i+(xs.length - (i+1))) (fun F2=>?_) (by exact Im)
 rw [List.take_left' (by rw [List.take_left' hk,hk]),List.take_left' hk,←hk]
 refine go ?_;intros
 refine ret (_,c,F2) trivial rfl
section
variable {c:Cx} {fr:Fr} {H:List Pc} {k:List It} {Φ:Gl} {ops:Array Oper} {o:Op} {ty:TypeId} {pos:String} {Bn:Array Edge} {H0:List Pc} {X:List Nat} {f:Nat} {listed:Array Bool}
theorem C3.many {P:Program} {md:Region.Mode} {Q:Exit→Act→World→Prop} {S:World→Prop} {Y:Nat→Bool} {a:Act} {w:World} (hne:(Region.ready md ops listed).isEmpty=false)
  (h:∀i∈Region.ready md ops listed,∃oi,ops[i]?=some oi∧∀K':Act→World→Prop,Shut (∀a w,(Y i=false→S w)→C3 P md ops Q S Y f (listed.setIfInBounds i true) a w→K' a w)→if Region.wanted oi (yielded ops a.tmps)=true then Oper.wp P oi a w K' Q else K' (a.put oi.dst undef) w) :
  C3 P md ops Q S Y (f+1) listed a w:=by
 refine ⟨fun h0=>(by rw [h0] at hne;cases hne),fun j hj=>?_⟩
 obtain ⟨oi,ho,hh⟩:=h j hj
 exact wpOp_step ho (fun K' hK=>hh K' (fun a w hS hW=>hK a w ⟨hS,hW⟩))
theorem dP (L:List Nat) (hr:(Region.ready .any ops listed).all (fun i=>L.contains i)=true) (hne:(Region.ready .any ops listed).isEmpty=false)
  (h:∀i∈L,listed.getD i true=false→∃o,ops[i]?=some o∧o.guard=none∧Ef c fr H o (.dk i k H0 X ops f (listed.setIfInBounds i true))):T c fr H (.dx k H0 X ops (f+1) listed):=.mk fun a w s g =>
 C3.many hne fun i hi=>by
  obtain ⟨o,ho,hg,he⟩:=h i (by simpa using List.all_eq_true.1 hr i hi) (by have:=(List.mem_filter.1 hi).2;simp only [Bool.and_eq_true,Bool.not_eq_true'] at this;exact this.1)
  refine ⟨o,ho,fun K hK=>?_⟩
  rw [if_pos (by simp [Region.wanted,hg])]
  exact Oper.wp_mono (fun a' w' h'=>hK a' w' h'.1 h'.2) (he.h _ a w s g)
theorem dE (i:Nat) {od:Option Tmp} (ho:ops[i]?=some ⟨od,o,ty,pos,Bn,none⟩) (h:On c fr H od o ty Φ):∃o,ops[i]?=some o∧o.guard=none∧Ef c fr H o Φ:=⟨_,ho,rfl,h.h _ _ _⟩
theorem Qs (z:List Value) (n:Nat):madeCells z.toArray (n * z.length)=((List.replicate n z).flatten).toArray:=by
 have:=Lb z.toArray n
 rw [List.size_toArray] at this
 rw [←Array.toArray_toList (xs:=madeCells z.toArray (n * z.length)),this]
theorem Aom {b:Bool} (h:b=false) (h2:b=true):False:=by rw [h2] at h;cases h
end
def zP:As:=⟨0,0,0,0,⟨#[]⟩⟩
def Kk (q:List As):As:=q.headD zP
theorem Rx {q:List As} (h:0 < q.length):Kk q=q[0]:=by
 cases q with
 | nil=>cases h
 | cons p r=>rfl
theorem Aoy (xs:List As) (n i:Nat) (j:Int) (a:Option Addr) (c:Nat) (F:List Nat) (hn:n=xs.length) (hi:i < xs.length) (hj:j=(i:Int)+1) (hl:xs.length≤1000000) :
  Fn prog 194 [.slice a n c,.int .i64 i,.int .i64 j] [] [.ow Al 108 (.slice a n c) xs F] (fun (_:Option Addr × Nat × List Nat)=>True)
   (fun z=>.slice z.1 (xs.take i++xs.drop (i+1)).length z.2.1) (fun z=>[.ow Al 108 (.slice z.1 (xs.take i++xs.drop (i+1)).length z.2.1) (xs.take i++xs.drop (i+1)) z.2.2]):=by
 subst hn
 refine enter func194 rfl ntmps194 fun w0=>?_
 refine Ab3 (xs:=xs) I3 (by rintro rfl;simp at hi) ?_
 rintro g rfl rfl - hc1 hc2
 refine go ?_;intros
 apply wO
 refine Adm (i:=i) (j:=i+1) (l:=xs.length) rfl rfl rfl rfl rfl rfl (by omega) rfl (by omega) (by omega) hc1 (fun _=>?_)
 refine go ?_;intros
 refine Bf rfl (fun h=>absurd h (by omega)) (fun _=>?_)
 refine go ?_;intros
 refine Aw [] [] ?_
 refine dt 0 ?_
 refine dt 1 ?_
 refine dt 2 ?_ (hy:=Lq (i:=i) rfl rfl rfl (by omega) (by omega))
 refine dt 3 ?_
 refine dt 4 ?_
 refine dt 5 ?_ (hy:=Al1 (i:=i+1) rfl rfl (by omega) (by omega) hc1)
 refine dO 6 (by kernel_rfl) (by rw [List.getElem?_toArray];rfl) ?_
 refine Aki (m:=5) (i:=i) (j:=i+1) (q:=if c=i+1 then 0 else 0+(i+1) * 5) (g:=g) (cp:=c) (n:=xs.length) I3 Gz rfl rfl rfl rfl (fun h=>by rw [if_neg (by omega)];omega) (by omega) (by omega) rfl (by repeat (first|exact .here|apply C1.there)) ?_
 refine dk ?_
 refine dt 7 ?_
 refine dd ?_
 refine go ?_;intros
 apply wO;apply oc;rfl;exact Agp (i:=i+(xs.length - (i+1))) (j:=xs.length) rfl rfl rfl rfl rfl (by omega) (by omega) hc1
 refine go ?_;intros
 apply wO
 refine Agb (xs:=xs.take i++xs.drop (i+1)++xs.drop (i+(xs.length - (i+1)))) (z0:=zP) (n:=xs.length) (cp:=c) (i:=i+(xs.length - (i+1))) (g:=g) I3 (fun w=>⟨rfl,Nat.zero_le _,rfl⟩) (by decide) rfl rfl (by omega) (by exact Im) (by repeat (first|exact .here|apply C1.there)) ?_
 have hk:(xs.take i++xs.drop (i+1)).length=i+(xs.length - (i+1)):=by exact Im
 refine Za (xs:=(xs.take i++xs.drop (i+1)++xs.drop (i+(xs.length - (i+1)))).take (i+(xs.length - (i+1)))++List.replicate (xs.length - (i+(xs.length - (i+1)))) zP) (i+(xs.length - (i+1))) (fun F2=>?_) (by exact Im)
 rw [List.take_left' (by rw [List.take_left' hk,hk]),List.take_left' hk,←hk]
 refine go ?_;intros
 refine ret (_,c,F2) trivial rfl
theorem Aqx (xs:List As) (a:Option Addr) (c:Nat) (F:List Nat) (hl:xs.length≤1000000000) :
  Fn prog 127 [.slice a xs.length c] [.sl Al (.slice a xs.length c) xs F] [] (fun (_:Option Addr × Nat × List Nat)=>True) (fun z=>.slice z.1 xs.length z.2.1) (fun z=>[.ow Al 108 (.slice z.1 xs.length z.2.1) xs z.2.2]):=by
 refine enter func127 rfl ntmps127 fun w0=>?_
 refine go ?_;intros
 cases a with
 | none =>
  refine All (xs:=xs) fun h0=>?_
  subst h0
  apply wO;apply oc;rfl;exact Ab7 rfl
  refine Bx Al 108 ?_
  refine go ?_;intros
  refine ret (none,0,[]) trivial rfl
 | some ad =>
  apply wO;apply oc;rfl;exact Ab7 rfl
  refine go ?_;intros
  refine C6 Al ?_
  apply wO
  refine Ku Gz I3 fun a2 c2 F2=>?_
  rw [List.nil_append]
  refine go ?_;intros
  refine ret (a2,c2,F2) trivial rfl
theorem Yq (d:List (List As)) (i:Nat) (a:Option Addr) (n c:Nat) (F:List Nat) (hn:n=d.length) (hi:i < d.length) (h6:d[i].length≤6):Fn prog 133 [.slice a n c,.int .i64 (i:Nat)] [] [.ow (Gt Al 108) 99 (.slice a n c) d F] (fun (_:List Nat)=>True) (fun _=>.tuple #[.agg #[.int .i64 (Kk d[i]).C2,.int .i64 (Kk d[i]).Ad,.int .i64 (Kk d[i]).Ak,.int .i64 (Kk d[i]).D0,.string (Kk d[i]).data],.bool (decide (0 < d[i].length))]) (fun G=>[.ow (Gt Al 108) 99 (.slice a n c) (d.set i (d[i].drop 1)) G]):=by
 refine enter func133 rfl ntmps133 fun w0=>?_
 refine Va (m:=1) i ?_ rfl hi
 rintro _ g A cs B k1 k2 G1 Gi G2 rfl - hc hH
 refine Sk ?_
 rintro a5 c5 ev l5
 obtain rfl:cs=[.slice a5 d[i].length c5]:=by simpa using ev
 refine go ?_;intros
 refine Bf rfl (fun h1=>?_) (fun h1=>?_)
 ·have h0:d[i]=[]:=List.length_eq_zero_iff.1 (by omega)
  rw [h0]
  refine go ?_;intros
  refine Jh [] ?_
  refine Q5 _ hH rfl fun F6=>?_
  refine ret F6 trivial rfl
 ·have h0:0 < d[i].length:=by omega
  rw [decide_eq_true h0,Rx h0]
  refine Ag6 (xs:=d[i]) 0 ?_
  rintro _ g2 A2 B2 rfl rfl sz hH2
  refine Kx ?_;intros
  refine Mr d[i][0] hH2 (fun w=>⟨rfl,sz,rfl⟩) ?_
  rw [List.set_getElem_self]
  refine go ?_;intros
  refine cf (Aoy d[i] d[i].length 0 1 _ c5 _ rfl h0 rfl (by omega)) fun z _=>?_
  refine Ar ?_
  rw [show d[i].take 0++d[i].drop (0+1)=d[i].drop 1 by simp]
  refine go ?_;intros
  refine Jh (d[i].drop 1) ?_
  refine Q5 _ hH rfl fun F6=>?_
  refine ret F6 trivial rfl
def Rb (l:List (List As)) (k:Nat):List (List As):=l.take k++List.replicate (l.length - k) []
theorem Ag3 {l:List (List As)} {k:Nat} (h:k≤l.length):(Rb l k).length=l.length:=by unfold Rb;simp;omega
theorem Ag4 {l:List (List As)} {k:Nat} (h:k < l.length):(Rb l k).set k l[k]=Rb l (k+1):=by
 unfold Rb
 have e:List.replicate (l.length - k) ([]:List As)=[]::List.replicate (l.length - (k+1)) []:=by rw [show l.length - k=(l.length - (k+1))+1 by omega,List.replicate_succ]
 have hl:(l.take k).length=k:=by rw [List.length_take];omega
 rw [e,List.set_append_right _ _ (by omega),hl,Nat.sub_self,List.set_cons_zero,List.take_succ_eq_append_getElem h,List.append_assoc];rfl
theorem Hn (l:List (List As)) (a:Option Addr) (c:Nat) (F:List Nat) (hl:l.length≤1000000) (hq:∀q∈l,q.length≤1000000000):Fn prog 73 [.slice a l.length c] [.sl (Ly Al (by decide)) (.slice a l.length c) l F] [] (fun (_:Nat × List Nat)=>True) (fun z=>.slice (some ⟨z.1,0,none⟩) l.length l.length) (fun z=>[.ow (Gt Al 108) 99 (.slice (some ⟨z.1,0,none⟩) l.length l.length) l z.2]):=by
 refine enter func73 rfl ntmps73 fun w0=>?_
 refine go ?_;intros
 apply wO
 refine Abs l.length (cs:=(List.replicate l.length ([.slice none 0 0]:List Value)).flatten) rfl rfl rfl (Qs _ _) (by omega) (by omega) fun g=>?_
 refine Dz (E:=Gt Al 108) (xs:=List.replicate l.length []) (fun w=>Cq.rep0 (E:=Gt Al 108) (w:=w) (zs:=[.slice none 0 0]) (z:=([]:List As)) ⟨_,rfl,.inl ⟨rfl,rfl,rfl⟩⟩ _) ?_ (by rw [List.length_replicate];omega)
 rw [List.length_replicate,show List.replicate l.length ([]:List As)=Rb l 0 by unfold Rb;simp]
 refine go ?_;intros
 refine Ck [2,3,9,10] (fun z:KF=>[(11,.int .i64 (z.k:Nat))]) (fun z=>[.ow (Gt Al 108) 99 (.slice (some ⟨g,0,none⟩) l.length l.length) (Rb l z.k) z.F]) (fun z=>z.k≤l.length) (fun z=>l.length - z.k) ⟨0,_⟩ (Nat.zero_le _) fun z hz0=>?_
 have hfl:=Ag3 hz0
 refine go ?_;intros
 refine Bf rfl (fun h1=>?_) (fun h1=>?_)
 ·have hk:z.k < l.length:=by omega
  refine Rm (E:=Al) (hz:=by decide) (xs:=l) z.k ?_
  rintro hi6 b6 o6 a11 c11 F11 rfl l11
  refine Va (xs:=Rb l z.k) (m:=1) z.k ?_ rfl (by omega)
  rintro _ g2 A cs B k1 k2 G1 Gi G2 e2 - hc hH
  cases e2
  refine Sk ?_
  rintro a5 c5 ev l5
  obtain rfl:cs=[.slice a5 (Rb l z.k)[z.k].length c5]:=by simpa using ev
  refine go ?_;intros
  refine cf (Aqx l[z.k] a11 c11 F11 (hq _ (List.getElem_mem hk))) fun y _=>?_
  refine Ar ?_
  refine go ?_;intros
  refine Jh l[z.k] ?_
  refine Q5 _ hH rfl fun F6=>?_
  rw [Ag4 hk]
  refine go ?_;intros
  refine Ct ⟨z.k+1,F6⟩ hk (by show l.length - (z.k+1) < l.length - z.k;omega)
 ·rw [show Rb l z.k=l by unfold Rb;rw [show z.k=l.length by omega];simp]
  refine go ?_;intros
  refine ret (g,z.F) trivial rfl
theorem Xt (fid:FuncId) (hbd:So prog fid) (caps:Array Value) (v:Value) (xs:List G0) (F:List Nat) (p:G0→Bool) (w:World) (h:Sl Bh w v xs F)
  (hp:∀(k:Nat) (hk:k < xs.length) (wr:World) (u:Value) (G:List Nat),Below w.heap.size w wr→O1 Bh wr u xs[k] G→Calls prog fid (#[u]++caps) wr fun e w'=>e=.returned (.bool (p xs[k]))∧Below wr.heap.size wr w') :
  Calls prog 199 #[v,.func (.func fid) #[] caps] w fun e w'=>e=.returned (.int .i64 (N5 p xs))∧Below w.heap.size w w':=by
 obtain ⟨a,cap,rfl⟩:=h.slice
 have hl:=h.len
 unfold maxLen at hl
 go_enter func199,ntmps199
 go_wp2
 go_loopw [5,8] (fun _ i wr=>∃k:Nat,k≤xs.length∧i=.int .i64 k∧Hid (∀j,j < k→∀hj:j < xs.length,p xs[j]=false)∧Below w.heap.size w wr) (fun _ i _=>xs.length - (intOf i).toNat)
 case atStart=>exact ⟨0,Nat.zero_le _,rfl,fun j hj=>by omega,Below.refl _ _⟩
 case round =>
  obtain ⟨k,hk,rfl,hz,hB⟩:=hrel
  by_cases hlt:k < xs.length
  ·have hz0:=hz;clear hz
   obtain ⟨b,off,_,F1,rfl,hx, -,ja⟩:=(h.below (by decide) hB).at k hlt
   obtain ⟨rfl,rfl⟩:=id hx
   have a0:=ja 0 (by decide)
   have a1:=ja 1 (by decide)
   simp only [show Bh.sz=2 from rfl,Nat.mul_one,Nat.add_zero,List.getElem?_cons_zero,List.getElem?_cons_succ] at a0 a1
   clear ja
   have hr:=hp k hlt wr _ _ hB ⟨_,rfl,hx⟩
   have hp:=Lib.hid hp
   cases hpk:p xs[k]
   all_goals
    rw [hpk] at hr
    have hpk:=Lib.hid hpk
    have hr:=Lib.hid hr
    go_wp2_with fail
    refine hbd.upon hr.out ?_
    rintro e w1 ⟨rfl,hb1⟩
    refine ⟨_,rfl,?_⟩
    have hB:=tr hB hb1 (Nat.le_refl _)
    clear hb1
    go_wp2_with fail
   ·exact ⟨⟨k+1,by omega,by go_num,fun j hj hl=>by rcases Nat.lt_or_eq_of_le (Nat.le_of_lt_succ hj) with h|h;exact hz0.out j h hl;subst h;exact hpk.out,hB⟩,by simp [intOf];omega⟩
   ·go_ret
    exact ⟨Ll (Mh hlt hz0.out hpk.out).symm,hB⟩
  ·go_wp2
   go_ret
   exact ⟨Ll (Lj (fun j hj=>hz.out j (by omega) hj)).symm,hB⟩
theorem Aeg (v:Value) (xs:List G0) (F:List Nat) (w:World) (h:Sl Bh w v xs F) (hm:xs.length≤4294967296) :
  Calls prog 126 #[v] w (U4 Bh 137 xs w):=by
 obtain ⟨ao,c,news,Fy,rfl,hl,hfy,hFy,hsrc⟩:=h.src
 have hFl:=hfy.lt
 have he:=fun w (a:Option Addr) (n c:Nat)=>Lib.run_eql_slice_nil (P:=prog) w 32 _ a n c 0 0 underlying32
 go_enter func126,ntmps126
 rcases hsrc with ⟨rfl,rfl,rfl⟩|⟨ad,rfl,hn⟩
 ·go_wp2
  go_ret
  exact ⟨.slice none 0 0,[],rfl,.inl ⟨rfl,rfl,rfl⟩,by simp,by simp,Below.refl _ _⟩
 ·go_wp2_with (at_builtin;refine Nb Hl (by decide) (by rfl) _ _ _ (by rfl) 137 (.agg #[.int .i64 0,.int .i64 0]) 16 underlying32 Aae rfl (.slice (some ⟨w.heap.size,0,none⟩) 0 0) [] [w.heap.size] (by rfl) (Ow.empty (Hm.made _ _ _)) (Hd.one _) (some ad) xs c (by rfl) news Fy (hfy.frame fun b hb=>Below.heap_alloc _ _ _ (hFl b hb)) (.inr ⟨ad,rfl,fun j u hu=>kc ((Below.refl _ _).alloc (Nat.le_refl _) _) (hn j u hu)⟩) (fun b hb e=>by have:=hFl b hb;simp [Value.ownBlock] at e;omega) (by simpa using hl) (by unfold maxLen at hl;simp;omega) ?_)
  intro v2 w2 F2 hA
  go_wp2_with fail
  go_ret
  have hB:Below w.heap.size w w2:=((Below.refl _ _).alloc (Nat.le_refl _) _).trans (hA.Kj.below (by simp) (by simp))
  have hs:∀b,v2.ownBlock=some b→w.heap.size≤b:=fun b hb=>by rcases hA.Afd with e|e <;> rw [e] at hb <;> simp [Value.ownBlock] at hb <;> omega
  refine ⟨v2,F2,rfl,by simpa using hA.ow,hA.ow.scal I8▸?_,fun b hb=>?_,hB⟩
  ·cases v2.ownBlock <;> simp
  ·rw [hA.ow.scal I8] at hb;exact hs b (by simpa using hb)
theorem Q8 (fid:FuncId) (hbd:So prog fid) (caps:Array Value) (v:Value) (xs:List G0) (F:List Nat) (p:G0→Bool) (w:World) (h:Ow Bh 137 w v xs F) (hn:F.Nodup)
  (hp:∀(k:Nat) (hk:k < xs.length) (wr:World) (u:Value) (G:List Nat),Dt F w wr→O1 Bh wr u xs[k] G→Calls prog fid (#[u]++caps) wr fun e w'=>e=.returned (.bool (p xs[k]))∧Below wr.heap.size wr w') :
  Calls prog 136 #[v,.func (.func fid) #[] caps] w fun e w'=>∃v' F',e=.returned v'∧Ow Bh 137 w' v' (xs.filter fun x=>!p x) F'∧F'.Nodup∧(∀b∈F',b∈F)∧Dt F w w':=by
 obtain ⟨F1,hF1,hs⟩:=h.sl (Me.refl _)
 obtain ⟨a,cap,rfl⟩:=h.slice
 have hl:=h.len
 unfold maxLen at hl
 have hp:=Lib.hid hp
 go_enter func136,ntmps136
 go_wp2_with fail
 refine (Xt fid hbd caps _ xs F1 p _ hs (fun k hk wr u G hb hu=>hp.out k hk wr u G (Dt.ofBelow hb) hu)).mono ?_
 rintro e w1 ⟨rfl,hb1⟩
 have hK1:=Dt.ofBelow (F:=F) hb1
 by_cases hany:xs.any p=true
 ·obtain ⟨k0,hk0,hfx,hpk,hfl⟩:=Sg hany
  rw [hfx]
  obtain ⟨g,rfl, -,hg0⟩:=Zl.start (h.below hb1) hn (ys:=xs.take k0) (zs:=xs[k0]::xs.drop (k0+1)) (by simp) (by omega)
  obtain ⟨F0,hg0,hF0⟩:=hg0.skip
  have hG0:=Lib.hid hg0
  clear hg0
  have hk1:((k0:Int) == -1)=false:=by simp
  go_wp2_with fail
  go_loopw [5,6,7] (fun i j _ wr=>∃(q m:Nat) (F1:List Nat),q≤xs.length∧0 < m∧((xs.take q).filter fun x=>!p x).length+m=q∧i=.int .i64 ((xs.take q).filter fun x=>!p x).length∧j=.int .i64 q∧Hid (Zl Bh 137 wr g xs.length cap ((xs.take q).filter fun x=>!p x) m (xs.drop q) F1)∧(∀b∈F1,b∈F)∧Dt F w wr) (fun _ j _ _=>xs.length - (intOf j).toNat)
  case atStart=>exact ⟨k0+1,1,F0,hk0,by omega,by rw [Cz hk0 (by simp [hpk]),hfl];simp;omega,by rw [Cz hk0 (by simp [hpk]),hfl];simp;omega,by go_num,by rw [Cz hk0 (by simp [hpk]),hfl];exact hG0,hF0,hK1⟩
  case round =>
   obtain ⟨q,m,F1,hq,hm,hlen,rfl,rfl,hG,hF1,hK⟩:=hrel
   obtain ⟨-,hcap, -⟩:=hG.out.caps
   generalize hys:((xs.take q).filter fun x=>!p x)=ys at *
   by_cases hlt:q < xs.length
   ·rw [List.drop_eq_getElem_cons hlt] at hG
    obtain ⟨c,Fx,hx,hFx,hcell⟩:=hG.out.first
    obtain ⟨Fx2, -,hxe⟩:=(Me.refl _).Jr hx
    obtain ⟨rfl,rfl⟩:=id hx
    have a0:=hcell 0 (by decide)
    have a1:=hcell 1 (by decide)
    simp only [hlen,show Bh.sz=2 from rfl,Nat.mul_one,Nat.add_zero,List.getElem?_cons_zero,List.getElem?_cons_succ] at a0 a1
    have hr:=fun A=>hp.out q hlt (wr.alloc A) _ Fx2 (hK.alloc A) ⟨_,rfl,Bh.below hxe ((Below.refl wr.heap.size wr).alloc (Nat.le_refl _) A)⟩
    cases hpq:p xs[q]
    ·obtain ⟨st,c2,Fx3,hx3, -,hcell2,back⟩:=hG.out.move hm
     simp only [hpq] at hr
     obtain rfl:=Y1 (Bh.len hx) (Bh.len hx3) hcell hcell2
     have st:=st
     obtain ⟨⟨x0,z0⟩,g0⟩:=st 0 (by decide)
     obtain ⟨⟨x1,z1⟩,g1⟩:=st 1 (by decide)
     simp only [show Bh.sz=2 from rfl,Nat.mul_one,Nat.add_zero] at z0 g0 z1 g1
     have hr:=Lib.hid hr;have hbk:=Lib.hid back;have hpq:=Lib.hid hpq;have hys:=Lib.hid hys;have hlen:=Lib.hid hlen
     have hyl:ys.length < xs.length:=by have:=hlen.out;omega
     clear hx hxe hcell hcell2 hx3 back st hfx hpk hfl
     go_wp2_with fail
     refine hbd.upon (hr.out _) ?_
     rintro e w2 ⟨rfl,hb2⟩
     refine ⟨_,rfl,?_⟩
     have b2:=(Hm.below (g:=wr.heap.size) (t:=137) (cs:=[.int .i64 xs[q].Ad,.int .i64 xs[q].Cf]) (by simp [Jp]) hb2).cells
     have hbb:=tr ((Below.refl wr.heap.size wr).alloc (Nat.le_refl _) _) hb2 (Nat.le_refl _)
     clear hb2
     have g0:=(kf hbb z0).trans g0;have z0:=kc hbb z0
     have g1:=(kf hbb z1).trans g1;have z1:=kc hbb z1
     obtain ⟨F2,hg2,hF2⟩:=hbk.out w2 hbb
     simp only [Ld,show Bh.sz=2 from rfl,Nat.mul_one] at hg2
     have hg2:=Lib.hid hg2
     have hgF:g∈F:=hF1 g hG.out.caps.2.2.2.2.1
     go_wp2_with fail
     exact ⟨⟨q+1,m,F2,by omega,hm,by rw [Et hlt (by simp [hpq.out]),hys.out];have:=hlen.out;simp;omega,by rw [Et hlt (by simp [hpq.out]),hys.out,List.length_append];go_num,by go_num,by rw [Et hlt (by simp [hpq.out]),hys.out];exact hg2.out,fun b hb=>hF1 b (hF2 b hb),by (repeat (refine Dt.setCell ?_ hgF _));exact hK.trans (Dt.ofBelow hbb)⟩,by simp [intOf];omega⟩
    ·obtain ⟨F2,hg2,hF2⟩:=hG.out.skip
     simp only [hpq] at hr
     have hr:=Lib.hid hr;have hg2:=Lib.hid hg2;have hpq:=Lib.hid hpq;have hys:=Lib.hid hys;have hlen:=Lib.hid hlen
     clear hx hxe hcell hfx hpk hfl
     go_wp2_with fail
     refine hbd.upon (hr.out _) ?_
     rintro e w2 ⟨rfl,hb2⟩
     refine ⟨_,rfl,?_⟩
     have hbb:=tr ((Below.refl wr.heap.size wr).alloc (Nat.le_refl _) _) hb2 (Nat.le_refl _)
     clear hb2
     go_wp2_with fail
     exact ⟨⟨q+1,m+1,F2,by omega,by omega,by rw [Cz hlt (by simp [hpq.out]),hys.out];have:=hlen.out;omega,by rw [Cz hlt (by simp [hpq.out]),hys.out],by go_num,by rw [Cz hlt (by simp [hpq.out]),hys.out];exact hg2.out.below hbb,fun b hb=>hF1 b (hF2 b hb),hK.trans (Dt.ofBelow hbb)⟩,by simp [intOf];omega⟩
   ·have hqe:q=xs.length:=by omega
    subst hqe
    simp only [List.drop_length,List.take_length] at hG hys
    obtain ⟨hc,F2,ho2,hn2,hF2⟩:=hG.out.done (z:=#[.int .i64 0,.int .i64 0]) rfl
    have hmm:xs.length - ys.length=m:=by omega
    have hcl:=fun ty=>Oy (P:=prog) wr 32 137 ty (.agg #[.int .i64 0,.int .i64 0]) underlying32 (Q7 Aae) (by simp [Value.cells,Value.oneCell']) g (ys.length * 2) m (cap - ys.length) hm (fun j hj=>(hc j hj).1) (fun j hj=>(hc j hj).2)
    have hyl:ys.length < xs.length:=by omega
    have hgF:g∈F:=hF1 g hG.out.caps.2.2.2.2.1
    have hO:=Lib.hid ho2;have hlen:=Lib.hid hlen;have hys:=Lib.hid hys
    clear ho2 hc hfx hpk hfl
    go_wp2_with fail
    go_ret
    refine ⟨_,F2,rfl,by rw [hys.out];exact hO.out,hn2,fun b hb=>hF1 b (hF2 b hb),hK.trans ?_⟩
    rw [←Ju wr];exact (I7 _ _ _).mono (fun b hb _=>by simp at hb;subst hb;exact hgF)
 ·obtain ⟨hfx,hfl⟩:=Uf hany
  rw [hfx]
  go_wp2_with fail
  go_ret
  exact ⟨_,F,rfl,by rw [hfl];exact h.below hb1,hn,fun b hb=>hb,hK1⟩
theorem Xw (x:Ch) (v:Value) (F:List Nat) (hl:x.Aa.Aj.length≤4294967296) (hl2:x.holds.length≤4294967296):Fn prog 72 [v] [.isv Dn v x F] [] (fun (_:Value × List Nat)=>True)
  (fun s=>s.1) (fun s=>[.own Se s.1 x s.2]):=by
 refine enter func72 rfl ntmps72 fun w0=>?_
 refine Gj ?_
 rintro a1 c1 F1 a2 c2 F2 rfl l1 l2
 refine Cn x.Aa ?_
 generalize F1=F3
 refine go ?_;intros
 refine cv (fun w s=>Tf _ x.Aa _ w (s.get (p:=.isv B4 (.agg #[.int .i64 x.Aa.Ak,.int .i64 x.Aa.size,.slice a1 x.Aa.Aj.length c1]) x.Aa F3) (by simp)) hl) fun v F'=>?_
 refine H8 ?_
 rintro a5 c5 F5 rfl l5
 refine go ?_;intros
 refine cn (fun w s=>Aeg _ _ _ _ (s.get (p:=.sl Bh (.slice a2 x.holds.length c2) x.holds F2) (by simp)).2 hl2) fun a6 c6 F6=>?_
 refine go ?_;intros
 refine Abf x ?_
 refine ret (_,_) trivial rfl
theorem Amw (W:Ax) (h:G0) (gb g o:Nat) (u:Value) (a:Option Addr) (c:Nat) (cl q:Value) (Hs:Value) (G Fw:List Nat) (t0:0≤W.Ak) (t1:W.Ak≤65535) (n0:0≤h.Ad) (n1:h.Ad≤65535) :
  Fn prog 193 [u,Eu gb 0 0] [.isv Bh u h G,.cel gb 0 [Eu g o 0],.cel g o [.int .i64 W.Ak,.int .i64 W.size,.slice a W.Aj.length c,cl,q,Hs],.isv B4 (.agg #[.int .i64 W.Ak,.int .i64 W.size,.slice a W.Aj.length c]) W Fw] [] (fun (_:Unit)=>True) (fun _=>.bool (!Gw W h.Ad)) (fun _=>[]):=by
 refine enter func193 rfl ntmps193 fun w0=>?_
 refine Ado ?_
 rintro _ rfl
 refine go ?_;intros
 refine Aw [0,2,3] [] ?_
 refine dt 0 ?_
 refine dt 1 ?_
 refine dt 2 ?_
 refine dt 3 ?_
 refine dt 4 ?_
 refine dt 5 ?_
 refine dO 6 (by kernel_rfl) (by rw [List.getElem?_toArray];rfl) ?_
 apply At;rfl;kernel_rfl;exact Be
 refine cb (fun w st=>(Rq W h.Ad _ _ t0 t1 n0 n1).val w (H9 (st.get (p:=.isv B4 (.agg #[.int .i64 W.Ak,.int .i64 W.size,.slice a W.Aj.length c]) W Fw) (by simp)))) ?_
 refine dk ?_
 refine dt 7 ?_
 refine dt 8 ?_
 refine dd ?_
 refine go ?_;intros
 refine ret () trivial ?_
 simp only [Gw,Rf,decide_not]
theorem Aev {P:Program} {f:FuncId} {args:List Value} {p:Pc} {R:List Pc} {σ:Type} {C:σ→Prop} {v:σ→Value} {N:σ→Pc} (hm:p.mu=true)
  (h:∀w,p.P w→Ms R w→(∀wr,Dt p.F w wr→Ms R wr)→Calls P f args.toArray w fun e w'=>∃s,C s∧e=.returned (v s)∧(N s).P w'∧(∀b∈(N s).F,b∈p.F∨w.heap.size≤b)∧Dt p.F w w'):Fn P f args [] (p::R) C v (fun s=>N s::R):=fun w hH hS=>by
 rw [List.append_nil] at hH hS
 have hR:Ms R w:=fun q hq=>hH q (by simp [hq])
 have ap:∀q∈R,∀b∈q.F,b ∉ p.F:=fun q hq b hb hp=>hS.1 q hq (by simp [hm]) b hp hb
 have hk:∀wr,Dt p.F w wr→Ms R wr:=fun wr k q hq=>q.st (hR q hq) fun b hb=>k.block b (q.lt (hR q hq) b hb) (ap q hq b hb)
 refine (h w (hH p (by simp)) hR hk).mono ?_
 rintro e w' ⟨s,hC,he,hN,hF,k⟩
 refine ⟨s,hC,he,?_,⟨fun q hq _ b hb hbq=>?_,hS.2⟩,k.mono (fun b hb _=>by simp [fp,hb]),?_⟩
 ·intro q hq
  rcases List.mem_cons.1 hq with rfl|hq
  ·exact hN
  ·exact hk w' k q hq
 ·rcases hF b hb with h|h
  ·exact ap q hq b hbq h
  ·have:=q.lt (hR q hq) b hbq;omega
 ·intro q hq b hb
  rcases List.mem_cons.1 hq with rfl|hq
  ·rcases hF b hb with h|h
   ·exact .inr (.inl ⟨p,by simp,h⟩)
   ·exact .inl h
  ·exact .inr (.inl ⟨q,by simp [hq],hb⟩)
theorem Aq9 {P:Program} {fn:Func} {R:Ending→World→Prop} {G D:List Nat} {w0:World} {n:Nat} {fr:Fr} {H:List Pc} (h:T ⟨P,G,D,w0,n,bodyPost P fn R⟩ fr H (.fin .ret)):T ⟨P,G,D,w0,n,bodyPost P fn R⟩ fr H (.norm []):=.mk fun a w s g=>h.h a w s g
def K9 (W:Ax) (hs:List G0):List G0:=hs.filter fun h=>Gw W h.Ad
theorem Amx (W:Ax) (hs:List G0) (gb tb g t o:Nat) (A B:List Value) (a a2:Option Addr) (c c2:Nat) (cl q:Int) (F F2:List Nat) (t0:0≤W.Ak) (t1:W.Ak≤65535) (hn:∀h∈hs,Ca h.Ad=true) :
  Fn prog 136 [.slice a2 hs.length c2,.func (.func 193) #[] #[Eu gb 0 0]] [] [.ow Bh 137 (.slice a2 hs.length c2) hs F2,.row gb tb 0 [] [Eu g o 0] [],.row g t o A [.int .i64 W.Ak,.int .i64 W.size,.slice a W.Aj.length c,.int .i64 cl,.int .i64 q,.slice a2 hs.length c2] B,.ow A9 9 (.slice a W.Aj.length c) W.Aj F] (fun (_:Option Addr × Nat × List Nat)=>True)
   (fun z=>.slice z.1 (K9 W hs).length z.2.1) (fun z=>[.ow Bh 137 (.slice z.1 (K9 W hs).length z.2.1) (K9 W hs) z.2.2,.row gb tb 0 [] [Eu g o 0] [],.row g t o A [.int .i64 W.Ak,.int .i64 W.size,.slice a W.Aj.length c,.int .i64 cl,.int .i64 q,.slice a2 hs.length c2] B,.ow A9 9 (.slice a W.Aj.length c) W.Aj F]):=by
 refine Aev rfl fun w ⟨hnd,ho⟩ _ hk=>?_
 refine (Q8 _ (Qj (by kernel_rfl)) #[Eu gb 0 0] _ hs F2 (fun h=>!Gw W h.Ad) w ho hnd fun k hk2 wr u G hK hu=>?_).mono ?_
 ·have hr:=hk wr hK
  have r1:=hr (.row gb tb 0 [] [Eu g o 0] []) (by simp)
  have r2:=hr (.row g t o A [.int .i64 W.Ak,.int .i64 W.size,.slice a W.Aj.length c,.int .i64 cl,.int .i64 q,.slice a2 hs.length c2] B) (by simp)
  obtain ⟨Fw, -,hw⟩:=(hr (.ow A9 9 (.slice a W.Aj.length c) W.Aj F) (by simp)).2.read
  obtain ⟨n0,n1⟩:=Ba.1 (hn hs[k] (List.getElem_mem hk2))
  refine (Amw W hs[k] gb g o u a c (.int .i64 cl) (.int .i64 q) (.slice a2 hs.length c2) G Fw t0 t1 n0 n1).val wr ?_
  intro p hp
  simp only [List.mem_cons,List.not_mem_nil,or_false] at hp
  rcases hp with rfl|rfl|rfl|rfl
  ·exact hu
  ·exact ⟨by simp,Fg r1⟩
  ·exact ⟨by simp,Fg r2⟩
  ·exact ⟨_,rfl,_,rfl,hw⟩
 ·rintro e w' ⟨v',F',rfl,h1,h2,h3,h4⟩
  have e:(hs.filter fun x=>!(fun h:G0=>!Gw W h.Ad) x)=K9 W hs:=by simp [K9]
  rw [e] at h1
  obtain ⟨a',c',rfl⟩:=h1.slice
  exact ⟨(a',c',F'),trivial,rfl,⟨h2,h1⟩,fun b hb=>.inl (h3 b hb),h4⟩
theorem Adb (W:Ax) (hs:List G0) (g t o:Nat) (A B:List Value) (a a2:Option Addr) (c c2:Nat) (cl q:Int) (F F2:List Nat) (t0:0≤W.Ak) (t1:W.Ak≤65535) (hn:∀h∈hs,Ca h.Ad=true) :
  Fn prog 132 [Eu g o 0] [] [.row g t o A [.int .i64 W.Ak,.int .i64 W.size,.slice a W.Aj.length c,.int .i64 cl,.int .i64 q,.slice a2 hs.length c2] B,.ow Bh 137 (.slice a2 hs.length c2) hs F2,.ow A9 9 (.slice a W.Aj.length c) W.Aj F] (fun (_:Option Addr × Nat × List Nat)=>True)
   (fun _=>.tuple #[]) (fun z=>[.row g t o A [.int .i64 W.Ak,.int .i64 W.size,.slice a W.Aj.length c,.int .i64 cl,.int .i64 q,.slice z.1 (K9 W hs).length z.2.1] B,.ow Bh 137 (.slice z.1 (K9 W hs).length z.2.1) (K9 W hs) z.2.2,.ow A9 9 (.slice a W.Aj.length c) W.Aj F]):=by
 refine enter func132 rfl ntmps132 fun w0=>?_
 refine go ?_;intros
 refine Aw [0,1] [9] ?_
 refine dt 0 ?_
 refine dt 1 ?_
 refine dt 2 ?_
 refine dt 3 ?_
 refine dt 4 ?_
 refine dt 5 ?_
 refine dO 6 (by kernel_rfl) (by rw [List.getElem?_toArray];rfl) ?_
 apply At;rfl;kernel_rfl;exact Be
 refine cf (Amx W hs _ _ g t o A B a a2 c c2 cl q F F2 t0 t1 hn) fun z _=>?_
 refine Ar ?_
 refine dk ?_
 refine dt 7 ?_
 refine dt 8 ?_
 refine dO 9 (by kernel_rfl) (by rw [List.getElem?_toArray];rfl) ?_
 apply Cu;rfl;rfl;rfl;(first|exact AggC.s|exact OneC.s);rfl;exact Cw;exact Cv;rfl
 refine Mg ?_
 refine dd ?_
 refine Aq9 ?_
 refine ret (_,_,_) trivial rfl
theorem Sn {a t:Int}:Dj a t≤(gp a t).toNat:=by unfold Dj;split <;> omega
theorem Ot {w:Am} {t:Int} (hg:Df w=true):(Gf w t).next=Bn w.next ((E6 w t).length:Nat)∧(Gf w t).Ao=w.Ao.drop (E6 w t).length∧(E6 w t).length≤Dj w.next t+8∧Dj w.next t≤(E6 w t).length:=by
 obtain ⟨h0,h1⟩:0≤w.next∧w.next≤65535:=by
  unfold Df at hg
  simp only [Bool.and_eq_true] at hg
  exact Ba.1 hg.1.1.1
 have hl:w.Ao.length≤8:=by
  unfold Df at hg
  simp only [Bool.and_eq_true,decide_eq_true_eq] at hg
  have:=hg.1.1.2;omega
 have e1:∀k (x:Am),(Km k x).length=k:=by
  intro k
  induction k with
  | zero=>intro x;rfl
  | succ k ih=>intro x;simp [Km,ih]
 have h2:=Wb (Dj w.next t) w h0 h1
 have h3:=P9 (Fj (Dj w.next t) w).Ao (Fj (Dj w.next t) w).next
 have h4:=Oo (Dj w.next t) w
 have h5:=Agg (Fj (Dj w.next t) w)
 rw [h4,List.length_drop] at h5
 refine ⟨h2,?_,?_,?_⟩
 ·have e:(Gf w t).Ao=(Fj (Dj w.next t) w).Ao.drop (Mv (Fj (Dj w.next t) w)).length:=h3.1
  rw [e,h4,List.drop_drop]
  unfold E6
  rw [List.length_append,e1]
 ·unfold E6
  rw [List.length_append,e1];omega
 ·unfold E6
  rw [List.length_append,e1];omega
theorem Af5 (w:Am) (n:Int):H1 w n=Hv w.Ao (gp w.next n).toNat:=rfl
theorem Am6 {w:Am} {t n:Int} (hg:Df w=true) (ht:gp w.next t≤8) (hn:Ca n=true) (h8:gp w.next n < 8) (hh:H1 w n=false) :
  (Oa n (Gf w t).next=true∧gp w.next n < ((E6 w t).length:Nat))∨(Oa n (Gf w t).next=false∧H1 (Gf w t) n=false∧gp w.next n=((E6 w t).length:Nat)+gp (Gf w t).next n):=by
 obtain ⟨e1,e2,e3, -⟩:=Ot (t:=t) hg
 have hs:=@Sn w.next t
 obtain ⟨n0,n1⟩:=Ba.1 hn
 obtain ⟨w0,w1⟩:0≤w.next∧w.next≤65535:=by
  unfold Df at hg
  simp only [Bool.and_eq_true] at hg
  exact Ba.1 hg.1.1.1
 have hm:(E6 w t).length≤16:=by omega
 have hb:=In w.next n
 rw [Af5,e1,e2,Ql]
 rw [Af5] at hh
 generalize hM:(E6 w t).length=m at *
 clear e1 e2 e3 hs hM hg ht
 by_cases hc:gp w.next n < (m:Nat)
 ·left
  refine ⟨?_,hc⟩
  unfold Oa Hq gp Bn at *
  simp only [Bool.and_eq_true,decide_eq_true_eq]
  omega
 ·right
  have e:gp w.next n=m+gp (Bn w.next m) n:=by unfold gp Bn at *;omega
  refine ⟨?_,?_,e⟩
  ·have:¬(1≤gp n (Bn w.next m)∧gp n (Bn w.next m)≤32767):=by unfold gp Bn at *;omega
   unfold Oa Hq
   simpa using this
  ·have hb2:=In (Bn w.next m) n
   rw [show m+(gp (Bn w.next m) n).toNat=(gp w.next n).toNat by omega]
   exact hh
theorem Abr {w:Am} {t:Int} (hg:Df w=true) (ht:gp w.next t≤8) {l:List A4} (hl:∀q∈l,Ca q.Ad=true∧gp w.next q.Ad < 8∧H1 w q.Ad=false):Dp l (Gf w t)=Sy l (Gf w t).next:=by
 unfold Dp Sy
 refine List.filter_congr fun q hq=>?_
 obtain ⟨a,b,c⟩:=hl q hq
 rcases Am6 hg ht a b c with ⟨h, -⟩|⟨h,h2,h3⟩
 ·simp [h]
 ·have:=In (Gf w t).next q.Ad
  simp [h,h2,show gp (Gf w t).next q.Ad < 8 by omega]
theorem Xn {c d:Int} {r q:A4} (h:Pd c d r=some q):q.Ad=r.Ad:=by
 unfold Pd at h
 split at h
 ·cases h;rfl
 ·split at h
  ·cases h
  ·split at h <;> cases h <;> rfl
theorem Agn {c:Int} {r:A4} {n:Int} (h:Pn c r=some n):n=r.Ad:=by
 unfold Pn at h
 split at h
 ·cases h
 ·split at h <;> cases h <;> rfl
theorem Yz {r:Bc} (hg:I9 r) {q:A4} (hq:q∈r.Ap):Ca q.Ad=true∧gp r.Aa.next q.Ad < 8∧H1 r.Aa q.Ad=false:=by
 obtain ⟨-, -,h3, -⟩:=Dr.1 hg.q
 have:=Ea.1 (h3 q hq)
 exact ⟨this.n,this.g,hg.f q hq⟩
theorem Uv {r:Bc} {d:Int} (hg:I9 r) {q:A4} (hq:q∈Kc r d):Ca q.Ad=true∧gp r.Aa.next q.Ad < 8∧H1 r.Aa q.Ad=false:=by
 obtain ⟨q',hq',h⟩:=List.mem_filterMap.1 hq
 rw [Xn h]
 exact Yz hg hq'
theorem V1 {r:Bc} (hg:I9 r) {n:Int} (hn:n∈Cp r):Ca n=true∧gp r.Aa.next n < 8:=by
 obtain ⟨q',hq',h⟩:=List.mem_filterMap.1 hn
 rw [Agn h]
 exact ⟨(Yz hg hq').1,(Yz hg hq').2.1⟩
theorem Gg {w:Am} (hg:Df w=true):0≤w.next∧w.next≤65535:=by
 unfold Df at hg
 simp only [Bool.and_eq_true] at hg
 exact Ba.1 hg.1.1.1
theorem Xf {r:Bc} (hg:I9 r) (h:Cp r≠[]):gp r.Aa.next (C5 (Cp r))≤8∧Ca (C5 (Cp r))=true:=by
 unfold C5
 have hm:(Cp r).getLastD 0∈Cp r:=by
  rw [List.getLastD_eq_getLast?,List.getLast?_eq_some_getLast h]
  exact List.getLast_mem h
 obtain ⟨a,b⟩:=V1 hg hm
 refine ⟨?_,Lv _ _⟩
 obtain ⟨n0,n1⟩:=Ba.1 a
 obtain ⟨w0,w1⟩:=Gg hg.w
 unfold gp Bn at *
 omega
theorem Ws {r:Bc} {d:Int} (hg:I9 r) (h:Cp r≠[]):Dp (Kc r d) (Gf r.Aa (C5 (Cp r)))=Sy (Kc r d) (Gf r.Aa (C5 (Cp r))).next :=
 Abr hg.w (Xf hg h).1 fun _ hq=>Uv hg hq
theorem Ap6 {P:Program} {f:FuncId} {α:Type} {E:Br α} {v:Value} {xs:List α} {F:List Nat} {rest:List Value} {A M:List Pc} {σ:Type} {C:σ→Prop} {w:σ→Value} {N:σ→List Pc} (h:∀a c,Fn P f (.slice a xs.length c::rest) (.sl E (.slice a xs.length c) xs F::A) M C w N):Fn P f (v::rest) (.sl E v xs F::A) M C w N:=fun w0 hH hS=>by
 obtain ⟨-,hs⟩:=hH (.sl E v xs F) (by simp)
 obtain ⟨a,c,rfl⟩:=hs.slice
 exact h a c w0 hH hS
theorem Ahm (d:Int):Fn prog 291 [.int .i64 d] [] [] (fun (_:Unit)=>True) (fun _=>.bool (Aj2 d)) (fun _=>[]):=by
 refine enter func291 rfl ntmps291 fun w0=>?_
 refine go ?_;intros
 refine ce (fun w s=>Hz _ _ _ _) ?_
 refine go ?_;intros
 refine ret () trivial rfl
theorem Rr (r:A4) (base:Int) (b0:0≤base) (b1:base≤65535):Fn prog 223 [.agg #[.int .i64 r.Ad,.int .i64 r.H4,.int .i64 r.Cf,.int .i64 r.Du],.int .i64 base] [] [] (fun (_:Unit)=>True) (fun _=>.bool (P7 base r)) (fun _=>[]):=by
 refine enter func223 rfl ntmps223 fun w0=>?_
 refine go ?_;intros
 refine ce (fun w s=>Gb _ _) ?_
 cases g1:Ca r.Ad
 ·refine go ?_;intros
  refine ret () trivial ?_
  simp [P7,g1,Rf]
 obtain ⟨n0,n1⟩:=Ba.1 g1
 refine go ?_;intros
 refine ce (fun w s=>Ls _ _ _ (by omega) (by omega) (by omega) (by omega)) ?_
 refine go ?_;intros
 refine Ee rfl rfl (fun g2=>?_) (fun g2=>?_)
 rotate_left
 ·refine go ?_;intros
  refine ret () trivial ?_
  simp [P7,g2,Rf]
 refine go ?_;intros
 refine ce (fun w s=>Hz _ _ _ _) ?_
 cases g3:Hq 1 r.H4 3
 ·refine go ?_;intros
  refine ret () trivial ?_
  simp [P7,g3,Rf]
 refine go ?_;intros
 refine ce (fun w s=>Hz _ _ _ _) ?_
 cases g4:Hq 0 r.Cf 10007
 ·refine go ?_;intros
  refine ret () trivial ?_
  simp [P7,g4,Rf]
 refine go ?_;intros
 refine ce (fun w s=>Hz _ _ _ _) ?_
 refine go ?_;intros
 refine ret () trivial ?_
 simp [P7,g1,g2,g3,g4,Rf]
theorem Nc (l:List A4) (base:Int) (v:Value) (F:List Nat):Fn prog 176 [v,.int .i64 base] [.sl Az v l F] [] (fun (_:Unit)=>True) (fun _=>.bool (Kq l base)) (fun _=>[]):=by
 refine Ap6 (fun a c=>?_)
 refine enter func176 rfl ntmps176 fun w0=>?_
 refine go ?_;intros
 refine ce (fun w s=>Gb _ _) ?_
 cases g1:Ca base
 ·refine go ?_;intros
  refine ret () trivial ?_
  simp [Kq,g1,Rf]
 obtain ⟨b0,b1⟩:=Ba.1 g1
 refine go ?_;intros
 refine Bf rfl (fun g2=>?_) (fun g2=>?_)
 ·refine go ?_;intros
  refine ret () trivial ?_
  rw [show Kq l base=false by unfold Kq;rw [decide_eq_false (by omega)];simp];rfl
 refine go ?_;intros
 refine H2 [0,1,4,15,16] (fun k:Nat=>[(17,.int .i64 (k:Nat))]) (fun k=>k≤l.length∧∀j,j < k→Acr l base j=true) (fun k=>l.length - k) 0 ⟨Nat.zero_le _,fun j h=>by omega⟩ fun k hk=>?_
 obtain ⟨hk1,hk2⟩:=hk
 refine go ?_;intros
 refine Bf rfl (fun h3=>?_) (fun h3=>?_)
 ·have hk3:k < l.length:=by omega
  have bad:Acr l base k=false→Kq l base=false:=fun h=>Amf hk3 h
  have hck:=Ub (base:=base) hk3
  refine Kd (xs:=l) k ?_
  rintro hi b o e
  rw [e]
  have p4:0 < k→∃h:k - 1 < l.length,An8 base l[k - 1]:=fun h0=>by
   have hk4:k - 1 < l.length:=by omega
   have hp:=hk2 (k - 1) (by omega)
   rw [Ub hk4] at hp
   simp only [Bool.and_eq_true] at hp
   exact ⟨hk4,Ea.1 hp.1⟩
  refine go ?_;intros
  cases g4:P7 base l[k]
  ·skip
   refine Aw [0] [] ?_
   refine dt 0 ?_
   refine dt 1 ?_
   refine dO 2 (by kernel_rfl) (by rw [List.getElem?_toArray];rfl) ?_
   apply At;rfl;kernel_rfl;exact Be
   refine cf (Rr l[k] base b0 b1) fun _ _=>?_
   refine Ar ?_
   rw [g4]
   refine dk ?_
   refine dt 3 ?_
   refine dt 4 ?_
   refine ds 5 ?_
   refine ds 6 ?_
   refine ds 7 ?_
   refine dsu 8 ?_
   refine dsu 9 ?_
   refine dsu 10 ?_
   refine dsu 11 ?_
   refine dsu 12 ?_
   refine dsu 13 ?_
   refine dsu 14 ?_
   refine dsu 15 ?_
   refine dsu 16 ?_
   refine dsu 17 ?_
   refine dsu 18 ?_
   refine dsu 19 ?_
   refine dsu 20 ?_
   refine ds 21 ?_
   refine dt 22 ?_
   refine dd ?_
   refine go ?_;intros
   refine ret () trivial ?_
   rw [bad (by rw [hck,g4];rfl)];rfl
  obtain ⟨q0,q1⟩:=Ba.1 (Ea.1 g4).n
  by_cases hk0:0 < k
  ·obtain ⟨hk4,p5⟩:=p4 hk0
   obtain ⟨p0,p1⟩:=Ba.1 p5.n
   rw [←e]
   refine Kd (xs:=l) (k - 1) ?_
   rintro hi5 b5 o5 e5
   rw [e5]
   refine Aw [0,1] [] ?_
   refine dt 0 ?_
   refine dt 1 ?_
   refine dO 2 (by kernel_rfl) (by rw [List.getElem?_toArray];rfl) ?_
   apply At;rfl;kernel_rfl;exact Be
   refine cf (Rr l[k] base b0 b1) fun _ _=>?_
   refine Ar ?_
   rw [g4]
   refine dk ?_
   refine dt 3 ?_
   refine dt 4 ?_
   refine En 5 ?_
   refine En 6 ?_
   rw [decide_eq_true (show (0:Int) < k by omega)]
   refine En 7 ?_
   refine En 8 ?_
   refine En 9 ?_
   refine En 10 ?_
   refine En 11 ?_
   rw [show (k:Int) - 1=((k - 1:Nat):Int) by omega]
   refine En 12 ?_
   refine En 13 ?_
   refine En 14 ?_
   refine En 16 ?_
   refine En 17 ?_
   refine En 18 ?_
   refine d1g 15 ?_
   apply On.h
   apply At;rfl;kernel_rfl;exact Be
   refine ce (fun w s=>Ls _ _ _ (by omega) (by omega) (by omega) (by omega)) ?_
   refine dk ?_
   refine d1g 19 ?_
   apply On.h
   apply At;rfl;kernel_rfl;exact Be
   refine ce (fun w s=>Ls _ _ _ (by omega) (by omega) (by omega) (by omega)) ?_
   refine dk ?_
   refine En 20 ?_
   refine En 21 ?_
   refine dt 22 ?_
   refine dd ?_
   refine go ?_;intros
   refine Bf rfl (fun h6=>?_) (fun h6=>?_)
   ·refine go ?_;intros
    refine ret () trivial ?_
    rw [bad (by rw [hck,decide_eq_true h6,decide_eq_false (show ¬k=0 by omega)];simp)];rfl
   ·refine go ?_;intros
    refine Ct (k+1) ⟨by omega,fun j hj=>?_⟩ (by omega)
    rcases Nat.lt_or_eq_of_le (Nat.lt_succ_iff.1 hj) with h|rfl
    ·exact hk2 j h
    ·rw [hck,g4,decide_eq_false h6];simp
  ·have hz:k=0:=by omega
   refine Aw [0] [] ?_
   refine dt 0 ?_
   refine dt 1 ?_
   refine dO 2 (by kernel_rfl) (by rw [List.getElem?_toArray];rfl) ?_
   apply At;rfl;kernel_rfl;exact Be
   refine cf (Rr l[k] base b0 b1) fun _ _=>?_
   refine Ar ?_
   rw [g4]
   refine dk ?_
   refine dt 3 ?_
   refine dt 4 ?_
   refine En 5 ?_
   refine En 6 ?_
   rw [decide_eq_false (show ¬(0:Int) < k by omega)]
   refine En 7 ?_
   refine ds 8 ?_
   refine ds 9 ?_
   refine ds 10 ?_
   refine ds 11 ?_
   refine ds 12 ?_
   refine ds 13 ?_
   refine ds 14 ?_
   refine ds 15 ?_
   refine ds 16 ?_
   refine ds 17 ?_
   refine ds 18 ?_
   refine ds 19 ?_
   refine ds 20 ?_
   refine En 21 ?_
   refine dt 22 ?_
   refine dd ?_
   refine go ?_;intros
   refine Ct (k+1) ⟨by omega,fun j hj=>?_⟩ (by omega)
   rcases Nat.lt_or_eq_of_le (Nat.lt_succ_iff.1 hj) with h|rfl
   ·exact hk2 j h
   ·rw [hck,g4,decide_eq_true hz];simp
 have hkl:k=l.length:=by omega
 refine go ?_;intros
 refine ret () trivial ?_
 rw [Ajf g1 (by omega) (hkl▸hk2)];rfl
section
variable {c:Cx} {fr:Fr} {H:List Pc} {Φ:Gl}
theorem Ic {v:Value} {x:Bc} {F:List Nat} (h:∀(a1:Option Addr) (c1:Nat) (F1:List Nat) (a2:Option Addr) (c2:Nat) (F2:List Nat),v=.agg #[.bool x.Bg,.int .i64 x.Ai,.int .i64 x.Aa.next,.slice a1 x.Aa.Ao.length c1,.slice a2 x.Ap.length c2]→x.Aa.Ao.length≤maxLen→x.Ap.length≤maxLen→T c fr (.sl Cg (.slice a1 x.Aa.Ao.length c1) x.Aa.Ao F1::.sl Az (.slice a2 x.Ap.length c2) x.Ap F2::H) Φ) (hm:.isv Cb v x F∈H:=by exact B8):T c fr H Φ:=.mk fun a w s g=>by
 obtain ⟨cs,rfl,v1,v2,G1,G2,rfl,h1,h2,rfl⟩:=s.get hm
 obtain ⟨a1,c1,rfl⟩:=h1.slice;have l1:=h1.len
 obtain ⟨a2,c2,rfl⟩:=h2.slice;have l2:=h2.len
 have t2:=s.ro (p:=.sl Az (.slice a2 x.Ap.length c2) x.Ap G2) hm rfl rfl ⟨by decide,h2⟩ (by intro b hb;simp only [Pc.F] at hb ⊢;simp [hb])
 have t1:=t2.ro (p:=.sl Cg (.slice a1 x.Aa.Ao.length c1) x.Aa.Ao G1) (List.mem_cons_of_mem _ hm) rfl rfl ⟨by decide,h1⟩ (by intro b hb;simp only [Pc.F] at hb ⊢;simp [hb])
 exact (h a1 c1 G1 a2 c2 G2 rfl  l1 l2).h a w t1 g
theorem Ga (x:Bc) {a1:Option Addr} {c1:Nat} {F1:List Nat} {a2:Option Addr} {c2:Nat} {F2:List Nat}  (h:T c fr (.isv Cb (.agg #[.bool x.Bg,.int .i64 x.Ai,.int .i64 x.Aa.next,.slice a1 x.Aa.Ao.length c1,.slice a2 x.Ap.length c2]) x (F1++F2)::H) Φ) (m1:.sl Cg (.slice a1 x.Aa.Ao.length c1) x.Aa.Ao F1∈H:=by exact B8) (m2:.sl Az (.slice a2 x.Ap.length c2) x.Ap F2∈H:=by exact B8):T c fr H Φ:=.mk fun a w s g=>by
 have hP:O1 Cb w (.agg #[.bool x.Bg,.int .i64 x.Ai,.int .i64 x.Aa.next,.slice a1 x.Aa.Ao.length c1,.slice a2 x.Ap.length c2]) x (F1++F2):=⟨_,rfl,_,_,_,_,rfl,(s.get m1).2,(s.get m2).2,rfl⟩
 refine h.h a w (s.add (N:=[.isv Cb (.agg #[.bool x.Bg,.int .i64 x.Ai,.int .i64 x.Aa.next,.slice a1 x.Aa.Ao.length c1,.slice a2 x.Ap.length c2]) x (F1++F2)]) (Below.refl _ _) (by intro q hq;simp at hq;subst hq;exact hP) ⟨by simp,trivial⟩ fun q hq b hb=>?_) g
 simp at hq;subst hq
 simp only [Pc.F,List.mem_append] at hb
 rcases hb with hb|hb
 ·exact .inr ⟨rfl,_,m1,rfl,hb⟩
 ·exact .inr ⟨rfl,_,m2,rfl,hb⟩
theorem Hp {v:Value} {x:Bc} {F:List Nat} {S:List Pc} (h:∀(a1:Option Addr) (c1:Nat) (F1:List Nat) (a2:Option Addr) (c2:Nat) (F2:List Nat),v=.agg #[.bool x.Bg,.int .i64 x.Ai,.int .i64 x.Aa.next,.slice a1 x.Aa.Ao.length c1,.slice a2 x.Ap.length c2]→x.Aa.Ao.length≤maxLen→x.Ap.length≤maxLen→T c fr (.ow Cg 198 (.slice a1 x.Aa.Ao.length c1) x.Aa.Ao F1::.ow Az 166 (.slice a2 x.Ap.length c2) x.Ap F2::S) Φ) (hp:C1 H (.own Bi v x F) S:=by exact Dy):T c fr H Φ:=.mk fun a w s g=>by
 have z1:=s.pick hp
 obtain ⟨hn,cs,rfl,v1,v2,G1,G2,rfl,h1,h2,rfl⟩:=z1.on (.own Bi v x F) (by simp)
 obtain ⟨a1,c1,rfl⟩:=h1.slice;have l1:=h1.len
 obtain ⟨a2,c2,rfl⟩:=h2.slice;have l2:=h2.len
 have hn2:=hn;simp only [List.nodup_append,List.mem_append] at hn2
 refine (h a1 c1 G1 a2 c2 G2 rfl  l1 l2).h a w (St.turn (M:=[.own Bi (.agg #[.bool x.Bg,.int .i64 x.Ai,.int .i64 x.Aa.next,.slice a1 x.Aa.Ao.length c1,.slice a2 x.Ap.length c2]) x _]) (N:=[.ow Cg 198 (.slice a1 x.Aa.Ao.length c1) x.Aa.Ao G1,.ow Az 166 (.slice a2 x.Ap.length c2) x.Ap G2]) z1 (Dt.refl _ w) ?_ ?_ ?_) g
 ·intro q hq;simp only [List.mem_cons,List.not_mem_nil,or_false] at hq
  rcases hq with rfl|rfl
  ·exact ⟨(List.nodup_append.1 hn).1,h1⟩
  ·exact ⟨(List.nodup_append.1 hn).2.1,h2⟩
 ·refine ⟨?_,⟨?_,trivial⟩⟩
  ·intro q hq _ b hb hb2;simp only [List.mem_cons,List.not_mem_nil,or_false] at hq;rcases hq with rfl <;> simp only [Pc.F] at hb hb2 <;> exact Vn hn hb hb2
  ·intro q hq _ b hb hb2;simp at hq
 ·intro q hq b hb;refine .inr (.inl ⟨_,List.mem_singleton.2 rfl,rfl,?_⟩);simp only [List.mem_cons,List.not_mem_nil,or_false] at hq;rcases hq with rfl|rfl <;> simp only [Pc.F] at hb ⊢ <;> simp [hb]
theorem Jg (x:Bc) {a1:Option Addr} {c1:Nat} {F1:List Nat} {a2:Option Addr} {c2:Nat} {F2:List Nat} {S1 S2:List Pc}  (h:T c fr (.own Bi (.agg #[.bool x.Bg,.int .i64 x.Ai,.int .i64 x.Aa.next,.slice a1 x.Aa.Ao.length c1,.slice a2 x.Ap.length c2]) x (F1++F2)::S2) Φ) (m1:C1 H (.ow Cg 198 (.slice a1 x.Aa.Ao.length c1) x.Aa.Ao F1) S1:=by exact Dy) (m2:C1 S1 (.ow Az 166 (.slice a2 x.Ap.length c2) x.Ap F2) S2:=by exact Dy)  : T c fr H Φ:=.mk fun a w s g=>by
 have z1:St c.G c.D c.w0 ([.ow Cg 198 (.slice a1 x.Aa.Ao.length c1) x.Aa.Ao F1,.ow Az 166 (.slice a2 x.Ap.length c2) x.Ap F2]++S2) w:=by simpa using (show Ew H [.ow Cg 198 (.slice a1 x.Aa.Ao.length c1) x.Aa.Ao F1,.ow Az 166 (.slice a2 x.Ap.length c2) x.Ap F2] S2 from Ew.cons m1 (Ew.cons m2 (Ew.nil))).st (X:=[]) (by simpa using s)
 obtain ⟨n1,k1⟩:=z1.on (.ow Cg 198 (.slice a1 x.Aa.Ao.length c1) x.Aa.Ao F1) (by simp)
 obtain ⟨n2,k2⟩:=z1.on (.ow Az 166 (.slice a2 x.Ap.length c2) x.Ap F2) (by simp)
 have hsp:=z1.Y2
 have p1_2:∀b∈F1,b ∉ F2:=hsp.1 (.ow Az 166 (.slice a2 x.Ap.length c2) x.Ap F2) (by simp) rfl
 have hN:(F1++F2).Nodup:=by
  simp only [List.nodup_append,List.mem_append]
  grind
 refine h.h a w (St.turn (M:=[.ow Cg 198 (.slice a1 x.Aa.Ao.length c1) x.Aa.Ao F1,.ow Az 166 (.slice a2 x.Ap.length c2) x.Ap F2]) (N:=[.own Bi (.agg #[.bool x.Bg,.int .i64 x.Ai,.int .i64 x.Aa.next,.slice a1 x.Aa.Ao.length c1,.slice a2 x.Ap.length c2]) x (F1++F2)]) z1 (Dt.refl _ w) (by intro q hq;simp at hq;subst hq;exact ⟨hN,_,rfl,_,_,_,_,rfl,k1,k2,rfl⟩) ⟨by simp,trivial⟩ fun q hq b hb=>?_) g
 simp at hq;subst hq
 simp only [Pc.F,List.mem_append] at hb
 rcases hb with hb|hb
 ·exact .inr (.inl ⟨.ow Cg 198 (.slice a1 x.Aa.Ao.length c1) x.Aa.Ao F1,by simp,rfl,hb⟩)
 ·exact .inr (.inl ⟨.ow Az 166 (.slice a2 x.Ap.length c2) x.Ap F2,by simp,rfl,hb⟩)
theorem Qh {a:Option Addr} {n cp:Nat} {xs:List Bc} {F:List Nat} (i:Nat) (h:∀(hi:i < xs.length) (b o:Nat) (a1:Option Addr) (c1:Nat) (F1:List Nat) (a2:Option Addr) (c2:Nat) (F2:List Nat),a=some ⟨b,o,none⟩→xs[i].Aa.Ao.length≤maxLen→xs[i].Ap.length≤maxLen→T c fr (.cel b (o+i * 5) [.bool xs[i].Bg,.int .i64 xs[i].Ai,.int .i64 xs[i].Aa.next,.slice a1 xs[i].Aa.Ao.length c1,.slice a2 xs[i].Ap.length c2]::.sl Cg (.slice a1 xs[i].Aa.Ao.length c1) xs[i].Aa.Ao F1::.sl Az (.slice a2 xs[i].Ap.length c2) xs[i].Ap F2::H) Φ) (hm:.sl Cb (.slice a n cp) xs F∈H:=by exact B8) (hi:i < xs.length:=by omega):T c fr H Φ:=.mk fun ac w s g=>by
 obtain ⟨b,o,cs,G,ha,hrep,hG,hb,hne,hr⟩:=Rz (s.get hm) i hi
 obtain ⟨v1,v2,G1,G2,rfl,h1,h2,rfl⟩:=hrep
 obtain ⟨a1,c1,rfl⟩:=h1.slice;have l1:=h1.len
 obtain ⟨a2,c2,rfl⟩:=h2.slice;have l2:=h2.len
 have t2:=s.ro (p:=.sl Az (.slice a2 xs[i].Ap.length c2) xs[i].Ap G2) hm rfl rfl ⟨by decide,h2⟩ (by intro b hb;simp only [Pc.F] at hb ⊢;exact hG b (by simp [hb]))
 have t1:=t2.ro (p:=.sl Cg (.slice a1 xs[i].Aa.Ao.length c1) xs[i].Aa.Ao G1) (List.mem_cons_of_mem _ hm) rfl rfl ⟨by decide,h1⟩ (by intro b hb;simp only [Pc.F] at hb ⊢;exact hG b (by simp [hb]))
 exact (h hi b o a1 c1 G1 a2 c2 G2 ha  l1 l2).h ac w (t1.ro (List.mem_cons_of_mem _ (List.mem_cons_of_mem _ hm)) rfl rfl ⟨hne,hr⟩ (by intro x hx;simp [Pc.F] at hx;subst hx;exact hb)) g
end
theorem Ab4 {c:Cx} {fr:Fr} {H S:List Pc} {Φ:Gl} {g t:Nat} {cs:List Value} (h:T c fr (.cel g 0 cs::S) Φ) (h0:cs≠[]) (hp:C1 H (.row g t 0 [] cs []) S:=by exact Dy):T c fr H Φ:=.mk fun ac w s ag=>by
 have s1:=s.pick hp
 exact h.h ac w (s1.conv rfl ⟨h0,Fg (s1.on (.row g t 0 [] cs []) (by simp))⟩ (fun b hb=>hb)) ag
theorem Agl {c:Cx} {fr:Fr} {H S:List Pc} {Φ:Gl} {g t o k:Nat} {A B L:List Value} (X cs Y:List Value) (h:T c fr (.row g t (o+k) (A++X) cs (Y++B)::S) Φ) (hL:L=X++cs++Y:=by rfl) (hk:X.length=k:=by rfl) (hp:C1 H (.row g t o A L B) S:=by exact Dy):T c fr H Φ:=.mk fun ac w s ag=>by
 subst hL hk
 have s1:=s.pick hp
 obtain ⟨hA,hr⟩:=s1.on (.row g t o A (X++cs++Y) B) (by simp)
 exact h.h ac w (s1.conv rfl ⟨by simp [hA],by simpa [List.append_assoc] using hr⟩ (fun b hb=>hb)) ag
theorem Y9 {c:Cx} {fr:Fr} {H S:List Pc} {Φ:Gl} {g t o k:Nat} {A B L:List Value} (X cs Y:List Value) (h:T c fr (.row g t o A L B::S) Φ) (hL:L=X++cs++Y:=by rfl) (hk:X.length=k:=by rfl) (hp:C1 H (.row g t (o+k) (A++X) cs (Y++B)) S:=by exact Dy):T c fr H Φ:=.mk fun ac w s ag=>by
 subst hL hk
 have s1:=s.pick hp
 obtain ⟨hA,hr⟩:=s1.on (.row g t (o+X.length) (A++X) cs (Y++B)) (by simp)
 exact h.h ac w (s1.conv rfl ⟨by simpa using hA,by simpa [List.append_assoc] using hr⟩ (fun b hb=>hb)) ag
theorem Vd {p:Pc}:∀(A:List Pc),Is (p::A) A
 | []=>.nil
 | _::r=>.cons (.there .here) (Vd r)
theorem Acd (fid:FuncId) (bd caps:List Value) (A:List Pc) (hA:A.all (fun p=>!p.mu)=true) (xs:List A4) (a:Option Addr) (c:Nat) (F:List Nat) (p:A4→Bool) (hb:N0 prog fid=true) (hl:xs.length≤1000000000)
  (hp:∀x∈xs,∀w,Ms A w→Calls prog fid (bd++[(.agg #[.int .i64 (x).Ad,.int .i64 (x).H4,.int .i64 (x).Cf,.int .i64 (x).Du]:Value)]++caps).toArray w fun e w'=>e=.returned (.bool (p x))∧Below w.heap.size w w') :
  Fn prog 224 [.slice a xs.length c,.func (.func fid) bd.toArray caps.toArray] (.sl Az (.slice a xs.length c) xs F::A) [] (fun (_:Unit)=>True) (fun _=>.int .i64 (N5 p xs)) (fun _=>[]):=by
 refine enter func224 rfl ntmps224 (fun w0=>?_) rfl (by simpa [Pc.mu] using hA) .nil
 refine go ?_;intros
 refine H2 [0,1,4,7] (fun k:Nat=>[(8,.int .i64 (k:Nat))]) (fun k=>k≤xs.length∧∀j (_:j < k) (hj:j < xs.length),p xs[j]=false) (fun k=>xs.length - k) 0 ⟨Nat.zero_le _,fun j h=>by omega⟩ fun k hk=>?_
 obtain ⟨hk1,hk2⟩:=hk
 refine go ?_;intros
 refine Bf rfl (fun h5=>?_) (fun h5=>?_)
 ·have hh:k < xs.length:=by omega
  refine go ?_;intros
  refine Kd (xs:=xs) k ?_
  rintro hi b o e
  rw [e]
  refine go ?_;intros
  apply wO
  refine Un rfl rfl hb Be ?_
  refine cb (fun w st=>hp xs[k] (List.getElem_mem hh) w (fun q hq=>st.on q (by simp [hq]))) ?_
  cases hpk:p xs[k]
  ·refine go ?_;intros
   refine Q3 ?_
   refine Ct (hH:=Ir _) (k+1) ⟨hh,fun j hj h=>?_⟩ (by omega)
   rcases Nat.lt_or_eq_of_le (Nat.lt_succ_iff.1 hj) with h2|rfl
   ·exact hk2 j h2 h
   ·exact hpk
  ·refine go ?_;intros
   refine ret () trivial ?_
   rw [Mh hh hk2 hpk];rfl
 ·obtain rfl:k=xs.length:=by omega
  refine go ?_;intros
  refine ret () trivial ?_
  rw [Lj (fun j hj=>hk2 j hj hj)];rfl
structure Aiz where
 i:Nat
 j:Nat
 zs:List A4
theorem Acb (fid:FuncId) (bd caps:List Value) (A:List Pc) (hA:A.all (fun p=>!p.mu)=true) (xs:List A4) (a:Option Addr) (c:Nat) (F:List Nat) (p:A4→Bool) (hb:N0 prog fid=true) (hl:xs.length≤1000000000)
  (hp:∀x∈xs,∀w,Ms A w→Calls prog fid (bd++[(.agg #[.int .i64 (x).Ad,.int .i64 (x).H4,.int .i64 (x).Cf,.int .i64 (x).Du]:Value)]++caps).toArray w fun e w'=>e=.returned (.bool (p x))∧Below w.heap.size w w') :
  Fn prog 205 [.slice a xs.length c,.func (.func fid) bd.toArray caps.toArray] A [.ow Az 166 (.slice a xs.length c) xs F] (fun (_:Option Addr × Nat × List Nat)=>True)
   (fun z=>.slice z.1 (xs.filter fun x=>!p x).length z.2.1) (fun z=>[.ow Az 166 (.slice z.1 (xs.filter fun x=>!p x).length z.2.1) (xs.filter fun x=>!p x) z.2.2]):=by
 refine enter func205 rfl ntmps205 (fun w0=>?_) rfl (by simpa [Pc.mu] using hA) (.cons .nil)
 refine go ?_;intros
 refine cb (fun w st=>by
  obtain ⟨Fw, -,hw⟩:=(st.get (p:=.ow Az 166 (.slice a xs.length c) xs F) (by simp)).2.read
  refine (Acd fid bd caps A hA xs a c Fw p hb hl hp).val w ?_ (by simpa [Pc.mu] using hA)
  intro q hq
  rcases List.mem_cons.1 hq with rfl|hq
  ·exact ⟨by decide,hw⟩
  ·exact st.on q (by simp [hq])) ?_
 by_cases hany:xs.any p=true
 ·obtain ⟨i0,hi0,hfx,hpi,hfl⟩:=Sg hany
  rw [hfx]
  refine Ab3 (xs:=xs) Dk (by rintro rfl;simp at hi0) ?_
  rintro g rfl rfl - hc1 hc2
  refine go ?_;intros
  refine Ck [0,1,4] (fun s:Aiz=>[(5,.int .i64 (s.i:Nat)),(6,.int .i64 (s.j:Nat))]) (fun s=>[.ow Az 166 (.slice (some ⟨g,0,none⟩) xs.length c) s.zs [g]]) (fun s=>s.zs.length=xs.length∧s.j≤xs.length∧s.i < s.j∧s.zs.take s.i=(xs.take s.j).filter (fun x=>!p x)∧s.zs.drop s.j=xs.drop s.j) (fun s=>xs.length - s.j) ⟨i0,i0+1,xs⟩ ⟨rfl,hi0,Nat.lt_succ_self _,by rw [Cz hi0 (by simp [hpi]),hfl],rfl⟩ fun s hs=>?_
  obtain ⟨i,j,zs⟩:=s
  obtain ⟨h1,h2,h3,h4,h5⟩:=hs
  dsimp only at h1 h2 h3 h4 h5 ⊢
  refine go ?_;intros
  refine Bf rfl (fun h6=>?_) (fun h6=>?_)
  ·have hj:j < xs.length:=by omega
   have hjz:j < zs.length:=by omega
   have hx:zs[j]=xs[j]:=by
    have a1:=List.drop_eq_getElem_cons hjz
    have a2:=List.drop_eq_getElem_cons hj
    rw [h5,a2] at a1
    exact (List.cons.inj a1).1.symm
   have hdz:zs.drop (j+1)=xs.drop (j+1):=by
    rw [←List.drop_drop,h5,List.drop_drop]
   refine go ?_;intros
   refine Nl (m:=4) Dk j ?_ (by repeat (first|exact .here|apply C1.there)) rfl hjz
   rintro _ g2 A2 cs2 B2 e1 e2 hc3 hh
   cases e1
   obtain ⟨rfl, -⟩:=hc3 w0
   refine go ?_;intros
   refine Mr zs[j] hh hc3 ?_
   rw [List.set_getElem_self,hx]
   apply wO
   refine Un rfl rfl hb Be ?_
   refine cb (fun w st=>hp xs[j] (List.getElem_mem hj) w (fun q hq=>st.on q (by simp [hq]))) ?_
   cases hpj:p xs[j]
   ·refine go ?_;intros
    refine Nl (m:=4) Dk i ?_ (by repeat (first|exact .here|apply C1.there)) rfl (by omega)
    rintro _ g3 A3 cs3 B3 e1 e2 hc4 hh3
    cases e1
    obtain ⟨rfl, -⟩:=hc4 w0
    refine go ?_;intros
    refine Mr xs[j] hh3 (fun w=>⟨rfl,rfl⟩) ?_
    refine Ct (hH:=.cons .here (Vd _)) (⟨i+1,j+1,zs.set i xs[j]⟩:Aiz) ⟨by simp [h1],hj,Nat.succ_lt_succ h3,?_,?_⟩ (by dsimp only;omega)
    ·dsimp only
     rw [Et hj (by simp [hpj]),←h4,List.take_add_one,List.getElem?_set_self (by omega),List.take_set_of_le (Nat.le_refl _)]
     rfl
    ·dsimp only
     rw [List.drop_set_of_lt (by omega),hdz]
   ·refine go ?_;intros
    refine Ct (hH:=.cons .here (Vd _)) (⟨i,j+1,zs⟩:Aiz) ⟨h1,hj,Nat.lt_succ_of_lt h3,?_,hdz⟩ (by dsimp only;omega)
    dsimp only
    rw [Cz hj (by simp [hpj]),h4]
  ·obtain rfl:j=xs.length:=by omega
   have h4':zs.take i=xs.filter fun x=>!p x:=by rw [h4,List.take_length]
   have hil:(xs.filter fun x=>!p x).length=i:=by rw [←h4',List.length_take];omega
   refine go ?_;intros
   apply wO;apply oc;rfl;exact Ik (i:=i) rfl rfl rfl (by omega) (by omega) (by omega)
   refine go ?_;intros
   apply wO
   refine Agb (z0:=⟨0,0,0,0⟩) (n:=xs.length) (cp:=c) (i:=i) (g:=g) Dk (fun w=>⟨rfl,rfl⟩) (by decide) rfl rfl h3 h1.symm (by repeat (first|exact .here|apply C1.there)) ?_
   refine go ?_;intros
   refine Za (xs:=zs.take i++List.replicate (xs.length - i) ⟨0,0,0,0⟩) i (fun F2=>?_) (by rw [List.length_append,List.length_take,List.length_replicate];omega)
   rw [List.take_left' (by rw [List.length_take];omega),h4']
   apply wO;apply oc;rfl;exact Lq (i:=i) rfl rfl rfl (by omega) (by omega)
   refine go ?_;intros
   subst hil
   refine ret (_,c,F2) trivial rfl
 ·obtain ⟨hfx,hfl⟩:=Uf hany
  rw [hfx,hfl]
  refine go ?_;intros
  refine ret (a,c,F) trivial rfl
theorem Aix (fid:FuncId) (bd caps:List Value) (A:List Pc) (hA:A.all (fun p=>!p.mu)=true) (xs:List A4) (a:Option Addr) (c:Nat) (F:List Nat) (p:A4→Bool) (hb:N0 prog fid=true) (hl:xs.length≤1000000000)
  (hp:∀x∈xs,∀w,Ms A w→Calls prog fid (bd++[(.agg #[.int .i64 (x).Ad,.int .i64 (x).H4,.int .i64 (x).Cf,.int .i64 (x).Du]:Value)]++caps).toArray w fun e w'=>e=.returned (.bool (p x))∧Below w.heap.size w w') :
  Fn prog 177 [.slice a xs.length c,.func (.func fid) bd.toArray caps.toArray] (.sl Az (.slice a xs.length c) xs F::A) [] (fun (_:Unit)=>True) (fun _=>.bool (xs.any p)) (fun _=>[]):=by
 refine enter func177 rfl ntmps177 (fun w0=>?_) rfl (by simpa [Pc.mu] using hA) .nil
 refine go ?_;intros
 refine cb (fun w st=>(Acd fid bd caps A hA xs a c F p hb hl hp).val w (fun q hq=>st.on q (by simpa using hq)) (by simpa [Pc.mu] using hA)) ?_
 refine go ?_;intros
 refine ret () trivial ?_
 rw [Pu];rfl
theorem Ank (x:Am) (r:A4) (g:Nat) (b:Bool) (ck:Int) (q:Value) (a1:Option Addr) (c1:Nat) (F:List Nat) (h0:0≤x.next) (h1:x.next≤65535) (n0:0≤r.Ad) (n1:r.Ad≤65535):Fn prog 178 [.agg #[.int .i64 r.Ad,.int .i64 r.H4,.int .i64 r.Cf,.int .i64 r.Du],Eu g 0 0] [.cel g 0 [.bool b,.int .i64 ck,.int .i64 x.next,.slice a1 x.Ao.length c1,q],.isv By (.agg #[.int .i64 x.next,.slice a1 x.Ao.length c1]) x F] [] (fun (_:Unit)=>True) (fun _=>.bool (H1 x r.Ad)) (fun _=>[]):=by
 refine enter func178 rfl ntmps178 fun w0=>?_
 refine go ?_;intros
 refine cf (T9 x r.Ad _ F h0 h1 n0 n1) fun _ _=>?_
 refine Ar ?_
 refine go ?_;intros
 refine ret () trivial rfl
theorem T7 (x:Bc) (v:Value) (F:List Nat):Fn prog 122 [v] [.isv Cb v x F] [] (fun (_:Unit)=>True) (fun _=>.bool (Hc x)) (fun _=>[]):=by
 refine enter func122 rfl ntmps122 fun w0=>?_
 refine Ic ?_
 rintro a1 c1 F1 a2 c2 F2 rfl l1 l2
 unfold maxLen at l1 l2
 refine Cy x.Aa ?_
 generalize F1=F3
 refine go ?_;intros
 refine ce (fun w s=>Oc _ _) ?_
 cases g1:Ix x.Ai
 ·refine go ?_;intros
  refine ret () trivial ?_
  simp [Hc,g1,Rf]
 refine go ?_;intros
 cases hs:x.Bg
 ·have nog:Pf x=false→Hc x=false:=fun h=>by unfold Hc;rw [g1,hs];simpa using h
  refine go ?_;intros
  refine Ee rfl rfl (fun h1=>?_) (fun h1=>?_)
  rotate_left
  ·refine go ?_;intros
   refine ret () trivial ?_
   rw [nog (by unfold Pf;rw [decide_eq_false h1];rfl)];rfl
  refine go ?_;intros
  refine Ee rfl rfl (fun h2=>?_) (fun h2=>?_)
  rotate_left
  ·refine go ?_;intros
   refine ret () trivial ?_
   rw [nog (by unfold Pf;rw [decide_eq_false (show ¬x.Aa.Ao.length=0 by omega)];simp)];rfl
  refine go ?_;intros
  refine ret () trivial ?_
  rw [show Hc x=decide ((x.Ap.length:Int)=0) by unfold Hc;rw [g1,hs];unfold Pf;rw [decide_eq_true h1,decide_eq_true (show x.Aa.Ao.length=0 by omega)];simp];rfl
 rename_i g
 refine Ab4 (cs:=[.bool true,.int .i64 x.Ai,.int .i64 x.Aa.next,.slice a1 x.Aa.Ao.length c1,.slice a2 x.Ap.length c2]) ?_ (by simp)
 refine go ?_;intros
 refine cf (Ai7 x.Aa _ F3) fun _ _=>?_
 refine Ar ?_
 cases g2:Df x.Aa
 ·refine go ?_;intros
  refine ret () trivial ?_
  simp [Hc,g1,g2,hs,Rf]
 obtain ⟨w0_,w1_⟩:=Gg g2
 refine go ?_;intros
 refine cf (Nc x.Ap x.Aa.next _ F2) fun _ _=>?_
 refine Ar ?_
 cases g3:Kq x.Ap x.Aa.next
 ·refine go ?_;intros
  refine ret () trivial ?_
  simp [Hc,g1,g2,g3,hs,Rf]
 obtain ⟨-,q1,q2, -⟩:=Dr.1 g3
 refine go ?_;intros
 refine cb (fun w st=>(Aix 178 [] [Eu g 0 0] [.cel g 0 [.bool true,.int .i64 x.Ai,.int .i64 x.Aa.next,.slice a1 x.Aa.Ao.length c1,.slice a2 x.Ap.length c2],.isv By (.agg #[.int .i64 x.Aa.next,.slice a1 x.Aa.Ao.length c1]) x.Aa F3] rfl x.Ap a2 c2 F2 (fun z=>H1 x.Aa z.Ad) (by kernel_rfl) (by omega) (fun z hz w hA=>by
  obtain ⟨n0,n1⟩:=Ba.1 (Ea.1 (q2 z hz)).n
  exact (Ank x.Aa z g true x.Ai _ a1 c1 F3 w0_ w1_ n0 n1).val w hA)).val w (fun q hq=>by
   simp only [List.mem_cons,List.not_mem_nil,or_false] at hq
   rcases hq with rfl|rfl|rfl <;> exact st.get (by exact B8))) ?_
 refine go ?_;intros
 refine ret () trivial ?_
 rw [show Hc x = !(x.Ap.any fun z=>H1 x.Aa z.Ad) by unfold Hc Af3;rw [g1,g2,g3,hs,List.not_any_eq_all_not];simp];rfl
theorem Fh {α β:Type} {f:α→Option β} {l:List α} {k:Nat} (h:k < l.length):(l.take (k+1)).filterMap f=(l.take k).filterMap f++(f l[k]).toList:=by
 rw [List.take_add_one,List.getElem?_eq_getElem h,List.filterMap_append]
 cases hf:f l[k] <;> simp [hf]
theorem U9 {α β:Type} (f:α→Option β) (l:List α) (k:Nat):((l.take k).filterMap f).length≤k:=by
 have:=List.length_filterMap_le f (l.take k)
 rw [List.length_take] at this;omega
structure TkS where
 k:Nat
 a:Option Addr
 c:Nat
 F:List Nat
 a2:Option Addr
 c2:Nat
 F2:List Nat
 a3:Option Addr
 c3:Nat
 F3:List Nat
theorem Zd (l:List A4) (c d:Int) (a0:Option Addr) (c0:Nat) (F:List Nat) (hl:l.length≤1000000) (ht:∀r∈l,0≤r.Du∧r.Du≤3) (c0_:0≤c) (c1_:c≤1000000) (d0_:-1000000≤d) (d1_:d≤1000000) :
  Fn prog 142 [.slice a0 l.length c0,.int .i64 c,.int .i64 d] [.sl Az (.slice a0 l.length c0) l F] [] (fun (_:TkS)=>True) (fun s=>.tuple #[.slice s.a (l.filterMap (Pd c d)).length s.c,.slice s.a2 (l.filterMap (Mz c)).length s.c2,.slice s.a3 (l.filterMap (Pn c)).length s.c3]) (fun s=>[.ow Az 166 (.slice s.a (l.filterMap (Pd c d)).length s.c) (l.filterMap (Pd c d)) s.F,.ow Bd 3 (.slice s.a2 (l.filterMap (Mz c)).length s.c2) (l.filterMap (Mz c)) s.F2,.ow Bd 3 (.slice s.a3 (l.filterMap (Pn c)).length s.c3) (l.filterMap (Pn c)) s.F3]):=by
 refine enter func142 rfl ntmps142 fun w0=>?_
 refine go ?_;intros
 refine Bx Az 166 ?_
 refine Bx Bd 3 ?_
 refine Bx Bd 3 ?_
 refine Ck [1,2,6,7,8,14,15] (fun s:TkS=>[(16,.int .i64 (s.k:Nat)),(9,.slice s.a ((l.take s.k).filterMap (Pd c d)).length s.c),(10,.slice s.a2 ((l.take s.k).filterMap (Mz c)).length s.c2),(11,.slice s.a3 ((l.take s.k).filterMap (Pn c)).length s.c3)]) (fun s=>[.ow Az 166 (.slice s.a ((l.take s.k).filterMap (Pd c d)).length s.c) ((l.take s.k).filterMap (Pd c d)) s.F,.ow Bd 3 (.slice s.a2 ((l.take s.k).filterMap (Mz c)).length s.c2) ((l.take s.k).filterMap (Mz c)) s.F2,.ow Bd 3 (.slice s.a3 ((l.take s.k).filterMap (Pn c)).length s.c3) ((l.take s.k).filterMap (Pn c)) s.F3]) (fun s=>s.k≤l.length) (fun s=>l.length - s.k) ⟨0,_,_,_,_,_,_,_,_,_⟩ (Nat.zero_le _) fun s hs=>?_
 obtain ⟨k,a4,c4,F4,a5,c5,F5,a6,c6,F6⟩:=s
 dsimp only at hs ⊢
 have h1:=U9 (Pd c d) l k
 have h2:=U9 (Mz c) l k
 have h3:=U9 (Pn c) l k
 refine go ?_;intros
 refine Bf rfl (fun h4=>?_) (fun h4=>?_)
 ·have hk:k < l.length:=by omega
  obtain ⟨t0,t1⟩:=ht _ (List.getElem_mem hk)
  refine Kd (xs:=l) k ?_
  rintro hi b o e
  rw [e]
  refine go ?_;intros
  refine Bf rfl (fun h5=>?_) (fun h5=>?_)
  ·have h5':c < l[k].Cf:=by omega
   refine go ?_;intros
   have eo:((l.take (k+1)).filterMap (Pd c d))=((l.take k).filterMap (Pd c d))++[l[k]]:=by rw [Fh hk];simp [Pd,h5']
   have es:((l.take (k+1)).filterMap (Mz c))=((l.take k).filterMap (Mz c)):=by rw [Fh hk];simp [Mz,h5']
   have el:((l.take (k+1)).filterMap (Pn c))=((l.take k).filterMap (Pn c)):=by rw [Fh hk];simp [Pn,h5']
   apply wO
   refine Lh (ys:=[l[k]]) (Kw l[k]) C0 fun a7 c7 F7=>?_
   refine go ?_;intros
   rw [←eo,←es,←el]
   refine Ct (⟨k+1,_,_,_,_,_,_,_,_,_⟩:TkS) (by show k+1≤l.length;omega) (by show l.length - (k+1) < l.length - k;omega)
  refine go ?_;intros
  refine Bf rfl (fun h6=>?_) (fun h6=>?_)
  ·refine go ?_;intros
   have eo:((l.take (k+1)).filterMap (Pd c d))=((l.take k).filterMap (Pd c d)):=by rw [Fh hk];simp [Pd,h5,h6]
   have es:((l.take (k+1)).filterMap (Mz c))=((l.take k).filterMap (Mz c)):=by rw [Fh hk];simp [Mz,h5,h6]
   have el:((l.take (k+1)).filterMap (Pn c))=((l.take k).filterMap (Pn c))++[l[k].Ad]:=by rw [Fh hk];simp [Pn,h5,h6]
   apply wO
   refine Lh (ys:=[l[k].Ad]) (Qx _) Db fun a8 c8 F8=>?_
   refine go ?_;intros
   rw [←eo,←es,←el]
   refine Ct (⟨k+1,_,_,_,_,_,_,_,_,_⟩:TkS) (by show k+1≤l.length;omega) (by show l.length - (k+1) < l.length - k;omega)
  refine go ?_;intros
  refine Bf rfl (fun h7=>?_) (fun h7=>?_)
  ·refine go ?_;intros
   have eo:((l.take (k+1)).filterMap (Pd c d))=((l.take k).filterMap (Pd c d))++[(⟨l[k].Ad,2,c+3,l[k].Du+1⟩:A4)]:=by rw [Fh hk];simp [Pd,h5,h6,h7]
   have es:((l.take (k+1)).filterMap (Mz c))=((l.take k).filterMap (Mz c))++[l[k].Ad]:=by rw [Fh hk];simp [Mz,h5,h6,h7]
   have el:((l.take (k+1)).filterMap (Pn c))=((l.take k).filterMap (Pn c)):=by rw [Fh hk];simp [Pn,h5,h6,h7]
   apply wO
   refine Lh (ys:=[l[k].Ad]) (Qx _) Db fun a8 c8 F8=>?_
   refine go ?_;intros
   apply wO
   refine Lh (ys:=[(⟨l[k].Ad,2,c+3,l[k].Du+1⟩:A4)]) (Kw (⟨l[k].Ad,2,c+3,l[k].Du+1⟩:A4)) C0 fun a7 c7 F7=>?_
   refine go ?_;intros
   rw [←eo,←es,←el]
   refine Ct (⟨k+1,_,_,_,_,_,_,_,_,_⟩:TkS) (by show k+1≤l.length;omega) (by show l.length - (k+1) < l.length - k;omega)
  ·refine go ?_;intros
   have eo:((l.take (k+1)).filterMap (Pd c d))=((l.take k).filterMap (Pd c d))++[(⟨l[k].Ad,1,c+d,l[k].Du⟩:A4)]:=by rw [Fh hk];simp [Pd,h5,h6,h7]
   have es:((l.take (k+1)).filterMap (Mz c))=((l.take k).filterMap (Mz c)):=by rw [Fh hk];simp [Mz,h5,h6,h7]
   have el:((l.take (k+1)).filterMap (Pn c))=((l.take k).filterMap (Pn c)):=by rw [Fh hk];simp [Pn,h5,h6,h7]
   apply wO
   refine Lh (ys:=[(⟨l[k].Ad,1,c+d,l[k].Du⟩:A4)]) (Kw (⟨l[k].Ad,1,c+d,l[k].Du⟩:A4)) C0 fun a7 c7 F7=>?_
   refine go ?_;intros
   rw [←eo,←es,←el]
   refine Ct (⟨k+1,_,_,_,_,_,_,_,_,_⟩:TkS) (by show k+1≤l.length;omega) (by show l.length - (k+1) < l.length - k;omega)
 ·obtain rfl:k=l.length:=by omega
  rw [List.take_length]
  refine go ?_;intros
  refine ret ⟨0,_,_,_,_,_,_,_,_,_⟩ trivial rfl
theorem Ahv (l:List A4) (c d:Int) (a0:Option Addr) (c0:Nat) (F:List Nat) (hl:l.length≤1000000) (ht:∀r∈l,0≤r.Du∧r.Du≤3) (c0_:0≤c) (c1_:c≤1000000) (d0_:-1000000≤d) (d1_:d≤1000000) :
  Fn prog 213 [.slice a0 l.length c0,.int .i64 c,.int .i64 d] [.sl Az (.slice a0 l.length c0) l F] [] (fun (_:TkS)=>True) (fun s=>.tuple #[.slice s.a (l.filterMap (Pd c d)).length s.c,.slice s.a2 (l.filterMap (Mz c)).length s.c2,.slice s.a3 (l.filterMap (Pn c)).length s.c3]) (fun s=>[.ow Az 166 (.slice s.a (l.filterMap (Pd c d)).length s.c) (l.filterMap (Pd c d)) s.F,.ow Bd 3 (.slice s.a2 (l.filterMap (Mz c)).length s.c2) (l.filterMap (Mz c)) s.F2,.ow Bd 3 (.slice s.a3 (l.filterMap (Pn c)).length s.c3) (l.filterMap (Pn c)) s.F3]):=by
 refine enter func213 rfl ntmps213 fun w0=>?_
 refine go ?_;intros
 refine C6 Bd ?_
 refine C6 Bd ?_
 refine C6 Az ?_
 refine Ck [0,1,2,6,7,8] (fun s:TkS=>[(12,.int .i64 (s.k:Nat)),(9,.slice s.a ((l.take s.k).filterMap (Pd c d)).length s.c),(10,.slice s.a2 ((l.take s.k).filterMap (Mz c)).length s.c2),(11,.slice s.a3 ((l.take s.k).filterMap (Pn c)).length s.c3)]) (fun s=>[.ow Az 166 (.slice s.a ((l.take s.k).filterMap (Pd c d)).length s.c) ((l.take s.k).filterMap (Pd c d)) s.F,.ow Bd 3 (.slice s.a2 ((l.take s.k).filterMap (Mz c)).length s.c2) ((l.take s.k).filterMap (Mz c)) s.F2,.ow Bd 3 (.slice s.a3 ((l.take s.k).filterMap (Pn c)).length s.c3) ((l.take s.k).filterMap (Pn c)) s.F3]) (fun s=>s.k≤l.length) (fun s=>l.length - s.k) ⟨0,_,_,_,_,_,_,_,_,_⟩ (Nat.zero_le _) fun s hs=>?_
 obtain ⟨k,a4,c4,F4,a5,c5,F5,a6,c6,F6⟩:=s
 dsimp only at hs ⊢
 have h1:=U9 (Pd c d) l k
 have h2:=U9 (Mz c) l k
 have h3:=U9 (Pn c) l k
 refine go ?_;intros
 refine Bf rfl (fun h4=>?_) (fun h4=>?_)
 ·have hk:k < l.length:=by omega
  obtain ⟨t0,t1⟩:=ht _ (List.getElem_mem hk)
  refine Kd (xs:=l) k ?_
  rintro hi b o e
  rw [e]
  refine go ?_;intros
  refine Bf rfl (fun h5=>?_) (fun h5=>?_)
  ·have h5':c < l[k].Cf:=by omega
   refine go ?_;intros
   have eo:((l.take (k+1)).filterMap (Pd c d))=((l.take k).filterMap (Pd c d))++[l[k]]:=by rw [Fh hk];simp [Pd,h5']
   have es:((l.take (k+1)).filterMap (Mz c))=((l.take k).filterMap (Mz c)):=by rw [Fh hk];simp [Mz,h5']
   have el:((l.take (k+1)).filterMap (Pn c))=((l.take k).filterMap (Pn c)):=by rw [Fh hk];simp [Pn,h5']
   apply wO
   refine Lh (ys:=[l[k]]) (Kw l[k]) C0 fun a7 c7 F7=>?_
   refine go ?_;intros
   rw [←eo,←es,←el]
   refine Ct (⟨k+1,_,_,_,_,_,_,_,_,_⟩:TkS) (by show k+1≤l.length;omega) (by show l.length - (k+1) < l.length - k;omega)
  refine go ?_;intros
  refine Bf rfl (fun h6=>?_) (fun h6=>?_)
  ·refine go ?_;intros
   have eo:((l.take (k+1)).filterMap (Pd c d))=((l.take k).filterMap (Pd c d)):=by rw [Fh hk];simp [Pd,h5,h6]
   have es:((l.take (k+1)).filterMap (Mz c))=((l.take k).filterMap (Mz c)):=by rw [Fh hk];simp [Mz,h5,h6]
   have el:((l.take (k+1)).filterMap (Pn c))=((l.take k).filterMap (Pn c))++[l[k].Ad]:=by rw [Fh hk];simp [Pn,h5,h6]
   apply wO
   refine Lh (ys:=[l[k].Ad]) (Qx _) Db fun a8 c8 F8=>?_
   refine go ?_;intros
   rw [←eo,←es,←el]
   refine Ct (⟨k+1,_,_,_,_,_,_,_,_,_⟩:TkS) (by show k+1≤l.length;omega) (by show l.length - (k+1) < l.length - k;omega)
  refine go ?_;intros
  refine Bf rfl (fun h7=>?_) (fun h7=>?_)
  ·refine go ?_;intros
   have eo:((l.take (k+1)).filterMap (Pd c d))=((l.take k).filterMap (Pd c d))++[(⟨l[k].Ad,2,c+3,l[k].Du+1⟩:A4)]:=by rw [Fh hk];simp [Pd,h5,h6,h7]
   have es:((l.take (k+1)).filterMap (Mz c))=((l.take k).filterMap (Mz c))++[l[k].Ad]:=by rw [Fh hk];simp [Mz,h5,h6,h7]
   have el:((l.take (k+1)).filterMap (Pn c))=((l.take k).filterMap (Pn c)):=by rw [Fh hk];simp [Pn,h5,h6,h7]
   apply wO
   refine Lh (ys:=[l[k].Ad]) (Qx _) Db fun a8 c8 F8=>?_
   refine go ?_;intros
   apply wO
   refine Lh (ys:=[(⟨l[k].Ad,2,c+3,l[k].Du+1⟩:A4)]) (Kw (⟨l[k].Ad,2,c+3,l[k].Du+1⟩:A4)) C0 fun a7 c7 F7=>?_
   refine go ?_;intros
   rw [←eo,←es,←el]
   refine Ct (⟨k+1,_,_,_,_,_,_,_,_,_⟩:TkS) (by show k+1≤l.length;omega) (by show l.length - (k+1) < l.length - k;omega)
  ·refine go ?_;intros
   have eo:((l.take (k+1)).filterMap (Pd c d))=((l.take k).filterMap (Pd c d))++[(⟨l[k].Ad,1,c+d,l[k].Du⟩:A4)]:=by rw [Fh hk];simp [Pd,h5,h6,h7]
   have es:((l.take (k+1)).filterMap (Mz c))=((l.take k).filterMap (Mz c)):=by rw [Fh hk];simp [Mz,h5,h6,h7]
   have el:((l.take (k+1)).filterMap (Pn c))=((l.take k).filterMap (Pn c)):=by rw [Fh hk];simp [Pn,h5,h6,h7]
   apply wO
   refine Lh (ys:=[(⟨l[k].Ad,1,c+d,l[k].Du⟩:A4)]) (Kw (⟨l[k].Ad,1,c+d,l[k].Du⟩:A4)) C0 fun a7 c7 F7=>?_
   refine go ?_;intros
   rw [←eo,←es,←el]
   refine Ct (⟨k+1,_,_,_,_,_,_,_,_,_⟩:TkS) (by show k+1≤l.length;omega) (by show l.length - (k+1) < l.length - k;omega)
 ·obtain rfl:k=l.length:=by omega
  rw [List.take_length]
  refine go ?_;intros
  refine ret ⟨0,_,_,_,_,_,_,_,_,_⟩ trivial rfl
theorem Aja (x:Bc) (v:Value) (F:List Nat) (hl:x.Aa.Ao.length≤1000000000) (hl2:x.Ap.length≤1000000000):Fn prog 75 [v] [.isv Cb v x F] [] (fun (_:Value × List Nat)=>True) (fun s=>s.1) (fun s=>[.own Bi s.1 x s.2]):=by
 refine enter func75 rfl ntmps75 fun w0=>?_
 refine Ic ?_
 rintro a1 c1 F1 a2 c2 F2 rfl l1 l2
 refine Cy x.Aa ?_
 generalize F1=F3
 refine go ?_;intros
 refine cf (Agt x.Aa _ F3 (by omega)) fun z _=>?_
 refine Ar ?_
 refine go ?_;intros
 refine cf (O3 x.Ap a2 c2 F2 hl2) fun q _=>?_
 refine Ar ?_
 refine go ?_;intros
 refine Jg x ?_
 refine ret (_,_) trivial rfl
theorem Arl (r:A4) (n:Int) (gb:Nat) (h0:Ca r.Ad=true) (h1:0≤n) (h2:n≤65535):Fn prog 206 [.agg #[.int .i64 r.Ad,.int .i64 r.H4,.int .i64 r.Cf,.int .i64 r.Du],Eu gb 0 0] [.cel gb 0 [.int .i64 n]] [] (fun (_:Unit)=>True) (fun _=>.bool (Oa r.Ad n)) (fun _=>[]):=by
 obtain ⟨n0,n1⟩:=Ba.1 h0
 refine enter func206 rfl ntmps206 fun w0=>?_
 refine go ?_;intros
 refine ce (fun w s=>K8 _ _ _ (by omega) (by omega) (by omega) (by omega)) ?_
 refine go ?_;intros
 refine ret () trivial rfl
theorem W0 (l:List A4) (n:Int) (a:Option Addr) (c:Nat) (F:List Nat) (hl:l.length≤1000000000) (hs:∀q∈l,Ca q.Ad=true) (h1:0≤n) (h2:n≤65535):Fn prog 144 [.slice a l.length c,.int .i64 n] [.sl Az (.slice a l.length c) l F] [] (fun (_:Option Addr × Nat × List Nat)=>True) (fun z=>.slice z.1 (Sy l n).length z.2.1) (fun z=>[.ow Az 166 (.slice z.1 (Sy l n).length z.2.1) (Sy l n) z.2.2]):=by
 refine enter func144 rfl ntmps144 fun w0=>?_
 refine go ?_;intros
 rename_i gb
 refine cf (O3 l a c F hl) fun q _=>?_
 refine Ar ?_
 refine Ab4 (cs:=[.int .i64 n]) ?_ (by simp)
 refine go ?_;intros
 refine cf (Acb 206 [] [Eu gb 0 0] [.cel gb 0 [.int .i64 n]] rfl l q.1 q.2.1 q.2.2 (fun z=>Oa z.Ad n) (by kernel_rfl) hl (fun z hz w hA=>(Arl z n gb (hs z hz) h1 h2).val w hA)) fun z _=>?_
 refine Ar ?_
 refine go ?_;intros
 refine ret (z.1,z.2.1,z.2.2) trivial rfl
theorem V2 (r:Bc) (d:Int):(Kc r d).length≤r.Ap.length:=List.length_filterMap_le _ _
theorem Zf (r:Bc):(Cp r).length≤r.Ap.length:=List.length_filterMap_le _ _
theorem Zc {r:Bc} {d:Int} (h:Cp r=[]):Cj r d=⟨r.Bg,r.Ai+1,r.Aa,Kc r d⟩:=if_pos h
theorem V0 {r:Bc} {d:Int} (h:Cp r≠[]):Cj r d=⟨r.Bg,r.Ai+1,Gf r.Aa (C5 (Cp r)),Sy (Kc r d) (Gf r.Aa (C5 (Cp r))).next⟩:=if_neg h
theorem Aeb {r:Bc} (h:Cp r=[]):Ev r=[]:=if_pos h
theorem Aa4 {r:Bc} (h:Cp r≠[]):Ev r=E6 r.Aa (C5 (Cp r)):=if_neg h
theorem Aao {l:List Int} (h:l≠[]):C5 l=Bn (l[l.length - 1]'(by have:=List.length_pos_iff.2 h;omega)) 1:=by
 unfold C5
 rw [List.getLastD_eq_getLast?,List.getLast?_eq_getElem?,List.getElem?_eq_getElem (by have:=List.length_pos_iff.2 h;omega)]
 rfl
theorem I5 {x:Am} (hg:Df x=true):x.Ao.length≤8∧∀s∈x.Ao,s.Ds.size≤8:=by
 have hg0:=hg
 unfold Df at hg
 simp only [Bool.and_eq_true,decide_eq_true_eq] at hg
 refine ⟨by have:=hg.1.1.2;omega,fun s hs=>?_⟩
 have:=List.all_eq_true.1 hg.1.2 s hs
 unfold I6 at this
 simp only [Bool.and_eq_true] at this
 exact Rs this.1
structure PkS where
 k:Nat
 a:Option Addr
 c:Nat
 F:List Nat
structure TkR where
 a1:Option Addr
 c1:Nat
 F1:List Nat
 a2:Option Addr
 c2:Nat
 F2:List Nat
 a3:Option Addr
 c3:Nat
 F3:List Nat
 a4:Option Addr
 c4:Nat
 F4:List Nat
theorem Al8 (r:Bc) (d:Int) (g t o:Nat) (A B:List Value) (a1:Option Addr) (c1:Nat) (F1:List Nat) (a2:Option Addr) (c2:Nat) (F2:List Nat) (hg:I9 r) (d0:0≤d) (d1:d≤100) :
  Fn prog 83 [Eu g o 0,.int .i64 d] [] [.row g t o A [.bool r.Bg,.int .i64 r.Ai,.int .i64 r.Aa.next,.slice a1 r.Aa.Ao.length c1,.slice a2 r.Ap.length c2] B,.ow Cg 198 (.slice a1 r.Aa.Ao.length c1) r.Aa.Ao F1,.ow Az 166 (.slice a2 r.Ap.length c2) r.Ap F2] (fun (_:TkR)=>True)
   (fun s=>.tuple #[.slice s.a3 (D9 r).length s.c3,.slice s.a4 (Ev r).length s.c4]) (fun s=>[.row g t o A [.bool (Cj r d).Bg,.int .i64 (Cj r d).Ai,.int .i64 (Cj r d).Aa.next,.slice s.a1 (Cj r d).Aa.Ao.length s.c1,.slice s.a2 (Cj r d).Ap.length s.c2] B,.ow Cg 198 (.slice s.a1 (Cj r d).Aa.Ao.length s.c1) (Cj r d).Aa.Ao s.F1,.ow Az 166 (.slice s.a2 (Cj r d).Ap.length s.c2) (Cj r d).Ap s.F2,.ow Al 108 (.slice s.a3 (D9 r).length s.c3) (D9 r) s.F3,.ow A9 9 (.slice s.a4 (Ev r).length s.c4) (Ev r) s.F4]):=by
 have k0:=hg.k0
 have k1:=hg.k1
 obtain ⟨-,q1,q2, -⟩:=Dr.1 hg.q
 obtain ⟨w0_,w1_⟩:=Gg hg.w
 obtain ⟨hw8,hit⟩:=I5 hg.w
 have hpl:(r.Ap.filterMap (Mz (r.Ai+1))).length≤8:=Nat.le_trans (List.length_filterMap_le _ _) q1
 refine enter func83 rfl ntmps83 fun w0=>?_
 refine go ?_;intros
 refine Ay (E:=Az) fun F9=>?_
 refine Aw [1] [] ?_
 refine dt 0 ?_
 refine dt 1 ?_
 refine dt 2 ?_
 refine dt 3 ?_
 refine dt 4 ?_
 refine dt 5 ?_
 refine dt 6 ?_
 refine dt 7 ?_
 refine dt 8 ?_
 refine dO 9 (by kernel_rfl) (by rw [List.getElem?_toArray];rfl) ?_
 apply At;rfl;kernel_rfl;exact Be
 refine cf (Zd r.Ap (r.Ai+1) d a2 c2 F9 (by omega) (fun q hq=>⟨(Ea.1 (q2 q hq)).t0,(Ea.1 (q2 q hq)).t1⟩) (by omega) (by omega) (by omega) (by omega)) fun z _=>?_
 refine Ar ?_
 rw [show r.Ap.filterMap (Pn (r.Ai+1))=Cp r from rfl,show r.Ap.filterMap (Pd (r.Ai+1) d)=Kc r d from rfl]
 refine dk ?_
 refine dt 10 ?_
 refine dt 11 ?_
 refine dt 12 ?_
 refine dt 13 ?_
 refine dt 14 ?_
 refine dt 15 ?_
 refine dt 16 ?_
 refine dd ?_
 refine Ay (E:=Bd) (xs:=r.Ap.filterMap (Mz (r.Ai+1))) fun G2=>?_
 refine Ay (E:=Bd) (xs:=Cp r) fun G3=>?_
 refine Bx Al 108 ?_
 refine go ?_;intros
 refine Ck [0,4,5,6,9,44,45] (fun s:PkS=>[(46,.int .i64 (s.k:Nat)),(10,.slice s.a (((r.Ap.filterMap (Mz (r.Ai+1))).take s.k).map (Zu r.Aa.next)).length s.c)]) (fun s=>[.ow Al 108 (.slice s.a (((r.Ap.filterMap (Mz (r.Ai+1))).take s.k).map (Zu r.Aa.next)).length s.c) (((r.Ap.filterMap (Mz (r.Ai+1))).take s.k).map (Zu r.Aa.next)) s.F]) (fun s=>s.k≤(r.Ap.filterMap (Mz (r.Ai+1))).length) (fun s=>(r.Ap.filterMap (Mz (r.Ai+1))).length - s.k) ⟨0,_,_,_⟩ (Nat.zero_le _) fun s hs=>?_
 obtain ⟨k,a4,c4,F4⟩:=s
 dsimp only at hs ⊢
 generalize hsn:r.Ap.filterMap (Mz (r.Ai+1))=sn at *
 refine go ?_;intros
 refine Bf rfl (fun h4=>?_) (fun h4=>?_)
 ·have hk:k < sn.length:=by omega
  have hkl:((sn.take k).map (Zu r.Aa.next)).length≤k:=by simp;omega
  refine Je (xs:=sn) k ?_
  rintro hi b o2 e
  rw [e]
  refine go ?_;intros
  have eo:(sn.take (k+1)).map (Zu r.Aa.next)=(sn.take k).map (Zu r.Aa.next)++[Zu r.Aa.next sn[k]]:=by rw [List.take_add_one,List.getElem?_eq_getElem hk,List.map_append];rfl
  apply wO
  refine Lh (ys:=[Zu r.Aa.next sn[k]]) (C4 (Zu r.Aa.next sn[k]) (by show (0:Nat)≤maxLen;exact Nat.zero_le _)) Gz fun a7 c7 F7=>?_
  refine go ?_;intros
  rw [←eo]
  refine Ct (⟨k+1,_,_,_⟩:PkS) (by show k+1≤sn.length;omega) (by show sn.length - (k+1) < sn.length - k;omega)
 have hk:k=sn.length:=by omega
 subst hk
 rw [List.take_length]
 have ep:D9 r=sn.map (Zu r.Aa.next):=by unfold D9;rw [hsn]
 rw [ep]
 refine go ?_;intros
 by_cases hL:Cp r=[]
 ·refine Bf rfl (fun _=>?_) (fun h=>absurd (show ((Cp r).length:Int)=0 by rw [hL];rfl) h)
  rw [Zc hL,Aeb hL]
  refine Bx A9 9 ?_
  refine go ?_;intros
  refine ret ⟨_,_,_,_,_,_,_,_,_,_,_,_⟩ trivial rfl
 ·have hl0:=List.length_pos_iff.2 hL
  refine Bf rfl (fun h=>absurd h (by omega)) (fun _=>?_)
  rw [V0 hL,Aa4 hL]
  obtain ⟨hs8,hsr⟩:=Xf hg hL
  have hll8:=Zf r
  obtain ⟨hs0,hs1⟩:=Ba.1 hsr
  have hll:=Aao hL
  obtain ⟨l0,l1⟩:=Ba.1 (V1 hg (List.getElem_mem (show (Cp r).length - 1 < (Cp r).length by omega))).1
  have hi1:((Cp r).length:Int) - 1=(((Cp r).length - 1:Nat):Int):=by omega
  refine Je (xs:=Cp r) ((Cp r).length - 1) ?_
  rintro hi b o2 e
  rw [e]
  refine Agl [.bool r.Bg,.int .i64 (r.Ai+1)] [.int .i64 r.Aa.next,.slice a1 r.Aa.Ao.length c1] [.slice z.a (Kc r d).length z.c] ?_
  refine go ?_;intros
  refine Aw [1] [] ?_
  refine dt 0 ?_
  refine dt 1 ?_
  refine dt 2 ?_
  refine dt 3 ?_
  refine dt 4 ?_
  refine dt 5 ?_
  refine dt 6 ?_
  rw [hi1]
  refine dt 7 ?_
  refine dt 8 ?_
  refine dO 9 (by kernel_rfl) (by rw [List.getElem?_toArray];rfl) ?_
  apply At;rfl;kernel_rfl;exact Be
  refine ce (fun w s=>N3 _ _ _ (by omega) (by omega)) ?_
  rw [←hll]
  refine dk ?_
  refine dO 10 (by kernel_rfl) (by rw [List.getElem?_toArray];rfl) ?_
  apply At;rfl;kernel_rfl;exact Be
  refine cf (Ach r.Aa (C5 (Cp r)) g t (o+2) (A++[.bool r.Bg,.int .i64 (r.Ai+1)]) _ a1 c1 F1 w0_ w1_ hs0 hs1 hw8 hit) fun y hy=>?_
  refine Ar ?_
  refine dk ?_
  refine dt 11 ?_
  refine dd ?_
  obtain ⟨hy1,hy2⟩:=hy
  have hmv:=Ot (t:=C5 (Cp r)) hg.w
  have hm0:0≤y.y.next:=by rw [hy1];show 0≤(Gf r.Aa (C5 (Cp r))).next;rw [hmv.1];exact (Hj _ _).1
  have hm1:y.y.next≤65535:=by rw [hy1];show (Gf r.Aa (C5 (Cp r))).next≤65535;rw [hmv.1];exact (Hj _ _).2
  refine Y9 [.bool r.Bg,.int .i64 (r.Ai+1)] [.int .i64 y.y.next,.slice y.a y.y.Ao.length y.c] [.slice z.a (Kc r d).length z.c] ?_
  refine Ay (E:=Az) (xs:=Kc r d) fun F8=>?_
  refine go ?_;intros
  refine Aw [1] [13] ?_
  refine dt 0 ?_
  refine dt 1 ?_
  refine dt 2 ?_
  refine dt 3 ?_
  refine dt 4 ?_
  refine dt 5 ?_
  refine dt 6 ?_
  refine dt 7 ?_
  refine dt 8 ?_
  refine dt 9 ?_
  refine dO 10 (by kernel_rfl) (by rw [List.getElem?_toArray];rfl) ?_
  apply At;rfl;kernel_rfl;exact Be
  refine cf (W0 (Kc r d) y.y.next z.a z.c F8 (by have:=V2 r d;omega) (fun q hq=>(Uv hg hq).1) hm0 hm1) fun u _=>?_
  refine Ar ?_
  refine dk ?_
  refine dt 11 ?_
  refine dt 12 ?_
  refine dO 13 (by kernel_rfl) (by rw [List.getElem?_toArray];rfl) ?_
  apply Cu;rfl;rfl;rfl;(first|exact AggC.s|exact OneC.s);rfl;exact Cw;exact Cv;rfl
  refine Mg ?_
  refine dd ?_
  refine go ?_;intros
  rw [show Gf r.Aa (C5 (Cp r))=y.y from hy1.symm,show E6 r.Aa (C5 (Cp r))=y.es from hy2.symm]
  refine ret ⟨_,_,_,_,_,_,_,_,_,_,_,_⟩ trivial rfl
theorem Po (v:Value) (xs:List Int) (F:List Nat) (w:World) (h:Sl Bd w v xs F) (hm:xs.length≤4294967296) :
  Calls prog 25 #[v] w (U4 Bd 3 xs w):=by
 obtain ⟨ao,c,news,Fy,rfl,hl,hfy,hFy,hsrc⟩:=h.src
 have hFl:=hfy.lt
 have he:=fun w (a:Option Addr) (n c:Nat)=>Lib.run_eql_slice_nil (P:=prog) w 24 _ a n c 0 0 underlying24
 go_enter func25,ntmps25
 rcases hsrc with ⟨rfl,rfl,rfl⟩|⟨ad,rfl,hn⟩
 ·go_wp2
  go_ret
  exact ⟨.slice none 0 0,[],rfl,.inl ⟨rfl,rfl,rfl⟩,by simp,by simp,Below.refl _ _⟩
 ·go_wp2_with (at_builtin;refine Nb Db (by decide) (by rfl) _ _ _ (by rfl) 3 (.int .i64 0) 8 underlying24 Ac8 rfl (.slice (some ⟨w.heap.size,0,none⟩) 0 0) [] [w.heap.size] (by rfl) (Ow.empty (Hm.made _ _ _)) (Hd.one _) (some ad) xs c (by rfl) news Fy (hfy.frame fun b hb=>Below.heap_alloc _ _ _ (hFl b hb)) (.inr ⟨ad,rfl,fun j u hu=>kc ((Below.refl _ _).alloc (Nat.le_refl _) _) (hn j u hu)⟩) (fun b hb e=>by have:=hFl b hb;simp [Value.ownBlock] at e;omega) (by simpa using hl) (by unfold maxLen at hl;simp;omega) ?_)
  intro v2 w2 F2 hA
  go_wp2_with fail
  go_ret
  have hB:Below w.heap.size w w2:=((Below.refl _ _).alloc (Nat.le_refl _) _).trans (hA.Kj.below (by simp) (by simp))
  have hs:∀b,v2.ownBlock=some b→w.heap.size≤b:=fun b hb=>by rcases hA.Afd with e|e <;> rw [e] at hb <;> simp [Value.ownBlock] at hb <;> omega
  refine ⟨v2,F2,rfl,by simpa using hA.ow,hA.ow.scal Dl▸?_,fun b hb=>?_,hB⟩
  ·cases v2.ownBlock <;> simp
  ·rw [hA.ow.scal Dl] at hb;exact hs b (by simpa using hb)
theorem Xe (v:Value) (xs:List Int) (F:List Nat) (w:World) (h:Sl Bd w v xs F) (hm:xs.length≤4294967296) :
  Calls prog 28 #[v] w (U4 Bd 3 xs w):=by
 obtain ⟨ao,c,news,Fy,rfl,hl,hfy,hFy,hsrc⟩:=h.src
 have hFl:=hfy.lt
 have hsrc2:(ao=none∧c=0∧xs=[])∨∃ad,ao=some ad∧∀j u,news[j]?=some u→(w.alloc (.cells #[] 3)).cell? (ad.add j)=some u:=by
  rcases hsrc with h|⟨ad,h1,h2⟩
  ·exact .inl h
  ·exact .inr ⟨ad,h1,fun j u hu=>kc ((Below.refl _ _).alloc (Nat.le_refl _) _) (h2 j u hu)⟩
 go_enter func28,ntmps28
 go_wp2_with (at_builtin;refine Nb Db (by decide) (by rfl) _ _ _ (by rfl) 3 (.int .i64 0) 8 underlying24 Ac8 rfl (.slice (some ⟨w.heap.size,0,none⟩) 0 0) [] [w.heap.size] (by rfl) (Ow.empty (Hm.made _ _ _)) (Hd.one _) ao xs c (by rfl) news Fy (hfy.frame fun b hb=>Below.heap_alloc _ _ _ (hFl b hb)) hsrc2 (fun b hb e=>by have:=hFl b hb;simp [Value.ownBlock] at e;omega) (by simpa using hl) (by unfold maxLen at hl;simp;omega) ?_)
 intro v2 w2 F2 hA
 go_wp2_with fail
 go_ret
 have hB:Below w.heap.size w w2:=((Below.refl _ _).alloc (Nat.le_refl _) _).trans (hA.Kj.below (by simp) (by simp))
 have hs:∀b,v2.ownBlock=some b→w.heap.size≤b:=fun b hb=>by rcases hA.Afd with e|e <;> rw [e] at hb <;> simp [Value.ownBlock] at hb <;> omega
 refine ⟨v2,F2,rfl,by simpa using hA.ow,hA.ow.scal Dl▸?_,fun b hb=>?_,hB⟩
 ·cases v2.ownBlock <;> simp
 ·rw [hA.ow.scal Dl] at hb;exact hs b (by simpa using hb)
theorem Wt (v:Value) (e:Bt) (F:List Nat) (w:World) (h:O1 Bv w v e F) (hm:e.Ah.length≤4294967296) (hm2:∀x∈e.Ah,x.Bj.length≤4294967296) :
  Calls prog 74 #[v] w (Ajb Bm e w):=by
 obtain ⟨_,rfl,v1,rfl,h1⟩:=h
 obtain ⟨a,cap,rfl⟩:=h1.slice
 have hl:=h1.len
 unfold maxLen at hl
 have hB0:∀A B:Obj,Below w.heap.size w ((w.alloc A).alloc B):=fun A B=>((Below.refl _ _).alloc (Nat.le_refl _) _).alloc (by simp) _
 have hFl:=h1.lt (by decide)
 go_enter func74,ntmps74
 go_wp2_with fail
 refine (Ab9 _ e.Ah F _ (h1.below (by decide) (hB0 _ _)) hm).mono ?_
 rintro e' w1 ⟨v2,F2,rfl,ho,hd,hs,hF2,hb1⟩
 obtain ⟨a2,cap2,rfl⟩:=ho.slice
 have r0:=Hm.below (g:=w.heap.size) (t:=96) (cs:=[.int .i64 e.Ai,.slice a e.Ah.length cap]) (by simp [Jp] <;> omega) hb1
 have r1:=Hm.below (g:=w.heap.size+1) (t:=96) (cs:=[.int .i64 0,.slice none 0 0]) (by simp [Jp] <;> omega) hb1
 have hB:=tr (hB0 _ _) hb1 (Nat.le_refl _)
 have hm1:=Lib.hid (Zx.start (O:=D5) (R:=Dc) (B1:=w.heap.size) (B0:=w.heap.size+2) rfl ho (by simpa using hs) (fun b hb=>(hF2 b hb).imp id fun hb=>hFl b hb) hd)
 have c0:=r0.cells;have f0:=r0.frozens
 have f1:=r1.frozens;have c1:=r1.cells
 clear hb1 ho hs hd hF2
 go_wp2_with fail
 have R0:=r0.set 1 (.slice a2 e.Ah.length cap2)
 have R1:=r1.setOther (p:=⟨w.heap.size,1,none⟩) (by simp) (.slice a2 e.Ah.length cap2)
 have M1:=Lib.hid (hm1.out.setFar (p:=⟨w.heap.size,1,none⟩) (Nat.le_refl _) (by simp) (.slice a2 e.Ah.length cap2))
 clear hm1
 go_loopw [3,11] (fun _ i wr=>∃k:Nat,k≤e.Ah.length∧i=.int .i64 k∧Hid (Zx D5 Dc 139 w.heap.size (w.heap.size+2) wr (.slice a2 e.Ah.length cap2) e.Ah k)∧Hm wr w.heap.size 96 [.int .i64 e.Ai,.slice a2 e.Ah.length cap2]∧Hm wr (w.heap.size+1) 96 [.int .i64 0,.slice none 0 0]∧Below w.heap.size w wr) (fun _ i _=>e.Ah.length - (intOf i).toNat)
 case atStart=>exact ⟨0,Nat.zero_le _,rfl,M1,by simpa using R0,R1,hB.setCell (Nat.le_refl _) _⟩
 case round =>
  obtain ⟨k,hk,rfl,hM,hr,hr1,hB⟩:=hrel
  have c0:=hr.cells;have f0:=hr.frozens
  have hsz:=hr1.lt
  by_cases hlt:k < e.Ah.length
  ·obtain ⟨g,cap3,A,c,B,Fk,hv,hg,hrow,hA,hcl,hx, -,back⟩:=hM.out.at rfl hlt (by omega) (by omega)
   cases hv
   obtain ⟨u1,rfl,hf⟩:=id hx
   obtain ⟨fa,fc,rfl⟩:=hf.slice
   have a1:=hrow.cellMid (p:=k * 3+1) (j:=1) (by rw [hA];rfl) (by simp)
   simp only [List.getElem?_cons_zero,List.getElem?_cons_succ] at a1
   have hne:¬g=w.heap.size:=by omega
   have hne2:¬w.heap.size=g:=by omega
   have hbk:=Lib.hid back
   clear back
   have hfl:=hm2 e.Ah[k] (List.getElem_mem _)
   go_wp2_with fail
   go_region_law (first|(go_simp;go_at_call 25;refine (Po _ e.Ah[k].Bj Fk wr.drew (hf.frame fun _ _=>rfl) hfl).mono ?_;rintro e' w2 ⟨v3,F3,rfl,o3,n3,g3,hb2⟩;obtain ⟨d3,p3,rfl⟩:=o3.slice;have z3:=kc hb2 (show wr.drew.cell? ⟨w.heap.size,1,none⟩=some (.slice (some ⟨g,0,none⟩) e.Ah.length cap2) by simpa using c0 1);have z1:=kc hb2 (by simpa using a1);have zf:=((show Hm wr.drew g 139 _ from hrow).below hb2).frozens (k * 3+1)))
   all_goals
    have hr2:=((show Hm wr.drew w.heap.size 96 _ from hr).below hb2).setOther (p:=⟨g,k * 3+1,none⟩) hne (.slice d3 e.Ah[k].Bj.length p3)
    have hr3:=((show Hm wr.drew (w.heap.size+1) 96 _ from hr1).below hb2).setOther (p:=⟨g,k * 3+1,none⟩) (by simp;omega) (.slice d3 e.Ah[k].Bj.length p3)
    have hro:=((show Hm wr.drew g 139 _ from hrow).below hb2).setMid (p:=k * 3+1) (j:=1) (by rw [hA];rfl) (by simp) (.slice d3 e.Ah[k].Bj.length p3)
    have hg3:∀b∈F3,wr.heap.size≤b:=g3
    have hgs:=hrow.lt
    have hMk:=Lib.hid (hbk.out _ _ F3 hro ⟨_,rfl,o3.setFar (fun hm=>by have:=hg3 _ hm;simp at this;omega) _⟩ n3 hg3 (fun b hb hbg=>(Below.heap_setCell _ _ _ _ hbg).trans (hb2.block b hb)))
    have hB3:Below w.heap.size w (w2.setCell ⟨g,k * 3+1,none⟩ (.slice d3 e.Ah[k].Bj.length p3)):=(tr (Hk hB 1) hb2 (Nat.le_refl _)).setCell (by simp;omega) _
    go_wp2_with fail
    exact ⟨⟨k+1,by omega,by go_num,hMk,hr2,hr3,hB3⟩,by simp [intOf];omega⟩
  ·have hk:k=e.Ah.length:=by omega
   subst hk
   obtain ⟨F4,o4,n4,g4⟩:=hM.out.done
   have O4:=Lib.hid o4
   clear hM o4
   have d1:=hr1.cells;have fd:=hr1.frozens
   go_wp2_with fail
   refine bodyPost_ret (v:=.agg #[.int .i64 e.Ai,.slice a2 e.Ah.length cap2]) ?_ rfl ?_
   ·simp [results,results74,go_sem,c0,d1,fd]
   ·refine ⟨_,F4,rfl,⟨_,rfl,_,rfl,?_⟩,n4,fun b hb=>by have:=g4 b hb;omega,?_⟩
    ·repeat refine Ow.setFar ?_ (fun hm=>by have:=g4 _ hm;simp at this <;> omega) _
     exact O4.out
    ·repeat refine Below.setCell ?_ (by simp <;> omega) _
     exact hB
section
variable {c:Cx} {fr:Fr} {H:List Pc} {Φ:Gl}
theorem Hf {v:Value} {x:Eg} {F:List Nat} (h:∀(a1:Option Addr) (c1:Nat) (F1:List Nat) (a2:Option Addr) (c2:Nat) (F2:List Nat) (a3:Option Addr) (c3:Nat) (F3:List Nat) (a4:Option Addr) (c4:Nat) (F4:List Nat) (a5:Option Addr) (c5:Nat) (F5:List Nat) (a6:Option Addr) (c6:Nat) (F6:List Nat) (a7:Option Addr) (c7:Nat) (F7:List Nat),v=.agg #[.slice a1 x.An.Ac.length c1,.int .i64 x.Ab.Aa.Ak,.int .i64 x.Ab.Aa.size,.slice a2 x.Ab.Aa.Aj.length c2,.int .i64 x.Ab.Ai,.int .i64 x.Ab.quiet,.slice a3 x.Ab.holds.length c3,.slice a4 x.Af.length c4,.slice a5 x.Ae.length c5,.slice a6 x.down.length c6,.slice a7 x.up.length c7]→x.An.Ac.length≤maxLen→x.Ab.Aa.Aj.length≤maxLen→x.Ab.holds.length≤maxLen→x.Af.length≤maxLen→x.Ae.length≤maxLen→x.down.length≤maxLen→x.up.length≤maxLen→T c fr (.sl Bd (.slice a1 x.An.Ac.length c1) x.An.Ac F1::.sl A9 (.slice a2 x.Ab.Aa.Aj.length c2) x.Ab.Aa.Aj F2::.sl Bh (.slice a3 x.Ab.holds.length c3) x.Ab.holds F3::.sl Bv (.slice a4 x.Af.length c4) x.Af F4::.sl Cb (.slice a5 x.Ae.length c5) x.Ae F5::.sl (Ly Al (by decide)) (.slice a6 x.down.length c6) x.down F6::.sl (Ly Al (by decide)) (.slice a7 x.up.length c7) x.up F7::H) Φ) (hm:.isv Pp v x F∈H:=by exact B8):T c fr H Φ:=.mk fun a w s g=>by
 obtain ⟨cs,rfl,v1,v2,v3,v4,v5,v6,v7,G1,G2,G3,G4,G5,G6,G7,rfl,h1,h2,h3,h4,h5,h6,h7,rfl⟩:=s.get hm
 obtain ⟨a1,c1,rfl⟩:=h1.slice;have l1:=h1.len
 obtain ⟨a2,c2,rfl⟩:=h2.slice;have l2:=h2.len
 obtain ⟨a3,c3,rfl⟩:=h3.slice;have l3:=h3.len
 obtain ⟨a4,c4,rfl⟩:=h4.slice;have l4:=h4.len
 obtain ⟨a5,c5,rfl⟩:=h5.slice;have l5:=h5.len
 obtain ⟨a6,c6,rfl⟩:=h6.slice;have l6:=h6.len
 obtain ⟨a7,c7,rfl⟩:=h7.slice;have l7:=h7.len
 have t7:=s.ro (p:=.sl (Ly Al (by decide)) (.slice a7 x.up.length c7) x.up G7) hm rfl rfl ⟨by decide,h7⟩ (by intro b hb;simp only [Pc.F] at hb ⊢;simp [hb])
 have t6:=t7.ro (p:=.sl (Ly Al (by decide)) (.slice a6 x.down.length c6) x.down G6) (List.mem_cons_of_mem _ hm) rfl rfl ⟨by decide,h6⟩ (by intro b hb;simp only [Pc.F] at hb ⊢;simp [hb])
 have t5:=t6.ro (p:=.sl Cb (.slice a5 x.Ae.length c5) x.Ae G5) (List.mem_cons_of_mem _ (List.mem_cons_of_mem _ hm)) rfl rfl ⟨by decide,h5⟩ (by intro b hb;simp only [Pc.F] at hb ⊢;simp [hb])
 have t4:=t5.ro (p:=.sl Bv (.slice a4 x.Af.length c4) x.Af G4) (List.mem_cons_of_mem _ (List.mem_cons_of_mem _ (List.mem_cons_of_mem _ hm))) rfl rfl ⟨by decide,h4⟩ (by intro b hb;simp only [Pc.F] at hb ⊢;simp [hb])
 have t3:=t4.ro (p:=.sl Bh (.slice a3 x.Ab.holds.length c3) x.Ab.holds G3) (List.mem_cons_of_mem _ (List.mem_cons_of_mem _ (List.mem_cons_of_mem _ (List.mem_cons_of_mem _ hm)))) rfl rfl ⟨by decide,h3⟩ (by intro b hb;simp only [Pc.F] at hb ⊢;simp [hb])
 have t2:=t3.ro (p:=.sl A9 (.slice a2 x.Ab.Aa.Aj.length c2) x.Ab.Aa.Aj G2) (List.mem_cons_of_mem _ (List.mem_cons_of_mem _ (List.mem_cons_of_mem _ (List.mem_cons_of_mem _ (List.mem_cons_of_mem _ hm))))) rfl rfl ⟨by decide,h2⟩ (by intro b hb;simp only [Pc.F] at hb ⊢;simp [hb])
 have t1:=t2.ro (p:=.sl Bd (.slice a1 x.An.Ac.length c1) x.An.Ac G1) (List.mem_cons_of_mem _ (List.mem_cons_of_mem _ (List.mem_cons_of_mem _ (List.mem_cons_of_mem _ (List.mem_cons_of_mem _ (List.mem_cons_of_mem _ hm)))))) rfl rfl ⟨by decide,h1⟩ (by intro b hb;simp only [Pc.F] at hb ⊢;simp [hb])
 exact (h a1 c1 G1 a2 c2 G2 a3 c3 G3 a4 c4 G4 a5 c5 G5 a6 c6 G6 a7 c7 G7 rfl  l1 l2 l3 l4 l5 l6 l7).h a w t1 g
theorem Jf (x:Eg) {a1:Option Addr} {c1:Nat} {F1:List Nat} {a2:Option Addr} {c2:Nat} {F2:List Nat} {a3:Option Addr} {c3:Nat} {F3:List Nat} {a4:Option Addr} {c4:Nat} {F4:List Nat} {a5:Option Addr} {c5:Nat} {F5:List Nat} {a6:Option Addr} {c6:Nat} {F6:List Nat} {a7:Option Addr} {c7:Nat} {F7:List Nat}  (h:T c fr (.isv Pp (.agg #[.slice a1 x.An.Ac.length c1,.int .i64 x.Ab.Aa.Ak,.int .i64 x.Ab.Aa.size,.slice a2 x.Ab.Aa.Aj.length c2,.int .i64 x.Ab.Ai,.int .i64 x.Ab.quiet,.slice a3 x.Ab.holds.length c3,.slice a4 x.Af.length c4,.slice a5 x.Ae.length c5,.slice a6 x.down.length c6,.slice a7 x.up.length c7]) x (F1++F2++F3++F4++F5++F6++F7)::H) Φ) (m1:.sl Bd (.slice a1 x.An.Ac.length c1) x.An.Ac F1∈H:=by exact B8) (m2:.sl A9 (.slice a2 x.Ab.Aa.Aj.length c2) x.Ab.Aa.Aj F2∈H:=by exact B8) (m3:.sl Bh (.slice a3 x.Ab.holds.length c3) x.Ab.holds F3∈H:=by exact B8) (m4:.sl Bv (.slice a4 x.Af.length c4) x.Af F4∈H:=by exact B8) (m5:.sl Cb (.slice a5 x.Ae.length c5) x.Ae F5∈H:=by exact B8) (m6:.sl (Ly Al (by decide)) (.slice a6 x.down.length c6) x.down F6∈H:=by exact B8) (m7:.sl (Ly Al (by decide)) (.slice a7 x.up.length c7) x.up F7∈H:=by exact B8):T c fr H Φ:=.mk fun a w s g=>by
 have hP:O1 Pp w (.agg #[.slice a1 x.An.Ac.length c1,.int .i64 x.Ab.Aa.Ak,.int .i64 x.Ab.Aa.size,.slice a2 x.Ab.Aa.Aj.length c2,.int .i64 x.Ab.Ai,.int .i64 x.Ab.quiet,.slice a3 x.Ab.holds.length c3,.slice a4 x.Af.length c4,.slice a5 x.Ae.length c5,.slice a6 x.down.length c6,.slice a7 x.up.length c7]) x (F1++F2++F3++F4++F5++F6++F7):=⟨_,rfl,_,_,_,_,_,_,_,_,_,_,_,_,_,_,rfl,(s.get m1).2,(s.get m2).2,(s.get m3).2,(s.get m4).2,(s.get m5).2,(s.get m6).2,(s.get m7).2,rfl⟩
 refine h.h a w (s.add (N:=[.isv Pp (.agg #[.slice a1 x.An.Ac.length c1,.int .i64 x.Ab.Aa.Ak,.int .i64 x.Ab.Aa.size,.slice a2 x.Ab.Aa.Aj.length c2,.int .i64 x.Ab.Ai,.int .i64 x.Ab.quiet,.slice a3 x.Ab.holds.length c3,.slice a4 x.Af.length c4,.slice a5 x.Ae.length c5,.slice a6 x.down.length c6,.slice a7 x.up.length c7]) x (F1++F2++F3++F4++F5++F6++F7)]) (Below.refl _ _) (by intro q hq;obtain rfl:=List.mem_singleton.1 hq;exact hP) ⟨by simp,trivial⟩ fun q hq b hb=>?_) g
 obtain rfl:=List.mem_singleton.1 hq
 simp only [Pc.F,List.mem_append] at hb
 rcases hb with (((((hb|hb)|hb)|hb)|hb)|hb)|hb
 ·exact .inr ⟨rfl,_,m1,rfl,hb⟩
 ·exact .inr ⟨rfl,_,m2,rfl,hb⟩
 ·exact .inr ⟨rfl,_,m3,rfl,hb⟩
 ·exact .inr ⟨rfl,_,m4,rfl,hb⟩
 ·exact .inr ⟨rfl,_,m5,rfl,hb⟩
 ·exact .inr ⟨rfl,_,m6,rfl,hb⟩
 ·exact .inr ⟨rfl,_,m7,rfl,hb⟩
theorem L4 (x:Eg) {a1:Option Addr} {c1:Nat} {F1:List Nat} {a2:Option Addr} {c2:Nat} {F2:List Nat} {a3:Option Addr} {c3:Nat} {F3:List Nat} {a4:Option Addr} {c4:Nat} {F4:List Nat} {a5:Option Addr} {c5:Nat} {F5:List Nat} {a6:Option Addr} {c6:Nat} {F6:List Nat} {a7:Option Addr} {c7:Nat} {F7:List Nat} {S1 S2 S3 S4 S5 S6 S7:List Pc}  (h:T c fr (.own Aek (.agg #[.slice a1 x.An.Ac.length c1,.int .i64 x.Ab.Aa.Ak,.int .i64 x.Ab.Aa.size,.slice a2 x.Ab.Aa.Aj.length c2,.int .i64 x.Ab.Ai,.int .i64 x.Ab.quiet,.slice a3 x.Ab.holds.length c3,.slice a4 x.Af.length c4,.slice a5 x.Ae.length c5,.slice a6 x.down.length c6,.slice a7 x.up.length c7]) x (F1++F2++F3++F4++F5++F6++F7)::S7) Φ) (m1:C1 H (.ow Bd 3 (.slice a1 x.An.Ac.length c1) x.An.Ac F1) S1:=by exact Dy) (m2:C1 S1 (.ow A9 9 (.slice a2 x.Ab.Aa.Aj.length c2) x.Ab.Aa.Aj F2) S2:=by exact Dy) (m3:C1 S2 (.ow Bh 137 (.slice a3 x.Ab.holds.length c3) x.Ab.holds F3) S3:=by exact Dy) (m4:C1 S3 (.ow Bm 96 (.slice a4 x.Af.length c4) x.Af F4) S4:=by exact Dy) (m5:C1 S4 (.ow Bi 55 (.slice a5 x.Ae.length c5) x.Ae F5) S5:=by exact Dy) (m6:C1 S5 (.ow (Gt Al 108) 99 (.slice a6 x.down.length c6) x.down F6) S6:=by exact Dy) (m7:C1 S6 (.ow (Gt Al 108) 99 (.slice a7 x.up.length c7) x.up F7) S7:=by exact Dy)  : T c fr H Φ:=.mk fun a w s g=>by
 have z1:St c.G c.D c.w0 ([.ow Bd 3 (.slice a1 x.An.Ac.length c1) x.An.Ac F1,.ow A9 9 (.slice a2 x.Ab.Aa.Aj.length c2) x.Ab.Aa.Aj F2,.ow Bh 137 (.slice a3 x.Ab.holds.length c3) x.Ab.holds F3,.ow Bm 96 (.slice a4 x.Af.length c4) x.Af F4,.ow Bi 55 (.slice a5 x.Ae.length c5) x.Ae F5,.ow (Gt Al 108) 99 (.slice a6 x.down.length c6) x.down F6,.ow (Gt Al 108) 99 (.slice a7 x.up.length c7) x.up F7]++S7) w:=by simpa using (show Ew H [.ow Bd 3 (.slice a1 x.An.Ac.length c1) x.An.Ac F1,.ow A9 9 (.slice a2 x.Ab.Aa.Aj.length c2) x.Ab.Aa.Aj F2,.ow Bh 137 (.slice a3 x.Ab.holds.length c3) x.Ab.holds F3,.ow Bm 96 (.slice a4 x.Af.length c4) x.Af F4,.ow Bi 55 (.slice a5 x.Ae.length c5) x.Ae F5,.ow (Gt Al 108) 99 (.slice a6 x.down.length c6) x.down F6,.ow (Gt Al 108) 99 (.slice a7 x.up.length c7) x.up F7] S7 from Ew.cons m1 (Ew.cons m2 (Ew.cons m3 (Ew.cons m4 (Ew.cons m5 (Ew.cons m6 (Ew.cons m7 (Ew.nil)))))))).st (X:=[]) (by simpa using s)
 obtain ⟨n1,k1⟩:=z1.on (.ow Bd 3 (.slice a1 x.An.Ac.length c1) x.An.Ac F1) (by simp)
 obtain ⟨n2,k2⟩:=z1.on (.ow A9 9 (.slice a2 x.Ab.Aa.Aj.length c2) x.Ab.Aa.Aj F2) (by simp)
 obtain ⟨n3,k3⟩:=z1.on (.ow Bh 137 (.slice a3 x.Ab.holds.length c3) x.Ab.holds F3) (by simp)
 obtain ⟨n4,k4⟩:=z1.on (.ow Bm 96 (.slice a4 x.Af.length c4) x.Af F4) (by simp)
 obtain ⟨n5,k5⟩:=z1.on (.ow Bi 55 (.slice a5 x.Ae.length c5) x.Ae F5) (by simp)
 obtain ⟨n6,k6⟩:=z1.on (.ow (Gt Al 108) 99 (.slice a6 x.down.length c6) x.down F6) (by simp)
 obtain ⟨n7,k7⟩:=z1.on (.ow (Gt Al 108) 99 (.slice a7 x.up.length c7) x.up F7) (by simp)
 have hsp:=z1.Y2
 have p1_2:∀b∈F1,b ∉ F2:=hsp.1 (.ow A9 9 (.slice a2 x.Ab.Aa.Aj.length c2) x.Ab.Aa.Aj F2) (by simp) rfl
 have p1_3:∀b∈F1,b ∉ F3:=hsp.1 (.ow Bh 137 (.slice a3 x.Ab.holds.length c3) x.Ab.holds F3) (by simp) rfl
 have p1_4:∀b∈F1,b ∉ F4:=hsp.1 (.ow Bm 96 (.slice a4 x.Af.length c4) x.Af F4) (by simp) rfl
 have p1_5:∀b∈F1,b ∉ F5:=hsp.1 (.ow Bi 55 (.slice a5 x.Ae.length c5) x.Ae F5) (by simp) rfl
 have p1_6:∀b∈F1,b ∉ F6:=hsp.1 (.ow (Gt Al 108) 99 (.slice a6 x.down.length c6) x.down F6) (by simp) rfl
 have p1_7:∀b∈F1,b ∉ F7:=hsp.1 (.ow (Gt Al 108) 99 (.slice a7 x.up.length c7) x.up F7) (by simp) rfl
 have p2_3:∀b∈F2,b ∉ F3:=hsp.2.1 (.ow Bh 137 (.slice a3 x.Ab.holds.length c3) x.Ab.holds F3) (by simp) rfl
 have p2_4:∀b∈F2,b ∉ F4:=hsp.2.1 (.ow Bm 96 (.slice a4 x.Af.length c4) x.Af F4) (by simp) rfl
 have p2_5:∀b∈F2,b ∉ F5:=hsp.2.1 (.ow Bi 55 (.slice a5 x.Ae.length c5) x.Ae F5) (by simp) rfl
 have p2_6:∀b∈F2,b ∉ F6:=hsp.2.1 (.ow (Gt Al 108) 99 (.slice a6 x.down.length c6) x.down F6) (by simp) rfl
 have p2_7:∀b∈F2,b ∉ F7:=hsp.2.1 (.ow (Gt Al 108) 99 (.slice a7 x.up.length c7) x.up F7) (by simp) rfl
 have p3_4:∀b∈F3,b ∉ F4:=hsp.2.2.1 (.ow Bm 96 (.slice a4 x.Af.length c4) x.Af F4) (by simp) rfl
 have p3_5:∀b∈F3,b ∉ F5:=hsp.2.2.1 (.ow Bi 55 (.slice a5 x.Ae.length c5) x.Ae F5) (by simp) rfl
 have p3_6:∀b∈F3,b ∉ F6:=hsp.2.2.1 (.ow (Gt Al 108) 99 (.slice a6 x.down.length c6) x.down F6) (by simp) rfl
 have p3_7:∀b∈F3,b ∉ F7:=hsp.2.2.1 (.ow (Gt Al 108) 99 (.slice a7 x.up.length c7) x.up F7) (by simp) rfl
 have p4_5:∀b∈F4,b ∉ F5:=hsp.2.2.2.1 (.ow Bi 55 (.slice a5 x.Ae.length c5) x.Ae F5) (by simp) rfl
 have p4_6:∀b∈F4,b ∉ F6:=hsp.2.2.2.1 (.ow (Gt Al 108) 99 (.slice a6 x.down.length c6) x.down F6) (by simp) rfl
 have p4_7:∀b∈F4,b ∉ F7:=hsp.2.2.2.1 (.ow (Gt Al 108) 99 (.slice a7 x.up.length c7) x.up F7) (by simp) rfl
 have p5_6:∀b∈F5,b ∉ F6:=hsp.2.2.2.2.1 (.ow (Gt Al 108) 99 (.slice a6 x.down.length c6) x.down F6) (by simp) rfl
 have p5_7:∀b∈F5,b ∉ F7:=hsp.2.2.2.2.1 (.ow (Gt Al 108) 99 (.slice a7 x.up.length c7) x.up F7) (by simp) rfl
 have p6_7:∀b∈F6,b ∉ F7:=hsp.2.2.2.2.2.1 (.ow (Gt Al 108) 99 (.slice a7 x.up.length c7) x.up F7) (by simp) rfl
 have hN:(F1++F2++F3++F4++F5++F6++F7).Nodup:=by
  simp only [List.nodup_append,List.mem_append]
  grind
 refine h.h a w (St.turn (M:=[.ow Bd 3 (.slice a1 x.An.Ac.length c1) x.An.Ac F1,.ow A9 9 (.slice a2 x.Ab.Aa.Aj.length c2) x.Ab.Aa.Aj F2,.ow Bh 137 (.slice a3 x.Ab.holds.length c3) x.Ab.holds F3,.ow Bm 96 (.slice a4 x.Af.length c4) x.Af F4,.ow Bi 55 (.slice a5 x.Ae.length c5) x.Ae F5,.ow (Gt Al 108) 99 (.slice a6 x.down.length c6) x.down F6,.ow (Gt Al 108) 99 (.slice a7 x.up.length c7) x.up F7]) (N:=[.own Aek (.agg #[.slice a1 x.An.Ac.length c1,.int .i64 x.Ab.Aa.Ak,.int .i64 x.Ab.Aa.size,.slice a2 x.Ab.Aa.Aj.length c2,.int .i64 x.Ab.Ai,.int .i64 x.Ab.quiet,.slice a3 x.Ab.holds.length c3,.slice a4 x.Af.length c4,.slice a5 x.Ae.length c5,.slice a6 x.down.length c6,.slice a7 x.up.length c7]) x (F1++F2++F3++F4++F5++F6++F7)]) z1 (Dt.refl _ w) (by intro q hq;obtain rfl:=List.mem_singleton.1 hq;exact ⟨hN,_,rfl,_,_,_,_,_,_,_,_,_,_,_,_,_,_,rfl,k1,k2,k3,k4,k5,k6,k7,rfl⟩) ⟨by simp,trivial⟩ fun q hq b hb=>?_) g
 obtain rfl:=List.mem_singleton.1 hq
 simp only [Pc.F,List.mem_append] at hb
 rcases hb with (((((hb|hb)|hb)|hb)|hb)|hb)|hb
 ·exact .inr (.inl ⟨.ow Bd 3 (.slice a1 x.An.Ac.length c1) x.An.Ac F1,by simp,rfl,hb⟩)
 ·exact .inr (.inl ⟨.ow A9 9 (.slice a2 x.Ab.Aa.Aj.length c2) x.Ab.Aa.Aj F2,by simp,rfl,hb⟩)
 ·exact .inr (.inl ⟨.ow Bh 137 (.slice a3 x.Ab.holds.length c3) x.Ab.holds F3,by simp,rfl,hb⟩)
 ·exact .inr (.inl ⟨.ow Bm 96 (.slice a4 x.Af.length c4) x.Af F4,by simp,rfl,hb⟩)
 ·exact .inr (.inl ⟨.ow Bi 55 (.slice a5 x.Ae.length c5) x.Ae F5,by simp,rfl,hb⟩)
 ·exact .inr (.inl ⟨.ow (Gt Al 108) 99 (.slice a6 x.down.length c6) x.down F6,by simp,rfl,hb⟩)
 ·exact .inr (.inl ⟨.ow (Gt Al 108) 99 (.slice a7 x.up.length c7) x.up F7,by simp,rfl,hb⟩)
end
section
variable {c:Cx} {fr:Fr} {H:List Pc} {Φ:Gl}
theorem Er {v:Value} {x:Bt} {F:List Nat} (h:∀(a1:Option Addr) (c1:Nat) (F1:List Nat),v=.agg #[.int .i64 x.Ai,.slice a1 x.Ah.length c1]→x.Ah.length≤maxLen→T c fr (.sl Dc (.slice a1 x.Ah.length c1) x.Ah F1::H) Φ) (hm:.isv Bv v x F∈H:=by exact B8):T c fr H Φ:=.mk fun a w s g=>by
 obtain ⟨cs,rfl,v1,rfl,h1⟩:=s.get hm
 obtain ⟨a1,c1,rfl⟩:=h1.slice;have l1:=h1.len
 have t1:=s.ro (p:=.sl Dc (.slice a1 x.Ah.length c1) x.Ah F) hm rfl rfl ⟨by decide,h1⟩ fun b hb=>hb
 exact (h a1 c1 F rfl  l1).h a w t1 g
theorem Ho (x:Bt) {a1:Option Addr} {c1:Nat} {F1:List Nat}  (h:T c fr (.isv Bv (.agg #[.int .i64 x.Ai,.slice a1 x.Ah.length c1]) x (F1)::H) Φ) (m1:.sl Dc (.slice a1 x.Ah.length c1) x.Ah F1∈H:=by exact B8):T c fr H Φ:=.mk fun a w s g=>by
 have hP:O1 Bv w (.agg #[.int .i64 x.Ai,.slice a1 x.Ah.length c1]) x (F1):=⟨_,rfl,_,rfl,(s.get m1).2⟩
 refine h.h a w (s.add (N:=[.isv Bv (.agg #[.int .i64 x.Ai,.slice a1 x.Ah.length c1]) x (F1)]) (Below.refl _ _) (by intro q hq;simp at hq;subst hq;exact hP) ⟨by simp,trivial⟩ fun q hq b hb=>?_) g
 simp at hq;subst hq
 simp only [Pc.F,List.mem_append] at hb
 exact .inr ⟨rfl,_,m1,rfl,hb⟩
theorem Gh {v:Value} {x:Bt} {F:List Nat} {S:List Pc} (h:∀(a1:Option Addr) (c1:Nat) (F1:List Nat),v=.agg #[.int .i64 x.Ai,.slice a1 x.Ah.length c1]→x.Ah.length≤maxLen→T c fr (.ow D5 139 (.slice a1 x.Ah.length c1) x.Ah F1::S) Φ) (hp:C1 H (.own Bm v x F) S:=by exact Dy):T c fr H Φ:=.mk fun a w s g=>by
 have z1:=s.pick hp
 obtain ⟨hn,cs,rfl,v1,rfl,h1⟩:=z1.on (.own Bm v x F) (by simp)
 obtain ⟨a1,c1,rfl⟩:=h1.slice;have l1:=h1.len
 refine (h a1 c1 F rfl  l1).h a w (St.turn (M:=[.own Bm (.agg #[.int .i64 x.Ai,.slice a1 x.Ah.length c1]) x _]) (N:=[.ow D5 139 (.slice a1 x.Ah.length c1) x.Ah F]) z1 (Dt.refl _ w) ?_ ?_ ?_) g
 ·intro q hq;simp at hq;subst hq;exact ⟨hn,h1⟩
 ·exact ⟨by simp,trivial⟩
 ·intro q hq b hb;simp at hq;subst hq;exact .inr (.inl ⟨_,List.mem_singleton.2 rfl,rfl,hb⟩)
theorem E5 (x:Bt) {a1:Option Addr} {c1:Nat} {F1:List Nat} {S1:List Pc}  (h:T c fr (.own Bm (.agg #[.int .i64 x.Ai,.slice a1 x.Ah.length c1]) x (F1)::S1) Φ) (m1:C1 H (.ow D5 139 (.slice a1 x.Ah.length c1) x.Ah F1) S1:=by exact Dy)  : T c fr H Φ:=.mk fun a w s g=>by
 have z1:St c.G c.D c.w0 ([.ow D5 139 (.slice a1 x.Ah.length c1) x.Ah F1]++S1) w:=by simpa using (show Ew H [.ow D5 139 (.slice a1 x.Ah.length c1) x.Ah F1] S1 from Ew.cons m1 (Ew.nil)).st (X:=[]) (by simpa using s)
 obtain ⟨n1,k1⟩:=z1.on (.ow D5 139 (.slice a1 x.Ah.length c1) x.Ah F1) (by simp)
 have hN:=n1
 refine h.h a w (St.turn (M:=[.ow D5 139 (.slice a1 x.Ah.length c1) x.Ah F1]) (N:=[.own Bm (.agg #[.int .i64 x.Ai,.slice a1 x.Ah.length c1]) x (F1)]) z1 (Dt.refl _ w) (by intro q hq;simp at hq;subst hq;exact ⟨hN,_,rfl,_,rfl,k1⟩) ⟨by simp,trivial⟩ fun q hq b hb=>?_) g
 simp at hq;subst hq
 simp only [Pc.F,List.mem_append] at hb
 exact .inr (.inl ⟨_,List.mem_singleton.2 rfl,rfl,hb⟩)
theorem U5 {a:Option Addr} {n cp:Nat} {xs:List Bt} {F:List Nat} (i:Nat) (h:∀(hi:i < xs.length) (b o:Nat) (a1:Option Addr) (c1:Nat) (F1:List Nat),a=some ⟨b,o,none⟩→xs[i].Ah.length≤maxLen→T c fr (.cel b (o+i * 2) [.int .i64 xs[i].Ai,.slice a1 xs[i].Ah.length c1]::.sl Dc (.slice a1 xs[i].Ah.length c1) xs[i].Ah F1::H) Φ) (hm:.sl Bv (.slice a n cp) xs F∈H:=by exact B8) (hi:i < xs.length:=by omega):T c fr H Φ:=.mk fun ac w s g=>by
 obtain ⟨b,o,cs,G,ha,hrep,hG,hb,hne,hr⟩:=Rz (s.get hm) i hi
 obtain ⟨v1,rfl,h1⟩:=hrep
 obtain ⟨a1,c1,rfl⟩:=h1.slice;have l1:=h1.len
 have t1:=s.ro (p:=.sl Dc (.slice a1 xs[i].Ah.length c1) xs[i].Ah G) hm rfl rfl ⟨by decide,h1⟩ (by intro b hb;simp only [Pc.F] at hb ⊢;exact hG b (by simp [hb]))
 exact (h hi b o a1 c1 G ha  l1).h ac w (t1.ro (List.mem_cons_of_mem _ hm) rfl rfl ⟨hne,hr⟩ (by intro x hx;simp [Pc.F] at hx;subst hx;exact hb)) g
end
section
variable {c:Cx} {fr:Fr} {H:List Pc} {Φ:Gl}
theorem No {v:Value} {x:Mu} {F:List Nat} (h:∀(a1:Option Addr) (c1:Nat) (F1:List Nat),v=.agg #[.slice a1 x.Ac.length c1]→x.Ac.length≤maxLen→T c fr (.sl Bd (.slice a1 x.Ac.length c1) x.Ac F1::H) Φ) (hm:.isv O5 v x F∈H:=by exact B8):T c fr H Φ:=.mk fun a w s g=>by
 obtain ⟨cs,rfl,v1,rfl,h1⟩:=s.get hm
 obtain ⟨a1,c1,rfl⟩:=h1.slice;have l1:=h1.len
 have t1:=s.ro (p:=.sl Bd (.slice a1 x.Ac.length c1) x.Ac F) hm rfl rfl ⟨by decide,h1⟩ fun b hb=>hb
 exact (h a1 c1 F rfl  l1).h a w t1 g
theorem M3 (x:Mu) {a1:Option Addr} {c1:Nat} {F1:List Nat}  (h:T c fr (.isv O5 (.agg #[.slice a1 x.Ac.length c1]) x (F1)::H) Φ) (m1:.sl Bd (.slice a1 x.Ac.length c1) x.Ac F1∈H:=by exact B8):T c fr H Φ:=.mk fun a w s g=>by
 have hP:O1 O5 w (.agg #[.slice a1 x.Ac.length c1]) x (F1):=⟨_,rfl,_,rfl,(s.get m1).2⟩
 refine h.h a w (s.add (N:=[.isv O5 (.agg #[.slice a1 x.Ac.length c1]) x (F1)]) (Below.refl _ _) (by intro q hq;simp at hq;subst hq;exact hP) ⟨by simp,trivial⟩ fun q hq b hb=>?_) g
 simp at hq;subst hq
 simp only [Pc.F,List.mem_append] at hb
 exact .inr ⟨rfl,_,m1,rfl,hb⟩
end
structure Ajc (n:Eg):Prop where
 t:n.An.Ac.length≤1000000
 i:n.Ab.Aa.Aj.length≤1000000
 h:n.Ab.holds.length≤1000000
 e:n.Af.length≤1000000
 e1:∀x∈n.Af,x.Ah.length≤1000000
 e2:∀x∈n.Af,∀y∈x.Ah,y.Bj.length≤1000000
 rl:n.Ae.length≤1000000
 r:∀x∈n.Ae,x.Aa.Ao.length≤1000000∧x.Ap.length≤1000000
 d:n.down.length≤1000000
 dq:∀q∈n.down,q.length≤1000000
 u:n.up.length≤1000000
 uq:∀q∈n.up,q.length≤1000000
structure ClN where
 g:Nat
 a1:Option Addr
 c1:Nat
 F1:List Nat
 a2:Option Addr
 c2:Nat
 F2:List Nat
 a3:Option Addr
 c3:Nat
 F3:List Nat
 g6:Nat
 F6:List Nat
 g7:Nat
 F7:List Nat
structure NV where
 a1:Option Addr
 c1:Nat
 F1:List Nat
 a2:Option Addr
 c2:Nat
 F2:List Nat
 a3:Option Addr
 c3:Nat
 F3:List Nat
 a4:Option Addr
 c4:Nat
 F4:List Nat
 a5:Option Addr
 c5:Nat
 F5:List Nat
 a6:Option Addr
 c6:Nat
 F6:List Nat
 a7:Option Addr
 c7:Nat
 F7:List Nat
structure KA where
 k:Nat
 a:Option Addr
 c:Nat
 F:List Nat
theorem Ace (n:Eg) (v:Value) (F:List Nat) (hs:Ajc n):Fn prog 35 [v] [.isv Pp v n F] [] (fun (_:NV)=>True) (fun z=>.agg #[.slice z.a1 n.An.Ac.length z.c1,.int .i64 n.Ab.Aa.Ak,.int .i64 n.Ab.Aa.size,.slice z.a2 n.Ab.Aa.Aj.length z.c2,.int .i64 n.Ab.Ai,.int .i64 n.Ab.quiet,.slice z.a3 n.Ab.holds.length z.c3,.slice z.a4 n.Af.length z.c4,.slice z.a5 n.Ae.length z.c5,.slice z.a6 n.down.length z.c6,.slice z.a7 n.up.length z.c7]) (fun z=>[.ow Bd 3 (.slice z.a1 n.An.Ac.length z.c1) n.An.Ac z.F1,.ow A9 9 (.slice z.a2 n.Ab.Aa.Aj.length z.c2) n.Ab.Aa.Aj z.F2,.ow Bh 137 (.slice z.a3 n.Ab.holds.length z.c3) n.Ab.holds z.F3,.ow Bm 96 (.slice z.a4 n.Af.length z.c4) n.Af z.F4,.ow Bi 55 (.slice z.a5 n.Ae.length z.c5) n.Ae z.F5,.ow (Gt Al 108) 99 (.slice z.a6 n.down.length z.c6) n.down z.F6,.ow (Gt Al 108) 99 (.slice z.a7 n.up.length z.c7) n.up z.F7]):=by
 refine enter func35 rfl ntmps35 fun w0=>?_
 refine Hf ?_
 rintro a1 c1 F1 a2 c2 F2 a3 c3 F3 a4 c4 F4 a5 c5 F5 a6 c6 F6 a7 c7 F7 rfl l1 l2 l3 l4 l5 l6 l7
 refine D7 n.Ab ?_
 refine go ?_;intros
 refine Gc [1,2] [0,1,6,7] (fun z:ClN=>[(3,Eu z.g 0 0)]) (fun z=>[.row z.g 39 0 [] [.slice z.a1 n.An.Ac.length z.c1,.int .i64 n.Ab.Aa.Ak,.int .i64 n.Ab.Aa.size,.slice z.a2 n.Ab.Aa.Aj.length z.c2,.int .i64 n.Ab.Ai,.int .i64 n.Ab.quiet,.slice z.a3 n.Ab.holds.length z.c3,.slice none 0 0,.slice none 0 0,.slice (some ⟨z.g6,0,none⟩) n.down.length n.down.length,.slice (some ⟨z.g7,0,none⟩) n.up.length n.up.length] [],.ow Bd 3 (.slice z.a1 n.An.Ac.length z.c1) n.An.Ac z.F1,.ow A9 9 (.slice z.a2 n.Ab.Aa.Aj.length z.c2) n.Ab.Aa.Aj z.F2,.ow Bh 137 (.slice z.a3 n.Ab.holds.length z.c3) n.Ab.holds z.F3,.ow (Gt Al 108) 99 (.slice (some ⟨z.g6,0,none⟩) n.down.length n.down.length) n.down z.F6,.ow (Gt Al 108) 99 (.slice (some ⟨z.g7,0,none⟩) n.up.length n.up.length) n.up z.F7]) (fun _=>True) ?_ fun z _=>?_
 ·refine Aw [1] [] ?_
  refine dt 0 ?_
  refine dt 1 ?_
  refine dt 2 ?_
  refine dt 5 ?_
  refine dt 6 ?_
  refine dt 8 ?_
  refine dt 9 ?_
  refine dt 11 ?_
  refine dt 12 ?_
  refine Ob 3 15 (by kernel_rfl) (by rw [List.getElem?_toArray];rfl) (by rw [List.getElem?_toArray];rfl) ?_ ?_
  ·apply At;rfl;kernel_rfl;exact Be
   refine cn (fun w st=>Po _ n.An.Ac F1 w (st.get (p:=.sl Bd (.slice a1 n.An.Ac.length c1) n.An.Ac F1) (by exact B8)).2 (by have:=hs.t;omega)) fun b1 d1 G1=>?_
   refine dk ?_
   refine dt 4 ?_
   refine Ob 7 15 (by kernel_rfl) (by rw [List.getElem?_toArray];rfl) (by rw [List.getElem?_toArray];rfl) ?_ ?_
   ·apply At;rfl;kernel_rfl;exact Be
    refine cf (Xw n.Ab _ _ (by have:=hs.i;omega) (by have:=hs.h;omega)) fun s2 _=>?_
    refine Ar ?_
    refine Rw (x:=n.Ab) ?_
    rintro b2 d2 G2 b3 d3 G3 e2 - -
    rw [e2]
    refine dk ?_
    refine Ob 10 15 (by kernel_rfl) (by rw [List.getElem?_toArray];rfl) (by rw [List.getElem?_toArray];rfl) ?_ ?_
    ·apply At;rfl;kernel_rfl;exact Be
     refine cf (Hn n.down _ _ F6 (by have:=hs.d;omega) (fun q hq=>by have:=hs.dq q hq;omega)) fun s6 _=>?_
     refine Ar ?_
     refine dk ?_
     refine Ob 13 15 (by kernel_rfl) (by rw [List.getElem?_toArray];rfl) (by rw [List.getElem?_toArray];rfl) ?_ ?_
     ·apply At;rfl;kernel_rfl;exact Be
      refine cf (Hn n.up _ _ F7 (by have:=hs.u;omega) (fun q hq=>by have:=hs.uq q hq;omega)) fun s7 _=>?_
      refine Ar ?_
      refine dk ?_
      refine dt 14 ?_
      refine dO 15 (by kernel_rfl) (by rw [List.getElem?_toArray];rfl) ?_
      apply Co;rfl;intro _
      refine dk ?_
      refine dO 16 (by kernel_rfl) (by rw [List.getElem?_toArray];rfl) ?_
      apply Cu;rfl;rfl;rfl;(first|exact AggC.s|exact OneC.s);rfl;exact Cw;exact Cv;rfl
      refine dk ?_
      refine dd ?_
      refine Cm (⟨_,b1,d1,G1,b2,d2,G2,b3,d3,G3,_,_,_,_⟩:ClN) trivial
     ·apply Co;rfl;intro _
      refine dk ?_
      refine dO 13 (by kernel_rfl) (by rw [List.getElem?_toArray];rfl) ?_
      apply At;rfl;kernel_rfl;exact Be
      refine cf (Hn n.up _ _ F7 (by have:=hs.u;omega) (fun q hq=>by have:=hs.uq q hq;omega)) fun s7 _=>?_
      refine Ar ?_
      refine dk ?_
      refine dt 14 ?_
      refine dO 16 (by kernel_rfl) (by rw [List.getElem?_toArray];rfl) ?_
      apply Cu;rfl;rfl;rfl;(first|exact AggC.s|exact OneC.s);rfl;exact Cw;exact Cv;rfl
      refine dk ?_
      refine dd ?_
      refine Cm (⟨_,b1,d1,G1,b2,d2,G2,b3,d3,G3,_,_,_,_⟩:ClN) trivial
    ·apply Co;rfl;intro _
     refine dk ?_
     refine dO 10 (by kernel_rfl) (by rw [List.getElem?_toArray];rfl) ?_
     apply At;rfl;kernel_rfl;exact Be
     refine cf (Hn n.down _ _ F6 (by have:=hs.d;omega) (fun q hq=>by have:=hs.dq q hq;omega)) fun s6 _=>?_
     refine Ar ?_
     refine dk ?_
     refine dO 13 (by kernel_rfl) (by rw [List.getElem?_toArray];rfl) ?_
     apply At;rfl;kernel_rfl;exact Be
     refine cf (Hn n.up _ _ F7 (by have:=hs.u;omega) (fun q hq=>by have:=hs.uq q hq;omega)) fun s7 _=>?_
     refine Ar ?_
     refine dk ?_
     refine dt 14 ?_
     refine dO 16 (by kernel_rfl) (by rw [List.getElem?_toArray];rfl) ?_
     apply Cu;rfl;rfl;rfl;(first|exact AggC.s|exact OneC.s);rfl;exact Cw;exact Cv;rfl
     refine dk ?_
     refine dd ?_
     refine Cm (⟨_,b1,d1,G1,b2,d2,G2,b3,d3,G3,_,_,_,_⟩:ClN) trivial
   ·apply Co;rfl;intro _
    refine dk ?_
    refine dO 7 (by kernel_rfl) (by rw [List.getElem?_toArray];rfl) ?_
    apply At;rfl;kernel_rfl;exact Be
    refine cf (Xw n.Ab _ _ (by have:=hs.i;omega) (by have:=hs.h;omega)) fun s2 _=>?_
    refine Ar ?_
    refine Rw (x:=n.Ab) ?_
    rintro b2 d2 G2 b3 d3 G3 e2 - -
    rw [e2]
    refine dk ?_
    refine dO 10 (by kernel_rfl) (by rw [List.getElem?_toArray];rfl) ?_
    apply At;rfl;kernel_rfl;exact Be
    refine cf (Hn n.down _ _ F6 (by have:=hs.d;omega) (fun q hq=>by have:=hs.dq q hq;omega)) fun s6 _=>?_
    refine Ar ?_
    refine dk ?_
    refine dO 13 (by kernel_rfl) (by rw [List.getElem?_toArray];rfl) ?_
    apply At;rfl;kernel_rfl;exact Be
    refine cf (Hn n.up _ _ F7 (by have:=hs.u;omega) (fun q hq=>by have:=hs.uq q hq;omega)) fun s7 _=>?_
    refine Ar ?_
    refine dk ?_
    refine dt 14 ?_
    refine dO 16 (by kernel_rfl) (by rw [List.getElem?_toArray];rfl) ?_
    apply Cu;rfl;rfl;rfl;(first|exact AggC.s|exact OneC.s);rfl;exact Cw;exact Cv;rfl
    refine dk ?_
    refine dd ?_
    refine Cm (⟨_,b1,d1,G1,b2,d2,G2,b3,d3,G3,_,_,_,_⟩:ClN) trivial
  ·apply Co;rfl;intro _
   refine dk ?_
   refine dO 3 (by kernel_rfl) (by rw [List.getElem?_toArray];rfl) ?_
   apply At;rfl;kernel_rfl;exact Be
   refine cn (fun w st=>Po _ n.An.Ac F1 w (st.get (p:=.sl Bd (.slice a1 n.An.Ac.length c1) n.An.Ac F1) (by exact B8)).2 (by have:=hs.t;omega)) fun b1 d1 G1=>?_
   refine dk ?_
   refine dt 4 ?_
   refine dO 7 (by kernel_rfl) (by rw [List.getElem?_toArray];rfl) ?_
   apply At;rfl;kernel_rfl;exact Be
   refine cf (Xw n.Ab _ _ (by have:=hs.i;omega) (by have:=hs.h;omega)) fun s2 _=>?_
   refine Ar ?_
   refine Rw (x:=n.Ab) ?_
   rintro b2 d2 G2 b3 d3 G3 e2 - -
   rw [e2]
   refine dk ?_
   refine dO 10 (by kernel_rfl) (by rw [List.getElem?_toArray];rfl) ?_
   apply At;rfl;kernel_rfl;exact Be
   refine cf (Hn n.down _ _ F6 (by have:=hs.d;omega) (fun q hq=>by have:=hs.dq q hq;omega)) fun s6 _=>?_
   refine Ar ?_
   refine dk ?_
   refine dO 13 (by kernel_rfl) (by rw [List.getElem?_toArray];rfl) ?_
   apply At;rfl;kernel_rfl;exact Be
   refine cf (Hn n.up _ _ F7 (by have:=hs.u;omega) (fun q hq=>by have:=hs.uq q hq;omega)) fun s7 _=>?_
   refine Ar ?_
   refine dk ?_
   refine dt 14 ?_
   refine dO 16 (by kernel_rfl) (by rw [List.getElem?_toArray];rfl) ?_
   apply Cu;rfl;rfl;rfl;(first|exact AggC.s|exact OneC.s);rfl;exact Cw;exact Cv;rfl
   refine dk ?_
   refine dd ?_
   refine Cm (⟨_,b1,d1,G1,b2,d2,G2,b3,d3,G3,_,_,_,_⟩:ClN) trivial
 have he:=hs.e
 have hr:=hs.rl
 refine Bx Bm 96 ?_
 refine go ?_;intros
 refine Ck [1,2,3,24,25] (fun y:KA=>[(26,.int .i64 (y.k:Nat))]) (fun y=>[.row z.g 39 0 [] [.slice z.a1 n.An.Ac.length z.c1,.int .i64 n.Ab.Aa.Ak,.int .i64 n.Ab.Aa.size,.slice z.a2 n.Ab.Aa.Aj.length z.c2,.int .i64 n.Ab.Ai,.int .i64 n.Ab.quiet,.slice z.a3 n.Ab.holds.length z.c3,.slice y.a (n.Af.take y.k).length y.c,.slice none 0 0,.slice (some ⟨z.g6,0,none⟩) n.down.length n.down.length,.slice (some ⟨z.g7,0,none⟩) n.up.length n.up.length] [],.ow Bm 96 (.slice y.a (n.Af.take y.k).length y.c) (n.Af.take y.k) y.F]) (fun y=>y.k≤n.Af.length) (fun y=>n.Af.length - y.k) ⟨0,none,0,[]⟩ (Nat.zero_le _) fun y hy=>?_
 refine go ?_;intros
 refine Bf rfl (fun h1=>?_) (fun h1=>?_)
 ·have hk:y.k < n.Af.length:=by omega
  have htl:(n.Af.take y.k).length≤1000000:=by rw [List.length_take];omega
  refine U5 (xs:=n.Af) y.k ?_
  rintro hi4 b4 o4 a8 c8 F8 e4 l8
  rw [e4]
  refine Ho n.Af[y.k] ?_
  refine go ?_;intros
  refine Aw [0,4] [7] ?_
  refine dt 0 ?_
  refine dt 1 ?_
  refine dt 2 ?_
  refine dO 3 (by kernel_rfl) (by rw [List.getElem?_toArray];rfl) ?_
  apply At;rfl;kernel_rfl;exact Be
  refine cv (fun w st=>Wt _ n.Af[y.k] F8 w (st.get (p:=.isv Bv (.agg #[.int .i64 n.Af[y.k].Ai,.slice a8 n.Af[y.k].Ah.length c8]) n.Af[y.k] F8) (by exact B8)) (by have:=hs.e1 _ (List.getElem_mem hk);omega) (fun x hx=>by have:=hs.e2 _ (List.getElem_mem hk) x hx;omega)) fun v9 F9=>?_
  refine Gh (x:=n.Af[y.k]) ?_
  rintro a9 c9 F10 rfl l9
  refine E5 n.Af[y.k] ?_
  refine dk ?_
  refine dO 4 (by kernel_rfl) (by rw [List.getElem?_toArray];rfl) ?_
  apply Hh;rfl;rfl;rfl;rfl;exact Hb;exact Gp;intro _
  refine dk ?_
  refine dO 5 (by kernel_rfl) (by rw [List.getElem?_toArray];rfl) ?_
  refine Abb Qw n.Af[y.k] rfl fun a7 c7 F7=>?_
  refine dk ?_
  refine dt 6 ?_
  refine dO 7 (by kernel_rfl) (by rw [List.getElem?_toArray];rfl) ?_
  apply Cu;rfl;rfl;rfl;(first|exact AggC.s|exact OneC.s);rfl;exact Cw;exact Cv;rfl
  refine Mg ?_
  refine dd ?_
  rw [←List.take_succ_eq_append_getElem hk]
  refine go ?_;intros
  refine Ct ⟨y.k+1,a7,c7,F7⟩ hk (by show n.Af.length - (y.k+1) < n.Af.length - y.k;omega)
 rw [show n.Af.take y.k=n.Af from List.take_of_length_le (by omega)]
 obtain ⟨_,ea,ec,eF⟩:=y
 dsimp only
 refine Bx Bi 55 ?_
 refine go ?_;intros
 refine Ck [2,3,39,40] (fun y:KA=>[(41,.int .i64 (y.k:Nat))]) (fun y=>[.row z.g 39 0 [] [.slice z.a1 n.An.Ac.length z.c1,.int .i64 n.Ab.Aa.Ak,.int .i64 n.Ab.Aa.size,.slice z.a2 n.Ab.Aa.Aj.length z.c2,.int .i64 n.Ab.Ai,.int .i64 n.Ab.quiet,.slice z.a3 n.Ab.holds.length z.c3,.slice ea n.Af.length ec,.slice y.a (n.Ae.take y.k).length y.c,.slice (some ⟨z.g6,0,none⟩) n.down.length n.down.length,.slice (some ⟨z.g7,0,none⟩) n.up.length n.up.length] [],.ow Bi 55 (.slice y.a (n.Ae.take y.k).length y.c) (n.Ae.take y.k) y.F]) (fun y=>y.k≤n.Ae.length) (fun y=>n.Ae.length - y.k) ⟨0,none,0,[]⟩ (Nat.zero_le _) fun y hy=>?_
 refine go ?_;intros
 refine Bf rfl (fun h2=>?_) (fun h2=>?_)
 ·have hk:y.k < n.Ae.length:=by omega
  have htl:(n.Ae.take y.k).length≤1000000:=by rw [List.length_take];omega
  refine Qh (xs:=n.Ae) y.k ?_
  rintro hi5 b5 o5 a8 c8 F8 a9 c9 F9 e5 l8 l9
  rw [e5]
  refine Ga n.Ae[y.k] ?_
  refine go ?_;intros
  refine Aw [0,5] [7] ?_
  refine dt 0 ?_
  refine dt 1 ?_
  refine dt 2 ?_
  refine dO 3 (by kernel_rfl) (by rw [List.getElem?_toArray];rfl) ?_
  apply At;rfl;kernel_rfl;exact Be
  refine cf (Aja n.Ae[y.k] _ _ (by have:=(hs.r _ (List.getElem_mem hk)).1;omega) (by have:=(hs.r _ (List.getElem_mem hk)).2;omega)) fun s9 _=>?_
  refine Ar ?_
  refine Hp (x:=n.Ae[y.k]) ?_
  rintro a9 c9 G9 a10 c10 G10 e9 l9 l10
  rw [e9]
  refine Jg n.Ae[y.k] ?_
  refine dk ?_
  refine dO 4 (by kernel_rfl) (by rw [List.getElem?_toArray];rfl) ?_
  apply Hh;rfl;rfl;rfl;rfl;exact Hb;exact Gp;intro _
  refine dk ?_
  refine dO 5 (by kernel_rfl) (by rw [List.getElem?_toArray];rfl) ?_
  refine Abb Pk n.Ae[y.k] rfl fun a7 c7 F7=>?_
  refine dk ?_
  refine dt 6 ?_
  refine dO 7 (by kernel_rfl) (by rw [List.getElem?_toArray];rfl) ?_
  apply Cu;rfl;rfl;rfl;(first|exact AggC.s|exact OneC.s);rfl;exact Cw;exact Cv;rfl
  refine Mg ?_
  refine dd ?_
  rw [←List.take_succ_eq_append_getElem hk]
  refine go ?_;intros
  refine Ct ⟨y.k+1,a7,c7,F7⟩ hk (by show n.Ae.length - (y.k+1) < n.Ae.length - y.k;omega)
 rw [show n.Ae.take y.k=n.Ae from List.take_of_length_le (by omega)]
 refine go ?_;intros
 refine ret ⟨z.a1,z.c1,z.F1,z.a2,z.c2,z.F2,z.a3,z.c3,z.F3,ea,ec,eF,y.a,y.c,y.F,_,_,z.F6,_,_,z.F7⟩ trivial rfl
theorem Xc {v:Int} (h:0≤v):Lib.itoa v=Lib.decDigits v.natAbs:=by unfold Lib.itoa;rw [if_neg (by omega),show v.toNat=v.natAbs by omega]
theorem App (n:Int) (h0:0≤n) (h1:n≤999999) (w:World):Calls prog 216 #[.int .i64 n] w fun e w2=>e=.returned (.string (bz (Lib.itoa n)))∧Below w.heap.size w w2:=by
 have:=Are n.toNat (by omega) w
 rw [show ((n.toNat:Nat):Int)=n by omega,show n.toNat=n.natAbs by omega,←Xc h0] at this
 exact this
theorem Z6 (i:Nat) (hi:i≤100):Fn prog 84 [.int .i64 (i:Nat)] [] [] (fun (_:Unit)=>True) (fun _=>.int .i64 (Ke i)) (fun _=>[]):=by
 refine enter func84 rfl ntmps84 fun w0=>?_
 refine go ?_;intros
 refine ret () trivial rfl
theorem Qq (i:Nat) (hi:i≤100):Fn prog 157 [.int .i64 (i:Nat)] [] [] (fun (_:Unit)=>True) (fun _=>.int .i64 (Ke i)) (fun _=>[]):=by
 refine enter func157 rfl ntmps157 fun w0=>?_
 refine go ?_;intros
 refine ret () trivial rfl
theorem Alq (i:Nat) (es:List ByteArray) (a:Option Addr) (c:Nat) (F FT:List Nat) (hi:i≤100) (hl:es.length≤1000000) (hz:∀e∈es,e.size≤1000000):Fn prog 86 [.int .i64 (i:Nat),.slice a es.length c] [.sl A9 (.slice a es.length c) es F,Mt FT] [] (fun (_:KA)=>True) (fun z=>.slice z.a (Ny i es).length z.c) (fun z=>[.ow A9 9 (.slice z.a (Ny i es).length z.c) (Ny i es) z.F]):=by
 have hs0:(bz (Lib.itoa ((i:Nat):Int))).size≤6:=by rw [W8,Xc (by omega)];exact Sf 5 _ (by have:(10:Nat) ^ (5+1)=1000000:=rfl;omega)
 refine enter func86 rfl ntmps86 fun w0=>?_
 refine Bx A9 9 ?_
 refine go ?_;intros
 refine Ck [0,4,8,9] (fun z:KA=>[(5,.slice z.a ((es.take z.k).map (Ja i)).length z.c),(10,.int .i64 (z.k:Nat))]) (fun z=>[.ow A9 9 (.slice z.a ((es.take z.k).map (Ja i)).length z.c) ((es.take z.k).map (Ja i)) z.F]) (fun z=>z.k≤es.length) (fun z=>es.length - z.k) ⟨0,none,0,[]⟩ (Nat.zero_le _) fun z hz0=>?_
 have hml:((es.take z.k).map (Ja i)).length=z.k:=by rw [List.length_map,List.length_take];omega
 refine go ?_;intros
 refine Bf rfl (fun h1=>?_) (fun h1=>?_)
 ·have hk:z.k < es.length:=by omega
  have hse:=hz _ (List.getElem_mem hk)
  have z1:(⟨#[32]⟩:ByteArray).size=1:=rfl
  have zs:(bz (Lib.itoa ((i:Nat):Int))++⟨#[32]⟩).size=_:=ByteArray.size_append
  have zt:(bz (Lib.itoa ((i:Nat):Int))++⟨#[32]⟩++es[z.k]).size=_:=ByteArray.size_append
  have hst:((es.take z.k).map (Ja i))++[Ja i es[z.k]]=(es.take (z.k+1)).map (Ja i):=by rw [List.take_succ_eq_append_getElem hk,List.map_append];rfl
  have hte:(Ja i es[z.k]).size≤1000010:=by unfold Ja;omega
  refine Tg (xs:=es) z.k ?_
  rintro hi b o e1 s1
  rw [e1]
  refine go ?_;intros
  refine cb (fun w st=>Apm ((i:Nat):Int) (by omega) (by omega) FT w (st.get (p:=Mt FT) (by exact B8))) ?_
  refine Kx ?_;intros
  apply wO
  refine Lh (ys:=[Ja i es[z.k]]) (Yv (by unfold maxLen;omega)) Dh fun a9 c9 F9=>?_
  rw [hst]
  refine go ?_;intros
  refine Ct ⟨z.k+1,a9,c9,F9⟩ hk (by show es.length - (z.k+1) < es.length - z.k;omega)
 ·rw [show es.take z.k=es from List.take_of_length_le (by omega)]
  refine go ?_;intros
  refine ret z trivial rfl
theorem Aan (i:Nat) (es:List ByteArray) (a:Option Addr) (c:Nat) (F FT:List Nat) (hi:i≤100) (hl:es.length≤1000000) (hz:∀e∈es,e.size≤1000000):Fn prog 158 [.int .i64 (i:Nat),.slice a es.length c] [.sl A9 (.slice a es.length c) es F,Mt FT] [] (fun (_:KA)=>True) (fun z=>.slice z.a (Ny i es).length z.c) (fun z=>[.ow A9 9 (.slice z.a (Ny i es).length z.c) (Ny i es) z.F]):=by
 have hs0:(bz (Lib.itoa ((i:Nat):Int))).size≤6:=by rw [W8,Xc (by omega)];exact Sf 5 _ (by have:(10:Nat) ^ (5+1)=1000000:=rfl;omega)
 refine enter func158 rfl ntmps158 fun w0=>?_
 refine go ?_;intros
 refine C6 A9 ?_
 refine Ck [0,1,4] (fun z:KA=>[(5,.slice z.a ((es.take z.k).map (Ja i)).length z.c),(6,.int .i64 (z.k:Nat))]) (fun z=>[.ow A9 9 (.slice z.a ((es.take z.k).map (Ja i)).length z.c) ((es.take z.k).map (Ja i)) z.F]) (fun z=>z.k≤es.length) (fun z=>es.length - z.k) ⟨0,_,0,_⟩ (Nat.zero_le _) fun z hz0=>?_
 have hml:((es.take z.k).map (Ja i)).length=z.k:=by rw [List.length_map,List.length_take];omega
 refine go ?_;intros
 refine Bf rfl (fun h1=>?_) (fun h1=>?_)
 ·have hk:z.k < es.length:=by omega
  have hse:=hz _ (List.getElem_mem hk)
  have z1:(⟨#[32]⟩:ByteArray).size=1:=rfl
  have zs:(bz (Lib.itoa ((i:Nat):Int))++⟨#[32]⟩).size=_:=ByteArray.size_append
  have zt:(bz (Lib.itoa ((i:Nat):Int))++⟨#[32]⟩++es[z.k]).size=_:=ByteArray.size_append
  have hst:((es.take z.k).map (Ja i))++[Ja i es[z.k]]=(es.take (z.k+1)).map (Ja i):=by rw [List.take_succ_eq_append_getElem hk,List.map_append];rfl
  have hte:(Ja i es[z.k]).size≤1000010:=by unfold Ja;omega
  refine Tg (xs:=es) z.k ?_
  rintro hi b o e1 s1
  rw [e1]
  refine go ?_;intros
  refine Aw [0] [] ?_
  refine dt 0 ?_
  refine dt 1 ?_
  refine dt 4 ?_
  refine dt 5 ?_
  refine dt 6 ?_
  refine dt 7 ?_
  refine dO 2 (by kernel_rfl) (by rw [List.getElem?_toArray];rfl) ?_
  apply At;rfl;kernel_rfl;exact Be
  refine cb (fun w st=>App ((i:Nat):Int) (by omega) (by omega) w) ?_
  refine dk ?_
  refine dt 3 ?_
  refine dt 8 ?_
  refine dO 9 (by kernel_rfl) (by rw [List.getElem?_toArray];rfl) ?_
  apply Hh;rfl;rfl;rfl;rfl;exact Hb;exact Gp;intro _
  refine dk ?_
  refine dO 10 (by kernel_rfl) (by rw [List.getElem?_toArray];rfl) ?_
  refine Lh (ys:=[Ja i es[z.k]]) (Yv (by unfold maxLen;omega)) Dh fun a9 c9 F9=>?_
  refine dk ?_
  refine dt 11 ?_
  refine dd ?_
  rw [hst]
  refine go ?_;intros
  refine Ct ⟨z.k+1,a9,c9,F9⟩ hk (by show es.length - (z.k+1) < es.length - z.k;omega)
 ·rw [show es.take z.k=es from List.take_of_length_le (by omega)]
  refine go ?_;intros
  refine ret z trivial rfl
end Go.Proofs.YtbmlecejkacpnaaGreatDoor
namespace Go.Proofs.YtbmlecejkacpnaaGreatDoor

theorem R8 {α:Type} {p:α→Bool}:∀{xs:List α} {k:Nat},k≤xs.length→(∀j (_:j < k) (h:j < xs.length),p xs[j]=true)→(∀h:k < xs.length,p xs[k]=false)→(xs.takeWhile p).length=k
 | [],k,hk,_,_=>by simp at hk;simp [hk]
 | x::r,0,_,_,h2=>by have:=h2 (by simp);simp at this;simp [this]
 | x::r,k+1,hk,h1,h2=>by
  have hx:p x=true:=h1 0 (by omega) (by simp)
  rw [List.takeWhile_cons_of_pos hx,List.length_cons,R8 (xs:=r) (k:=k) (by simpa using hk) (fun j hj h=>by have:=h1 (j+1) (by omega) (by simpa using h);simpa using this) (fun h=>by have:=h2 (by simpa using h);simpa using this)]
theorem Ng {α:Type} {p:α→Bool}:∀{xs:List α},(xs.takeWhile p).length≤xs.length∧(∀j (_:j < (xs.takeWhile p).length) (h:j < xs.length),p xs[j]=true)∧∀h:(xs.takeWhile p).length < xs.length,p xs[(xs.takeWhile p).length]=false
 | []=>by simp
 | x::r=>by
  cases hx:p x
  ·rw [List.takeWhile_cons_of_neg (by simp [hx])];simp [hx]
  ·rw [List.takeWhile_cons_of_pos hx]
   obtain ⟨h1,h2,h3⟩:=Ng (p:=p) (xs:=r)
   refine ⟨by simpa using h1,fun j hj h=>?_,fun h=>?_⟩
   ·cases j with
    | zero=>simpa using hx
    | succ j=>simpa using h2 j (by simpa using hj) (by simpa using h)
   ·simpa using h3 (by simpa using h)
def Amu {α:Type} (f:α→Int):Option α→Bool
 | some x=>decide (f x=0)
 | none=>false
end Go.Proofs.YtbmlecejkacpnaaGreatDoor
namespace Go.Proofs.YtbmlecejkacpnaaGreatDoor
open Go.RowKit
theorem Aok {t a b:Int} (ha:Ca a=true) (hb:Ca b=true) (h:gp t a=gp t b):a=b:=by
 obtain ⟨a0,a1⟩:=Ba.1 ha
 obtain ⟨b0,b1⟩:=Ba.1 hb
 unfold gp at h;omega
def Dv (base:Int) (l:List A4) (n:Int):Nat:=(l.takeWhile fun r=>decide (gp base r.Ad < gp base n)).length
def J3 (base:Int) (l:List A4) (n:Int):Bool:=match l[Dv base l n]? with|some r=>decide (r.Ad=n)|none=>false
def Arb (n u:Int):A4:=⟨n,1,u,0⟩
def Rg (base:Int) (l:List A4) (n u:Int):List A4:=l.take (Dv base l n)++Arb n u::l.drop (Dv base l n)
def Ph (base:Int) (l:List A4) (n u:Int):List A4:=if J3 base l n || !decide (gp base n < 8) then l else Rg base l n u
def Nj (base:Int) (l:List A4) (n u:Int):List A4:=match l[Dv base l n]? with|some r=>if r.Ad=n then l.set (Dv base l n) ⟨n,3,u,r.Du⟩ else l|none=>l
theorem Oj (base:Int) (l:List A4) (n:Int):Dv base l n≤l.length:=Ng.1
theorem Pq {base:Int} {l:List A4} {n:Int} (h:Dv base l n < l.length):J3 base l n=decide (l[Dv base l n].Ad=n):=by unfold J3;rw [List.getElem?_eq_getElem h]
theorem Z0 {base:Int} {l:List A4} {n:Int} (h:¬Dv base l n < l.length):J3 base l n=false:=by unfold J3;rw [List.getElem?_eq_none (by omega)]
theorem Pr {base:Int} {l:List A4} {n:Int} (h:J3 base l n=true):Dv base l n < l.length:=by
 by_cases h2:Dv base l n < l.length
 ·exact h2
 ·rw [Z0 h2] at h;cases h
theorem Ro {base:Int} {l:List A4} {n u:Int} (h:J3 base l n=false):Nj base l n u=l:=by
 unfold Nj
 unfold J3 at h
 cases hq:l[Dv base l n]? with
 | none=>rfl
 | some r=>rw [hq] at h;dsimp only at h ⊢;rw [if_neg (by simpa using h)]
theorem Ps {base:Int} {l:List A4} {n u:Int} (h:J3 base l n=true):Nj base l n u=l.set (Dv base l n) ⟨n,3,u,(l[Dv base l n]'(Pr h)).Du⟩:=by
 have h2:=Pr h
 rw [Pq h2] at h
 unfold Nj
 rw [List.getElem?_eq_getElem h2]
 dsimp only
 rw [if_pos (by simpa using h)]
theorem Z4 (base:Int) (l:List A4) (n u:Int):(Nj base l n u).length=l.length:=by
 cases h:J3 base l n
 ·rw [Ro h]
 ·rw [Ps h,List.length_set]
theorem Ao6 {base n:Int} {l:List A4} (hq:Kq l base=true) (hn:Ca n=true) (h:J3 base l n=false):∀r∈l,gp base r.Ad≠gp base n:=by
 obtain ⟨-, -,h3,h4⟩:=Dr.1 hq
 obtain ⟨t1,t2,t3⟩:=Ng (p:=fun r:A4=>decide (gp base r.Ad < gp base n)) (xs:=l)
 intro r hr e
 obtain ⟨i,hi,rfl⟩:=List.getElem_of_mem hr
 have e2:=Aok (Ea.1 (h3 _ hr)).n hn e
 have hk:Dv base l n=i:=R8 (by omega) (fun j hj h=>by
  have:=List.pairwise_iff_getElem.1 h4 j i h hi hj
  simp only [decide_eq_true_eq];omega) (fun h=>by simp only [decide_eq_false_iff_not];omega)
 rw [Pq (by omega)] at h
 simp only [hk] at h
 simp [e2] at h
theorem Apv {base:Int} {l:List A4} (hp:l.Pairwise fun a b=>gp base a.Ad < gp base b.Ad) (h8:∀q∈l,gp base q.Ad < 8):l.length≤8:=by
 have key:∀i (h:i < l.length),(i:Int)≤gp base l[i].Ad:=by
  intro i
  induction i with
  | zero=>intro h;exact (In _ _).1
  | succ i ih =>
   intro h
   have a:=ih (by omega)
   have b:=List.pairwise_iff_getElem.1 hp i (i+1) (by omega) h (by omega)
   omega
 by_cases h:l.length≤8
 ·exact h
 ·have a:=key 8 (by omega)
  have b:=h8 _ (List.getElem_mem (show 8 < l.length by omega))
  omega
theorem Aj1 (base:Int) (l:List A4) (n u:Int):(Rg base l n u).length=l.length+1:=by
 have:=Oj base l n
 unfold Rg
 rw [List.length_append,List.length_cons,List.length_take,List.length_drop];omega
theorem Aaf {base n u:Int} {l:List A4} (hq:Kq l base=true) (hn:Ca n=true) (h8:gp base n < 8) (u0:0≤u) (u1:u≤10007) (h:J3 base l n=false):Kq (Rg base l n u) base=true:=by
 have hne:=Ao6 hq hn h
 obtain ⟨h1,h2,h3,h4⟩:=Dr.1 hq
 obtain ⟨t1,t2,t3⟩:=Ng (p:=fun r:A4=>decide (gp base r.Ad < gp base n)) (xs:=l)
 have hle:=Oj base l n
 have hok:∀r∈Rg base l n u,P7 base r=true:=by
  intro r hr
  unfold Rg at hr
  rcases List.mem_append.1 hr with h|h
  ·exact h3 r (List.mem_of_mem_take h)
  ·rcases List.mem_cons.1 h with rfl|h
   ·exact Ea.2 ⟨hn,h8,by show (1:Int)≤1;decide,by show (1:Int)≤3;decide,u0,u1,by show (0:Int)≤0;decide,by show (0:Int)≤3;decide⟩
   ·exact h3 r (List.mem_of_mem_drop h)
 have hpw:(Rg base l n u).Pairwise fun a b=>gp base a.Ad < gp base b.Ad:=by
  unfold Rg
  rw [List.pairwise_append]
  refine ⟨h4.sublist (List.take_sublist _ _),?_,?_⟩
  ·rw [List.pairwise_cons]
   refine ⟨fun b hb=>?_,h4.sublist (List.drop_sublist _ _)⟩
   obtain ⟨j,hj,rfl⟩:=List.getElem_of_mem hb
   rw [List.getElem_drop]
   rw [List.length_drop] at hj
   have hk:Dv base l n < l.length:=by omega
   have h0:=t3 hk
   simp only [decide_eq_false_iff_not,Int.not_lt] at h0
   have h00:gp base n≤gp base (l[Dv base l n]'hk).Ad:=h0
   have hd:=hne _ (List.getElem_mem hk)
   show gp base n < _
   rcases Nat.eq_zero_or_pos j with e|e
   ·subst e;simp only [Nat.add_zero];omega
   ·have h5:=List.pairwise_iff_getElem.1 h4 (Dv base l n) (Dv base l n+j) hk (by omega) (by omega)
    omega
  ·intro a ha b hb
   obtain ⟨i,hi,rfl⟩:=List.getElem_of_mem ha
   rw [List.length_take] at hi
   rw [List.getElem_take]
   have ha2:=t2 i (by show i < Dv base l n;omega) (by omega)
   simp only [decide_eq_true_eq] at ha2
   rcases List.mem_cons.1 hb with rfl|hb
   ·exact ha2
   ·obtain ⟨j,hj,rfl⟩:=List.getElem_of_mem hb
    rw [List.getElem_drop]
    rw [List.length_drop] at hj
    exact List.pairwise_iff_getElem.1 h4 i (Dv base l n+j) (by omega) (by omega) (by omega)
 exact Dr.2 ⟨h1,Apv hpw fun q hq=>(Ea.1 (hok q hq)).g,hok,hpw⟩
theorem Agv {base n u:Int} {l:List A4} (hq:Kq l base=true) (hn:Ca n=true) (u0:0≤u) (u1:u≤10007):Kq (Ph base l n u) base=true:=by
 unfold Ph
 split
 ·exact hq
 ·rename_i h
  simp only [Bool.or_eq_true,Bool.not_eq_true',not_or,Bool.not_eq_false,Bool.not_eq_true,decide_eq_true_eq] at h
  exact Aaf hq hn h.2 u0 u1 h.1
theorem Adi {base n u:Int} {l:List A4} {q:A4} (h:q∈Ph base l n u):q∈l∨q.Ad=n:=by
 unfold Ph Rg at h
 split at h
 ·exact .inl h
 ·rcases List.mem_append.1 h with h|h
  ·exact .inl (List.mem_of_mem_take h)
  ·rcases List.mem_cons.1 h with rfl|h
   ·exact .inr rfl
   ·exact .inl (List.mem_of_mem_drop h)
theorem Aep {base n u:Int} {l:List A4} (hq:Kq l base=true) (u0:0≤u) (u1:u≤10007):Kq (Nj base l n u) base=true:=by
 cases h:J3 base l n
 ·rw [Ro h];exact hq
 obtain ⟨h1,h2,h3,h4⟩:=Dr.1 hq
 have hk:=Pr h
 have hn:l[Dv base l n].Ad=n:=by rw [Pq hk] at h;simpa using h
 have ho:=Ea.1 (h3 _ (List.getElem_mem hk))
 rw [Ps h]
 have hnum:∀i (h:i < (l.set (Dv base l n) ⟨n,3,u,l[Dv base l n].Du⟩).length),(l.set (Dv base l n) ⟨n,3,u,l[Dv base l n].Du⟩)[i].Ad=(l[i]'(by simpa using h)).Ad:=fun i h=>by
  rw [List.getElem_set]
  split
  ·rename_i e;subst e;exact hn.symm
  ·rfl
 refine Dr.2 ⟨h1,by simpa using h2,fun r hr=>?_,?_⟩
 ·have gn:=ho.n
  have gg:=ho.g
  rw [hn] at gn gg
  rcases List.mem_or_eq_of_mem_set hr with h|rfl
  ·exact h3 r h
  ·exact Ea.2 ⟨gn,gg,by show (1:Int)≤3;decide,by show (3:Int)≤3;decide,u0,u1,ho.t0,ho.t1⟩
 ·refine List.pairwise_iff_getElem.2 fun i j hi hj hij=>?_
  rw [hnum i hi,hnum j hj]
  exact List.pairwise_iff_getElem.1 h4 i j _ _ hij
theorem Aap {base n u:Int} {l:List A4} {q:A4} (h:q∈Nj base l n u):∃r∈l,r.Ad=q.Ad:=by
 cases h2:J3 base l n
 ·rw [Ro h2] at h;exact ⟨q,h,rfl⟩
 have hk:=Pr h2
 have hn:l[Dv base l n].Ad=n:=by rw [Pq hk] at h2;simpa using h2
 rw [Ps h2] at h
 rcases List.mem_or_eq_of_mem_set h with h|rfl
 ·exact ⟨q,h,rfl⟩
 ·exact ⟨_,List.getElem_mem hk,hn⟩
def Dm (r:Bc) (p:As):Am:=if r.Bg then r.Aa else ⟨if p.C2=5 then p.D0 else p.Ad,r.Aa.Ao⟩
def D8 (r:Bc) (p:As):Am:=if p.C2=5 then Dm r p else Ij (Dm r p) p.Ad p.data
def Id (r:Bc) (p:As):List ByteArray:=if p.C2=5 then [] else Ia (Dm r p) p.Ad p.data
def Ko (w:Am) (t:Int):Am:=if Oa w.next t then (if gp w.next t≤8 then Gf w t else ⟨t,[]⟩) else w
def Lo (w:Am) (t:Int):List ByteArray:=if Oa w.next t then (if gp w.next t≤8 then E6 w t else [⟨#[33]⟩]) else []
def Ce (r:Bc) (p:As):Am:=Ko (D8 r p) p.Ak
def Jj (r:Bc) (p:As):List ByteArray:=Id r p++Lo (D8 r p) p.Ak
def Ig (base u:Int) (l:List A4) (ns:List Int):List A4:=ns.foldl (fun l n=>Ph base l n u) l
def Rn (w:Am) (D0:Int):Nat:=(min (gp w.next D0) 8).toNat
def Kv (w:Am) (l:List A4) (D0 u:Int):List A4:=if Oa w.next D0 then Ig w.next u l (Lc w (Rn w D0)) else l
def Io (r:Bc) (p:As) (d:Int):Bc:=⟨true,r.Ai,Ce r p,Kv (Ce r p) (Dp r.Ap (Ce r p)) p.D0 (r.Ai+d)⟩
def Ii (p:As):Bool:=decide (p.C2=1) || decide (p.C2=2) || decide (p.C2=5)
def Acs (r:Bc) (p:As):Bc:=⟨r.Bg,r.Ai,r.Aa,Nj r.Aa.next r.Ap p.Ad (r.Ai+4)⟩
def C9 (r:Bc) (p:As) (d:Int):Bc:=if Ii p then Io r p d else if decide (p.C2=4) && r.Bg then Acs r p else r
def Ff (r:Bc) (p:As):List ByteArray:=if Ii p then Jj r p else []
theorem Aio {w:Am} {n:Int} {s:ByteArray} (hg:Df w=true) (hn:Ca n=true) (hs:N1 s=true):Df (Ij w n s)=true∧(∃m:Nat,m≤8∧(Ij w n s).next=Bn w.next m)∧(Ia w n s).length≤8:=by
 obtain ⟨w0,w1⟩:=Gg hg
 cases ht:Kl w n
 ·have e:(Ep w n || !decide (gp w.next n < 8))=true:=by unfold Kl at ht;simp only [Bool.or_eq_false_iff] at ht;rw [ht.1,ht.2];rfl
  have e1:Ij w n s=w:=by unfold Ij;rw [if_pos e]
  have e2:Ia w n s=[]:=by unfold Ia;rw [if_pos e]
  rw [e1,e2]
  exact ⟨hg,⟨0,by omega,(M0 w0 w1).symm⟩,by simp⟩
 ·have hok:Qu w n s=true:=by unfold Qu;rw [hg,hn,hs,ht];rfl
  have h:=Aka w n s (by unfold Hy;rw [hok];rfl)
  rw [show Hy w n s=(Ij w n s,Ia w n s,true) by unfold Hy;rw [hok];rfl] at h
  obtain ⟨-, -,h3,h4, -, -,h7, -⟩:=h
  dsimp only at h3 h4 h7
  refine ⟨h3,⟨_,h7,?_⟩,h7⟩
  obtain ⟨v0,v1⟩:=Gg h3
  rw [←h4]
  unfold Bn gp at *;omega
theorem M9 {r:Bc} {p:As} (hg:I9 r) (hp:Bk p=true):Df (Dm r p)=true∧(r.Bg=true→Dm r p=r.Aa):=by
 unfold Dm
 unfold Bk at hp
 simp only [Bool.and_eq_true] at hp
 cases hs:r.Bg
 ·refine ⟨?_,fun h=>by cases h⟩
  rw [(hg.z hs).1]
  simp only [Bool.false_eq_true,if_false]
  unfold Df
  split
  ·rw [hp.1.1.1.2];rfl
  ·rw [hp.1.1.1.1.1.2];rfl
 ·exact ⟨hg.w,fun _=>rfl⟩
theorem Oz {r:Bc} {p:As} (hg:I9 r) (hp:Bk p=true):Df (D8 r p)=true∧(∃m:Nat,m≤8∧(D8 r p).next=Bn (Dm r p).next m)∧(Id r p).length≤8:=by
 have h1:=(M9 hg hp).1
 obtain ⟨w0,w1⟩:=Gg h1
 unfold D8 Id
 split
 ·exact ⟨h1,⟨0,by omega,(M0 w0 w1).symm⟩,by simp⟩
 ·unfold Bk at hp
  simp only [Bool.and_eq_true] at hp
  exact Aio h1 hp.1.1.1.1.1.2 hp.1.1.2
theorem Aik {w:Am} {t:Int} (hg:Df w=true) (ht:Ca t=true):Df (Ko w t)=true∧(∃m:Nat,m≤32767∧(Ko w t).next=Bn w.next m)∧(Lo w t).length≤16:=by
 obtain ⟨w0,w1⟩:=Gg hg
 obtain ⟨t0,t1⟩:=Ba.1 ht
 unfold Ko Lo
 cases hb:Oa w.next t
 ·exact ⟨hg,⟨0,by omega,(M0 w0 w1).symm⟩,by simp⟩
 ·simp only [if_true]
  split
  ·obtain ⟨e1,e2,e3,e4⟩:=Ot (t:=t) hg
   have:=@Sn w.next t
   exact ⟨Wa _ _ hg,⟨_,by omega,e1⟩,by omega⟩
  ·refine ⟨by unfold Df;rw [ht];rfl,⟨(gp w.next t).toNat,?_,?_⟩,by simp⟩
   ·unfold Oa Hq at hb;simp only [Bool.and_eq_true,decide_eq_true_eq] at hb;omega
   ·have:=In w.next t
    show t=_
    unfold Bn gp at *;omega
theorem Wj {l:List A4} {b:Int} {w:Am} {m:Nat} (hm:m≤65528) (hq:Kq l b=true) (hw:Df w=true) (e:w.next=Bn b m):Kq (Dp l w) w.next=true:=by
 obtain ⟨h1,h2,h3,h4⟩:=Dr.1 hq
 obtain ⟨b0,b1⟩:=Ba.1 h1
 have key:∀q∈l,gp w.next q.Ad < 8→gp w.next q.Ad=gp b q.Ad - m:=fun q hq h=>by
  have ho:=Ea.1 (h3 q hq)
  obtain ⟨n0,n1⟩:=Ba.1 ho.n
  have:=ho.g
  rw [e] at h ⊢
  unfold gp Bn at *;omega
 have hin:∀q∈Dp l w,q∈l∧gp w.next q.Ad < 8:=fun q hq=>by
  unfold Dp at hq
  rw [List.mem_filter] at hq
  simp only [Bool.and_eq_true,decide_eq_true_eq] at hq
  exact ⟨hq.1,hq.2.2⟩
 refine Dr.2 ⟨Ba.2 (Gg hw),Nat.le_trans (List.length_filter_le _ _) h2,fun q hq=>?_,?_⟩
 ·obtain ⟨a,c⟩:=hin q hq
  have ho:=Ea.1 (h3 q a)
  exact Ea.2 ⟨ho.n,c,ho.s0,ho.s1,ho.u0,ho.u1,ho.t0,ho.t1⟩
 ·have h5:(Dp l w).Pairwise fun a b'=>gp b a.Ad < gp b b'.Ad:=h4.sublist List.filter_sublist
  refine h5.imp_of_mem fun ha hb h=>?_
  rw [key _ (hin _ ha).1 (hin _ ha).2,key _ (hin _ hb).1 (hin _ hb).2];omega
theorem L8 {l:List A4} {w:Am}:∀q∈Dp l w,H1 w q.Ad=false:=fun q hq=>by
 unfold Dp at hq
 rw [List.mem_filter] at hq
 simp only [Bool.and_eq_true,Bool.not_eq_true',Bool.or_eq_false_iff] at hq
 exact hq.2.1.2
theorem Nn {w:Am} {k:Nat} (hk:k≤8) {n:Int} (h:n∈Lc w k):Ca n=true∧gp w.next n < 8∧H1 w n=false:=by
 unfold Lc My at h
 obtain ⟨h1,h2⟩:=List.mem_filter.1 h
 obtain ⟨i,hi,rfl⟩:=List.mem_map.1 h1
 rw [List.mem_range] at hi
 refine ⟨Lv _ _,?_,by simpa using h2⟩
 unfold gp Bn;omega
theorem Ni {w:Am} {u:Int} (u0:0≤u) (u1:u≤10007):∀(ns:List Int) (l:List A4),(∀n∈ns,Ca n=true∧H1 w n=false)→Kq l w.next=true→(∀q∈l,H1 w q.Ad=false)→Kq (Ig w.next u l ns) w.next=true∧∀q∈Ig w.next u l ns,H1 w q.Ad=false
 | [],l,_,h2,h3=>⟨h2,h3⟩
 | n::ns,l,h1,h2,h3=>by
  obtain ⟨a,b⟩:=h1 n (by simp)
  refine Ni u0 u1 ns (Ph w.next l n u) (fun n hn=>h1 n (by simp [hn])) (Agv h2 a u0 u1) fun q hq=>?_
  rcases Adi hq with h|h
  ·exact h3 q h
  ·rw [h];exact b
theorem V7 {base u:Int} {l:List A4} {ns:List Int} {k:Nat} (h:k < ns.length):Ig base u l (ns.take (k+1))=Ph base (Ig base u l (ns.take k)) ns[k] u:=by
 unfold Ig
 rw [List.take_add_one,List.getElem?_eq_getElem h,List.foldl_append];rfl
theorem N9 (w:Am) (t:Int):Rn w t≤8:=by unfold Rn;omega
theorem Sj {r:Bc} {p:As} {d:Int} (hg:I9 r) (hp:Bk p=true) (d0:1≤d) (d1:d≤8) (hk:r.Ai+d≤10007):Df (Ce r p)=true∧Kq (Dp r.Ap (Ce r p)) (Ce r p).next=true∧I9 (Io r p d)∧(Jj r p).length≤24:=by
 obtain ⟨a1,a2⟩:=M9 hg hp
 obtain ⟨b1,⟨m,hm,em⟩,b3⟩:=Oz hg hp
 have htr:Ca p.Ak=true:=by unfold Bk at hp;simp only [Bool.and_eq_true] at hp;exact hp.1.1.1.1.2
 obtain ⟨c1,⟨k,hk2,ek⟩,c3⟩:=Aik b1 htr
 have hk0:=hg.k0
 have hq:Kq (Dp r.Ap (Ce r p)) (Ce r p).next=true:=by
  cases hs:r.Bg
  ·rw [(hg.z hs).2]
   exact (Dr (l:=[])).2 ⟨Ba.2 (Gg c1),Nat.zero_le 8,fun r hr=>(by cases hr),List.Pairwise.nil⟩
  ·refine Wj (m:=m+k) (by omega) hg.q c1 ?_
   show (Ce r p).next=_
   rw [show (Ce r p).next=Bn (D8 r p).next k from ek,em,a2 hs,Nd]
 have hn:Ce r p=Ko (D8 r p) p.Ak:=rfl
 refine ⟨c1,hq,⟨hg.k0,hg.k1,c1,?_,?_,fun h=>by cases h⟩,by unfold Jj;rw [List.length_append];omega⟩
 ·show Kq (Kv (Ce r p) (Dp r.Ap (Ce r p)) p.D0 (r.Ai+d)) (Ce r p).next=true
  unfold Kv
  split
  ·exact (Ni (by omega) (by omega) _ _ (fun n hn=>⟨(Nn (N9 _ _) hn).1,(Nn (N9 _ _) hn).2.2⟩) hq L8).1
  ·exact hq
 ·show ∀q∈Kv (Ce r p) (Dp r.Ap (Ce r p)) p.D0 (r.Ai+d),H1 (Ce r p) q.Ad=false
  unfold Kv
  split
  ·exact (Ni (by omega) (by omega) _ _ (fun n hn=>⟨(Nn (N9 _ _) hn).1,(Nn (N9 _ _) hn).2.2⟩) hq L8).2
  ·exact L8
theorem Pw {r:Bc} {p:As} {d:Int} (hg:I9 r) (hp:Bk p=true) (d0:1≤d) (d1:d≤8):I9 (C9 r p d)∧(Ff r p).length≤24:=by
 have hk1:=hg.k1
 have hk0:=hg.k0
 unfold C9 Ff
 split
 ·exact ⟨(Sj hg hp d0 d1 (by omega)).2.2.1,(Sj hg hp d0 d1 (by omega)).2.2.2⟩
 ·refine ⟨?_,by simp⟩
  split
  ·rename_i h
   simp only [Bool.and_eq_true,decide_eq_true_eq] at h
   refine ⟨hk0,hk1,hg.w,Aep hg.q (by omega) (by omega),fun q hq=>?_,fun hs=>?_⟩
   ·obtain ⟨r',hr,e⟩:=Aap hq
    show H1 r.Aa q.Ad=false
    rw [←e];exact hg.f r' hr
   ·have:r.Bg=false:=hs
    rw [h.2] at this;cases this
  ·exact hg
end Go.Proofs.YtbmlecejkacpnaaGreatDoor
