/- Part 4 of the proof: 33 texts, one behind the other. -/
import Derived.Lib.SliceRun
import Derived.ArgAppend
import Derived.Deep.RegionLaw
import Derived.Test.YtgmbfohkpfineaaGreatDoorM3
set_option maxRecDepth 100000
set_option maxHeartbeats 8000000
set_option linter.all false
set_option linter.unusedVariables false
set_option linter.unusedSimpArgs false
namespace Go.Proofs.YtgmbfohkpfineaaGreatDoor
open Go.RowKit
theorem lenE {p:Prop} (h:p:=by first|omega|(simp only [List.length_append,List.length_take,List.length_drop,List.length_cons,List.length_nil,List.length_set,List.length_replicate];omega)):p:=h
def EC (m:Nat):Elem (List Value) where
 sz:=m
 rep _ cs x F:=cs=x∧(x.length=m∧∀u∈x,u.oneCell'=true)∧F=[]
 len h:=by obtain ⟨rfl,⟨h,_⟩,_⟩:=h;exact h
 lt h:=by obtain ⟨_,_,rfl⟩:=h;simp
 frame h _:=h
theorem scal_EC (m:Nat):Scal (EC m):=fun h=>h.2.2
theorem one_EC (m:Nat):One (EC m):=fun h=>by obtain ⟨rfl,⟨_,h⟩,_⟩:=h;exact h
theorem ec_flat {m:Nat} {w:World}:∀{ys:List (List Value)} {cs:List Value} {F:List Nat},Flat (EC m) w cs ys F→cs=ys.flatten∧F=[]∧∀y∈ys,y.length=m
 | [],_,_,h=>⟨h.1,h.2,by simp⟩
 | y::r,_,_,h=>by
  obtain ⟨c1,c2,F1,F2,rfl,rfl,⟨rfl,⟨h1,_⟩,rfl⟩,h2⟩:=h
  obtain ⟨rfl,rfl,h4⟩:=ec_flat h2
  refine ⟨by simp,rfl,fun z hz=>?_⟩
  rcases List.mem_cons.1 hz with rfl|hz
  ·exact h1
  ·exact h4 z hz
theorem flat_ec {α:Type} {E:Elem α} {w w':World} (one:One E):∀{xs:List α} {cs:List Value} {G:List Nat},Flat E w cs xs G→∃ys:List (List Value),ys.length=xs.length∧cs=ys.flatten∧(∀y∈ys,y.length=E.sz)∧Flat (EC E.sz) w' cs ys []
 | [],_,_,h=>⟨[],rfl,h.1,by simp,h.1,rfl⟩
 | x::r,_,_,h=>by
  obtain ⟨c1,c2,F1,F2,rfl,rfl,h1,h2⟩:=h
  obtain ⟨ys,e1,rfl,e2,h3⟩:=flat_ec (w':=w') one h2
  refine ⟨c1::ys,by simp [e1],by simp,fun z hz=>?_,c1,ys.flatten,[],[],rfl,rfl,⟨rfl,⟨E.len h1,one h1⟩,rfl⟩,h3⟩
  rcases List.mem_cons.1 hz with rfl|hz
  ·exact E.len h1
  ·exact e2 z hz
theorem flat_len {m:Nat}:∀{ys:List (List Value)},(∀y∈ys,y.length=m)→ys.flatten.length=ys.length * m
 | [],_=>by simp
 | y::r,h=>by
  have:=flat_len (m:=m) (ys:=r) fun z hz=>h z (by simp [hz])
  rw [List.flatten_cons,List.length_append,this,h y (by simp),List.length_cons,Nat.add_mul];omega
theorem Flat.cut {α:Type} {E:Elem α} {w:World} {c1 c2:List Value} {x1 x2:List α} {G:List Nat} (h:Flat E w (c1++c2) (x1++x2) G) (hl:c1.length=x1.length * E.sz):∃G1 G2,G=G1++G2∧Flat E w c1 x1 G1∧Flat E w c2 x2 G2:=by
 obtain ⟨d1,d2,G1,G2,he,hG,h1,h2⟩:=h.split
 have:d1.length=c1.length:=by rw [h1.len,hl]
 obtain ⟨rfl,rfl⟩:=List.append_inj he this.symm
 exact ⟨G1,G2,hG,h1,h2⟩
theorem sep_nd:∀{N:List Pc},(fp N).Nodup→Sep N
 | [],_=>trivial
 | p::N,h=>⟨fun q hq _ b hb hqb=>nodup_apt h hb (mem_fp.2 ⟨q,hq,hqb⟩),sep_nd (List.nodup_append.1 h).2.1⟩
theorem St.swap {G D w0 H M N R w} (s:St G D w0 H w) (hM:Picks H M R) (hm:∀p∈M,p.mu=true) (hN:Hol N w) (hnd:(fp M).Nodup→(fp N).Nodup) (hF:∀b∈fp N,b∈fp M):St G D w0 (N++R) w :=
 have s1:St G D w0 (M++R) w:=by simpa using hM.st (X:=[]) (by simpa using s)
 have sM:Sep M:=by
  have:∀(M:List Pc),Sep (M++R)→Sep M:=by
   intro M
   induction M with
   | nil=>intro _;trivial
   | cons p M ih=>intro h;exact ⟨fun q hq=>h.1 q (by simp [hq]),ih h.2⟩
  exact this M s1.sep
 have hn:(fp M).Nodup:=fp_nd (by simpa using hm) (fun p hp=>s1.on p (by simp [hp])) sM
 St.turn (M:=M) (N:=N) s1 (Keep.refl _ w) hN (sep_nd (hnd hn)) fun p hp b hb=>by
  obtain ⟨q,hq,hqb⟩:=mem_fp.1 (hF b (mem_fp.2 ⟨p,hp,hb⟩))
  exact .inr (.inl ⟨q,hq,hm q hq,hqb⟩)
section
variable {c:Cx} {fr:Fr} {H:List Pc} {Φ:Gl}
theorem t_shal {α:Type} {E:Elem α} (one:One E) {t:TypeId} {v:Value} {xs:List α} {F:List Nat} {S:List Pc} {m:Nat} (hm:E.sz=m)
  (h:∀(ys:List (List Value)) F0 G,ys.length=xs.length→(∀y∈ys,y.length=m)→T c fr (.ow (EC m) t v ys F0::.flat E ys.flatten xs G::S) Φ) (hp:Pick H (.ow E t v xs F) S:=by (repeat (first|exact .here|apply Pick.there));first|done|fail):T c fr H Φ:=.mk fun a w s g=>by
 subst hm
 have s1:=s.pick hp
 obtain ⟨hnd,ho⟩:=s1.on (.ow E t v xs F) (by simp)
 rcases ho with ⟨rfl,rfl,rfl⟩|⟨b,cap,cs,rest,G,rfl,h2,h3,h4,h5,h6,rfl⟩
 ·refine (h [] [] [] rfl (by simp)).h a w (s1.swap (M:=[_]) (N:=[.ow (EC E.sz) t (.slice none 0 0) [] [],.flat E [] [] []]) (.cons .here .nil) (by intro p hp;simp at hp;subst hp;rfl) ?_ (fun _=>by simp [fp,Pc.F]) (by simp [fp,Pc.F])) g
  intro p hp
  simp only [List.mem_cons,List.not_mem_nil,or_false] at hp
  rcases hp with rfl|rfl
  ·exact ⟨by simp,.inl ⟨rfl,rfl,rfl⟩⟩
  ·exact ⟨by simp,rfl,rfl⟩
 ·obtain ⟨ys,e1,rfl,e2,h7⟩:=flat_ec (w':=w) one h6
  refine (h ys [b] G e1 e2).h a w (s1.swap (M:=[_]) (N:=[.ow (EC E.sz) t (.slice (some ⟨b,0,none⟩) xs.length cap) ys [b],.flat E ys.flatten xs G]) (.cons .here .nil) (by intro p hp;simp at hp;subst hp;rfl) ?_ (fun hn=>by simpa [fp,Pc.F] using hn) (by simp [fp,Pc.F])) g
  intro p hp
  simp only [List.mem_cons,List.not_mem_nil,or_false] at hp
  rcases hp with rfl|rfl
  ·exact ⟨by simp,.inr ⟨b,cap,ys.flatten,rest,[],by rw [e1],h2,by rw [e1];exact h3,h4,h5,h7,rfl⟩⟩
  ·exact ⟨(List.nodup_cons.1 hnd).2,h6⟩
theorem t_deep {α:Type} {E:Elem α} {t:TypeId} {a:Option Addr} {n cp:Nat} {ys:List (List Value)} {cs:List Value} {xs:List α} {F G:List Nat} {S S2:List Pc} {m:Nat}
  (h:T c fr (.ow E t (.slice a n cp) xs (F++G)::S2) Φ) (hm:E.sz=m) (hc:cs=ys.flatten) (hl:ys.length=xs.length) (hp:Pick H (.ow (EC m) t (.slice a n cp) ys F) S:=by (repeat (first|exact .here|apply Pick.there));first|done|fail) (hp2:Pick S (.flat E cs xs G) S2:=by (repeat (first|exact .here|apply Pick.there));first|done|fail):T c fr H Φ:=.mk fun ac w s g=>by
 subst hm hc
 have a1:=s.on _ hp.mem
 have a2:=s.on _ (hp.sub _ hp2.mem)
 obtain ⟨nd1,o1⟩:=a1
 obtain ⟨nd2,f2⟩:=a2
 refine h.h ac w (s.swap (M:=[.ow (EC E.sz) t (.slice a n cp) ys F,.flat E ys.flatten xs G]) (N:=[.ow E t (.slice a n cp) xs (F++G)]) (.cons hp (.cons hp2 .nil)) (by intro p hp;simp at hp;rcases hp with rfl|rfl <;> rfl) ?_ (fun hn=>by simpa [fp,Pc.F] using hn) (by simp [fp,Pc.F])) g
 have hnd:(F++G).Nodup:=by
  have s2:=s.pick hp
  refine List.nodup_append.2 ⟨nd1,nd2,fun b hb b' hb' e=>?_⟩
  subst e
  exact s2.sep.1 (.flat E ys.flatten xs G) hp2.mem rfl b hb hb'
 intro p hp
 simp only [List.mem_cons,List.not_mem_nil,or_false] at hp
 subst hp
 refine ⟨hnd,?_⟩
 rcases o1 with ⟨h1,rfl,rfl⟩|⟨b,cap,cs,rest,G',h1,h2,h3,h4,h5,h6,rfl⟩
 ·cases h1
  have:xs=[]:=List.eq_nil_of_length_eq_zero hl.symm
  subst this
  exact .inl ⟨rfl,rfl,by simpa using f2.2⟩
 ·cases h1
  obtain ⟨rfl,rfl, -⟩:=ec_flat h6
  exact .inr ⟨b,cp,ys.flatten,rest,G,by rw [hl],h2,by rw [←hl];exact h3,h4,h5,f2,rfl⟩
theorem t_fcut {α:Type} {E:Elem α} {ys:List (List Value)} {xs:List α} {G:List Nat} {S:List Pc} (i:Nat) (hi:i < xs.length) (hl:ys.length=xs.length) (hm:∀y∈ys,y.length=E.sz)
  (h:∀G1 Gi G2,T c fr (.flat E (ys.take i).flatten (xs.take i) G1::.own E (.agg (ys[i]'(by omega)).toArray) xs[i] Gi::.flat E (ys.drop (i+1)).flatten (xs.drop (i+1)) G2::S) Φ) (hp:Pick H (.flat E ys.flatten xs G) S:=by (repeat (first|exact .here|apply Pick.there));first|done|fail):T c fr H Φ:=.mk fun ac w s g=>by
 have s1:=s.pick hp
 obtain ⟨hnd,hf⟩:=s1.on (.flat E ys.flatten xs G) (by simp)
 have e1:ys.flatten=(ys.take i).flatten++(ys[i]'(by omega)++(ys.drop (i+1)).flatten):=by
  rw [←List.flatten_cons,←List.drop_eq_getElem_cons,←List.flatten_append,List.take_append_drop]
 have e2:xs=xs.take i++([xs[i]]++xs.drop (i+1)):=by simp
 have hf2:Flat E w ((ys.take i).flatten++(ys[i]'(by omega)++(ys.drop (i+1)).flatten)) (xs.take i++([xs[i]]++xs.drop (i+1))) G:=by rw [←e1,←e2];exact hf
 obtain ⟨G1,G',rfl,f1,f2⟩:=hf2.cut (by rw [flat_len (m:=E.sz) fun y hy=>hm y (List.mem_of_mem_take hy)];simp [hl])
 obtain ⟨Gi,G2,rfl,⟨d1,d2,F1,F2,h1,h2,h3,h4⟩,f3⟩:=f2.cut (by rw [hm _ (List.getElem_mem _)];simp)
 obtain ⟨rfl,rfl⟩:=h4
 simp only [List.append_nil] at h1 h2
 subst h1 h2
 refine (h G1 Gi G2).h ac w (s1.swap (M:=[_]) (N:=[.flat E (ys.take i).flatten (xs.take i) G1,.own E (.agg (ys[i]'(by omega)).toArray) xs[i] Gi,.flat E (ys.drop (i+1)).flatten (xs.drop (i+1)) G2]) (.cons .here .nil) (by intro p hp;simp at hp;subst hp;rfl) ?_ (fun hn=>by simpa [fp,Pc.F] using hn) (by simp [fp,Pc.F])) g
 have hn1:=List.nodup_append.1 hnd
 have hn2:=List.nodup_append.1 hn1.2.1
 intro p hp
 simp only [List.mem_cons,List.not_mem_nil,or_false] at hp
 rcases hp with rfl|rfl|rfl
 ·exact ⟨hn1.1,f1⟩
 ·exact ⟨hn2.1,_,rfl,h3⟩
 ·exact ⟨hn2.2.1,f3⟩
theorem t_fjoin {α:Type} {E:Elem α} {c1 c2:List Value} {x1 x2:List α} {G1 G2:List Nat} {S S2:List Pc} (h:T c fr (.flat E (c1++c2) (x1++x2) (G1++G2)::S2) Φ) (hp:Pick H (.flat E c1 x1 G1) S:=by (repeat (first|exact .here|apply Pick.there));first|done|fail) (hp2:Pick S (.flat E c2 x2 G2) S2:=by (repeat (first|exact .here|apply Pick.there));first|done|fail):T c fr H Φ:=.mk fun ac w s g=>by
 obtain ⟨nd1,f1⟩:=s.on _ hp.mem
 obtain ⟨nd2,f2⟩:=s.on _ (hp.sub _ hp2.mem)
 refine h.h ac w (s.swap (M:=[.flat E c1 x1 G1,.flat E c2 x2 G2]) (N:=[.flat E (c1++c2) (x1++x2) (G1++G2)]) (.cons hp (.cons hp2 .nil)) (by intro p hp;simp at hp;rcases hp with rfl|rfl <;> rfl) ?_ (fun hn=>by simpa [fp,Pc.F] using hn) (by simp [fp,Pc.F])) g
 intro p hq
 simp only [List.mem_cons,List.not_mem_nil,or_false] at hq
 subst hq
 refine ⟨List.nodup_append.2 ⟨nd1,nd2,fun b hb b' hb' e=>?_⟩,f1.append f2⟩
 subst e
 exact (s.pick hp).sep.1 (.flat E c2 x2 G2) hp2.mem rfl b hb hb'
def HoleO {α:Type} (E:Elem α) (t:TypeId) (g:Nat) (v:Value) (xs:List α) (i:Nat) (A B c1 c2:List Value):Prop :=
 ∀w cs y G1 Gi G2,Row w g t (A++cs++B)→Flat E w c1 (xs.take i) G1→E.rep w cs y Gi→Flat E w c2 (xs.drop (i+1)) G2→Ow E t w v (xs.set i y) (g::(G1++Gi++G2))
theorem focO {α:Type} {E:Elem α} {t:TypeId} {a:Option Addr} {n cp m:Nat} {xs:List α} {F:List Nat} {S:List Pc} (i:Nat)
  (h:∀(_:i < xs.length) g A cs B c1 c2 G1 Gi G2,a=some ⟨g,0,none⟩→n=xs.length→n≤cp→HoleO E t g (.slice (some ⟨g,0,none⟩) n cp) xs i A B c1 c2→T c fr (.row g t (0+i * m) A cs B::.own E (.agg cs.toArray) xs[i] Gi::.flat E c1 (xs.take i) G1::.flat E c2 (xs.drop (i+1)) G2::S) Φ)
  (hm:E.sz=m) (hi:i < xs.length) (hp:Pick H (.ow E t (.slice a n cp) xs F) S:=by (repeat (first|exact .here|apply Pick.there));first|done|fail):T c fr H Φ:=.mk fun ac w s ag=>by
 subst hm
 have s1:=s.pick hp
 obtain ⟨hnd,ho⟩:=s1.on (.ow E t (.slice a n cp) xs F) (by simp)
 rcases ho with ⟨-,rfl, -⟩|⟨g,cap,cs0,rest,G,h1,h2,h3,h4,h5,h6,rfl⟩
 ·simp at hi
 cases h1
 obtain ⟨A,cs,B,G1,Gi,G2,rfl,rfl,hA,hc,f1,f2,f3⟩:=h6.focus i hi
 refine (h hi g A cs (B++rest) A B G1 Gi G2 rfl rfl h3 ?_).h ac w (s1.swap (M:=[_]) (N:=[.row g t (0+i * E.sz) A cs (B++rest),.own E (.agg cs.toArray) xs[i] Gi,.flat E A (xs.take i) G1,.flat E B (xs.drop (i+1)) G2]) (.cons .here .nil) (by intro p hp;simp at hp;subst hp;rfl) ?_ (fun hn=>?_) (fun b hb=>?_)) ag
 ·intro w' cs' y G1' Gi' G2' hr k1 k2 k3
  have:=Flat.build hi k1 k2 k3
  have hl:=this.len
  exact .inr ⟨g,cp,A++cs'++B,rest,G1'++Gi'++G2',by simp,by simpa using hr,by simpa using h3,h4,by
   have e1:=E.len k2
   simp only [List.length_append] at h5 ⊢
   omega,this,rfl⟩
 ·have hn1:=List.nodup_append.1 (List.nodup_cons.1 hnd).2
  have hn2:=List.nodup_append.1 hn1.1
  intro p hp
  simp only [List.mem_cons,List.not_mem_nil,or_false] at hp
  rcases hp with rfl|rfl|rfl|rfl
  ·exact ⟨by omega,by simpa using h2⟩
  ·exact ⟨hn2.2.1,_,rfl,f2⟩
  ·exact ⟨hn2.1,f1⟩
  ·exact ⟨hn1.2.1,f3⟩
 ·have:(g::(G1++Gi++G2)).Perm ([g]++(Gi++(G1++(G2++[])))):=by
   simp only [List.singleton_append,List.append_nil,List.append_assoc]
   refine List.Perm.cons _ ?_
   rw [←List.append_assoc,←List.append_assoc]
   exact (List.perm_append_comm).append_right _
  exact this.nodup_iff.1 (by simpa [fp,Pc.F] using hn)
 ·simp only [fp,Pc.F,List.append_nil,List.mem_append,List.mem_cons,List.not_mem_nil,or_false] at hb ⊢
  grind
theorem unfO {α:Type} {E:Elem α} {t:TypeId} {g o i:Nat} {u v:Value} {xs:List α} {A cs B c1 c2:List Value} {x1 x2:List α} {G1 Gi G2:List Nat} {S1 S2 S3 S4:List Pc} (y:α) (hh:HoleO E t g u xs i A B c1 c2) (hv:v=.agg cs.toArray) (h:∀F',T c fr (.ow E t u (xs.set i y) F'::S4) Φ) (e1:x1=xs.take i:=by rfl) (e2:x2=xs.drop (i+1):=by rfl)
  (hp1:Pick H (.row g t o A cs B) S1:=by (repeat (first|exact .here|apply Pick.there));first|done|fail) (hp2:Pick S1 (.own E v y Gi) S2:=by (repeat (first|exact .here|apply Pick.there));first|done|fail) (hp3:Pick S2 (.flat E c1 x1 G1) S3:=by (repeat (first|exact .here|apply Pick.there));first|done|fail) (hp4:Pick S3 (.flat E c2 x2 G2) S4:=by (repeat (first|exact .here|apply Pick.there));first|done|fail):T c fr H Φ:=.mk fun ac w s ag=>by
 subst hv e1 e2
 have hP:Picks H [.row g t o A cs B,.own E (.agg cs.toArray) y Gi,.flat E c1 (xs.take i) G1,.flat E c2 (xs.drop (i+1)) G2] S4:=.cons hp1 (.cons hp2 (.cons hp3 (.cons hp4 .nil)))
 have s1:St c.G c.D c.w0 ([.row g t o A cs B,.own E (.agg cs.toArray) y Gi,.flat E c1 (xs.take i) G1,.flat E c2 (xs.drop (i+1)) G2]++S4) w:=by simpa using hP.st (X:=[]) (by simpa using s)
 obtain ⟨-,r⟩:=s1.on (.row g t o A cs B) (by simp)
 obtain ⟨-,cs',e,hr⟩:=s1.on (.own E (.agg cs.toArray) y Gi) (by simp)
 obtain rfl:cs=cs':=by simpa using e
 have f1:=(s1.on (.flat E c1 (xs.take i) G1) (by simp)).2
 have f3:=(s1.on (.flat E c2 (xs.drop (i+1)) G2) (by simp)).2
 have hO:=hh w cs y G1 Gi G2 r f1 hr f3
 have hpm:(g::(G1++Gi++G2)).Perm ([g]++(Gi++(G1++(G2++[])))):=by
  simp only [List.singleton_append,List.append_nil,List.append_assoc]
  refine List.Perm.cons _ ?_
  rw [←List.append_assoc,←List.append_assoc]
  exact (List.perm_append_comm).append_right _
 have hmM:∀p∈[Pc.row g t o A cs B,.own E (.agg cs.toArray) y Gi,.flat E c1 (xs.take i) G1,.flat E c2 (xs.drop (i+1)) G2],p.mu=true:=by intro p hp;simp only [List.mem_cons,List.not_mem_nil,or_false] at hp;rcases hp with rfl|rfl|rfl|rfl <;> rfl
 have hndM:(fp [Pc.row g t o A cs B,.own E (.agg cs.toArray) y Gi,.flat E c1 (xs.take i) G1,.flat E c2 (xs.drop (i+1)) G2]).Nodup:=fp_nd (by simpa using hmM) (fun p hp=>s1.on p (List.mem_append_left _ hp)) (by
  have sp:=s1.sep
  exact ⟨fun q hq=>sp.1 q (List.mem_append_left _ hq),fun q hq=>sp.2.1 q (List.mem_append_left _ hq),fun q hq=>sp.2.2.1 q (List.mem_append_left _ hq),fun q hq=>sp.2.2.2.1 q (List.mem_append_left _ hq),trivial⟩)
 have hnd:(g::(G1++Gi++G2)).Nodup:=hpm.nodup_iff.2 (by simpa [fp,Pc.F] using hndM)
 refine (h (g::(G1++Gi++G2))).h ac w (s.swap hP hmM (N:=[.ow E t u (xs.set i y) (g::(G1++Gi++G2))]) (by intro p hp;rw [List.mem_singleton] at hp;subst hp;exact ⟨hnd,hO⟩) (fun _=>by simpa [fp,Pc.F] using hnd) (fun b hb=>?_)) ag
 simp only [fp,Pc.F,List.append_nil,List.mem_append,List.mem_cons,List.not_mem_nil,or_false] at hb ⊢
 grind
theorem ap1o {α:Type} {E:Elem α} {t e m b:Nat} {z:Value} [hS:SlC c.P t e m] [hE:ElT c.P e z m b] {xs:List α} {F Fy:List Nat} {g tt:Nat} {cs:List Value} {u:Value} {R R2 S:List Pc} {d:Nat} {ty:TypeId} {v:Value} {x y:Operand} (one:One E) (ey:α) (hu:u=.agg cs.toArray)
  (h:∀a' c' F',T c ((d,.slice a' (xs++[ey]).length c')::fr) (.ow E e (.slice a' (xs++[ey]).length c') (xs++[ey]) F'::S) Φ)
  (hx:ev fr x=some v:=by rfl) (hy:ev fr y=some (.slice (some ⟨g,0,none⟩) 1 1):=by rfl) (hp:Pick H (.ow E e v xs F) R:=by (repeat (first|exact .here|apply Pick.there));first|done|fail) (hp2:Pick R (.row g tt 0 [] cs []) R2:=by (repeat (first|exact .here|apply Pick.there));first|done|fail) (hp3:Pick R2 (.own E u ey Fy) S:=by (repeat (first|exact .here|apply Pick.there));first|done|fail) (hz:0 < E.sz:=by decide) (hm:E.sz=m:=by rfl)
  (h63:xs.length+1≤9223372036854775807:=by omega) (hby:(xs.length+1) * b≤140737488355328:=by omega) (hd:Nat.blt d c.n=true:=by rfl) :
  On c fr H (some d) (.call { callee:=.builtin .append,args:=#[x,y],argTypes:=#[t,t] }) ty Φ:=⟨fun _ _ _=>by
 subst hu
 refine ap (ys:=[ey]) (Fy:=Fy) (S:=S) one hz hm hp hx hy rfl (fun w s=>?_) (fun w v' F' s hF w' hk hv=>?_) (by unfold maxLen;exact h63) hby h hd
 ·have hro:=s.on (.row g tt 0 [] cs []) (by simp [hp2.mem])
  have how:=s.on (.own E (.agg cs.toArray) ey Fy) (by simp [hp2.sub _ hp3.mem])
  obtain ⟨hnd,cs',e1,hrep⟩:=how
  obtain rfl:cs=cs':=by simpa using e1
  refine ⟨cs,Flat.one hrep,.inr ⟨_,rfl,fun j u hu=>?_⟩,fun b hb hbF=>?_,hnd⟩
  ·have hr:=hro.2
   have:=hr.cell j
   simp only [List.nil_append,List.append_nil] at this
   rw [hu] at this
   unfold Addr.add
   split
   ·rename_i e;subst e;exact this
   ·simpa using this
  ·exact s.sep.1 (.own E (.agg cs.toArray) ey Fy) (hp2.sub _ hp3.mem) rfl b hbF hb
 ·have hP:Picks (.ow E e v xs F::R) [.ow E e v xs F,.own E (.agg cs.toArray) ey Fy,.row g tt 0 [] cs []] S:=.cons .here (by
   have:∀{R R2 S:List Pc} {p q:Pc},Pick R p R2→Pick R2 q S→Picks R [q,p] S:=by
    intro R R2 S p q h1
    induction h1 generalizing S with
    | here=>intro h2;exact .cons (.there h2) (.cons .here .nil)
    | @there x p R R' h ih =>
     intro h2
     cases h2 with
     | here=>exact .cons .here (.cons h .nil)
     | there h3 =>
      cases ih h3 with
      | cons a1 a2 =>
       cases a2 with
       | cons b1 b2=>cases b2;exact .cons (.there a1) (.cons (.there b1) .nil)
   exact this hp2 hp3)
  have s1:St c.G c.D c.w0 ([.ow E e v xs F,.own E (.agg cs.toArray) ey Fy]++S) w:=by
   have s0:St c.G c.D c.w0 ([.ow E e v xs F,.own E (.agg cs.toArray) ey Fy,.row g tt 0 [] cs []]++S) w:=by simpa using hP.st (X:=[]) (by simpa using s)
   have sp:=s0.sep
   have hm3:∀q,q∈[Pc.ow E e v xs F,.own E (.agg cs.toArray) ey Fy]++S→q∈[Pc.ow E e v xs F,.own E (.agg cs.toArray) ey Fy,.row g tt 0 [] cs []]++S:=fun q hq=>by
    simp only [List.cons_append,List.nil_append,List.mem_cons] at hq ⊢
    rcases hq with h|h|h
    ·exact .inl h
    ·exact .inr (.inl h)
    ·exact .inr (.inr (.inr h))
   exact ⟨s0.keep,fun q hq=>s0.on q (hm3 q hq),⟨fun q hq=>sp.1 q (by
    rcases List.mem_cons.1 hq with h|h
    ·simp [h]
    ·exact List.mem_cons_of_mem _ (List.mem_cons_of_mem _ h)),fun q hq=>sp.2.1 q (List.mem_cons_of_mem _ hq),sp.2.2.2⟩,fun q hq=>s0.mine q (hm3 q hq)⟩
  refine St.turn (M:=[.ow E e v xs F,.own E (.agg cs.toArray) ey Fy]) (N:=[.ow E e v' (xs++[ey]) F']) s1 (hk.mono (fun b hb _=>by simp [List.filter,Pc.mu,fp,Pc.F,hb])) (by intro q hq;simp at hq;subst hq;exact hv) ⟨by simp,trivial⟩ ?_
  intro q hq b hb
  simp only [List.mem_cons,List.not_mem_nil,or_false] at hq;subst hq
  rcases hF b hb with h|h|h
  ·exact .inr (.inl ⟨.ow E e v xs F,by simp,rfl,h⟩)
  ·exact .inr (.inl ⟨.own E (.agg cs.toArray) ey Fy,by simp,rfl,h⟩)
  ·exact .inl (by omega)⟩
theorem t_stk {α:Type} {E:Elem α} {a:Option Addr} {n cp:Nat} {xs:List α} {F:List Nat} (k:Nat) (hk:k≤xs.length) (h:∀F',n≤cp→cp≤9223372036854775807→T c fr (.sl E (.slice a k cp) (xs.take k) F'::H) Φ) (hm:.sl E (.slice a n cp) xs F∈H:=by (repeat (first|exact .head _|apply List.Mem.tail));first|done|fail):T c fr H Φ:=.mk fun ac w s g=>by
 obtain ⟨hz,hs⟩:=s.get hm
 obtain ⟨rfl,hnc,hmx⟩:=hs.caps
 obtain ⟨F',hF,h2⟩:=hs.takeS k hk
 exact (h F' hnc (by unfold maxLen at hmx;omega)).h ac w (s.ro hm rfl rfl ⟨hz,h2⟩ hF) g
/-! the same for slices that read -/
def EA {α:Type} (E:Elem α) (n:Nat):Elem (List α) where
 sz:=n * E.sz
 rep w cs xs F:=xs.length=n∧Flat E w cs xs F
 len h:=by obtain ⟨rfl,h⟩:=h;exact h.len
 lt h:=h.2.lt
 frame h hF:=⟨h.1,h.2.frame hF⟩
theorem t_deepR {α:Type} {E:Elem α} {a:Option Addr} {n cp m k:Nat} {ys:List (List Value)} {v:Value} {xs:List α} {F G:List Nat} (hm:E.sz=m) (hl:ys.length=xs.length) (hv:v=.agg ys.flatten.toArray)
  (h:∀F',T c fr (.sl E (.slice a n cp) xs F'::H) Φ) (hp:.sl (EC m) (.slice a n cp) ys F∈H:=by (repeat (first|exact .head _|apply List.Mem.tail));first|done|fail) (hp2:.isv (EA E k) v xs G∈H:=by (repeat (first|exact .head _|apply List.Mem.tail));first|done|fail):T c fr H Φ:=.mk fun ac w s g=>by
 subst hm hv
 obtain ⟨hz,a',cap,hv,hlc,hh⟩:=s.get hp
 cases hv
 obtain ⟨cs,e, -,hf⟩:=s.get hp2
 obtain rfl:ys.flatten=cs:=by simpa using e
 rcases hh with ⟨rfl,rfl,h0⟩|⟨b,off,F',rfl,hne,rfl,hc⟩
 ·have:xs=[]:=List.eq_nil_of_length_eq_zero hl.symm
  subst this
  refine (h []).h ac w (s.add (N:=[.sl E (.slice a 0 cp) [] []]) (Below.refl _ _) (by intro p hp;simp only [List.mem_cons,List.not_mem_nil,or_false] at hp;subst hp;exact ⟨hz,a,cp,rfl,hlc,.inl ⟨rfl,rfl,h0⟩⟩) ⟨by simp,trivial⟩ (by intro p hp b hb;simp only [List.mem_cons,List.not_mem_nil,or_false] at hp;subst hp;simp [Pc.F] at hb)) g
 ·have hxs:xs≠[]:=by rintro rfl;exact hne (List.eq_nil_of_length_eq_zero hl)
  have key:∀(ys:List (List Value)) (off:Nat) (G:List Nat),Cells (EC E.sz) w b off ys G→∀j u,ys.flatten[j]?=some u→w.cell? ⟨b,off+j,none⟩=some u:=by
   intro ys
   induction ys with
   | nil=>intro off G _ j u hu;simp at hu
   | cons y r ih =>
    intro off G h j u hu
    obtain ⟨c1,F1,F2,rfl,⟨rfl,⟨hy, -⟩, -⟩,h2,h3⟩:=h
    rw [List.flatten_cons] at hu
    by_cases hj:j < c1.length
    ·rw [List.getElem?_append_left hj] at hu
     rw [h2 j (by show j < E.sz;omega)];exact hu
    ·rw [List.getElem?_append_right (by omega)] at hu
     have:=ih _ _ h3 _ _ hu
     rwa [show off+(EC E.sz).sz+(j - c1.length)=off+j by show off+E.sz+(j - c1.length)=off+j;omega] at this
  refine (h (b::G)).h ac w (s.add (N:=[.sl E (.slice (some ⟨b,off,none⟩) ys.length cp) xs (b::G)]) (Below.refl _ _) (by
   intro p hp
   simp only [List.mem_cons,List.not_mem_nil,or_false] at hp;subst hp
   exact ⟨hz,_,cp,by rw [hl],by rw [←hl];exact hlc,.inr ⟨b,off,G,rfl,hxs,rfl,hf.cells (fun j u hu=>key ys off F' hc j u hu)⟩⟩) ⟨by simp,trivial⟩ (by
   intro p hq z hb
   simp only [List.mem_cons,List.not_mem_nil,or_false] at hq;subst hq
   simp only [Pc.F,List.mem_cons] at hb
   rcases hb with rfl|hb
   ·exact .inr ⟨rfl,_,hp,rfl,by simp [Pc.F]⟩
   ·exact .inr ⟨rfl,_,hp2,rfl,hb⟩)) g
theorem t_weakI {α:Type} {O R:Elem α} (hW:Weak O R) {v:Value} {x:α} {F:List Nat} {S:List Pc} (h:∀F',T c fr (.isv R v x F'::S) Φ) (hp:Pick H (.own O v x F) S:=by (repeat (first|exact .here|apply Pick.there));first|done|fail):T c fr H Φ:=.mk fun a w s g=>by
 have s1:=s.pick hp
 obtain ⟨-,ho⟩:=s1.on (.own O v x F) (by simp)
 obtain ⟨F',hF,hs⟩:=IsV.weak hW ho
 exact (h F').h a w (s1.conv rfl hs hF) g
end
section
variable {c:Cx} {fr:Fr} {H:List Pc} {Φ:Gl}
theorem at_ESl {α:Type} {E:Elem α} {hz:0 < E.sz} {a:Option Addr} {n cp:Nat} {xs:List (List α)} {F:List Nat} (i:Nat) (h:∀(hi:i < xs.length) (b o:Nat) (a1:Option Addr) (c1:Nat) (F1:List Nat),a=some ⟨b,o,none⟩→xs[i].length≤maxLen→T c fr (.cel b (o+i * 1) [.slice a1 xs[i].length c1]::.sl E (.slice a1 xs[i].length c1) xs[i] F1::H) Φ) (hm:.sl (ESl E hz) (.slice a n cp) xs F∈H:=by (repeat (first|exact .head _|apply List.Mem.tail));first|done|fail) (hi:i < xs.length:=by omega):T c fr H Φ:=.mk fun ac w s g=>by
 obtain ⟨b,o,cs,G,ha,hrep,hG,hb,hne,hr⟩:=sl_at (s.get hm) i hi
 obtain ⟨v1,rfl,h1⟩:=hrep
 obtain ⟨a1,c1,rfl⟩:=h1.slice;have l1:=h1.len
 have t1:=s.ro (p:=.sl E (.slice a1 xs[i].length c1) xs[i] G) hm rfl rfl ⟨hz,h1⟩ (by intro b hb;simp only [Pc.F] at hb ⊢;exact hG b (by simp [hb]))
 exact (h hi b o a1 c1 G ha l1).h ac w (t1.ro (List.mem_cons_of_mem _ hm) rfl rfl ⟨hne,hr⟩ (by intro x hx;simp [Pc.F] at hx;subst hx;exact hb)) g
theorem openOSl {α:Type} {O:Elem α} {t:TypeId} {v:Value} {xs:List α} {F:List Nat} {S:List Pc} (h:∀(a1:Option Addr) (c1:Nat),v=.agg #[.slice a1 xs.length c1]→xs.length≤maxLen→T c fr (.ow O t (.slice a1 xs.length c1) xs F::S) Φ) (hp:Pick H (.own (OSl O t) v xs F) S:=by (repeat (first|exact .here|apply Pick.there));first|done|fail):T c fr H Φ:=.mk fun a w s g=>by
 have z1:=s.pick hp
 obtain ⟨hn,cs,rfl,v1,rfl,h1⟩:=z1.on (.own (OSl O t) v xs F) (by simp)
 obtain ⟨a1,c1,rfl⟩:=h1.slice
 have l1:=h1.len
 exact (h a1 c1 rfl l1).h a w (z1.conv rfl ⟨hn,h1⟩ (fun b hb=>hb)) g
theorem closeOSl {α:Type} {O:Elem α} {t:TypeId} (xs:List α) {a1:Option Addr} {c1:Nat} {F:List Nat} {S:List Pc} (h:T c fr (.own (OSl O t) (.agg #[.slice a1 xs.length c1]) xs F::S) Φ) (hp:Pick H (.ow O t (.slice a1 xs.length c1) xs F) S:=by (repeat (first|exact .here|apply Pick.there));first|done|fail):T c fr H Φ:=.mk fun a w s g=>by
 have z1:=s.pick hp
 obtain ⟨hn,h1⟩:=z1.on (.ow O t (.slice a1 xs.length c1) xs F) (by simp)
 exact h.h a w (z1.conv rfl ⟨hn,_,rfl,_,rfl,h1⟩ (fun b hb=>hb)) g
end
theorem sep_roA:∀(A:List Pc),A.all (fun p=>!p.mu)=true→Sep A
 | [],_=>trivial
 | p::A,h=>by
  simp only [List.all_cons,Bool.and_eq_true,Bool.not_eq_true'] at h
  exact ⟨fun q hq hm=>by
   have hq':=List.all_eq_true.1 h.2 q hq
   simp only [Bool.not_eq_true'] at hq'
   rw [h.1,hq'] at hm;simp at hm,sep_roA A h.2⟩
section
variable {c:Cx} {fr:Fr} {H:List Pc} {d:Nat} {Φ:Gl}
theorem cfr {f:Nat} {vs:List Value} {σ:Type} {C:σ→Prop} {vv:σ→Value} {N:σ→List Pc} (hf:∀w,St c.G c.D c.w0 H w→∃A,Hol A w∧A.all (fun p=>!p.mu)=true∧Fn c.P f vs A [] C vv N)
  (h:∀s,C s→T c ((d,vv s)::fr) (N s++H) Φ) (hN:∀s,(N s).all (·.mu)=true:=by intro s;rfl):Cl c fr H d f vs Φ :=
 cl_of (R:=fun w e w'=>∃s,C s∧e=.returned (vv s)∧Hol (N s) w'∧Sep (N s)∧Keep [] w w'∧∀p∈N s,∀b∈p.F,w.heap.size≤b)
  (fun w s=>by
   obtain ⟨A,hA,hm,hF⟩:=hf w s
   refine (hF w (by simpa using hA) (by simpa using sep_roA A hm)).mono fun e w' ⟨z,hz,he,h1,h2,h3,h4⟩=>⟨z,hz,he,h1,h2,h3,fun p hp b hb=>?_⟩
   rcases h4 p hp b hb with h|⟨q,hq, -⟩|⟨hp', -⟩
   ·exact h
   ·cases hq
   ·have:=List.all_eq_true.1 (hN z) p hp
    rw [hp'] at this;cases this)
  (fun w e w' s ⟨z,hz,he,h1,h2,h3,h4⟩=>⟨_,he,fun a g=>(h z hz).h a w' (St.turn (M:=[]) (R:=H) (N:=N z) s h3 h1 h2 fun p hp b hb=>.inl (h4 p hp b hb)) g⟩)
theorem sep_lend {M A R:List Pc} (hm:M.all (·.mu)=true) (hA:A.all (fun p=>!p.mu)=true) (hb:∀p∈A,∀b∈p.F,∃q∈R,b∈q.F):Sep (M++R)→Sep (M++A):=by
 induction M with
 | nil=>intro _;exact sep_roA A hA
 | cons p M ih =>
  simp only [List.all_cons,Bool.and_eq_true] at hm
  intro s
  refine ⟨fun q hq=>?_,ih hm.2 s.2⟩
  rcases List.mem_append.1 hq with h|h
  ·exact s.1 q (by simp [h])
  ·intro _ b hp hq2
   obtain ⟨r,hr,hbr⟩:=hb q h b hq2
   exact s.1 r (by simp [hr]) (by rw [hm.1];rfl) b hp hbr
theorem cfm {f:Nat} {vs:List Value} {M R:List Pc} {σ:Type} {C:σ→Prop} {vv:σ→Value} {N:σ→List Pc} (hM:Picks H M R) (hf:∀w,St c.G c.D c.w0 (M++R) w→∃A,Hol A w∧A.all (fun p=>!p.mu)=true∧(∀p∈A,∀b∈p.F,∃q∈R,b∈q.F)∧Fn c.P f vs A M C vv N)
  (h:∀s,C s→T c ((d,vv s)::fr) (N s++R) Φ) (hmM:M.all (·.mu)=true:=by rfl) (hN:∀s,(N s).all (·.mu)=true:=by intro s;rfl):Cl c fr H d f vs Φ :=
 have hMR:∀w,St c.G c.D c.w0 H w→St c.G c.D c.w0 (M++R) w:=fun w s=>by simpa using hM.st (X:=[]) (by simpa using s)
 have hmu:∀p∈M,p.mu=true:=fun p hp=>List.all_eq_true.1 hmM p hp
 cl_of (R:=fun w e w'=>∃s,C s∧e=.returned (vv s)∧Hol (N s) w'∧Sep (N s)∧Keep (fp M) w w'∧∀p∈N s,∀b∈p.F,w.heap.size≤b∨∃q∈M,b∈q.F)
  (fun w s=>by
   obtain ⟨A,hA,hm,hb,hF⟩:=hf w (hMR w s)
   have s2:=hMR w s
   refine (hF w (fun p hp=>?_) (sep_lend hmM hm hb s2.sep)).mono fun e w' ⟨z,hz,he,h1,h2,h3,h4⟩=>⟨z,hz,he,h1,h2,h3,fun p hp b hb=>?_⟩
   ·rcases List.mem_append.1 hp with hp|hp
    ·exact s2.on p (by simp [hp])
    ·exact hA p hp
   ·rcases h4 p hp b hb with h|h|⟨hp', -⟩
    ·exact .inl h
    ·exact .inr h
    ·have:=List.all_eq_true.1 (hN z) p hp
     rw [hp'] at this;cases this)
  (fun w e w' s ⟨z,hz,he,h1,h2,h3,h4⟩=>⟨_,he,fun a g=>(h z hz).h a w' (St.turn (hMR w s) (by rwa [List.filter_eq_self.2 hmu]) h1 h2 fun p hp b hb=>by
   rcases h4 p hp b hb with h|⟨q,hq,hqb⟩
   ·exact .inl h
   ·exact .inr (.inl ⟨q,hq,hmu q hq,hqb⟩)) g⟩)
theorem t_each {α:Type} {E:Elem α} (Q:α→Prop) (hQ:∀w cs x F,E.rep w cs x F→Q x) {a:Option Addr} {n cp:Nat} {xs:List α} {F:List Nat} (h:(∀x∈xs,Q x)→T c fr H Φ) (hm:.sl E (.slice a n cp) xs F∈H:=by (repeat (first|exact .head _|apply List.Mem.tail));first|done|fail):T c fr H Φ:=.mk fun ac w s g =>
 (h fun x hx=>by
  obtain ⟨k,hk,rfl⟩:=List.getElem_of_mem hx
  obtain ⟨-,hs⟩:=s.get hm
  obtain ⟨-, -,cs,F1, -,h1, -, -⟩:=hs.at k hk
  exact hQ _ _ _ _ h1).h ac w s g
theorem t_fall {P:Program} {fn:Func} {G D:List Nat} {w0:World} {n:Nat} {R:Ending→World→Prop} (h:T ⟨P,G,D,w0,n,bodyPost P fn R⟩ fr H (.fin .ret)):T ⟨P,G,D,w0,n,bodyPost P fn R⟩ fr H (.norm []):=n_end ⟨fun a w s g=>h.h a w s g⟩
end
section
variable {P:Program} {ops:Array Oper} {Q:Exit→Act→World→Prop} {md:Region.Mode} {S:World→Prop} {X:Nat→Bool}
theorem AnyX.firstP {i:Nat} {oi:Oper} {v:Value} (hi:ops[i]?=some oi) (hsel:∀(j:Nat) (o:Oper) cs b,ops[j]?=some o→o.op≠.select cs b)
  (hQ:∀c a w,Q (.panic c) (a.put oi.dst v) w→Q (.panic c) a w) (hXi:X i=true) :
  ∀(f:Nat) (listed:Array Bool) (a:Act) (w:World),
   (∀j oj,ops[j]?=some oj→j≠i→listed.getD j true=false→(∀e∈oj.after,Region.binds md e=true→e.on≠i)→oi.apart ops oj=true) →
   i∈Region.ready md ops listed→YieldsIf P ops (fun _=>True) oi v a→AnyX P md ops Q S X f (listed.setIfInBounds i true) (a.put oi.dst v) w→AnyX P md ops Q S X (f+1) listed a w:=by
 intro f
 induction f with
 | zero =>
  intro listed a w _ hr hy H
  refine ⟨fun h=>(by rw [h] at hr;cases hr),fun j hj=>?_⟩
  by_cases hji:j=i
  ·subst hji;exact hy.wpOp hi trivial ⟨(fun h=>by rw [hXi] at h;cases h),H⟩
  ·have:=ready_mono hj hji
   rw [H.1] at this;cases this
 | succ f ih =>
  intro listed a w hfree hr hy H
  refine ⟨fun h=>(by rw [h] at hr;cases hr),fun j hj=>?_⟩
  by_cases hji:j=i
  ·subst hji;exact hy.wpOp hi trivial ⟨(fun h=>by rw [hXi] at h;cases h),H⟩
  ·obtain ⟨hju,oj,hoj,hall⟩:=mem_ready.1 hj
   have hiu:=unlisted (mem_ready.1 hr).1
   have hnot:∀e∈oj.after,Region.binds md e=true→e.on≠i:=fun e he hb heq=>by
    have h1:=hall e he hb
    rw [heq,hiu] at h1;cases h1
   have h2:=wpOp_putIf hoj (hfree j oj hoj hji hju hnot) (fun cs b=>hsel i oi cs b hi) (fun cs b=>hsel j oj cs b hoj) hQ hy (H.2 j (ready_mono hj hji))
   refine wpOp_mono (fun a' w' h3=>⟨h3.2.1,ih (listed.setIfInBounds j true) a' w' (fun k ok hk hki hun hno=>hfree k ok hk hki ?_ hno) (ready_mono hr (Ne.symm hji)) h3.1 ?_⟩) h2
   ·by_cases hjk:j=k
    ·subst hjk;exact hju
    ·rw [getD_set_ne true hjk] at hun;exact hun
   ·rw [Array.setIfInBounds_comm _ _ hji];exact h3.2.2
theorem AnyX.takeP {i:Nat} {oi:Oper} {v:Value} {f:Nat} {listed:Array Bool} {a:Act} {w:World} (hi:ops[i]?=some oi)
  (hs:Region.noSelect ops=true) (hf:Region.free md ops listed i=true) (hr:(Region.ready md ops listed).contains i=true) (hXi:X i=true)
  (hQ:∀c a w,Q (.panic c) (a.put oi.dst v) w→Q (.panic c) a w) (hy:YieldsIf P ops (fun _=>True) oi v a)
  (h:AnyX P md ops Q S X f (listed.setIfInBounds i true) (a.put oi.dst v) w):AnyX P md ops Q S X (f+1) listed a w :=
 AnyX.firstP hi (Region.noSelect_spec hs) hQ hXi f listed a w (Region.free_spec hi hf) (by simpa using hr) hy h
end
section
variable {c:Cx} {fr:Fr} {H H0:List Pc} {k:List It} {X:List Nat} {ops:Array Oper} {f:Nat} {listed:Array Bool} {d:Nat} {o:Op} {ty:TypeId} {pos:String} {aft:Array Edge} {v:Value}
theorem dtp (i:Nat) (h:T c ((d,v)::fr) H (.dx k H0 X ops f (listed.setIfInBounds i true))) (ho:ops[i]?=some ⟨some d,o,ty,pos,aft,none⟩:=by rw [List.getElem?_toArray];rfl) (hy:Yd c.P c.n fr [] o ty v:=by exact ydE) (hX:X.contains i=true:=by rfl)
  (h1:Region.noSelect ops=true:=by kernel_rfl) (h2:Region.free .any ops listed i=true:=by kernel_rfl) (h3:(Region.ready .any ops listed).contains i=true:=by kernel_rfl) (hR:PanOk c:=by exact panOk) (hd:Nat.blt d c.n=true:=by rfl) :
  T c fr H (.dx k H0 X ops (f+1) listed):=.mk fun a w s g =>
 AnyX.takeP (v:=v) ho h1 h2 h3 hX (fun ch a w hp=>by rw [run_panic] at hp ⊢;exact hR _ _ _ _ _ hp) (.inl ⟨rfl,fun w' _=>hy.h a w' _ _ _ _ g (by intro p hp;simp at hp)⟩) (h.h _ _ s (g.put hd))
theorem c_join2 {c:Cx} {fr:Fr} {H:List Pc} {k:List It} {x y:Code} {σ:Type} {cst:Fr} {rest:List Pc} (ks rs:List Nat) (upd:σ→Fr) (chg:σ→List Pc) (C:σ→Prop) (h:T c fr H (.code (.cd y::.lp (Jn c (fun s=>upd s++cst) (fun s=>chg s++rest) C)::k) x)) (h2:∀s,C s→T c (upd s++cst) (chg s++rest) (.norm k))
  (_hk:Kf fr ks cst:=by repeat (first|exact Kf.nil|apply Kf.cons (by rfl))) (_hr:Sel H rs rest:=by repeat constructor):T c fr H (.code (.cd y::k) x):=.mk fun a w s g=>by
 refine wp_mono (h.h a w s g) fun e a1 w1 he=>?_
 cases e with
 | normal =>
  refine wp_mono he fun e a2 w2 he=>?_
  cases e with
  | normal=>obtain ⟨s,hC,hs,hg⟩:=he;exact (h2 s hC).h a2 w2 hs hg
  | _=>exact he
 | _=>exact he
end
section
variable {c:Cx} {fr:Fr} {H H0:List Pc} {k:List It} {Φ:Gl} {X:List Nat} {ops:Array Oper} {f:Nat} {listed:Array Bool} {d:Nat} {o:Op} {ty:TypeId} {v u:Value} {x y:Operand}
theorem t_weakV {α:Type} {O R:Elem α} (hW:Weak O R) {v:Value} {x:α} {F:List Nat} {S:List Pc} (h:∀F',T c fr (.isv R v x F'::S) Φ) (hp:Pick H (.own O v x F) S:=by (repeat (first|exact .here|apply Pick.there));first|done|fail):T c fr H Φ:=.mk fun a w s g=>by
 have s1:=s.pick hp
 obtain ⟨-,ho⟩:=s1.on (.own O v x F) (by simp)
 obtain ⟨F',hF,hs⟩:=IsV.weak hW ho
 exact (h F').h a w (s1.conv rfl hs hF) g
theorem t_weakL {α:Type} {O R:Elem α} (hW:Weak O R) {t:TypeId} {v:Value} {xs:List α} {F:List Nat} {S:List Pc} (h:∀F',T c fr (.sl R v xs F'::S) Φ) (hp:Pick H (.ow O t v xs F) S:=by (repeat (first|exact .here|apply Pick.there));first|done|fail) (hz:0 < R.sz:=by decide):T c fr H Φ:=.mk fun a w s g=>by
 have s1:=s.pick hp
 obtain ⟨-,ho⟩:=s1.on (.ow O t v xs F) (by simp)
 obtain ⟨F',hF,hs⟩:=ho.sl hW
 exact (h F').h a w (s1.conv rfl ⟨hz,hs⟩ hF) g
theorem t_aggI {α:Type} {E:Elem α} {v:Value} {x:α} {F:List Nat} (one:One E) (h:∀cs:List Value,v=.agg cs.toArray→cs.length=E.sz→cs.all (·.oneCell')=true→T c fr H Φ) (hm:.isv E v x F∈H:=by (repeat (first|exact .head _|apply List.Mem.tail));first|done|fail):T c fr H Φ:=.mk fun a w s g=>by
 obtain ⟨cs,hv,hx⟩:=s.get hm
 exact (h cs hv (E.len hx) (List.all_eq_true.2 fun u hu=>one hx u hu)).h a w s g
theorem t_aggO {α:Type} {E:Elem α} {v:Value} {x:α} {F:List Nat} (one:One E) (h:∀cs:List Value,v=.agg cs.toArray→cs.length=E.sz→cs.all (·.oneCell')=true→T c fr H Φ) (hm:.own E v x F∈H:=by (repeat (first|exact .head _|apply List.Mem.tail));first|done|fail):T c fr H Φ:=.mk fun a w s g=>by
 obtain ⟨-,cs,hv,hx⟩:=s.get hm
 exact (h cs hv (E.len hx) (List.all_eq_true.2 fun u hu=>one hx u hu)).h a w s g
theorem Put.all:∀{zs l:List Value},zs.length=l.length→Put zs 0 l l
 | [],[],_=>.zero
 | [],_::_,h=>by simp at h
 | _::_,[],h=>by simp at h
 | _::zs,_::l,h=>.one (Put.all (by simpa using h))
theorem yd_ldw {P:Program} {n:Nat} {H:List Pc} {t g o tt m:Nat} {A cs B:List Value} [AggC P t m] (hx:ev fr x=some (ptr g o 0)) (hm:Pc.row g tt o A cs B∈H) (hl:cs.length=m):Yd P n fr H (.load t x) ty (.agg cs.toArray):=yd_lda hx hm (hl▸Cut.whole cs)
theorem cm {f:Nat} {vs:List Value} {σ:Type} {C:σ→Prop} {vv:σ→Value} {N:σ→List Pc} (hc:∀w,St c.G c.D c.w0 H w→Calls c.P f vs.toArray w fun e w'=>∃s,C s∧e=.returned (vv s)∧Hol (N s) w'∧(fp (N s)).Nodup∧(∀b∈fp (N s),w.heap.size≤b)∧Below w.heap.size w w')
  (h:∀s,C s→T c ((d,vv s)::fr) (N s++H) Φ):Cl c fr H d f vs Φ :=
 cl_of hc (fun w e w' s hR=>by
  obtain ⟨z,hz,he,hN,hn,hF,hB⟩:=hR
  have sep:∀{N:List Pc},(fp N).Nodup→Sep N:=by
   intro N
   induction N with
   | nil=>intro _;trivial
   | cons p N ih =>
    intro h
    rw [fp,List.nodup_append] at h
    exact ⟨fun q hq _ b hb hq2=>h.2.2 b hb b (mem_fp.2 ⟨q,hq,hq2⟩) rfl,ih h.2.1⟩
  exact ⟨_,he,fun ac g=>(h z hz).h ac w' (s.add (N:=N z) hB hN (sep hn) (fun p hp b hb=>.inl (hF b (mem_fp.2 ⟨p,hp,hb⟩)))) g⟩)
theorem d_startA {id:Nat} {l:List Oper} (X:List Nat) (h:T c fr H (.dx k H X l.toArray l.length (Array.replicate l.length false))) (hm:c.P.follows .mixedOrders=true:=by kernel_rfl):T c fr H (.code k (Code.region id l.toArray true)):=.mk fun a w s g=>by
 refine AnyX.start (S:=Hol H) (X:=fun i=>X.contains i) hm ?_
 have:=h.h a w.drew (s.below (belowDrewN (Below.refl _ _) 1)) g
 simpa [Gl.sem] using this
theorem o_stw {t g tt m:Nat} {cs l:List Value} {S:List Pc} (hx:ev fr x=some (ptr g 0 0)) (hy:ev fr y=some (.agg l.toArray)) (hs:(c.P.info? t).map (·.size)=some m) (hr:Rpl H (.row g tt 0 [] cs []) (.row g tt 0 [] l []) S) (hl:l.length=m) (hc:cs.length=m) (h1:l.all (·.oneCell')=true) (h:T c fr S Φ):On c fr H none (.store t x y) ty Φ :=
 o_st hx hy rfl hs hl hr (Put.all (by omega)) h1 h
end
/-! contracts, with what they ask read off pieces -/
theorem ex1 {α:Type} {A:α→Prop} {C:Prop} (f:∀a,A a→C):(∃a,A a)→C:=fun ⟨a,h⟩=>f a h
theorem ex2 {α β:Type} {A:α→Prop} {B:β→Prop} {C:Prop} (f:∀a b,A a→B b→C):(∃a,A a)→(∃b,B b)→C:=fun ⟨a,h⟩ ⟨b,h2⟩=>f a b h h2
section
variable {G D:List Nat} {w0 w:World} {H:List Pc}
theorem St.rI {α:Type} {E:Elem α} {v:Value} {x:α} {F:List Nat} (s:St G D w0 H w) (hm:.isv E v x F∈H:=by (repeat (first|exact .head _|apply List.Mem.tail));first|done|fail):∃F',IsV E w v x F':=⟨F,s.get hm⟩
theorem St.rO {α:Type} {O R:Elem α} (hW:Weak O R) {v:Value} {x:α} {F:List Nat} (s:St G D w0 H w) (hm:.own O v x F∈H:=by (repeat (first|exact .head _|apply List.Mem.tail));first|done|fail):∃F',IsV R w v x F':=by
 obtain ⟨-,ho⟩:=s.get hm
 obtain ⟨F', -,h⟩:=IsV.weak hW ho
 exact ⟨F',h⟩
theorem St.rS {α:Type} {E:Elem α} {v:Value} {xs:List α} {F:List Nat} (s:St G D w0 H w) (hm:.sl E v xs F∈H:=by (repeat (first|exact .head _|apply List.Mem.tail));first|done|fail):∃F',Sl E w v xs F':=⟨F,(s.get hm).2⟩
theorem St.rL {α:Type} {O R:Elem α} (hW:Weak O R) {t:TypeId} {v:Value} {xs:List α} {F:List Nat} (s:St G D w0 H w) (hm:.ow O t v xs F∈H:=by (repeat (first|exact .head _|apply List.Mem.tail));first|done|fail):∃F',Sl R w v xs F':=by
 obtain ⟨-,ho⟩:=s.get hm
 obtain ⟨F', -,h⟩:=ho.sl hW
 exact ⟨F',h⟩
end
theorem fn_markV {P:Program} {α:Type} {O:Elem α} {f:FuncId} {v:Value} {x x':α} {F:List Nat} {k m:Int} (h:∀w,IsV O w v x F→F.Nodup→Calls P f #[v,.int .i64 k] w (RetMarkV O v m x' F w)):Fn P f [v,.int .i64 k] [] [.own O v x F] (fun (_:Unit)=>True) (fun _=>.int .i64 m) (fun _=>[.own O v x' F]):=fun w hH _=>by
 obtain ⟨hn,ho⟩:=hH (.own O v x F) (by simp)
 refine (h w ho hn).mono ?_
 rintro e w' ⟨he,h1,h2⟩
 refine ⟨(),trivial,he,hol1 ⟨hn,h1⟩,⟨by simp,trivial⟩,by simpa [fp,Pc.F] using h2,fun p hp b hb=>?_⟩
 rw [List.mem_singleton] at hp;subst hp
 exact .inr (.inl ⟨_,List.mem_singleton.2 rfl,hb⟩)
theorem fn_markL {P:Program} {α:Type} {O:Elem α} {t:TypeId} {f:FuncId} {v:Value} {x x':List α} {F:List Nat} {k m:Int} (h:∀w,Ow O t w v x F→F.Nodup→Calls P f #[v,.int .i64 k] w (RetMark O t v m x' F w)):Fn P f [v,.int .i64 k] [] [.ow O t v x F] (fun (_:Unit)=>True) (fun _=>.int .i64 m) (fun _=>[.ow O t v x' F]):=fun w hH _=>by
 obtain ⟨hn,ho⟩:=hH (.ow O t v x F) (by simp)
 refine (h w ho hn).mono ?_
 rintro e w' ⟨he,h1,h2⟩
 refine ⟨(),trivial,he,hol1 ⟨hn,h1⟩,⟨by simp,trivial⟩,by simpa [fp,Pc.F] using h2,fun p hp b hb=>?_⟩
 rw [List.mem_singleton] at hp;subst hp
 exact .inr (.inl ⟨_,List.mem_singleton.2 rfl,hb⟩)
theorem getN {α:Type} {l:List α} {i:Nat} (h:i < l.length) (x:α):l.getD i x=l[i]:=by rw [List.getD_eq_getElem?_getD,List.getElem?_eq_getElem h];rfl
theorem netPush_f (d:List (List Packet)) (i:Nat) (p:Packet) (a:Option Addr) (n c:Nat) (F:List Nat) (hn:n=d.length) (hi:i < d.length) (hs:p.data.size≤maxLen):Fn Tryz.prog 132 [.slice a n c,.int .i64 (i:Nat),.agg #[.int .i64 (p).kind,.int .i64 (p).number,.int .i64 (p).trail,.int .i64 (p).lead,.string (p).data]] [] [.ow (OSl EPacket 127) 132 (.slice a n c) d F] (fun (_:List Nat)=>True) (fun _=>.tuple #[]) (fun G=>[.ow (OSl EPacket 127) 132 (.slice a n c) (d.set i (pushQ d[i] p)) G]):=by
 refine enter Tryz.func132 rfl Tryz.ntmps132 fun w0=>?_
 refine focO (m:=1) i ?_ rfl hi
 rintro _ g A cs B k1 k2 G1 Gi G2 rfl - hc hH
 refine openOSl ?_
 rintro a5 c5 ev l5
 obtain rfl:cs=[.slice a5 d[i].length c5]:=by simpa using ev
 refine go ?_;intros
 refine c_if rfl (fun h1=>?_) (fun h1=>?_)
 ·have h6:d[i].length < 6:=by omega
  rw [show pushQ d[i] p=d[i]++[p] by unfold pushQ;rw [if_pos h6]]
  refine go ?_;intros
  refine d_start [0,2] [10] ?_
  refine dt4 0 1 2 3 ?_
  refine dt2 4 5 ?_
  refine dt 6 ?_
  refine dN 7 ?_
  apply o_bs;rfl;rfl;rfl;rfl;exact rptE;exact filE;intro _
  refine dk ?_
  refine dN 8 ?_
  refine ap1 (ys:=[p]) (flatPacket p hs) one_EPacket fun a7 c7 F7=>?_
  refine dk ?_
  refine dt 9 ?_
  refine dN 10 ?_
  refine oS ?_
  refine dkx ?_
  refine dd ?_
  refine closeOSl (d[i]++[p]) ?_
  refine go ?_;intros
  refine unfO _ hH rfl fun F6=>?_
  refine t_fall ?_
  refine ret F6 trivial rfl
 ·rw [show pushQ d[i] p=d[i] by unfold pushQ;rw [if_neg (by omega)]]
  refine go ?_;intros
  refine closeOSl d[i] ?_
  refine unfO _ hH rfl fun F6=>?_
  refine t_fall ?_
  refine ret F6 trivial rfl
theorem putQ_snoc (q l:List Packet) (p:Packet):putQ q (l++[p])=pushQ (putQ q l) p:=by
 unfold putQ pushQ
 by_cases h:l.length < 6 - q.length
 ·rw [List.take_of_length_le (by rw [List.length_append];simp;omega),List.take_of_length_le (by omega),if_pos (by rw [List.length_append];omega),List.append_assoc]
 ·have e:(l++[p]).take (6 - q.length)=l.take (6 - q.length):=by rw [List.take_append_of_le_length (by omega)]
  rw [e,if_neg (by rw [List.length_append,List.length_take];omega)]
def putAt (s:List (List Packet)) (i:Nat) (ps:List Packet):List (List Packet):=s.modify i fun q=>putQ q ps
theorem putAt_len (s:List (List Packet)) (i:Nat) (ps:List Packet):(putAt s i ps).length=s.length:=List.length_modify ..
theorem putAt_nil (s:List (List Packet)) (i:Nat):putAt s i []=s:=by
 unfold putAt
 by_cases h:i < s.length
 ·rw [modify_set h,putQ_nil,List.set_getElem_self]
 ·exact modify_out h
theorem putAt_step {s:List (List Packet)} {i j:Nat} {ps:List Packet} (hi:i < s.length) (hj:j < ps.length) (h:i < (putAt s i (ps.take j)).length):(putAt s i (ps.take j)).set i (pushQ (putAt s i (ps.take j))[i] ps[j])=putAt s i (ps.take (j+1)):=by
 unfold putAt
 simp only [modify_set hi]
 rw [List.getElem_set_self,List.set_set,List.take_succ_eq_append_getElem hj,putQ_snoc]
theorem spread_take {d:List (List Packet)} {nodes:List Int} {ps:List Packet} {k:Nat} (hk:k < nodes.length):spread d (nodes.take (k+1)) ps=putAt (spread d (nodes.take k) ps) nodes[k].toNat ps:=by rw [List.take_succ_eq_append_getElem hk,spread_snoc];rfl
structure KF where
 k:Nat
 F:List Nat
theorem down_f (d:List (List Packet)) (nodes:List Int) (ps:List Packet) (g:Nat) (v0 v1 v2 v3 v4 v5 v6 v7 v8 v10:Value) (a:Option Addr) (n c:Nat) (F:List Nat) (an:Option Addr) (cn:Nat) (Fn_:List Nat) (ap:Option Addr) (cp:Nat) (Fp:List Nat) (hn:n=d.length) (hx:∀x∈nodes,0≤x∧x.toNat < d.length) :
  Fn Tryz.prog 102 [ptr g 0 0,.slice an nodes.length cn,.slice ap ps.length cp] [.sl EInt (.slice an nodes.length cn) nodes Fn_,.sl EPacket (.slice ap ps.length cp) ps Fp] [.row g 49 0 [] [v0,v1,v2,v3,v4,v5,v6,v7,v8,.slice a n c,v10] [],.ow (OSl EPacket 127) 132 (.slice a n c) d F] (fun (_:List Nat)=>True) (fun _=>.tuple #[]) (fun G=>[.row g 49 0 [] [v0,v1,v2,v3,v4,v5,v6,v7,v8,.slice a n c,v10] [],.ow (OSl EPacket 127) 132 (.slice a n c) (spread d nodes ps) G]):=by
 refine enter Tryz.func102 rfl Tryz.ntmps102 fun w0=>?_
 refine t_sl (E:=EInt) (xs:=nodes) ?_
 rintro _ _ e0 hn1 hn2
 refine t_sl (E:=EPacket) (xs:=ps) ?_
 rintro _ _ e3 hp1 hp2
 refine t_each (E:=EPacket) (fun p:Packet=>p.data.size≤maxLen) (fun w cs x F h=>by obtain ⟨_,h,_⟩:=h;exact h) ?_
 intro hz
 cases e0;cases e3
 refine go ?_;intros
 refine c_loopS [0,2,10,11] (fun z:KF=>[(12,.int .i64 (z.k:Nat))]) (fun z=>[.ow (OSl EPacket 127) 132 (.slice a n c) (spread d (nodes.take z.k) ps) z.F]) (fun z=>z.k≤nodes.length) (fun z=>nodes.length - z.k) ⟨0,_⟩ (Nat.zero_le _) fun z hz0=>?_
 have hsl:=spread_len ps (nodes.take z.k) d
 refine go ?_;intros
 refine c_if rfl (fun h1=>?_) (fun h1=>?_)
 ·have hk:z.k < nodes.length:=by omega
  obtain ⟨x0,x1⟩:=hx _ (List.getElem_mem hk)
  obtain ⟨i,hi⟩:∃i:Nat,nodes[z.k]=((i:Nat):Int):=⟨nodes[z.k].toNat,by omega⟩
  have hil:i < (spread d (nodes.take z.k) ps).length:=by omega
  have hst:=spread_take (d:=d) (ps:=ps) hk
  rw [show nodes[z.k].toNat=i by omega] at hst
  refine at_int (xs:=nodes) z.k ?_
  rintro hi2 b o e1
  rw [e1,hi]
  refine go ?_;intros
  rw [show spread d (nodes.take z.k) ps=putAt (spread d (nodes.take z.k) ps) i (ps.take 0) by rw [List.take_zero,putAt_nil]]
  refine c_loopS [0,2,7,10,11,12,13,14,15,16,17] (fun y:KF=>[(18,.int .i64 (y.k:Nat))]) (fun y=>[.ow (OSl EPacket 127) 132 (.slice a n c) (putAt (spread d (nodes.take z.k) ps) i (ps.take y.k)) y.F]) (fun y=>y.k≤ps.length) (fun y=>ps.length - y.k) ⟨0,z.F⟩ (Nat.zero_le _) fun y hy0=>?_
  have hpl:=putAt_len (spread d (nodes.take z.k) ps) i (ps.take y.k)
  refine go ?_;intros
  refine c_if rfl (fun h2=>?_) (fun h2=>?_)
  ·have hj:y.k < ps.length:=by omega
   refine atPacket (xs:=ps) y.k ?_
   rintro hi3 b3 o3 e3 s3
   rw [e3]
   refine go ?_;intros
   refine d_start [0,4] [] ?_
   refine dt4 0 1 2 3 ?_
   refine dt2 4 5 ?_
   refine dN 6 ?_
   refine oC ?_
   refine cf (netPush_f (putAt (spread d (nodes.take z.k) ps) i (ps.take y.k)) i ps[y.k] a n c y.F (by omega) (by omega) s3) fun f1 _=>?_
   refine t_app ?_
   rw [putAt_step hil hj]
   refine dk ?_
   refine dd ?_
   refine go ?_;intros
   refine n_lp ⟨y.k+1,f1⟩ hj (by show ps.length - (y.k+1) < ps.length - y.k;omega)
  ·rw [show ps.take y.k=ps from List.take_of_length_le (by omega),←hst]
   refine go ?_;intros
   refine n_lp ⟨z.k+1,y.F⟩ hk (by show nodes.length - (z.k+1) < nodes.length - z.k;omega)
 ·rw [show nodes.take z.k=nodes from List.take_of_length_le (by omega)]
  refine go ?_;intros
  refine t_fall ?_
  refine ret z.F trivial rfl
section
variable {c:Cx} {fr:Fr} {H:List Pc} {Φ:Gl}
theorem atRequest {a:Option Addr} {n cp:Nat} {xs:List Request} {F:List Nat} (i:Nat) (h:∀(hi:i < xs.length) (b o:Nat),a=some ⟨b,o,none⟩→T c fr (.cel b (o+i * 4) [.int .i64 xs[i].number,.int .i64 xs[i].state,.int .i64 xs[i].untl,.int .i64 xs[i].tries]::H) Φ) (hm:.sl ERequest (.slice a n cp) xs F∈H:=by (repeat (first|exact .head _|apply List.Mem.tail));first|done|fail) (hi:i < xs.length:=by omega):T c fr H Φ:=.mk fun ac w s g=>by
 obtain ⟨b,o,cs,G,ha,hrep,hG,hb,hne,hr⟩:=sl_at (s.get hm) i hi
 obtain ⟨rfl,rfl⟩:=hrep
 exact (h hi b o  ha  ).h ac w (s.ro hm rfl rfl ⟨hne,hr⟩ (by intro x hx;simp [Pc.F] at hx;subst hx;exact hb)) g
theorem focRequest {t:TypeId} {a:Option Addr} {n cp:Nat} {xs:List Request} {F:List Nat} {S:List Pc} (i:Nat) (h:∀(_:i < xs.length) g A B,a=some ⟨g,0,none⟩→F=[g]→Hole ERequest t g (.slice (some ⟨g,0,none⟩) n cp) xs i A B→T c fr (.row g t (0+i * 4) A [.int .i64 xs[i].number,.int .i64 xs[i].state,.int .i64 xs[i].untl,.int .i64 xs[i].tries] B::S) Φ) (hp:Pick H (.ow ERequest t (.slice a n cp) xs F) S:=by (repeat (first|exact .here|apply Pick.there));first|done|fail) (hi:i < xs.length:=by omega):T c fr H Φ :=
 focF scal_ERequest i (fun hi g A cs B ha hF hr hh=>by obtain ⟨rfl, -⟩:=hr default;exact h hi g A B ha hF  hh) hp rfl hi
theorem flatRequest (x:Request)  (w:World):Flat ERequest w [.int .i64 x.number,.int .i64 x.state,.int .i64 x.untl,.int .i64 x.tries] [x] []:=⟨_,[],[],[],by simp,by simp,⟨rfl,rfl⟩,rfl,rfl⟩
end
theorem yd_eqn {P:Program} {n:Nat} {fr:Fr} {H:List Pc} {ty t':TypeId} {x:Operand} {t e m:Nat} [hS:SlC P t e m] {a:Option Addr} {l c:Nat} (hx:ev fr x=some (.slice a l c)):Yd P n fr H (.binOp .eql t x (.const (.slice none 0 0)) t') ty (.bool a.isNone):=.mk fun ac w d pos aft gd hA _=>by
 have he:ac.eval (.const (.slice none 0 0))=.slice none 0 0:=rfl
 have eg:eqGuard .eql t x (.const (.slice none 0 0)) (.slice a l c) (.slice none 0 0)=pure ():=by unfold eqGuard;simp
 simp only [execOp,hA.ev hx,he,eg,Sem.run_bind,Sem.run_pure,Result.andThen_ok,Lib.run_eql_slice_nil w t e a l c 0 0 hS.u]
theorem t_none {c:Cx} {fr:Fr} {H:List Pc} {Φ:Gl} {α:Type} {E:Elem α} {n cp:Nat} {xs:List α} {F:List Nat} (h:xs=[]→T c fr H Φ) (hm:.sl E (.slice none n cp) xs F∈H:=by (repeat (first|exact .head _|apply List.Mem.tail));first|done|fail):T c fr H Φ:=.mk fun ac w s g=>by
 obtain ⟨-,a,cap,hv, -,⟨rfl, -, -⟩|⟨b,off,F',rfl, -⟩⟩:=s.get hm
 ·exact (h rfl).h ac w s g
 ·cases hv
theorem ClRequest_f (xs:List Request) (a:Option Addr) (c:Nat) (F:List Nat) (hl:xs.length≤1000000000) :
  Fn Tryz.prog 190 [.slice a xs.length c] [.sl ERequest (.slice a xs.length c) xs F] [] (fun (_:Option Addr × Nat × List Nat)=>True) (fun z=>.slice z.1 xs.length z.2.1) (fun z=>[.ow ERequest 235 (.slice z.1 xs.length z.2.1) xs z.2.2]):=by
 refine enter Tryz.func190 rfl Tryz.ntmps190 fun w0=>?_
 refine go ?_;intros
 cases a with
 | none =>
  refine t_none (xs:=xs) fun h0=>?_
  subst h0
  apply wO;apply oc;rfl;exact yd_eqn rfl
  refine t_nilow ERequest 235 ?_
  refine go ?_;intros
  refine ret (none,0,[]) trivial rfl
 | some ad =>
  apply wO;apply oc;rfl;exact yd_eqn rfl
  refine go ?_;intros
  refine t_emp ERequest ?_
  apply wO
  refine aps one_ERequest scal_ERequest fun a2 c2 F2=>?_
  rw [List.nil_append]
  refine go ?_;intros
  refine ret (a2,c2,F2) trivial rfl
section
variable {P:Program} {n:Nat} {fr:Fr} {H:List Pc} {ty:TypeId} {x y z u:Operand}
theorem yd_slw {t e m i g o len cp:Nat} {kd:IntKind} {q:Int} [hS:SlC P t e m] (hx:ev fr x=some (.slice (some ⟨g,o,none⟩) len cp)) (hy:ev fr y=some (.int kd q)) (hq:q=(i:Int)) (hi:i≤len) (hlc:len≤cp):Yd P n fr H (.slice t x (some y) none none) ty (.slice (some ⟨g,if cp=i then o else o+i * m,none⟩) (len - i) (cp - i)):=.mk fun ac w d pos aft gd hA _=>by
 subst hq
 have he2:P.elem t=e:=by simp [Program.elem,hS.u]
 have h3:(Instr.sliceAt t (.slice (some ⟨g,o,none⟩) len cp) (some (.int kd (i:Int))) none none).run P w=.ok (.slice (some ⟨g,if cp=i then o else o+i * m,none⟩) (len - i) (cp - i)) w:=by
  rw [run_sliceAt_slice (h:=by rw [he2];exact hS.u),run_slice_l (ht:=by rw [he2];exact hS.u) (h0:=by omega) (h1:=by omega),he2,size_of hS.s]
  simp only [Result.andThen,sliced,Option.map_some,Addr.add_lit,Int.toNat_natCast]
  split <;> rfl
 simp only [execOp,Option.map_none,Option.map_some,hA.ev hx,hA.ev hy,Sem.run_bind,h3,Result.andThen_ok,Sem.run_pure]
theorem yd_slhv {t e m i j g o len cp:Nat} {kd kd2:IntKind} {q r:Int} [hS:SlC P t e m] (hx:ev fr x=some (.slice (some ⟨g,o,none⟩) len cp)) (hy:ev fr y=some (.int kd q)) (hz:ev fr z=some (.int kd2 r)) (hq:q=(i:Int)) (hr:r=(j:Int)) (hi:i < cp) (hij:i≤j) (hj:j≤cp):Yd P n fr H (.slice t x (some y) (some z) none) ty (.slice (some ⟨g,o+i * m,none⟩) (j - i) (cp - i)):=.mk fun ac w d pos aft gd hA _=>by
 subst hq hr
 have he2:P.elem t=e:=by simp [Program.elem,hS.u]
 have h3:(Instr.sliceAt t (.slice (some ⟨g,o,none⟩) len cp) (some (.int kd (i:Int))) (some (.int kd2 (j:Int))) none).run P w=.ok (.slice (some ⟨g,o+i * m,none⟩) (j - i) (cp - i)) w:=by
  rw [run_sliceAt_slice (h:=by rw [he2];exact hS.u),run_slice_lh (ht:=by rw [he2];exact hS.u) (h0:=by omega) (h1:=by omega) (h2:=by omega),he2,size_of hS.s]
  simp only [Result.andThen,sliced,Option.map_some,Addr.add_lit,Int.toNat_natCast]
  rw [if_neg (by omega)]
 simp only [execOp,Option.map_none,Option.map_some,hA.ev hx,hA.ev hy,hA.ev hz,Sem.run_bind,h3,Result.andThen_ok,Sem.run_pure]
end
section
variable {c:Cx} {fr:Fr} {H:List Pc} {k:List It} {Φ:Gl} {d:Nat} {ty:TypeId} {x y z u:Operand}
theorem o_slany3 {t e m n cp i j l:Nat} {a:Option Addr} {q r s:Int} [hS:SlC c.P t e m] (hd:Nat.blt d c.n=true) (hx:ev fr x=some (.slice a n cp)) (hy:ev fr y=some (.int .i64 q)) (hz:ev fr z=some (.int .i64 r)) (hu:ev fr u=some (.int .i64 s)) (hq:q=(i:Int)) (hr:r=(j:Int)) (hs:s=(l:Int)) (hij:i≤j) (hjl:j≤l) (hl:l≤cp) (h:∀v,T c ((d,v)::fr) H Φ):On c fr H (some d) (.slice t x (some y) (some z) (some u)) ty Φ:=⟨fun _ _ _=>ef_of fun Q ac w st g=>by
 subst hq hr hs
 have he2:=elem_of hS
 obtain ⟨v,h3⟩:∃v,(Instr.sliceAt t (.slice a n cp) (some (.int .i64 (i:Int))) (some (.int .i64 (j:Int))) (some (.int .i64 (l:Int)))).run c.P w=.ok v w:=by
  rw [run_sliceAt_slice (h:=by rw [he2];exact hS.u),run_slice_lhm (ht:=by rw [he2];exact hS.u) (h0:=by omega) (h1:=by omega) (h2:=by omega) (h3:=by omega),he2,size_of hS.s]
  exact ⟨_,rfl⟩
 have e1:∀pos aft gd,(execOp ac.eval ⟨some d,.slice t x (some y) (some z) (some u),ty,pos,aft,gd⟩).run c.P w=.ok (.value v) w:=by
  intro pos aft gd
  simp only [execOp,Option.map_none,Option.map_some,g.ev hx,g.ev hy,g.ev hz,g.ev hu,Sem.run_bind,h3,Result.andThen_ok,Sem.run_pure]
 rw [e1]
 exact (h v).h _ w st (g.put hd)⟩
theorem o_apin {α:Type} {E:Elem α} (sc:Scal E) (one:One E) {t e m b g n cp i j q c2:Nat} {zv:Value} [hS:SlC c.P t e m] [hE:ElT c.P e zv m b] (hm:E.sz=m) {xs:List α} {F:List Nat} {S:List Pc}
  (hd:Nat.blt d c.n=true) (hx:ev fr x=some (.slice (some ⟨g,0,none⟩) i cp)) (hy:ev fr y=some (.slice (some ⟨g,q,none⟩) (n - j) c2)) (hq:j < n→q=j * m) (hij:i≤j) (hj:j≤n) (hn:n=xs.length)
  (hp:Pick H (.ow E e (.slice (some ⟨g,0,none⟩) n cp) xs F) S) (h:T c ((d,.slice (some ⟨g,0,none⟩) (i+(n - j)) cp)::fr) (.ow E e (.slice (some ⟨g,0,none⟩) n cp) (xs.take i++xs.drop j++xs.drop (i+(n - j))) F::S) Φ) :
  On c fr H (some d) (.call { callee:=.builtin .append,args:=#[x,y],argTypes:=#[t,t] }) ty Φ:=⟨fun _ _ _=>ef_of fun Q a w s ag=>by
 subst hm hn
 have s1:=s.pick hp
 obtain ⟨hnd,ho⟩:=s1.on (.ow E e (.slice (some ⟨g,0,none⟩) xs.length cp) xs F) (by simp)
 have hF:=ho.scal sc
 rcases ho with ⟨h1, -, -⟩|⟨g2,cap,cs,rest,G,h1,h2,h3,h4,h5,h6,h7⟩
 ·cases h1
 cases h1
 have hG:G=[]:=by rw [h7] at hF;simpa [Value.ownBlock] using hF
 subst hG h7
 obtain ⟨ti,hi,hiz⟩:=Option.map_eq_some_iff.1 hE.i
 simp only [Prod.mk.injEq] at hiz
 obtain ⟨-,i2, -⟩:=hiz
 have hl:=h6.len
 have hle:i+(xs.length - j)≤xs.length:=by omega
 have fi:=(h6.cutL i (by omega)).1
 have fj:=(h6.cutL j hj).2
 have fk:=(h6.cutL (i+(xs.length - j)) hle).2
 have hd1:(cs.take (i * E.sz)).length=i * E.sz:=by have:=fi.len;rw [List.length_take (l:=xs),Nat.min_eq_left (by omega)] at this;exact this
 have hd2:(cs.drop (j * E.sz)).length=(xs.length - j) * E.sz:=by have:=fj.len;rwa [List.length_drop (l:=xs)] at this
 have h1c:=h6.one' one
 have hsm:(i+(xs.length - j)) * E.sz≤xs.length * E.sz:=Nat.mul_le_mul_right _ hle
 have hadd:(i+(xs.length - j)) * E.sz=i * E.sz+(xs.length - j) * E.sz:=Nat.add_mul _ _ _
 have hsrc:∀r u,(cs.drop (j * E.sz))[r]?=some u→w.cell? ((⟨g,q,none⟩:Addr).add r)=some u:=fun r u hu=>by
  have hr:r < (cs.drop (j * E.sz)).length:=(List.getElem?_eq_some_iff.1 hu).1
  have hlt:j < xs.length:=by
   rcases Nat.lt_or_ge j xs.length with h|h
   ·exact h
   ·rw [hd2,show xs.length - j=0 by omega] at hr;simp at hr
  rw [hq hlt,Addr.add_lit,h2.cell,List.getElem?_append_left (by rw [List.length_drop] at hr;omega)]
  rw [List.getElem?_drop] at hu;exact hu
 have hr:=fun ty=>run_append_room_cells (P:=c.P) w t ty e ti hS.u hi g 0 i cp ⟨g,q,none⟩ (xs.length - j) c2 (cs.drop (j * E.sz)) (by rw [hd2,i2]) hsrc (fun u hu=>h1c u (List.mem_of_mem_drop hu)) (by omega)
  (fun r hr=>by rw [i2,h2.cell,List.getElem?_eq_getElem (by rw [List.length_append];omega)];rfl) (fun r _=>h2.frozen _)
 have e1:∀pos aft gd,(execOp a.eval ⟨some d,.call { callee:=.builtin .append,args:=#[x,y],argTypes:=#[t,t] },ty,pos,aft,gd⟩).run c.P w=.ok (.value (.slice (some ⟨g,0,none⟩) (i+(xs.length - j)) cp)) (w.setCells g (0+i * E.sz) (cs.drop (j * E.sz))):=by
  intro pos aft gd
  simp only [execOp,resolve,invoke,builtin,Sem.run_bind,Sem.run_pure,Result.andThen_ok,List.map_toArray,List.map_cons,List.map_nil,ag.ev hx,ag.ev hy,hr,i2]
 rw [e1]
 have R0:Row w g e (cs.take (i * E.sz)++(cs.drop (i * E.sz)).take ((xs.length - j) * E.sz)++(cs.drop ((i+(xs.length - j)) * E.sz)++rest)):=by
  rw [hadd,←List.drop_drop,List.append_assoc,←List.append_assoc _ _ rest,List.take_append_drop,←List.append_assoc,List.take_append_drop];exact h2
 have R1:=Row.put (cs.drop (j * E.sz)) _ R0 (p:=0+i * E.sz) (by omega) (by rw [hd2,List.length_take,List.length_drop];omega)
 have hk:=putCells_keep (g:=g) (cs.drop (j * E.sz)) w (0+i * E.sz)
 rw [putCells_eq w g] at R1 hk
 have hW:(Pc.ow E e (.slice (some ⟨g,0,none⟩) xs.length cp) (xs.take i++xs.drop j++xs.drop (i+(xs.length - j))) [g]).P (w.setCells g (0+i * E.sz) (cs.drop (j * E.sz))):=by
  have hll:(xs.take i++xs.drop j++xs.drop (i+(xs.length - j))).length=xs.length:=by simp only [List.length_append,List.length_take,List.length_drop];omega
  refine ⟨by simp,.inr ⟨g,cp,cs.take (i * E.sz)++cs.drop (j * E.sz)++cs.drop ((i+(xs.length - j)) * E.sz),rest,[],by rw [hll],by simpa [List.append_assoc] using R1,by rw [hll];exact h3,h4,?_,?_,rfl⟩⟩
  ·rw [List.length_append,List.length_append,hd1,hd2,List.length_drop,hl,←h5];omega
  ·have:=((fi.all (w.setCells g (0+i * E.sz) (cs.drop (j * E.sz)))).append (fj.all _)).append (fk.all _)
   simpa using this
 exact h.h _ _ (St.turn (M:=[.ow E e (.slice (some ⟨g,0,none⟩) xs.length cp) xs [g]]) (N:=[.ow E e (.slice (some ⟨g,0,none⟩) xs.length cp) (xs.take i++xs.drop j++xs.drop (i+(xs.length - j))) [g]]) s1 (by simpa [List.filter,Pc.mu,fp,Pc.F] using hk) (by intro q hq;rw [List.mem_singleton] at hq;subst hq;exact hW) ⟨by simp,trivial⟩ (by
   intro q hq b hb
   rw [List.mem_singleton] at hq;subst hq
   exact .inr (.inl ⟨_,List.mem_singleton.2 rfl,rfl,hb⟩))) (ag.put hd)⟩
end
theorem DelE_f (xs:List (List Value)) (n i:Nat) (j:Int) (a:Option Addr) (c:Nat) (F:List Nat) (hn:n=xs.length) (hi:i < xs.length) (hj:j=(i:Int)+1) (hl:xs.length≤1000000) :
  Fn Tryz.prog 305 [.slice a n c,.int .i64 i,.int .i64 j] [] [.ow (EC 3) 231 (.slice a n c) xs F] (fun (_:Option Addr × Nat × List Nat)=>True)
   (fun z=>.slice z.1 (xs.take i++xs.drop (i+1)).length z.2.1) (fun z=>[.ow (EC 3) 231 (.slice z.1 (xs.take i++xs.drop (i+1)).length z.2.1) (xs.take i++xs.drop (i+1)) z.2.2]):=by
 subst hn
 refine enter Tryz.func305 rfl Tryz.ntmps305 fun w0=>?_
 refine t_head (xs:=xs) (scal_EC 3) (by rintro rfl;simp at hi) ?_
 rintro g rfl rfl - hc1 hc2
 refine go ?_;intros
 apply wO
 refine o_slany3 (i:=i) (j:=i+1) (l:=xs.length) rfl rfl rfl rfl rfl rfl (by omega) rfl (by omega) (by omega) hc1 (fun _=>?_)
 refine go ?_;intros
 refine c_if rfl (fun h=>absurd h (by omega)) (fun _=>?_)
 refine go ?_;intros
 refine d_start [] [] ?_
 refine dt2 0 1 ?_
 refine dt 2 ?_ (hy:=yd_slt (i:=i) rfl rfl rfl (by omega) (by omega))
 refine dt2 3 4 ?_
 refine dt 5 ?_ (hy:=yd_slw (i:=i+1) rfl rfl (by omega) (by omega) hc1)
 refine dN 6 ?_
 refine o_apin (m:=3) (i:=i) (j:=i+1) (q:=if c=i+1 then 0 else 0+(i+1) * 3) (g:=g) (cp:=c) (n:=xs.length) (scal_EC 3) (one_EC 3) rfl rfl rfl rfl (fun h=>by rw [if_neg (by omega)];omega) (by omega) (by omega) rfl (by repeat (first|exact .here|apply Pick.there)) ?_
 refine dk ?_
 refine dt 7 ?_
 refine dd ?_
 refine go ?_;intros
 apply wO;apply oc;rfl;exact yd_slhv (i:=i+(xs.length - (i+1))) (j:=xs.length) rfl rfl rfl rfl rfl (by omega) (by omega) hc1
 refine go ?_;intros
 apply wO
 refine o_clr (xs:=xs.take i++xs.drop (i+1)++xs.drop (i+(xs.length - (i+1)))) (z0:=[.int .i64 0,.slice none 0 0,.int .i64 0]) (n:=xs.length) (cp:=c) (i:=i+(xs.length - (i+1))) (g:=g) (scal_EC 3) (fun w=>⟨rfl,⟨rfl,by simp [Value.oneCell']⟩,rfl⟩) (by decide) rfl rfl (by omega) (by exact lenE) (by repeat (first|exact .here|apply Pick.there)) ?_
 have hk:(xs.take i++xs.drop (i+1)).length=i+(xs.length - (i+1)):=by exact lenE
 refine t_take (xs:=(xs.take i++xs.drop (i+1)++xs.drop (i+(xs.length - (i+1)))).take (i+(xs.length - (i+1)))++List.replicate (xs.length - (i+(xs.length - (i+1)))) [.int .i64 0,.slice none 0 0,.int .i64 0]) (i+(xs.length - (i+1))) (fun F2=>?_) (by exact lenE)
 rw [List.take_left' (by rw [List.take_left' hk,hk]),List.take_left' hk,←hk]
 refine go ?_;intros
 refine ret (_,c,F2) trivial rfl
section
variable {c:Cx} {fr:Fr} {H:List Pc} {k:List It} {Φ:Gl} {ops:Array Oper} {o:Op} {ty:TypeId} {pos:String} {aft:Array Edge} {H0:List Pc} {X:List Nat} {f:Nat} {listed:Array Bool}
theorem made_z (z:List Value) (n:Nat):madeCells z.toArray (n * z.length)=((List.replicate n z).flatten).toArray:=by
 have:=madeCells_flat z.toArray n
 rw [List.size_toArray] at this
 rw [←Array.toArray_toList (xs:=madeCells z.toArray (n * z.length)),this]
end
def zP:Packet:=⟨0,0,0,0,⟨#[]⟩⟩
def popP (q:List Packet):Packet:=q.headD zP
theorem popP_get {q:List Packet} (h:0 < q.length):popP q=q[0]:=by
 cases q with
 | nil=>cases h
 | cons p r=>rfl
theorem DelP_f (xs:List Packet) (n i:Nat) (j:Int) (a:Option Addr) (c:Nat) (F:List Nat) (hn:n=xs.length) (hi:i < xs.length) (hj:j=(i:Int)+1) (hl:xs.length≤1000000) :
  Fn Tryz.prog 262 [.slice a n c,.int .i64 i,.int .i64 j] [] [.ow EPacket 127 (.slice a n c) xs F] (fun (_:Option Addr × Nat × List Nat)=>True)
   (fun z=>.slice z.1 (xs.take i++xs.drop (i+1)).length z.2.1) (fun z=>[.ow EPacket 127 (.slice z.1 (xs.take i++xs.drop (i+1)).length z.2.1) (xs.take i++xs.drop (i+1)) z.2.2]):=by
 subst hn
 refine enter Tryz.func262 rfl Tryz.ntmps262 fun w0=>?_
 refine t_head (xs:=xs) scal_EPacket (by rintro rfl;simp at hi) ?_
 rintro g rfl rfl - hc1 hc2
 refine go ?_;intros
 apply wO
 refine o_slany3 (i:=i) (j:=i+1) (l:=xs.length) rfl rfl rfl rfl rfl rfl (by omega) rfl (by omega) (by omega) hc1 (fun _=>?_)
 refine go ?_;intros
 refine c_if rfl (fun h=>absurd h (by omega)) (fun _=>?_)
 refine go ?_;intros
 refine d_start [] [] ?_
 refine dt2 0 1 ?_
 refine dt 2 ?_ (hy:=yd_slt (i:=i) rfl rfl rfl (by omega) (by omega))
 refine dt2 3 4 ?_
 refine dt 5 ?_ (hy:=yd_slw (i:=i+1) rfl rfl (by omega) (by omega) hc1)
 refine dN 6 ?_
 refine o_apin (m:=5) (i:=i) (j:=i+1) (q:=if c=i+1 then 0 else 0+(i+1) * 5) (g:=g) (cp:=c) (n:=xs.length) scal_EPacket one_EPacket rfl rfl rfl rfl (fun h=>by rw [if_neg (by omega)];omega) (by omega) (by omega) rfl (by repeat (first|exact .here|apply Pick.there)) ?_
 refine dk ?_
 refine dt 7 ?_
 refine dd ?_
 refine go ?_;intros
 apply wO;apply oc;rfl;exact yd_slhv (i:=i+(xs.length - (i+1))) (j:=xs.length) rfl rfl rfl rfl rfl (by omega) (by omega) hc1
 refine go ?_;intros
 apply wO
 refine o_clr (xs:=xs.take i++xs.drop (i+1)++xs.drop (i+(xs.length - (i+1)))) (z0:=zP) (n:=xs.length) (cp:=c) (i:=i+(xs.length - (i+1))) (g:=g) scal_EPacket (fun w=>⟨rfl,Nat.zero_le _,rfl⟩) (by decide) rfl rfl (by omega) (by exact lenE) (by repeat (first|exact .here|apply Pick.there)) ?_
 have hk:(xs.take i++xs.drop (i+1)).length=i+(xs.length - (i+1)):=by exact lenE
 refine t_take (xs:=(xs.take i++xs.drop (i+1)++xs.drop (i+(xs.length - (i+1)))).take (i+(xs.length - (i+1)))++List.replicate (xs.length - (i+(xs.length - (i+1)))) zP) (i+(xs.length - (i+1))) (fun F2=>?_) (by exact lenE)
 rw [List.take_left' (by rw [List.take_left' hk,hk]),List.take_left' hk,←hk]
 refine go ?_;intros
 refine ret (_,c,F2) trivial rfl
theorem ClP_f (xs:List Packet) (a:Option Addr) (c:Nat) (F:List Nat) (hl:xs.length≤1000000000) :
  Fn Tryz.prog 187 [.slice a xs.length c] [.sl EPacket (.slice a xs.length c) xs F] [] (fun (_:Option Addr × Nat × List Nat)=>True) (fun z=>.slice z.1 xs.length z.2.1) (fun z=>[.ow EPacket 127 (.slice z.1 xs.length z.2.1) xs z.2.2]):=by
 refine enter Tryz.func187 rfl Tryz.ntmps187 fun w0=>?_
 refine go ?_;intros
 cases a with
 | none =>
  refine t_none (xs:=xs) fun h0=>?_
  subst h0
  apply wO;apply oc;rfl;exact yd_eqn rfl
  refine t_nilow EPacket 127 ?_
  refine go ?_;intros
  refine ret (none,0,[]) trivial rfl
 | some ad =>
  apply wO;apply oc;rfl;exact yd_eqn rfl
  refine go ?_;intros
  refine t_emp EPacket ?_
  apply wO
  refine aps one_EPacket scal_EPacket fun a2 c2 F2=>?_
  rw [List.nil_append]
  refine go ?_;intros
  refine ret (a2,c2,F2) trivial rfl
theorem netPop_f (d:List (List Packet)) (i:Nat) (a:Option Addr) (n c:Nat) (F:List Nat) (hn:n=d.length) (hi:i < d.length) (h6:d[i].length≤6):Fn Tryz.prog 193 [.slice a n c,.int .i64 (i:Nat)] [] [.ow (OSl EPacket 127) 132 (.slice a n c) d F] (fun (_:List Nat)=>True) (fun _=>.tuple #[.agg #[.int .i64 (popP d[i]).kind,.int .i64 (popP d[i]).number,.int .i64 (popP d[i]).trail,.int .i64 (popP d[i]).lead,.string (popP d[i]).data],.bool (decide (0 < d[i].length))]) (fun G=>[.ow (OSl EPacket 127) 132 (.slice a n c) (d.set i (d[i].drop 1)) G]):=by
 refine enter Tryz.func193 rfl Tryz.ntmps193 fun w0=>?_
 refine focO (m:=1) i ?_ rfl hi
 rintro _ g A cs B k1 k2 G1 Gi G2 rfl - hc hH
 refine openOSl ?_
 rintro a5 c5 ev l5
 obtain rfl:cs=[.slice a5 d[i].length c5]:=by simpa using ev
 refine go ?_;intros
 refine c_if rfl (fun h1=>?_) (fun h1=>?_)
 ·have h0:d[i]=[]:=List.length_eq_zero_iff.1 (by omega)
  rw [h0]
  refine go ?_;intros
  refine closeOSl [] ?_
  refine unfO _ hH rfl fun F6=>?_
  refine ret F6 trivial rfl
 ·have h0:0 < d[i].length:=by omega
  rw [decide_eq_true h0,popP_get h0]
  refine focPacket (xs:=d[i]) 0 ?_
  rintro _ g2 A2 B2 rfl rfl sz hH2
  refine goN ?_;intros
  refine unfF d[i][0] hH2 (fun w=>⟨rfl,sz,rfl⟩) ?_
  rw [List.set_getElem_self]
  refine go ?_;intros
  refine cf (DelP_f d[i] d[i].length 0 1 _ c5 _ rfl h0 rfl (by omega)) fun z _=>?_
  refine t_app ?_
  rw [show d[i].take 0++d[i].drop (0+1)=d[i].drop 1 by simp]
  refine go ?_;intros
  refine closeOSl (d[i].drop 1) ?_
  refine unfO _ hH rfl fun F6=>?_
  refine ret F6 trivial rfl
def fillQ (l:List (List Packet)) (k:Nat):List (List Packet):=l.take k++List.replicate (l.length - k) []
theorem fillQ_len {l:List (List Packet)} {k:Nat} (h:k≤l.length):(fillQ l k).length=l.length:=by unfold fillQ;simp;omega
theorem fillQ_set {l:List (List Packet)} {k:Nat} (h:k < l.length):(fillQ l k).set k l[k]=fillQ l (k+1):=by
 unfold fillQ
 have e:List.replicate (l.length - k) ([]:List Packet)=[]::List.replicate (l.length - (k+1)) []:=by rw [show l.length - k=(l.length - (k+1))+1 by omega,List.replicate_succ]
 have hl:(l.take k).length=k:=by rw [List.length_take];omega
 rw [e,List.set_append_right _ _ (by omega),hl,Nat.sub_self,List.set_cons_zero,List.take_succ_eq_append_getElem h,List.append_assoc];rfl
theorem cloneQueues_f (l:List (List Packet)) (a:Option Addr) (c:Nat) (F:List Nat) (hl:l.length≤1000000) (hq:∀q∈l,q.length≤1000000000):Fn Tryz.prog 99 [.slice a l.length c] [.sl (ESl EPacket (by decide)) (.slice a l.length c) l F] [] (fun (_:Nat × List Nat)=>True) (fun z=>.slice (some ⟨z.1,0,none⟩) l.length l.length) (fun z=>[.ow (OSl EPacket 127) 132 (.slice (some ⟨z.1,0,none⟩) l.length l.length) l z.2]):=by
 refine enter Tryz.func99 rfl Tryz.ntmps99 fun w0=>?_
 refine go ?_;intros
 apply wO
 refine o_ms l.length (cs:=(List.replicate l.length ([.slice none 0 0]:List Value)).flatten) rfl rfl rfl (made_z _ _) (by omega) (by omega) fun g=>?_
 refine t_row (E:=OSl EPacket 127) (xs:=List.replicate l.length []) (fun w=>Flat.rep0 (E:=OSl EPacket 127) (w:=w) (zs:=[.slice none 0 0]) (z:=([]:List Packet)) ⟨_,rfl,.inl ⟨rfl,rfl,rfl⟩⟩ _) ?_ (by rw [List.length_replicate];omega)
 rw [List.length_replicate,show List.replicate l.length ([]:List Packet)=fillQ l 0 by unfold fillQ;simp]
 refine go ?_;intros
 refine c_loopS [2,3,9,10] (fun z:KF=>[(11,.int .i64 (z.k:Nat))]) (fun z=>[.ow (OSl EPacket 127) 132 (.slice (some ⟨g,0,none⟩) l.length l.length) (fillQ l z.k) z.F]) (fun z=>z.k≤l.length) (fun z=>l.length - z.k) ⟨0,_⟩ (Nat.zero_le _) fun z hz0=>?_
 have hfl:=fillQ_len hz0
 refine go ?_;intros
 refine c_if rfl (fun h1=>?_) (fun h1=>?_)
 ·have hk:z.k < l.length:=by omega
  refine at_ESl (E:=EPacket) (hz:=by decide) (xs:=l) z.k ?_
  rintro hi6 b6 o6 a11 c11 F11 rfl l11
  refine focO (xs:=fillQ l z.k) (m:=1) z.k ?_ rfl (by omega)
  rintro _ g2 A cs B k1 k2 G1 Gi G2 e2 - hc hH
  cases e2
  refine openOSl ?_
  rintro a5 c5 ev l5
  obtain rfl:cs=[.slice a5 (fillQ l z.k)[z.k].length c5]:=by simpa using ev
  refine go ?_;intros
  refine cf (ClP_f l[z.k] a11 c11 F11 (hq _ (List.getElem_mem hk))) fun y _=>?_
  refine t_app ?_
  refine go ?_;intros
  refine closeOSl l[z.k] ?_
  refine unfO _ hH rfl fun F6=>?_
  rw [fillQ_set hk]
  refine go ?_;intros
  refine n_lp ⟨z.k+1,F6⟩ hk (by show l.length - (z.k+1) < l.length - z.k;omega)
 ·rw [show fillQ l z.k=l by unfold fillQ;rw [show z.k=l.length by omega];simp]
  refine go ?_;intros
  refine ret (g,z.F) trivial rfl
theorem IndexFunc_Hold (fid:FuncId) (hbd:Body Tryz.prog fid) (caps:Array Value) (v:Value) (xs:List Hold) (F:List Nat) (p:Hold→Bool) (w:World) (h:Sl EHold w v xs F)
  (hp:∀(k:Nat) (hk:k < xs.length) (wr:World) (u:Value) (G:List Nat),Below w.heap.size w wr→IsV EHold wr u xs[k] G→Calls Tryz.prog fid (#[u]++caps) wr fun e w'=>e=.returned (.bool (p xs[k]))∧Below wr.heap.size wr w') :
  Calls Tryz.prog 270 #[v,.func (.func fid) #[] caps] w fun e w'=>e=.returned (.int .i64 (fidx p xs))∧Below w.heap.size w w':=by
 obtain ⟨a,cap,rfl⟩:=h.slice
 have hl:=h.len
 unfold maxLen at hl
 go_enter Tryz.func270,Tryz.ntmps270
 go_wp2
 go_loopw [5,8] (fun _ i wr=>∃k:Nat,k≤xs.length∧i=.int .i64 k∧Hid (∀j,j < k→∀hj:j < xs.length,p xs[j]=false)∧Below w.heap.size w wr) (fun _ i _=>xs.length - (intOf i).toNat)
 case atStart=>exact ⟨0,Nat.zero_le _,rfl,fun j hj=>by omega,Below.refl _ _⟩
 case round =>
  obtain ⟨k,hk,rfl,hz,hB⟩:=hrel
  by_cases hlt:k < xs.length
  ·have hz0:=hz;clear hz
   obtain ⟨b,off,_,F1,rfl,hx, -,ja⟩:=(h.below (by decide) hB).at k hlt
   obtain ⟨rfl,rfl⟩:=id hx
   have a0:=ja 0 (by decide)
   have a1:=ja 1 (by decide)
   simp only [show EHold.sz=2 from rfl,Nat.mul_one,Nat.add_zero,List.getElem?_cons_zero,List.getElem?_cons_succ] at a0 a1
   clear ja
   have hr:=hp k hlt wr _ _ hB ⟨_,rfl,hx⟩
   have hp:=Lib.hid hp
   cases hpk:p xs[k]
   all_goals
    rw [hpk] at hr
    have hpk:=Lib.hid hpk
    have hr:=Lib.hid hr
    go_wp2_with fail
    refine hbd.upon hr.out ?_
    rintro e w1 ⟨rfl,hb1⟩
    refine ⟨_,rfl,?_⟩
    have hB:=tr hB hb1 (Nat.le_refl _)
    clear hb1
    go_wp2_with fail
   ·exact ⟨⟨k+1,by omega,by go_num,fun j hj hl=>by rcases Nat.lt_or_eq_of_le (Nat.le_of_lt_succ hj) with h|h;exact hz0.out j h hl;subst h;exact hpk.out,hB⟩,by simp [intOf];omega⟩
   ·go_ret
    exact ⟨ret_int (fidx_hit hlt hz0.out hpk.out).symm,hB⟩
  ·go_wp2
   go_ret
   exact ⟨ret_int (fidx_none (fun j hj=>hz.out j (by omega) hj)).symm,hB⟩
theorem Clone_Hold (v:Value) (xs:List Hold) (F:List Nat) (w:World) (h:Sl EHold w v xs F) (hm:xs.length≤4294967296) :
  Calls Tryz.prog 186 #[v] w (RetNew EHold 194 xs w):=by
 obtain ⟨ao,c,news,Fy,rfl,hl,hfy,hFy,hsrc⟩:=h.src
 have hFl:=hfy.lt
 have he:=fun w (a:Option Addr) (n c:Nat)=>Lib.run_eql_slice_nil (P:=Tryz.prog) w 42 _ a n c 0 0 Tryz.underlying42
 go_enter Tryz.func186,Tryz.ntmps186
 rcases hsrc with ⟨rfl,rfl,rfl⟩|⟨ad,rfl,hn⟩
 ·go_wp2
  go_ret
  exact ⟨.slice none 0 0,[],rfl,.inl ⟨rfl,rfl,rfl⟩,by simp,by simp,Below.refl _ _⟩
 ·go_wp2_with (at_builtin;refine wpList_apd one_EHold (by decide) (by rfl) _ _ _ (by rfl) 194 (.agg #[.int .i64 0,.int .i64 0]) 16 Tryz.underlying42 info_Hold rfl (.slice (some ⟨w.heap.size,0,none⟩) 0 0) [] [w.heap.size] (by rfl) (Ow.empty (Row.made _ _ _)) (Hd.one _) (some ad) xs c (by rfl) news Fy (hfy.frame fun b hb=>Below.heap_alloc _ _ _ (hFl b hb)) (.inr ⟨ad,rfl,fun j u hu=>kc ((Below.refl _ _).alloc (Nat.le_refl _) _) (hn j u hu)⟩) (fun b hb e=>by have:=hFl b hb;simp [Value.ownBlock] at e;omega) (by simpa using hl) (by unfold maxLen at hl;simp;omega) ?_)
  intro v2 w2 F2 hA
  go_wp2_with fail
  go_ret
  have hB:Below w.heap.size w w2:=((Below.refl _ _).alloc (Nat.le_refl _) _).trans (hA.keep.below (by simp) (by simp))
  have hs:∀b,v2.ownBlock=some b→w.heap.size≤b:=fun b hb=>by rcases hA.same with e|e <;> rw [e] at hb <;> simp [Value.ownBlock] at hb <;> omega
  refine ⟨v2,F2,rfl,by simpa using hA.ow,hA.ow.scal scal_EHold▸?_,fun b hb=>?_,hB⟩
  ·cases v2.ownBlock <;> simp
  ·rw [hA.ow.scal scal_EHold] at hb;exact hs b (by simpa using hb)
theorem DeleteFunc_Hold (fid:FuncId) (hbd:Body Tryz.prog fid) (caps:Array Value) (v:Value) (xs:List Hold) (F:List Nat) (p:Hold→Bool) (w:World) (h:Ow EHold 194 w v xs F) (hn:F.Nodup)
  (hp:∀(k:Nat) (hk:k < xs.length) (wr:World) (u:Value) (G:List Nat),Keep F w wr→IsV EHold wr u xs[k] G→Calls Tryz.prog fid (#[u]++caps) wr fun e w'=>e=.returned (.bool (p xs[k]))∧Below wr.heap.size wr w') :
  Calls Tryz.prog 201 #[v,.func (.func fid) #[] caps] w fun e w'=>∃v' F',e=.returned v'∧Ow EHold 194 w' v' (xs.filter fun x=>!p x) F'∧F'.Nodup∧(∀b∈F',b∈F)∧Keep F w w':=by
 obtain ⟨F1,hF1,hs⟩:=h.sl (Weak.refl _)
 obtain ⟨a,cap,rfl⟩:=h.slice
 have hl:=h.len
 unfold maxLen at hl
 have hp:=Lib.hid hp
 go_enter Tryz.func201,Tryz.ntmps201
 go_wp2_with fail
 refine (IndexFunc_Hold fid hbd caps _ xs F1 p _ hs (fun k hk wr u G hb hu=>hp.out k hk wr u G (Keep.ofBelow hb) hu)).mono ?_
 rintro e w1 ⟨rfl,hb1⟩
 have hK1:=Keep.ofBelow (F:=F) hb1
 by_cases hany:xs.any p=true
 ·obtain ⟨k0,hk0,hfx,hpk,hfl⟩:=fidx_some hany
  rw [hfx]
  obtain ⟨g,rfl, -,hg0⟩:=Gap.start (h.below hb1) hn (ys:=xs.take k0) (zs:=xs[k0]::xs.drop (k0+1)) (by simp) (by omega)
  obtain ⟨F0,hg0,hF0⟩:=hg0.skip
  have hG0:=Lib.hid hg0
  clear hg0
  have hk1:((k0:Int) == -1)=false:=by simp
  go_wp2_with fail
  go_loopw [5,6,7] (fun i j _ wr=>∃(q m:Nat) (F1:List Nat),q≤xs.length∧0 < m∧((xs.take q).filter fun x=>!p x).length+m=q∧i=.int .i64 ((xs.take q).filter fun x=>!p x).length∧j=.int .i64 q∧Hid (Gap EHold 194 wr g xs.length cap ((xs.take q).filter fun x=>!p x) m (xs.drop q) F1)∧(∀b∈F1,b∈F)∧Keep F w wr) (fun _ j _ _=>xs.length - (intOf j).toNat)
  case atStart=>exact ⟨k0+1,1,F0,hk0,by omega,by rw [filter_take_no hk0 (by simp [hpk]),hfl];simp;omega,by rw [filter_take_no hk0 (by simp [hpk]),hfl];simp;omega,by go_num,by rw [filter_take_no hk0 (by simp [hpk]),hfl];exact hG0,hF0,hK1⟩
  case round =>
   obtain ⟨q,m,F1,hq,hm,hlen,rfl,rfl,hG,hF1,hK⟩:=hrel
   obtain ⟨-,hcap, -⟩:=hG.out.caps
   generalize hys:((xs.take q).filter fun x=>!p x)=ys at *
   by_cases hlt:q < xs.length
   ·rw [List.drop_eq_getElem_cons hlt] at hG
    obtain ⟨c,Fx,hx,hFx,hcell⟩:=hG.out.first
    obtain ⟨Fx2, -,hxe⟩:=(Weak.refl _).rep hx
    obtain ⟨rfl,rfl⟩:=id hx
    have a0:=hcell 0 (by decide)
    have a1:=hcell 1 (by decide)
    simp only [hlen,show EHold.sz=2 from rfl,Nat.mul_one,Nat.add_zero,List.getElem?_cons_zero,List.getElem?_cons_succ] at a0 a1
    have hr:=fun A=>hp.out q hlt (wr.alloc A) _ Fx2 (hK.alloc A) ⟨_,rfl,EHold.below hxe ((Below.refl wr.heap.size wr).alloc (Nat.le_refl _) A)⟩
    cases hpq:p xs[q]
    ·obtain ⟨st,c2,Fx3,hx3, -,hcell2,back⟩:=hG.out.move hm
     simp only [hpq] at hr
     obtain rfl:=same_cells (EHold.len hx) (EHold.len hx3) hcell hcell2
     have st:=st
     obtain ⟨⟨x0,z0⟩,g0⟩:=st 0 (by decide)
     obtain ⟨⟨x1,z1⟩,g1⟩:=st 1 (by decide)
     simp only [show EHold.sz=2 from rfl,Nat.mul_one,Nat.add_zero] at z0 g0 z1 g1
     have hr:=Lib.hid hr;have hbk:=Lib.hid back;have hpq:=Lib.hid hpq;have hys:=Lib.hid hys;have hlen:=Lib.hid hlen
     have hyl:ys.length < xs.length:=by have:=hlen.out;omega
     clear hx hxe hcell hcell2 hx3 back st hfx hpk hfl
     go_wp2_with fail
     refine hbd.upon (hr.out _) ?_
     rintro e w2 ⟨rfl,hb2⟩
     refine ⟨_,rfl,?_⟩
     have b2:=(Row.below (g:=wr.heap.size) (t:=194) (cs:=[.int .i64 xs[q].number,.int .i64 xs[q].untl]) (by simp [row_alloc]) hb2).cells
     have hbb:=tr ((Below.refl wr.heap.size wr).alloc (Nat.le_refl _) _) hb2 (Nat.le_refl _)
     clear hb2
     have g0:=(kf hbb z0).trans g0;have z0:=kc hbb z0
     have g1:=(kf hbb z1).trans g1;have z1:=kc hbb z1
     obtain ⟨F2,hg2,hF2⟩:=hbk.out w2 hbb
     simp only [putCells,show EHold.sz=2 from rfl,Nat.mul_one] at hg2
     have hg2:=Lib.hid hg2
     have hgF:g∈F:=hF1 g hG.out.caps.2.2.2.2.1
     go_wp2_with fail
     exact ⟨⟨q+1,m,F2,by omega,hm,by rw [filter_take_yes hlt (by simp [hpq.out]),hys.out];have:=hlen.out;simp;omega,by rw [filter_take_yes hlt (by simp [hpq.out]),hys.out,List.length_append];go_num,by go_num,by rw [filter_take_yes hlt (by simp [hpq.out]),hys.out];exact hg2.out,fun b hb=>hF1 b (hF2 b hb),by (repeat (refine Keep.setCell ?_ hgF _));exact hK.trans (Keep.ofBelow hbb)⟩,by simp [intOf];omega⟩
    ·obtain ⟨F2,hg2,hF2⟩:=hG.out.skip
     simp only [hpq] at hr
     have hr:=Lib.hid hr;have hg2:=Lib.hid hg2;have hpq:=Lib.hid hpq;have hys:=Lib.hid hys;have hlen:=Lib.hid hlen
     clear hx hxe hcell hfx hpk hfl
     go_wp2_with fail
     refine hbd.upon (hr.out _) ?_
     rintro e w2 ⟨rfl,hb2⟩
     refine ⟨_,rfl,?_⟩
     have hbb:=tr ((Below.refl wr.heap.size wr).alloc (Nat.le_refl _) _) hb2 (Nat.le_refl _)
     clear hb2
     go_wp2_with fail
     exact ⟨⟨q+1,m+1,F2,by omega,by omega,by rw [filter_take_no hlt (by simp [hpq.out]),hys.out];have:=hlen.out;omega,by rw [filter_take_no hlt (by simp [hpq.out]),hys.out],by go_num,by rw [filter_take_no hlt (by simp [hpq.out]),hys.out];exact hg2.out.below hbb,fun b hb=>hF1 b (hF2 b hb),hK.trans (Keep.ofBelow hbb)⟩,by simp [intOf];omega⟩
   ·have hqe:q=xs.length:=by omega
    subst hqe
    simp only [List.drop_length,List.take_length] at hG hys
    obtain ⟨hc,F2,ho2,hn2,hF2⟩:=hG.out.done (z:=#[.int .i64 0,.int .i64 0]) rfl
    have hmm:xs.length - ys.length=m:=by omega
    have hcl:=fun ty=>run_clear_rows (P:=Tryz.prog) wr 42 194 ty (.agg #[.int .i64 0,.int .i64 0]) Tryz.underlying42 (zeroValue_of info_Hold) (by simp [Value.cells,Value.oneCell']) g (ys.length * 2) m (cap - ys.length) hm (fun j hj=>(hc j hj).1) (fun j hj=>(hc j hj).2)
    have hyl:ys.length < xs.length:=by omega
    have hgF:g∈F:=hF1 g hG.out.caps.2.2.2.2.1
    have hO:=Lib.hid ho2;have hlen:=Lib.hid hlen;have hys:=Lib.hid hys
    clear ho2 hc hfx hpk hfl
    go_wp2_with fail
    go_ret
    refine ⟨_,F2,rfl,by rw [hys.out];exact hO.out,hn2,fun b hb=>hF1 b (hF2 b hb),hK.trans ?_⟩
    rw [←putCells_eq wr];exact (putCells_keep _ _ _).mono (fun b hb _=>by simp at hb;subst hb;exact hgF)
 ·obtain ⟨hfx,hfl⟩:=fidx_all hany
  rw [hfx]
  go_wp2_with fail
  go_ret
  exact ⟨_,F,rfl,by rw [hfl];exact h.below hb1,hn,fun b hb=>hb,hK1⟩
theorem Sclone_f (x:Source) (v:Value) (F:List Nat) (hl:x.window.items.length≤4294967296) (hl2:x.holds.length≤4294967296):Fn Tryz.prog 98 [v] [.isv ESource v x F] [] (fun (_:Value × List Nat)=>True)
  (fun s=>s.1) (fun s=>[.own OSource s.1 x s.2]):=by
 refine enter Tryz.func98 rfl Tryz.ntmps98 fun w0=>?_
 refine openSource ?_
 rintro a1 c1 F1 a2 c2 F2 rfl l1 l2
 refine closeSendWindow x.window ?_
 generalize F1=F3
 refine go ?_;intros
 refine cv (fun w s=>SendWindow_clone_c _ x.window _ w (s.get (p:=.isv ESendWindow (.agg #[.int .i64 x.window.trail,.int .i64 x.window.size,.slice a1 x.window.items.length c1]) x.window F3) (by simp)) hl) fun v F'=>?_
 refine openOSendWindow ?_
 rintro a5 c5 F5 rfl l5
 refine go ?_;intros
 refine cn (fun w s=>Clone_Hold _ _ _ _ (s.get (p:=.sl EHold (.slice a2 x.holds.length c2) x.holds F2) (by simp)).2 hl2) fun a6 c6 F6=>?_
 refine go ?_;intros
 refine closeOSource x ?_
 refine ret (_,_) trivial rfl
theorem keep1_f (W:SendWindow) (h:Hold) (gb g o:Nat) (u:Value) (a:Option Addr) (c:Nat) (cl q:Value) (Hs:Value) (G Fw:List Nat) (t0:0≤W.trail) (t1:W.trail≤65535) (n0:0≤h.number) (n1:h.number≤65535) :
  Fn Tryz.prog 261 [u,ptr gb 0 0] [.isv EHold u h G,.cel gb 0 [ptr g o 0],.cel g o [.int .i64 W.trail,.int .i64 W.size,.slice a W.items.length c,cl,q,Hs],.isv ESendWindow (.agg #[.int .i64 W.trail,.int .i64 W.size,.slice a W.items.length c]) W Fw] [] (fun (_:Unit)=>True) (fun _=>.bool (!heldB W h.number)) (fun _=>[]):=by
 refine enter Tryz.func261 rfl Tryz.ntmps261 fun w0=>?_
 refine openHold ?_
 rintro _ rfl
 refine go ?_;intros
 refine d_start [0,2,3] [] ?_
 refine dt4 0 1 2 3 ?_
 refine dt2 4 5 ?_
 refine dN 6 ?_
 refine oC ?_
 refine cb (fun w st=>(isHeld_f W h.number _ _ t0 t1 n0 n1).val w (hol1 (st.get (p:=.isv ESendWindow (.agg #[.int .i64 W.trail,.int .i64 W.size,.slice a W.items.length c]) W Fw) (by simp)))) ?_
 refine dk ?_
 refine dt2 7 8 ?_
 refine dd ?_
 refine go ?_;intros
 refine ret () trivial ?_
 simp only [heldB,tup,decide_not]
theorem fn_lib {P:Program} {f:FuncId} {args:List Value} {p:Pc} {R:List Pc} {σ:Type} {C:σ→Prop} {v:σ→Value} {N:σ→Pc} (hm:p.mu=true)
  (h:∀w,p.P w→Hol R w→(∀wr,Keep p.F w wr→Hol R wr)→Calls P f args.toArray w fun e w'=>∃s,C s∧e=.returned (v s)∧(N s).P w'∧(∀b∈(N s).F,b∈p.F∨w.heap.size≤b)∧Keep p.F w w'):Fn P f args [] (p::R) C v (fun s=>N s::R):=fun w hH hS=>by
 rw [List.append_nil] at hH hS
 have hR:Hol R w:=fun q hq=>hH q (by simp [hq])
 have ap:∀q∈R,∀b∈q.F,b ∉ p.F:=fun q hq b hb hp=>hS.1 q hq (by simp [hm]) b hp hb
 have hk:∀wr,Keep p.F w wr→Hol R wr:=fun wr k q hq=>q.st (hR q hq) fun b hb=>k.block b (q.lt (hR q hq) b hb) (ap q hq b hb)
 refine (h w (hH p (by simp)) hR hk).mono ?_
 rintro e w' ⟨s,hC,he,hN,hF,k⟩
 refine ⟨s,hC,he,?_,⟨fun q hq _ b hb hbq=>?_,hS.2⟩,k.mono (fun b hb _=>by simp [fp,hb]),?_⟩
 ·intro q hq
  rcases List.mem_cons.1 hq with rfl|hq
  ·exact hN
  ·exact hk w' k q hq
 ·rcases hF b hb with h|h
  ·exact ap q hq b hbq h
  ·have:=q.lt (hR q hq) b hbq;omega
 ·intro q hq b hb
  rcases List.mem_cons.1 hq with rfl|hq
  ·rcases hF b hb with h|h
   ·exact .inr (.inl ⟨p,by simp,h⟩)
   ·exact .inl h
  ·exact .inr (.inl ⟨q,by simp [hq],hb⟩)
theorem n_ret {P:Program} {fn:Func} {R:Ending→World→Prop} {G D:List Nat} {w0:World} {n:Nat} {fr:Fr} {H:List Pc} (h:T ⟨P,G,D,w0,n,bodyPost P fn R⟩ fr H (.fin .ret)):T ⟨P,G,D,w0,n,bodyPost P fn R⟩ fr H (.norm []):=.mk fun a w s g=>h.h a w s g
def keepH (W:SendWindow) (hs:List Hold):List Hold:=hs.filter fun h=>heldB W h.number
theorem keepD_f (W:SendWindow) (hs:List Hold) (gb tb g t o:Nat) (A B:List Value) (a a2:Option Addr) (c c2:Nat) (cl q:Int) (F F2:List Nat) (t0:0≤W.trail) (t1:W.trail≤65535) (hn:∀h∈hs,isSer h.number=true) :
  Fn Tryz.prog 201 [.slice a2 hs.length c2,.func (.func 261) #[] #[ptr gb 0 0]] [] [.ow EHold 194 (.slice a2 hs.length c2) hs F2,.row gb tb 0 [] [ptr g o 0] [],.row g t o A [.int .i64 W.trail,.int .i64 W.size,.slice a W.items.length c,.int .i64 cl,.int .i64 q,.slice a2 hs.length c2] B,.ow EStr 9 (.slice a W.items.length c) W.items F] (fun (_:Option Addr × Nat × List Nat)=>True)
   (fun z=>.slice z.1 (keepH W hs).length z.2.1) (fun z=>[.ow EHold 194 (.slice z.1 (keepH W hs).length z.2.1) (keepH W hs) z.2.2,.row gb tb 0 [] [ptr g o 0] [],.row g t o A [.int .i64 W.trail,.int .i64 W.size,.slice a W.items.length c,.int .i64 cl,.int .i64 q,.slice a2 hs.length c2] B,.ow EStr 9 (.slice a W.items.length c) W.items F]):=by
 refine fn_lib rfl fun w ⟨hnd,ho⟩ _ hk=>?_
 refine (DeleteFunc_Hold _ (body_of (by kernel_rfl)) #[ptr gb 0 0] _ hs F2 (fun h=>!heldB W h.number) w ho hnd fun k hk2 wr u G hK hu=>?_).mono ?_
 ·have hr:=hk wr hK
  have r1:=hr (.row gb tb 0 [] [ptr g o 0] []) (by simp)
  have r2:=hr (.row g t o A [.int .i64 W.trail,.int .i64 W.size,.slice a W.items.length c,.int .i64 cl,.int .i64 q,.slice a2 hs.length c2] B) (by simp)
  obtain ⟨Fw, -,hw⟩:=(hr (.ow EStr 9 (.slice a W.items.length c) W.items F) (by simp)).2.read
  obtain ⟨n0,n1⟩:=isSer_iff.1 (hn hs[k] (List.getElem_mem hk2))
  refine (keep1_f W hs[k] gb g o u a c (.int .i64 cl) (.int .i64 q) (.slice a2 hs.length c2) G Fw t0 t1 n0 n1).val wr ?_
  intro p hp
  simp only [List.mem_cons,List.not_mem_nil,or_false] at hp
  rcases hp with rfl|rfl|rfl|rfl
  ·exact hu
  ·exact ⟨by simp,row_range r1⟩
  ·exact ⟨by simp,row_range r2⟩
  ·exact ⟨_,rfl,_,rfl,hw⟩
 ·rintro e w' ⟨v',F',rfl,h1,h2,h3,h4⟩
  have e:(hs.filter fun x=>!(fun h:Hold=>!heldB W h.number) x)=keepH W hs:=by simp [keepH]
  rw [e] at h1
  obtain ⟨a',c',rfl⟩:=h1.slice
  exact ⟨(a',c',F'),trivial,rfl,⟨h2,h1⟩,fun b hb=>.inl (h3 b hb),h4⟩
theorem keepHolds_f (W:SendWindow) (hs:List Hold) (g t o:Nat) (A B:List Value) (a a2:Option Addr) (c c2:Nat) (cl q:Int) (F F2:List Nat) (t0:0≤W.trail) (t1:W.trail≤65535) (hn:∀h∈hs,isSer h.number=true) :
  Fn Tryz.prog 192 [ptr g o 0] [] [.row g t o A [.int .i64 W.trail,.int .i64 W.size,.slice a W.items.length c,.int .i64 cl,.int .i64 q,.slice a2 hs.length c2] B,.ow EHold 194 (.slice a2 hs.length c2) hs F2,.ow EStr 9 (.slice a W.items.length c) W.items F] (fun (_:Option Addr × Nat × List Nat)=>True)
   (fun _=>.tuple #[]) (fun z=>[.row g t o A [.int .i64 W.trail,.int .i64 W.size,.slice a W.items.length c,.int .i64 cl,.int .i64 q,.slice z.1 (keepH W hs).length z.2.1] B,.ow EHold 194 (.slice z.1 (keepH W hs).length z.2.1) (keepH W hs) z.2.2,.ow EStr 9 (.slice a W.items.length c) W.items F]):=by
 refine enter Tryz.func192 rfl Tryz.ntmps192 fun w0=>?_
 refine go ?_;intros
 refine d_start [0,1] [9] ?_
 refine dt4 0 1 2 3 ?_
 refine dt2 4 5 ?_
 refine dN 6 ?_
 refine oC ?_
 refine cf (keepD_f W hs _ _ g t o A B a a2 c c2 cl q F F2 t0 t1 hn) fun z _=>?_
 refine t_app ?_
 refine dk ?_
 refine dt2 7 8 ?_
 refine dN 9 ?_
 refine oS ?_
 refine dkx ?_
 refine dd ?_
 refine n_ret ?_
 refine ret (_,_,_) trivial rfl
theorem stepsN_gp {a t:Int}:stepsN a t≤(gp a t).toNat:=by unfold stepsN;split <;> omega
theorem moved_at {w:ReceiveWindow} {t:Int} (hg:goodRW w=true):(movedW w t).next=aft w.next ((movedE w t).length:Nat)∧(movedW w t).slots=w.slots.drop (movedE w t).length∧(movedE w t).length≤stepsN w.next t+8∧stepsN w.next t≤(movedE w t).length:=by
 obtain ⟨h0,h1⟩:0≤w.next∧w.next≤65535:=by
  unfold goodRW at hg
  simp only [Bool.and_eq_true] at hg
  exact isSer_iff.1 hg.1.1.1
 have hl:w.slots.length≤8:=by
  unfold goodRW at hg
  simp only [Bool.and_eq_true,decide_eq_true_eq] at hg
  have:=hg.1.1.2;omega
 have e1:∀k (x:ReceiveWindow),(giveE k x).length=k:=by
  intro k
  induction k with
  | zero=>intro x;rfl
  | succ k ih=>intro x;simp [giveE,ih]
 have h2:=giveUp_next (stepsN w.next t) w h0 h1
 have h3:=rel_drop (giveW (stepsN w.next t) w).slots (giveW (stepsN w.next t) w).next
 have h4:=giveW_drop (stepsN w.next t) w
 have h5:=relE_le (giveW (stepsN w.next t) w)
 rw [h4,List.length_drop] at h5
 refine ⟨h2,?_,?_,?_⟩
 ·have e:(movedW w t).slots=(giveW (stepsN w.next t) w).slots.drop (relE (giveW (stepsN w.next t) w)).length:=h3.1
  rw [e,h4,List.drop_drop]
  unfold movedE
  rw [List.length_append,e1]
 ·unfold movedE
  rw [List.length_append,e1];omega
 ·unfold movedE
  rw [List.length_append,e1];omega
theorem hasB_at (w:ReceiveWindow) (n:Int):hasB w n=havAt w.slots (gp w.next n).toNat:=rfl
theorem moved_q {w:ReceiveWindow} {t n:Int} (hg:goodRW w=true) (ht:gp w.next t≤8) (hn:isSer n=true) (h8:gp w.next n < 8) (hh:hasB w n=false) :
  (bef n (movedW w t).next=true∧gp w.next n < ((movedE w t).length:Nat))∨(bef n (movedW w t).next=false∧hasB (movedW w t) n=false∧gp w.next n=((movedE w t).length:Nat)+gp (movedW w t).next n):=by
 obtain ⟨e1,e2,e3, -⟩:=moved_at (t:=t) hg
 have hs:=@stepsN_gp w.next t
 obtain ⟨n0,n1⟩:=isSer_iff.1 hn
 obtain ⟨w0,w1⟩:0≤w.next∧w.next≤65535:=by
  unfold goodRW at hg
  simp only [Bool.and_eq_true] at hg
  exact isSer_iff.1 hg.1.1.1
 have hm:(movedE w t).length≤16:=by omega
 have hb:=gp_bd w.next n
 rw [hasB_at,e1,e2,havAt_drop]
 rw [hasB_at] at hh
 generalize hM:(movedE w t).length=m at *
 clear e1 e2 e3 hs hM hg ht
 by_cases hc:gp w.next n < (m:Nat)
 ·left
  refine ⟨?_,hc⟩
  unfold bef btw gp aft at *
  simp only [Bool.and_eq_true,decide_eq_true_eq]
  omega
 ·right
  have e:gp w.next n=m+gp (aft w.next m) n:=by unfold gp aft at *;omega
  refine ⟨?_,?_,e⟩
  ·have:¬(1≤gp n (aft w.next m)∧gp n (aft w.next m)≤32767):=by unfold gp aft at *;omega
   unfold bef btw
   simpa using this
  ·have hb2:=gp_bd (aft w.next m) n
   rw [show m+(gp (aft w.next m) n).toNat=(gp w.next n).toNat by omega]
   exact hh
theorem needed_moved {w:ReceiveWindow} {t:Int} (hg:goodRW w=true) (ht:gp w.next t≤8) {l:List Request} (hl:∀q∈l,isSer q.number=true∧gp w.next q.number < 8∧hasB w q.number=false):needed l (movedW w t)=noBef l (movedW w t).next:=by
 unfold needed noBef
 refine List.filter_congr fun q hq=>?_
 obtain ⟨a,b,c⟩:=hl q hq
 rcases moved_q hg ht a b c with ⟨h, -⟩|⟨h,h2,h3⟩
 ·simp [h]
 ·have:=gp_bd (movedW w t).next q.number
  simp [h,h2,show gp (movedW w t).next q.number < 8 by omega]
theorem tkO_num {c d:Int} {r q:Request} (h:tkO c d r=some q):q.number=r.number:=by
 unfold tkO at h
 split at h
 ·cases h;rfl
 ·split at h
  ·cases h
  ·split at h <;> cases h <;> rfl
theorem tkL_num {c:Int} {r:Request} {n:Int} (h:tkL c r=some n):n=r.number:=by
 unfold tkL at h
 split at h
 ·cases h
 ·split at h <;> cases h <;> rfl
theorem req_at {r:Receiver} (hg:GoodR r) {q:Request} (hq:q∈r.requests):isSer q.number=true∧gp r.window.next q.number < 8∧hasB r.window q.number=false:=by
 obtain ⟨-, -,h3, -⟩:=areQ_iff.1 hg.q
 have:=okReq_iff.1 (h3 q hq)
 exact ⟨this.n,this.g,hg.f q hq⟩
theorem tkReq_at {r:Receiver} {d:Int} (hg:GoodR r) {q:Request} (hq:q∈tkReq r d):isSer q.number=true∧gp r.window.next q.number < 8∧hasB r.window q.number=false:=by
 obtain ⟨q',hq',h⟩:=List.mem_filterMap.1 hq
 rw [tkO_num h]
 exact req_at hg hq'
theorem tkLost_at {r:Receiver} (hg:GoodR r) {n:Int} (hn:n∈tkLost r):isSer n=true∧gp r.window.next n < 8:=by
 obtain ⟨q',hq',h⟩:=List.mem_filterMap.1 hn
 rw [tkL_num h]
 exact ⟨(req_at hg hq').1,(req_at hg hq').2.1⟩
theorem next_ser {w:ReceiveWindow} (hg:goodRW w=true):0≤w.next∧w.next≤65535:=by
 unfold goodRW at hg
 simp only [Bool.and_eq_true] at hg
 exact isSer_iff.1 hg.1.1.1
theorem lost_gp {r:Receiver} (hg:GoodR r) (h:tkLost r≠[]):gp r.window.next (lostTrail (tkLost r))≤8∧isSer (lostTrail (tkLost r))=true:=by
 unfold lostTrail
 have hm:(tkLost r).getLastD 0∈tkLost r:=by
  rw [List.getLastD_eq_getLast?,List.getLast?_eq_some_getLast h]
  exact List.getLast_mem h
 obtain ⟨a,b⟩:=tkLost_at hg hm
 refine ⟨?_,aft_ser _ _⟩
 obtain ⟨n0,n1⟩:=isSer_iff.1 a
 obtain ⟨w0,w1⟩:=next_ser hg.w
 unfold gp aft at *
 omega
theorem tick_needed {r:Receiver} {d:Int} (hg:GoodR r) (h:tkLost r≠[]):needed (tkReq r d) (movedW r.window (lostTrail (tkLost r)))=noBef (tkReq r d) (movedW r.window (lostTrail (tkLost r))).next :=
 needed_moved hg.w (lost_gp hg h).1 fun _ hq=>tkReq_at hg hq
theorem t_fnsl {P:Program} {f:FuncId} {α:Type} {E:Elem α} {v:Value} {xs:List α} {F:List Nat} {rest:List Value} {A M:List Pc} {σ:Type} {C:σ→Prop} {w:σ→Value} {N:σ→List Pc} (h:∀a c,Fn P f (.slice a xs.length c::rest) (.sl E (.slice a xs.length c) xs F::A) M C w N):Fn P f (v::rest) (.sl E v xs F::A) M C w N:=fun w0 hH hS=>by
 obtain ⟨-,hs⟩:=hH (.sl E v xs F) (by simp)
 obtain ⟨a,c,rfl⟩:=hs.slice
 exact h a c w0 hH hS
theorem isDelay_f (d:Int):Fn Tryz.prog 355 [.int .i64 d] [] [] (fun (_:Unit)=>True) (fun _=>.bool (isDel d)) (fun _=>[]):=by
 refine enter Tryz.func355 rfl Tryz.ntmps355 fun w0=>?_
 refine go ?_;intros
 refine ce (fun w s=>within_c _ _ _ _) ?_
 refine go ?_;intros
 refine ret () trivial rfl
theorem isRequest_f (r:Request) (base:Int) (b0:0≤base) (b1:base≤65535):Fn Tryz.prog 294 [.agg #[.int .i64 r.number,.int .i64 r.state,.int .i64 r.untl,.int .i64 r.tries],.int .i64 base] [] [] (fun (_:Unit)=>True) (fun _=>.bool (okReq base r)) (fun _=>[]):=by
 refine enter Tryz.func294 rfl Tryz.ntmps294 fun w0=>?_
 refine go ?_;intros
 refine ce (fun w s=>IsSerial_c _ _) ?_
 cases g1:isSer r.number
 ·refine go ?_;intros
  refine ret () trivial ?_
  simp [okReq,g1,tup]
 obtain ⟨n0,n1⟩:=isSer_iff.1 g1
 refine go ?_;intros
 refine ce (fun w s=>gap_c _ _ _ (by omega) (by omega) (by omega) (by omega)) ?_
 refine go ?_;intros
 refine wg_if rfl rfl (fun g2=>?_) (fun g2=>?_)
 rotate_left
 ·refine go ?_;intros
  refine ret () trivial ?_
  simp [okReq,g2,tup]
 refine go ?_;intros
 refine ce (fun w s=>within_c _ _ _ _) ?_
 cases g3:btw 1 r.state 3
 ·refine go ?_;intros
  refine ret () trivial ?_
  simp [okReq,g3,tup]
 refine go ?_;intros
 refine ce (fun w s=>within_c _ _ _ _) ?_
 cases g4:btw 0 r.untl 10007
 ·refine go ?_;intros
  refine ret () trivial ?_
  simp [okReq,g4,tup]
 refine go ?_;intros
 refine ce (fun w s=>within_c _ _ _ _) ?_
 refine go ?_;intros
 refine ret () trivial ?_
 simp [okReq,g1,g2,g3,g4,tup]
theorem AreRequests_f (l:List Request) (base:Int) (v:Value) (F:List Nat):Fn Tryz.prog 243 [v,.int .i64 base] [.sl ERequest v l F] [] (fun (_:Unit)=>True) (fun _=>.bool (areQ l base)) (fun _=>[]):=by
 refine t_fnsl (fun a c=>?_)
 refine enter Tryz.func243 rfl Tryz.ntmps243 fun w0=>?_
 refine go ?_;intros
 refine ce (fun w s=>IsSerial_c _ _) ?_
 cases g1:isSer base
 ·refine go ?_;intros
  refine ret () trivial ?_
  simp [areQ,g1,tup]
 obtain ⟨b0,b1⟩:=isSer_iff.1 g1
 refine go ?_;intros
 refine c_if rfl (fun g2=>?_) (fun g2=>?_)
 ·refine go ?_;intros
  refine ret () trivial ?_
  rw [show areQ l base=false by unfold areQ;rw [decide_eq_false (by omega)];simp];rfl
 refine go ?_;intros
 refine c_loopR [0,1,4,15,16] (fun k:Nat=>[(17,.int .i64 (k:Nat))]) (fun k=>k≤l.length∧∀j,j < k→chkQ l base j=true) (fun k=>l.length - k) 0 ⟨Nat.zero_le _,fun j h=>by omega⟩ fun k hk=>?_
 obtain ⟨hk1,hk2⟩:=hk
 refine go ?_;intros
 refine c_if rfl (fun h3=>?_) (fun h3=>?_)
 ·have hk3:k < l.length:=by omega
  have bad:chkQ l base k=false→areQ l base=false:=fun h=>areQ_no hk3 h
  have hck:=chkQ_at (base:=base) hk3
  refine atRequest (xs:=l) k ?_
  rintro hi b o e
  rw [e]
  have p4:0 < k→∃h:k - 1 < l.length,OkReq base l[k - 1]:=fun h0=>by
   have hk4:k - 1 < l.length:=by omega
   have hp:=hk2 (k - 1) (by omega)
   rw [chkQ_at hk4] at hp
   simp only [Bool.and_eq_true] at hp
   exact ⟨hk4,okReq_iff.1 hp.1⟩
  refine go ?_;intros
  cases g4:okReq base l[k]
  ·skip
   refine d_start [0] [] ?_
   refine dt2 0 1 ?_
   refine dN 2 ?_
   refine oC ?_
   refine cf (isRequest_f l[k] base b0 b1) fun _ _=>?_
   refine t_app ?_
   rw [g4]
   refine dk ?_
   refine dt2 3 4 ?_
   refine ds 5 ?_
   refine ds 6 ?_
   refine ds 7 ?_
   refine dsu 8 ?_
   refine dsu 9 ?_
   refine dsu 10 ?_
   refine dsu 11 ?_
   refine dsu 12 ?_
   refine dsu 13 ?_
   refine dsu 14 ?_
   refine dsu 15 ?_
   refine dsu 16 ?_
   refine dsu 17 ?_
   refine dsu 18 ?_
   refine dsu 19 ?_
   refine dsu 20 ?_
   refine ds 21 ?_
   refine dt 22 ?_
   refine dd ?_
   refine go ?_;intros
   refine ret () trivial ?_
   rw [bad (by rw [hck,g4];rfl)];rfl
  obtain ⟨q0,q1⟩:=isSer_iff.1 (okReq_iff.1 g4).n
  by_cases hk0:0 < k
  ·obtain ⟨hk4,p5⟩:=p4 hk0
   obtain ⟨p0,p1⟩:=isSer_iff.1 p5.n
   rw [←e]
   refine atRequest (xs:=l) (k - 1) ?_
   rintro hi5 b5 o5 e5
   rw [e5]
   refine d_start [0,1] [] ?_
   refine dt2 0 1 ?_
   refine dN 2 ?_
   refine oC ?_
   refine cf (isRequest_f l[k] base b0 b1) fun _ _=>?_
   refine t_app ?_
   rw [g4]
   refine dk ?_
   refine dt2 3 4 ?_
   refine dtg 5 ?_
   refine dtg 6 ?_
   rw [decide_eq_true (show (0:Int) < k by omega)]
   refine dtg 7 ?_
   refine dtg 8 ?_
   refine dtg 9 ?_
   refine dtg 10 ?_
   refine dtg 11 ?_
   rw [show (k:Int) - 1=((k - 1:Nat):Int) by omega]
   refine dtg 12 ?_
   refine dtg 13 ?_
   refine dtg 14 ?_
   refine dtg 16 ?_
   refine dtg 17 ?_
   refine dtg 18 ?_
   refine d1g 15 ?_
   apply On.h
   refine oC ?_
   refine ce (fun w s=>gap_c _ _ _ (by omega) (by omega) (by omega) (by omega)) ?_
   refine dk ?_
   refine d1g 19 ?_
   apply On.h
   refine oC ?_
   refine ce (fun w s=>gap_c _ _ _ (by omega) (by omega) (by omega) (by omega)) ?_
   refine dk ?_
   refine dtg 20 ?_
   refine dtg 21 ?_
   refine dt 22 ?_
   refine dd ?_
   refine go ?_;intros
   refine c_if rfl (fun h6=>?_) (fun h6=>?_)
   ·refine go ?_;intros
    refine ret () trivial ?_
    rw [bad (by rw [hck,decide_eq_true h6,decide_eq_false (show ¬k=0 by omega)];simp)];rfl
   ·refine go ?_;intros
    refine n_lp (k+1) ⟨by omega,fun j hj=>?_⟩ (by omega)
    rcases Nat.lt_or_eq_of_le (Nat.lt_succ_iff.1 hj) with h|rfl
    ·exact hk2 j h
    ·rw [hck,g4,decide_eq_false h6];simp
  ·have hz:k=0:=by omega
   refine d_start [0] [] ?_
   refine dt2 0 1 ?_
   refine dN 2 ?_
   refine oC ?_
   refine cf (isRequest_f l[k] base b0 b1) fun _ _=>?_
   refine t_app ?_
   rw [g4]
   refine dk ?_
   refine dt2 3 4 ?_
   refine dtg 5 ?_
   refine dtg 6 ?_
   rw [decide_eq_false (show ¬(0:Int) < k by omega)]
   refine dtg 7 ?_
   refine ds 8 ?_
   refine ds 9 ?_
   refine ds 10 ?_
   refine ds 11 ?_
   refine ds 12 ?_
   refine ds 13 ?_
   refine ds 14 ?_
   refine ds 15 ?_
   refine ds 16 ?_
   refine ds 17 ?_
   refine ds 18 ?_
   refine ds 19 ?_
   refine ds 20 ?_
   refine dtg 21 ?_
   refine dt 22 ?_
   refine dd ?_
   refine go ?_;intros
   refine n_lp (k+1) ⟨by omega,fun j hj=>?_⟩ (by omega)
   rcases Nat.lt_or_eq_of_le (Nat.lt_succ_iff.1 hj) with h|rfl
   ·exact hk2 j h
   ·rw [hck,g4,decide_eq_true hz];simp
 have hkl:k=l.length:=by omega
 refine go ?_;intros
 refine ret () trivial ?_
 rw [areQ_yes g1 (by omega) (hkl▸hk2)];rfl
theorem l12Good_f (l:List Request) (base:Int) (v:Value) (F:List Nat):Fn Tryz.prog 219 [v,.int .i64 base] [.sl ERequest v l F] [] (fun (_:Unit)=>True) (fun _=>.bool (areQ l base)) (fun _=>[]):=by
 refine t_fnsl (fun a c=>?_)
 refine enter Tryz.func219 rfl Tryz.ntmps219 fun w0=>?_
 refine go ?_;intros
 refine ce (fun w s=>l2Good_c _ _) ?_
 cases g1:isSer base
 ·refine go ?_;intros
  refine ret () trivial ?_
  simp [areQ,g1,tup]
 obtain ⟨b0,b1⟩:=isSer_iff.1 g1
 refine go ?_;intros
 refine c_if rfl (fun g2=>?_) (fun g2=>?_)
 ·refine go ?_;intros
  refine ret () trivial ?_
  rw [show areQ l base=false by unfold areQ;rw [decide_eq_false (by omega)];simp];rfl
 refine go ?_;intros
 refine c_loopR [0,1,4] (fun k:Nat=>[(5,.int .i64 (k:Nat))]) (fun k=>k≤l.length∧∀j,j < k→chkQ l base j=true) (fun k=>l.length - k) 0 ⟨Nat.zero_le _,fun j h=>by omega⟩ fun k hk=>?_
 obtain ⟨hk1,hk2⟩:=hk
 refine go ?_;intros
 refine c_if rfl (fun h3=>?_) (fun h3=>?_)
 ·have hk3:k < l.length:=by omega
  have bad:chkQ l base k=false→areQ l base=false:=fun h=>areQ_no hk3 h
  have hck:=chkQ_at (base:=base) hk3
  refine atRequest (xs:=l) k ?_
  rintro hi b o e
  rw [e]
  have p4:0 < k→∃h:k - 1 < l.length,OkReq base l[k - 1]:=fun h0=>by
   have hk4:k - 1 < l.length:=by omega
   have hp:=hk2 (k - 1) (by omega)
   rw [chkQ_at hk4] at hp
   simp only [Bool.and_eq_true] at hp
   exact ⟨hk4,okReq_iff.1 hp.1⟩
  refine go ?_;intros
  refine ce (fun w s=>l2Good_c _ _) ?_
  cases g5:isSer l[k].number
  ·refine go ?_;intros
   refine ret () trivial ?_
   rw [bad (by rw [hck,show okReq base l[k]=false by unfold okReq;simp [g5]];rfl)];rfl
  obtain ⟨q0,q1⟩:=isSer_iff.1 g5
  refine go ?_;intros
  refine ce (fun w s=>l2Gap_c _ _ _ (by omega) (by omega)) ?_
  refine go ?_;intros
  refine wg_if rfl rfl (fun g6=>?_) (fun g6=>?_)
  ·refine go ?_;intros
   refine ret () trivial ?_
   rw [bad (by rw [hck,show okReq base l[k]=false by unfold okReq;rw [decide_eq_false (by omega)];simp];rfl)];rfl
  refine go ?_;intros
  refine ce (fun w s=>l1In_c _ _ _ _) ?_
  cases g7:btw 1 l[k].state 3
  ·refine go ?_;intros
   refine ret () trivial ?_
   rw [bad (by rw [hck,show okReq base l[k]=false by unfold okReq;simp [g7]];rfl)];rfl
  refine go ?_;intros
  refine ce (fun w s=>l1In_c _ _ _ _) ?_
  cases g8:btw 0 l[k].untl 10007
  ·refine go ?_;intros
   refine ret () trivial ?_
   rw [bad (by rw [hck,show okReq base l[k]=false by unfold okReq;simp [g8]];rfl)];rfl
  refine go ?_;intros
  refine ce (fun w s=>l1In_c _ _ _ _) ?_
  cases g9:btw 0 l[k].tries 3
  ·refine go ?_;intros
   refine ret () trivial ?_
   rw [bad (by rw [hck,show okReq base l[k]=false by unfold okReq;simp [g9]];rfl)];rfl
  refine go ?_;intros
  have g4:okReq base l[k]=true:=by unfold okReq;rw [g5,g7,g8,g9,decide_eq_true (by omega)];rfl
  by_cases hk0:0 < k
  ·obtain ⟨hk4,p5⟩:=p4 hk0
   obtain ⟨p0,p1⟩:=isSer_iff.1 p5.n
   rw [←e]
   refine atRequest (xs:=l) (k - 1) ?_
   rintro hi5 b5 o5 e5
   rw [e5]
   refine d_start [1,0] [] ?_
   refine dt2 0 1 ?_
   rw [decide_eq_true (show (0:Int) < k by omega)]
   refine dt 2 ?_
   refine dtg 3 ?_
   refine dtg 4 ?_
   refine dtg 5 ?_
   refine dtg 6 ?_
   rw [show (k:Int) - 1=((k - 1:Nat):Int) by omega]
   refine dtg 7 ?_
   refine dtg 8 ?_
   refine dtg 9 ?_
   refine dtg 11 ?_
   refine dtg 12 ?_
   refine dtg 13 ?_
   refine d1g 10 ?_
   apply On.h
   refine oC ?_
   refine ce (fun w s=>l2Gap_c _ _ _ (by omega) (by omega)) ?_
   refine dk ?_
   refine d1g 14 ?_
   apply On.h
   refine oC ?_
   refine ce (fun w s=>l2Gap_c _ _ _ (by omega) (by omega)) ?_
   refine dk ?_
   refine dtg 15 ?_
   refine dt 16 ?_
   refine dd ?_
   refine go ?_;intros
   refine c_if rfl (fun h6=>?_) (fun h6=>?_)
   ·refine go ?_;intros
    refine ret () trivial ?_
    rw [bad (by rw [hck,decide_eq_true h6,decide_eq_false (show ¬k=0 by omega)];simp)];rfl
   ·refine go ?_;intros
    refine n_lp (k+1) ⟨by omega,fun j hj=>?_⟩ (by omega)
    rcases Nat.lt_or_eq_of_le (Nat.lt_succ_iff.1 hj) with h|rfl
    ·exact hk2 j h
    ·rw [hck,g4,decide_eq_false h6];simp
  ·have hz:k=0:=by omega
   refine d_start [0] [] ?_
   refine dt2 0 1 ?_
   rw [decide_eq_false (show ¬(0:Int) < k by omega)]
   refine dt 2 ?_
   refine ds 3 ?_
   refine ds 4 ?_
   refine ds 5 ?_
   refine ds 6 ?_
   refine ds 7 ?_
   refine ds 8 ?_
   refine ds 9 ?_
   refine ds 10 ?_
   refine ds 11 ?_
   refine ds 12 ?_
   refine ds 13 ?_
   refine ds 14 ?_
   refine ds 15 ?_
   refine dt 16 ?_
   refine dd ?_
   refine go ?_;intros
   refine n_lp (k+1) ⟨by omega,fun j hj=>?_⟩ (by omega)
   rcases Nat.lt_or_eq_of_le (Nat.lt_succ_iff.1 hj) with h|rfl
   ·exact hk2 j h
   ·rw [hck,g4,decide_eq_true hz];simp
 have hkl:k=l.length:=by omega
 refine go ?_;intros
 refine ret () trivial ?_
 rw [areQ_yes g1 (by omega) (hkl▸hk2)];rfl
section
variable {c:Cx} {fr:Fr} {H:List Pc} {Φ:Gl}
theorem openReceiver {v:Value} {x:Receiver} {F:List Nat} (h:∀(a1:Option Addr) (c1:Nat) (F1:List Nat) (a2:Option Addr) (c2:Nat) (F2:List Nat),v=.agg #[.bool x.started,.int .i64 x.clock,.int .i64 x.window.next,.slice a1 x.window.slots.length c1,.slice a2 x.requests.length c2]→x.window.slots.length≤maxLen→x.requests.length≤maxLen→T c fr (.sl ESlot (.slice a1 x.window.slots.length c1) x.window.slots F1::.sl ERequest (.slice a2 x.requests.length c2) x.requests F2::H) Φ) (hm:.isv EReceiver v x F∈H:=by (repeat (first|exact .head _|apply List.Mem.tail));first|done|fail):T c fr H Φ:=.mk fun a w s g=>by
 obtain ⟨cs,rfl,v1,v2,G1,G2,rfl,h1,h2,rfl⟩:=s.get hm
 obtain ⟨a1,c1,rfl⟩:=h1.slice;have l1:=h1.len
 obtain ⟨a2,c2,rfl⟩:=h2.slice;have l2:=h2.len
 have t2:=s.ro (p:=.sl ERequest (.slice a2 x.requests.length c2) x.requests G2) hm rfl rfl ⟨by decide,h2⟩ (by intro b hb;simp only [Pc.F] at hb ⊢;simp [hb])
 have t1:=t2.ro (p:=.sl ESlot (.slice a1 x.window.slots.length c1) x.window.slots G1) (List.mem_cons_of_mem _ hm) rfl rfl ⟨by decide,h1⟩ (by intro b hb;simp only [Pc.F] at hb ⊢;simp [hb])
 exact (h a1 c1 G1 a2 c2 G2 rfl  l1 l2).h a w t1 g
theorem closeReceiver (x:Receiver) {a1:Option Addr} {c1:Nat} {F1:List Nat} {a2:Option Addr} {c2:Nat} {F2:List Nat}  (h:T c fr (.isv EReceiver (.agg #[.bool x.started,.int .i64 x.clock,.int .i64 x.window.next,.slice a1 x.window.slots.length c1,.slice a2 x.requests.length c2]) x (F1++F2)::H) Φ) (m1:.sl ESlot (.slice a1 x.window.slots.length c1) x.window.slots F1∈H:=by (repeat (first|exact .head _|apply List.Mem.tail));first|done|fail) (m2:.sl ERequest (.slice a2 x.requests.length c2) x.requests F2∈H:=by (repeat (first|exact .head _|apply List.Mem.tail));first|done|fail):T c fr H Φ:=.mk fun a w s g=>by
 have hP:IsV EReceiver w (.agg #[.bool x.started,.int .i64 x.clock,.int .i64 x.window.next,.slice a1 x.window.slots.length c1,.slice a2 x.requests.length c2]) x (F1++F2):=⟨_,rfl,_,_,_,_,rfl,(s.get m1).2,(s.get m2).2,rfl⟩
 refine h.h a w (s.add (N:=[.isv EReceiver (.agg #[.bool x.started,.int .i64 x.clock,.int .i64 x.window.next,.slice a1 x.window.slots.length c1,.slice a2 x.requests.length c2]) x (F1++F2)]) (Below.refl _ _) (by intro q hq;simp at hq;subst hq;exact hP) ⟨by simp,trivial⟩ fun q hq b hb=>?_) g
 simp at hq;subst hq
 simp only [Pc.F,List.mem_append] at hb
 rcases hb with hb|hb
 ·exact .inr ⟨rfl,_,m1,rfl,hb⟩
 ·exact .inr ⟨rfl,_,m2,rfl,hb⟩
theorem openOReceiver {v:Value} {x:Receiver} {F:List Nat} {S:List Pc} (h:∀(a1:Option Addr) (c1:Nat) (F1:List Nat) (a2:Option Addr) (c2:Nat) (F2:List Nat),v=.agg #[.bool x.started,.int .i64 x.clock,.int .i64 x.window.next,.slice a1 x.window.slots.length c1,.slice a2 x.requests.length c2]→x.window.slots.length≤maxLen→x.requests.length≤maxLen→T c fr (.ow ESlot 247 (.slice a1 x.window.slots.length c1) x.window.slots F1::.ow ERequest 235 (.slice a2 x.requests.length c2) x.requests F2::S) Φ) (hp:Pick H (.own OReceiver v x F) S:=by (repeat (first|exact .here|apply Pick.there));first|done|fail):T c fr H Φ:=.mk fun a w s g=>by
 have z1:=s.pick hp
 obtain ⟨hn,cs,rfl,v1,v2,G1,G2,rfl,h1,h2,rfl⟩:=z1.on (.own OReceiver v x F) (by simp)
 obtain ⟨a1,c1,rfl⟩:=h1.slice;have l1:=h1.len
 obtain ⟨a2,c2,rfl⟩:=h2.slice;have l2:=h2.len
 have hn2:=hn;simp only [List.nodup_append,List.mem_append] at hn2
 refine (h a1 c1 G1 a2 c2 G2 rfl  l1 l2).h a w (St.turn (M:=[.own OReceiver (.agg #[.bool x.started,.int .i64 x.clock,.int .i64 x.window.next,.slice a1 x.window.slots.length c1,.slice a2 x.requests.length c2]) x _]) (N:=[.ow ESlot 247 (.slice a1 x.window.slots.length c1) x.window.slots G1,.ow ERequest 235 (.slice a2 x.requests.length c2) x.requests G2]) z1 (Keep.refl _ w) ?_ ?_ ?_) g
 ·intro q hq;simp only [List.mem_cons,List.not_mem_nil,or_false] at hq
  rcases hq with rfl|rfl
  ·exact ⟨(List.nodup_append.1 hn).1,h1⟩
  ·exact ⟨(List.nodup_append.1 hn).2.1,h2⟩
 ·refine ⟨?_,⟨?_,trivial⟩⟩
  ·intro q hq _ b hb hb2;simp only [List.mem_cons,List.not_mem_nil,or_false] at hq;rcases hq with rfl <;> simp only [Pc.F] at hb hb2 <;> exact nodup_apt hn hb hb2
  ·intro q hq _ b hb hb2;simp at hq
 ·intro q hq b hb;refine .inr (.inl ⟨_,List.mem_singleton.2 rfl,rfl,?_⟩);simp only [List.mem_cons,List.not_mem_nil,or_false] at hq;rcases hq with rfl|rfl <;> simp only [Pc.F] at hb ⊢ <;> simp [hb]
theorem closeOReceiver (x:Receiver) {a1:Option Addr} {c1:Nat} {F1:List Nat} {a2:Option Addr} {c2:Nat} {F2:List Nat} {S1 S2:List Pc}  (h:T c fr (.own OReceiver (.agg #[.bool x.started,.int .i64 x.clock,.int .i64 x.window.next,.slice a1 x.window.slots.length c1,.slice a2 x.requests.length c2]) x (F1++F2)::S2) Φ) (m1:Pick H (.ow ESlot 247 (.slice a1 x.window.slots.length c1) x.window.slots F1) S1:=by (repeat (first|exact .here|apply Pick.there));first|done|fail) (m2:Pick S1 (.ow ERequest 235 (.slice a2 x.requests.length c2) x.requests F2) S2:=by (repeat (first|exact .here|apply Pick.there));first|done|fail)  : T c fr H Φ:=.mk fun a w s g=>by
 have z1:St c.G c.D c.w0 ([.ow ESlot 247 (.slice a1 x.window.slots.length c1) x.window.slots F1,.ow ERequest 235 (.slice a2 x.requests.length c2) x.requests F2]++S2) w:=by simpa using (show Picks H [.ow ESlot 247 (.slice a1 x.window.slots.length c1) x.window.slots F1,.ow ERequest 235 (.slice a2 x.requests.length c2) x.requests F2] S2 from Picks.cons m1 (Picks.cons m2 (Picks.nil))).st (X:=[]) (by simpa using s)
 obtain ⟨n1,k1⟩:=z1.on (.ow ESlot 247 (.slice a1 x.window.slots.length c1) x.window.slots F1) (by simp)
 obtain ⟨n2,k2⟩:=z1.on (.ow ERequest 235 (.slice a2 x.requests.length c2) x.requests F2) (by simp)
 have hsp:=z1.sep
 have p1_2:∀b∈F1,b ∉ F2:=hsp.1 (.ow ERequest 235 (.slice a2 x.requests.length c2) x.requests F2) (by simp) rfl
 have hN:(F1++F2).Nodup:=by
  simp only [List.nodup_append,List.mem_append]
  grind
 refine h.h a w (St.turn (M:=[.ow ESlot 247 (.slice a1 x.window.slots.length c1) x.window.slots F1,.ow ERequest 235 (.slice a2 x.requests.length c2) x.requests F2]) (N:=[.own OReceiver (.agg #[.bool x.started,.int .i64 x.clock,.int .i64 x.window.next,.slice a1 x.window.slots.length c1,.slice a2 x.requests.length c2]) x (F1++F2)]) z1 (Keep.refl _ w) (by intro q hq;simp at hq;subst hq;exact ⟨hN,_,rfl,_,_,_,_,rfl,k1,k2,rfl⟩) ⟨by simp,trivial⟩ fun q hq b hb=>?_) g
 simp at hq;subst hq
 simp only [Pc.F,List.mem_append] at hb
 rcases hb with hb|hb
 ·exact .inr (.inl ⟨.ow ESlot 247 (.slice a1 x.window.slots.length c1) x.window.slots F1,by simp,rfl,hb⟩)
 ·exact .inr (.inl ⟨.ow ERequest 235 (.slice a2 x.requests.length c2) x.requests F2,by simp,rfl,hb⟩)
theorem atReceiver {a:Option Addr} {n cp:Nat} {xs:List Receiver} {F:List Nat} (i:Nat) (h:∀(hi:i < xs.length) (b o:Nat) (a1:Option Addr) (c1:Nat) (F1:List Nat) (a2:Option Addr) (c2:Nat) (F2:List Nat),a=some ⟨b,o,none⟩→xs[i].window.slots.length≤maxLen→xs[i].requests.length≤maxLen→T c fr (.cel b (o+i * 5) [.bool xs[i].started,.int .i64 xs[i].clock,.int .i64 xs[i].window.next,.slice a1 xs[i].window.slots.length c1,.slice a2 xs[i].requests.length c2]::.sl ESlot (.slice a1 xs[i].window.slots.length c1) xs[i].window.slots F1::.sl ERequest (.slice a2 xs[i].requests.length c2) xs[i].requests F2::H) Φ) (hm:.sl EReceiver (.slice a n cp) xs F∈H:=by (repeat (first|exact .head _|apply List.Mem.tail));first|done|fail) (hi:i < xs.length:=by omega):T c fr H Φ:=.mk fun ac w s g=>by
 obtain ⟨b,o,cs,G,ha,hrep,hG,hb,hne,hr⟩:=sl_at (s.get hm) i hi
 obtain ⟨v1,v2,G1,G2,rfl,h1,h2,rfl⟩:=hrep
 obtain ⟨a1,c1,rfl⟩:=h1.slice;have l1:=h1.len
 obtain ⟨a2,c2,rfl⟩:=h2.slice;have l2:=h2.len
 have t2:=s.ro (p:=.sl ERequest (.slice a2 xs[i].requests.length c2) xs[i].requests G2) hm rfl rfl ⟨by decide,h2⟩ (by intro b hb;simp only [Pc.F] at hb ⊢;exact hG b (by simp [hb]))
 have t1:=t2.ro (p:=.sl ESlot (.slice a1 xs[i].window.slots.length c1) xs[i].window.slots G1) (List.mem_cons_of_mem _ hm) rfl rfl ⟨by decide,h1⟩ (by intro b hb;simp only [Pc.F] at hb ⊢;exact hG b (by simp [hb]))
 exact (h hi b o a1 c1 G1 a2 c2 G2 ha  l1 l2).h ac w (t1.ro (List.mem_cons_of_mem _ (List.mem_cons_of_mem _ hm)) rfl rfl ⟨hne,hr⟩ (by intro x hx;simp [Pc.F] at hx;subst hx;exact hb)) g
end
theorem t_rocel {c:Cx} {fr:Fr} {H S:List Pc} {Φ:Gl} {g t:Nat} {cs:List Value} (h:T c fr (.cel g 0 cs::S) Φ) (h0:cs≠[]) (hp:Pick H (.row g t 0 [] cs []) S:=by (repeat (first|exact .here|apply Pick.there));first|done|fail):T c fr H Φ:=.mk fun ac w s ag=>by
 have s1:=s.pick hp
 exact h.h ac w (s1.conv rfl ⟨h0,row_range (s1.on (.row g t 0 [] cs []) (by simp))⟩ (fun b hb=>hb)) ag
theorem t_rin {c:Cx} {fr:Fr} {H S:List Pc} {Φ:Gl} {g t o k:Nat} {A B L:List Value} (X cs Y:List Value) (h:T c fr (.row g t (o+k) (A++X) cs (Y++B)::S) Φ) (hL:L=X++cs++Y:=by rfl) (hk:X.length=k:=by rfl) (hp:Pick H (.row g t o A L B) S:=by (repeat (first|exact .here|apply Pick.there));first|done|fail):T c fr H Φ:=.mk fun ac w s ag=>by
 subst hL hk
 have s1:=s.pick hp
 obtain ⟨hA,hr⟩:=s1.on (.row g t o A (X++cs++Y) B) (by simp)
 exact h.h ac w (s1.conv rfl ⟨by simp [hA],by simpa [List.append_assoc] using hr⟩ (fun b hb=>hb)) ag
theorem t_rout {c:Cx} {fr:Fr} {H S:List Pc} {Φ:Gl} {g t o k:Nat} {A B L:List Value} (X cs Y:List Value) (h:T c fr (.row g t o A L B::S) Φ) (hL:L=X++cs++Y:=by rfl) (hk:X.length=k:=by rfl) (hp:Pick H (.row g t (o+k) (A++X) cs (Y++B)) S:=by (repeat (first|exact .here|apply Pick.there));first|done|fail):T c fr H Φ:=.mk fun ac w s ag=>by
 subst hL hk
 have s1:=s.pick hp
 obtain ⟨hA,hr⟩:=s1.on (.row g t (o+X.length) (A++X) cs (Y++B)) (by simp)
 exact h.h ac w (s1.conv rfl ⟨by simpa using hA,by simpa [List.append_assoc] using hr⟩ (fun b hb=>hb)) ag
theorem hsub_skip {p:Pc}:∀(A:List Pc),HSub (p::A) A
 | []=>.nil
 | _::r=>.cons (.there .here) (hsub_skip r)
theorem IdxReq_f (fid:FuncId) (bd caps:List Value) (A:List Pc) (hA:A.all (fun p=>!p.mu)=true) (xs:List Request) (a:Option Addr) (c:Nat) (F:List Nat) (p:Request→Bool) (hb:bodyB Tryz.prog fid=true) (hl:xs.length≤1000000000)
  (hp:∀x∈xs,∀w,Hol A w→Calls Tryz.prog fid (bd++[(.agg #[.int .i64 (x).number,.int .i64 (x).state,.int .i64 (x).untl,.int .i64 (x).tries]:Value)]++caps).toArray w fun e w'=>e=.returned (.bool (p x))∧Below w.heap.size w w') :
  Fn Tryz.prog 295 [.slice a xs.length c,.func (.func fid) bd.toArray caps.toArray] (.sl ERequest (.slice a xs.length c) xs F::A) [] (fun (_:Unit)=>True) (fun _=>.int .i64 (fidx p xs)) (fun _=>[]):=by
 refine enter Tryz.func295 rfl Tryz.ntmps295 (fun w0=>?_) rfl (by simpa [Pc.mu] using hA) .nil
 refine go ?_;intros
 refine c_loopR [0,1,4,7] (fun k:Nat=>[(8,.int .i64 (k:Nat))]) (fun k=>k≤xs.length∧∀j (_:j < k) (hj:j < xs.length),p xs[j]=false) (fun k=>xs.length - k) 0 ⟨Nat.zero_le _,fun j h=>by omega⟩ fun k hk=>?_
 obtain ⟨hk1,hk2⟩:=hk
 refine go ?_;intros
 refine c_if rfl (fun h5=>?_) (fun h5=>?_)
 ·have hh:k < xs.length:=by omega
  refine go ?_;intros
  refine atRequest (xs:=xs) k ?_
  rintro hi b o e
  rw [e]
  refine go ?_;intros
  apply wO
  refine o_callb rfl rfl hb evsE ?_
  refine cb (fun w st=>hp xs[k] (List.getElem_mem hh) w (fun q hq=>st.on q (by simp [hq]))) ?_
  cases hpk:p xs[k]
  ·refine go ?_;intros
   refine t_drop ?_
   refine n_lp (hH:=hsub_refl _) (k+1) ⟨hh,fun j hj h=>?_⟩ (by omega)
   rcases Nat.lt_or_eq_of_le (Nat.lt_succ_iff.1 hj) with h2|rfl
   ·exact hk2 j h2 h
   ·exact hpk
  ·refine go ?_;intros
   refine ret () trivial ?_
   rw [fidx_hit hh hk2 hpk];rfl
 ·obtain rfl:k=xs.length:=by omega
  refine go ?_;intros
  refine ret () trivial ?_
  rw [fidx_none (fun j hj=>hk2 j hj hj)];rfl
structure DfReq where
 i:Nat
 j:Nat
 zs:List Request
theorem DelReq_f (fid:FuncId) (bd caps:List Value) (A:List Pc) (hA:A.all (fun p=>!p.mu)=true) (xs:List Request) (a:Option Addr) (c:Nat) (F:List Nat) (p:Request→Bool) (hb:bodyB Tryz.prog fid=true) (hl:xs.length≤1000000000)
  (hp:∀x∈xs,∀w,Hol A w→Calls Tryz.prog fid (bd++[(.agg #[.int .i64 (x).number,.int .i64 (x).state,.int .i64 (x).untl,.int .i64 (x).tries]:Value)]++caps).toArray w fun e w'=>e=.returned (.bool (p x))∧Below w.heap.size w w') :
  Fn Tryz.prog 276 [.slice a xs.length c,.func (.func fid) bd.toArray caps.toArray] A [.ow ERequest 235 (.slice a xs.length c) xs F] (fun (_:Option Addr × Nat × List Nat)=>True)
   (fun z=>.slice z.1 (xs.filter fun x=>!p x).length z.2.1) (fun z=>[.ow ERequest 235 (.slice z.1 (xs.filter fun x=>!p x).length z.2.1) (xs.filter fun x=>!p x) z.2.2]):=by
 refine enter Tryz.func276 rfl Tryz.ntmps276 (fun w0=>?_) rfl (by simpa [Pc.mu] using hA) (.cons .nil)
 refine go ?_;intros
 refine cb (fun w st=>by
  obtain ⟨Fw, -,hw⟩:=(st.get (p:=.ow ERequest 235 (.slice a xs.length c) xs F) (by simp)).2.read
  refine (IdxReq_f fid bd caps A hA xs a c Fw p hb hl hp).val w ?_ (by simpa [Pc.mu] using hA)
  intro q hq
  rcases List.mem_cons.1 hq with rfl|hq
  ·exact ⟨by decide,hw⟩
  ·exact st.on q (by simp [hq])) ?_
 by_cases hany:xs.any p=true
 ·obtain ⟨i0,hi0,hfx,hpi,hfl⟩:=fidx_some hany
  rw [hfx]
  refine t_head (xs:=xs) scal_ERequest (by rintro rfl;simp at hi0) ?_
  rintro g rfl rfl - hc1 hc2
  refine go ?_;intros
  refine c_loopS [0,1,4] (fun s:DfReq=>[(5,.int .i64 (s.i:Nat)),(6,.int .i64 (s.j:Nat))]) (fun s=>[.ow ERequest 235 (.slice (some ⟨g,0,none⟩) xs.length c) s.zs [g]]) (fun s=>s.zs.length=xs.length∧s.j≤xs.length∧s.i < s.j∧s.zs.take s.i=(xs.take s.j).filter (fun x=>!p x)∧s.zs.drop s.j=xs.drop s.j) (fun s=>xs.length - s.j) ⟨i0,i0+1,xs⟩ ⟨rfl,hi0,Nat.lt_succ_self _,by rw [filter_take_no hi0 (by simp [hpi]),hfl],rfl⟩ fun s hs=>?_
  obtain ⟨i,j,zs⟩:=s
  obtain ⟨h1,h2,h3,h4,h5⟩:=hs
  dsimp only at h1 h2 h3 h4 h5 ⊢
  refine go ?_;intros
  refine c_if rfl (fun h6=>?_) (fun h6=>?_)
  ·have hj:j < xs.length:=by omega
   have hjz:j < zs.length:=by omega
   have hx:zs[j]=xs[j]:=by
    have a1:=List.drop_eq_getElem_cons hjz
    have a2:=List.drop_eq_getElem_cons hj
    rw [h5,a2] at a1
    exact (List.cons.inj a1).1.symm
   have hdz:zs.drop (j+1)=xs.drop (j+1):=by
    rw [←List.drop_drop,h5,List.drop_drop]
   refine go ?_;intros
   refine focF (m:=4) scal_ERequest j ?_ (by repeat (first|exact .here|apply Pick.there)) rfl hjz
   rintro _ g2 A2 cs2 B2 e1 e2 hc3 hh
   cases e1
   obtain ⟨rfl, -⟩:=hc3 w0
   refine go ?_;intros
   refine unfF zs[j] hh hc3 ?_
   rw [List.set_getElem_self,hx]
   apply wO
   refine o_callb rfl rfl hb evsE ?_
   refine cb (fun w st=>hp xs[j] (List.getElem_mem hj) w (fun q hq=>st.on q (by simp [hq]))) ?_
   cases hpj:p xs[j]
   ·refine go ?_;intros
    refine focF (m:=4) scal_ERequest i ?_ (by repeat (first|exact .here|apply Pick.there)) rfl (by omega)
    rintro _ g3 A3 cs3 B3 e1 e2 hc4 hh3
    cases e1
    obtain ⟨rfl, -⟩:=hc4 w0
    refine go ?_;intros
    refine unfF xs[j] hh3 (fun w=>⟨rfl,rfl⟩) ?_
    refine n_lp (hH:=.cons .here (hsub_skip _)) (⟨i+1,j+1,zs.set i xs[j]⟩:DfReq) ⟨by simp [h1],hj,Nat.succ_lt_succ h3,?_,?_⟩ (by dsimp only;omega)
    ·dsimp only
     rw [filter_take_yes hj (by simp [hpj]),←h4,List.take_add_one,List.getElem?_set_self (by omega),List.take_set_of_le (Nat.le_refl _)]
     rfl
    ·dsimp only
     rw [List.drop_set_of_lt (by omega),hdz]
   ·refine go ?_;intros
    refine n_lp (hH:=.cons .here (hsub_skip _)) (⟨i,j+1,zs⟩:DfReq) ⟨h1,hj,Nat.lt_succ_of_lt h3,?_,hdz⟩ (by dsimp only;omega)
    dsimp only
    rw [filter_take_no hj (by simp [hpj]),h4]
  ·obtain rfl:j=xs.length:=by omega
   have h4':zs.take i=xs.filter fun x=>!p x:=by rw [h4,List.take_length]
   have hil:(xs.filter fun x=>!p x).length=i:=by rw [←h4',List.length_take];omega
   refine go ?_;intros
   apply wO;apply oc;rfl;exact yd_slv (i:=i) rfl rfl rfl (by omega) (by omega) (by omega)
   refine go ?_;intros
   apply wO
   refine o_clr (z0:=⟨0,0,0,0⟩) (n:=xs.length) (cp:=c) (i:=i) (g:=g) scal_ERequest (fun w=>⟨rfl,rfl⟩) (by decide) rfl rfl h3 h1.symm (by repeat (first|exact .here|apply Pick.there)) ?_
   refine go ?_;intros
   refine t_take (xs:=zs.take i++List.replicate (xs.length - i) ⟨0,0,0,0⟩) i (fun F2=>?_) (by rw [List.length_append,List.length_take,List.length_replicate];omega)
   rw [List.take_left' (by rw [List.length_take];omega),h4']
   apply wO;apply oc;rfl;exact yd_slt (i:=i) rfl rfl rfl (by omega) (by omega)
   refine go ?_;intros
   subst hil
   refine ret (_,c,F2) trivial rfl
 ·obtain ⟨hfx,hfl⟩:=fidx_all hany
  rw [hfx,hfl]
  refine go ?_;intros
  refine ret (a,c,F) trivial rfl
theorem ConReq_f (fid:FuncId) (bd caps:List Value) (A:List Pc) (hA:A.all (fun p=>!p.mu)=true) (xs:List Request) (a:Option Addr) (c:Nat) (F:List Nat) (p:Request→Bool) (hb:bodyB Tryz.prog fid=true) (hl:xs.length≤1000000000)
  (hp:∀x∈xs,∀w,Hol A w→Calls Tryz.prog fid (bd++[(.agg #[.int .i64 (x).number,.int .i64 (x).state,.int .i64 (x).untl,.int .i64 (x).tries]:Value)]++caps).toArray w fun e w'=>e=.returned (.bool (p x))∧Below w.heap.size w w') :
  Fn Tryz.prog 244 [.slice a xs.length c,.func (.func fid) bd.toArray caps.toArray] (.sl ERequest (.slice a xs.length c) xs F::A) [] (fun (_:Unit)=>True) (fun _=>.bool (xs.any p)) (fun _=>[]):=by
 refine enter Tryz.func244 rfl Tryz.ntmps244 (fun w0=>?_) rfl (by simpa [Pc.mu] using hA) .nil
 refine go ?_;intros
 refine cb (fun w st=>(IdxReq_f fid bd caps A hA xs a c F p hb hl hp).val w (fun q hq=>st.on q (by simpa using hq)) (by simpa [Pc.mu] using hA)) ?_
 refine go ?_;intros
 refine ret () trivial ?_
 rw [fidx_any];rfl
theorem recv1_f (x:ReceiveWindow) (r:Request) (g:Nat) (b:Bool) (ck:Int) (q:Value) (a1:Option Addr) (c1:Nat) (F:List Nat) (h0:0≤x.next) (h1:x.next≤65535) (n0:0≤r.number) (n1:r.number≤65535):Fn Tryz.prog 245 [.agg #[.int .i64 r.number,.int .i64 r.state,.int .i64 r.untl,.int .i64 r.tries],ptr g 0 0] [.cel g 0 [.bool b,.int .i64 ck,.int .i64 x.next,.slice a1 x.slots.length c1,q],.isv EReceiveWindow (.agg #[.int .i64 x.next,.slice a1 x.slots.length c1]) x F] [] (fun (_:Unit)=>True) (fun _=>.bool (hasB x r.number)) (fun _=>[]):=by
 refine enter Tryz.func245 rfl Tryz.ntmps245 fun w0=>?_
 refine go ?_;intros
 refine cf (RWhas_f x r.number _ F h0 h1 n0 n1) fun _ _=>?_
 refine t_app ?_
 refine go ?_;intros
 refine ret () trivial rfl
theorem IsValidReceiver_f (x:Receiver) (v:Value) (F:List Nat):Fn Tryz.prog 182 [v] [.isv EReceiver v x F] [] (fun (_:Unit)=>True) (fun _=>.bool (goodRec x)) (fun _=>[]):=by
 refine enter Tryz.func182 rfl Tryz.ntmps182 fun w0=>?_
 refine openReceiver ?_
 rintro a1 c1 F1 a2 c2 F2 rfl l1 l2
 unfold maxLen at l1 l2
 refine closeReceiveWindow x.window ?_
 generalize F1=F3
 refine go ?_;intros
 refine ce (fun w s=>isClock_c _ _) ?_
 cases g1:isClk x.clock
 ·refine go ?_;intros
  refine ret () trivial ?_
  simp [goodRec,g1,tup]
 refine go ?_;intros
 cases hs:x.started
 ·have nog:zeroRec x=false→goodRec x=false:=fun h=>by unfold goodRec;rw [g1,hs];simpa using h
  refine go ?_;intros
  refine wg_if rfl rfl (fun h1=>?_) (fun h1=>?_)
  rotate_left
  ·refine go ?_;intros
   refine ret () trivial ?_
   rw [nog (by unfold zeroRec;rw [decide_eq_false h1];rfl)];rfl
  refine go ?_;intros
  refine wg_if rfl rfl (fun h2=>?_) (fun h2=>?_)
  rotate_left
  ·refine go ?_;intros
   refine ret () trivial ?_
   rw [nog (by unfold zeroRec;rw [decide_eq_false (show ¬x.window.slots.length=0 by omega)];simp)];rfl
  refine go ?_;intros
  refine ret () trivial ?_
  rw [show goodRec x=decide ((x.requests.length:Int)=0) by unfold goodRec;rw [g1,hs];unfold zeroRec;rw [decide_eq_true h1,decide_eq_true (show x.window.slots.length=0 by omega)];simp];rfl
 rename_i g
 refine t_rocel (cs:=[.bool true,.int .i64 x.clock,.int .i64 x.window.next,.slice a1 x.window.slots.length c1,.slice a2 x.requests.length c2]) ?_ (by simp)
 refine go ?_;intros
 refine cf (RWgood_f x.window _ F3) fun _ _=>?_
 refine t_app ?_
 cases g2:goodRW x.window
 ·refine go ?_;intros
  refine ret () trivial ?_
  simp [goodRec,g1,g2,hs,tup]
 obtain ⟨w0_,w1_⟩:=next_ser g2
 refine go ?_;intros
 refine cf (AreRequests_f x.requests x.window.next _ F2) fun _ _=>?_
 refine t_app ?_
 cases g3:areQ x.requests x.window.next
 ·refine go ?_;intros
  refine ret () trivial ?_
  simp [goodRec,g1,g2,g3,hs,tup]
 obtain ⟨-,q1,q2, -⟩:=areQ_iff.1 g3
 refine go ?_;intros
 refine cb (fun w st=>(ConReq_f 245 [] [ptr g 0 0] [.cel g 0 [.bool true,.int .i64 x.clock,.int .i64 x.window.next,.slice a1 x.window.slots.length c1,.slice a2 x.requests.length c2],.isv EReceiveWindow (.agg #[.int .i64 x.window.next,.slice a1 x.window.slots.length c1]) x.window F3] rfl x.requests a2 c2 F2 (fun z=>hasB x.window z.number) (by kernel_rfl) (by omega) (fun z hz w hA=>by
  obtain ⟨n0,n1⟩:=isSer_iff.1 (okReq_iff.1 (q2 z hz)).n
  exact (recv1_f x.window z g true x.clock _ a1 c1 F3 w0_ w1_ n0 n1).val w hA)).val w (fun q hq=>by
   simp only [List.mem_cons,List.not_mem_nil,or_false] at hq
   rcases hq with rfl|rfl|rfl <;> exact st.get (by exact memE))) ?_
 refine go ?_;intros
 refine ret () trivial ?_
 rw [show goodRec x = !(x.requests.any fun z=>hasB x.window z.number) by unfold goodRec freeQ;rw [g1,g2,g3,hs,List.not_any_eq_all_not];simp];rfl
theorem freeQ_no {x:Receiver} {k:Nat} (h:k < x.requests.length) (hh:hasB x.window x.requests[k].number=true):freeQ x=false:=List.all_eq_false.2 ⟨_,List.getElem_mem h,by simp [hh]⟩
theorem have_has {w:ReceiveWindow} {n:Int} (hw:goodRW w=true) (hn:isSer n=true) (h8:gp w.next n < 8):(bef n w.next || hasB w n)=hasB w n:=by
 obtain ⟨w0,w1⟩:=next_ser hw
 obtain ⟨n0,n1⟩:=isSer_iff.1 hn
 have:bef n w.next=false:=by
  have:¬(1≤gp n w.next∧gp n w.next≤32767):=by unfold gp at *;omega
  unfold bef btw
  simpa using this
 rw [this];rfl
theorem l13Good_f (x:Receiver) (v:Value) (F:List Nat):Fn Tryz.prog 152 [v] [.isv EReceiver v x F] [] (fun (_:Unit)=>True) (fun _=>.bool (goodRec x)) (fun _=>[]):=by
 refine enter Tryz.func152 rfl Tryz.ntmps152 fun w0=>?_
 refine openReceiver ?_
 rintro a1 c1 F1 a2 c2 F2 rfl l1 l2
 unfold maxLen at l1 l2
 refine closeReceiveWindow x.window ?_
 generalize F1=F3
 refine go ?_;intros
 refine ce (fun w s=>l11Clock_c _ _) ?_
 cases g1:isClk x.clock
 ·refine go ?_;intros
  refine ret () trivial ?_
  simp [goodRec,g1,tup]
 refine go ?_;intros
 refine cf (l10Good_f x.window _ F3) fun _ _=>?_
 refine t_app ?_
 cases g2:goodRW x.window
 ·refine go ?_;intros
  refine ret () trivial ?_
  cases hg:goodRec x
  ·rfl
  ·rw [(goodR_iff.1 hg).w] at g2;cases g2
 obtain ⟨w0_,w1_⟩:=next_ser g2
 refine go ?_;intros
 refine cf (l12Good_f x.requests x.window.next _ F2) fun _ _=>?_
 refine t_app ?_
 cases g3:areQ x.requests x.window.next
 ·refine go ?_;intros
  refine ret () trivial ?_
  cases hg:goodRec x
  ·rfl
  ·rw [(goodR_iff.1 hg).q] at g3;cases g3
 obtain ⟨-,q1,q2, -⟩:=areQ_iff.1 g3
 refine go ?_;intros
 cases hs:x.started
 ·have nog:zeroRec x=false→goodRec x=false:=fun h=>by unfold goodRec;rw [g1,hs];simpa using h
  refine go ?_;intros
  refine wg_if rfl rfl (fun h1=>?_) (fun h1=>?_)
  rotate_left
  ·refine go ?_;intros
   refine ret () trivial ?_
   rw [nog (by unfold zeroRec;rw [decide_eq_false h1];rfl)];rfl
  refine go ?_;intros
  refine wg_if rfl rfl (fun h2=>?_) (fun h2=>?_)
  rotate_left
  ·refine go ?_;intros
   refine ret () trivial ?_
   rw [nog (by unfold zeroRec;rw [decide_eq_false (show ¬x.window.slots.length=0 by omega)];simp)];rfl
  refine go ?_;intros
  refine ret () trivial ?_
  rw [show goodRec x=decide ((x.requests.length:Int)=0) by unfold goodRec;rw [g1,hs];unfold zeroRec;rw [decide_eq_true h1,decide_eq_true (show x.window.slots.length=0 by omega)];simp];rfl
 refine go ?_;intros
 refine c_loopR [1,2] (fun k:Nat=>[(3,.int .i64 (k:Nat))]) (fun k=>k≤x.requests.length∧∀j (_:j < k) (h:j < x.requests.length),hasB x.window x.requests[j].number=false) (fun k=>x.requests.length - k) 0 ⟨Nat.zero_le _,fun j h=>by omega⟩ fun k hk=>?_
 obtain ⟨hk1,hk2⟩:=hk
 refine go ?_;intros
 refine c_if rfl (fun h3=>?_) (fun h3=>?_)
 ·have hk3:k < x.requests.length:=by omega
  have hq:=okReq_iff.1 (q2 _ (List.getElem_mem hk3))
  obtain ⟨n0,n1⟩:=isSer_iff.1 hq.n
  refine atRequest (xs:=x.requests) k ?_
  rintro hi b o e
  rw [e]
  refine go ?_;intros
  refine d_start [0,1] [] ?_
  refine dt4 0 1 2 3 ?_
  refine dt4 4 5 6 7 ?_
  refine dN 8 ?_
  refine oC ?_
  refine cf (l10Have_f x.window x.requests[k].number _ F3 w0_ w1_ n0 n1) fun _ _=>?_
  refine t_app ?_
  refine dk ?_
  refine dd ?_
  rw [show takeNo x.window x.requests[k].number=hasB x.window x.requests[k].number from have_has g2 hq.n hq.g]
  cases g5:hasB x.window x.requests[k].number
  ·refine go ?_;intros
   refine n_lp (k+1) ⟨by omega,fun j hj h=>?_⟩ (by omega)
   rcases Nat.lt_or_eq_of_le (Nat.lt_succ_iff.1 hj) with h'|rfl
   ·exact hk2 j h' h
   ·exact g5
  ·refine go ?_;intros
   refine ret () trivial ?_
   rw [show goodRec x=false by unfold goodRec;rw [g1,g2,g3,hs,freeQ_no hk3 g5];rfl];rfl
 have hkl:k=x.requests.length:=by omega
 refine go ?_;intros
 refine ret () trivial ?_
 rw [show goodRec x=true by
  unfold goodRec freeQ;rw [g1,g2,g3,hs,List.all_eq_true.2 fun z hz=>?_];rfl
  obtain ⟨i,hi,rfl⟩:=List.getElem_of_mem hz
  rw [hk2 i (by omega) hi];rfl];rfl
theorem fm_succ {α β:Type} {f:α→Option β} {l:List α} {k:Nat} (h:k < l.length):(l.take (k+1)).filterMap f=(l.take k).filterMap f++(f l[k]).toList:=by
 rw [List.take_add_one,List.getElem?_eq_getElem h,List.filterMap_append]
 cases hf:f l[k] <;> simp [hf]
theorem fm_len {α β:Type} (f:α→Option β) (l:List α) (k:Nat):((l.take k).filterMap f).length≤k:=by
 have:=List.length_filterMap_le f (l.take k)
 rw [List.length_take] at this;omega
structure TkS where
 k:Nat
 a:Option Addr
 c:Nat
 F:List Nat
 a2:Option Addr
 c2:Nat
 F2:List Nat
 a3:Option Addr
 c3:Nat
 F3:List Nat
theorem tickRequests_f (l:List Request) (c d:Int) (a0:Option Addr) (c0:Nat) (F:List Nat) (hl:l.length≤1000000) (ht:∀r∈l,0≤r.tries∧r.tries≤3) (c0_:0≤c) (c1_:c≤1000000) (d0_:-1000000≤d) (d1_:d≤1000000) :
  Fn Tryz.prog 207 [.slice a0 l.length c0,.int .i64 c,.int .i64 d] [.sl ERequest (.slice a0 l.length c0) l F] [] (fun (_:TkS)=>True) (fun s=>.tuple #[.slice s.a (l.filterMap (tkO c d)).length s.c,.slice s.a2 (l.filterMap (tkS c)).length s.c2,.slice s.a3 (l.filterMap (tkL c)).length s.c3]) (fun s=>[.ow ERequest 235 (.slice s.a (l.filterMap (tkO c d)).length s.c) (l.filterMap (tkO c d)) s.F,.ow EInt 3 (.slice s.a2 (l.filterMap (tkS c)).length s.c2) (l.filterMap (tkS c)) s.F2,.ow EInt 3 (.slice s.a3 (l.filterMap (tkL c)).length s.c3) (l.filterMap (tkL c)) s.F3]):=by
 refine enter Tryz.func207 rfl Tryz.ntmps207 fun w0=>?_
 refine go ?_;intros
 refine t_nilow ERequest 235 ?_
 refine t_nilow EInt 3 ?_
 refine t_nilow EInt 3 ?_
 refine c_loopS [1,2,6,7,8,14,15] (fun s:TkS=>[(16,.int .i64 (s.k:Nat)),(9,.slice s.a ((l.take s.k).filterMap (tkO c d)).length s.c),(10,.slice s.a2 ((l.take s.k).filterMap (tkS c)).length s.c2),(11,.slice s.a3 ((l.take s.k).filterMap (tkL c)).length s.c3)]) (fun s=>[.ow ERequest 235 (.slice s.a ((l.take s.k).filterMap (tkO c d)).length s.c) ((l.take s.k).filterMap (tkO c d)) s.F,.ow EInt 3 (.slice s.a2 ((l.take s.k).filterMap (tkS c)).length s.c2) ((l.take s.k).filterMap (tkS c)) s.F2,.ow EInt 3 (.slice s.a3 ((l.take s.k).filterMap (tkL c)).length s.c3) ((l.take s.k).filterMap (tkL c)) s.F3]) (fun s=>s.k≤l.length) (fun s=>l.length - s.k) ⟨0,_,_,_,_,_,_,_,_,_⟩ (Nat.zero_le _) fun s hs=>?_
 obtain ⟨k,a4,c4,F4,a5,c5,F5,a6,c6,F6⟩:=s
 dsimp only at hs ⊢
 have h1:=fm_len (tkO c d) l k
 have h2:=fm_len (tkS c) l k
 have h3:=fm_len (tkL c) l k
 refine go ?_;intros
 refine c_if rfl (fun h4=>?_) (fun h4=>?_)
 ·have hk:k < l.length:=by omega
  obtain ⟨t0,t1⟩:=ht _ (List.getElem_mem hk)
  refine atRequest (xs:=l) k ?_
  rintro hi b o e
  rw [e]
  refine go ?_;intros
  refine c_if rfl (fun h5=>?_) (fun h5=>?_)
  ·have h5':c < l[k].untl:=by omega
   refine go ?_;intros
   have eo:((l.take (k+1)).filterMap (tkO c d))=((l.take k).filterMap (tkO c d))++[l[k]]:=by rw [fm_succ hk];simp [tkO,h5']
   have es:((l.take (k+1)).filterMap (tkS c))=((l.take k).filterMap (tkS c)):=by rw [fm_succ hk];simp [tkS,h5']
   have el:((l.take (k+1)).filterMap (tkL c))=((l.take k).filterMap (tkL c)):=by rw [fm_succ hk];simp [tkL,h5']
   apply wO
   refine ap1 (ys:=[l[k]]) (flatRequest l[k]) one_ERequest fun a7 c7 F7=>?_
   refine go ?_;intros
   rw [←eo,←es,←el]
   refine n_lp (⟨k+1,_,_,_,_,_,_,_,_,_⟩:TkS) (by show k+1≤l.length;omega) (by show l.length - (k+1) < l.length - k;omega)
  refine go ?_;intros
  refine c_if rfl (fun h6=>?_) (fun h6=>?_)
  ·refine go ?_;intros
   have eo:((l.take (k+1)).filterMap (tkO c d))=((l.take k).filterMap (tkO c d)):=by rw [fm_succ hk];simp [tkO,h5,h6]
   have es:((l.take (k+1)).filterMap (tkS c))=((l.take k).filterMap (tkS c)):=by rw [fm_succ hk];simp [tkS,h5,h6]
   have el:((l.take (k+1)).filterMap (tkL c))=((l.take k).filterMap (tkL c))++[l[k].number]:=by rw [fm_succ hk];simp [tkL,h5,h6]
   apply wO
   refine ap1 (ys:=[l[k].number]) (rep_int _) one_EInt fun a8 c8 F8=>?_
   refine go ?_;intros
   rw [←eo,←es,←el]
   refine n_lp (⟨k+1,_,_,_,_,_,_,_,_,_⟩:TkS) (by show k+1≤l.length;omega) (by show l.length - (k+1) < l.length - k;omega)
  refine go ?_;intros
  refine c_if rfl (fun h7=>?_) (fun h7=>?_)
  ·refine go ?_;intros
   have eo:((l.take (k+1)).filterMap (tkO c d))=((l.take k).filterMap (tkO c d))++[(⟨l[k].number,2,c+3,l[k].tries+1⟩:Request)]:=by rw [fm_succ hk];simp [tkO,h5,h6,h7]
   have es:((l.take (k+1)).filterMap (tkS c))=((l.take k).filterMap (tkS c))++[l[k].number]:=by rw [fm_succ hk];simp [tkS,h5,h6,h7]
   have el:((l.take (k+1)).filterMap (tkL c))=((l.take k).filterMap (tkL c)):=by rw [fm_succ hk];simp [tkL,h5,h6,h7]
   apply wO
   refine ap1 (ys:=[l[k].number]) (rep_int _) one_EInt fun a8 c8 F8=>?_
   refine go ?_;intros
   apply wO
   refine ap1 (ys:=[(⟨l[k].number,2,c+3,l[k].tries+1⟩:Request)]) (flatRequest (⟨l[k].number,2,c+3,l[k].tries+1⟩:Request)) one_ERequest fun a7 c7 F7=>?_
   refine go ?_;intros
   rw [←eo,←es,←el]
   refine n_lp (⟨k+1,_,_,_,_,_,_,_,_,_⟩:TkS) (by show k+1≤l.length;omega) (by show l.length - (k+1) < l.length - k;omega)
  ·refine go ?_;intros
   have eo:((l.take (k+1)).filterMap (tkO c d))=((l.take k).filterMap (tkO c d))++[(⟨l[k].number,1,c+d,l[k].tries⟩:Request)]:=by rw [fm_succ hk];simp [tkO,h5,h6,h7]
   have es:((l.take (k+1)).filterMap (tkS c))=((l.take k).filterMap (tkS c)):=by rw [fm_succ hk];simp [tkS,h5,h6,h7]
   have el:((l.take (k+1)).filterMap (tkL c))=((l.take k).filterMap (tkL c)):=by rw [fm_succ hk];simp [tkL,h5,h6,h7]
   apply wO
   refine ap1 (ys:=[(⟨l[k].number,1,c+d,l[k].tries⟩:Request)]) (flatRequest (⟨l[k].number,1,c+d,l[k].tries⟩:Request)) one_ERequest fun a7 c7 F7=>?_
   refine go ?_;intros
   rw [←eo,←es,←el]
   refine n_lp (⟨k+1,_,_,_,_,_,_,_,_,_⟩:TkS) (by show k+1≤l.length;omega) (by show l.length - (k+1) < l.length - k;omega)
 ·obtain rfl:k=l.length:=by omega
  rw [List.take_length]
  refine go ?_;intros
  refine ret ⟨0,_,_,_,_,_,_,_,_,_⟩ trivial rfl
theorem l12Tick_f (l:List Request) (c d:Int) (a0:Option Addr) (c0:Nat) (F:List Nat) (hl:l.length≤1000000) (ht:∀r∈l,0≤r.tries∧r.tries≤3) (c0_:0≤c) (c1_:c≤1000000) (d0_:-1000000≤d) (d1_:d≤1000000) :
  Fn Tryz.prog 224 [.slice a0 l.length c0,.int .i64 c,.int .i64 d] [.sl ERequest (.slice a0 l.length c0) l F] [] (fun (_:TkS)=>True) (fun s=>.tuple #[.slice s.a (l.filterMap (tkO c d)).length s.c,.slice s.a2 (l.filterMap (tkS c)).length s.c2,.slice s.a3 (l.filterMap (tkL c)).length s.c3]) (fun s=>[.ow ERequest 235 (.slice s.a (l.filterMap (tkO c d)).length s.c) (l.filterMap (tkO c d)) s.F,.ow EInt 3 (.slice s.a2 (l.filterMap (tkS c)).length s.c2) (l.filterMap (tkS c)) s.F2,.ow EInt 3 (.slice s.a3 (l.filterMap (tkL c)).length s.c3) (l.filterMap (tkL c)) s.F3]):=by
 refine enter Tryz.func224 rfl Tryz.ntmps224 fun w0=>?_
 refine go ?_;intros
 refine t_emp EInt ?_
 refine t_emp EInt ?_
 refine t_emp ERequest ?_
 refine c_loopS [0,1,2,6,7,8] (fun s:TkS=>[(12,.int .i64 (s.k:Nat)),(9,.slice s.a ((l.take s.k).filterMap (tkO c d)).length s.c),(10,.slice s.a2 ((l.take s.k).filterMap (tkS c)).length s.c2),(11,.slice s.a3 ((l.take s.k).filterMap (tkL c)).length s.c3)]) (fun s=>[.ow ERequest 235 (.slice s.a ((l.take s.k).filterMap (tkO c d)).length s.c) ((l.take s.k).filterMap (tkO c d)) s.F,.ow EInt 3 (.slice s.a2 ((l.take s.k).filterMap (tkS c)).length s.c2) ((l.take s.k).filterMap (tkS c)) s.F2,.ow EInt 3 (.slice s.a3 ((l.take s.k).filterMap (tkL c)).length s.c3) ((l.take s.k).filterMap (tkL c)) s.F3]) (fun s=>s.k≤l.length) (fun s=>l.length - s.k) ⟨0,_,_,_,_,_,_,_,_,_⟩ (Nat.zero_le _) fun s hs=>?_
 obtain ⟨k,a4,c4,F4,a5,c5,F5,a6,c6,F6⟩:=s
 dsimp only at hs ⊢
 have h1:=fm_len (tkO c d) l k
 have h2:=fm_len (tkS c) l k
 have h3:=fm_len (tkL c) l k
 refine go ?_;intros
 refine c_if rfl (fun h4=>?_) (fun h4=>?_)
 ·have hk:k < l.length:=by omega
  obtain ⟨t0,t1⟩:=ht _ (List.getElem_mem hk)
  refine atRequest (xs:=l) k ?_
  rintro hi b o e
  rw [e]
  refine go ?_;intros
  refine c_if rfl (fun h5=>?_) (fun h5=>?_)
  ·have h5':c < l[k].untl:=by omega
   refine go ?_;intros
   have eo:((l.take (k+1)).filterMap (tkO c d))=((l.take k).filterMap (tkO c d))++[l[k]]:=by rw [fm_succ hk];simp [tkO,h5']
   have es:((l.take (k+1)).filterMap (tkS c))=((l.take k).filterMap (tkS c)):=by rw [fm_succ hk];simp [tkS,h5']
   have el:((l.take (k+1)).filterMap (tkL c))=((l.take k).filterMap (tkL c)):=by rw [fm_succ hk];simp [tkL,h5']
   apply wO
   refine ap1 (ys:=[l[k]]) (flatRequest l[k]) one_ERequest fun a7 c7 F7=>?_
   refine go ?_;intros
   rw [←eo,←es,←el]
   refine n_lp (⟨k+1,_,_,_,_,_,_,_,_,_⟩:TkS) (by show k+1≤l.length;omega) (by show l.length - (k+1) < l.length - k;omega)
  refine go ?_;intros
  refine c_if rfl (fun h6=>?_) (fun h6=>?_)
  ·refine go ?_;intros
   have eo:((l.take (k+1)).filterMap (tkO c d))=((l.take k).filterMap (tkO c d)):=by rw [fm_succ hk];simp [tkO,h5,h6]
   have es:((l.take (k+1)).filterMap (tkS c))=((l.take k).filterMap (tkS c)):=by rw [fm_succ hk];simp [tkS,h5,h6]
   have el:((l.take (k+1)).filterMap (tkL c))=((l.take k).filterMap (tkL c))++[l[k].number]:=by rw [fm_succ hk];simp [tkL,h5,h6]
   apply wO
   refine ap1 (ys:=[l[k].number]) (rep_int _) one_EInt fun a8 c8 F8=>?_
   refine go ?_;intros
   rw [←eo,←es,←el]
   refine n_lp (⟨k+1,_,_,_,_,_,_,_,_,_⟩:TkS) (by show k+1≤l.length;omega) (by show l.length - (k+1) < l.length - k;omega)
  refine go ?_;intros
  refine c_if rfl (fun h7=>?_) (fun h7=>?_)
  ·refine go ?_;intros
   have eo:((l.take (k+1)).filterMap (tkO c d))=((l.take k).filterMap (tkO c d))++[(⟨l[k].number,2,c+3,l[k].tries+1⟩:Request)]:=by rw [fm_succ hk];simp [tkO,h5,h6,h7]
   have es:((l.take (k+1)).filterMap (tkS c))=((l.take k).filterMap (tkS c))++[l[k].number]:=by rw [fm_succ hk];simp [tkS,h5,h6,h7]
   have el:((l.take (k+1)).filterMap (tkL c))=((l.take k).filterMap (tkL c)):=by rw [fm_succ hk];simp [tkL,h5,h6,h7]
   apply wO
   refine ap1 (ys:=[l[k].number]) (rep_int _) one_EInt fun a8 c8 F8=>?_
   refine go ?_;intros
   apply wO
   refine ap1 (ys:=[(⟨l[k].number,2,c+3,l[k].tries+1⟩:Request)]) (flatRequest (⟨l[k].number,2,c+3,l[k].tries+1⟩:Request)) one_ERequest fun a7 c7 F7=>?_
   refine go ?_;intros
   rw [←eo,←es,←el]
   refine n_lp (⟨k+1,_,_,_,_,_,_,_,_,_⟩:TkS) (by show k+1≤l.length;omega) (by show l.length - (k+1) < l.length - k;omega)
  ·refine go ?_;intros
   have eo:((l.take (k+1)).filterMap (tkO c d))=((l.take k).filterMap (tkO c d))++[(⟨l[k].number,1,c+d,l[k].tries⟩:Request)]:=by rw [fm_succ hk];simp [tkO,h5,h6,h7]
   have es:((l.take (k+1)).filterMap (tkS c))=((l.take k).filterMap (tkS c)):=by rw [fm_succ hk];simp [tkS,h5,h6,h7]
   have el:((l.take (k+1)).filterMap (tkL c))=((l.take k).filterMap (tkL c)):=by rw [fm_succ hk];simp [tkL,h5,h6,h7]
   apply wO
   refine ap1 (ys:=[(⟨l[k].number,1,c+d,l[k].tries⟩:Request)]) (flatRequest (⟨l[k].number,1,c+d,l[k].tries⟩:Request)) one_ERequest fun a7 c7 F7=>?_
   refine go ?_;intros
   rw [←eo,←es,←el]
   refine n_lp (⟨k+1,_,_,_,_,_,_,_,_,_⟩:TkS) (by show k+1≤l.length;omega) (by show l.length - (k+1) < l.length - k;omega)
 ·obtain rfl:k=l.length:=by omega
  rw [List.take_length]
  refine go ?_;intros
  refine ret ⟨0,_,_,_,_,_,_,_,_,_⟩ trivial rfl
theorem Rclone_f (x:Receiver) (v:Value) (F:List Nat) (hl:x.window.slots.length≤1000000000) (hl2:x.requests.length≤1000000000):Fn Tryz.prog 101 [v] [.isv EReceiver v x F] [] (fun (_:Value × List Nat)=>True) (fun s=>s.1) (fun s=>[.own OReceiver s.1 x s.2]):=by
 refine enter Tryz.func101 rfl Tryz.ntmps101 fun w0=>?_
 refine openReceiver ?_
 rintro a1 c1 F1 a2 c2 F2 rfl l1 l2
 refine closeReceiveWindow x.window ?_
 generalize F1=F3
 refine go ?_;intros
 refine cf (RWclone_f x.window _ F3 (by omega)) fun z _=>?_
 refine t_app ?_
 refine go ?_;intros
 refine cf (ClRequest_f x.requests a2 c2 F2 hl2) fun q _=>?_
 refine t_app ?_
 refine go ?_;intros
 refine closeOReceiver x ?_
 refine ret (_,_) trivial rfl
theorem wb1_f (r:Request) (n:Int) (gb:Nat) (h0:isSer r.number=true) (h1:0≤n) (h2:n≤65535):Fn Tryz.prog 277 [.agg #[.int .i64 r.number,.int .i64 r.state,.int .i64 r.untl,.int .i64 r.tries],ptr gb 0 0] [.cel gb 0 [.int .i64 n]] [] (fun (_:Unit)=>True) (fun _=>.bool (bef r.number n)) (fun _=>[]):=by
 obtain ⟨n0,n1⟩:=isSer_iff.1 h0
 refine enter Tryz.func277 rfl Tryz.ntmps277 fun w0=>?_
 refine go ?_;intros
 refine ce (fun w s=>isBefore_c _ _ _ (by omega) (by omega) (by omega) (by omega)) ?_
 refine go ?_;intros
 refine ret () trivial rfl
theorem withoutBefore_f (l:List Request) (n:Int) (a:Option Addr) (c:Nat) (F:List Nat) (hl:l.length≤1000000000) (hs:∀q∈l,isSer q.number=true) (h1:0≤n) (h2:n≤65535):Fn Tryz.prog 210 [.slice a l.length c,.int .i64 n] [.sl ERequest (.slice a l.length c) l F] [] (fun (_:Option Addr × Nat × List Nat)=>True) (fun z=>.slice z.1 (noBef l n).length z.2.1) (fun z=>[.ow ERequest 235 (.slice z.1 (noBef l n).length z.2.1) (noBef l n) z.2.2]):=by
 refine enter Tryz.func210 rfl Tryz.ntmps210 fun w0=>?_
 refine go ?_;intros
 rename_i gb
 refine cf (ClRequest_f l a c F hl) fun q _=>?_
 refine t_app ?_
 refine t_rocel (cs:=[.int .i64 n]) ?_ (by simp)
 refine go ?_;intros
 refine cf (DelReq_f 277 [] [ptr gb 0 0] [.cel gb 0 [.int .i64 n]] rfl l q.1 q.2.1 q.2.2 (fun z=>bef z.number n) (by kernel_rfl) hl (fun z hz w hA=>(wb1_f z n gb (hs z hz) h1 h2).val w hA)) fun z _=>?_
 refine t_app ?_
 refine go ?_;intros
 refine ret (z.1,z.2.1,z.2.2) trivial rfl
theorem tkReq_len (r:Receiver) (d:Int):(tkReq r d).length≤r.requests.length:=List.length_filterMap_le _ _
theorem tkLost_len (r:Receiver):(tkLost r).length≤r.requests.length:=List.length_filterMap_le _ _
theorem tickR_no {r:Receiver} {d:Int} (h:tkLost r=[]):tickRec r d=⟨r.started,r.clock+1,r.window,tkReq r d⟩:=if_pos h
theorem tickR_yes {r:Receiver} {d:Int} (h:tkLost r≠[]):tickRec r d=⟨r.started,r.clock+1,movedW r.window (lostTrail (tkLost r)),noBef (tkReq r d) (movedW r.window (lostTrail (tkLost r))).next⟩:=if_neg h
theorem tickE_no {r:Receiver} (h:tkLost r=[]):tickEv r=[]:=if_pos h
theorem tickE_yes {r:Receiver} (h:tkLost r≠[]):tickEv r=movedE r.window (lostTrail (tkLost r)):=if_neg h
theorem lost_last {l:List Int} (h:l≠[]):lostTrail l=aft (l[l.length - 1]'(by have:=List.length_pos_iff.2 h;omega)) 1:=by
 unfold lostTrail
 rw [List.getLastD_eq_getLast?,List.getLast?_eq_getElem?,List.getElem?_eq_getElem (by have:=List.length_pos_iff.2 h;omega)]
 rfl
theorem good_items {x:ReceiveWindow} (hg:goodRW x=true):x.slots.length≤8∧∀s∈x.slots,s.item.size≤8:=by
 have hg0:=hg
 unfold goodRW at hg
 simp only [Bool.and_eq_true,decide_eq_true_eq] at hg
 refine ⟨by have:=hg.1.1.2;omega,fun s hs=>?_⟩
 have:=List.all_eq_true.1 hg.1.2 s hs
 unfold okSlot at this
 simp only [Bool.and_eq_true] at this
 exact itm_size this.1
structure PkS where
 k:Nat
 a:Option Addr
 c:Nat
 F:List Nat
structure TkR where
 a1:Option Addr
 c1:Nat
 F1:List Nat
 a2:Option Addr
 c2:Nat
 F2:List Nat
 a3:Option Addr
 c3:Nat
 F3:List Nat
 a4:Option Addr
 c4:Nat
 F4:List Nat
theorem Rtick_f (r:Receiver) (d:Int) (g t o:Nat) (A B:List Value) (a1:Option Addr) (c1:Nat) (F1:List Nat) (a2:Option Addr) (c2:Nat) (F2:List Nat) (hg:GoodR r) (d0:0≤d) (d1:d≤100) :
  Fn Tryz.prog 130 [ptr g o 0,.int .i64 d] [] [.row g t o A [.bool r.started,.int .i64 r.clock,.int .i64 r.window.next,.slice a1 r.window.slots.length c1,.slice a2 r.requests.length c2] B,.ow ESlot 247 (.slice a1 r.window.slots.length c1) r.window.slots F1,.ow ERequest 235 (.slice a2 r.requests.length c2) r.requests F2] (fun (_:TkR)=>True)
   (fun s=>.tuple #[.slice s.a3 (tickPk r).length s.c3,.slice s.a4 (tickEv r).length s.c4]) (fun s=>[.row g t o A [.bool (tickRec r d).started,.int .i64 (tickRec r d).clock,.int .i64 (tickRec r d).window.next,.slice s.a1 (tickRec r d).window.slots.length s.c1,.slice s.a2 (tickRec r d).requests.length s.c2] B,.ow ESlot 247 (.slice s.a1 (tickRec r d).window.slots.length s.c1) (tickRec r d).window.slots s.F1,.ow ERequest 235 (.slice s.a2 (tickRec r d).requests.length s.c2) (tickRec r d).requests s.F2,.ow EPacket 127 (.slice s.a3 (tickPk r).length s.c3) (tickPk r) s.F3,.ow EStr 9 (.slice s.a4 (tickEv r).length s.c4) (tickEv r) s.F4]):=by
 have k0:=hg.k0
 have k1:=hg.k1
 obtain ⟨-,q1,q2, -⟩:=areQ_iff.1 hg.q
 obtain ⟨w0_,w1_⟩:=next_ser hg.w
 obtain ⟨hw8,hit⟩:=good_items hg.w
 have hpl:(r.requests.filterMap (tkS (r.clock+1))).length≤8:=Nat.le_trans (List.length_filterMap_le _ _) q1
 refine enter Tryz.func130 rfl Tryz.ntmps130 fun w0=>?_
 refine go ?_;intros
 refine t_read (E:=ERequest) fun F9=>?_
 refine d_start [1] [] ?_
 refine dt4 0 1 2 3 ?_
 refine dt4 4 5 6 7 ?_
 refine dt 8 ?_
 refine dN 9 ?_
 refine oC ?_
 refine cf (tickRequests_f r.requests (r.clock+1) d a2 c2 F9 (by omega) (fun q hq=>⟨(okReq_iff.1 (q2 q hq)).t0,(okReq_iff.1 (q2 q hq)).t1⟩) (by omega) (by omega) (by omega) (by omega)) fun z _=>?_
 refine t_app ?_
 rw [show r.requests.filterMap (tkL (r.clock+1))=tkLost r from rfl,show r.requests.filterMap (tkO (r.clock+1) d)=tkReq r d from rfl]
 refine dk ?_
 refine dt4 10 11 12 13 ?_
 refine dt2 14 15 ?_
 refine dt 16 ?_
 refine dd ?_
 refine t_read (E:=EInt) (xs:=r.requests.filterMap (tkS (r.clock+1))) fun G2=>?_
 refine t_read (E:=EInt) (xs:=tkLost r) fun G3=>?_
 refine t_nilow EPacket 127 ?_
 refine go ?_;intros
 refine c_loopS [0,4,5,6,9,44,45] (fun s:PkS=>[(46,.int .i64 (s.k:Nat)),(10,.slice s.a (((r.requests.filterMap (tkS (r.clock+1))).take s.k).map (pkR r.window.next)).length s.c)]) (fun s=>[.ow EPacket 127 (.slice s.a (((r.requests.filterMap (tkS (r.clock+1))).take s.k).map (pkR r.window.next)).length s.c) (((r.requests.filterMap (tkS (r.clock+1))).take s.k).map (pkR r.window.next)) s.F]) (fun s=>s.k≤(r.requests.filterMap (tkS (r.clock+1))).length) (fun s=>(r.requests.filterMap (tkS (r.clock+1))).length - s.k) ⟨0,_,_,_⟩ (Nat.zero_le _) fun s hs=>?_
 obtain ⟨k,a4,c4,F4⟩:=s
 dsimp only at hs ⊢
 generalize hsn:r.requests.filterMap (tkS (r.clock+1))=sn at *
 refine go ?_;intros
 refine c_if rfl (fun h4=>?_) (fun h4=>?_)
 ·have hk:k < sn.length:=by omega
  have hkl:((sn.take k).map (pkR r.window.next)).length≤k:=by simp;omega
  refine at_int (xs:=sn) k ?_
  rintro hi b o2 e
  rw [e]
  refine go ?_;intros
  have eo:(sn.take (k+1)).map (pkR r.window.next)=(sn.take k).map (pkR r.window.next)++[pkR r.window.next sn[k]]:=by rw [List.take_add_one,List.getElem?_eq_getElem hk,List.map_append];rfl
  apply wO
  refine ap1 (ys:=[pkR r.window.next sn[k]]) (flatPacket (pkR r.window.next sn[k]) (by show (0:Nat)≤maxLen;exact Nat.zero_le _)) one_EPacket fun a7 c7 F7=>?_
  refine go ?_;intros
  rw [←eo]
  refine n_lp (⟨k+1,_,_,_⟩:PkS) (by show k+1≤sn.length;omega) (by show sn.length - (k+1) < sn.length - k;omega)
 have hk:k=sn.length:=by omega
 subst hk
 rw [List.take_length]
 have ep:tickPk r=sn.map (pkR r.window.next):=by unfold tickPk;rw [hsn]
 rw [ep]
 refine go ?_;intros
 by_cases hL:tkLost r=[]
 ·refine c_if rfl (fun _=>?_) (fun h=>absurd (show ((tkLost r).length:Int)=0 by rw [hL];rfl) h)
  rw [tickR_no hL,tickE_no hL]
  refine t_nilow EStr 9 ?_
  refine go ?_;intros
  refine ret ⟨_,_,_,_,_,_,_,_,_,_,_,_⟩ trivial rfl
 ·have hl0:=List.length_pos_iff.2 hL
  refine c_if rfl (fun h=>absurd h (by omega)) (fun _=>?_)
  rw [tickR_yes hL,tickE_yes hL]
  obtain ⟨hs8,hsr⟩:=lost_gp hg hL
  have hll8:=tkLost_len r
  obtain ⟨hs0,hs1⟩:=isSer_iff.1 hsr
  have hll:=lost_last hL
  obtain ⟨l0,l1⟩:=isSer_iff.1 (tkLost_at hg (List.getElem_mem (show (tkLost r).length - 1 < (tkLost r).length by omega))).1
  have hi1:((tkLost r).length:Int) - 1=(((tkLost r).length - 1:Nat):Int):=by omega
  refine at_int (xs:=tkLost r) ((tkLost r).length - 1) ?_
  rintro hi b o2 e
  rw [e]
  refine t_rin [.bool r.started,.int .i64 (r.clock+1)] [.int .i64 r.window.next,.slice a1 r.window.slots.length c1] [.slice z.a (tkReq r d).length z.c] ?_
  refine go ?_;intros
  refine d_start [1] [] ?_
  refine dt4 0 1 2 3 ?_
  refine dt2 4 5 ?_
  refine dt 6 ?_
  rw [hi1]
  refine dt2 7 8 ?_
  refine dN 9 ?_
  refine oC ?_
  refine ce (fun w s=>after_c _ _ _ (by omega) (by omega)) ?_
  rw [←hll]
  refine dk ?_
  refine dN 10 ?_
  refine oC ?_
  refine cf (RWgive_f r.window (lostTrail (tkLost r)) g t (o+2) (A++[.bool r.started,.int .i64 (r.clock+1)]) _ a1 c1 F1 w0_ w1_ hs0 hs1 hw8 hit) fun y hy=>?_
  refine t_app ?_
  refine dk ?_
  refine dt 11 ?_
  refine dd ?_
  obtain ⟨hy1,hy2⟩:=hy
  have hmv:=moved_at (t:=lostTrail (tkLost r)) hg.w
  have hm0:0≤y.y.next:=by rw [hy1];show 0≤(movedW r.window (lostTrail (tkLost r))).next;rw [hmv.1];exact (aft_bd _ _).1
  have hm1:y.y.next≤65535:=by rw [hy1];show (movedW r.window (lostTrail (tkLost r))).next≤65535;rw [hmv.1];exact (aft_bd _ _).2
  refine t_rout [.bool r.started,.int .i64 (r.clock+1)] [.int .i64 y.y.next,.slice y.a y.y.slots.length y.c] [.slice z.a (tkReq r d).length z.c] ?_
  refine t_read (E:=ERequest) (xs:=tkReq r d) fun F8=>?_
  refine go ?_;intros
  refine d_start [1] [13] ?_
  refine dt4 0 1 2 3 ?_
  refine dt4 4 5 6 7 ?_
  refine dt2 8 9 ?_
  refine dN 10 ?_
  refine oC ?_
  refine cf (withoutBefore_f (tkReq r d) y.y.next z.a z.c F8 (by have:=tkReq_len r d;omega) (fun q hq=>(tkReq_at hg hq).1) hm0 hm1) fun u _=>?_
  refine t_app ?_
  refine dk ?_
  refine dt2 11 12 ?_
  refine dN 13 ?_
  refine oS ?_
  refine dkx ?_
  refine dd ?_
  refine go ?_;intros
  rw [show movedW r.window (lostTrail (tkLost r))=y.y from hy1.symm,show movedE r.window (lostTrail (tkLost r))=y.es from hy2.symm]
  refine ret ⟨_,_,_,_,_,_,_,_,_,_,_,_⟩ trivial rfl
theorem Clone_Int (v:Value) (xs:List Int) (F:List Nat) (w:World) (h:Sl EInt w v xs F) (hm:xs.length≤4294967296) :
  Calls Tryz.prog 97 #[v] w (RetNew EInt 3 xs w):=by
 obtain ⟨ao,c,news,Fy,rfl,hl,hfy,hFy,hsrc⟩:=h.src
 have hFl:=hfy.lt
 have he:=fun w (a:Option Addr) (n c:Nat)=>Lib.run_eql_slice_nil (P:=Tryz.prog) w 22 _ a n c 0 0 Tryz.underlying22
 go_enter Tryz.func97,Tryz.ntmps97
 rcases hsrc with ⟨rfl,rfl,rfl⟩|⟨ad,rfl,hn⟩
 ·go_wp2
  go_ret
  exact ⟨.slice none 0 0,[],rfl,.inl ⟨rfl,rfl,rfl⟩,by simp,by simp,Below.refl _ _⟩
 ·go_wp2_with (at_builtin;refine wpList_apd one_EInt (by decide) (by rfl) _ _ _ (by rfl) 3 (.int .i64 0) 8 Tryz.underlying22 info_int rfl (.slice (some ⟨w.heap.size,0,none⟩) 0 0) [] [w.heap.size] (by rfl) (Ow.empty (Row.made _ _ _)) (Hd.one _) (some ad) xs c (by rfl) news Fy (hfy.frame fun b hb=>Below.heap_alloc _ _ _ (hFl b hb)) (.inr ⟨ad,rfl,fun j u hu=>kc ((Below.refl _ _).alloc (Nat.le_refl _) _) (hn j u hu)⟩) (fun b hb e=>by have:=hFl b hb;simp [Value.ownBlock] at e;omega) (by simpa using hl) (by unfold maxLen at hl;simp;omega) ?_)
  intro v2 w2 F2 hA
  go_wp2_with fail
  go_ret
  have hB:Below w.heap.size w w2:=((Below.refl _ _).alloc (Nat.le_refl _) _).trans (hA.keep.below (by simp) (by simp))
  have hs:∀b,v2.ownBlock=some b→w.heap.size≤b:=fun b hb=>by rcases hA.same with e|e <;> rw [e] at hb <;> simp [Value.ownBlock] at hb <;> omega
  refine ⟨v2,F2,rfl,by simpa using hA.ow,hA.ow.scal scal_EInt▸?_,fun b hb=>?_,hB⟩
  ·cases v2.ownBlock <;> simp
  ·rw [hA.ow.scal scal_EInt] at hb;exact hs b (by simpa using hb)
theorem l1Own_c (v:Value) (xs:List Int) (F:List Nat) (w:World) (h:Sl EInt w v xs F) (hm:xs.length≤4294967296) :
  Calls Tryz.prog 134 #[v] w (RetNew EInt 3 xs w):=by
 obtain ⟨ao,c,news,Fy,rfl,hl,hfy,hFy,hsrc⟩:=h.src
 have hFl:=hfy.lt
 have hsrc2:(ao=none∧c=0∧xs=[])∨∃ad,ao=some ad∧∀j u,news[j]?=some u→(w.alloc (.cells #[] 3)).cell? (ad.add j)=some u:=by
  rcases hsrc with h|⟨ad,h1,h2⟩
  ·exact .inl h
  ·exact .inr ⟨ad,h1,fun j u hu=>kc ((Below.refl _ _).alloc (Nat.le_refl _) _) (h2 j u hu)⟩
 go_enter Tryz.func134,Tryz.ntmps134
 go_wp2_with (at_builtin;refine wpList_apd one_EInt (by decide) (by rfl) _ _ _ (by rfl) 3 (.int .i64 0) 8 Tryz.underlying22 info_int rfl (.slice (some ⟨w.heap.size,0,none⟩) 0 0) [] [w.heap.size] (by rfl) (Ow.empty (Row.made _ _ _)) (Hd.one _) ao xs c (by rfl) news Fy (hfy.frame fun b hb=>Below.heap_alloc _ _ _ (hFl b hb)) hsrc2 (fun b hb e=>by have:=hFl b hb;simp [Value.ownBlock] at e;omega) (by simpa using hl) (by unfold maxLen at hl;simp;omega) ?_)
 intro v2 w2 F2 hA
 go_wp2_with fail
 go_ret
 have hB:Below w.heap.size w w2:=((Below.refl _ _).alloc (Nat.le_refl _) _).trans (hA.keep.below (by simp) (by simp))
 have hs:∀b,v2.ownBlock=some b→w.heap.size≤b:=fun b hb=>by rcases hA.same with e|e <;> rw [e] at hb <;> simp [Value.ownBlock] at hb <;> omega
 refine ⟨v2,F2,rfl,by simpa using hA.ow,hA.ow.scal scal_EInt▸?_,fun b hb=>?_,hB⟩
 ·cases v2.ownBlock <;> simp
 ·rw [hA.ow.scal scal_EInt] at hb;exact hs b (by simpa using hb)
theorem Element_clone_c (v:Value) (e:Element) (F:List Nat) (w:World) (h:IsV EElement w v e F) (hm:e.entries.length≤4294967296) (hm2:∀x∈e.entries,x.faces.length≤4294967296) :
  Calls Tryz.prog 100 #[v] w (RetV OElement e w):=by
 obtain ⟨_,rfl,v1,rfl,h1⟩:=h
 obtain ⟨a,cap,rfl⟩:=h1.slice
 have hl:=h1.len
 unfold maxLen at hl
 have hB0:∀A B:Obj,Below w.heap.size w ((w.alloc A).alloc B):=fun A B=>((Below.refl _ _).alloc (Nat.le_refl _) _).alloc (by simp) _
 have hFl:=h1.lt (by decide)
 go_enter Tryz.func100,Tryz.ntmps100
 go_wp2_with fail
 refine (Clone_Entry _ e.entries F _ (h1.below (by decide) (hB0 _ _)) hm).mono ?_
 rintro e' w1 ⟨v2,F2,rfl,ho,hd,hs,hF2,hb1⟩
 obtain ⟨a2,cap2,rfl⟩:=ho.slice
 have r0:=Row.below (g:=w.heap.size) (t:=142) (cs:=[.int .i64 e.clock,.slice a e.entries.length cap]) (by simp [row_alloc] <;> omega) hb1
 have r1:=Row.below (g:=w.heap.size+1) (t:=142) (cs:=[.int .i64 0,.slice none 0 0]) (by simp [row_alloc] <;> omega) hb1
 have hB:=tr (hB0 _ _) hb1 (Nat.le_refl _)
 have hm1:=Lib.hid (Mix.start (O:=OEntry) (R:=EEntry) (B1:=w.heap.size) (B0:=w.heap.size+2) rfl ho (by simpa using hs) (fun b hb=>(hF2 b hb).imp id fun hb=>hFl b hb) hd)
 have c0:=r0.cells;have f0:=r0.frozens
 have f1:=r1.frozens;have c1:=r1.cells
 clear hb1 ho hs hd hF2
 go_wp2_with fail
 have R0:=r0.set 1 (.slice a2 e.entries.length cap2)
 have R1:=r1.setOther (p:=⟨w.heap.size,1,none⟩) (by simp) (.slice a2 e.entries.length cap2)
 have M1:=Lib.hid (hm1.out.setFar (p:=⟨w.heap.size,1,none⟩) (Nat.le_refl _) (by simp) (.slice a2 e.entries.length cap2))
 clear hm1
 go_loopw [3,11] (fun _ i wr=>∃k:Nat,k≤e.entries.length∧i=.int .i64 k∧Hid (Mix OEntry EEntry 231 w.heap.size (w.heap.size+2) wr (.slice a2 e.entries.length cap2) e.entries k)∧Row wr w.heap.size 142 [.int .i64 e.clock,.slice a2 e.entries.length cap2]∧Row wr (w.heap.size+1) 142 [.int .i64 0,.slice none 0 0]∧Below w.heap.size w wr) (fun _ i _=>e.entries.length - (intOf i).toNat)
 case atStart=>exact ⟨0,Nat.zero_le _,rfl,M1,by simpa using R0,R1,hB.setCell (Nat.le_refl _) _⟩
 case round =>
  obtain ⟨k,hk,rfl,hM,hr,hr1,hB⟩:=hrel
  have c0:=hr.cells;have f0:=hr.frozens
  have hsz:=hr1.lt
  by_cases hlt:k < e.entries.length
  ·obtain ⟨g,cap3,A,c,B,Fk,hv,hg,hrow,hA,hcl,hx, -,back⟩:=hM.out.at rfl hlt (by omega) (by omega)
   cases hv
   obtain ⟨u1,rfl,hf⟩:=id hx
   obtain ⟨fa,fc,rfl⟩:=hf.slice
   have a1:=hrow.cellMid (p:=k * 3+1) (j:=1) (by rw [hA];rfl) (by simp)
   simp only [List.getElem?_cons_zero,List.getElem?_cons_succ] at a1
   have hne:¬g=w.heap.size:=by omega
   have hne2:¬w.heap.size=g:=by omega
   have hbk:=Lib.hid back
   clear back
   have hfl:=hm2 e.entries[k] (List.getElem_mem _)
   go_wp2_with fail
   go_region_law (first|(go_simp;go_at_call 97;refine (Clone_Int _ e.entries[k].faces Fk wr.drew (hf.frame fun _ _=>rfl) hfl).mono ?_;rintro e' w2 ⟨v3,F3,rfl,o3,n3,g3,hb2⟩;obtain ⟨d3,p3,rfl⟩:=o3.slice;have z3:=kc hb2 (show wr.drew.cell? ⟨w.heap.size,1,none⟩=some (.slice (some ⟨g,0,none⟩) e.entries.length cap2) by simpa using c0 1);have z1:=kc hb2 (by simpa using a1);have zf:=((show Row wr.drew g 231 _ from hrow).below hb2).frozens (k * 3+1)))
   all_goals
    have hr2:=((show Row wr.drew w.heap.size 142 _ from hr).below hb2).setOther (p:=⟨g,k * 3+1,none⟩) hne (.slice d3 e.entries[k].faces.length p3)
    have hr3:=((show Row wr.drew (w.heap.size+1) 142 _ from hr1).below hb2).setOther (p:=⟨g,k * 3+1,none⟩) (by simp;omega) (.slice d3 e.entries[k].faces.length p3)
    have hro:=((show Row wr.drew g 231 _ from hrow).below hb2).setMid (p:=k * 3+1) (j:=1) (by rw [hA];rfl) (by simp) (.slice d3 e.entries[k].faces.length p3)
    have hg3:∀b∈F3,wr.heap.size≤b:=g3
    have hgs:=hrow.lt
    have hMk:=Lib.hid (hbk.out _ _ F3 hro ⟨_,rfl,o3.setFar (fun hm=>by have:=hg3 _ hm;simp at this;omega) _⟩ n3 hg3 (fun b hb hbg=>(Below.heap_setCell _ _ _ _ hbg).trans (hb2.block b hb)))
    have hB3:Below w.heap.size w (w2.setCell ⟨g,k * 3+1,none⟩ (.slice d3 e.entries[k].faces.length p3)):=(tr (belowDrewN hB 1) hb2 (Nat.le_refl _)).setCell (by simp;omega) _
    go_wp2_with fail
    exact ⟨⟨k+1,by omega,by go_num,hMk,hr2,hr3,hB3⟩,by simp [intOf];omega⟩
  ·have hk:k=e.entries.length:=by omega
   subst hk
   obtain ⟨F4,o4,n4,g4⟩:=hM.out.done
   have O4:=Lib.hid o4
   clear hM o4
   have d1:=hr1.cells;have fd:=hr1.frozens
   go_wp2_with fail
   refine bodyPost_ret (v:=.agg #[.int .i64 e.clock,.slice a2 e.entries.length cap2]) ?_ rfl ?_
   ·simp [results,Tryz.results100,go_sem,c0,d1,fd]
   ·refine ⟨_,F4,rfl,⟨_,rfl,_,rfl,?_⟩,n4,fun b hb=>by have:=g4 b hb;omega,?_⟩
    ·repeat refine Ow.setFar ?_ (fun hm=>by have:=g4 _ hm;simp at this <;> omega) _
     exact O4.out
    ·repeat refine Below.setCell ?_ (by simp <;> omega) _
     exact hB
section
variable {c:Cx} {fr:Fr} {H:List Pc} {Φ:Gl}
theorem openNet {v:Value} {x:Net} {F:List Nat} (h:∀(a1:Option Addr) (c1:Nat) (F1:List Nat) (a2:Option Addr) (c2:Nat) (F2:List Nat) (a3:Option Addr) (c3:Nat) (F3:List Nat) (a4:Option Addr) (c4:Nat) (F4:List Nat) (a5:Option Addr) (c5:Nat) (F5:List Nat) (a6:Option Addr) (c6:Nat) (F6:List Nat) (a7:Option Addr) (c7:Nat) (F7:List Nat),v=.agg #[.slice a1 x.tree.parent.length c1,.int .i64 x.source.window.trail,.int .i64 x.source.window.size,.slice a2 x.source.window.items.length c2,.int .i64 x.source.clock,.int .i64 x.source.quiet,.slice a3 x.source.holds.length c3,.slice a4 x.elements.length c4,.slice a5 x.receivers.length c5,.slice a6 x.down.length c6,.slice a7 x.up.length c7]→x.tree.parent.length≤maxLen→x.source.window.items.length≤maxLen→x.source.holds.length≤maxLen→x.elements.length≤maxLen→x.receivers.length≤maxLen→x.down.length≤maxLen→x.up.length≤maxLen→T c fr (.sl EInt (.slice a1 x.tree.parent.length c1) x.tree.parent F1::.sl EStr (.slice a2 x.source.window.items.length c2) x.source.window.items F2::.sl EHold (.slice a3 x.source.holds.length c3) x.source.holds F3::.sl EElement (.slice a4 x.elements.length c4) x.elements F4::.sl EReceiver (.slice a5 x.receivers.length c5) x.receivers F5::.sl (ESl EPacket (by decide)) (.slice a6 x.down.length c6) x.down F6::.sl (ESl EPacket (by decide)) (.slice a7 x.up.length c7) x.up F7::H) Φ) (hm:.isv ENet v x F∈H:=by (repeat (first|exact .head _|apply List.Mem.tail));first|done|fail):T c fr H Φ:=.mk fun a w s g=>by
 obtain ⟨cs,rfl,v1,v2,v3,v4,v5,v6,v7,G1,G2,G3,G4,G5,G6,G7,rfl,h1,h2,h3,h4,h5,h6,h7,rfl⟩:=s.get hm
 obtain ⟨a1,c1,rfl⟩:=h1.slice;have l1:=h1.len
 obtain ⟨a2,c2,rfl⟩:=h2.slice;have l2:=h2.len
 obtain ⟨a3,c3,rfl⟩:=h3.slice;have l3:=h3.len
 obtain ⟨a4,c4,rfl⟩:=h4.slice;have l4:=h4.len
 obtain ⟨a5,c5,rfl⟩:=h5.slice;have l5:=h5.len
 obtain ⟨a6,c6,rfl⟩:=h6.slice;have l6:=h6.len
 obtain ⟨a7,c7,rfl⟩:=h7.slice;have l7:=h7.len
 have t7:=s.ro (p:=.sl (ESl EPacket (by decide)) (.slice a7 x.up.length c7) x.up G7) hm rfl rfl ⟨by decide,h7⟩ (by intro b hb;simp only [Pc.F] at hb ⊢;simp [hb])
 have t6:=t7.ro (p:=.sl (ESl EPacket (by decide)) (.slice a6 x.down.length c6) x.down G6) (List.mem_cons_of_mem _ hm) rfl rfl ⟨by decide,h6⟩ (by intro b hb;simp only [Pc.F] at hb ⊢;simp [hb])
 have t5:=t6.ro (p:=.sl EReceiver (.slice a5 x.receivers.length c5) x.receivers G5) (List.mem_cons_of_mem _ (List.mem_cons_of_mem _ hm)) rfl rfl ⟨by decide,h5⟩ (by intro b hb;simp only [Pc.F] at hb ⊢;simp [hb])
 have t4:=t5.ro (p:=.sl EElement (.slice a4 x.elements.length c4) x.elements G4) (List.mem_cons_of_mem _ (List.mem_cons_of_mem _ (List.mem_cons_of_mem _ hm))) rfl rfl ⟨by decide,h4⟩ (by intro b hb;simp only [Pc.F] at hb ⊢;simp [hb])
 have t3:=t4.ro (p:=.sl EHold (.slice a3 x.source.holds.length c3) x.source.holds G3) (List.mem_cons_of_mem _ (List.mem_cons_of_mem _ (List.mem_cons_of_mem _ (List.mem_cons_of_mem _ hm)))) rfl rfl ⟨by decide,h3⟩ (by intro b hb;simp only [Pc.F] at hb ⊢;simp [hb])
 have t2:=t3.ro (p:=.sl EStr (.slice a2 x.source.window.items.length c2) x.source.window.items G2) (List.mem_cons_of_mem _ (List.mem_cons_of_mem _ (List.mem_cons_of_mem _ (List.mem_cons_of_mem _ (List.mem_cons_of_mem _ hm))))) rfl rfl ⟨by decide,h2⟩ (by intro b hb;simp only [Pc.F] at hb ⊢;simp [hb])
 have t1:=t2.ro (p:=.sl EInt (.slice a1 x.tree.parent.length c1) x.tree.parent G1) (List.mem_cons_of_mem _ (List.mem_cons_of_mem _ (List.mem_cons_of_mem _ (List.mem_cons_of_mem _ (List.mem_cons_of_mem _ (List.mem_cons_of_mem _ hm)))))) rfl rfl ⟨by decide,h1⟩ (by intro b hb;simp only [Pc.F] at hb ⊢;simp [hb])
 exact (h a1 c1 G1 a2 c2 G2 a3 c3 G3 a4 c4 G4 a5 c5 G5 a6 c6 G6 a7 c7 G7 rfl  l1 l2 l3 l4 l5 l6 l7).h a w t1 g
theorem closeNet (x:Net) {a1:Option Addr} {c1:Nat} {F1:List Nat} {a2:Option Addr} {c2:Nat} {F2:List Nat} {a3:Option Addr} {c3:Nat} {F3:List Nat} {a4:Option Addr} {c4:Nat} {F4:List Nat} {a5:Option Addr} {c5:Nat} {F5:List Nat} {a6:Option Addr} {c6:Nat} {F6:List Nat} {a7:Option Addr} {c7:Nat} {F7:List Nat}  (h:T c fr (.isv ENet (.agg #[.slice a1 x.tree.parent.length c1,.int .i64 x.source.window.trail,.int .i64 x.source.window.size,.slice a2 x.source.window.items.length c2,.int .i64 x.source.clock,.int .i64 x.source.quiet,.slice a3 x.source.holds.length c3,.slice a4 x.elements.length c4,.slice a5 x.receivers.length c5,.slice a6 x.down.length c6,.slice a7 x.up.length c7]) x (F1++F2++F3++F4++F5++F6++F7)::H) Φ) (m1:.sl EInt (.slice a1 x.tree.parent.length c1) x.tree.parent F1∈H:=by (repeat (first|exact .head _|apply List.Mem.tail));first|done|fail) (m2:.sl EStr (.slice a2 x.source.window.items.length c2) x.source.window.items F2∈H:=by (repeat (first|exact .head _|apply List.Mem.tail));first|done|fail) (m3:.sl EHold (.slice a3 x.source.holds.length c3) x.source.holds F3∈H:=by (repeat (first|exact .head _|apply List.Mem.tail));first|done|fail) (m4:.sl EElement (.slice a4 x.elements.length c4) x.elements F4∈H:=by (repeat (first|exact .head _|apply List.Mem.tail));first|done|fail) (m5:.sl EReceiver (.slice a5 x.receivers.length c5) x.receivers F5∈H:=by (repeat (first|exact .head _|apply List.Mem.tail));first|done|fail) (m6:.sl (ESl EPacket (by decide)) (.slice a6 x.down.length c6) x.down F6∈H:=by (repeat (first|exact .head _|apply List.Mem.tail));first|done|fail) (m7:.sl (ESl EPacket (by decide)) (.slice a7 x.up.length c7) x.up F7∈H:=by (repeat (first|exact .head _|apply List.Mem.tail));first|done|fail):T c fr H Φ:=.mk fun a w s g=>by
 have hP:IsV ENet w (.agg #[.slice a1 x.tree.parent.length c1,.int .i64 x.source.window.trail,.int .i64 x.source.window.size,.slice a2 x.source.window.items.length c2,.int .i64 x.source.clock,.int .i64 x.source.quiet,.slice a3 x.source.holds.length c3,.slice a4 x.elements.length c4,.slice a5 x.receivers.length c5,.slice a6 x.down.length c6,.slice a7 x.up.length c7]) x (F1++F2++F3++F4++F5++F6++F7):=⟨_,rfl,_,_,_,_,_,_,_,_,_,_,_,_,_,_,rfl,(s.get m1).2,(s.get m2).2,(s.get m3).2,(s.get m4).2,(s.get m5).2,(s.get m6).2,(s.get m7).2,rfl⟩
 refine h.h a w (s.add (N:=[.isv ENet (.agg #[.slice a1 x.tree.parent.length c1,.int .i64 x.source.window.trail,.int .i64 x.source.window.size,.slice a2 x.source.window.items.length c2,.int .i64 x.source.clock,.int .i64 x.source.quiet,.slice a3 x.source.holds.length c3,.slice a4 x.elements.length c4,.slice a5 x.receivers.length c5,.slice a6 x.down.length c6,.slice a7 x.up.length c7]) x (F1++F2++F3++F4++F5++F6++F7)]) (Below.refl _ _) (by intro q hq;obtain rfl:=List.mem_singleton.1 hq;exact hP) ⟨by simp,trivial⟩ fun q hq b hb=>?_) g
 obtain rfl:=List.mem_singleton.1 hq
 simp only [Pc.F,List.mem_append] at hb
 rcases hb with (((((hb|hb)|hb)|hb)|hb)|hb)|hb
 ·exact .inr ⟨rfl,_,m1,rfl,hb⟩
 ·exact .inr ⟨rfl,_,m2,rfl,hb⟩
 ·exact .inr ⟨rfl,_,m3,rfl,hb⟩
 ·exact .inr ⟨rfl,_,m4,rfl,hb⟩
 ·exact .inr ⟨rfl,_,m5,rfl,hb⟩
 ·exact .inr ⟨rfl,_,m6,rfl,hb⟩
 ·exact .inr ⟨rfl,_,m7,rfl,hb⟩
theorem openONet {v:Value} {x:Net} {F:List Nat} {S:List Pc} (h:∀(a1:Option Addr) (c1:Nat) (F1:List Nat) (a2:Option Addr) (c2:Nat) (F2:List Nat) (a3:Option Addr) (c3:Nat) (F3:List Nat) (a4:Option Addr) (c4:Nat) (F4:List Nat) (a5:Option Addr) (c5:Nat) (F5:List Nat) (a6:Option Addr) (c6:Nat) (F6:List Nat) (a7:Option Addr) (c7:Nat) (F7:List Nat),v=.agg #[.slice a1 x.tree.parent.length c1,.int .i64 x.source.window.trail,.int .i64 x.source.window.size,.slice a2 x.source.window.items.length c2,.int .i64 x.source.clock,.int .i64 x.source.quiet,.slice a3 x.source.holds.length c3,.slice a4 x.elements.length c4,.slice a5 x.receivers.length c5,.slice a6 x.down.length c6,.slice a7 x.up.length c7]→x.tree.parent.length≤maxLen→x.source.window.items.length≤maxLen→x.source.holds.length≤maxLen→x.elements.length≤maxLen→x.receivers.length≤maxLen→x.down.length≤maxLen→x.up.length≤maxLen→T c fr (.ow EInt 3 (.slice a1 x.tree.parent.length c1) x.tree.parent F1::.ow EStr 9 (.slice a2 x.source.window.items.length c2) x.source.window.items F2::.ow EHold 194 (.slice a3 x.source.holds.length c3) x.source.holds F3::.ow OElement 142 (.slice a4 x.elements.length c4) x.elements F4::.ow OReceiver 149 (.slice a5 x.receivers.length c5) x.receivers F5::.ow (OSl EPacket 127) 132 (.slice a6 x.down.length c6) x.down F6::.ow (OSl EPacket 127) 132 (.slice a7 x.up.length c7) x.up F7::S) Φ) (hp:Pick H (.own ONet v x F) S:=by (repeat (first|exact .here|apply Pick.there));first|done|fail):T c fr H Φ:=.mk fun a w s g=>by
 have z1:=s.pick hp
 obtain ⟨hn,cs,rfl,v1,v2,v3,v4,v5,v6,v7,G1,G2,G3,G4,G5,G6,G7,rfl,h1,h2,h3,h4,h5,h6,h7,rfl⟩:=z1.on (.own ONet v x F) (by simp)
 obtain ⟨a1,c1,rfl⟩:=h1.slice;have l1:=h1.len
 obtain ⟨a2,c2,rfl⟩:=h2.slice;have l2:=h2.len
 obtain ⟨a3,c3,rfl⟩:=h3.slice;have l3:=h3.len
 obtain ⟨a4,c4,rfl⟩:=h4.slice;have l4:=h4.len
 obtain ⟨a5,c5,rfl⟩:=h5.slice;have l5:=h5.len
 obtain ⟨a6,c6,rfl⟩:=h6.slice;have l6:=h6.len
 obtain ⟨a7,c7,rfl⟩:=h7.slice;have l7:=h7.len
 have hn2:=hn;simp only [List.nodup_append,List.mem_append] at hn2
 refine (h a1 c1 G1 a2 c2 G2 a3 c3 G3 a4 c4 G4 a5 c5 G5 a6 c6 G6 a7 c7 G7 rfl  l1 l2 l3 l4 l5 l6 l7).h a w (St.turn (M:=[.own ONet (.agg #[.slice a1 x.tree.parent.length c1,.int .i64 x.source.window.trail,.int .i64 x.source.window.size,.slice a2 x.source.window.items.length c2,.int .i64 x.source.clock,.int .i64 x.source.quiet,.slice a3 x.source.holds.length c3,.slice a4 x.elements.length c4,.slice a5 x.receivers.length c5,.slice a6 x.down.length c6,.slice a7 x.up.length c7]) x _]) (N:=[.ow EInt 3 (.slice a1 x.tree.parent.length c1) x.tree.parent G1,.ow EStr 9 (.slice a2 x.source.window.items.length c2) x.source.window.items G2,.ow EHold 194 (.slice a3 x.source.holds.length c3) x.source.holds G3,.ow OElement 142 (.slice a4 x.elements.length c4) x.elements G4,.ow OReceiver 149 (.slice a5 x.receivers.length c5) x.receivers G5,.ow (OSl EPacket 127) 132 (.slice a6 x.down.length c6) x.down G6,.ow (OSl EPacket 127) 132 (.slice a7 x.up.length c7) x.up G7]) z1 (Keep.refl _ w) ?_ ?_ ?_) g
 ·intro q hq;simp only [List.mem_cons,List.not_mem_nil,or_false] at hq
  rcases hq with rfl|rfl|rfl|rfl|rfl|rfl|rfl
  ·exact ⟨(List.nodup_append.1 (List.nodup_append.1 (List.nodup_append.1 (List.nodup_append.1 (List.nodup_append.1 (List.nodup_append.1 hn).1).1).1).1).1).1,h1⟩
  ·exact ⟨(List.nodup_append.1 (List.nodup_append.1 (List.nodup_append.1 (List.nodup_append.1 (List.nodup_append.1 (List.nodup_append.1 hn).1).1).1).1).1).2.1,h2⟩
  ·exact ⟨(List.nodup_append.1 (List.nodup_append.1 (List.nodup_append.1 (List.nodup_append.1 (List.nodup_append.1 hn).1).1).1).1).2.1,h3⟩
  ·exact ⟨(List.nodup_append.1 (List.nodup_append.1 (List.nodup_append.1 (List.nodup_append.1 hn).1).1).1).2.1,h4⟩
  ·exact ⟨(List.nodup_append.1 (List.nodup_append.1 (List.nodup_append.1 hn).1).1).2.1,h5⟩
  ·exact ⟨(List.nodup_append.1 (List.nodup_append.1 hn).1).2.1,h6⟩
  ·exact ⟨(List.nodup_append.1 hn).2.1,h7⟩
 ·refine ⟨?_,⟨?_,⟨?_,⟨?_,⟨?_,⟨?_,⟨?_,trivial⟩⟩⟩⟩⟩⟩⟩
  ·intro q hq _ b hb hb2;simp only [List.mem_cons,List.not_mem_nil,or_false] at hq
   rcases hq with rfl|rfl|rfl|rfl|rfl|rfl
   ·simp only [Pc.F] at hb hb2;exact nodup_apt (List.nodup_append.1 (List.nodup_append.1 (List.nodup_append.1 (List.nodup_append.1 (List.nodup_append.1 hn).1).1).1).1).1 (by simp [hb]) hb2
   ·simp only [Pc.F] at hb hb2;exact nodup_apt (List.nodup_append.1 (List.nodup_append.1 (List.nodup_append.1 (List.nodup_append.1 hn).1).1).1).1 (by simp [hb]) hb2
   ·simp only [Pc.F] at hb hb2;exact nodup_apt (List.nodup_append.1 (List.nodup_append.1 (List.nodup_append.1 hn).1).1).1 (by simp [hb]) hb2
   ·simp only [Pc.F] at hb hb2;exact nodup_apt (List.nodup_append.1 (List.nodup_append.1 hn).1).1 (by simp [hb]) hb2
   ·simp only [Pc.F] at hb hb2;exact nodup_apt (List.nodup_append.1 hn).1 (by simp [hb]) hb2
   ·simp only [Pc.F] at hb hb2;exact nodup_apt hn (by simp [hb]) hb2
  ·intro q hq _ b hb hb2;simp only [List.mem_cons,List.not_mem_nil,or_false] at hq
   rcases hq with rfl|rfl|rfl|rfl|rfl
   ·simp only [Pc.F] at hb hb2;exact nodup_apt (List.nodup_append.1 (List.nodup_append.1 (List.nodup_append.1 (List.nodup_append.1 hn).1).1).1).1 (by simp [hb]) hb2
   ·simp only [Pc.F] at hb hb2;exact nodup_apt (List.nodup_append.1 (List.nodup_append.1 (List.nodup_append.1 hn).1).1).1 (by simp [hb]) hb2
   ·simp only [Pc.F] at hb hb2;exact nodup_apt (List.nodup_append.1 (List.nodup_append.1 hn).1).1 (by simp [hb]) hb2
   ·simp only [Pc.F] at hb hb2;exact nodup_apt (List.nodup_append.1 hn).1 (by simp [hb]) hb2
   ·simp only [Pc.F] at hb hb2;exact nodup_apt hn (by simp [hb]) hb2
  ·intro q hq _ b hb hb2;simp only [List.mem_cons,List.not_mem_nil,or_false] at hq
   rcases hq with rfl|rfl|rfl|rfl
   ·simp only [Pc.F] at hb hb2;exact nodup_apt (List.nodup_append.1 (List.nodup_append.1 (List.nodup_append.1 hn).1).1).1 (by simp [hb]) hb2
   ·simp only [Pc.F] at hb hb2;exact nodup_apt (List.nodup_append.1 (List.nodup_append.1 hn).1).1 (by simp [hb]) hb2
   ·simp only [Pc.F] at hb hb2;exact nodup_apt (List.nodup_append.1 hn).1 (by simp [hb]) hb2
   ·simp only [Pc.F] at hb hb2;exact nodup_apt hn (by simp [hb]) hb2
  ·intro q hq _ b hb hb2;simp only [List.mem_cons,List.not_mem_nil,or_false] at hq
   rcases hq with rfl|rfl|rfl
   ·simp only [Pc.F] at hb hb2;exact nodup_apt (List.nodup_append.1 (List.nodup_append.1 hn).1).1 (by simp [hb]) hb2
   ·simp only [Pc.F] at hb hb2;exact nodup_apt (List.nodup_append.1 hn).1 (by simp [hb]) hb2
   ·simp only [Pc.F] at hb hb2;exact nodup_apt hn (by simp [hb]) hb2
  ·intro q hq _ b hb hb2;simp only [List.mem_cons,List.not_mem_nil,or_false] at hq
   rcases hq with rfl|rfl
   ·simp only [Pc.F] at hb hb2;exact nodup_apt (List.nodup_append.1 hn).1 (by simp [hb]) hb2
   ·simp only [Pc.F] at hb hb2;exact nodup_apt hn (by simp [hb]) hb2
  ·intro q hq _ b hb hb2;simp only [List.mem_cons,List.not_mem_nil,or_false] at hq
   rcases hq with rfl
   ·simp only [Pc.F] at hb hb2;exact nodup_apt hn (by simp [hb]) hb2
  ·intro q hq _ b hb hb2;simp at hq
 ·intro q hq b hb;refine .inr (.inl ⟨_,List.mem_singleton.2 rfl,rfl,?_⟩);simp only [List.mem_cons,List.not_mem_nil,or_false] at hq;rcases hq with rfl|rfl|rfl|rfl|rfl|rfl|rfl <;> simp only [Pc.F] at hb ⊢ <;> simp [hb]
theorem closeONet (x:Net) {a1:Option Addr} {c1:Nat} {F1:List Nat} {a2:Option Addr} {c2:Nat} {F2:List Nat} {a3:Option Addr} {c3:Nat} {F3:List Nat} {a4:Option Addr} {c4:Nat} {F4:List Nat} {a5:Option Addr} {c5:Nat} {F5:List Nat} {a6:Option Addr} {c6:Nat} {F6:List Nat} {a7:Option Addr} {c7:Nat} {F7:List Nat} {S1 S2 S3 S4 S5 S6 S7:List Pc}  (h:T c fr (.own ONet (.agg #[.slice a1 x.tree.parent.length c1,.int .i64 x.source.window.trail,.int .i64 x.source.window.size,.slice a2 x.source.window.items.length c2,.int .i64 x.source.clock,.int .i64 x.source.quiet,.slice a3 x.source.holds.length c3,.slice a4 x.elements.length c4,.slice a5 x.receivers.length c5,.slice a6 x.down.length c6,.slice a7 x.up.length c7]) x (F1++F2++F3++F4++F5++F6++F7)::S7) Φ) (m1:Pick H (.ow EInt 3 (.slice a1 x.tree.parent.length c1) x.tree.parent F1) S1:=by (repeat (first|exact .here|apply Pick.there));first|done|fail) (m2:Pick S1 (.ow EStr 9 (.slice a2 x.source.window.items.length c2) x.source.window.items F2) S2:=by (repeat (first|exact .here|apply Pick.there));first|done|fail) (m3:Pick S2 (.ow EHold 194 (.slice a3 x.source.holds.length c3) x.source.holds F3) S3:=by (repeat (first|exact .here|apply Pick.there));first|done|fail) (m4:Pick S3 (.ow OElement 142 (.slice a4 x.elements.length c4) x.elements F4) S4:=by (repeat (first|exact .here|apply Pick.there));first|done|fail) (m5:Pick S4 (.ow OReceiver 149 (.slice a5 x.receivers.length c5) x.receivers F5) S5:=by (repeat (first|exact .here|apply Pick.there));first|done|fail) (m6:Pick S5 (.ow (OSl EPacket 127) 132 (.slice a6 x.down.length c6) x.down F6) S6:=by (repeat (first|exact .here|apply Pick.there));first|done|fail) (m7:Pick S6 (.ow (OSl EPacket 127) 132 (.slice a7 x.up.length c7) x.up F7) S7:=by (repeat (first|exact .here|apply Pick.there));first|done|fail)  : T c fr H Φ:=.mk fun a w s g=>by
 have z1:St c.G c.D c.w0 ([.ow EInt 3 (.slice a1 x.tree.parent.length c1) x.tree.parent F1,.ow EStr 9 (.slice a2 x.source.window.items.length c2) x.source.window.items F2,.ow EHold 194 (.slice a3 x.source.holds.length c3) x.source.holds F3,.ow OElement 142 (.slice a4 x.elements.length c4) x.elements F4,.ow OReceiver 149 (.slice a5 x.receivers.length c5) x.receivers F5,.ow (OSl EPacket 127) 132 (.slice a6 x.down.length c6) x.down F6,.ow (OSl EPacket 127) 132 (.slice a7 x.up.length c7) x.up F7]++S7) w:=by simpa using (show Picks H [.ow EInt 3 (.slice a1 x.tree.parent.length c1) x.tree.parent F1,.ow EStr 9 (.slice a2 x.source.window.items.length c2) x.source.window.items F2,.ow EHold 194 (.slice a3 x.source.holds.length c3) x.source.holds F3,.ow OElement 142 (.slice a4 x.elements.length c4) x.elements F4,.ow OReceiver 149 (.slice a5 x.receivers.length c5) x.receivers F5,.ow (OSl EPacket 127) 132 (.slice a6 x.down.length c6) x.down F6,.ow (OSl EPacket 127) 132 (.slice a7 x.up.length c7) x.up F7] S7 from Picks.cons m1 (Picks.cons m2 (Picks.cons m3 (Picks.cons m4 (Picks.cons m5 (Picks.cons m6 (Picks.cons m7 (Picks.nil)))))))).st (X:=[]) (by simpa using s)
 obtain ⟨n1,k1⟩:=z1.on (.ow EInt 3 (.slice a1 x.tree.parent.length c1) x.tree.parent F1) (by simp)
 obtain ⟨n2,k2⟩:=z1.on (.ow EStr 9 (.slice a2 x.source.window.items.length c2) x.source.window.items F2) (by simp)
 obtain ⟨n3,k3⟩:=z1.on (.ow EHold 194 (.slice a3 x.source.holds.length c3) x.source.holds F3) (by simp)
 obtain ⟨n4,k4⟩:=z1.on (.ow OElement 142 (.slice a4 x.elements.length c4) x.elements F4) (by simp)
 obtain ⟨n5,k5⟩:=z1.on (.ow OReceiver 149 (.slice a5 x.receivers.length c5) x.receivers F5) (by simp)
 obtain ⟨n6,k6⟩:=z1.on (.ow (OSl EPacket 127) 132 (.slice a6 x.down.length c6) x.down F6) (by simp)
 obtain ⟨n7,k7⟩:=z1.on (.ow (OSl EPacket 127) 132 (.slice a7 x.up.length c7) x.up F7) (by simp)
 have hsp:=z1.sep
 have p1_2:∀b∈F1,b ∉ F2:=hsp.1 (.ow EStr 9 (.slice a2 x.source.window.items.length c2) x.source.window.items F2) (by simp) rfl
 have p1_3:∀b∈F1,b ∉ F3:=hsp.1 (.ow EHold 194 (.slice a3 x.source.holds.length c3) x.source.holds F3) (by simp) rfl
 have p1_4:∀b∈F1,b ∉ F4:=hsp.1 (.ow OElement 142 (.slice a4 x.elements.length c4) x.elements F4) (by simp) rfl
 have p1_5:∀b∈F1,b ∉ F5:=hsp.1 (.ow OReceiver 149 (.slice a5 x.receivers.length c5) x.receivers F5) (by simp) rfl
 have p1_6:∀b∈F1,b ∉ F6:=hsp.1 (.ow (OSl EPacket 127) 132 (.slice a6 x.down.length c6) x.down F6) (by simp) rfl
 have p1_7:∀b∈F1,b ∉ F7:=hsp.1 (.ow (OSl EPacket 127) 132 (.slice a7 x.up.length c7) x.up F7) (by simp) rfl
 have p2_3:∀b∈F2,b ∉ F3:=hsp.2.1 (.ow EHold 194 (.slice a3 x.source.holds.length c3) x.source.holds F3) (by simp) rfl
 have p2_4:∀b∈F2,b ∉ F4:=hsp.2.1 (.ow OElement 142 (.slice a4 x.elements.length c4) x.elements F4) (by simp) rfl
 have p2_5:∀b∈F2,b ∉ F5:=hsp.2.1 (.ow OReceiver 149 (.slice a5 x.receivers.length c5) x.receivers F5) (by simp) rfl
 have p2_6:∀b∈F2,b ∉ F6:=hsp.2.1 (.ow (OSl EPacket 127) 132 (.slice a6 x.down.length c6) x.down F6) (by simp) rfl
 have p2_7:∀b∈F2,b ∉ F7:=hsp.2.1 (.ow (OSl EPacket 127) 132 (.slice a7 x.up.length c7) x.up F7) (by simp) rfl
 have p3_4:∀b∈F3,b ∉ F4:=hsp.2.2.1 (.ow OElement 142 (.slice a4 x.elements.length c4) x.elements F4) (by simp) rfl
 have p3_5:∀b∈F3,b ∉ F5:=hsp.2.2.1 (.ow OReceiver 149 (.slice a5 x.receivers.length c5) x.receivers F5) (by simp) rfl
 have p3_6:∀b∈F3,b ∉ F6:=hsp.2.2.1 (.ow (OSl EPacket 127) 132 (.slice a6 x.down.length c6) x.down F6) (by simp) rfl
 have p3_7:∀b∈F3,b ∉ F7:=hsp.2.2.1 (.ow (OSl EPacket 127) 132 (.slice a7 x.up.length c7) x.up F7) (by simp) rfl
 have p4_5:∀b∈F4,b ∉ F5:=hsp.2.2.2.1 (.ow OReceiver 149 (.slice a5 x.receivers.length c5) x.receivers F5) (by simp) rfl
 have p4_6:∀b∈F4,b ∉ F6:=hsp.2.2.2.1 (.ow (OSl EPacket 127) 132 (.slice a6 x.down.length c6) x.down F6) (by simp) rfl
 have p4_7:∀b∈F4,b ∉ F7:=hsp.2.2.2.1 (.ow (OSl EPacket 127) 132 (.slice a7 x.up.length c7) x.up F7) (by simp) rfl
 have p5_6:∀b∈F5,b ∉ F6:=hsp.2.2.2.2.1 (.ow (OSl EPacket 127) 132 (.slice a6 x.down.length c6) x.down F6) (by simp) rfl
 have p5_7:∀b∈F5,b ∉ F7:=hsp.2.2.2.2.1 (.ow (OSl EPacket 127) 132 (.slice a7 x.up.length c7) x.up F7) (by simp) rfl
 have p6_7:∀b∈F6,b ∉ F7:=hsp.2.2.2.2.2.1 (.ow (OSl EPacket 127) 132 (.slice a7 x.up.length c7) x.up F7) (by simp) rfl
 have hN:(F1++F2++F3++F4++F5++F6++F7).Nodup:=by
  simp only [List.nodup_append,List.mem_append]
  grind
 refine h.h a w (St.turn (M:=[.ow EInt 3 (.slice a1 x.tree.parent.length c1) x.tree.parent F1,.ow EStr 9 (.slice a2 x.source.window.items.length c2) x.source.window.items F2,.ow EHold 194 (.slice a3 x.source.holds.length c3) x.source.holds F3,.ow OElement 142 (.slice a4 x.elements.length c4) x.elements F4,.ow OReceiver 149 (.slice a5 x.receivers.length c5) x.receivers F5,.ow (OSl EPacket 127) 132 (.slice a6 x.down.length c6) x.down F6,.ow (OSl EPacket 127) 132 (.slice a7 x.up.length c7) x.up F7]) (N:=[.own ONet (.agg #[.slice a1 x.tree.parent.length c1,.int .i64 x.source.window.trail,.int .i64 x.source.window.size,.slice a2 x.source.window.items.length c2,.int .i64 x.source.clock,.int .i64 x.source.quiet,.slice a3 x.source.holds.length c3,.slice a4 x.elements.length c4,.slice a5 x.receivers.length c5,.slice a6 x.down.length c6,.slice a7 x.up.length c7]) x (F1++F2++F3++F4++F5++F6++F7)]) z1 (Keep.refl _ w) (by intro q hq;obtain rfl:=List.mem_singleton.1 hq;exact ⟨hN,_,rfl,_,_,_,_,_,_,_,_,_,_,_,_,_,_,rfl,k1,k2,k3,k4,k5,k6,k7,rfl⟩) ⟨by simp,trivial⟩ fun q hq b hb=>?_) g
 obtain rfl:=List.mem_singleton.1 hq
 simp only [Pc.F,List.mem_append] at hb
 rcases hb with (((((hb|hb)|hb)|hb)|hb)|hb)|hb
 ·exact .inr (.inl ⟨.ow EInt 3 (.slice a1 x.tree.parent.length c1) x.tree.parent F1,by simp,rfl,hb⟩)
 ·exact .inr (.inl ⟨.ow EStr 9 (.slice a2 x.source.window.items.length c2) x.source.window.items F2,by simp,rfl,hb⟩)
 ·exact .inr (.inl ⟨.ow EHold 194 (.slice a3 x.source.holds.length c3) x.source.holds F3,by simp,rfl,hb⟩)
 ·exact .inr (.inl ⟨.ow OElement 142 (.slice a4 x.elements.length c4) x.elements F4,by simp,rfl,hb⟩)
 ·exact .inr (.inl ⟨.ow OReceiver 149 (.slice a5 x.receivers.length c5) x.receivers F5,by simp,rfl,hb⟩)
 ·exact .inr (.inl ⟨.ow (OSl EPacket 127) 132 (.slice a6 x.down.length c6) x.down F6,by simp,rfl,hb⟩)
 ·exact .inr (.inl ⟨.ow (OSl EPacket 127) 132 (.slice a7 x.up.length c7) x.up F7,by simp,rfl,hb⟩)
end
section
variable {c:Cx} {fr:Fr} {H:List Pc} {Φ:Gl}
theorem openElement {v:Value} {x:Element} {F:List Nat} (h:∀(a1:Option Addr) (c1:Nat) (F1:List Nat),v=.agg #[.int .i64 x.clock,.slice a1 x.entries.length c1]→x.entries.length≤maxLen→T c fr (.sl EEntry (.slice a1 x.entries.length c1) x.entries F1::H) Φ) (hm:.isv EElement v x F∈H:=by (repeat (first|exact .head _|apply List.Mem.tail));first|done|fail):T c fr H Φ:=.mk fun a w s g=>by
 obtain ⟨cs,rfl,v1,rfl,h1⟩:=s.get hm
 obtain ⟨a1,c1,rfl⟩:=h1.slice;have l1:=h1.len
 have t1:=s.ro (p:=.sl EEntry (.slice a1 x.entries.length c1) x.entries F) hm rfl rfl ⟨by decide,h1⟩ fun b hb=>hb
 exact (h a1 c1 F rfl  l1).h a w t1 g
theorem closeElement (x:Element) {a1:Option Addr} {c1:Nat} {F1:List Nat}  (h:T c fr (.isv EElement (.agg #[.int .i64 x.clock,.slice a1 x.entries.length c1]) x (F1)::H) Φ) (m1:.sl EEntry (.slice a1 x.entries.length c1) x.entries F1∈H:=by (repeat (first|exact .head _|apply List.Mem.tail));first|done|fail):T c fr H Φ:=.mk fun a w s g=>by
 have hP:IsV EElement w (.agg #[.int .i64 x.clock,.slice a1 x.entries.length c1]) x (F1):=⟨_,rfl,_,rfl,(s.get m1).2⟩
 refine h.h a w (s.add (N:=[.isv EElement (.agg #[.int .i64 x.clock,.slice a1 x.entries.length c1]) x (F1)]) (Below.refl _ _) (by intro q hq;simp at hq;subst hq;exact hP) ⟨by simp,trivial⟩ fun q hq b hb=>?_) g
 simp at hq;subst hq
 simp only [Pc.F,List.mem_append] at hb
 exact .inr ⟨rfl,_,m1,rfl,hb⟩
theorem openOElement {v:Value} {x:Element} {F:List Nat} {S:List Pc} (h:∀(a1:Option Addr) (c1:Nat) (F1:List Nat),v=.agg #[.int .i64 x.clock,.slice a1 x.entries.length c1]→x.entries.length≤maxLen→T c fr (.ow OEntry 231 (.slice a1 x.entries.length c1) x.entries F1::S) Φ) (hp:Pick H (.own OElement v x F) S:=by (repeat (first|exact .here|apply Pick.there));first|done|fail):T c fr H Φ:=.mk fun a w s g=>by
 have z1:=s.pick hp
 obtain ⟨hn,cs,rfl,v1,rfl,h1⟩:=z1.on (.own OElement v x F) (by simp)
 obtain ⟨a1,c1,rfl⟩:=h1.slice;have l1:=h1.len
 refine (h a1 c1 F rfl  l1).h a w (St.turn (M:=[.own OElement (.agg #[.int .i64 x.clock,.slice a1 x.entries.length c1]) x _]) (N:=[.ow OEntry 231 (.slice a1 x.entries.length c1) x.entries F]) z1 (Keep.refl _ w) ?_ ?_ ?_) g
 ·intro q hq;simp at hq;subst hq;exact ⟨hn,h1⟩
 ·exact ⟨by simp,trivial⟩
 ·intro q hq b hb;simp at hq;subst hq;exact .inr (.inl ⟨_,List.mem_singleton.2 rfl,rfl,hb⟩)
theorem closeOElement (x:Element) {a1:Option Addr} {c1:Nat} {F1:List Nat} {S1:List Pc}  (h:T c fr (.own OElement (.agg #[.int .i64 x.clock,.slice a1 x.entries.length c1]) x (F1)::S1) Φ) (m1:Pick H (.ow OEntry 231 (.slice a1 x.entries.length c1) x.entries F1) S1:=by (repeat (first|exact .here|apply Pick.there));first|done|fail)  : T c fr H Φ:=.mk fun a w s g=>by
 have z1:St c.G c.D c.w0 ([.ow OEntry 231 (.slice a1 x.entries.length c1) x.entries F1]++S1) w:=by simpa using (show Picks H [.ow OEntry 231 (.slice a1 x.entries.length c1) x.entries F1] S1 from Picks.cons m1 (Picks.nil)).st (X:=[]) (by simpa using s)
 obtain ⟨n1,k1⟩:=z1.on (.ow OEntry 231 (.slice a1 x.entries.length c1) x.entries F1) (by simp)
 have hN:=n1
 refine h.h a w (St.turn (M:=[.ow OEntry 231 (.slice a1 x.entries.length c1) x.entries F1]) (N:=[.own OElement (.agg #[.int .i64 x.clock,.slice a1 x.entries.length c1]) x (F1)]) z1 (Keep.refl _ w) (by intro q hq;simp at hq;subst hq;exact ⟨hN,_,rfl,_,rfl,k1⟩) ⟨by simp,trivial⟩ fun q hq b hb=>?_) g
 simp at hq;subst hq
 simp only [Pc.F,List.mem_append] at hb
 exact .inr (.inl ⟨_,List.mem_singleton.2 rfl,rfl,hb⟩)
theorem atElement {a:Option Addr} {n cp:Nat} {xs:List Element} {F:List Nat} (i:Nat) (h:∀(hi:i < xs.length) (b o:Nat) (a1:Option Addr) (c1:Nat) (F1:List Nat),a=some ⟨b,o,none⟩→xs[i].entries.length≤maxLen→T c fr (.cel b (o+i * 2) [.int .i64 xs[i].clock,.slice a1 xs[i].entries.length c1]::.sl EEntry (.slice a1 xs[i].entries.length c1) xs[i].entries F1::H) Φ) (hm:.sl EElement (.slice a n cp) xs F∈H:=by (repeat (first|exact .head _|apply List.Mem.tail));first|done|fail) (hi:i < xs.length:=by omega):T c fr H Φ:=.mk fun ac w s g=>by
 obtain ⟨b,o,cs,G,ha,hrep,hG,hb,hne,hr⟩:=sl_at (s.get hm) i hi
 obtain ⟨v1,rfl,h1⟩:=hrep
 obtain ⟨a1,c1,rfl⟩:=h1.slice;have l1:=h1.len
 have t1:=s.ro (p:=.sl EEntry (.slice a1 xs[i].entries.length c1) xs[i].entries G) hm rfl rfl ⟨by decide,h1⟩ (by intro b hb;simp only [Pc.F] at hb ⊢;exact hG b (by simp [hb]))
 exact (h hi b o a1 c1 G ha  l1).h ac w (t1.ro (List.mem_cons_of_mem _ hm) rfl rfl ⟨hne,hr⟩ (by intro x hx;simp [Pc.F] at hx;subst hx;exact hb)) g
end
section
variable {c:Cx} {fr:Fr} {H:List Pc} {Φ:Gl}
theorem openTree {v:Value} {x:Tree} {F:List Nat} (h:∀(a1:Option Addr) (c1:Nat) (F1:List Nat),v=.agg #[.slice a1 x.parent.length c1]→x.parent.length≤maxLen→T c fr (.sl EInt (.slice a1 x.parent.length c1) x.parent F1::H) Φ) (hm:.isv ETree v x F∈H:=by (repeat (first|exact .head _|apply List.Mem.tail));first|done|fail):T c fr H Φ:=.mk fun a w s g=>by
 obtain ⟨cs,rfl,v1,rfl,h1⟩:=s.get hm
 obtain ⟨a1,c1,rfl⟩:=h1.slice;have l1:=h1.len
 have t1:=s.ro (p:=.sl EInt (.slice a1 x.parent.length c1) x.parent F) hm rfl rfl ⟨by decide,h1⟩ fun b hb=>hb
 exact (h a1 c1 F rfl  l1).h a w t1 g
theorem closeTree (x:Tree) {a1:Option Addr} {c1:Nat} {F1:List Nat}  (h:T c fr (.isv ETree (.agg #[.slice a1 x.parent.length c1]) x (F1)::H) Φ) (m1:.sl EInt (.slice a1 x.parent.length c1) x.parent F1∈H:=by (repeat (first|exact .head _|apply List.Mem.tail));first|done|fail):T c fr H Φ:=.mk fun a w s g=>by
 have hP:IsV ETree w (.agg #[.slice a1 x.parent.length c1]) x (F1):=⟨_,rfl,_,rfl,(s.get m1).2⟩
 refine h.h a w (s.add (N:=[.isv ETree (.agg #[.slice a1 x.parent.length c1]) x (F1)]) (Below.refl _ _) (by intro q hq;simp at hq;subst hq;exact hP) ⟨by simp,trivial⟩ fun q hq b hb=>?_) g
 simp at hq;subst hq
 simp only [Pc.F,List.mem_append] at hb
 exact .inr ⟨rfl,_,m1,rfl,hb⟩
theorem openOTree {v:Value} {x:Tree} {F:List Nat} {S:List Pc} (h:∀(a1:Option Addr) (c1:Nat) (F1:List Nat),v=.agg #[.slice a1 x.parent.length c1]→x.parent.length≤maxLen→T c fr (.ow EInt 3 (.slice a1 x.parent.length c1) x.parent F1::S) Φ) (hp:Pick H (.own OTree v x F) S:=by (repeat (first|exact .here|apply Pick.there));first|done|fail):T c fr H Φ:=.mk fun a w s g=>by
 have z1:=s.pick hp
 obtain ⟨hn,cs,rfl,v1,rfl,h1⟩:=z1.on (.own OTree v x F) (by simp)
 obtain ⟨a1,c1,rfl⟩:=h1.slice;have l1:=h1.len
 refine (h a1 c1 F rfl  l1).h a w (St.turn (M:=[.own OTree (.agg #[.slice a1 x.parent.length c1]) x _]) (N:=[.ow EInt 3 (.slice a1 x.parent.length c1) x.parent F]) z1 (Keep.refl _ w) ?_ ?_ ?_) g
 ·intro q hq;simp at hq;subst hq;exact ⟨hn,h1⟩
 ·exact ⟨by simp,trivial⟩
 ·intro q hq b hb;simp at hq;subst hq;exact .inr (.inl ⟨_,List.mem_singleton.2 rfl,rfl,hb⟩)
theorem closeOTree (x:Tree) {a1:Option Addr} {c1:Nat} {F1:List Nat} {S1:List Pc}  (h:T c fr (.own OTree (.agg #[.slice a1 x.parent.length c1]) x (F1)::S1) Φ) (m1:Pick H (.ow EInt 3 (.slice a1 x.parent.length c1) x.parent F1) S1:=by (repeat (first|exact .here|apply Pick.there));first|done|fail)  : T c fr H Φ:=.mk fun a w s g=>by
 have z1:St c.G c.D c.w0 ([.ow EInt 3 (.slice a1 x.parent.length c1) x.parent F1]++S1) w:=by simpa using (show Picks H [.ow EInt 3 (.slice a1 x.parent.length c1) x.parent F1] S1 from Picks.cons m1 (Picks.nil)).st (X:=[]) (by simpa using s)
 obtain ⟨n1,k1⟩:=z1.on (.ow EInt 3 (.slice a1 x.parent.length c1) x.parent F1) (by simp)
 have hN:=n1
 refine h.h a w (St.turn (M:=[.ow EInt 3 (.slice a1 x.parent.length c1) x.parent F1]) (N:=[.own OTree (.agg #[.slice a1 x.parent.length c1]) x (F1)]) z1 (Keep.refl _ w) (by intro q hq;simp at hq;subst hq;exact ⟨hN,_,rfl,_,rfl,k1⟩) ⟨by simp,trivial⟩ fun q hq b hb=>?_) g
 simp at hq;subst hq
 simp only [Pc.F,List.mem_append] at hb
 exact .inr (.inl ⟨_,List.mem_singleton.2 rfl,rfl,hb⟩)
end
structure SmallN (n:Net):Prop where
 t:n.tree.parent.length≤1000000
 i:n.source.window.items.length≤1000000
 h:n.source.holds.length≤1000000
 e:n.elements.length≤1000000
 e1:∀x∈n.elements,x.entries.length≤1000000
 e2:∀x∈n.elements,∀y∈x.entries,y.faces.length≤1000000
 rl:n.receivers.length≤1000000
 r:∀x∈n.receivers,x.window.slots.length≤1000000∧x.requests.length≤1000000
 d:n.down.length≤1000000
 dq:∀q∈n.down,q.length≤1000000
 u:n.up.length≤1000000
 uq:∀q∈n.up,q.length≤1000000
structure ClN where
 g:Nat
 a1:Option Addr
 c1:Nat
 F1:List Nat
 a2:Option Addr
 c2:Nat
 F2:List Nat
 a3:Option Addr
 c3:Nat
 F3:List Nat
 g6:Nat
 F6:List Nat
 g7:Nat
 F7:List Nat
structure NV where
 a1:Option Addr
 c1:Nat
 F1:List Nat
 a2:Option Addr
 c2:Nat
 F2:List Nat
 a3:Option Addr
 c3:Nat
 F3:List Nat
 a4:Option Addr
 c4:Nat
 F4:List Nat
 a5:Option Addr
 c5:Nat
 F5:List Nat
 a6:Option Addr
 c6:Nat
 F6:List Nat
 a7:Option Addr
 c7:Nat
 F7:List Nat
structure KA where
 k:Nat
 a:Option Addr
 c:Nat
 F:List Nat
theorem Nclone_f (n:Net) (v:Value) (F:List Nat) (hs:SmallN n):Fn Tryz.prog 44 [v] [.isv ENet v n F] [] (fun (_:NV)=>True) (fun z=>.agg #[.slice z.a1 n.tree.parent.length z.c1,.int .i64 n.source.window.trail,.int .i64 n.source.window.size,.slice z.a2 n.source.window.items.length z.c2,.int .i64 n.source.clock,.int .i64 n.source.quiet,.slice z.a3 n.source.holds.length z.c3,.slice z.a4 n.elements.length z.c4,.slice z.a5 n.receivers.length z.c5,.slice z.a6 n.down.length z.c6,.slice z.a7 n.up.length z.c7]) (fun z=>[.ow EInt 3 (.slice z.a1 n.tree.parent.length z.c1) n.tree.parent z.F1,.ow EStr 9 (.slice z.a2 n.source.window.items.length z.c2) n.source.window.items z.F2,.ow EHold 194 (.slice z.a3 n.source.holds.length z.c3) n.source.holds z.F3,.ow OElement 142 (.slice z.a4 n.elements.length z.c4) n.elements z.F4,.ow OReceiver 149 (.slice z.a5 n.receivers.length z.c5) n.receivers z.F5,.ow (OSl EPacket 127) 132 (.slice z.a6 n.down.length z.c6) n.down z.F6,.ow (OSl EPacket 127) 132 (.slice z.a7 n.up.length z.c7) n.up z.F7]):=by
 refine enter Tryz.func44 rfl Tryz.ntmps44 fun w0=>?_
 refine openNet ?_
 rintro a1 c1 F1 a2 c2 F2 a3 c3 F3 a4 c4 F4 a5 c5 F5 a6 c6 F6 a7 c7 F7 rfl l1 l2 l3 l4 l5 l6 l7
 refine closeSource n.source ?_
 refine go ?_;intros
 refine c_joinS [1,2] [0,1,6,7] (fun z:ClN=>[(3,ptr z.g 0 0)]) (fun z=>[.row z.g 49 0 [] [.slice z.a1 n.tree.parent.length z.c1,.int .i64 n.source.window.trail,.int .i64 n.source.window.size,.slice z.a2 n.source.window.items.length z.c2,.int .i64 n.source.clock,.int .i64 n.source.quiet,.slice z.a3 n.source.holds.length z.c3,.slice none 0 0,.slice none 0 0,.slice (some ⟨z.g6,0,none⟩) n.down.length n.down.length,.slice (some ⟨z.g7,0,none⟩) n.up.length n.up.length] [],.ow EInt 3 (.slice z.a1 n.tree.parent.length z.c1) n.tree.parent z.F1,.ow EStr 9 (.slice z.a2 n.source.window.items.length z.c2) n.source.window.items z.F2,.ow EHold 194 (.slice z.a3 n.source.holds.length z.c3) n.source.holds z.F3,.ow (OSl EPacket 127) 132 (.slice (some ⟨z.g6,0,none⟩) n.down.length n.down.length) n.down z.F6,.ow (OSl EPacket 127) 132 (.slice (some ⟨z.g7,0,none⟩) n.up.length n.up.length) n.up z.F7]) (fun _=>True) ?_ fun z _=>?_
 ·refine d_start [1] [] ?_
  refine dt4 0 1 2 5 ?_
  refine dt4 6 8 9 11 ?_
  refine dt 12 ?_
  refine dM 3 15 ?_ ?_
  ·refine oC ?_
   refine cn (fun w st=>Clone_Int _ n.tree.parent F1 w (st.get (p:=.sl EInt (.slice a1 n.tree.parent.length c1) n.tree.parent F1) (by exact memE)).2 (by have:=hs.t;omega)) fun b1 d1 G1=>?_
   refine dk ?_
   refine dt 4 ?_
   refine dM 7 15 ?_ ?_
   ·refine oC ?_
    refine cf (Sclone_f n.source _ _ (by have:=hs.i;omega) (by have:=hs.h;omega)) fun s2 _=>?_
    refine t_app ?_
    refine openOSource (x:=n.source) ?_
    rintro b2 d2 G2 b3 d3 G3 e2 - -
    rw [e2]
    refine dk ?_
    refine dM 10 15 ?_ ?_
    ·refine oC ?_
     refine cf (cloneQueues_f n.down _ _ F6 (by have:=hs.d;omega) (fun q hq=>by have:=hs.dq q hq;omega)) fun s6 _=>?_
     refine t_app ?_
     refine dk ?_
     refine dM 13 15 ?_ ?_
     ·refine oC ?_
      refine cf (cloneQueues_f n.up _ _ F7 (by have:=hs.u;omega) (fun q hq=>by have:=hs.uq q hq;omega)) fun s7 _=>?_
      refine t_app ?_
      refine dk ?_
      refine dt 14 ?_
      refine dN 15 ?_
      apply o_alloc;rfl;intro _
      refine dk ?_
      refine dN 16 ?_
      refine oS ?_
      refine dk ?_
      refine dd ?_
      refine n_join (⟨_,b1,d1,G1,b2,d2,G2,b3,d3,G3,_,_,_,_⟩:ClN) trivial
     ·apply o_alloc;rfl;intro _
      refine dk ?_
      refine dN 13 ?_
      refine oC ?_
      refine cf (cloneQueues_f n.up _ _ F7 (by have:=hs.u;omega) (fun q hq=>by have:=hs.uq q hq;omega)) fun s7 _=>?_
      refine t_app ?_
      refine dk ?_
      refine dt 14 ?_
      refine dN 16 ?_
      refine oS ?_
      refine dk ?_
      refine dd ?_
      refine n_join (⟨_,b1,d1,G1,b2,d2,G2,b3,d3,G3,_,_,_,_⟩:ClN) trivial
    ·apply o_alloc;rfl;intro _
     refine dk ?_
     refine dN 10 ?_
     refine oC ?_
     refine cf (cloneQueues_f n.down _ _ F6 (by have:=hs.d;omega) (fun q hq=>by have:=hs.dq q hq;omega)) fun s6 _=>?_
     refine t_app ?_
     refine dk ?_
     refine dN 13 ?_
     refine oC ?_
     refine cf (cloneQueues_f n.up _ _ F7 (by have:=hs.u;omega) (fun q hq=>by have:=hs.uq q hq;omega)) fun s7 _=>?_
     refine t_app ?_
     refine dk ?_
     refine dt 14 ?_
     refine dN 16 ?_
     refine oS ?_
     refine dk ?_
     refine dd ?_
     refine n_join (⟨_,b1,d1,G1,b2,d2,G2,b3,d3,G3,_,_,_,_⟩:ClN) trivial
   ·apply o_alloc;rfl;intro _
    refine dk ?_
    refine dN 7 ?_
    refine oC ?_
    refine cf (Sclone_f n.source _ _ (by have:=hs.i;omega) (by have:=hs.h;omega)) fun s2 _=>?_
    refine t_app ?_
    refine openOSource (x:=n.source) ?_
    rintro b2 d2 G2 b3 d3 G3 e2 - -
    rw [e2]
    refine dk ?_
    refine dN 10 ?_
    refine oC ?_
    refine cf (cloneQueues_f n.down _ _ F6 (by have:=hs.d;omega) (fun q hq=>by have:=hs.dq q hq;omega)) fun s6 _=>?_
    refine t_app ?_
    refine dk ?_
    refine dN 13 ?_
    refine oC ?_
    refine cf (cloneQueues_f n.up _ _ F7 (by have:=hs.u;omega) (fun q hq=>by have:=hs.uq q hq;omega)) fun s7 _=>?_
    refine t_app ?_
    refine dk ?_
    refine dt 14 ?_
    refine dN 16 ?_
    refine oS ?_
    refine dk ?_
    refine dd ?_
    refine n_join (⟨_,b1,d1,G1,b2,d2,G2,b3,d3,G3,_,_,_,_⟩:ClN) trivial
  ·apply o_alloc;rfl;intro _
   refine dk ?_
   refine dN 3 ?_
   refine oC ?_
   refine cn (fun w st=>Clone_Int _ n.tree.parent F1 w (st.get (p:=.sl EInt (.slice a1 n.tree.parent.length c1) n.tree.parent F1) (by exact memE)).2 (by have:=hs.t;omega)) fun b1 d1 G1=>?_
   refine dk ?_
   refine dt 4 ?_
   refine dN 7 ?_
   refine oC ?_
   refine cf (Sclone_f n.source _ _ (by have:=hs.i;omega) (by have:=hs.h;omega)) fun s2 _=>?_
   refine t_app ?_
   refine openOSource (x:=n.source) ?_
   rintro b2 d2 G2 b3 d3 G3 e2 - -
   rw [e2]
   refine dk ?_
   refine dN 10 ?_
   refine oC ?_
   refine cf (cloneQueues_f n.down _ _ F6 (by have:=hs.d;omega) (fun q hq=>by have:=hs.dq q hq;omega)) fun s6 _=>?_
   refine t_app ?_
   refine dk ?_
   refine dN 13 ?_
   refine oC ?_
   refine cf (cloneQueues_f n.up _ _ F7 (by have:=hs.u;omega) (fun q hq=>by have:=hs.uq q hq;omega)) fun s7 _=>?_
   refine t_app ?_
   refine dk ?_
   refine dt 14 ?_
   refine dN 16 ?_
   refine oS ?_
   refine dk ?_
   refine dd ?_
   refine n_join (⟨_,b1,d1,G1,b2,d2,G2,b3,d3,G3,_,_,_,_⟩:ClN) trivial
 have he:=hs.e
 have hr:=hs.rl
 refine t_nilow OElement 142 ?_
 refine go ?_;intros
 refine c_loopS [1,2,3,24,25] (fun y:KA=>[(26,.int .i64 (y.k:Nat))]) (fun y=>[.row z.g 49 0 [] [.slice z.a1 n.tree.parent.length z.c1,.int .i64 n.source.window.trail,.int .i64 n.source.window.size,.slice z.a2 n.source.window.items.length z.c2,.int .i64 n.source.clock,.int .i64 n.source.quiet,.slice z.a3 n.source.holds.length z.c3,.slice y.a (n.elements.take y.k).length y.c,.slice none 0 0,.slice (some ⟨z.g6,0,none⟩) n.down.length n.down.length,.slice (some ⟨z.g7,0,none⟩) n.up.length n.up.length] [],.ow OElement 142 (.slice y.a (n.elements.take y.k).length y.c) (n.elements.take y.k) y.F]) (fun y=>y.k≤n.elements.length) (fun y=>n.elements.length - y.k) ⟨0,none,0,[]⟩ (Nat.zero_le _) fun y hy=>?_
 refine go ?_;intros
 refine c_if rfl (fun h1=>?_) (fun h1=>?_)
 ·have hk:y.k < n.elements.length:=by omega
  have htl:(n.elements.take y.k).length≤1000000:=by rw [List.length_take];omega
  refine atElement (xs:=n.elements) y.k ?_
  rintro hi4 b4 o4 a8 c8 F8 e4 l8
  rw [e4]
  refine closeElement n.elements[y.k] ?_
  refine go ?_;intros
  refine d_start [0,4] [7] ?_
  refine dt2 0 1 ?_
  refine dt 2 ?_
  refine dN 3 ?_
  refine oC ?_
  refine cv (fun w st=>Element_clone_c _ n.elements[y.k] F8 w (st.get (p:=.isv EElement (.agg #[.int .i64 n.elements[y.k].clock,.slice a8 n.elements[y.k].entries.length c8]) n.elements[y.k] F8) (by exact memE)) (by have:=hs.e1 _ (List.getElem_mem hk);omega) (fun x hx=>by have:=hs.e2 _ (List.getElem_mem hk) x hx;omega)) fun v9 F9=>?_
  refine openOElement (x:=n.elements[y.k]) ?_
  rintro a9 c9 F10 rfl l9
  refine closeOElement n.elements[y.k] ?_
  refine dk ?_
  refine dN 4 ?_
  apply o_bs;rfl;rfl;rfl;rfl;exact rptE;exact filE;intro _
  refine dk ?_
  refine dN 5 ?_
  refine ap1o one_OElement n.elements[y.k] rfl fun a7 c7 F7=>?_
  refine dk ?_
  refine dt 6 ?_
  refine dN 7 ?_
  refine oS ?_
  refine dkx ?_
  refine dd ?_
  rw [←List.take_succ_eq_append_getElem hk]
  refine go ?_;intros
  refine n_lp ⟨y.k+1,a7,c7,F7⟩ hk (by show n.elements.length - (y.k+1) < n.elements.length - y.k;omega)
 rw [show n.elements.take y.k=n.elements from List.take_of_length_le (by omega)]
 obtain ⟨_,ea,ec,eF⟩:=y
 dsimp only
 refine t_nilow OReceiver 149 ?_
 refine go ?_;intros
 refine c_loopS [2,3,39,40] (fun y:KA=>[(41,.int .i64 (y.k:Nat))]) (fun y=>[.row z.g 49 0 [] [.slice z.a1 n.tree.parent.length z.c1,.int .i64 n.source.window.trail,.int .i64 n.source.window.size,.slice z.a2 n.source.window.items.length z.c2,.int .i64 n.source.clock,.int .i64 n.source.quiet,.slice z.a3 n.source.holds.length z.c3,.slice ea n.elements.length ec,.slice y.a (n.receivers.take y.k).length y.c,.slice (some ⟨z.g6,0,none⟩) n.down.length n.down.length,.slice (some ⟨z.g7,0,none⟩) n.up.length n.up.length] [],.ow OReceiver 149 (.slice y.a (n.receivers.take y.k).length y.c) (n.receivers.take y.k) y.F]) (fun y=>y.k≤n.receivers.length) (fun y=>n.receivers.length - y.k) ⟨0,none,0,[]⟩ (Nat.zero_le _) fun y hy=>?_
 refine go ?_;intros
 refine c_if rfl (fun h2=>?_) (fun h2=>?_)
 ·have hk:y.k < n.receivers.length:=by omega
  have htl:(n.receivers.take y.k).length≤1000000:=by rw [List.length_take];omega
  refine atReceiver (xs:=n.receivers) y.k ?_
  rintro hi5 b5 o5 a8 c8 F8 a9 c9 F9 e5 l8 l9
  rw [e5]
  refine closeReceiver n.receivers[y.k] ?_
  refine go ?_;intros
  refine d_start [0,5] [7] ?_
  refine dt2 0 1 ?_
  refine dt 2 ?_
  refine dN 3 ?_
  refine oC ?_
  refine cf (Rclone_f n.receivers[y.k] _ _ (by have:=(hs.r _ (List.getElem_mem hk)).1;omega) (by have:=(hs.r _ (List.getElem_mem hk)).2;omega)) fun s9 _=>?_
  refine t_app ?_
  refine openOReceiver (x:=n.receivers[y.k]) ?_
  rintro a9 c9 G9 a10 c10 G10 e9 l9 l10
  rw [e9]
  refine closeOReceiver n.receivers[y.k] ?_
  refine dk ?_
  refine dN 4 ?_
  apply o_bs;rfl;rfl;rfl;rfl;exact rptE;exact filE;intro _
  refine dk ?_
  refine dN 5 ?_
  refine ap1o one_OReceiver n.receivers[y.k] rfl fun a7 c7 F7=>?_
  refine dk ?_
  refine dt 6 ?_
  refine dN 7 ?_
  refine oS ?_
  refine dkx ?_
  refine dd ?_
  rw [←List.take_succ_eq_append_getElem hk]
  refine go ?_;intros
  refine n_lp ⟨y.k+1,a7,c7,F7⟩ hk (by show n.receivers.length - (y.k+1) < n.receivers.length - y.k;omega)
 rw [show n.receivers.take y.k=n.receivers from List.take_of_length_le (by omega)]
 refine go ?_;intros
 refine ret ⟨z.a1,z.c1,z.F1,z.a2,z.c2,z.F2,z.a3,z.c3,z.F3,ea,ec,eF,y.a,y.c,y.F,_,_,z.F6,_,_,z.F7⟩ trivial rfl
theorem itoa_nt {v:Int} (h:0≤v):Lib.itoa v=Lib.decDigits v.natAbs:=by unfold Lib.itoa;rw [if_neg (by omega),show v.toNat=v.natAbs by omega]
theorem numI_c (n:Int) (h0:0≤n) (h1:n≤999999) (w:World):Calls Tryz.prog 227 #[.int .i64 n] w fun e w2=>e=.returned (.string (bz (Lib.itoa n)))∧Below w.heap.size w w2:=by
 have:=num_c n.toNat (by omega) w
 rw [show ((n.toNat:Nat):Int)=n by omega,show n.toNat=n.natAbs by omega,←itoa_nt h0] at this
 exact this
theorem delayOf_f (i:Nat) (hi:i≤100):Fn Tryz.prog 131 [.int .i64 (i:Nat)] [] [] (fun (_:Unit)=>True) (fun _=>.int .i64 (dly i)) (fun _=>[]):=by
 refine enter Tryz.func131 rfl Tryz.ntmps131 fun w0=>?_
 refine go ?_;intros
 refine ret () trivial rfl
theorem l15Delay_f (i:Nat) (hi:i≤100):Fn Tryz.prog 160 [.int .i64 (i:Nat)] [] [] (fun (_:Unit)=>True) (fun _=>.int .i64 (dly i)) (fun _=>[]):=by
 refine enter Tryz.func160 rfl Tryz.ntmps160 fun w0=>?_
 refine go ?_;intros
 refine ret () trivial rfl
theorem told_f (i:Nat) (es:List ByteArray) (a:Option Addr) (c:Nat) (F FT:List Nat) (hi:i≤100) (hl:es.length≤1000000) (hz:∀e∈es,e.size≤1000000):Fn Tryz.prog 133 [.int .i64 (i:Nat),.slice a es.length c] [.sl EStr (.slice a es.length c) es F,EnvP FT] [] (fun (_:KA)=>True) (fun z=>.slice z.a (tell i es).length z.c) (fun z=>[.ow EStr 9 (.slice z.a (tell i es).length z.c) (tell i es) z.F]):=by
 have hs0:(bz (Lib.itoa ((i:Nat):Int))).size≤6:=by rw [bz_size,itoa_nt (by omega)];exact digit_len 5 _ (by have:(10:Nat) ^ (5+1)=1000000:=rfl;omega)
 refine enter Tryz.func133 rfl Tryz.ntmps133 fun w0=>?_
 refine t_nilow EStr 9 ?_
 refine go ?_;intros
 refine c_loopS [0,4,8,9] (fun z:KA=>[(5,.slice z.a ((es.take z.k).map (tellE i)).length z.c),(10,.int .i64 (z.k:Nat))]) (fun z=>[.ow EStr 9 (.slice z.a ((es.take z.k).map (tellE i)).length z.c) ((es.take z.k).map (tellE i)) z.F]) (fun z=>z.k≤es.length) (fun z=>es.length - z.k) ⟨0,none,0,[]⟩ (Nat.zero_le _) fun z hz0=>?_
 have hml:((es.take z.k).map (tellE i)).length=z.k:=by rw [List.length_map,List.length_take];omega
 refine go ?_;intros
 refine c_if rfl (fun h1=>?_) (fun h1=>?_)
 ·have hk:z.k < es.length:=by omega
  have hse:=hz _ (List.getElem_mem hk)
  have z1:(⟨#[32]⟩:ByteArray).size=1:=rfl
  have zs:(bz (Lib.itoa ((i:Nat):Int))++⟨#[32]⟩).size=_:=ByteArray.size_append
  have zt:(bz (Lib.itoa ((i:Nat):Int))++⟨#[32]⟩++es[z.k]).size=_:=ByteArray.size_append
  have hst:((es.take z.k).map (tellE i))++[tellE i es[z.k]]=(es.take (z.k+1)).map (tellE i):=by rw [List.take_succ_eq_append_getElem hk,List.map_append];rfl
  have hte:(tellE i es[z.k]).size≤1000010:=by unfold tellE;omega
  refine at_str (xs:=es) z.k ?_
  rintro hi b o e1 s1
  rw [e1]
  refine go ?_;intros
  refine cb (fun w st=>itoa_c ((i:Nat):Int) (by omega) (by omega) FT w (st.get (p:=EnvP FT) (by exact memE))) ?_
  refine goN ?_;intros
  apply wO
  refine ap1 (ys:=[tellE i es[z.k]]) (rep_s (by unfold maxLen;omega)) one_EStr fun a9 c9 F9=>?_
  rw [hst]
  refine go ?_;intros
  refine n_lp ⟨z.k+1,a9,c9,F9⟩ hk (by show es.length - (z.k+1) < es.length - z.k;omega)
 ·rw [show es.take z.k=es from List.take_of_length_le (by omega)]
  refine go ?_;intros
  refine ret z trivial rfl
theorem l15Tell_f (i:Nat) (es:List ByteArray) (a:Option Addr) (c:Nat) (F FT:List Nat) (hi:i≤100) (hl:es.length≤1000000) (hz:∀e∈es,e.size≤1000000):Fn Tryz.prog 161 [.int .i64 (i:Nat),.slice a es.length c] [.sl EStr (.slice a es.length c) es F,EnvP FT] [] (fun (_:KA)=>True) (fun z=>.slice z.a (tell i es).length z.c) (fun z=>[.ow EStr 9 (.slice z.a (tell i es).length z.c) (tell i es) z.F]):=by
 have hs0:(bz (Lib.itoa ((i:Nat):Int))).size≤6:=by rw [bz_size,itoa_nt (by omega)];exact digit_len 5 _ (by have:(10:Nat) ^ (5+1)=1000000:=rfl;omega)
 refine enter Tryz.func161 rfl Tryz.ntmps161 fun w0=>?_
 refine go ?_;intros
 refine t_emp EStr ?_
 refine c_loopS [0,1,4] (fun z:KA=>[(5,.slice z.a ((es.take z.k).map (tellE i)).length z.c),(6,.int .i64 (z.k:Nat))]) (fun z=>[.ow EStr 9 (.slice z.a ((es.take z.k).map (tellE i)).length z.c) ((es.take z.k).map (tellE i)) z.F]) (fun z=>z.k≤es.length) (fun z=>es.length - z.k) ⟨0,_,0,_⟩ (Nat.zero_le _) fun z hz0=>?_
 have hml:((es.take z.k).map (tellE i)).length=z.k:=by rw [List.length_map,List.length_take];omega
 refine go ?_;intros
 refine c_if rfl (fun h1=>?_) (fun h1=>?_)
 ·have hk:z.k < es.length:=by omega
  have hse:=hz _ (List.getElem_mem hk)
  have z1:(⟨#[32]⟩:ByteArray).size=1:=rfl
  have zs:(bz (Lib.itoa ((i:Nat):Int))++⟨#[32]⟩).size=_:=ByteArray.size_append
  have zt:(bz (Lib.itoa ((i:Nat):Int))++⟨#[32]⟩++es[z.k]).size=_:=ByteArray.size_append
  have hst:((es.take z.k).map (tellE i))++[tellE i es[z.k]]=(es.take (z.k+1)).map (tellE i):=by rw [List.take_succ_eq_append_getElem hk,List.map_append];rfl
  have hte:(tellE i es[z.k]).size≤1000010:=by unfold tellE;omega
  refine at_str (xs:=es) z.k ?_
  rintro hi b o e1 s1
  rw [e1]
  refine go ?_;intros
  refine d_start [0] [] ?_
  refine dt4 0 1 4 5 ?_
  refine dt2 6 7 ?_
  refine dN 2 ?_
  refine oC ?_
  refine cb (fun w st=>numI_c ((i:Nat):Int) (by omega) (by omega) w) ?_
  refine dk ?_
  refine dt2 3 8 ?_
  refine dN 9 ?_
  apply o_bs;rfl;rfl;rfl;rfl;exact rptE;exact filE;intro _
  refine dk ?_
  refine dN 10 ?_
  refine ap1 (ys:=[tellE i es[z.k]]) (rep_s (by unfold maxLen;omega)) one_EStr fun a9 c9 F9=>?_
  refine dk ?_
  refine dt 11 ?_
  refine dd ?_
  rw [hst]
  refine go ?_;intros
  refine n_lp ⟨z.k+1,a9,c9,F9⟩ hk (by show es.length - (z.k+1) < es.length - z.k;omega)
 ·rw [show es.take z.k=es from List.take_of_length_le (by omega)]
  refine go ?_;intros
  refine ret z trivial rfl
end Go.Proofs.YtgmbfohkpfineaaGreatDoor
namespace Go.Proofs.YtgmbfohkpfineaaGreatDoor

theorem tw_len {α:Type} {p:α→Bool}:∀{xs:List α} {k:Nat},k≤xs.length→(∀j (_:j < k) (h:j < xs.length),p xs[j]=true)→(∀h:k < xs.length,p xs[k]=false)→(xs.takeWhile p).length=k
 | [],k,hk,_,_=>by simp at hk;simp [hk]
 | x::r,0,_,_,h2=>by have:=h2 (by simp);simp at this;simp [this]
 | x::r,k+1,hk,h1,h2=>by
  have hx:p x=true:=h1 0 (by omega) (by simp)
  rw [List.takeWhile_cons_of_pos hx,List.length_cons,tw_len (xs:=r) (k:=k) (by simpa using hk) (fun j hj h=>by have:=h1 (j+1) (by omega) (by simpa using h);simpa using this) (fun h=>by have:=h2 (by simpa using h);simpa using this)]
theorem tw_spec {α:Type} {p:α→Bool}:∀{xs:List α},(xs.takeWhile p).length≤xs.length∧(∀j (_:j < (xs.takeWhile p).length) (h:j < xs.length),p xs[j]=true)∧∀h:(xs.takeWhile p).length < xs.length,p xs[(xs.takeWhile p).length]=false
 | []=>by simp
 | x::r=>by
  cases hx:p x
  ·rw [List.takeWhile_cons_of_neg (by simp [hx])];simp [hx]
  ·rw [List.takeWhile_cons_of_pos hx]
   obtain ⟨h1,h2,h3⟩:=tw_spec (p:=p) (xs:=r)
   refine ⟨by simpa using h1,fun j hj h=>?_,fun h=>?_⟩
   ·cases j with
    | zero=>simpa using hx
    | succ j=>simpa using h2 j (by simpa using hj) (by simpa using h)
   ·simpa using h3 (by simpa using h)
def hitB {α:Type} (f:α→Int):Option α→Bool
 | some x=>decide (f x=0)
 | none=>false
end Go.Proofs.YtgmbfohkpfineaaGreatDoor
namespace Go.Proofs.YtgmbfohkpfineaaGreatDoor
open Go.RowKit
theorem gpInj {t a b:Int} (ha:isSer a=true) (hb:isSer b=true) (h:gp t a=gp t b):a=b:=by
 obtain ⟨a0,a1⟩:=isSer_iff.1 ha
 obtain ⟨b0,b1⟩:=isSer_iff.1 hb
 unfold gp at h;omega
def askAt (base:Int) (l:List Request) (n:Int):Nat:=(l.takeWhile fun r=>decide (gp base r.number < gp base n)).length
def askOn (base:Int) (l:List Request) (n:Int):Bool:=match l[askAt base l n]? with|some r=>decide (r.number=n)|none=>false
def newQ (n u:Int):Request:=⟨n,1,u,0⟩
def insQ (base:Int) (l:List Request) (n u:Int):List Request:=l.take (askAt base l n)++newQ n u::l.drop (askAt base l n)
def addQ (base:Int) (l:List Request) (n u:Int):List Request:=if askOn base l n || !decide (gp base n < 8) then l else insQ base l n u
def confQ (base:Int) (l:List Request) (n u:Int):List Request:=match l[askAt base l n]? with|some r=>if r.number=n then l.set (askAt base l n) ⟨n,3,u,r.tries⟩ else l|none=>l
theorem askAt_le (base:Int) (l:List Request) (n:Int):askAt base l n≤l.length:=tw_spec.1
theorem askOn_at {base:Int} {l:List Request} {n:Int} (h:askAt base l n < l.length):askOn base l n=decide (l[askAt base l n].number=n):=by unfold askOn;rw [List.getElem?_eq_getElem h]
theorem askOn_end {base:Int} {l:List Request} {n:Int} (h:¬askAt base l n < l.length):askOn base l n=false:=by unfold askOn;rw [List.getElem?_eq_none (by omega)]
theorem askOn_lt {base:Int} {l:List Request} {n:Int} (h:askOn base l n=true):askAt base l n < l.length:=by
 by_cases h2:askAt base l n < l.length
 ·exact h2
 ·rw [askOn_end h2] at h;cases h
theorem confQ_no {base:Int} {l:List Request} {n u:Int} (h:askOn base l n=false):confQ base l n u=l:=by
 unfold confQ
 unfold askOn at h
 cases hq:l[askAt base l n]? with
 | none=>rfl
 | some r=>rw [hq] at h;dsimp only at h ⊢;rw [if_neg (by simpa using h)]
theorem confQ_yes {base:Int} {l:List Request} {n u:Int} (h:askOn base l n=true):confQ base l n u=l.set (askAt base l n) ⟨n,3,u,(l[askAt base l n]'(askOn_lt h)).tries⟩:=by
 have h2:=askOn_lt h
 rw [askOn_at h2] at h
 unfold confQ
 rw [List.getElem?_eq_getElem h2]
 dsimp only
 rw [if_pos (by simpa using h)]
theorem confQ_len (base:Int) (l:List Request) (n u:Int):(confQ base l n u).length=l.length:=by
 cases h:askOn base l n
 ·rw [confQ_no h]
 ·rw [confQ_yes h,List.length_set]
theorem ask_ne {base n:Int} {l:List Request} (hq:areQ l base=true) (hn:isSer n=true) (h:askOn base l n=false):∀r∈l,gp base r.number≠gp base n:=by
 obtain ⟨-, -,h3,h4⟩:=areQ_iff.1 hq
 obtain ⟨t1,t2,t3⟩:=tw_spec (p:=fun r:Request=>decide (gp base r.number < gp base n)) (xs:=l)
 intro r hr e
 obtain ⟨i,hi,rfl⟩:=List.getElem_of_mem hr
 have e2:=gpInj (okReq_iff.1 (h3 _ hr)).n hn e
 have hk:askAt base l n=i:=tw_len (by omega) (fun j hj h=>by
  have:=List.pairwise_iff_getElem.1 h4 j i h hi hj
  simp only [decide_eq_true_eq];omega) (fun h=>by simp only [decide_eq_false_iff_not];omega)
 rw [askOn_at (by omega)] at h
 simp only [hk] at h
 simp [e2] at h
theorem pw_len {base:Int} {l:List Request} (hp:l.Pairwise fun a b=>gp base a.number < gp base b.number) (h8:∀q∈l,gp base q.number < 8):l.length≤8:=by
 have key:∀i (h:i < l.length),(i:Int)≤gp base l[i].number:=by
  intro i
  induction i with
  | zero=>intro h;exact (gp_bd _ _).1
  | succ i ih =>
   intro h
   have a:=ih (by omega)
   have b:=List.pairwise_iff_getElem.1 hp i (i+1) (by omega) h (by omega)
   omega
 by_cases h:l.length≤8
 ·exact h
 ·have a:=key 8 (by omega)
  have b:=h8 _ (List.getElem_mem (show 8 < l.length by omega))
  omega
theorem insQ_len (base:Int) (l:List Request) (n u:Int):(insQ base l n u).length=l.length+1:=by
 have:=askAt_le base l n
 unfold insQ
 rw [List.length_append,List.length_cons,List.length_take,List.length_drop];omega
theorem insQ_good {base n u:Int} {l:List Request} (hq:areQ l base=true) (hn:isSer n=true) (h8:gp base n < 8) (u0:0≤u) (u1:u≤10007) (h:askOn base l n=false):areQ (insQ base l n u) base=true:=by
 have hne:=ask_ne hq hn h
 obtain ⟨h1,h2,h3,h4⟩:=areQ_iff.1 hq
 obtain ⟨t1,t2,t3⟩:=tw_spec (p:=fun r:Request=>decide (gp base r.number < gp base n)) (xs:=l)
 have hle:=askAt_le base l n
 have hok:∀r∈insQ base l n u,okReq base r=true:=by
  intro r hr
  unfold insQ at hr
  rcases List.mem_append.1 hr with h|h
  ·exact h3 r (List.mem_of_mem_take h)
  ·rcases List.mem_cons.1 h with rfl|h
   ·exact okReq_iff.2 ⟨hn,h8,by show (1:Int)≤1;decide,by show (1:Int)≤3;decide,u0,u1,by show (0:Int)≤0;decide,by show (0:Int)≤3;decide⟩
   ·exact h3 r (List.mem_of_mem_drop h)
 have hpw:(insQ base l n u).Pairwise fun a b=>gp base a.number < gp base b.number:=by
  unfold insQ
  rw [List.pairwise_append]
  refine ⟨h4.sublist (List.take_sublist _ _),?_,?_⟩
  ·rw [List.pairwise_cons]
   refine ⟨fun b hb=>?_,h4.sublist (List.drop_sublist _ _)⟩
   obtain ⟨j,hj,rfl⟩:=List.getElem_of_mem hb
   rw [List.getElem_drop]
   rw [List.length_drop] at hj
   have hk:askAt base l n < l.length:=by omega
   have h0:=t3 hk
   simp only [decide_eq_false_iff_not,Int.not_lt] at h0
   have h00:gp base n≤gp base (l[askAt base l n]'hk).number:=h0
   have hd:=hne _ (List.getElem_mem hk)
   show gp base n < _
   rcases Nat.eq_zero_or_pos j with e|e
   ·subst e;simp only [Nat.add_zero];omega
   ·have h5:=List.pairwise_iff_getElem.1 h4 (askAt base l n) (askAt base l n+j) hk (by omega) (by omega)
    omega
  ·intro a ha b hb
   obtain ⟨i,hi,rfl⟩:=List.getElem_of_mem ha
   rw [List.length_take] at hi
   rw [List.getElem_take]
   have ha2:=t2 i (by show i < askAt base l n;omega) (by omega)
   simp only [decide_eq_true_eq] at ha2
   rcases List.mem_cons.1 hb with rfl|hb
   ·exact ha2
   ·obtain ⟨j,hj,rfl⟩:=List.getElem_of_mem hb
    rw [List.getElem_drop]
    rw [List.length_drop] at hj
    exact List.pairwise_iff_getElem.1 h4 i (askAt base l n+j) (by omega) (by omega) (by omega)
 exact areQ_iff.2 ⟨h1,pw_len hpw fun q hq=>(okReq_iff.1 (hok q hq)).g,hok,hpw⟩
theorem addQ_good {base n u:Int} {l:List Request} (hq:areQ l base=true) (hn:isSer n=true) (u0:0≤u) (u1:u≤10007):areQ (addQ base l n u) base=true:=by
 unfold addQ
 split
 ·exact hq
 ·rename_i h
  simp only [Bool.or_eq_true,Bool.not_eq_true',not_or,Bool.not_eq_false,Bool.not_eq_true,decide_eq_true_eq] at h
  exact insQ_good hq hn h.2 u0 u1 h.1
theorem mem_addQ {base n u:Int} {l:List Request} {q:Request} (h:q∈addQ base l n u):q∈l∨q.number=n:=by
 unfold addQ insQ at h
 split at h
 ·exact .inl h
 ·rcases List.mem_append.1 h with h|h
  ·exact .inl (List.mem_of_mem_take h)
  ·rcases List.mem_cons.1 h with rfl|h
   ·exact .inr rfl
   ·exact .inl (List.mem_of_mem_drop h)
theorem confQ_good {base n u:Int} {l:List Request} (hq:areQ l base=true) (u0:0≤u) (u1:u≤10007):areQ (confQ base l n u) base=true:=by
 cases h:askOn base l n
 ·rw [confQ_no h];exact hq
 obtain ⟨h1,h2,h3,h4⟩:=areQ_iff.1 hq
 have hk:=askOn_lt h
 have hn:l[askAt base l n].number=n:=by rw [askOn_at hk] at h;simpa using h
 have ho:=okReq_iff.1 (h3 _ (List.getElem_mem hk))
 rw [confQ_yes h]
 have hnum:∀i (h:i < (l.set (askAt base l n) ⟨n,3,u,l[askAt base l n].tries⟩).length),(l.set (askAt base l n) ⟨n,3,u,l[askAt base l n].tries⟩)[i].number=(l[i]'(by simpa using h)).number:=fun i h=>by
  rw [List.getElem_set]
  split
  ·rename_i e;subst e;exact hn.symm
  ·rfl
 refine areQ_iff.2 ⟨h1,by simpa using h2,fun r hr=>?_,?_⟩
 ·have gn:=ho.n
  have gg:=ho.g
  rw [hn] at gn gg
  rcases List.mem_or_eq_of_mem_set hr with h|rfl
  ·exact h3 r h
  ·exact okReq_iff.2 ⟨gn,gg,by show (1:Int)≤3;decide,by show (3:Int)≤3;decide,u0,u1,ho.t0,ho.t1⟩
 ·refine List.pairwise_iff_getElem.2 fun i j hi hj hij=>?_
  rw [hnum i hi,hnum j hj]
  exact List.pairwise_iff_getElem.1 h4 i j _ _ hij
theorem mem_confQ {base n u:Int} {l:List Request} {q:Request} (h:q∈confQ base l n u):∃r∈l,r.number=q.number:=by
 cases h2:askOn base l n
 ·rw [confQ_no h2] at h;exact ⟨q,h,rfl⟩
 have hk:=askOn_lt h2
 have hn:l[askAt base l n].number=n:=by rw [askOn_at hk] at h2;simpa using h2
 rw [confQ_yes h2] at h
 rcases List.mem_or_eq_of_mem_set h with h|rfl
 ·exact ⟨q,h,rfl⟩
 ·exact ⟨_,List.getElem_mem hk,hn⟩
def startW (r:Receiver) (p:Packet):ReceiveWindow:=if r.started then r.window else ⟨if p.kind=5 then p.lead else p.number,r.window.slots⟩
def takenW (r:Receiver) (p:Packet):ReceiveWindow:=if p.kind=5 then startW r p else takeW (startW r p) p.number p.data
def takenE (r:Receiver) (p:Packet):List ByteArray:=if p.kind=5 then [] else takeE (startW r p) p.number p.data
def skipW (w:ReceiveWindow) (t:Int):ReceiveWindow:=if bef w.next t then (if gp w.next t≤8 then movedW w t else ⟨t,[]⟩) else w
def skipE (w:ReceiveWindow) (t:Int):List ByteArray:=if bef w.next t then (if gp w.next t≤8 then movedE w t else [⟨#[33]⟩]) else []
def newsW (r:Receiver) (p:Packet):ReceiveWindow:=skipW (takenW r p) p.trail
def newsE (r:Receiver) (p:Packet):List ByteArray:=takenE r p++skipE (takenW r p) p.trail
def addAll (base u:Int) (l:List Request) (ns:List Int):List Request:=ns.foldl (fun l n=>addQ base l n u) l
def awaitN (w:ReceiveWindow) (lead:Int):Nat:=(min (gp w.next lead) 8).toNat
def awaitQ (w:ReceiveWindow) (l:List Request) (lead u:Int):List Request:=if bef w.next lead then addAll w.next u l (missL w (awaitN w lead)) else l
def newsR (r:Receiver) (p:Packet) (d:Int):Receiver:=⟨true,r.clock,newsW r p,awaitQ (newsW r p) (needed r.requests (newsW r p)) p.lead (r.clock+d)⟩
def isNews (p:Packet):Bool:=decide (p.kind=1) || decide (p.kind=2) || decide (p.kind=5)
def confR (r:Receiver) (p:Packet):Receiver:=⟨r.started,r.clock,r.window,confQ r.window.next r.requests p.number (r.clock+4)⟩
def hearR (r:Receiver) (p:Packet) (d:Int):Receiver:=if isNews p then newsR r p d else if decide (p.kind=4) && r.started then confR r p else r
def hearE (r:Receiver) (p:Packet):List ByteArray:=if isNews p then newsE r p else []
theorem take_good {w:ReceiveWindow} {n:Int} {s:ByteArray} (hg:goodRW w=true) (hn:isSer n=true) (hs:itm s=true):goodRW (takeW w n s)=true∧(∃m:Nat,m≤8∧(takeW w n s).next=aft w.next m)∧(takeE w n s).length≤8:=by
 obtain ⟨w0,w1⟩:=next_ser hg
 cases ht:takeOk w n
 ·have e:(takeNo w n || !decide (gp w.next n < 8))=true:=by unfold takeOk at ht;simp only [Bool.or_eq_false_iff] at ht;rw [ht.1,ht.2];rfl
  have e1:takeW w n s=w:=by unfold takeW;rw [if_pos e]
  have e2:takeE w n s=[]:=by unfold takeE;rw [if_pos e]
  rw [e1,e2]
  exact ⟨hg,⟨0,by omega,(aft_zeroN w0 w1).symm⟩,by simp⟩
 ·have hok:okTakeItem w n s=true:=by unfold okTakeItem;rw [hg,hn,hs,ht];rfl
  have h:=law_take w n s (by unfold resTakeItem;rw [hok];rfl)
  rw [show resTakeItem w n s=(takeW w n s,takeE w n s,true) by unfold resTakeItem;rw [hok];rfl] at h
  obtain ⟨-, -,h3,h4, -, -,h7, -⟩:=h
  dsimp only at h3 h4 h7
  refine ⟨h3,⟨_,h7,?_⟩,h7⟩
  obtain ⟨v0,v1⟩:=next_ser h3
  rw [←h4]
  unfold aft gp at *;omega
theorem start_good {r:Receiver} {p:Packet} (hg:GoodR r) (hp:goodPk p=true):goodRW (startW r p)=true∧(r.started=true→startW r p=r.window):=by
 unfold startW
 unfold goodPk at hp
 simp only [Bool.and_eq_true] at hp
 cases hs:r.started
 ·refine ⟨?_,fun h=>by cases h⟩
  rw [(hg.z hs).1]
  simp only [Bool.false_eq_true,if_false]
  unfold goodRW
  split
  ·rw [hp.1.1.1.2];rfl
  ·rw [hp.1.1.1.1.1.2];rfl
 ·exact ⟨hg.w,fun _=>rfl⟩
theorem taken_good {r:Receiver} {p:Packet} (hg:GoodR r) (hp:goodPk p=true):goodRW (takenW r p)=true∧(∃m:Nat,m≤8∧(takenW r p).next=aft (startW r p).next m)∧(takenE r p).length≤8:=by
 have h1:=(start_good hg hp).1
 obtain ⟨w0,w1⟩:=next_ser h1
 unfold takenW takenE
 split
 ·exact ⟨h1,⟨0,by omega,(aft_zeroN w0 w1).symm⟩,by simp⟩
 ·unfold goodPk at hp
  simp only [Bool.and_eq_true] at hp
  exact take_good h1 hp.1.1.1.1.1.2 hp.1.1.2
theorem skip_good {w:ReceiveWindow} {t:Int} (hg:goodRW w=true) (ht:isSer t=true):goodRW (skipW w t)=true∧(∃m:Nat,m≤32767∧(skipW w t).next=aft w.next m)∧(skipE w t).length≤16:=by
 obtain ⟨w0,w1⟩:=next_ser hg
 obtain ⟨t0,t1⟩:=isSer_iff.1 ht
 unfold skipW skipE
 cases hb:bef w.next t
 ·exact ⟨hg,⟨0,by omega,(aft_zeroN w0 w1).symm⟩,by simp⟩
 ·simp only [if_true]
  split
  ·obtain ⟨e1,e2,e3,e4⟩:=moved_at (t:=t) hg
   have:=@stepsN_gp w.next t
   exact ⟨giveUp_good _ _ hg,⟨_,by omega,e1⟩,by omega⟩
  ·refine ⟨by unfold goodRW;rw [ht];rfl,⟨(gp w.next t).toNat,?_,?_⟩,by simp⟩
   ·unfold bef btw at hb;simp only [Bool.and_eq_true,decide_eq_true_eq] at hb;omega
   ·have:=gp_bd w.next t
    show t=_
    unfold aft gp at *;omega
theorem needed_good {l:List Request} {b:Int} {w:ReceiveWindow} {m:Nat} (hm:m≤65528) (hq:areQ l b=true) (hw:goodRW w=true) (e:w.next=aft b m):areQ (needed l w) w.next=true:=by
 obtain ⟨h1,h2,h3,h4⟩:=areQ_iff.1 hq
 obtain ⟨b0,b1⟩:=isSer_iff.1 h1
 have key:∀q∈l,gp w.next q.number < 8→gp w.next q.number=gp b q.number - m:=fun q hq h=>by
  have ho:=okReq_iff.1 (h3 q hq)
  obtain ⟨n0,n1⟩:=isSer_iff.1 ho.n
  have:=ho.g
  rw [e] at h ⊢
  unfold gp aft at *;omega
 have hin:∀q∈needed l w,q∈l∧gp w.next q.number < 8:=fun q hq=>by
  unfold needed at hq
  rw [List.mem_filter] at hq
  simp only [Bool.and_eq_true,decide_eq_true_eq] at hq
  exact ⟨hq.1,hq.2.2⟩
 refine areQ_iff.2 ⟨isSer_iff.2 (next_ser hw),Nat.le_trans (List.length_filter_le _ _) h2,fun q hq=>?_,?_⟩
 ·obtain ⟨a,c⟩:=hin q hq
  have ho:=okReq_iff.1 (h3 q a)
  exact okReq_iff.2 ⟨ho.n,c,ho.s0,ho.s1,ho.u0,ho.u1,ho.t0,ho.t1⟩
 ·have h5:(needed l w).Pairwise fun a b'=>gp b a.number < gp b b'.number:=h4.sublist List.filter_sublist
  refine h5.imp_of_mem fun ha hb h=>?_
  rw [key _ (hin _ ha).1 (hin _ ha).2,key _ (hin _ hb).1 (hin _ hb).2];omega
theorem needed_free {l:List Request} {w:ReceiveWindow}:∀q∈needed l w,hasB w q.number=false:=fun q hq=>by
 unfold needed at hq
 rw [List.mem_filter] at hq
 simp only [Bool.and_eq_true,Bool.not_eq_true',Bool.or_eq_false_iff] at hq
 exact hq.2.1.2
theorem missL_at {w:ReceiveWindow} {k:Nat} (hk:k≤8) {n:Int} (h:n∈missL w k):isSer n=true∧gp w.next n < 8∧hasB w n=false:=by
 unfold missL spanL at h
 obtain ⟨h1,h2⟩:=List.mem_filter.1 h
 obtain ⟨i,hi,rfl⟩:=List.mem_map.1 h1
 rw [List.mem_range] at hi
 refine ⟨aft_ser _ _,?_,by simpa using h2⟩
 unfold gp aft;omega
theorem addAll_good {w:ReceiveWindow} {u:Int} (u0:0≤u) (u1:u≤10007):∀(ns:List Int) (l:List Request),(∀n∈ns,isSer n=true∧hasB w n=false)→areQ l w.next=true→(∀q∈l,hasB w q.number=false)→areQ (addAll w.next u l ns) w.next=true∧∀q∈addAll w.next u l ns,hasB w q.number=false
 | [],l,_,h2,h3=>⟨h2,h3⟩
 | n::ns,l,h1,h2,h3=>by
  obtain ⟨a,b⟩:=h1 n (by simp)
  refine addAll_good u0 u1 ns (addQ w.next l n u) (fun n hn=>h1 n (by simp [hn])) (addQ_good h2 a u0 u1) fun q hq=>?_
  rcases mem_addQ hq with h|h
  ·exact h3 q h
  ·rw [h];exact b
theorem addAll_succ {base u:Int} {l:List Request} {ns:List Int} {k:Nat} (h:k < ns.length):addAll base u l (ns.take (k+1))=addQ base (addAll base u l (ns.take k)) ns[k] u:=by
 unfold addAll
 rw [List.take_add_one,List.getElem?_eq_getElem h,List.foldl_append];rfl
theorem awaitN_le (w:ReceiveWindow) (t:Int):awaitN w t≤8:=by unfold awaitN;omega
theorem news_good {r:Receiver} {p:Packet} {d:Int} (hg:GoodR r) (hp:goodPk p=true) (d0:1≤d) (d1:d≤8) (hk:r.clock+d≤10007):goodRW (newsW r p)=true∧areQ (needed r.requests (newsW r p)) (newsW r p).next=true∧GoodR (newsR r p d)∧(newsE r p).length≤24:=by
 obtain ⟨a1,a2⟩:=start_good hg hp
 obtain ⟨b1,⟨m,hm,em⟩,b3⟩:=taken_good hg hp
 have htr:isSer p.trail=true:=by unfold goodPk at hp;simp only [Bool.and_eq_true] at hp;exact hp.1.1.1.1.2
 obtain ⟨c1,⟨k,hk2,ek⟩,c3⟩:=skip_good b1 htr
 have hk0:=hg.k0
 have hq:areQ (needed r.requests (newsW r p)) (newsW r p).next=true:=by
  cases hs:r.started
  ·rw [(hg.z hs).2]
   exact (areQ_iff (l:=[])).2 ⟨isSer_iff.2 (next_ser c1),Nat.zero_le 8,fun r hr=>(by cases hr),List.Pairwise.nil⟩
  ·refine needed_good (m:=m+k) (by omega) hg.q c1 ?_
   show (newsW r p).next=_
   rw [show (newsW r p).next=aft (takenW r p).next k from ek,em,a2 hs,aft_add]
 have hn:newsW r p=skipW (takenW r p) p.trail:=rfl
 refine ⟨c1,hq,⟨hg.k0,hg.k1,c1,?_,?_,fun h=>by cases h⟩,by unfold newsE;rw [List.length_append];omega⟩
 ·show areQ (awaitQ (newsW r p) (needed r.requests (newsW r p)) p.lead (r.clock+d)) (newsW r p).next=true
  unfold awaitQ
  split
  ·exact (addAll_good (by omega) (by omega) _ _ (fun n hn=>⟨(missL_at (awaitN_le _ _) hn).1,(missL_at (awaitN_le _ _) hn).2.2⟩) hq needed_free).1
  ·exact hq
 ·show ∀q∈awaitQ (newsW r p) (needed r.requests (newsW r p)) p.lead (r.clock+d),hasB (newsW r p) q.number=false
  unfold awaitQ
  split
  ·exact (addAll_good (by omega) (by omega) _ _ (fun n hn=>⟨(missL_at (awaitN_le _ _) hn).1,(missL_at (awaitN_le _ _) hn).2.2⟩) hq needed_free).2
  ·exact needed_free
theorem hear_good {r:Receiver} {p:Packet} {d:Int} (hg:GoodR r) (hp:goodPk p=true) (d0:1≤d) (d1:d≤8):GoodR (hearR r p d)∧(hearE r p).length≤24:=by
 have hk1:=hg.k1
 have hk0:=hg.k0
 unfold hearR hearE
 split
 ·exact ⟨(news_good hg hp d0 d1 (by omega)).2.2.1,(news_good hg hp d0 d1 (by omega)).2.2.2⟩
 ·refine ⟨?_,by simp⟩
  split
  ·rename_i h
   simp only [Bool.and_eq_true,decide_eq_true_eq] at h
   refine ⟨hk0,hk1,hg.w,confQ_good hg.q (by omega) (by omega),fun q hq=>?_,fun hs=>?_⟩
   ·obtain ⟨r',hr,e⟩:=mem_confQ hq
    show hasB r.window q.number=false
    rw [←e];exact hg.f r' hr
   ·have:r.started=false:=hs
    rw [h.2] at this;cases this
  ·exact hg
end Go.Proofs.YtgmbfohkpfineaaGreatDoor
