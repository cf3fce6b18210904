/- Part 2 of the proof: 49 texts, one behind the other. -/
import Derived.Test.YtaemjogbahcbcaaGreatDoorShelf
import Derived.Lib.Overlaps
import Derived.Lib.AppendZerosOnto
import Derived.Laws.IdiomCopy
import Derived.Deep.RegionLaw
import Derived.Test.YtaemjogbahcbcaaGreatDoorM1
open _root_.Go.Proofs.Tryz
set_option maxRecDepth 100000
set_option maxHeartbeats 8000000
set_option linter.all false
set_option linter.unusedVariables false
set_option linter.unusedSimpArgs false
namespace Go.Proofs.YtaemjogbahcbcaaGreatDoor
open Go.RowKit
theorem Ea {A B:List Nat} (h:(A++B).Nodup) {b:Nat} (ha:b∈A) (hb:b∈B):False:=(List.nodup_append.1 h).2.2 b ha b hb rfl
section
variable {c:Cx} {fr:Fr} {H:List Pc} {k:List It} {Φ:Gl} {ops:Array Oper} {rest:List Oper} {d:Nat} {o:Op} {ty:TypeId} {pos:String} {Cg:Array Edge} {v u:Value} {x y:Operand}
theorem ap {α:Type} {E:Bv α} {t e m b:Nat} {z:Value} [hS:SlC c.P t e m] [hE:ElT c.P e z m b] {xs ys:List α} {F Fy:List Nat} {ao:Option Addr} {n cp:Nat} {gd:Option (Nat × Bool)} {R S:List Pc} (one:W0 E) (hz:0 < E.sz) (hm:E.sz=m)
  (hp:C0 H (.ow E e v xs F) R) (hx:ev fr x=some v) (hy:ev fr y=some (.slice ao n cp)) (hn:n=ys.length)
  (hsrc:∀w,St c.G c.D c.w0 (.ow E e v xs F::R) w→∃news,Cw E w news ys Fy∧((ao=none∧cp=0∧ys=[])∨∃ad,ao=some ad∧∀j u,news[j]?=some u→w.cell? (ad.add j)=some u)∧(∀b∈Fy,b ∉ F)∧Fy.Nodup)
  (hFy:∀w v' F',St c.G c.D c.w0 (.ow E e v xs F::R) w→(∀b∈F',b∈F∨b∈Fy∨b=w.heap.size)→∀w',Dy F w w'→(Pc.ow E e v' (xs++ys) F').P w'→St c.G c.D c.w0 (.ow E e v' (xs++ys) F'::S) w')
  (h63:xs.length+ys.length≤maxLen) (hby:(xs.length+ys.length) * b≤140737488355328)
  (h:∀a' c' F',T c ((d,.slice a' (xs++ys).length c')::fr) (.ow E e (.slice a' (xs++ys).length c') (xs++ys) F'::S) Φ) (hd:Nat.blt d c.n=true) :
  Ef c fr H ⟨some d,.call { callee:=.builtin .append,args:=#[x,y],argTypes:=#[t,t] },ty,pos,Cg,gd⟩ Φ:=.mk fun Q a w s g=>by
 have s1:=s.pick hp
 obtain ⟨hnd,how⟩:=s1.on (.ow E e v xs F) (by simp)
 obtain ⟨news,hfl,hsr,hdis,hny⟩:=hsrc w s1
 subst hn
 refine Agl (P:=c.P) one hz x y t rfl e z b hS.u (by rw [hE.i,hm]) (by rw [hE.s,hm]) v xs F (g.ev hx) how (Hd.of hnd) ao ys cp (g.ev hy) news Fy hfl hsr (fun b hb e=>hdis b hb (how.own_mem b e)) h63 hby fun v' w' F' hA=>?_
 obtain ⟨a',c',rfl⟩:=hA.val
 rw [←List.length_append] at hA ⊢
 have hw:=hA.ow
 exact (h a' c' F').h _ _ (hFy w _ F' s1 hA.mem w' hA.Ky ⟨hA.Ase hnd hny hdis,hw⟩) (g.put hd)
theorem Mf {α:Type} {E:Bv α} {t e m b:Nat} {z:Value} [hS:SlC c.P t e m] [hE:ElT c.P e z m b] {xs ys:List α} {F:List Nat} {g n cp tt:Nat} {cs:List Value} {R S:List Pc}
  (hfl:∀w,Cw E w cs ys []) (one:W0 E) (h:∀a' c' F',T c ((d,.slice a' (xs++ys).length c')::fr) (.ow E e (.slice a' (xs++ys).length c') (xs++ys) F'::S) Φ)
  (hx:ev fr x=some v:=by rfl) (hy:ev fr y=some (.slice (some ⟨g,0,none⟩) n cp):=by rfl) (hp:C0 H (.ow E e v xs F) R:=by exact D0) (hp2:C0 R (.row g tt 0 [] cs []) S:=by exact D0) (hn:n=ys.length:=by rfl) (hz:0 < E.sz:=by decide) (hm:E.sz=m:=by rfl)
  (h63:xs.length+ys.length≤9223372036854775807:=by simp only [List.length_cons,List.length_nil];omega) (hby:(xs.length+ys.length) * b≤140737488355328:=by simp only [List.length_cons,List.length_nil];omega) (hd:Nat.blt d c.n=true:=by rfl) :
  On c fr H (some d) (.call { callee:=.builtin .append,args:=#[x,y],argTypes:=#[t,t] }) ty Φ :=
 ⟨fun _ _ _=>ap one hz hm hp hx hy hn (Fy:=[]) (fun w s=>⟨cs,hfl w,.inr ⟨_,rfl,fun j u hu=>by
   have hr:=(s.on (.row g tt 0 [] cs []) (by simp [hp2.mem])).2
   have:=hr.cell j
   simp only [List.nil_append,List.append_nil] at this
   rw [hu] at this
   unfold Addr.add
   split
   ·rename_i e;subst e;exact this
   ·simpa using this⟩,by simp,by simp⟩)
  (fun w v' F' s hF w' hk hv=>by
   have s2:St c.G c.D c.w0 (.ow E e v xs F::S) w:=⟨s.Ky,fun q hq=>s.on q (by rcases List.mem_cons.1 hq with rfl|hq;simp;simp [hp2.sub q hq]),⟨fun q hq=>s.Zr.1 q (hp2.sub q hq),(hp2.Zr s.Zr.2).2⟩,fun q hq=>s.Wi q (by rcases List.mem_cons.1 hq with rfl|hq;simp;simp [hp2.sub q hq])⟩
   exact St.turn (M:=[.ow E e v xs F]) (N:=[.ow E e v' (xs++ys) F']) s2 (by simpa [List.filter,Pc.mu,fp,Pc.F] using hk) (by intro q hq;simp at hq;subst hq;exact hv) ⟨by simp,trivial⟩ (by
    intro q hq b hb
    simp at hq;subst hq
    rcases hF b hb with h|h|h
    ·exact .inr (.inl ⟨.ow E e v xs F,by simp,rfl,h⟩)
    ·simp at h
    ·exact .inl (by omega)))
  (by unfold maxLen;exact h63) hby h hd⟩
theorem Lx {α:Type} {E:Bv α} {t e m b:Nat} {z:Value} [hS:SlC c.P t e m] [hE:ElT c.P e z m b] {xs ys:List α} {F G:List Nat} {ao:Option Addr} {n cp:Nat} {R:List Pc}
  (one:W0 E) (sc:∀{w cs x F},E.Ka w cs x F→F=[]) (h:∀a' c' F',T c ((d,.slice a' (xs++ys).length c')::fr) (.ow E e (.slice a' (xs++ys).length c') (xs++ys) F'::R) Φ)
  (hx:ev fr x=some v:=by rfl) (hy:ev fr y=some (.slice ao n cp):=by rfl) (hp:C0 H (.ow E e v xs F) R:=by exact D0) (hp2:.sl E (.slice ao n cp) ys G∈R:=by exact B8) (hn:n=ys.length:=by rfl) (hz:0 < E.sz:=by decide) (hm:E.sz=m:=by rfl)
  (h63:xs.length+ys.length≤9223372036854775807:=by first|omega|(simp only [List.length_cons,List.length_nil];omega)) (hby:(xs.length+ys.length) * b≤140737488355328:=by first|omega|(simp only [List.length_cons,List.length_nil];omega)) (hd:Nat.blt d c.n=true:=by rfl) :
  On c fr H (some d) (.call { callee:=.builtin .append,args:=#[x,y],argTypes:=#[t,t] }) ty Φ :=
 have flat0:∀{w cs zs G},Cw E w cs zs G→G=[]:=fun {w cs zs G}=>by
  induction zs generalizing cs G with
  | nil=>intro h;exact h.2
  | cons z r ih=>intro h;obtain ⟨c1,c2,F1,F2,_,rfl,h1,h2⟩:=h;rw [sc h1,ih h2];rfl
 ⟨fun _ _ _=>ap one hz hm hp hx hy hn (Fy:=[]) (fun w s=>by
   obtain ⟨-,hs⟩:=s.on (.sl E (.slice ao n cp) ys G) (by simp [hp2])
   obtain ⟨ao',cc,news,Fy,he, -,hfy, -,hsrc⟩:=hs.src
   simp only [Value.slice.injEq] at he
   obtain ⟨rfl, -,rfl⟩:=he
   obtain rfl:=flat0 hfy
   exact ⟨news,hfy,hsrc,by simp,by simp⟩)
  (fun w v' F' s hF w' hk hv=>St.turn (M:=[.ow E e v xs F]) (N:=[.ow E e v' (xs++ys) F']) s (by simpa [List.filter,Pc.mu,fp,Pc.F] using hk) (by intro q hq;simp at hq;subst hq;exact hv) ⟨by simp,trivial⟩ (by
    intro q hq b hb
    simp at hq;subst hq
    rcases hF b hb with h|h|h
    ·exact .inr (.inl ⟨.ow E e v xs F,by simp,rfl,h⟩)
    ·simp at h
    ·exact .inl (by omega)))
  (by unfold maxLen;exact h63) hby h hd⟩
/-! parts of slices that read -/
theorem X4 {P:Program} {t e m:Nat} (hS:SlC P t e m):P.elem t=e:=by simp [Program.elem,hS.u]
theorem sld {α:Type} {E:Bv α} {t e m:Nat} [hS:SlC c.P t e m] {a:Option Addr} {n cp:Nat} {xs:List α} {F:List Nat} {i:Int} (j:Nat) (h:∀a' c' F',T c ((d,.slice a' (xs.drop j).length c')::fr) (.sl E (.slice a' (xs.drop j).length c') (xs.drop j) F'::H) Φ)
  (hx:ev fr x=some (.slice a n cp):=by rfl) (hy:ev fr y=some (.int .i64 i):=by rfl) (hm:.sl E (.slice a n cp) xs F∈H:=by exact B8) (hi:i=(j:Int):=by first|rfl|omega) (hj:j≤xs.length:=by omega) (he:E.sz=m:=by rfl) (hd:Nat.blt d c.n=true:=by rfl):On c fr H (some d) (.slice t x (some y) none none) ty Φ:=⟨fun pos Cg gd=>Ni fun Q ac w s g=>by
 subst hi
 obtain ⟨hz,hs⟩:=s.get hm
 have he2:=X4 hS
 obtain ⟨a2,c2,F',hr,hF,h2⟩:=hs.dropS t (by rw [he2];exact hS.u) j hj (fun W=>by rw [he2,he];exact Ki hS.s W)
 have e1:(execOp ac.eval ⟨some d,.slice t x (some y) none none,ty,pos,Cg,gd⟩).run c.P w=.ok (.value (.slice a2 (xs.drop j).length c2)) w:=by
  simp [execOp,g.ev hx,g.ev hy,hr]
 rw [e1]
 rw [←List.length_drop] at h2
 exact (h a2 c2 F').h _ w (s.ro hm rfl rfl ⟨hz,h2⟩ hF) (g.put hd)⟩
/-! one element of an owned slice, of elements without blocks of their own -/
def Aj8 {α:Type} (E:Bv α) (t:TypeId) (g:Nat) (v:Value) (xs:List α) (i:Nat) (A B:List Value):Prop:=∀w cs y,Hm w g t (A++cs++B)→E.Ka w cs y []→Ow E t w v (xs.set i y) [g]
theorem N6 {α:Type} {E:Bv α} {t:TypeId} {a:Option Addr} {n cp m:Nat} {xs:List α} {F:List Nat} {S:List Pc} (sc:U1 E) (i:Nat) (h:∀(_:i < xs.length) g A cs B,a=some ⟨g,0,none⟩→F=[g]→(∀w,E.Ka w cs xs[i] [])→Aj8 E t g (.slice (some ⟨g,0,none⟩) n cp) xs i A B→T c fr (.row g t (0+i * m) A cs B::S) Φ)
  (hp:C0 H (.ow E t (.slice a n cp) xs F) S) (hm:E.sz=m) (hi:i < xs.length):T c fr H Φ:=.mk fun ac w s g=>by
 have z1:=s.pick hp
 obtain ⟨-,ho⟩:=z1.on (.ow E t (.slice a n cp) xs F) (by simp)
 obtain ⟨g0,cap,A,cs,B,G1,Fi,G2,hv,hr,hA, -,hx,rfl, -,hW⟩:=ho.focus i hi
 cases hv
 obtain rfl:=sc hx
 have hG:∀b,b ∉ G1++G2:=by
  intro b hb
  have:=ho.scal sc
  simp only [Value.ownBlock,Option.toList_some,List.append_nil,List.cons.injEq,true_and] at this
  rw [this] at hb;simp at hb
 have hG0:G1++G2=[]:=List.eq_nil_iff_forall_not_mem.2 hG
 subst hm
 refine (h hi g0 A cs B rfl (by simpa using hG0) (fun w'=>E.frame hx (by simp)) (fun w' c' y hr' hy=>?_)).h ac w (z1.conv rfl ⟨by omega,hr⟩ (by intro b hb;simp [Pc.F] at hb;subst hb;simp [Pc.F])) g
 have:=hW w' c' y [] hr' hy (fun b hb=>absurd hb (hG b))
 simpa [hG0] using this
theorem Nd {α:Type} {E:Bv α} {t:TypeId} {g o:Nat} {v:Value} {xs:List α} {i:Nat} {A cs B:List Value} {S:List Pc} (y:α) (hh:Aj8 E t g v xs i A B) (hy:∀w,E.Ka w cs y []) (h:T c fr (.ow E t v (xs.set i y) [g]::S) Φ) (hp:C0 H (.row g t o A cs B) S:=by exact D0):T c fr H Φ:=.mk fun ac w s ag=>by
 have z1:=s.pick hp
 obtain ⟨-,hr⟩:=z1.on (.row g t o A cs B) (by simp)
 exact h.h ac w (z1.conv rfl ⟨by simp,hh w cs y hr (hy w)⟩ (fun b hb=>hb)) ag
/-! calls by the elder contracts -/
theorem cn {α:Type} {E:Bv α} {t:TypeId} {xs:List α} {f:Nat} {vs:List Value} (hc:∀w,St c.G c.D c.w0 H w→Calls c.P f vs.toArray w (Vz E t xs w)) (h:∀a cp F,T c ((d,.slice a xs.length cp)::fr) (.ow E t (.slice a xs.length cp) xs F::H) Φ):Cl c fr H d f vs Φ :=
 Xa hc (fun w e w' s hR=>by
  obtain ⟨v,F,he,ho,hn,hF,hB⟩:=hR
  obtain ⟨a,cp,rfl⟩:=ho.slice
  exact ⟨_,he,fun ac g=>(h a cp F).h ac w' (s.add (N:=[.ow E t (.slice a xs.length cp) xs F]) hB (by intro q hq;simp at hq;subst hq;exact ⟨hn,ho⟩) ⟨by simp,trivial⟩ (by intro q hq b hb;simp at hq;subst hq;exact .inl (hF b hb))) g⟩)
theorem cr {α:Type} {E:Bv α} {z:α} {f:Nat} {vs:List Value} (hc:∀w,St c.G c.D c.w0 H w→Calls c.P f vs.toArray w (Ar1 E z w)) (h:∀v F,T c ((d,v)::fr) (.isv E v z F::H) Φ):Cl c fr H d f vs Φ :=
 Xa hc (fun w e w' s hR=>by
  obtain ⟨v,F,he,ho,hF,hB⟩:=hR
  exact ⟨_,he,fun ac g=>(h v F).h ac w' (s.add (N:=[.isv E v z F]) hB (by intro q hq;simp at hq;subst hq;exact ho) ⟨by simp,trivial⟩ (by intro q hq b hb;simp at hq;subst hq;exact .inl (hF b hb))) g⟩)
theorem cv {α:Type} {E:Bv α} {z:α} {f:Nat} {vs:List Value} (hc:∀w,St c.G c.D c.w0 H w→Calls c.P f vs.toArray w (Akj E z w)) (h:∀v F,T c ((d,v)::fr) (.own E v z F::H) Φ):Cl c fr H d f vs Φ :=
 Xa hc (fun w e w' s hR=>by
  obtain ⟨v,F,he,ho,hn,hF,hB⟩:=hR
  exact ⟨_,he,fun ac g=>(h v F).h ac w' (s.add (N:=[.own E v z F]) hB (by intro q hq;simp at hq;subst hq;exact ⟨hn,ho⟩) ⟨by simp,trivial⟩ (by intro q hq b hb;simp at hq;subst hq;exact .inl (hF b hb))) g⟩)
/-! regions that draw their order -/
inductive Nth:List Pc→Nat→Pc→Prop
 | zero {p R}:Nth (p::R) 0 p
 | succ {x p R i}:Nth R i p→Nth (x::R) (i+1) p
inductive Sel (H:List Pc):List Nat→List Pc→Prop
 | nil:Sel H [] []
 | cons {i is p R}:Nth H i p→Sel H is R→Sel H (i::is) (p::R)
theorem Nth.mem {H i p} (h:Nth H i p):p∈H:=by
 induction h with
 | zero=>simp
 | succ _ ih=>simp [ih]
variable {H0:List Pc} {X:List Nat} {f:Nat} {listed:Array Bool}
theorem As {id:Nat} {l:List Oper} (is X:List Nat) (h:T c fr H (.dx k H0 X l.toArray l.length (Array.replicate l.length false))) (_hsel:Sel H is H0:=by repeat constructor) (hm:c.P.follows .mixedOrders=true:=by kernel_rfl):T c fr H (.Br k (Code.region id l.toArray true)):=.mk fun a w s g=>by
 refine C4.start (S:=Nf H0) (X:=fun i=>X.contains i) hm ?_
 have:=h.h a w.drew (s.below (Ek (Below.refl _ _) 1)) g
 simpa [Gl.sem] using this
def Uz (c:Cx):Prop:=∀ch d v a w,c.R (.panic ch) (Act.put a d v) w→c.R (.panic ch) a w
theorem Xo {P:Program} {D G:List Nat} {w0:World} {n:Nat} {fn:Func} {R:Ending→World→Prop}:Uz ⟨P,G,D,w0,n,bodyPost P fn R⟩:=fun ch d v a w h=>by
 cases d <;> exact h
theorem dt (i:Nat) (h:T c ((d,v)::fr) H (.dx k H0 X ops f (listed.setIfInBounds i true))) (ho:ops[i]?=some ⟨some d,o,ty,pos,Cg,none⟩:=by rw [List.getElem?_toArray];rfl) (hy:Yd c.P c.n fr H0 o ty v:=by exact ydE) (hs:Mu H0 H:=by repeat (first|exact Mu.nil|refine Mu.cons (by exact B8) ?_))
  (h1:Region.noSelect ops=true:=by kernel_rfl) (h2:Region.free .any ops listed i=true:=by kernel_rfl) (h3:(Region.ready .any ops listed).contains i=true:=by kernel_rfl) (h4:Of .any ops (fun i=>X.contains i) i=true:=by kernel_rfl) (h5:Ou .any ops listed=true:=by kernel_rfl) (hR:Uz c:=by exact Xo) (hd:Nat.blt d c.n=true:=by rfl) :
  T c fr H (.dx k H0 X ops (f+1) listed):=.mk fun a w s g =>
 C4.take (v:=v) ho h1 h2 h3 h4 h5 (fun ch a w hp=>by rw [Jz] at hp ⊢;exact hR _ _ _ _ _ hp) (.inl ⟨rfl,fun w' hw'=>hy.h a w' _ _ _ _ g hw'⟩) (fun p hp=>s.on p (hs.all p hp)) (h.h _ _ s (g.put hd))
theorem Afl (i j:Nat) {α:Type} {E:Bv α} {t e m:Nat} [hS:SlC c.P t e m] {a:Option Addr} {n cp:Nat} {xs:List α} {F:List Nat} {z:Int} (h:∀a' c' F',T c ((d,.slice a' (xs.drop j).length c')::fr) (.sl E (.slice a' (xs.drop j).length c') (xs.drop j) F'::H) (.dx k H0 X ops f (listed.setIfInBounds i true))) (ho:ops[i]?=some ⟨some d,.slice t x (some y) none none,ty,pos,Cg,none⟩:=by rw [List.getElem?_toArray];rfl)
  (hx:ev fr x=some (.slice a n cp):=by rfl) (hy:ev fr y=some (.int .i64 z):=by rfl) (hm:.sl E (.slice a n cp) xs F∈H:=by exact B8) (hi:z=(j:Int):=by first|rfl|omega) (hj:j≤xs.length:=by omega) (he:E.sz=m:=by rfl) (hs:Mu H0 H:=by repeat (first|exact Mu.nil|refine Mu.cons (by exact B8) ?_))
  (h1:Region.noSelect ops=true:=by kernel_rfl) (h2:Region.free .any ops listed i=true:=by kernel_rfl) (h3:(Region.ready .any ops listed).contains i=true:=by kernel_rfl) (h4:Of .any ops (fun i=>X.contains i) i=true:=by kernel_rfl) (h5:Ou .any ops listed=true:=by kernel_rfl) (hR:Uz c:=by exact Xo) (hd:Nat.blt d c.n=true:=by rfl) :
  T c fr H (.dx k H0 X ops (f+1) listed):=.mk fun ac w s g=>by
 subst hi
 obtain ⟨hz,hs'⟩:=s.get hm
 have he2:=X4 hS
 obtain ⟨a2,c2,F',hr,hF,h2'⟩:=hs'.dropS t (by rw [he2];exact hS.u) j hj (fun W=>by rw [he2,he];exact Ki hS.s W)
 rw [←List.length_drop] at h2' hr
 refine C4.take (v:=.slice a2 (xs.drop j).length c2) ho h1 h2 h3 h4 h5 (fun ch a w hp=>by rw [Jz] at hp ⊢;exact hR _ _ _ _ _ hp) (.inl ⟨rfl,fun w' _=>?_⟩) (fun p hp=>s.on p (hs.all p hp)) ((h a2 c2 F').h _ w (s.ro hm rfl rfl ⟨hz,h2'⟩ hF) (g.put hd))
 simp only [execOp,Option.map_none,Option.map_some,g.ev hx,g.ev hy,Sem.run_bind,hr,Result.andThen_ok,Sem.run_pure]
theorem Dh (i:Nat) {j t:Nat} {b:Bool} (h:T c ((d,v)::fr) H (.dx k H0 X ops f (listed.setIfInBounds i true))) (ho:ops[i]?=some ⟨some d,o,ty,pos,Cg,some (j,b)⟩:=by rw [List.getElem?_toArray];rfl) (ht:(ops[j]?).bind (·.dst)=some t:=by rfl) (hl:Oi fr t=some (.bool b):=by rfl) (hy:Yd c.P c.n fr H0 o ty v:=by exact ydE) (hs:Mu H0 H:=by repeat (first|exact Mu.nil|refine Mu.cons (by exact B8) ?_))
  (h1:Region.noSelect ops=true:=by kernel_rfl) (h2:Region.free .any ops listed i=true:=by kernel_rfl) (h3:(Region.ready .any ops listed).contains i=true:=by kernel_rfl) (h4:Of .any ops (fun i=>X.contains i) i=true:=by kernel_rfl) (h5:Ou .any ops listed=true:=by kernel_rfl) (hR:Uz c:=by exact Xo) (hd:Nat.blt d c.n=true:=by rfl) :
  T c fr H (.dx k H0 X ops (f+1) listed):=.mk fun a w s g =>
 C4.take (v:=v) ho h1 h2 h3 h4 h5 (fun ch a w hp=>by rw [Jz] at hp ⊢;exact hR _ _ _ _ _ hp) (.inl ⟨by rw [Q2 (c:=c) ht hl g];simp,fun w' hw'=>hy.h a w' _ _ _ _ g hw'⟩) (fun p hp=>s.on p (hs.all p hp)) (h.h _ _ s (g.put hd))
theorem ds (i:Nat) {j t:Nat} {b b':Bool} (h:T c ((d,undef)::fr) H (.dx k H0 X ops f (listed.setIfInBounds i true))) (ho:ops[i]?=some ⟨some d,o,ty,pos,Cg,some (j,b)⟩:=by rw [List.getElem?_toArray];rfl) (ht:(ops[j]?).bind (·.dst)=some t:=by rfl) (hl:Oi fr t=some (.bool b'):=by rfl) (hb:(b' == b)=false:=by rfl) (hs:Mu H0 H:=by repeat (first|exact Mu.nil|refine Mu.cons (by exact B8) ?_))
  (h1:Region.noSelect ops=true:=by kernel_rfl) (h2:Region.free .any ops listed i=true:=by kernel_rfl) (h3:(Region.ready .any ops listed).contains i=true:=by kernel_rfl) (h4:Of .any ops (fun i=>X.contains i) i=true:=by kernel_rfl) (h5:Ou .any ops listed=true:=by kernel_rfl) (hR:Uz c:=by exact Xo) (hd:Nat.blt d c.n=true:=by rfl) :
  T c fr H (.dx k H0 X ops (f+1) listed):=.mk fun a w s g =>
 C4.take (v:=undef) ho h1 h2 h3 h4 h5 (fun ch a w hp=>by rw [Jz] at hp ⊢;exact hR _ _ _ _ _ hp) (.inr ⟨by rw [Q2 (c:=c) ht hl g];exact hb,rfl⟩) (fun p hp=>s.on p (hs.all p hp)) (h.h _ _ s (g.put hd))
theorem Ut (i:Nat) {j t:Nat} {b:Bool} (h:T c ((d,undef)::fr) H (.dx k H0 X ops f (listed.setIfInBounds i true))) (ho:ops[i]?=some ⟨some d,o,ty,pos,Cg,some (j,b)⟩:=by rw [List.getElem?_toArray];rfl) (ht:(ops[j]?).bind (·.dst)=some t:=by rfl) (hl:Oi fr t=some undef:=by rfl) (hs:Mu H0 H:=by repeat (first|exact Mu.nil|refine Mu.cons (by exact B8) ?_))
  (h1:Region.noSelect ops=true:=by kernel_rfl) (h2:Region.free .any ops listed i=true:=by kernel_rfl) (h3:(Region.ready .any ops listed).contains i=true:=by kernel_rfl) (h4:Of .any ops (fun i=>X.contains i) i=true:=by kernel_rfl) (h5:Ou .any ops listed=true:=by kernel_rfl) (hR:Uz c:=by exact Xo) (hd:Nat.blt d c.n=true:=by rfl) :
  T c fr H (.dx k H0 X ops (f+1) listed):=.mk fun a w s g =>
 C4.take (v:=undef) ho h1 h2 h3 h4 h5 (fun ch a w hp=>by rw [Jz] at hp ⊢;exact hR _ _ _ _ _ hp) (.inr ⟨by simp only [Region.wanted,yielded,ht,Option.bind_some,g.at_ t _ hl];rfl,rfl⟩) (fun p hp=>s.on p (hs.all p hp)) (h.h _ _ s (g.put hd))
theorem dk {i:Nat} (h:T c fr H (.dx k H0 X ops f listed)) (hs:Mu H0 H:=by repeat (first|exact Mu.nil|refine Mu.cons (by exact B8) ?_)):T c fr H (.dk i k H0 X ops f listed):=.mk fun a w s g=>⟨fun _ p hp=>s.on p (hs.all p hp),h.h a w s g⟩
theorem Ng {i:Nat} (h:T c fr H (.dx k H0 X ops f listed)) (hi:X.contains i=true:=by rfl):T c fr H (.dk i k H0 X ops f listed):=.mk fun a w s g=>⟨fun h0=>(by rw [hi] at h0;cases h0),h.h a w s g⟩
theorem d1 (i:Nat) {o:Oper} (h:Ef c fr H o (.dk i k H0 X ops f (listed.setIfInBounds i true))) (hr:Region.ready .any ops listed=[i]:=by kernel_rfl) (ho:ops[i]?=some o:=by rw [List.getElem?_toArray];rfl) (hg:o.guard=none:=by rfl):T c fr H (.dx k H0 X ops (f+1) listed):=.mk fun a w s g =>
 C4.only hr ho fun K hK=>by
  rw [if_pos (by simp [Region.wanted,hg])]
  exact Oper.wp_mono (fun a' w' h'=>hK a' w' h'.1 h'.2) (h.h _ a w s g)
theorem d1g (i:Nat) {od:Option Tmp} {j t:Nat} {b:Bool} (h:Ef c fr H ⟨od,o,ty,pos,Cg,some (j,b)⟩ (.dk i k H0 X ops f (listed.setIfInBounds i true))) (hr:Region.ready .any ops listed=[i]:=by kernel_rfl) (ho:ops[i]?=some ⟨od,o,ty,pos,Cg,some (j,b)⟩:=by rw [List.getElem?_toArray];rfl) (ht:(ops[j]?).bind (·.dst)=some t:=by rfl) (hl:Oi fr t=some (.bool b):=by rfl):T c fr H (.dx k H0 X ops (f+1) listed):=.mk fun a w s g =>
 C4.only hr ho fun K hK=>by
  rw [if_pos (by rw [Q2 (c:=c) ht hl g];simp)]
  exact Oper.wp_mono (fun a' w' h'=>hK a' w' h'.1 h'.2) (h.h _ a w s g)
theorem d2 (i j:Nat) {o o2:Oper} (h:Ef c fr H o (.dk i k H0 X ops f (listed.setIfInBounds i true))) (h':Ef c fr H o2 (.dk j k H0 X ops f (listed.setIfInBounds j true)))
  (hr:Region.ready .any ops listed=[i,j]:=by kernel_rfl) (ho:ops[i]?=some o:=by rw [List.getElem?_toArray];rfl) (ho2:ops[j]?=some o2:=by rw [List.getElem?_toArray];rfl) (hg:o.guard=none:=by rfl) (hg2:o2.guard=none:=by rfl):T c fr H (.dx k H0 X ops (f+1) listed):=.mk fun a w s g =>
 C4.two hr ho ho2 (fun K hK=>by
  rw [if_pos (by simp [Region.wanted,hg])]
  exact Oper.wp_mono (fun a' w' h'=>hK a' w' h'.1 h'.2) (h.h _ a w s g)) (fun K hK=>by
  rw [if_pos (by simp [Region.wanted,hg2])]
  exact Oper.wp_mono (fun a' w' h''=>hK a' w' h''.1 h''.2) (h'.h _ a w s g))
theorem dO (i:Nat) {od:Option Tmp} (hr:Region.ready .any ops listed=[i]) (ho:ops[i]?=some ⟨od,o,ty,pos,Cg,none⟩) (h:On c fr H od o ty (.dk i k H0 X ops f (listed.setIfInBounds i true))):T c fr H (.dx k H0 X ops (f+1) listed):=d1 i (h.h pos Cg none) hr ho rfl
theorem Ov (i j:Nat) {od od2:Option Tmp} {o2:Op} {ty2:TypeId} {pos2:String} {aft2:Array Edge} (hr:Region.ready .any ops listed=[i,j]) (ho:ops[i]?=some ⟨od,o,ty,pos,Cg,none⟩) (ho2:ops[j]?=some ⟨od2,o2,ty2,pos2,aft2,none⟩) (h:On c fr H od o ty (.dk i k H0 X ops f (listed.setIfInBounds i true))) (h':On c fr H od2 o2 ty2 (.dk j k H0 X ops f (listed.setIfInBounds j true))):T c fr H (.dx k H0 X ops (f+1) listed):=d2 i j (h.h pos Cg none) (h'.h pos2 aft2 none) hr ho ho2 rfl rfl
theorem dd (h:T c fr H (.norm k)) (hr:Region.ready .any ops listed=[]:=by kernel_rfl):T c fr H (.dx k H0 X ops f listed):=.mk fun a w s g=>C4.done hr (h.h a w s g) f
theorem ey {gd:Option (Nat × Bool)} (h:T c ((d,v)::fr) H Φ) (hy:Yd c.P c.n fr H o ty v:=by exact ydE) (hd:Nat.blt d c.n=true:=by rfl):Ef c fr H ⟨some d,o,ty,pos,Cg,gd⟩ Φ:=Apt hy hd h
end
inductive Kf (fr:Fr):List Nat→Fr→Prop
 | nil:Kf fr [] []
 | cons {t v ts r}:Oi fr t=some v→Kf fr ts r→Kf fr (t::ts) ((t,v)::r)
theorem Kf.sub {fr ts r} (h:Kf fr ts r):J4 fr r:=by
 induction h with
 | nil=>exact .nil
 | cons h _ ih=>exact .cons h ih
theorem J4.app {fr a b:Fr} (h:J4 fr a) (h2:J4 fr b):J4 fr (a++b):=by
 induction h with
 | nil=>exact h2
 | cons h _ ih=>exact .cons h ih
theorem Fc.hsub {H M R:List Pc} (h:Fc H M R):I8 H (M++R):=by
 have all:∀(H:List Pc),I8 H H:=by
  intro H
  induction H with
  | nil=>exact .nil
  | cons p H ih=>exact .cons .here ih
 induction h with
 | nil=>exact all _
 | cons hp _ ih=>exact .cons hp ih
theorem Cp {c:Cx} {fr:Fr} {H:List Pc} {k:List It} {x:Code} {σ:Type} {cst:Fr} {rest:List Pc} (ks:List Nat) (upd:σ→Fr) (chg:σ→List Pc) (C:σ→Prop) (μ:σ→Nat) (s0:σ) (h0:C s0)
  (round:∀s,C s→T c (upd s++cst) (chg s++rest) (.Br (.lp (LpN c (fun s=>upd s++cst) (fun s=>chg s++rest) C μ (μ s))::k) x)) (hk:Kf fr ks cst:=by repeat (first|exact Kf.nil|apply Kf.cons (by rfl))) (hf:J4 fr (upd s0):=by exact frE) (hH:Fc H (chg s0) rest:=by exact Zi):T c fr H (.Br k (Code.loop x)) :=
 Akq (fun s=>upd s++cst) (fun s=>chg s++rest) C μ s0 h0 round (hf.app hk.sub) hH.hsub
theorem Dv {c:Cx} {fr:Fr} {H:List Pc} {k:List It} {x:Code} {σ:Type} {cst:Fr} (ks:List Nat) (upd:σ→Fr) (C:σ→Prop) (μ:σ→Nat) (s0:σ) (h0:C s0)
  (round:∀s,C s→T c (upd s++cst) H (.Br (.lp (LpN c (fun s=>upd s++cst) (fun _=>H) C μ (μ s))::k) x)) (hk:Kf fr ks cst:=by repeat (first|exact Kf.nil|apply Kf.cons (by rfl))) (hf:J4 fr (upd s0):=by exact frE):T c fr H (.Br k (Code.loop x)) :=
 Akq (fun s=>upd s++cst) (fun _=>H) C μ s0 h0 round (hf.app hk.sub) (by
  have all:∀(H:List Pc),I8 H H:=by
   intro H
   induction H with
   | nil=>exact .nil
   | cons p H ih=>exact .cons .here ih
  exact all _)
def Jn {σ:Type} (c:Cx) (fr':σ→Fr) (H':σ→List Pc) (C:σ→Prop) (a:Act) (w:World):Prop:=∃s,C s∧St c.G c.D c.w0 (H' s) w∧Ag c.n (fr' s) a
theorem Aqe {c:Cx} {fr:Fr} {H:List Pc} {k:List It} {x:Code} {σ:Type} (fr':σ→Fr) (H':σ→List Pc) (C:σ→Prop) (h:T c fr H (.Br (.lp (Jn c fr' H' C)::k) x)) (h2:∀s,C s→T c (fr' s) (H' s) (.norm k)):T c fr H (.Br k x):=.mk fun a w s g =>
 wp_mono (h.h a w s g) fun e a' w' he=>by
  cases e with
  | normal=>obtain ⟨z,hz,hs,hg⟩:=he;exact (h2 z hz).h a' w' hs hg
  | _=>exact he
theorem Cd {c:Cx} {fr:Fr} {H:List Pc} {k:List It} {σ:Type} {fr':σ→Fr} {H':σ→List Pc} {C:σ→Prop} (s:σ) (hC:C s) (hf:J4 fr (fr' s):=by repeat (first|exact J4.nil|refine J4.cons (by rfl) ?_)) (hH:I8 H (H' s):=by repeat (first|exact I8.nil|refine I8.cons (by exact D0) ?_)):T c fr H (.norm (.lp (Jn c fr' H' C)::k)) :=
 .mk fun _ _ st g=>⟨s,hC,st.sub hH,g.sub hf⟩
theorem E6 {c:Cx} {fr:Fr} {H:List Pc} {k:List It} {x:Code} {σ:Type} {cst:Fr} {rest:List Pc} (ks rs:List Nat) (upd:σ→Fr) (chg:σ→List Pc) (C:σ→Prop) (h:T c fr H (.Br (.lp (Jn c (fun s=>upd s++cst) (fun s=>chg s++rest) C)::k) x)) (h2:∀s,C s→T c (upd s++cst) (chg s++rest) (.norm k)) (_hk:Kf fr ks cst:=by repeat (first|exact Kf.nil|apply Kf.cons (by rfl))) (_hr:Sel H rs rest:=by repeat constructor):T c fr H (.Br k x) :=
 Aqe _ _ C h h2
theorem enter {P:Program} {f:FuncId} {fn:Func} {cd:Code} {args:List Value} {A M H:List Pc} {σ:Type} {C:σ→Prop} {v:σ→Value} {N:σ→List Pc} {n:Nat} (hf:P.funcs[f]?=some fn) (hb:fn.body=some cd) (hn:fn.ntmps=n)
  (h:∀w,T ⟨P,fp M,fp A,w,n,bodyPost P fn (Abz P w A M C v N)⟩ (Adn 0 args) H (.Br [] cd))
  (hl:Nat.ble args.length n=true:=by rfl) (hmA:A.all (fun p=>!p.mu)=true:=by rfl) (hH:Afa M A H:=by repeat constructor):Fn P f args A M C v N:=by
 subst hn
 exact Ak2 hf hb (fun w=>by rw [hH.eq];exact h w) (by simpa using hl) hmA
theorem ret {P:Program} {fn:Func} {G D:List Nat} {w0:World} {n:Nat} {A M:List Pc} {σ:Type} {C:σ→Prop} {v:σ→Value} {N:σ→List Pc} {fr:Fr} {H:List Pc} {rs:List ResultVar} {vs:List Value} (s:σ) (hC:C s) (hv:Pv vs=v s)
  (hr:fn.results=rs.toArray:=by rfl) (h:Res P fr H rs vs:=by repeat (first|exact Res.nil|apply Res.tmp (by rfl)|apply Res.agg inferInstance (by rfl) (by exact B8) (by rfl)|apply Res.one inferInstance (by rfl) (by exact B8))) (hN:I8 H (N s):=by repeat (first|exact I8.nil|refine I8.cons (by exact D0) ?_)) (hG:G=fp M:=by rfl) (hD:D=fp A:=by rfl):T ⟨P,G,D,w0,n,bodyPost P fn (Abz P w0 A M C v N)⟩ fr H (.fin .ret):=Aqi s hC hr h hv hN hG hD
theorem Fn.val {P:Program} {f:FuncId} {args:List Value} {A:List Pc} {C:Unit→Prop} {v:Value} (h:Fn P f args A [] C (fun _=>v) (fun _=>[])) (w:World) (hA:Nf A w) (hm:A.all (fun p=>!p.mu)=true:=by rfl):Calls P f args.toArray w fun e w'=>e=.returned v∧Below w.heap.size w w' :=
 have hs:∀(A:List Pc),A.all (fun p=>!p.mu)=true→Px A:=by
  intro A
  induction A with
  | nil=>intro _;trivial
  | cons p A ih =>
   intro h
   simp only [List.all_cons,Bool.and_eq_true,Bool.not_eq_true'] at h
   exact ⟨fun q hq hm=>by have:=List.all_eq_true.1 h.2 q hq;simp [h.1] at hm;simp [hm] at this,ih h.2⟩
 (h w (by simpa using hA) (by simpa using hs A hm)).mono fun e w' ⟨_,_,he,_,_,hk,_⟩=>⟨he,hk.below (Nat.le_refl _) (by simp [fp])⟩
theorem Af9:∀(A:List Pc),A.all (fun p=>!p.mu)=true→Px A
 | [],_=>trivial
 | p::A,h=>by
  simp only [List.all_cons,Bool.and_eq_true,Bool.not_eq_true'] at h
  exact ⟨fun q hq hm=>by have:=List.all_eq_true.1 h.2 q hq;simp [h.1] at hm;simp [hm] at this,Af9 A h.2⟩
theorem Pc.nd {p:Pc} (hm:p.mu=true) {w:World} (h:p.P w):p.F.Nodup:=by
 cases p with
 | row g t o A cs B=>simp [Pc.F]
 | ow E t v xs F=>exact h.1
 | own E v x F=>exact h.1
 | flat E cs xs F=>exact h.1
 | _=>cases hm
theorem Agw {w:World}:∀{N:List Pc},N.all (·.mu)=true→Nf N w→Px N→(fp N).Nodup
 | [],_,_,_=>by simp [fp]
 | p::N,hm,hH,hs=>by
  simp only [List.all_cons,Bool.and_eq_true] at hm
  refine List.nodup_append.2 ⟨Pc.nd hm.1 (hH p (by simp)),Agw hm.2 (fun q hq=>hH q (by simp [hq])) hs.2,fun b hb b' hb' e=>?_⟩
  subst e
  obtain ⟨q,hq,hqb⟩:=Oj.1 hb'
  exact hs.1 q hq (by simp [hm.1]) b hb hqb
theorem Fn.made {P:Program} {f:FuncId} {args:List Value} {A:List Pc} {σ:Type} {C:σ→Prop} {v:σ→Value} {N:σ→List Pc} (h:Fn P f args A [] C v N) (w:World) (hA:Nf A w) (hN:∀s,(N s).all (·.mu)=true) (hm:A.all (fun p=>!p.mu)=true:=by rfl) :
  Calls P f args.toArray w fun e w'=>∃s,C s∧e=.returned (v s)∧Nf (N s) w'∧(fp (N s)).Nodup∧(∀b∈fp (N s),w.heap.size≤b)∧Below w.heap.size w w' :=
 (h w (by simpa using hA) (by simpa using Af9 A hm)).mono fun e w' ⟨s,hC,he,hH,hS,hk,hF⟩=>⟨s,hC,he,hH,Agw (hN s) hH hS,(fun b hb=>by
  obtain ⟨p,hp,hpb⟩:=Oj.1 hb
  rcases hF p hp b hpb with h|⟨q,hq,_⟩|⟨h,_⟩
  ·exact h
  ·simp at hq
  ·have:=List.all_eq_true.1 (hN s) p hp;rw [h] at this;cases this),hk.below (Nat.le_refl _) (by simp [fp])⟩
theorem Fn.read {P:Program} {f:FuncId} {args:List Value} {A:List Pc} {σ:Type} {C:σ→Prop} {v:σ→Value} {N:σ→List Pc} (h:Fn P f args A [] C v N) (w:World) (hA:Nf A w) (hm:A.all (fun p=>!p.mu)=true:=by rfl) :
  Calls P f args.toArray w fun e w'=>∃s,C s∧e=.returned (v s)∧Nf (N s) w'∧Below w.heap.size w w' :=
 (h w (by simpa using hA) (by simpa using Af9 A hm)).mono fun e w' ⟨s,hC,he,hH,hS,hk,hF⟩=>⟨s,hC,he,hH,hk.below (Nat.le_refl _) (by simp [fp])⟩
theorem Sf {p q:Pc} {w:World} (h:p.P w) (h2:q.P w):Nf [p,q] w:=fun r hr=>by
 simp only [List.mem_cons,List.not_mem_nil,or_false] at hr
 rcases hr with rfl|rfl <;> assumption
structure Kp (X:Prop):Prop where
 h:X
section
variable {c:Cx} {fr:Fr} {H:List Pc} {d:Nat} {ty:TypeId} {v:Value} {x:Operand} {Φ:Gl}
theorem Als {Y:Nat→Prop} {t:TypeId} {l:List Value} (hd:Nat.blt d c.n=true) (hx:ev fr x=some v) (hv:v.cells=l.toArray) (hX:Kp (∀g,Y g)) (h:∀g,Kp (Y g)→T c ((d,Ez g 0 0)::fr) (.row g t 0 [] l []::H) Φ):On c fr H (some d) (.box t x) ty Φ:=Asg hd hx hv fun g=>h g ⟨hX.h g⟩
theorem Aeg {Y:Nat→Prop} {t:TypeId} {zs:List Value} [ZC c.P t zs] (hd:Nat.blt d c.n=true) (hX:Kp (∀g,Y g)) (h:∀g,Kp (Y g)→T c ((d,Ez g 0 0)::fr) (.row g t 0 [] zs []::H) Φ):On c fr H (some d) (.alloc t) ty Φ:=Ce hd fun g=>h g ⟨hX.h g⟩
theorem Alt {Y:Nat→Prop} {t e m:Nat} [SlC c.P t e m] (hd:Nat.blt d c.n=true) (hX:Kp (∀g,Y g)) (h:∀g,Kp (Y g)→T c ((d,.slice (some ⟨g,0,none⟩) 0 0)::fr) (.row g e 0 [] [] []::H) Φ):On c fr H (some d) (.buildSlice t 0 #[]) ty Φ:=Jw hd fun g=>h g ⟨hX.h g⟩
theorem Apx {Y:Nat→Prop} {t e m b len:Nat} {z:Value} {zs cs q:List Value} {ps:List (Nat × Operand)} [SlC c.P t e m] [ElT c.P e z m b] [ZC c.P e zs] (hd:Nat.blt d c.n=true) (hlen:Nat.blt 0 len=true) (hm:Nat.blt 0 m=true) (hl:Nat.ble (len * m) 1000=true) (hc:Rpt zs len cs) (hf:Fil (fun i=>some (i * m,m)) fr cs ps q) (hX:Kp (∀g,Y g)) (h:∀g,Kp (Y g)→T c ((d,.slice (some ⟨g,0,none⟩) len len)::fr) (.row g e 0 [] q []::H) Φ) :
  On c fr H (some d) (.buildSlice t len ps.toArray) ty Φ:=Ho hd hlen hm hl hc hf fun g=>h g ⟨hX.h g⟩
end
theorem go {X:Prop} {c:Cx} {fr:Fr} {H:List Pc} {Φ:Gl} (h:X) (hs:Kp X→T c fr H Φ:=by intro hX;(repeat (first|apply Aar|apply App|(apply wO;apply oc;rfl;exact ydE)|apply Ahm|apply Alp|(apply Ape;rfl;rfl)|(apply Apc;rfl;rfl;rfl;rfl)|(apply Apf;rfl;rfl;rfl)|(apply c_t;rfl)|(apply c_f;rfl)|apply Yv|apply X3|apply Ag4|apply Akp|apply Aps|apply Ar4|apply Ar5|(apply Akv;rfl)|apply Apq|(apply wO;apply Als;rfl;rfl;rfl;exact hX;clear hX;intro _ hX)|(apply wO;apply Aeg;rfl;exact hX;clear hX;intro _ hX)|(apply wO;apply Cs;rfl;rfl;rfl;(first|exact AggC.s|exact OneC.s);rfl;exact Cu;exact Ct;rfl)|(apply wO;apply Alt;rfl;exact hX;clear hX;intro _ hX)|(apply wO;apply Apx;rfl;rfl;rfl;rfl;exact Hl;exact Hg;exact hX;clear hX;intro _ hX)|(apply wO;apply At;rfl;kernel_rfl;exact Bf)));exact hX.h):T c fr H Φ:=hs ⟨h⟩
theorem Jm {X:Prop} {c:Cx} {fr:Fr} {H:List Pc} {Φ:Gl} (h:X) (hs:Kp X→T c fr H Φ:=by intro hX;(repeat (first|apply Aar|apply App|(apply wO;apply oc;rfl;exact ydE)|apply Ahm|apply Alp|(apply Ape;rfl;rfl)|(apply Apc;rfl;rfl;rfl;rfl)|(apply Apf;rfl;rfl;rfl)|(apply c_t;rfl)|(apply c_f;rfl)|apply Yv|apply X3|apply Ag4|apply Akp|apply Aps|apply Ar4|apply Ar5|(apply Akv;rfl)|apply Apq|(apply wO;apply Als;rfl;rfl;rfl;exact hX;clear hX;intro _ hX)|(apply wO;apply Aeg;rfl;exact hX;clear hX;intro _ hX)|(apply wO;apply Cs;rfl;rfl;rfl;(first|exact AggC.s|exact OneC.s);rfl;exact Cu;exact Ct;rfl)|(apply wO;apply Alt;rfl;exact hX;clear hX;intro _ hX)|(apply wO;apply Apx;rfl;rfl;rfl;rfl;exact Hl;exact Hg;exact hX;clear hX;intro _ hX)));exact hX.h):T c fr H Φ:=hs ⟨h⟩
section
variable {c:Cx} {fr:Fr} {H:List Pc} {Φ:Gl}
theorem Co {v:Value} {x:An} {F:List Nat} (h:∀(a1:Option Addr) (c1:Nat) (F1:List Nat),v=.agg #[.int .i64 x.next,.slice a1 x.Ao.length c1]→x.Ao.length≤maxLen→T c fr (.sl Ci (.slice a1 x.Ao.length c1) x.Ao F1::H) Φ) (hm:.isv Bo v x F∈H:=by exact B8):T c fr H Φ:=.mk fun a w s g=>by
 obtain ⟨cs,rfl,v1,rfl,h1⟩:=s.get hm
 obtain ⟨a1,c1,rfl⟩:=h1.slice;have l1:=h1.len
 have t1:=s.ro (p:=.sl Ci (.slice a1 x.Ao.length c1) x.Ao F) hm rfl rfl ⟨by decide,h1⟩ fun b hb=>hb
 exact (h a1 c1 F rfl  l1).h a w t1 g
theorem Cf (x:An) {a1:Option Addr} {c1:Nat} {F1:List Nat}  (h:T c fr (.isv Bo (.agg #[.int .i64 x.next,.slice a1 x.Ao.length c1]) x (F1)::H) Φ) (m1:.sl Ci (.slice a1 x.Ao.length c1) x.Ao F1∈H:=by exact B8):T c fr H Φ:=.mk fun a w s g=>by
 have hP:Pt Bo w (.agg #[.int .i64 x.next,.slice a1 x.Ao.length c1]) x (F1):=⟨_,rfl,_,rfl,(s.get m1).2⟩
 refine h.h a w (s.add (N:=[.isv Bo (.agg #[.int .i64 x.next,.slice a1 x.Ao.length c1]) x (F1)]) (Below.refl _ _) (by intro q hq;simp at hq;subst hq;exact hP) ⟨by simp,trivial⟩ fun q hq b hb=>?_) g
 simp at hq;subst hq
 simp only [Pc.F,List.mem_append] at hb
 exact .inr ⟨rfl,_,m1,rfl,hb⟩
end
section
variable {c:Cx} {fr:Fr} {H:List Pc} {Φ:Gl}
theorem Al0 {v:Value} {x:Hq} {F:List Nat} (h:∀(_:Unit),v=.agg #[.bool x.Te,.string x.Dt]→x.Dt.size≤maxLen→T c fr (H) Φ) (hm:.isv Ci v x F∈H:=by exact B8):T c fr H Φ:=.mk fun a w s g=>by
 obtain ⟨cs,rfl,rfl,s1,rfl⟩:=s.get hm
 exact (h () rfl s1 ).h a w s g
theorem M0 {a:Option Addr} {n cp:Nat} {xs:List Hq} {F:List Nat} (i:Nat) (h:∀(hi:i < xs.length) (b o:Nat),a=some ⟨b,o,none⟩→xs[i].Dt.size≤maxLen→T c fr (.cel b (o+i * 2) [.bool xs[i].Te,.string xs[i].Dt]::H) Φ) (hm:.sl Ci (.slice a n cp) xs F∈H:=by exact B8) (hi:i < xs.length:=by omega):T c fr H Φ:=.mk fun ac w s g=>by
 obtain ⟨b,o,cs,G,ha,hrep,hG,hb,hne,hr⟩:=Tw (s.get hm) i hi
 obtain ⟨rfl,s1,rfl⟩:=hrep
 exact (h hi b o  ha s1 ).h ac w (s.ro hm rfl rfl ⟨hne,hr⟩ (by intro x hx;simp [Pc.F] at hx;subst hx;exact hb)) g
theorem Acd {t:TypeId} {a:Option Addr} {n cp:Nat} {xs:List Hq} {F:List Nat} {S:List Pc} (i:Nat) (h:∀(_:i < xs.length) g A B,a=some ⟨g,0,none⟩→F=[g]→xs[i].Dt.size≤maxLen→Aj8 Ci t g (.slice (some ⟨g,0,none⟩) n cp) xs i A B→T c fr (.row g t (0+i * 2) A [.bool xs[i].Te,.string xs[i].Dt] B::S) Φ) (hp:C0 H (.ow Ci t (.slice a n cp) xs F) S:=by exact D0) (hi:i < xs.length:=by omega):T c fr H Φ :=
 N6 Gc i (fun hi g A cs B ha hF hr hh=>by obtain ⟨rfl,s1, -⟩:=hr default;exact h hi g A B ha hF s1 hh) hp rfl hi
end
theorem A9 {x:Int}:B9 x=true↔0≤x∧x≤65535:=by unfold B9 Ig;simp
def Cg (x n:Int):Int:=(x+n) % 65536
def gp (a b:Int):Int:=(b - a) % 65536
def Pu (a b:Int):Bool:=Ig 1 (gp a b) 32767
theorem Jb (a b:Int):0≤gp a b∧gp a b≤65535:=by unfold gp;omega
theorem Ht (a b:Int):0≤Cg a b∧Cg a b≤65535:=by unfold Cg;omega
theorem Mx (a b:Int):B9 (Cg a b)=true:=A9.2 (Ht a b)
theorem Agg (z:Int):((z.tmod 65536)+65536).tmod 65536=z % 65536:=by
 rw [Int.tmod_eq_emod (a:=z.tmod 65536+65536),Int.tmod_eq_emod]
 split <;> split <;> omega
theorem Ao8 (z:Int):-65535≤z.tmod 65536∧z.tmod 65536≤65535:=by
 rw [Int.tmod_eq_emod]
 split <;> omega
theorem Ot (x n:Int) (w:World) (h0:-4611686018427387904≤x+n) (h1:x+n≤4611686018427387904) :
  Calls prog 122 #[.int .i64 x,.int .i64 n] w fun e w'=>e=.returned (.int .i64 (Cg x n))∧w=w':=by
 have hb:=Ao8 (x+n)
 have hb1:=hb.1
 have hb2:=hb.2
 clear hb
 by_cases hz:0≤x+n
 ·go_enter func122,ntmps122
  go_wp2
  go_ret
  exact ⟨L4 (by unfold Cg;omega),rfl⟩
 ·have ht:=Agg (x+n)
  have ht:=Lib.hid ht
  go_enter func122,ntmps122
  go_wp2
  go_ret
  refine ⟨L4 ?_,rfl⟩
  have:=ht.out
  rw [Int.tmod_eq_emod (a:=(x+n).tmod 65536+65536)] at this
  unfold Cg
  split at this <;> omega
theorem Mo (a b:Int) (w:World) (h0:-4611686018427387904≤b - a) (h1:b - a≤4611686018427387904) (ha:-4611686018427387904≤a) (ha':a≤4611686018427387904) :
  Calls prog 102 #[.int .i64 a,.int .i64 b] w fun e w'=>e=.returned (.int .i64 (gp a b))∧w=w':=by
 go_enter func102,ntmps102
 go_wp2_with fail
 refine (Ot b (-a) _ (by omega) (by omega)).mono ?_
 rintro e w' ⟨rfl,rfl⟩
 go_wp2_with fail
 go_ret
 exact ⟨L4 (by unfold Cg gp;omega),rfl⟩
theorem Lm (a b:Int) (w:World) (h0:-4611686018427387904≤b - a) (h1:b - a≤4611686018427387904) (ha:-4611686018427387904≤a) (ha':a≤4611686018427387904) :
  Calls prog 234 #[.int .i64 a,.int .i64 b] w fun e w'=>e=.returned (.bool (Pu a b))∧w=w':=by
 go_enter func234,ntmps234
 go_wp2_with fail
 refine (Mo a b _ h0 h1 ha ha').mono ?_
 rintro e w' ⟨rfl,rfl⟩
 go_wp2_with fail
 refine (Ie _ _ _ _).mono ?_
 rintro e w' ⟨rfl,rfl⟩
 go_wp2_with fail
 go_ret
 exact ⟨rfl,rfl⟩
theorem Fh (x n:Int) (w:World) (h0:-131072≤x+n) (h1:x+n≤4611686018427387904) :
  Calls prog 123 #[.int .i64 x,.int .i64 n] w fun e w'=>e=.returned (.int .i64 (Cg x n))∧w=w':=by
 have h2:0≤x+n+131072:=by omega
 go_enter func123,ntmps123
 go_wp2
 go_ret
 exact ⟨L4 (by unfold Cg;omega),rfl⟩
theorem H8 (a b:Int) (w:World) (h0:-65536≤b - a) (h1:b - a≤4611686018427387904) :
  Calls prog 153 #[.int .i64 a,.int .i64 b] w fun e w'=>e=.returned (.int .i64 (gp a b))∧w=w':=by
 have h2:0≤b - a+65536:=by omega
 go_enter func153,ntmps153
 go_wp2
 go_ret
 exact ⟨L4 (by unfold gp;omega),rfl⟩
theorem No (a b:Int) (w:World) (h0:-65536≤b - a) (h1:b - a≤4611686018427387904) :
  Calls prog 252 #[.int .i64 a,.int .i64 b] w fun e w'=>e=.returned (.bool (Pu a b))∧w=w':=by
 go_enter func252,ntmps252
 go_wp2_with fail
 refine (H8 a b _ h0 h1).mono ?_
 rintro e w' ⟨rfl,rfl⟩
 go_wp2_with fail
 refine (Kg _ _ _ _).mono ?_
 rintro e w' ⟨rfl,rfl⟩
 go_wp2_with fail
 go_ret
 exact ⟨rfl,rfl⟩
end Go.Proofs.YtaemjogbahcbcaaGreatDoor
namespace Go.Proofs.YtaemjogbahcbcaaGreatDoor
open Go.RowKit Go.Shelf
def low (b:UInt8):Bool:=Ig 97 b.toNat 122
def Rf (l:List UInt8):Bool:=l.all low
def Oh (s:ByteArray):Bool:=decide ((s.size:Int)≤8) && Rf s.data.toList
def abc:List UInt8:=[97,98,99,100,101,102,103,104,105,106,107,108,109,110,111,112,113,114,115,116,117,118,119,120,121,122]
theorem Anq (b:UInt8):abc.contains b=low b:=by
 have h:∀n:Fin 256,abc.contains (UInt8.ofNat n.val)=low (UInt8.ofNat n.val):=by decide +kernel
 have:=h ⟨b.toNat,b.toNat_lt⟩
 simpa using this
theorem Aah {α:Type} (p:α→Bool) (l:List α):l.dropWhile p=[]↔l.all p=true:=by
 induction l with
 | nil=>simp
 | cons x r ih=>rw [List.dropWhile_cons];cases h:p x <;> simp [h,ih]
theorem Aac {α:Type} (p:α→Bool) (l:List α):(l.dropWhile p).all p=l.all p:=by
 induction l with
 | nil=>simp
 | cons x r ih=>rw [List.dropWhile_cons];cases h:p x <;> simp [h,ih]
theorem Ajs (l cs:List UInt8):(Lib.trimS l cs=[])↔l.all (cs.contains ·)=true:=by
 unfold Lib.trimS Lib.trimLeftS Lib.trimRightS
 rw [Aah,List.all_reverse,Aac,List.all_reverse]
theorem Am3 (l:List UInt8):(Lib.trimS l abc == [])=Rf l:=by
 rw [Bool.eq_iff_iff,beq_iff_eq,Ajs]
 unfold Rf
 rw [show (fun b=>abc.contains b)=low from funext Anq]
theorem Y4 (s:ByteArray) (w:World) (hs:s.size≤maxLen) :
  Calls prog 51 #[.string s] w fun e w'=>e=.returned (.bool (Oh s))∧Below w.heap.size w w':=by
 unfold maxLen at hs
 have hc:=fun w=>Any.strings_Trim_laid Tryz.lays160 (by kernel_rfl) s ⟨abc.toArray⟩ w hs (by decide) (ascii_of_all (by decide))
 change ∀w,Calls prog 120 #[.string s,.string ⟨abc.toArray⟩] w (fun e w'=>e=.returned (.string ⟨(Lib.trimS s.data.toList abc).toArray⟩)∧Below w.heap.size w w') at hc
 have ht:=Am3 s.data.toList
 replace hc:=Lib.hid hc
 by_cases h8:s.size≤8
 ·generalize Lib.trimS s.data.toList abc=t at *
  have hi:Oh s=(t == []):=by unfold Oh;rw [ht,decide_eq_true (by omega)];rfl
  replace hi:=Lib.hid hi
  clear ht
  cases t with
  | nil =>
   go_enter func51,ntmps51
   go_wp2_with fail
   refine (hc.out _).mono ?_
   rintro e w1 ⟨rfl,hb⟩
   go_wp2_with fail
   go_ret
   exact ⟨Cn hi.out.symm,hb⟩
  | cons a r =>
   go_enter func51,ntmps51
   go_wp2_with fail
   refine (hc.out _).mono ?_
   rintro e w1 ⟨rfl,hb⟩
   go_wp2_with fail
   go_ret
   exact ⟨Cn hi.out.symm,hb⟩
 ·have hi:Oh s=false:=by unfold Oh;rw [decide_eq_false (by omega)];rfl
  replace hi:=Lib.hid hi
  go_enter func51,ntmps51
  go_wp2_with fail
  go_ret
  exact ⟨Cn hi.out.symm,Below.refl _ _⟩
theorem Ai2 (s:ByteArray) (k:Nat) (h:k < s.size):Rf (s.data.toList.drop k)=(low s[k] && Rf (s.data.toList.drop (k+1))):=by rw [Anx s k h];rfl
theorem P2 (s:ByteArray) (n:Int) (w:World) (hs:s.size≤maxLen) :
  Calls prog 86 #[.string s,.int .i64 n] w fun e w'=>e=.returned (.bool (decide ((s.size:Int)≤n) && Rf s.data.toList))∧w=w':=by
 unfold maxLen at hs
 go_enter func86,ntmps86
 go_wp2
 go_loop [5] (fun i=>∃k:Nat,k≤s.size∧i=.int .i64 k∧Hid (Rf s.data.toList=Rf (s.data.toList.drop k))) (fun i=>s.size - (intOf i).toNat)
 case atStart=>exact ⟨0,Nat.zero_le _,rfl,rfl⟩
 case round =>
  obtain ⟨k,hk,rfl,hz⟩:=hrel
  by_cases hlt:k < s.size
  ·have hz:=Lib.hid (hz.out.trans (Ai2 s k hlt))
   have hb:(s[k].toNat:Int)≤255:=by have:=s[k].toNat_lt;omega
   cases hl:low s[k]
   ·have hl1:low s[k]=false:=hl
    unfold low Ig at hl
    by_cases h1:(s[k].toNat:Int) < 97
    ·clear hl
     go_wp2
     go_ret
     exact ⟨Cn (by rw [hz.out,hl1];simp),rfl⟩
    ·have h2:(122:Int) < s[k].toNat:=by simp at hl;omega
     clear hl
     go_wp2
     go_ret
     exact ⟨Cn (by rw [hz.out,hl1];simp),rfl⟩
   ·have hl1:low s[k]=true:=hl
    unfold low Ig at hl
    simp only [Bool.and_eq_true,decide_eq_true_eq] at hl
    have h1:¬(s[k].toNat:Int) < 97:=by omega
    have h2:¬(122:Int) < s[k].toNat:=by omega
    clear hl
    replace hl1:=Lib.hid hl1
    go_wp2
    go_round
    case rel=>exact ⟨k+1,by omega,by go_num,by refine Lib.hid ?_;rw [hz.out,hl1.out];rfl⟩
    case measure=>simp [intOf];omega
  ·go_wp2
   go_ret
   exact ⟨Cn (by rw [hz.out,Aku s k hlt];simp [Rf]),rfl⟩
end Go.Proofs.YtaemjogbahcbcaaGreatDoor
namespace Go.Proofs.YtaemjogbahcbcaaGreatDoor
open Go.RowKit
theorem Yo (fid:FuncId) (hbd:Tm prog fid) (caps:Array Value) (v:Value) (xs:List Hq) (F:List Nat) (p:Hq→Bool) (w:World) (h:Sl Ci w v xs F)
  (hp:∀(k:Nat) (hk:k < xs.length) (wr:World) (u:Value) (G:List Nat),Below w.heap.size w wr→Pt Ci wr u xs[k] G→Calls prog fid (#[u]++caps) wr fun e w'=>e=.returned (.bool (p xs[k]))∧Below wr.heap.size wr w') :
  Calls prog 261 #[v,.func (.func fid) #[] caps] w fun e w'=>e=.returned (.int .i64 (Ox p xs))∧Below w.heap.size w w':=by
 obtain ⟨a,cap,rfl⟩:=h.slice
 have hl:=h.len
 unfold maxLen at hl
 go_enter func261,ntmps261
 go_wp2
 go_loopw [5,8] (fun _ i wr=>∃k:Nat,k≤xs.length∧i=.int .i64 k∧Hid (∀j,j < k→∀hj:j < xs.length,p xs[j]=false)∧Below w.heap.size w wr) (fun _ i _=>xs.length - (intOf i).toNat)
 case atStart=>exact ⟨0,Nat.zero_le _,rfl,fun j hj=>by omega,Below.refl _ _⟩
 case round =>
  obtain ⟨k,hk,rfl,hz,hB⟩:=hrel
  by_cases hlt:k < xs.length
  ·have hz0:=hz;clear hz
   obtain ⟨b,off,_,F1,rfl,hx, -,ja⟩:=(h.below (by decide) hB).at k hlt
   obtain ⟨rfl,s1,rfl⟩:=id hx
   have a0:=ja 0 (by decide)
   have a1:=ja 1 (by decide)
   simp only [show Ci.sz=2 from rfl,Nat.mul_one,Nat.add_zero,List.getElem?_cons_zero,List.getElem?_cons_succ] at a0 a1
   clear ja
   have hr:=hp k hlt wr _ _ hB ⟨_,rfl,hx⟩
   have hp:=Lib.hid hp
   cases hpk:p xs[k]
   all_goals
    rw [hpk] at hr
    have hpk:=Lib.hid hpk
    have hr:=Lib.hid hr
    go_wp2_with fail
    refine hbd.upon hr.out ?_
    rintro e w1 ⟨rfl,hb1⟩
    refine ⟨_,rfl,?_⟩
    have hB:=tr hB hb1 (Nat.le_refl _)
    clear hb1
    go_wp2_with fail
   ·exact ⟨⟨k+1,by omega,by go_num,fun j hj hl=>by rcases Nat.lt_or_eq_of_le (Nat.le_of_lt_succ hj) with h|h;exact hz0.out j h hl;subst h;exact hpk.out,hB⟩,by simp [intOf];omega⟩
   ·go_ret
    exact ⟨L4 (M4 hlt hz0.out hpk.out).symm,hB⟩
  ·go_wp2
   go_ret
   exact ⟨L4 (Ly (fun j hj=>hz.out j (by omega) hj)).symm,hB⟩
theorem Ux (fid:FuncId) (hbd:Tm prog fid) (caps:Array Value) (v:Value) (xs:List Hq) (F:List Nat) (p:Hq→Bool) (w:World) (h:Sl Ci w v xs F)
  (hp:∀(k:Nat) (hk:k < xs.length) (wr:World) (u:Value) (G:List Nat),Below w.heap.size w wr→Pt Ci wr u xs[k] G→Calls prog fid (#[u]++caps) wr fun e w'=>e=.returned (.bool (p xs[k]))∧Below wr.heap.size wr w') :
  Calls prog 224 #[v,.func (.func fid) #[] caps] w fun e w'=>e=.returned (.bool (xs.any p))∧Below w.heap.size w w':=by
 have hp:=Lib.hid hp
 go_enter func224,ntmps224
 go_wp2_with fail
 refine (Yo fid hbd caps v xs F p _ h hp.out).mono ?_
 rintro e w1 ⟨rfl,hb1⟩
 go_wp2_with fail
 go_ret
 exact ⟨Cn (Qk p xs),hb1⟩
theorem Tz (v:Value) (xs:List Hq) (F:List Nat) (w:World) (h:Sl Ci w v xs F) (hm:xs.length≤4294967296) :
  Calls prog 192 #[v] w (Vz Ci 188 xs w):=by
 obtain ⟨ao,c,news,Fy,rfl,hl,hfy,hFy,hsrc⟩:=h.src
 have hFl:=hfy.lt
 have he:=fun w (a:Option Addr) (n c:Nat)=>Lib.run_eql_slice_nil (P:=prog) w 79 _ a n c 0 0 underlying79
 go_enter func192,ntmps192
 rcases hsrc with ⟨rfl,rfl,rfl⟩|⟨ad,rfl,hn⟩
 ·go_wp2
  go_ret
  exact ⟨.slice none 0 0,[],rfl,.inl ⟨rfl,rfl,rfl⟩,by simp,by simp,Below.refl _ _⟩
 ·go_wp2_with (at_builtin;refine Nx Hc (by decide) (by rfl) _ _ _ (by rfl) 188 (.agg #[.bool false,.string ⟨#[]⟩]) 24 underlying79 Aii rfl (.slice (some ⟨w.heap.size,0,none⟩) 0 0) [] [w.heap.size] (by rfl) (Ow.empty (Hm.made _ _ _)) (Hd.one _) (some ad) xs c (by rfl) news Fy (hfy.frame fun b hb=>Below.heap_alloc _ _ _ (hFl b hb)) (.inr ⟨ad,rfl,fun j u hu=>kc ((Below.refl _ _).alloc (Nat.le_refl _) _) (hn j u hu)⟩) (fun b hb e=>by have:=hFl b hb;simp [Value.ownBlock] at e;omega) (by simpa using hl) (by unfold maxLen at hl;simp;omega) ?_)
  intro v2 w2 F2 hA
  go_wp2_with fail
  go_ret
  have hB:Below w.heap.size w w2:=((Below.refl _ _).alloc (Nat.le_refl _) _).trans (hA.Ky.below (by simp) (by simp))
  have hs:∀b,v2.ownBlock=some b→w.heap.size≤b:=fun b hb=>by rcases hA.Af8 with e|e <;> rw [e] at hb <;> simp [Value.ownBlock] at hb <;> omega
  refine ⟨v2,F2,rfl,by simpa using hA.ow,hA.ow.scal Gc▸?_,fun b hb=>?_,hB⟩
  ·cases v2.ownBlock <;> simp
  ·rw [hA.ow.scal Gc] at hb;exact hs b (by simpa using hb)
def G0 (s:Hq):Bool:=Oh s.Dt && (s.Te || decide (s.Dt=⟨#[]⟩))
def Ic (l:List Hq) (k:Nat):Bool:=match l[k]? with|some s=>s.Te|none=>false
def Se (l:List Hq):Bool:=decide (l.length=0) || (!Ic l 0 && Ic l (l.length - 1))
def C6 (x:An):Bool:=B9 x.next && decide ((x.Ao.length:Int)≤8) && x.Ao.all G0 && Se x.Ao
theorem Jc {l:List Hq} {k:Nat} (h:k < l.length):Ic l k=l[k].Te:=by unfold Ic;rw [List.getElem?_eq_getElem h]
theorem N8 {l:List Hq} {k:Nat} (h:l.length≤k):Ic l k=false:=by unfold Ic;rw [List.getElem?_eq_none h]
def Hh (x:An) (k:Int):Bool:=Ic x.Ao (gp x.next k).toNat
theorem U0 (x:An) (k:Int) (v:Value) (F:List Nat) (h0:0≤x.next) (h1:x.next≤65535) (h2:0≤k) (h3:k≤65535) :
  Fn prog 173 [v,.int .i64 k] [.isv Bo v x F] [] (fun (_:Unit)=>True) (fun _=>.bool (Hh x k)) (fun _=>[]):=by
 refine enter func173 rfl ntmps173 fun w0=>?_
 refine Co ?_
 rintro a1 c1 F1 rfl l1
 unfold maxLen at l1
 have hg:=Jb x.next k
 refine go ?_;intros
 refine ce (fun w s=>Mo _ _ _ (by omega) (by omega) (by omega) (by omega)) ?_
 refine go ?_;intros
 refine Dc rfl rfl (fun h=>?_) (fun h=>?_)
 ·refine M0 (gp x.next k).toNat ?_
  rintro hi b o rfl s1
  refine go ?_;intros
  refine ret () trivial ?_
  unfold Hh;rw [Jc hi];rfl
 ·refine go ?_;intros
  refine ret () trivial ?_
  unfold Hh;rw [N8 (by omega)];rfl
theorem Ap9 (x:Hq) (v:Value) (F:List Nat):Fn prog 225 [v] [.isv Ci v x F] [] (fun (_:Unit)=>True) (fun _=>.bool (!G0 x)) (fun _=>[]):=by
 refine enter func225 rfl ntmps225 fun w0=>?_
 refine Al0 ?_
 rintro _ rfl s1
 refine go ?_;intros
 refine cb (fun w s=>Y4 _ _ s1) ?_
 cases g:Oh x.Dt
 ·refine go ?_;intros
  refine ret () trivial ?_
  simp [G0,g,Pv]
 refine go ?_;intros
 cases g2:x.Te
 ·refine go ?_;intros
  refine ret () trivial ?_
  simp [G0,g,g2,Pv]
 ·refine go ?_;intros
  refine ret () trivial ?_
  simp [G0,g,g2,Pv]
theorem Akf (x:An) (v:Value) (F:List Nat):Fn prog 169 [v] [.isv Bo v x F] [] (fun (_:Unit)=>True) (fun _=>.bool (C6 x)) (fun _=>[]):=by
 refine enter func169 rfl ntmps169 fun w0=>?_
 refine Co ?_
 rintro a1 c1 F1 rfl l1
 unfold maxLen at l1
 refine go ?_;intros
 refine ce (fun w s=>Ih _ _) ?_
 cases g1:B9 x.next
 ·refine go ?_;intros
  refine ret () trivial ?_
  simp [C6,g1,Pv]
 refine go ?_;intros
 refine Bg rfl (fun h=>?_) (fun h=>?_)
 ·refine go ?_;intros
  refine ret () trivial ?_
  simp [C6,g1,Pv];omega
 refine go ?_;intros
 refine cb (fun w s=>Ux _ (.mk' func225 rfl rfl) #[] _ x.Ao F1 (fun s=>!G0 s) _ (s.get (p:=.sl Ci (.slice a1 x.Ao.length c1) x.Ao F1) (by simp)).2 ?_) ?_
 ·intro k hk wr u G _ hu
  exact (Ap9 x.Ao[k] u G).val wr (Il hu)
 cases g2:x.Ao.all G0
 ·have:(x.Ao.any fun s=>!G0 s)=true:=by rw [←List.not_all_eq_any_not,g2];rfl
  rw [this]
  refine go ?_;intros
  refine ret () trivial ?_
  simp [C6,g2,Pv]
 have hx:(x.Ao.any fun s=>!G0 s)=false:=by rw [←List.not_all_eq_any_not,g2];rfl
 rw [hx]
 refine go ?_;intros
 have g3:C6 x=Se x.Ao:=by simp [C6,g1,g2];omega
 refine Dc rfl rfl (fun h=>?_) (fun h=>?_)
 ·refine go ?_;intros
  refine ret () trivial ?_
  rw [g3];have:x.Ao.length=0:=by omega
  simp [Se,this,Pv]
 refine M0 0 ?_
 rintro hi b o rfl s1
 refine go ?_;intros
 cases g4:x.Ao[0].Te
 rotate_left
 ·refine go ?_;intros
  refine ret () trivial ?_
  rw [g3];unfold Se;rw [Jc hi,g4,decide_eq_false (by omega)];rfl
 refine M0 (x.Ao.length - 1) ?_
 rintro hi2 b2 o2 e s2
 cases e
 refine go ?_;intros
 have hl:((x.Ao.length:Int) - 1).toNat=x.Ao.length - 1:=by omega
 rw [hl]
 refine go ?_;intros
 refine ret () trivial ?_
 rw [g3];unfold Se;rw [Jc hi,Jc hi2,g4,decide_eq_false (by omega)];rfl
theorem Ar8 (s:ByteArray):(decide ((s.size:Int)≤8) && Rf s.data.toList)=Oh s:=rfl
theorem Tq {α:Type} {p:α→Bool} {l:List α} {k:Nat} (h:k < l.length):(l.take (k+1)).all p=((l.take k).all p && p l[k]):=by
 rw [List.take_succ_eq_append_getElem h,List.all_append];simp
theorem Yr {α:Type} {p:α→Bool} {l:List α} {k:Nat} (h:k < l.length) (hp:p l[k]=false):l.all p=false:=by
 rw [List.all_eq_false];exact ⟨l[k],List.getElem_mem h,by simp [hp]⟩
theorem Ain (x:An) (v:Value) (F:List Nat):Fn prog 210 [v] [.isv Bo v x F] [] (fun (_:Unit)=>True) (fun _=>.bool (C6 x)) (fun _=>[]):=by
 refine enter func210 rfl ntmps210 fun w0=>?_
 refine Co ?_
 rintro a1 c1 F1 rfl l1
 unfold maxLen at l1
 refine go ?_;intros
 refine ce (fun w s=>Lp _ _) ?_
 cases g1:B9 x.next
 ·refine go ?_;intros
  refine ret () trivial ?_
  simp [C6,g1,Pv]
 refine go ?_;intros
 refine Bg rfl (fun h=>?_) (fun h=>?_)
 ·refine go ?_;intros
  refine ret () trivial ?_
  simp [C6,g1,Pv];omega
 refine go ?_;intros
 refine Dv [1,2,3] (fun k:Nat=>[(4,.int .i64 k)]) (fun k=>k≤x.Ao.length∧(x.Ao.take k).all G0=true) (fun k=>x.Ao.length - k) 0 ⟨Nat.zero_le _,rfl⟩ fun k hk=>?_
 obtain ⟨hk1,hk2⟩:=hk
 refine go ?_;intros
 refine Bg rfl (fun h3=>?_) (fun h3=>?_)
 ·have hk3:k < x.Ao.length:=by omega
  refine M0 k ?_
  rintro hi b o e s1
  cases e
  refine go ?_;intros
  refine ce (fun w s=>P2 _ _ _ s1) ?_
  rw [Ar8]
  cases g2:Oh x.Ao[k].Dt
  ·refine go ?_;intros
   refine ret () trivial ?_
   have:x.Ao.all G0=false:=Yr hk3 (by simp [G0,g2])
   simp [C6,this,Pv]
  refine go ?_;intros
  cases g3:x.Ao[k].Te
  rotate_left
  ·refine go ?_;intros
   refine Ck (k+1) ⟨by omega,by rw [Tq hk3,hk2];simp [G0,g2,g3]⟩ (by omega)
  refine go ?_;intros
  refine Bg rfl (fun g4=>?_) (fun g4=>?_)
  ·refine go ?_;intros
   refine ret () trivial ?_
   have:x.Ao.all G0=false:=Yr hk3 (by simp [G0,g2,g3,g4])
   simp [C6,this,Pv]
  ·refine go ?_;intros
   simp only [Decidable.not_not] at g4
   have ho:G0 x.Ao[k]=true:=by unfold G0;rw [g2,g3,decide_eq_true g4];rfl
   refine Ck (k+1) ⟨by omega,by rw [Tq hk3,hk2,ho];rfl⟩ (by omega)
 have hkl:k=x.Ao.length:=by omega
 subst hkl
 rw [List.take_length] at hk2
 have g3:C6 x=Se x.Ao:=by simp [C6,g1,hk2];omega
 refine go ?_;intros
 refine Dc rfl rfl (fun h4=>?_) (fun h4=>?_)
 ·refine go ?_;intros
  refine ret () trivial ?_
  rw [g3];have:x.Ao.length=0:=by omega
  simp [Se,this,Pv]
 refine M0 0 ?_
 rintro hi b o e s1
 cases e
 refine go ?_;intros
 cases g4:x.Ao[0].Te
 rotate_left
 ·refine go ?_;intros
  refine ret () trivial ?_
  rw [g3];unfold Se;rw [Jc hi,g4,decide_eq_false (by omega)];rfl
 refine M0 (x.Ao.length - 1) ?_
 rintro hi2 b2 o2 e s2
 cases e
 refine go ?_;intros
 have hl:((x.Ao.length:Int) - 1).toNat=x.Ao.length - 1:=by omega
 rw [hl]
 refine go ?_;intros
 refine ret () trivial ?_
 rw [g3];unfold Se;rw [Jc hi,Jc hi2,g4,decide_eq_false (by omega)];rfl
def Afz (s:ByteArray):ByteArray:=⟨#[43]⟩++s
def Alo:ByteArray:=⟨#[45]⟩
def Fa (l:List Hq):ByteArray:=match l with|[]=>Alo|s::_=>if s.Te then Afz s.Dt else Alo
theorem Wq {l:List Hq} (hi:0 < l.length) (h:l[0].Te=true):Fa l=Afz l[0].Dt:=by
 cases l with
 | nil=>simp at hi
 | cons s r=>simp at h;simp [Fa,h]
theorem Abq {l:List Hq} (hi:0 < l.length) (h:l[0].Te=false):Fa l=Alo:=by
 cases l with
 | nil=>simp at hi
 | cons s r=>simp at h;simp [Fa,h]
def rel:Int→List Hq→Int × List Hq × List ByteArray
 | n,[]=>(n,[],[])
 | n,s::r=>if s.Te then ((rel (Cg n 1) r).1,(rel (Cg n 1) r).2.1,Afz s.Dt::(rel (Cg n 1) r).2.2) else (n,s::r,[])
theorem Aqx {n:Int} {l:List Hq} (h:Ic l 0=false):rel n l=(n,l,[]):=by
 cases l with
 | nil=>rfl
 | cons s r=>have:s.Te=false:=h;simp [rel,this]
theorem Aov {n:Int} {l:List Hq} (h:Ic l 0=true):rel n l=((rel (Cg n 1) (l.drop 1)).1,(rel (Cg n 1) (l.drop 1)).2.1,Fa l::(rel (Cg n 1) (l.drop 1)).2.2):=by
 cases l with
 | nil=>cases h
 | cons s r=>have:s.Te=true:=h;simp [rel,Fa,this]
theorem Aqw {w:World} {a:Option Addr} {c:Nat} {x:An} {F:List Nat} (h:(Pc.ow Ci 188 (.slice a x.Ao.length c) x.Ao F).P w):∃F',(Pc.isv Bo (.agg #[.int .i64 x.next,.slice a x.Ao.length c]) x F').P w:=by
 obtain ⟨F', -,hs⟩:=h.2.read
 exact ⟨F',_,rfl,_,rfl,hs⟩
theorem Ahs (x:An) (v:Value) (F:List Nat) (hl:x.Ao.length≤4294967296):Fn prog 136 [v] [.isv Bo v x F] [] (fun (_:Option Addr × Nat × List Nat)=>True)
  (fun s=>.agg #[.int .i64 x.next,.slice s.1 x.Ao.length s.2.1]) (fun s=>[.ow Ci 188 (.slice s.1 x.Ao.length s.2.1) x.Ao s.2.2]):=by
 refine enter func136 rfl ntmps136 fun w0=>?_
 refine Co ?_
 rintro a1 c1 F1 rfl l1
 refine go ?_;intros
 refine cn (fun w s=>Tz _ _ _ _ (s.get (p:=.sl Ci (.slice a1 x.Ao.length c1) x.Ao F1) (by simp)).2 hl) fun a cp F'=>?_
 refine go ?_;intros
 refine ret (a,cp,F') trivial rfl
theorem Aap (x:An) (g t o:Nat) (A B:List Value) (a:Option Addr) (cc:Nat) (F:List Nat) (h0:0≤x.next) (h1:x.next≤65535) (hl:x.Ao.length≤4294967296) (hs:∀s∈x.Ao,s.Dt.size≤8) :
  Fn prog 235 [Ez g o 0] [] [.row g t o A [.int .i64 x.next,.slice a x.Ao.length cc] B,.ow Ci 188 (.slice a x.Ao.length cc) x.Ao F] (fun (_:Option Addr × Nat × List Nat)=>True)
   (fun _=>.string (Fa x.Ao)) (fun s=>[.row g t o A [.int .i64 (Cg x.next 1),.slice s.1 (x.Ao.drop 1).length s.2.1] B,.ow Ci 188 (.slice s.1 (x.Ao.drop 1).length s.2.1) (x.Ao.drop 1) s.2.2]):=by
 refine enter func235 rfl ntmps235 fun w0=>?_
 refine go ?_;intros
 refine Bg rfl (fun h=>?_) (fun h=>?_)
 ·refine A1 fun F'=>?_
  refine M0 0 ?_
  rintro hi b o2 e s1
  cases e
  refine go ?_;intros
  have s8:=hs _ (List.getElem_mem hi)
  have s9:(⟨#[43]⟩:ByteArray).size=1:=rfl
  cases g1:x.Ao[0].Te
  ·refine go ?_;intros
   apply wO
   refine sld 1 fun a2 c2 F2=>?_
   refine go ?_;intros
   refine cn (fun w s=>Tz _ _ _ _ (s.get (p:=.sl Ci (.slice a2 (x.Ao.drop 1).length c2) (x.Ao.drop 1) F2) (by simp)).2 (by simp;omega)) fun a3 c3 F3=>?_
   refine go ?_;intros
   refine ce (fun w s=>Ot _ _ _ (by omega) (by omega)) ?_
   refine go ?_;intros
   refine ret (a3,c3,F3) trivial ?_
   rw [Abq hi g1];rfl
  ·refine go ?_;intros
   apply wO
   refine sld 1 fun a2 c2 F2=>?_
   refine go ?_;intros
   refine cn (fun w s=>Tz _ _ _ _ (s.get (p:=.sl Ci (.slice a2 (x.Ao.drop 1).length c2) (x.Ao.drop 1) F2) (by simp)).2 (by simp;omega)) fun a3 c3 F3=>?_
   refine go ?_;intros
   refine ce (fun w s=>Ot _ _ _ (by omega) (by omega)) ?_
   refine go ?_;intros
   refine ret (a3,c3,F3) trivial ?_
   rw [Wq hi g1];rfl
 ·obtain ⟨n,l⟩:=x
  obtain rfl:l=[]:=List.eq_nil_of_length_eq_zero (by simpa using h)
  refine go ?_;intros
  refine ce (fun w s=>Ot _ _ _ (by omega) (by omega)) ?_
  refine go ?_;intros
  refine ret (a,cc,F) trivial rfl
def Mv (x:An):An:=⟨(rel x.next x.Ao).1,(rel x.next x.Ao).2.1⟩
def Ob (x:An):List ByteArray:=(rel x.next x.Ao).2.2
def Uu (x:An):An:=⟨Cg x.next 1,x.Ao.drop 1⟩
theorem Vn {x:An} (h:Ic x.Ao 0=false):Mv x=x∧Ob x=[]:=by unfold Mv Ob;rw [Aqx h];exact ⟨rfl,rfl⟩
theorem Acq {x:An} (h:Ic x.Ao 0=true):Mv x=Mv (Uu x)∧Ob x=Fa x.Ao::Ob (Uu x):=by unfold Mv Ob;rw [Aov h];exact ⟨rfl,rfl⟩
theorem Oz {l:List Hq} (h:∀s∈l,s.Dt.size≤8):(Fa l).size≤9:=by
 cases l with
 | nil=>decide
 | cons s r =>
  have:=h s (by simp)
  unfold Fa;dsimp only
  split
  ·unfold Afz;rw [ByteArray.size_append];show 1+s.Dt.size≤9;omega
  ·decide
theorem Aig (y:An):Hh y y.next=Ic y.Ao 0:=by
 unfold Hh gp;rw [Int.sub_self];rfl
theorem P3 (s:ByteArray) (h:s.size≤maxLen) (w:World):Cw Ba w [.string s] [s] []:=⟨_,[],[],[],by simp,by simp,⟨rfl,h,rfl⟩,rfl,rfl⟩
structure Vy where
 es:List ByteArray
 y:An
 a:Option Addr
 c:Nat
 F:List Nat
 ae:Option Addr
 ce:Nat
 Fe:List Nat
structure Apo (x:An) (s:Vy):Prop where
 n0:0≤s.y.next
 n1:s.y.next≤65535
 it:∀z∈s.y.Ao,z.Dt.size≤8
 ln:s.es.length+s.y.Ao.length≤x.Ao.length
 w:Mv x=Mv s.y
 e:Ob x=s.es++Ob s.y
theorem W8 (x:An) (g t o:Nat) (A B:List Value) (a:Option Addr) (cc:Nat) (F:List Nat) (h0:0≤x.next) (h1:x.next≤65535) (hl:x.Ao.length≤1000000) (hs:∀s∈x.Ao,s.Dt.size≤8) :
  Fn prog 236 [Ez g o 0] [] [.row g t o A [.int .i64 x.next,.slice a x.Ao.length cc] B,.ow Ci 188 (.slice a x.Ao.length cc) x.Ao F] (fun (s:Vy)=>s.y=Mv x∧s.es=Ob x)
   (fun s=>.slice s.ae s.es.length s.ce) (fun s=>[.row g t o A [.int .i64 s.y.next,.slice s.a s.y.Ao.length s.c] B,.ow Ci 188 (.slice s.a s.y.Ao.length s.c) s.y.Ao s.F,.ow Ba 9 (.slice s.ae s.es.length s.ce) s.es s.Fe]):=by
 refine enter func236 rfl ntmps236 fun w0=>?_
 refine go ?_;intros
 refine Cb Ba 9 ?_
 refine Cp [0,2] (fun s:Vy=>[(3,.slice s.ae s.es.length s.ce)]) (fun s=>[.row g t o A [.int .i64 s.y.next,.slice s.a s.y.Ao.length s.c] B,.ow Ci 188 (.slice s.a s.y.Ao.length s.c) s.y.Ao s.F,.ow Ba 9 (.slice s.ae s.es.length s.ce) s.es s.Fe]) (Apo x) (fun s=>s.y.Ao.length) ⟨[],x,a,cc,F,none,0,[]⟩ ⟨h0,h1,hs,by simp,rfl,rfl⟩ fun s hC=>?_
 obtain ⟨n0,n1,hit,hln,hw,he⟩:=hC
 refine go ?_;intros
 refine As [0] [] ?_
 refine dt 0 ?_
 refine dt 1 ?_
 refine dt 2 ?_
 refine dt 3 ?_
 refine dt 4 ?_
 refine dt 5 ?_
 refine dt 6 ?_
 refine dO 7 (by kernel_rfl) (by rw [List.getElem?_toArray];rfl) ?_
 apply At;rfl;kernel_rfl;exact Bf
 refine cb (fun w st=>by
  obtain ⟨F',h⟩:=Aqw (st.get (p:=.ow Ci 188 (.slice s.a s.y.Ao.length s.c) s.y.Ao s.F) (by simp))
  exact (U0 s.y s.y.next _ F' n0 n1 n0 n1).val w (Il h)) ?_
 refine dk ?_
 refine dd ?_
 rw [Aig]
 cases hv:Ic s.y.Ao 0
 ·refine go ?_;intros
  refine ret s ⟨by rw [hw,(Vn hv).1],by rw [he,(Vn hv).2,List.append_nil]⟩ rfl
 refine go ?_;intros
 refine cf (Aap s.y g t o A B s.a s.c s.F n0 n1 (by omega) hit) fun z _=>?_
 obtain ⟨az,cz,Fz⟩:=z
 refine Ap ?_
 have hsz:=Oz hit
 have hmx:(Fa s.y.Ao).size≤maxLen:=by unfold maxLen;omega
 have hlt:0 < s.y.Ao.length:=by
  rcases Nat.eq_zero_or_pos s.y.Ao.length with h|h
  ·rw [N8 (by omega)] at hv;cases hv
  ·exact h
 have hll:s.es.length+1≤1000000:=by omega
 refine go ?_;intros
 apply wO
 refine Mf (P3 _ hmx) Ed fun a' c' F'=>?_
 refine go ?_;intros
 refine Ck ⟨s.es++[Fa s.y.Ao],Uu s.y,az,cz,Fz,a',c',F'⟩ ⟨(Ht _ _).1,(Ht _ _).2,fun z hz=>hit z (List.mem_of_mem_drop hz),by simp [Uu];omega,by rw [hw,(Acq hv).1],by rw [he,(Acq hv).2];simp⟩ (by simp [Uu];omega)
def zsl:Hq:=⟨false,⟨#[]⟩⟩
def J3 (x:An) (j:Nat):List Hq:=x.Ao++List.replicate j zsl
theorem Mh (x:An) (j:Nat):(J3 x j).length=x.Ao.length+j:=by simp [J3]
def Jx (x:An) (k:Nat) (s:Hq):List Hq:=(J3 x (k+1 - x.Ao.length)).set k s
def E4 (x:An) (n:Int):Bool:=Pu n x.next || Hh x n
def K8 (x:An) (n:Int):Bool:=E4 x n || decide (gp x.next n < 8)
def Vj (x:An) (n:Int) (s:ByteArray):An:=⟨x.next,Jx x (gp x.next n).toNat ⟨true,s⟩⟩
def Jp (x:An) (n:Int) (s:ByteArray):An:=if E4 x n || !decide (gp x.next n < 8) then x else Mv (Vj x n s)
def Jo (x:An) (n:Int) (s:ByteArray):List ByteArray:=if E4 x n || !decide (gp x.next n < 8) then [] else Ob (Vj x n s)
def Eh (a b:Int):Nat:=if Pu a b then (gp a b).toNat else 0
def Hj:Nat→An→An
 | 0,y=>y
 | k+1,y=>Hj k (Uu y)
def Mp:Nat→An→List ByteArray
 | 0,_=>[]
 | k+1,y=>Fa y.Ao::Mp k (Uu y)
theorem Abt {a b:Int} (h:Pu a b=false):Eh a b=0:=by unfold Eh;rw [h];rfl
theorem Zy {a b:Int} (h:Pu a b=true):Eh a b=Eh (Cg a 1) b+1:=by
 unfold Eh
 rw [h]
 unfold Pu Ig gp Cg at *
 simp only [Bool.and_eq_true,decide_eq_true_eq,if_true] at h ⊢
 split <;> omega
theorem Abs (a b:Int):Eh a b≤32767:=by
 unfold Eh
 split
 ·rename_i h;unfold Pu Ig at h;simp only [Bool.and_eq_true,decide_eq_true_eq] at h;omega
 ·omega
theorem Zm (s:Hq) (h:s.Dt.size≤maxLen) (w:World):Cw Ci w [.bool s.Te,.string s.Dt] [s] []:=⟨_,[],[],[],by simp,by simp,⟨rfl,h,rfl⟩,rfl,rfl⟩
theorem Ul {x:An} {k:Nat} (hs:∀s∈x.Ao,s.Dt.size≤8) {s:Hq} (hi:s.Dt.size≤8):∀z∈Jx x k s,z.Dt.size≤8:=fun z hz=>by
 unfold Jx at hz
 rcases List.mem_or_eq_of_mem_set hz with h|rfl
 ·unfold J3 at h
  rcases List.mem_append.1 h with h|h
  ·exact hs z h
  ·rw [(List.mem_replicate.1 h).2];decide
 ·exact hi
structure Ap8 where
 j:Nat
 a:Option Addr
 c:Nat
 F:List Nat
theorem Akg (x:An) (n:Int) (Dt:ByteArray) (g t o:Nat) (A B:List Value) (a:Option Addr) (cc:Nat) (F:List Nat) (h0:0≤x.next) (h1:x.next≤65535) (h2:0≤n) (h3:n≤65535) (hl:x.Ao.length≤8) (hs:∀s∈x.Ao,s.Dt.size≤8) (hi:Dt.size≤8) :
  Fn prog 266 [Ez g o 0,.int .i64 n,.string Dt] [] [.row g t o A [.int .i64 x.next,.slice a x.Ao.length cc] B,.ow Ci 188 (.slice a x.Ao.length cc) x.Ao F] (fun (s:Vy)=>s.y=Jp x n Dt∧s.es=Jo x n Dt)
   (fun s=>.tuple #[.slice s.ae s.es.length s.ce,.bool (K8 x n)]) (fun s=>[.row g t o A [.int .i64 s.y.next,.slice s.a s.y.Ao.length s.c] B,.ow Ci 188 (.slice s.a s.y.Ao.length s.c) s.y.Ao s.F,.ow Ba 9 (.slice s.ae s.es.length s.ce) s.es s.Fe]):=by
 have hg:=Jb x.next n
 refine enter func266 rfl ntmps266 fun w0=>?_
 refine go ?_;intros
 refine ce (fun w s=>Lm _ _ _ (by omega) (by omega) (by omega) (by omega)) ?_
 cases g1:Pu n x.next
 rotate_left
 ·refine go ?_;intros
  refine Cb Ba 9 ?_
  refine ret ⟨[],x,a,cc,F,none,0,[]⟩ ⟨by simp [Jp,E4,g1],by simp [Jo,E4,g1]⟩ ?_
  simp [K8,E4,g1,Pv]
 refine go ?_;intros
 refine cb (fun w st=>by
  obtain ⟨F',h⟩:=Aqw (st.get (p:=.ow Ci 188 (.slice a x.Ao.length cc) x.Ao F) (by simp))
  exact (U0 x n _ F' h0 h1 h2 h3).val w (Il h)) ?_
 cases g2:Hh x n
 rotate_left
 ·refine go ?_;intros
  refine Cb Ba 9 ?_
  refine ret ⟨[],x,a,cc,F,none,0,[]⟩ ⟨by simp [Jp,E4,g1,g2],by simp [Jo,E4,g1,g2]⟩ ?_
  simp [K8,E4,g1,g2,Pv]
 refine go ?_;intros
 refine ce (fun w s=>Mo _ _ _ (by omega) (by omega) (by omega) (by omega)) ?_
 refine go ?_;intros
 refine Bg rfl (fun h8=>?_) (fun h8=>?_)
 ·refine go ?_;intros
  refine Cb Ba 9 ?_
  have h9:¬gp x.next n < 8:=by omega
  refine ret ⟨[],x,a,cc,F,none,0,[]⟩ ⟨by simp [Jp,h9],by simp [Jo,h9]⟩ ?_
  simp [K8,E4,g1,g2,h9,Pv]
 have hW:Jp x n Dt=Mv (Vj x n Dt):=by unfold Jp E4;rw [g1,g2,decide_eq_true (by omega)];rfl
 have hE:Jo x n Dt=Ob (Vj x n Dt):=by unfold Jo E4;rw [g1,g2,decide_eq_true (by omega)];rfl
 have hO:K8 x n=true:=by unfold K8;rw [decide_eq_true (show gp x.next n < 8 by omega)];simp
 unfold Vj at hW hE
 obtain ⟨k,hk⟩:∃k:Nat,gp x.next n=k:=⟨(gp x.next n).toNat,by omega⟩
 rw [hk] at hW hE ⊢
 rw [Int.toNat_natCast] at hW hE
 refine go ?_;intros
 refine Cp [0,2,6,7,8] (fun s:Ap8=>[]) (fun s=>[.row g t o A [.int .i64 x.next,.slice s.a (J3 x s.j).length s.c] B,.ow Ci 188 (.slice s.a (J3 x s.j).length s.c) (J3 x s.j) s.F]) (fun s=>s.j≤k+1 - x.Ao.length) (fun s=>k+1 - x.Ao.length - s.j) ⟨0,a,cc,F⟩ (Nat.zero_le _) (fun s hj=>?_) (hH:=by simp only [J3,List.replicate_zero,List.append_nil];exact Zi)
 have hpl:=Mh x s.j
 refine go ?_;intros
 refine Bg rfl (fun h9=>?_) (fun h9=>?_)
 ·refine go ?_;intros
  apply wO
  refine Mf (Zm zsl (by decide)) Hc fun a' c' F'=>?_
  refine go ?_;intros
  have e:J3 x s.j++[zsl]=J3 x (s.j+1):=by simp [J3,List.replicate_succ']
  rw [e]
  refine Ck ⟨s.j+1,a',c',F'⟩ (by show s.j+1≤_;omega) (by show _ - (s.j+1) < _;omega)
 have hjk:s.j=k+1 - x.Ao.length:=by omega
 refine go ?_;intros
 have hkl:k < (J3 x s.j).length:=by omega
 refine Acd k ?_
 rintro hi2 g2 A2 B2 e eF hs2 hh
 rw [e]
 refine Jm ?_;intros
 refine Nd (⟨true,Dt⟩:Hq) hh (fun w=>⟨rfl,by show Dt.size≤maxLen;unfold maxLen;omega,rfl⟩) ?_
 have hsl:(J3 x s.j).length=((J3 x s.j).set k ⟨true,Dt⟩).length:=by rw [List.length_set]
 rw [hsl]
 have hpu:(J3 x s.j).set k ⟨true,Dt⟩=Jx x k ⟨true,Dt⟩:=by unfold Jx;rw [hjk]
 rw [hpu]
 have hpl2:(Jx x k ⟨true,Dt⟩).length≤1000:=by unfold Jx;rw [List.length_set,Mh];omega
 have hps:=Ul (x:=x) (k:=k) hs (s:=⟨true,Dt⟩) hi
 refine go ?_;intros
 refine cf (W8 ⟨x.next,Jx x k ⟨true,Dt⟩⟩ g t o A B _ _ _ h0 h1 (by show (Jx x k ⟨true,Dt⟩).length≤_;omega) hps) fun z hz=>?_
 refine Ap ?_
 refine go ?_;intros
 refine ret z ⟨by rw [hz.1,hW],by rw [hz.2,hE]⟩ ?_
 rw [hO];rfl
structure Aj7 (x:An) (n:Int) (s:Vy):Prop where
 n0:0≤s.y.next
 n1:s.y.next≤65535
 it:∀z∈s.y.Ao,z.Dt.size≤8
 ln:s.y.Ao.length≤x.Ao.length
 le:s.es.length+Eh s.y.next n≤Eh x.next n
 w:Hj (Eh x.next n) x=Hj (Eh s.y.next n) s.y
 e:Mp (Eh x.next n) x=s.es++Mp (Eh s.y.next n) s.y
theorem Aet (x:An):(Ob x).length≤x.Ao.length:=by
 unfold Ob
 have:∀(l:List Hq) n,(rel n l).2.2.length≤l.length:=by
  intro l
  induction l with
  | nil=>intro n;simp [rel]
  | cons s r ih=>intro n;unfold rel;split;simp;exact ih _;simp
 exact this _ _
theorem Adf (x:An) (n:Int) (g t o:Nat) (A B:List Value) (a:Option Addr) (cc:Nat) (F:List Nat) (h0:0≤x.next) (h1:x.next≤65535) (h2:0≤n) (h3:n≤65535) (hl:x.Ao.length≤8) (hs:∀s∈x.Ao,s.Dt.size≤8) :
  Fn prog 201 [Ez g o 0,.int .i64 n] [] [.row g t o A [.int .i64 x.next,.slice a x.Ao.length cc] B,.ow Ci 188 (.slice a x.Ao.length cc) x.Ao F] (fun (s:Vy)=>s.y=Mv (Hj (Eh x.next n) x)∧s.es=Mp (Eh x.next n) x++Ob (Hj (Eh x.next n) x))
   (fun s=>.slice s.ae s.es.length s.ce) (fun s=>[.row g t o A [.int .i64 s.y.next,.slice s.a s.y.Ao.length s.c] B,.ow Ci 188 (.slice s.a s.y.Ao.length s.c) s.y.Ao s.F,.ow Ba 9 (.slice s.ae s.es.length s.ce) s.es s.Fe]):=by
 have hgn:=Abs x.next n
 refine enter func201 rfl ntmps201 fun w0=>?_
 refine go ?_;intros
 refine Cb Ba 9 ?_
 refine Cp [0,1,4] (fun s:Vy=>[(5,.slice s.ae s.es.length s.ce)]) (fun s=>[.row g t o A [.int .i64 s.y.next,.slice s.a s.y.Ao.length s.c] B,.ow Ci 188 (.slice s.a s.y.Ao.length s.c) s.y.Ao s.F,.ow Ba 9 (.slice s.ae s.es.length s.ce) s.es s.Fe]) (Aj7 x n) (fun s=>Eh s.y.next n) ⟨[],x,a,cc,F,none,0,[]⟩ ⟨h0,h1,hs,Nat.le_refl _,by simp,rfl,rfl⟩ fun s hC=>?_
 obtain ⟨n0,n1,hit,hln,hle,hw,he⟩:=hC
 refine go ?_;intros
 refine ce (fun w s=>Lm _ _ _ (by omega) (by omega) (by omega) (by omega)) ?_
 cases hb:Pu s.y.next n
 ·refine go ?_;intros
  rw [Abt hb] at hw he
  refine cf (W8 s.y g t o A B s.a s.c s.F n0 n1 (by omega) hit) fun z hz=>?_
  refine Ap ?_
  refine go ?_;intros
  have hr:=Aet s.y
  have hzl:z.es.length≤s.y.Ao.length:=by rw [hz.2];exact hr
  refine A1 (xs:=z.es) fun F'=>?_
  apply wO
  refine Lx Ed Hf fun a' c' F2=>?_
  refine go ?_;intros
  refine ret ⟨s.es++z.es,z.y,z.a,z.c,z.F,a',c',F2⟩ ⟨by rw [hz.1,hw];rfl,by rw [hz.2,he,hw];simp [Mp,Hj]⟩ rfl
 have hst:=Zy hb
 refine go ?_;intros
 refine cf (Aap s.y g t o A B s.a s.c s.F n0 n1 (by omega) hit) fun z _=>?_
 obtain ⟨az,cz,Fz⟩:=z
 refine Ap ?_
 have hsz:=Oz hit
 have hmx:(Fa s.y.Ao).size≤maxLen:=by unfold maxLen;omega
 refine go ?_;intros
 apply wO
 refine Mf (P3 _ hmx) Ed fun a' c' F'=>?_
 refine go ?_;intros
 refine Ck ⟨s.es++[Fa s.y.Ao],Uu s.y,az,cz,Fz,a',c',F'⟩ ⟨(Ht _ _).1,(Ht _ _).2,fun z hz=>hit z (List.mem_of_mem_drop hz),by simp [Uu];omega,by simp [Uu];omega,by rw [hw,hst];rfl,by rw [he,hst];simp [Mp,Uu]⟩ (by show Eh (Cg s.y.next 1) n < _;omega)
def zRW:An:=⟨0,[]⟩
def Rh (x:An) (n:Int) (s:ByteArray):Bool:=C6 x && B9 n && Oh s && K8 x n
def Id (x:An) (n:Int) (s:ByteArray):An × List ByteArray × Bool:=if Rh x n s then (Jp x n s,Jo x n s,true) else (zRW,[],false)
theorem Aei {s:Hq} (h:G0 s=true):s.Dt.size≤8:=by
 unfold G0 Oh at h
 simp only [Bool.and_eq_true,decide_eq_true_eq] at h
 omega
structure Ap5 (x:An):Prop where
 n0:0≤x.next
 n1:x.next≤65535
 l:x.Ao.length≤8
 it:∀s∈x.Ao,s.Dt.size≤8
theorem X5 {x:An} (h:C6 x=true):Ap5 x:=by
 unfold C6 at h
 simp only [Bool.and_eq_true,decide_eq_true_eq] at h
 have hs:=A9.1 h.1.1.1
 exact ⟨hs.1,hs.2,by omega,fun s hs=>Aei (List.all_eq_true.1 h.1.2 s hs)⟩
theorem Sr {s:ByteArray} (h:Oh s=true):s.size≤8:=by unfold Oh at h;simp only [Bool.and_eq_true,decide_eq_true_eq] at h;omega
structure CpS where
 g:Nat
 a:Option Addr
 c:Nat
 F:List Nat
theorem Rc (x:An) (v:Value) (F:List Nat) (h0:0≤x.next) (h1:x.next≤65535) (hl:x.Ao.length≤1000000) (hs:∀s∈x.Ao,s.Dt.size≤8) :
  Fn prog 253 [v] [.isv Bo v x F] [] (fun (s:Vy)=>s.y=Mv x∧s.es=Ob x)
   (fun s=>.tuple #[.agg #[.int .i64 s.y.next,.slice s.a s.y.Ao.length s.c],.slice s.ae s.es.length s.ce]) (fun s=>[.isv Bo (.agg #[.int .i64 s.y.next,.slice s.a s.y.Ao.length s.c]) s.y s.F,.ow Ba 9 (.slice s.ae s.es.length s.ce) s.es s.Fe]):=by
 refine enter func253 rfl ntmps253 fun w0=>?_
 refine Co ?_
 rintro a1 c1 F1 rfl l1
 unfold maxLen at l1
 refine go ?_;intros
 refine E6 [2,3] [0] (fun s:CpS=>[(4,Ez s.g 0 0)]) (fun s=>[.row s.g 81 0 [] [.int .i64 x.next,.slice s.a x.Ao.length s.c] [],.ow Ci 188 (.slice s.a x.Ao.length s.c) x.Ao s.F]) (fun _=>True) ?_ fun s _=>?_
 ·refine As [0,1] [8] ?_
  refine dt 0 ?_
  refine dt 1 ?_
  refine dt 3 ?_
  refine dt 4 ?_
  refine Ov 2 7 (by kernel_rfl) (by rw [List.getElem?_toArray];rfl) (by rw [List.getElem?_toArray];rfl) ?_ ?_
  ·apply Jw;rfl;intro _
   refine C9 Ci ?_
   refine dk ?_
   refine Ov 5 7 (by kernel_rfl) (by rw [List.getElem?_toArray];rfl) (by rw [List.getElem?_toArray];rfl) ?_ ?_
   ·refine Lx Hc Gc fun a2 c2 F2=>?_
    refine dk ?_
    refine dt 6 ?_
    refine dO 7 (by kernel_rfl) (by rw [List.getElem?_toArray];rfl) ?_
    apply Ce;rfl;intro _
    refine dk ?_
    refine dO 8 (by kernel_rfl) (by rw [List.getElem?_toArray];rfl) ?_
    apply Cs;rfl;rfl;rfl;(first|exact AggC.s|exact OneC.s);rfl;exact Cu;exact Ct;rfl
    refine Ng ?_
    refine dd ?_
    refine Cd (⟨_,a2,c2,F2⟩:CpS) trivial
   ·apply Ce;rfl;intro _
    refine dk ?_
    refine dO 5 (by kernel_rfl) (by rw [List.getElem?_toArray];rfl) ?_
    refine Lx Hc Gc fun a2 c2 F2=>?_
    refine dk ?_
    refine dt 6 ?_
    refine dO 8 (by kernel_rfl) (by rw [List.getElem?_toArray];rfl) ?_
    apply Cs;rfl;rfl;rfl;(first|exact AggC.s|exact OneC.s);rfl;exact Cu;exact Ct;rfl
    refine Ng ?_
    refine dd ?_
    refine Cd (⟨_,a2,c2,F2⟩:CpS) trivial
  ·apply Ce;rfl;intro _
   refine dk ?_
   refine dO 2 (by kernel_rfl) (by rw [List.getElem?_toArray];rfl) ?_
   apply Jw;rfl;intro _
   refine C9 Ci ?_
   refine dk ?_
   refine dO 5 (by kernel_rfl) (by rw [List.getElem?_toArray];rfl) ?_
   refine Lx Hc Gc fun a2 c2 F2=>?_
   refine dk ?_
   refine dt 6 ?_
   refine dO 8 (by kernel_rfl) (by rw [List.getElem?_toArray];rfl) ?_
   apply Cs;rfl;rfl;rfl;(first|exact AggC.s|exact OneC.s);rfl;exact Cu;exact Ct;rfl
   refine Ng ?_
   refine dd ?_
   refine Cd (⟨_,a2,c2,F2⟩:CpS) trivial
 obtain ⟨gg,a2,c2,F2⟩:=s
 refine A1 (xs:=x.Ao) fun F3=>?_
 refine go ?_;intros
 refine C9 Ba ?_
 refine Cp [2,3,4] (fun s:Vy=>[(5,.slice s.ae s.es.length s.ce)]) (fun s=>[.row gg 81 0 [] [.int .i64 s.y.next,.slice s.a s.y.Ao.length s.c] [],.sl Ci (.slice s.a s.y.Ao.length s.c) s.y.Ao s.F,.ow Ba 9 (.slice s.ae s.es.length s.ce) s.es s.Fe]) (Apo x) (fun s=>s.y.Ao.length) ⟨[],x,a2,c2,F3,_,0,_⟩ ⟨h0,h1,hs,by simp,rfl,rfl⟩ fun s hC=>?_
 obtain ⟨n0,n1,hit,hln,hw,he⟩:=hC
 have stop:Ic s.y.Ao 0=false→s.y=Mv x∧s.es=Ob x:=fun h=>⟨by rw [hw,(Vn h).1],by rw [he,(Vn h).2,List.append_nil]⟩
 refine go ?_;intros
 refine Dc rfl rfl (fun h4=>?_) (fun h4=>?_)
 rotate_left
 ·refine go ?_;intros
  have hv:Ic s.y.Ao 0=false:=N8 (by omega)
  refine Cf s.y ?_
  refine ret s (stop hv) rfl
 refine M0 0 ?_
 rintro hi b o e s1
 rw [e]
 refine go ?_;intros
 cases g1:s.y.Ao[0].Te
 ·refine go ?_;intros
  rw [←e]
  refine Cf s.y ?_
  refine ret s (stop (by rw [Jc hi,g1])) rfl
 have hv:Ic s.y.Ao 0=true:=by rw [Jc hi,g1]
 have hz:=hit _ (List.getElem_mem hi)
 have h43:(⟨#[43]⟩:ByteArray).size=1:=rfl
 have hpl:(⟨#[43]⟩++s.y.Ao[0].Dt:ByteArray)=Fa s.y.Ao:=(Wq hi g1).symm
 have hmx:(Fa s.y.Ao).size≤maxLen:=by have:=Oz hit;unfold maxLen;omega
 have hll:s.es.length+1≤1000000:=by omega
 refine go ?_;intros
 rw [hpl]
 apply wO
 refine Mf (P3 _ hmx) Ed fun a' c' F'=>?_
 refine go ?_;intros
 refine As [1,2] [7] ?_
 refine dt 0 ?_
 refine dt 1 ?_
 refine dt 3 ?_
 refine dt 4 ?_
 refine Afl 5 1 fun a5 c5 F5=>?_
 refine dO 2 (by kernel_rfl) (by rw [List.getElem?_toArray];rfl) ?_
 apply At;rfl;kernel_rfl;exact Bf
 refine ce (fun w s=>Fh _ _ _ (by omega) (by omega)) ?_
 refine dk ?_
 refine dt 6 ?_
 refine dO 7 (by kernel_rfl) (by rw [List.getElem?_toArray];rfl) ?_
 apply Cs;rfl;rfl;rfl;(first|exact AggC.s|exact OneC.s);rfl;exact Cu;exact Ct;rfl
 refine Ng ?_
 refine dd ?_
 refine go ?_;intros
 refine Ck ⟨s.es++[Fa s.y.Ao],Uu s.y,a5,c5,F5,a',c',F'⟩ ⟨(Ht _ _).1,(Ht _ _).2,fun z hz=>hit z (List.mem_of_mem_drop hz),by simp [Uu];omega,by rw [hw,(Acq hv).1],by rw [he,(Acq hv).2];simp⟩ (by simp [Uu];omega)
theorem Aft (x:An) (n:Int) (v:Value) (F:List Nat) (h0:0≤x.next) (h1:x.next≤65535) (h2:0≤n) (h3:n≤65535) (hl:x.Ao.length≤8) :
  Fn prog 255 [v,.int .i64 n] [.isv Bo v x F] [] (fun (_:Unit)=>True) (fun _=>.bool (K8 x n)) (fun _=>[]):=by
 have hg:=Jb x.next n
 have hh:¬gp x.next n < 8→Hh x n=false:=fun h=>N8 (by omega)
 refine enter func255 rfl ntmps255 fun w0=>?_
 refine Co ?_
 rintro a1 c1 F1 rfl l1
 refine go ?_;intros
 refine ce (fun w s=>No _ _ _ (by omega) (by omega)) ?_
 cases g1:Pu n x.next
 ·refine go ?_;intros
  refine ce (fun w s=>H8 _ _ _ (by omega) (by omega)) ?_
  refine go ?_;intros
  refine ret () trivial ?_
  unfold K8 E4
  rw [g1]
  by_cases h8:gp x.next n < 8
  ·simp [h8,Pv]
  ·simp [h8,hh h8,Pv]
 ·refine go ?_;intros
  refine ret () trivial ?_
  simp [K8,E4,g1,Pv]
theorem Aio (x:An) (n:Int) (Dt:ByteArray) (v:Value) (F:List Nat) (h0:0≤x.next) (h1:x.next≤65535) (h2:0≤n) (h3:n≤65535) (hl:x.Ao.length≤8) (hs:∀s∈x.Ao,s.Dt.size≤8) (hi:Dt.size≤8) (hok:K8 x n=true) :
  Fn prog 256 [v,.int .i64 n,.string Dt] [.isv Bo v x F] [] (fun (s:Vy)=>s.y=Jp x n Dt∧s.es=Jo x n Dt)
   (fun s=>.tuple #[.agg #[.int .i64 s.y.next,.slice s.a s.y.Ao.length s.c],.slice s.ae s.es.length s.ce]) (fun s=>[.isv Bo (.agg #[.int .i64 s.y.next,.slice s.a s.y.Ao.length s.c]) s.y s.F,.ow Ba 9 (.slice s.ae s.es.length s.ce) s.es s.Fe]):=by
 have hg:=Jb x.next n
 refine enter func256 rfl ntmps256 fun w0=>?_
 refine Co ?_
 rintro a1 c1 F1 rfl l1
 refine go ?_;intros
 refine ce (fun w s=>H8 _ _ _ (by omega) (by omega)) ?_
 obtain ⟨k,hk⟩:∃k:Nat,gp x.next n=k:=⟨(gp x.next n).toNat,by omega⟩
 rw [hk]
 refine go ?_;intros
 refine E6 [1,2,3,6,7,8] [0,1,2] (fun s:CpS=>[(9,Ez s.g 0 0)]) (fun s=>[.row s.g 81 0 [] [.int .i64 x.next,.slice s.a x.Ao.length s.c] [],.ow Ci 188 (.slice s.a x.Ao.length s.c) x.Ao s.F]) (fun _=>True) ?_ fun s _=>?_
 ·refine As [0,1] [8] ?_
  refine dt 0 ?_
  refine dt 1 ?_
  refine dt 3 ?_
  refine dt 4 ?_
  refine Ov 2 7 (by kernel_rfl) (by rw [List.getElem?_toArray];rfl) (by rw [List.getElem?_toArray];rfl) ?_ ?_
  ·apply Jw;rfl;intro _
   refine C9 Ci ?_
   refine dk ?_
   refine Ov 5 7 (by kernel_rfl) (by rw [List.getElem?_toArray];rfl) (by rw [List.getElem?_toArray];rfl) ?_ ?_
   ·refine Lx Hc Gc fun a2 c2 F2=>?_
    refine dk ?_
    refine dt 6 ?_
    refine dO 7 (by kernel_rfl) (by rw [List.getElem?_toArray];rfl) ?_
    apply Ce;rfl;intro _
    refine dk ?_
    refine dO 8 (by kernel_rfl) (by rw [List.getElem?_toArray];rfl) ?_
    apply Cs;rfl;rfl;rfl;(first|exact AggC.s|exact OneC.s);rfl;exact Cu;exact Ct;rfl
    refine Ng ?_
    refine dd ?_
    refine Cd (⟨_,a2,c2,F2⟩:CpS) trivial
   ·apply Ce;rfl;intro _
    refine dk ?_
    refine dO 5 (by kernel_rfl) (by rw [List.getElem?_toArray];rfl) ?_
    refine Lx Hc Gc fun a2 c2 F2=>?_
    refine dk ?_
    refine dt 6 ?_
    refine dO 8 (by kernel_rfl) (by rw [List.getElem?_toArray];rfl) ?_
    apply Cs;rfl;rfl;rfl;(first|exact AggC.s|exact OneC.s);rfl;exact Cu;exact Ct;rfl
    refine Ng ?_
    refine dd ?_
    refine Cd (⟨_,a2,c2,F2⟩:CpS) trivial
  ·apply Ce;rfl;intro _
   refine dk ?_
   refine dO 2 (by kernel_rfl) (by rw [List.getElem?_toArray];rfl) ?_
   apply Jw;rfl;intro _
   refine C9 Ci ?_
   refine dk ?_
   refine dO 5 (by kernel_rfl) (by rw [List.getElem?_toArray];rfl) ?_
   refine Lx Hc Gc fun a2 c2 F2=>?_
   refine dk ?_
   refine dt 6 ?_
   refine dO 8 (by kernel_rfl) (by rw [List.getElem?_toArray];rfl) ?_
   apply Cs;rfl;rfl;rfl;(first|exact AggC.s|exact OneC.s);rfl;exact Cu;exact Ct;rfl
   refine Ng ?_
   refine dd ?_
   refine Cd (⟨_,a2,c2,F2⟩:CpS) trivial
 obtain ⟨gg,a2,c2,F2⟩:=s
 refine go ?_;intros
 refine ce (fun w s=>No _ _ _ (by omega) (by omega)) ?_
 cases g1:Pu n x.next
 rotate_left
 ·refine go ?_;intros
  refine C9 Ba ?_
  refine A1 (xs:=x.Ao) fun F3=>?_
  refine Cf x ?_
  refine ret ⟨[],x,a2,c2,F3,_,0,_⟩ ⟨by simp [Jp,E4,g1],by simp [Jo,E4,g1]⟩ rfl
 refine go ?_;intros
 refine Dc rfl rfl (fun h4=>?_) (fun h4=>?_)
 ·refine M0 k ?_
  rintro hi2 b2 o2 e s1
  cases e
  refine go ?_;intros
  cases g4:x.Ao[k].Te
  rotate_left
  ·have hb:Hh x n=true:=by unfold Hh;rw [hk,Int.toNat_natCast,Jc hi2];exact g4
   refine go ?_;intros
   refine C9 Ba ?_
   refine A1 (xs:=x.Ao) fun F3=>?_
   refine Cf x ?_
   refine ret ⟨[],x,a2,c2,F3,_,0,_⟩ ⟨by simp [Jp,E4,hb],by simp [Jo,E4,hb]⟩ rfl
  have hpad:Hh x n=false:=by unfold Hh;rw [hk,Int.toNat_natCast,Jc hi2];exact g4
  have hno:E4 x n=false:=by unfold E4;rw [g1,hpad];rfl
  have h8:gp x.next n < 8:=by unfold K8 at hok;rw [hno] at hok;simpa using hok
  have hW:Jp x n Dt=Mv (Vj x n Dt):=by unfold Jp;rw [hno,decide_eq_true h8];rfl
  have hE:Jo x n Dt=Ob (Vj x n Dt):=by unfold Jo;rw [hno,decide_eq_true h8];rfl
  unfold Vj at hW hE
  rw [hk,Int.toNat_natCast] at hW hE
  refine go ?_;intros
  refine Cp [2,6,7,8,9] (fun s:Ap8=>[]) (fun s=>[.row gg 81 0 [] [.int .i64 x.next,.slice s.a (J3 x s.j).length s.c] [],.ow Ci 188 (.slice s.a (J3 x s.j).length s.c) (J3 x s.j) s.F]) (fun s=>s.j≤k+1 - x.Ao.length) (fun s=>k+1 - x.Ao.length - s.j) ⟨0,a2,c2,F2⟩ (Nat.zero_le _) (fun s hj=>?_) (hH:=by simp only [J3,List.replicate_zero,List.append_nil];exact Zi)
  have hpl:=Mh x s.j
  refine go ?_;intros
  refine Bg rfl (fun h9=>?_) (fun h9=>?_)
  ·refine go ?_;intros
   apply wO
   refine Mf (Zm zsl (by decide)) Hc fun a' c' F'=>?_
   refine go ?_;intros
   have e:J3 x s.j++[zsl]=J3 x (s.j+1):=by simp [J3,List.replicate_succ']
   rw [e]
   refine Ck ⟨s.j+1,a',c',F'⟩ (by show s.j+1≤_;omega) (by show _ - (s.j+1) < _;omega)
  have hjk:s.j=k+1 - x.Ao.length:=by omega
  refine go ?_;intros
  have hkl:k < (J3 x s.j).length:=by omega
  refine Acd k ?_
  rintro hi2 g2 A2 B2 e eF hs2 hh
  rw [e]
  refine Jm ?_;intros
  refine Nd (⟨true,Dt⟩:Hq) hh (fun w=>⟨rfl,by show Dt.size≤maxLen;unfold maxLen;omega,rfl⟩) ?_
  have hsl:(J3 x s.j).length=((J3 x s.j).set k ⟨true,Dt⟩).length:=by rw [List.length_set]
  rw [hsl]
  have hpu:(J3 x s.j).set k ⟨true,Dt⟩=Jx x k ⟨true,Dt⟩:=by unfold Jx;rw [hjk]
  rw [hpu]
  have hpl2:(Jx x k ⟨true,Dt⟩).length≤1000:=by unfold Jx;rw [List.length_set,Mh];omega
  have hps:=Ul (x:=x) (k:=k) hs (s:=⟨true,Dt⟩) hi
  refine A1 (xs:=Jx x k ⟨true,Dt⟩) fun F4=>?_
  refine Cf ⟨x.next,Jx x k ⟨true,Dt⟩⟩ ?_
  refine go ?_;intros
  refine cf (Rc ⟨x.next,Jx x k ⟨true,Dt⟩⟩ _ _ h0 h1 (by show (Jx x k ⟨true,Dt⟩).length≤_;omega) hps) fun z hz=>?_
  refine Ap ?_
  refine go ?_;intros
  refine ret z ⟨by rw [hz.1,hW],by rw [hz.2,hE]⟩ rfl
 ·have hpad:Hh x n=false:=N8 (by omega)
  have hno:E4 x n=false:=by unfold E4;rw [g1,hpad];rfl
  have h8:gp x.next n < 8:=by unfold K8 at hok;rw [hno] at hok;simpa using hok
  have hW:Jp x n Dt=Mv (Vj x n Dt):=by unfold Jp;rw [hno,decide_eq_true h8];rfl
  have hE:Jo x n Dt=Ob (Vj x n Dt):=by unfold Jo;rw [hno,decide_eq_true h8];rfl
  unfold Vj at hW hE
  rw [hk,Int.toNat_natCast] at hW hE
  refine go ?_;intros
  refine Cp [2,6,7,8,9] (fun s:Ap8=>[]) (fun s=>[.row gg 81 0 [] [.int .i64 x.next,.slice s.a (J3 x s.j).length s.c] [],.ow Ci 188 (.slice s.a (J3 x s.j).length s.c) (J3 x s.j) s.F]) (fun s=>s.j≤k+1 - x.Ao.length) (fun s=>k+1 - x.Ao.length - s.j) ⟨0,a2,c2,F2⟩ (Nat.zero_le _) (fun s hj=>?_) (hH:=by simp only [J3,List.replicate_zero,List.append_nil];exact Zi)
  have hpl:=Mh x s.j
  refine go ?_;intros
  refine Bg rfl (fun h9=>?_) (fun h9=>?_)
  ·refine go ?_;intros
   apply wO
   refine Mf (Zm zsl (by decide)) Hc fun a' c' F'=>?_
   refine go ?_;intros
   have e:J3 x s.j++[zsl]=J3 x (s.j+1):=by simp [J3,List.replicate_succ']
   rw [e]
   refine Ck ⟨s.j+1,a',c',F'⟩ (by show s.j+1≤_;omega) (by show _ - (s.j+1) < _;omega)
  have hjk:s.j=k+1 - x.Ao.length:=by omega
  refine go ?_;intros
  have hkl:k < (J3 x s.j).length:=by omega
  refine Acd k ?_
  rintro hi2 g2 A2 B2 e eF hs2 hh
  rw [e]
  refine Jm ?_;intros
  refine Nd (⟨true,Dt⟩:Hq) hh (fun w=>⟨rfl,by show Dt.size≤maxLen;unfold maxLen;omega,rfl⟩) ?_
  have hsl:(J3 x s.j).length=((J3 x s.j).set k ⟨true,Dt⟩).length:=by rw [List.length_set]
  rw [hsl]
  have hpu:(J3 x s.j).set k ⟨true,Dt⟩=Jx x k ⟨true,Dt⟩:=by unfold Jx;rw [hjk]
  rw [hpu]
  have hpl2:(Jx x k ⟨true,Dt⟩).length≤1000:=by unfold Jx;rw [List.length_set,Mh];omega
  have hps:=Ul (x:=x) (k:=k) hs (s:=⟨true,Dt⟩) hi
  refine A1 (xs:=Jx x k ⟨true,Dt⟩) fun F4=>?_
  refine Cf ⟨x.next,Jx x k ⟨true,Dt⟩⟩ ?_
  refine go ?_;intros
  refine cf (Rc ⟨x.next,Jx x k ⟨true,Dt⟩⟩ _ _ h0 h1 (by show (Jx x k ⟨true,Dt⟩).length≤_;omega) hps) fun z hz=>?_
  refine Ap ?_
  refine go ?_;intros
  refine ret z ⟨by rw [hz.1,hW],by rw [hz.2,hE]⟩ rfl
theorem P0 (x:An) (n:Int) (v:Value) (F:List Nat) (h0:0≤x.next) (h1:x.next≤65535) (h2:0≤n) (h3:n≤65535) (hl:x.Ao.length≤8) (hs:∀s∈x.Ao,s.Dt.size≤8) :
  Fn prog 215 [v,.int .i64 n] [.isv Bo v x F] [] (fun (s:Vy)=>s.y=Mv (Hj (Eh x.next n) x)∧s.es=Mp (Eh x.next n) x++Ob (Hj (Eh x.next n) x))
   (fun s=>.tuple #[.agg #[.int .i64 s.y.next,.slice s.a s.y.Ao.length s.c],.slice s.ae s.es.length s.ce]) (fun s=>[.isv Bo (.agg #[.int .i64 s.y.next,.slice s.a s.y.Ao.length s.c]) s.y s.F,.ow Ba 9 (.slice s.ae s.es.length s.ce) s.es s.Fe]):=by
 have hgn:=Abs x.next n
 refine enter func215 rfl ntmps215 fun w0=>?_
 refine Co ?_
 rintro a1 c1 F1 rfl l1
 refine go ?_;intros
 refine E6 [1,4,5] [0] (fun s:CpS=>[(6,Ez s.g 0 0)]) (fun s=>[.row s.g 81 0 [] [.int .i64 x.next,.slice s.a x.Ao.length s.c] [],.ow Ci 188 (.slice s.a x.Ao.length s.c) x.Ao s.F]) (fun _=>True) ?_ fun s _=>?_
 ·refine As [0,1] [8] ?_
  refine dt 0 ?_
  refine dt 1 ?_
  refine dt 3 ?_
  refine dt 4 ?_
  refine Ov 2 7 (by kernel_rfl) (by rw [List.getElem?_toArray];rfl) (by rw [List.getElem?_toArray];rfl) ?_ ?_
  ·apply Jw;rfl;intro _
   refine C9 Ci ?_
   refine dk ?_
   refine Ov 5 7 (by kernel_rfl) (by rw [List.getElem?_toArray];rfl) (by rw [List.getElem?_toArray];rfl) ?_ ?_
   ·refine Lx Hc Gc fun a2 c2 F2=>?_
    refine dk ?_
    refine dt 6 ?_
    refine dO 7 (by kernel_rfl) (by rw [List.getElem?_toArray];rfl) ?_
    apply Ce;rfl;intro _
    refine dk ?_
    refine dO 8 (by kernel_rfl) (by rw [List.getElem?_toArray];rfl) ?_
    apply Cs;rfl;rfl;rfl;(first|exact AggC.s|exact OneC.s);rfl;exact Cu;exact Ct;rfl
    refine Ng ?_
    refine dd ?_
    refine Cd (⟨_,a2,c2,F2⟩:CpS) trivial
   ·apply Ce;rfl;intro _
    refine dk ?_
    refine dO 5 (by kernel_rfl) (by rw [List.getElem?_toArray];rfl) ?_
    refine Lx Hc Gc fun a2 c2 F2=>?_
    refine dk ?_
    refine dt 6 ?_
    refine dO 8 (by kernel_rfl) (by rw [List.getElem?_toArray];rfl) ?_
    apply Cs;rfl;rfl;rfl;(first|exact AggC.s|exact OneC.s);rfl;exact Cu;exact Ct;rfl
    refine Ng ?_
    refine dd ?_
    refine Cd (⟨_,a2,c2,F2⟩:CpS) trivial
  ·apply Ce;rfl;intro _
   refine dk ?_
   refine dO 2 (by kernel_rfl) (by rw [List.getElem?_toArray];rfl) ?_
   apply Jw;rfl;intro _
   refine C9 Ci ?_
   refine dk ?_
   refine dO 5 (by kernel_rfl) (by rw [List.getElem?_toArray];rfl) ?_
   refine Lx Hc Gc fun a2 c2 F2=>?_
   refine dk ?_
   refine dt 6 ?_
   refine dO 8 (by kernel_rfl) (by rw [List.getElem?_toArray];rfl) ?_
   apply Cs;rfl;rfl;rfl;(first|exact AggC.s|exact OneC.s);rfl;exact Cu;exact Ct;rfl
   refine Ng ?_
   refine dd ?_
   refine Cd (⟨_,a2,c2,F2⟩:CpS) trivial
 obtain ⟨gg,a2,c2,F2⟩:=s
 refine A1 (xs:=x.Ao) fun F3=>?_
 refine go ?_;intros
 refine C9 Ba ?_
 refine Cp [1,4,5,6] (fun s:Vy=>[(7,.slice s.ae s.es.length s.ce)]) (fun s=>[.row gg 81 0 [] [.int .i64 s.y.next,.slice s.a s.y.Ao.length s.c] [],.sl Ci (.slice s.a s.y.Ao.length s.c) s.y.Ao s.F,.ow Ba 9 (.slice s.ae s.es.length s.ce) s.es s.Fe]) (Aj7 x n) (fun s=>Eh s.y.next n) ⟨[],x,a2,c2,F3,_,0,_⟩ ⟨h0,h1,hs,Nat.le_refl _,by simp,rfl,rfl⟩ fun s hC=>?_
 obtain ⟨n0,n1,hit,hln,hle,hw,he⟩:=hC
 refine go ?_;intros
 refine ce (fun w s=>No _ _ _ (by omega) (by omega)) ?_
 cases hb:Pu s.y.next n
 ·refine Jm ?_;intros
  refine Cf s.y ?_
  refine go ?_;intros
  rw [Abt hb] at hw he
  refine cf (Rc s.y _ _ n0 n1 (by omega) hit) fun z hz=>?_
  refine Ap ?_
  refine go ?_;intros
  have hr:=Aet s.y
  have hzl:z.es.length≤s.y.Ao.length:=by rw [hz.2];exact hr
  refine A1 (xs:=z.es) fun F'=>?_
  refine As [1] [] ?_
  refine dt 0 ?_
  refine dt 1 ?_
  refine dt 2 ?_
  refine dO 3 (by kernel_rfl) (by rw [List.getElem?_toArray];rfl) ?_
  refine Lx Ed Hf fun a' c' F2=>?_
  refine dk ?_
  refine dO 4 (by kernel_rfl) (by rw [List.getElem?_toArray];rfl) ?_
  apply Cs;rfl;rfl;rfl;(first|exact AggC.s|exact OneC.s);rfl;exact Cu;exact Ct;rfl
  refine dk ?_
  refine dt 5 ?_
  refine dd ?_
  refine go ?_;intros
  refine ret ⟨s.es++z.es,z.y,z.a,z.c,z.F,a',c',F2⟩ ⟨by rw [hz.1,hw];rfl,by rw [hz.2,he,hw];simp [Mp,Hj]⟩ rfl
 have hst:=Zy hb
 have hmx:(Fa s.y.Ao).size≤maxLen:=by have:=Oz hit;unfold maxLen;omega
 refine go ?_;intros
 refine C9 Ci ?_
 refine Bg rfl (fun h4=>?_) (fun h4=>?_)
 ·refine M0 0 ?_
  rintro hi b o e s1
  rw [e]
  refine go ?_;intros
  cases g1:s.y.Ao[0].Te
  ·have hpl1:(⟨#[45]⟩:ByteArray)=Fa s.y.Ao:=(Abq hi g1).symm
   refine go ?_;intros
   apply wO
   refine sld 1 fun a5 c5 F5=>?_
   refine go ?_;intros
   rw [hpl1]
   apply wO
   refine Mf (P3 _ hmx) Ed fun a' c' F'=>?_
   refine go ?_;intros
   refine ce (fun w s=>Fh _ _ _ (by omega) (by omega)) ?_
   refine go ?_;intros
   refine Ck ⟨s.es++[Fa s.y.Ao],Uu s.y,a5,c5,F5,a',c',F'⟩ ⟨(Ht _ _).1,(Ht _ _).2,fun z hz=>hit z (List.mem_of_mem_drop hz),by simp [Uu];omega,by simp [Uu];omega,by rw [hw,hst];rfl,by rw [he,hst];simp [Mp,Uu]⟩ (by show Eh (Cg s.y.next 1) n < _;omega)
  ·have hz:=hit _ (List.getElem_mem hi)
   have h43:(⟨#[43]⟩:ByteArray).size=1:=rfl
   have hpl2:(⟨#[43]⟩++s.y.Ao[0].Dt:ByteArray)=Fa s.y.Ao:=(Wq hi g1).symm
   refine go ?_;intros
   apply wO
   refine sld 1 fun a5 c5 F5=>?_
   refine go ?_;intros
   rw [hpl2]
   apply wO
   refine Mf (P3 _ hmx) Ed fun a' c' F'=>?_
   refine go ?_;intros
   refine ce (fun w s=>Fh _ _ _ (by omega) (by omega)) ?_
   refine go ?_;intros
   refine Ck ⟨s.es++[Fa s.y.Ao],Uu s.y,a5,c5,F5,a',c',F'⟩ ⟨(Ht _ _).1,(Ht _ _).2,fun z hz=>hit z (List.mem_of_mem_drop hz),by simp [Uu];omega,by simp [Uu];omega,by rw [hw,hst];rfl,by rw [he,hst];simp [Mp,Uu]⟩ (by show Eh (Cg s.y.next 1) n < _;omega)
 ·have hnil:s.y.Ao=[]:=List.eq_nil_of_length_eq_zero (by omega)
  have hpl3:(⟨#[45]⟩:ByteArray)=Fa s.y.Ao:=by rw [hnil];rfl
  have hd:([]:List Hq)=s.y.Ao.drop 1:=by rw [hnil];rfl
  ·refine go ?_;intros
   refine A1 (E:=Ci) (xs:=[]) fun F6=>?_
   rw [show (Value.slice (some _) 0 0:Value)=Value.slice _ ([]:List Hq).length 0 from rfl]
   rw [hpl3]
   apply wO
   refine Mf (P3 _ hmx) Ed fun a' c' F'=>?_
   refine go ?_;intros
   refine ce (fun w s=>Fh _ _ _ (by omega) (by omega)) ?_
   refine go ?_;intros
   rw [hd]
   refine Ck ⟨s.es++[Fa s.y.Ao],Uu s.y,_,0,F6,a',c',F'⟩ ⟨(Ht _ _).1,(Ht _ _).2,fun z hz=>hit z (List.mem_of_mem_drop hz),by simp [Uu];omega,by simp [Uu];omega,by rw [hw,hst];rfl,by rw [he,hst];simp [Mp,Uu]⟩ (by show Eh (Cg s.y.next 1) n < _;omega)
end Go.Proofs.YtaemjogbahcbcaaGreatDoor
namespace Go.Proofs.YtaemjogbahcbcaaGreatDoor

open Go.RowKit
end Go.Proofs.YtaemjogbahcbcaaGreatDoor
namespace Go.Proofs.YtaemjogbahcbcaaGreatDoor
open Go.RowKit
theorem Wd (x:An) (n:Int) (v:Value) (F:List Nat) (h0:0≤x.next) (h1:x.next≤65535) (h2:0≤n) (h3:n≤65535) :
  Fn prog 212 [v,.int .i64 n] [.isv Bo v x F] [] (fun (_:Unit)=>True) (fun _=>.bool (E4 x n)) (fun _=>[]):=by
 have hg:=Jb x.next n
 refine enter func212 rfl ntmps212 fun w0=>?_
 refine Co ?_
 rintro a1 c1 F1 rfl l1
 refine go ?_;intros
 refine ce (fun w s=>H8 _ _ _ (by omega) (by omega)) ?_
 obtain ⟨k,hk⟩:∃k:Nat,gp x.next n=k:=⟨(gp x.next n).toNat,by omega⟩
 have hh:Hh x n=Ic x.Ao k:=by unfold Hh;rw [hk,Int.toNat_natCast]
 rw [hk]
 refine go ?_;intros
 refine ce (fun w s=>No _ _ _ (by omega) (by omega)) ?_
 cases g1:Pu n x.next
 ·refine go ?_;intros
  refine Dc rfl rfl (fun h4=>?_) (fun h4=>?_)
  ·refine M0 (xs:=x.Ao) k ?_
   rintro hi2 b2 o2 e s1
   rw [e]
   refine go ?_;intros
   refine ret () trivial ?_
   simp [E4,g1,hh,Jc hi2,Pv]
  ·refine go ?_;intros
   refine ret () trivial ?_
   simp [E4,g1,hh,N8 (show x.Ao.length≤k by omega),Pv]
 ·refine go ?_;intros
  refine ret () trivial ?_
  simp [E4,g1,Pv]
theorem Adi (n:Int) (j:Nat):Cg (Cg n 1) j=Cg n ((j+1:Nat):Int):=by unfold Cg;omega
theorem O0 {n:Int} (h0:0≤n) (h1:n≤65535):Cg n ((0:Nat):Int)=n:=by unfold Cg;omega
theorem Vm:∀(l:List Hq) (n:Int),0≤n→n≤65535→(rel n l).1=Cg n ((rel n l).2.2.length:Nat)
 | [],n,h0,h1=>(O0 h0 h1).symm
 | s::r,n,h0,h1=>by
  have ih:=Vm r (Cg n 1) (Ht _ _).1 (Ht _ _).2
  unfold rel
  split
  ·dsimp only
   rw [ih,Adi,List.length_cons]
  ·exact (O0 h0 h1).symm
theorem Aa0:∀(k:Nat) (x:An),0≤x.next→x.next≤65535→(Hj k x).next=Cg x.next (k:Nat)∧0≤(Hj k x).next∧(Hj k x).next≤65535
 | 0,x,h0,h1=>⟨(O0 h0 h1).symm,h0,h1⟩
 | k+1,x,h0,h1=>by
  obtain ⟨a,b,c⟩:=Aa0 k (Uu x) (Ht _ _).1 (Ht _ _).2
  unfold Hj
  exact ⟨by rw [a];show Cg (Cg x.next 1) k=_;rw [Adi],b,c⟩
theorem Agr (n:Int) (i j:Nat):Cg (Cg n i) j=Cg n ((i+j:Nat):Int):=by unfold Cg;omega
theorem Xd (k:Nat) (x:An) (h0:0≤x.next) (h1:x.next≤65535):(Mv (Hj k x)).next=Cg x.next ((Mp k x++Ob (Hj k x)).length:Nat):=by
 obtain ⟨a,b,c⟩:=Aa0 k x h0 h1
 have d:(Mv (Hj k x)).next=Cg (Hj k x).next ((Ob (Hj k x)).length:Nat):=Vm (Hj k x).Ao (Hj k x).next b c
 have e:∀(k:Nat) (x:An),(Mp k x).length=k:=by
  intro k
  induction k with
  | zero=>intro x;rfl
  | succ k ih=>intro x;unfold Mp;rw [List.length_cons,ih]
 rw [d,a,Agr,List.length_append,e]
theorem Aqj (n:Int) (j:Nat) (hj:j≤65535):gp n (Cg n j)=j:=by unfold gp Cg;omega
theorem Sx:∀(l:List Hq) (n:Int),(rel n l).2.1=l.drop (rel n l).2.2.length∧Ic (rel n l).2.1 0=false
 | [],n=>⟨rfl,rfl⟩
 | s::r,n=>by
  have ih:=Sx r (Cg n 1)
  unfold rel
  split
  ·dsimp only
   rw [List.length_cons,List.drop_succ_cons]
   exact ih
  ·rename_i h
   exact ⟨rfl,by simpa [Ic] using h⟩
theorem Q8:∀(k:Nat) (x:An),(Hj k x).Ao=x.Ao.drop k
 | 0,_=>rfl
 | k+1,x=>by unfold Hj;rw [Q8 k (Uu x)];simp [Uu,Nat.add_comm]
theorem Rb (l:List Hq) (m i:Nat):Ic (l.drop m) i=Ic l (m+i):=by unfold Ic;rw [List.getElem?_drop]
theorem Xc (k:Nat) (x:An) (hg:C6 x=true):C6 (Mv (Hj k x))=true:=by
 have g:=X5 hg
 unfold C6 at hg
 simp only [Bool.and_eq_true,decide_eq_true_eq] at hg
 obtain ⟨⟨⟨h1,h2⟩,h3⟩,h4⟩:=hg
 obtain ⟨d1,d2⟩:=Sx (Hj k x).Ao (Hj k x).next
 rw [Q8,List.drop_drop] at d1
 have hs:(Mv (Hj k x)).Ao=x.Ao.drop (k+(rel (Hj k x).next (x.Ao.drop k)).2.2.length):=by
  unfold Mv;dsimp only;rw [Q8,d1]
 have hn:=Xd k x g.n0 g.n1
 generalize k+(rel (Hj k x).next (x.Ao.drop k)).2.2.length=m at hs
 have h0:Ic (Mv (Hj k x)).Ao 0=false:=d2
 rw [hs] at h0
 have e1:B9 (Mv (Hj k x)).next=true:=by rw [hn];exact Mx _ _
 have e2:(x.Ao.drop m).all G0=true:=List.all_eq_true.2 fun z hz=>List.all_eq_true.1 h3 z (List.mem_of_mem_drop hz)
 have e3:Se (x.Ao.drop m)=true:=by
  unfold Se
  by_cases hz:(x.Ao.drop m).length=0
  ·rw [decide_eq_true hz];rfl
  ·rw [decide_eq_false hz,h0,Rb]
   unfold Se at h4
   rw [List.length_drop] at hz ⊢
   rw [decide_eq_false (show ¬x.Ao.length=0 by omega)] at h4
   simp only [Bool.false_or,Bool.and_eq_true] at h4
   rw [show m+(x.Ao.length - m - 1)=x.Ao.length - 1 by omega,h4.2]
   rfl
 unfold C6
 rw [e1,hs,e2,e3,decide_eq_true (by simp;omega)]
 rfl
theorem Afp {x:An} (hg:C6 x=true):Ic x.Ao 0=false:=by
 unfold C6 Se at hg
 simp only [Bool.and_eq_true,Bool.or_eq_true,decide_eq_true_eq,Bool.not_eq_true'] at hg
 rcases hg.2 with h|h
 ·exact N8 (by omega)
 ·exact h.1
theorem Ahc (x:An):(Ob x).length≤x.Ao.length:=by
 unfold Ob
 have:∀(l:List Hq) n,(rel n l).2.2.length≤l.length:=by
  intro l
  induction l with
  | nil=>intro n;exact Nat.le_refl _
  | cons s r ih =>
   intro n
   unfold rel
   split
   ·dsimp only;rw [List.length_cons,List.length_cons];exact Nat.succ_le_succ (ih _)
   ·exact Nat.zero_le _
 exact this _ _
theorem Aa3 (l:List Hq) (k i:Nat) (s:Hq) (hk:k < l.length):Ic (l.set k s) i=if i=k then s.Te else Ic l i:=by
 unfold Ic
 rw [List.getElem?_set]
 by_cases h:k=i
 ·subst h;simp [hk]
 ·rw [if_neg h,if_neg (fun e=>h e.symm)]
theorem Aen (x:An) (k:Nat) (s:Hq):(Jx x k s).length=max x.Ao.length (k+1):=by
 unfold Jx;rw [List.length_set,Mh];omega
theorem Aha (x:An) (k:Nat) (s:Hq):Ic (Jx x k s) k=s.Te:=by
 unfold Jx;rw [Aa3 _ _ _ _ (by rw [Mh];omega),if_pos rfl]
theorem Al3 (x:An) (k:Nat) (s:Hq):(Jx x k s)[k]?=some s:=by
 unfold Jx;rw [List.getElem?_set_self (by rw [Mh];omega)]
theorem Aor {x:An} {k:Nat} {s:Hq} (hx:x.Ao.all G0=true) (hs:G0 s=true):(Jx x k s).all G0=true:=by
 rw [List.all_eq_true] at hx ⊢
 intro z hz
 unfold Jx at hz
 rcases List.mem_or_eq_of_mem_set hz with h|rfl
 ·unfold J3 at h
  rcases List.mem_append.1 h with h|h
  ·exact hx z h
  ·rw [(List.mem_replicate.1 h).2];decide
 ·exact hs
theorem Ajc {x:An} {k:Nat} {s:Hq} (hx:Se x.Ao=true) (hs:s.Te=true):Ic (Jx x k s) ((Jx x k s).length - 1)=true:=by
 rw [Aen]
 by_cases h:x.Ao.length≤k+1
 ·rw [show max x.Ao.length (k+1) - 1=k by omega,Aha];exact hs
 ·unfold Jx
  rw [Aa3 _ _ _ _ (by rw [Mh];omega),if_neg (by omega)]
  unfold Se at hx
  rw [decide_eq_false (by omega)] at hx
  simp only [Bool.false_or,Bool.and_eq_true] at hx
  rw [show max x.Ao.length (k+1) - 1=x.Ao.length - 1 by omega]
  unfold J3
  rw [show k+1 - x.Ao.length=0 by omega]
  simpa using hx.2
theorem Al8 {n:Int} {L:List Hq} (hn:B9 n=true) (ho:L.all G0=true) (hl:L.length≤8) (he:Ic L (L.length - 1)=true∨L=[]):C6 (Mv ⟨n,L⟩)=true:=by
 obtain ⟨d1,d2⟩:=Sx L n
 have hs:(Mv ⟨n,L⟩).Ao=L.drop (rel n L).2.2.length:=d1
 obtain ⟨p0,p1⟩:=A9.1 hn
 have hnx:(Mv ⟨n,L⟩).next=Cg n ((rel n L).2.2.length:Nat):=Vm L n p0 p1
 generalize (rel n L).2.2.length=m at hs hnx
 have h0:Ic (Mv ⟨n,L⟩).Ao 0=false:=d2
 rw [hs] at h0
 have e1:B9 (Mv ⟨n,L⟩).next=true:=by rw [hnx];exact Mx _ _
 have e2:(L.drop m).all G0=true:=List.all_eq_true.2 fun z hz=>List.all_eq_true.1 ho z (List.mem_of_mem_drop hz)
 have e3:Se (L.drop m)=true:=by
  unfold Se
  by_cases hz:(L.drop m).length=0
  ·rw [decide_eq_true hz];rfl
  ·rw [decide_eq_false hz,h0,Rb]
   rw [List.length_drop] at hz ⊢
   rcases he with he|he
   ·rw [show m+(L.length - m - 1)=L.length - 1 by omega,he];rfl
   ·subst he;simp at hz
 unfold C6
 rw [e1,hs,e2,e3,decide_eq_true (by simp;omega)]
 rfl
theorem Alg (x:An) (n:Int) (s:ByteArray):(Id x n s).2.2=true→C6 x=true∧B9 n=true∧C6 (Id x n s).1=true∧gp x.next (Id x n s).1.next=((Id x n s).2.1.length:Nat)∧E4 (Id x n s).1 n=true∧(n=x.next→∃r,(Id x n s).2.1=Afz s::r)∧(Id x n s).2.1.length≤8∧s.size≤8:=by
 unfold Id
 split
 rotate_left
 ·intro h;cases h
 rename_i h
 intro _
 unfold Rh at h
 simp only [Bool.and_eq_true] at h
 obtain ⟨⟨⟨h1,h2⟩,h3⟩,h4⟩:=h
 have g:=X5 h1
 have p0:=g.n0
 have p1:=g.n1
 have pl:=g.l
 obtain ⟨n0,n1⟩:=A9.1 h2
 refine ⟨h1,h2,?_⟩
 dsimp only
 cases ht:E4 x n with
 | true =>
  have eW:Jp x n s=x:=by unfold Jp;rw [ht];rfl
  have eE:Jo x n s=[]:=by unfold Jo;rw [ht];rfl
  rw [eW,eE]
  refine ⟨h1,?_,ht,fun e=>?_,by simp,Sr h3⟩
  ·unfold gp;simp
  ·subst e
   exfalso
   unfold E4 at ht
   rw [Bool.or_eq_true] at ht
   rcases ht with h|h
   ·unfold Pu gp at h;simp at h;exact absurd h (by decide)
   ·unfold Hh at h
    rw [show gp x.next x.next=0 by unfold gp;omega] at h
    rw [show (0:Int).toNat=0 from rfl,Afp h1] at h
    cases h
 | false =>
  have hk8:gp x.next n < 8:=by unfold K8 at h4;rw [ht] at h4;simpa using h4
  have hgb:=Jb x.next n
  obtain ⟨k,hk⟩:∃k:Nat,gp x.next n=k:=⟨(gp x.next n).toNat,by omega⟩
  have eW:Jp x n s=Mv ⟨x.next,Jx x k ⟨true,s⟩⟩:=by unfold Jp;rw [ht,decide_eq_true hk8];unfold Vj;rw [hk,Int.toNat_natCast];rfl
  have eE:Jo x n s=(rel x.next (Jx x k ⟨true,s⟩)).2.2:=by unfold Jo;rw [ht,decide_eq_true hk8];unfold Vj;rw [hk,Int.toNat_natCast];rfl
  have hx:x.Ao.all G0=true∧Se x.Ao=true:=by
   unfold C6 at h1
   simp only [Bool.and_eq_true] at h1
   exact ⟨h1.1.2,h1.2⟩
  have hos:G0 ⟨true,s⟩=true:=by unfold G0;rw [h3];rfl
  have hL:=Aen x k ⟨true,s⟩
  have hat:=Aha x k ⟨true,s⟩
  have hget:=Al3 x k ⟨true,s⟩
  have ho:=Aor (k:=k) hx.1 hos
  have hla:=Ajc (k:=k) (s:=⟨true,s⟩) hx.2 rfl
  rw [eW,eE]
  generalize Jx x k ⟨true,s⟩=L at *
  have hl8:L.length≤8:=by omega
  have hrl:(rel x.next L).2.2.length≤L.length:=by
   have:=Ahc ⟨x.next,L⟩
   unfold Ob at this;dsimp only at this;omega
  obtain ⟨d1,d2⟩:=Sx L x.next
  have hnx:=Vm L x.next p0 p1
  have hn:n=Cg x.next (k:Nat):=by rw [←hk];unfold gp Cg;omega
  refine ⟨Al8 (A9.2 ⟨p0,p1⟩) ho hl8 (.inl hla),?_,?_,?_,by omega,Sr h3⟩
  ·show gp x.next (rel x.next L).1=_
   rw [hnx];exact Aqj _ _ (by omega)
  ·unfold E4
   show (Pu n (rel x.next L).1 || Ic (rel x.next L).2.1 (gp (rel x.next L).1 n).toNat)=true
   rw [hnx,d1]
   generalize (rel x.next L).2.2.length=m at *
   by_cases hkm:k < m
   ·rw [show Pu n (Cg x.next (m:Nat))=true by rw [hn];unfold Pu Ig gp Cg;rw [Bool.and_eq_true];simp only [decide_eq_true_eq];omega];rfl
   ·rw [show gp (Cg x.next (m:Nat)) n=((k - m:Nat):Int) by rw [hn];unfold gp Cg;omega,Int.toNat_natCast,Rb,show m+(k - m)=k by omega,hat]
    simp
  ·intro e
   have hk0:k=0:=by rw [e] at hk;unfold gp at hk;omega
   subst hk0
   cases L with
   | nil=>simp at hget
   | cons z r =>
    simp at hget
    subst hget
    exact ⟨(rel (Cg x.next 1) r).2.2,by simp [rel]⟩
theorem Ahe {s:ByteArray} (h:s.size≤maxLen) (w:World):Cw Ba w [.string s] [s] []:=⟨_,[],[],[],by simp,by simp,⟨rfl,h,rfl⟩,rfl,rfl⟩
theorem Tp {c:Cx} {fr:Fr} {H:List Pc} {Φ:Gl} {α:Type} {E:Bv α} {v:Value} {xs:List α} {F:List Nat} (h:∀a cp,v=.slice a xs.length cp→xs.length≤cp→cp≤9223372036854775807→T c fr H Φ) (hm:.sl E v xs F∈H:=by exact B8):T c fr H Φ:=.mk fun ac w s g=>by
 obtain ⟨-,hs⟩:=s.get hm
 obtain ⟨a,cp,rfl⟩:=hs.slice
 obtain ⟨-,h2,h3⟩:=hs.caps
 exact (h a cp rfl h2 (by unfold maxLen at h3;omega)).h ac w s g
theorem Ei {c:Cx} {fr:Fr} {H:List Pc} {Φ:Gl} {α:Type} {E:Bv α} {t g:Nat} {cs:List Value} {xs:List α} {S:List Pc} (hfl:∀w,Cw E w cs xs []) (h:T c fr (.ow E t (.slice (some ⟨g,0,none⟩) xs.length xs.length) xs [g]::S) Φ) (hl:xs.length≤1000000) (hp:C0 H (.row g t 0 [] cs []) S:=by exact D0):T c fr H Φ:=.mk fun a w s g'=>by
 have s1:=s.pick hp
 have hr:=(s1.on (.row g t 0 [] cs []) (by simp)).2
 have hlen:=(hfl w).len
 refine h.h a w (s1.conv rfl ⟨by simp,.inr ⟨g,xs.length,cs,[],[],rfl,by simpa using hr,Nat.le_refl _,by unfold maxLen;omega,by simpa using hlen,hfl w,rfl⟩⟩ (by simp [Pc.F])) g'
theorem An3 {P:Program} {f:FuncId} {args:List Value} {A:List Pc} {σ:Type} {C:σ→Prop} {v:σ→Value} {N:σ→Pc}
  (h:∀w,Nf A w→Calls P f args.toArray w fun e w'=>∃s,C s∧e=.returned (v s)∧(N s).P w'∧(∀b∈(N s).F,w.heap.size≤b)∧Below w.heap.size w w'):Fn P f args A [] C v (fun s=>[N s]):=fun w hA _=>by
 refine (h w (by simpa using hA)).mono ?_
 rintro e w' ⟨s,hC,he,hN,hF,hB⟩
 refine ⟨s,hC,he,Il hN,⟨by simp,trivial⟩,Dy.ofBelow hB,fun p hp b hb=>?_⟩
 simp at hp
 subst hp
 exact .inl (hF b hb)
def Od (t:Int) (k:Nat):List Int:=(List.range k).map fun i=>Cg t (i:Nat)
theorem Uo (t:Int) (k:Nat):Od t (k+1)=Od t k++[Cg t (k:Nat)]:=by unfold Od;rw [List.range_succ,List.map_append];rfl
theorem Wr (t:Int) (k:Nat):(Od t k).length=k:=by unfold Od;simp
theorem Rm (n:Int) (w:World):Cw Bd w [.int .i64 n] [n] []:=⟨_,[],[],[],by simp,by simp,⟨rfl,rfl⟩,rfl,rfl⟩
structure SpS where
 k:Nat
 a:Option Addr
 c:Nat
 F:List Nat
theorem Aq5 (t:Int) (n:Nat) (t0:0≤t) (t1:t≤65535) (hn:n≤65536):Fn prog 302 [.int .i64 t,.int .i64 (n:Nat)] [] [] (fun (_:Option Addr × Nat × List Nat)=>True) (fun s=>.slice s.1 (Od t n).length s.2.1) (fun s=>[.ow Bd 3 (.slice s.1 (Od t n).length s.2.1) (Od t n) s.2.2]):=by
 refine enter func302 rfl ntmps302 fun w0=>?_
 refine go ?_;intros
 refine Cb Bd 3 ?_
 refine Cp [0,4,7] (fun s:SpS=>[(5,.slice s.a (Od t s.k).length s.c),(8,.int .i64 (s.k:Nat))]) (fun s=>[.ow Bd 3 (.slice s.a (Od t s.k).length s.c) (Od t s.k) s.F]) (fun s=>s.k≤n) (fun s=>n - s.k) ⟨0,none,0,[]⟩ (Nat.zero_le _) fun s hs=>?_
 obtain ⟨k,a,c,F⟩:=s
 dsimp only at hs ⊢
 have hl:=Wr t k
 refine go ?_;intros
 refine Bg rfl (fun h1=>?_) (fun h1=>?_)
 ·refine go ?_;intros
  refine ce (fun w s=>Ot _ _ _ (by omega) (by omega)) ?_
  refine go ?_;intros
  apply wO
  refine Mf (Rm _) C8 fun a2 c2 F2=>?_
  refine go ?_;intros
  rw [←Uo]
  refine Ck ⟨k+1,a2,c2,F2⟩ (by show k+1≤n;omega) (by show n - (k+1) < n - k;omega)
 ·have hk:k=n:=by omega
  subst hk
  refine go ?_;intros
  refine ret (a,c,F) trivial rfl
section
variable {P:Program} {n:Nat} {fr:Fr} {H:List Pc} {ty:TypeId} {x y z:Operand}
end
section
variable {c:Cx} {fr:Fr} {H:List Pc} {k:List It} {Φ:Gl} {ops:Array Oper} {rest:List Oper} {d:Nat} {o:Op} {ty:TypeId} {v u:Value} {x y:Operand}
theorem Acl {t e m b:Nat} {z:Value} [hS:SlC c.P t e m] [hE:ElT c.P e z m b] (k:Nat) {kl kc:IntKind} {cs:List Value} (hd:Nat.blt d c.n=true) (hx:ev fr x=some (.int kl (k:Nat))) (hy:ev fr y=some (.int kc (k:Nat))) (hcs:madeCells z.cells (k * m)=cs.toArray) (hb:b * k≤281474976710656) (h63:k≤9223372036854775807)
  (h:∀g,T c ((d,.slice (some ⟨g,0,none⟩) k k)::fr) (.row g e 0 [] cs []::H) Φ):On c fr H (some d) (.makeSlice t x y) ty Φ:=⟨fun _ _ _=>Ni fun Q a w s g=>by
 obtain ⟨i,hi,hiz⟩:=Option.map_eq_some_iff.1 hE.i
 simp only [Prod.mk.injEq] at hiz
 obtain ⟨i1,i2,i3⟩:=hiz
 have hb':(i.bytes:Int) * ((k:Nat):Int)≤281474976710656:=by rw [i3];have:((b * k:Nat):Int)≤281474976710656:=by omega
                                                            rwa [Int.natCast_mul] at this
 have hr:=run_make (P:=c.P) w t e i z hS.u hi i1 kl kc (k:Nat) (k:Nat) (by omega) (by omega) hb' (by omega)
 simp only [Int.toNat_natCast,i2,hcs] at hr
 have e1:∀pos Cg gd,(execOp a.eval ⟨some d,.makeSlice t x y,ty,pos,Cg,gd⟩).run c.P w=.ok (.value (.slice (some ⟨w.heap.size,0,none⟩) k k)) (w.alloc (.cells cs.toArray e)):=by
  intro pos Cg gd
  simp [execOp,g.ev hx,g.ev hy,hr]
 rw [e1]
 exact (h _).h _ _ (s.new e cs) (g.put hd)⟩
theorem Ya {fo:Operand} {f:Nat} {caps:List Value} {aS:List Operand} {ts:Array TypeId} {vs:List Value} (hd:Nat.blt d c.n=true) (hf:ev fr fo=some (.func (.func f) #[] caps.toArray)) (hb:Om c.P f=true) (ha:Evs fr aS vs) (h:Cl c fr H d f (vs++caps) Φ):On c fr H (some d) (.call { callee:=.value fo,args:=aS.toArray,argTypes:=ts }) ty Φ:=⟨fun _ _ _=>Ni fun Q a w s g=>by
 have e:∀pos Cg gd,(execOp a.eval ⟨some d,.call { callee:=.value fo,args:=aS.toArray,argTypes:=ts },ty,pos,Cg,gd⟩).run c.P w=(callFunc f (vs++caps).toArray).run c.P w:=by
  intro pos Cg gd
  simp [execOp,resolve,Deferred.ofValue,g.ev hf,invoke,g.evs ha]
 rw [e]
 obtain ⟨R,hc,hk⟩:=h.h w s
 refine (Q6 hb).upon hc fun e w' hR=>?_
 obtain ⟨v,he,hv⟩:=hk e w' hR
 exact ⟨v,he,hv _ (g.put hd)⟩⟩
theorem Ahk {α:Type} {E:Bv α} {a:Option Addr} {n cp:Nat} {xs:List α} {F:List Nat} (k:Nat) (h:∀F',T c fr (.sl E (.slice a (xs.take k).length cp) (xs.take k) F'::H) Φ) (hk:k≤xs.length) (hm:.sl E (.slice a n cp) xs F∈H:=by exact B8):T c fr H Φ:=.mk fun ac w s g=>by
 obtain ⟨hz,hs⟩:=s.get hm
 obtain ⟨F',hF,h2⟩:=hs.takeS k hk
 have hl:(xs.take k).length=k:=by simp [Nat.min_eq_left hk]
 have h':=h F'
 rw [hl] at h'
 exact h'.h _ w (s.ro hm rfl rfl ⟨hz,h2⟩ hF) g
end
theorem I6:∀(H:List Pc),I8 H H
 | []=>.nil
 | _::R=>.cons .here (I6 R)
theorem Cw.all {α:Type} {E:Bv α} {w:World} {cs:List Value} {xs:List α} (h:Cw E w cs xs []) (w':World):Cw E w' cs xs []:=h.frame (by simp)
theorem Cw.cutL {α:Type} {E:Bv α} {w:World} {cs:List Value} {xs:List α} (h:Cw E w cs xs []) (i:Nat) (hi:i≤xs.length):Cw E w (cs.take (i * E.sz)) (xs.take i) []∧Cw E w (cs.drop (i * E.sz)) (xs.drop i) []:=by
 rw [←List.take_append_drop i xs] at h
 obtain ⟨c1,c2,G1,G2,rfl,hG,h1,h2⟩:=h.split
 obtain ⟨rfl,rfl⟩:=List.append_eq_nil_iff.1 hG.symm
 have hl:=h1.len
 rw [List.length_take,Nat.min_eq_left hi] at hl
 rw [List.take_left' hl,List.drop_left' hl]
 exact ⟨h1,h2⟩
theorem Cw.insL {α:Type} {E:Bv α} {w:World} {cs c1:List Value} {xs:List α} {x:α} (h:Cw E w cs xs []) (h1:Cw E w c1 [x] []) (i:Nat) (hi:i≤xs.length):Cw E w (cs.take (i * E.sz)++c1++cs.drop (i * E.sz)) (xs.take i++x::xs.drop i) []:=by
 obtain ⟨ha,hb⟩:=h.cutL i hi
 have:=(ha.append h1).append hb
 simpa using this
section
variable {P:Program} {n:Nat} {fr:Fr} {H:List Pc} {ty:TypeId} {x y z:Operand}
theorem Iz {t e m i g o len cp:Nat} {kd:IntKind} {q:Int} [hS:SlC P t e m] (hx:ev fr x=some (.slice (some ⟨g,o,none⟩) len cp)) (hy:ev fr y=some (.int kd q)) (hq:q=(i:Int)) (hi:i≤len) (hc:i < cp) (hlc:len≤cp):Yd P n fr H (.slice t x (some y) none none) ty (.slice (some ⟨g,o+i * m,none⟩) (len - i) (cp - i)):=.mk fun ac w d pos Cg gd hA _=>by
 subst hq
 have he2:P.elem t=e:=by simp [Program.elem,hS.u]
 have h3:(Instr.sliceAt t (.slice (some ⟨g,o,none⟩) len cp) (some (.int kd (i:Int))) none none).run P w=.ok (.slice (some ⟨g,o+i * m,none⟩) (len - i) (cp - i)) w:=by
  rw [run_sliceAt_slice (h:=by rw [he2];exact hS.u),run_slice_l (ht:=by rw [he2];exact hS.u) (h0:=by omega) (h1:=by omega),he2,Ki hS.s]
  have h0:¬(cp - i=0):=by omega
  have h0':¬(cp=i):=by omega
  simp [Result.andThen,sliced,h0,h0',Addr.add_lit]
 simp only [execOp,Option.map_none,Option.map_some,hA.ev hx,hA.ev hy,Sem.run_bind,h3,Result.andThen_ok,Sem.run_pure]
theorem Agn {k:IntKind} {a:Int} {s t:TypeId} [hS:IntC P s k] [hD:IntC P t .u64] (hx:ev fr x=some (.int k a)) (h0:0≤a) (h1:a≤18446744073709551615):Yd P n fr H (.convert s t x) ty (.int .u64 a):=.mk fun c w d pos Cg gd hA _=>by
 simp [execOp,hA.ev hx,convert,run_underlying hS.u,run_underlying hD.u,Conv.intToInt,IntWalk.u64_in _ ⟨h0,h1⟩]
theorem Ac7 {a:Int} {t t':TypeId} (hx:ev fr x=some (.int .u64 a)):Yd P n fr H (.binOp .shr t x (.const (.int .u64 1)) t') ty (.int .u64 (a / 2)):=.mk fun c w d pos Cg gd hA _=>by
 have e:Op.shift .shr .u64 a .u64 1=pure (.int .u64 (a / 2)):=by rw [shift_shr .u64 .u64 a 1 (by decide) (by decide)];rfl
 have e2:binOp .shr t (.int .u64 a) (.int .u64 1)=Op.shift .shr .u64 a .u64 1:=rfl
 have e3:c.eval (.const (.int .u64 1))=.int .u64 1:=rfl
 simp only [execOp,hA.ev hx,e3,eqGuard_shr,e2,e,Sem.run_bind,Sem.run_pure,Result.andThen_ok]
theorem Agm {a:Option Addr} {len cp t e m:Nat} [hS:SlC P t e m] (hx:ev fr x=some (.slice a len cp)):Yd P n fr H (.call { callee:=.builtin .cap,args:=#[x],argTypes:=#[t] }) ty (.int .i64 cp):=.mk fun ac w d pos Cg gd hA _=>by
 simp [execOp,hA.ev hx,resolve,invoke,builtin,Builtin.cap_,run_underlying hS.u,goInt]
end
section
variable {c:Cx} {fr:Fr} {H k':List Pc} {k:List It} {Φ:Gl} {d:Nat} {o:Op} {ty:TypeId} {v u:Value} {x y:Operand}
theorem Ac1 {α:Type} {E:Bv α} (sc:U1 E) {t n cp:Nat} {a:Option Addr} {xs:List α} {F:List Nat} {S:List Pc} (h0:xs≠[])
  (h:∀g cs rest,a=some ⟨g,0,none⟩→n=xs.length→xs.length≤cp→cp≤9223372036854775807→cs.length=xs.length * E.sz→cs.length+rest.length=cp * E.sz→(∀w,Cw E w cs xs [])→T c fr (.row g t 0 [] (cs++rest) []::S) Φ)
  (hp:C0 H (.ow E t (.slice a n cp) xs F) S:=by exact D0):T c fr H Φ:=.mk fun ac w s g'=>by
 have s1:=s.pick hp
 obtain ⟨hnd,ho⟩:=s1.on (.ow E t (.slice a n cp) xs F) (by simp)
 have hF:=ho.scal sc
 rcases ho with ⟨-,h2, -⟩|⟨g,cap,cs,rest,G,h1,h2,h3,h4,h5,h6,h7⟩
 ·exact absurd h2 h0
 ·cases h1
  have hG:G=[]:=by rw [h7] at hF;simpa [Value.ownBlock] using hF
  subst hG h7
  have hl:=h6.len
  refine (h g cs rest rfl rfl h3 (by unfold maxLen at h4;omega) hl h5 (fun w'=>h6.all w')).h ac w (s1.conv rfl ⟨rfl,by simpa using h2⟩ (by simp [Pc.F])) g'
theorem Ws {α:Type} {E:Bv α} {t g:Nat} {L cs rest:List Value} {xs:List α} {S:List Pc} (cp:Nat) (hL:L=cs++rest) (hf:∀w,Cw E w cs xs []) (h1:xs.length≤cp) (h2:cp≤9223372036854775807) (h3:L.length=cp * E.sz)
  (h:T c fr (.ow E t (.slice (some ⟨g,0,none⟩) xs.length cp) xs [g]::S) Φ) (hp:C0 H (.row g t 0 [] L []) S:=by exact D0):T c fr H Φ:=.mk fun ac w s g'=>by
 subst hL
 have s1:=s.pick hp
 have hr:=(s1.on (.row g t 0 [] (cs++rest) []) (by simp)).2
 exact h.h ac w (s1.conv rfl ⟨by simp,.inr ⟨g,cp,cs,rest,[],rfl,by simpa using hr,h1,by unfold maxLen;omega,by simpa using h3,hf w,rfl⟩⟩ (by simp [Pc.F])) g'
theorem Alu {f:Nat} {aS:List Operand} {ts:Array TypeId} {vs:List Value} (hd:Nat.blt d c.n=true) (ha:Evs fr aS vs) (hv:∀w,St c.G c.D c.w0 H w→(callFunc f vs.toArray).run c.P w=.ok (.value v) w) (h:T c ((d,v)::fr) H Φ):On c fr H (some d) (.call { callee:=.value (.func f),args:=aS.toArray,argTypes:=ts }) ty Φ:=⟨fun _ _ _=>Ni fun Q a w s g=>by
 have e:∀pos Cg gd,(execOp a.eval ⟨some d,.call { callee:=.value (.func f),args:=aS.toArray,argTypes:=ts },ty,pos,Cg,gd⟩).run c.P w=.ok (.value v) w:=by
  intro pos Cg gd
  simp [execOp,resolve,Deferred.ofValue,Act.eval,invoke,g.evs ha,hv w s]
 rw [e]
 exact h.h _ _ s (g.put hd)⟩
theorem Abp {w:World} {g:Nat} {t:TypeId} {cs:List Value} (h:Hm w g t cs):w.shape? g=some (t,cs.length):=by
 unfold World.shape?;rw [show w.heap[g]?=_ from h];simp
theorem ovl {f:Nat} {tS tR e m:Nat} [hS:SlC c.P tS e m] {g o g2 o2 la ca lb cb t1 t2:Nat} {L L2:List Value}
  (he:∀(args:Array Value) (w:World),(callFunc f args).run c.P w=((Extern.SlicesOverlaps.overlaps #[tS,tS] #[tR] args).run c.P w).andThen fun v w=>.ok (.value v) w)
  (h1:C0 H (.row g t1 0 [] L []) k') (h2:.row g2 t2 0 [] L2 []∈k') (hL:L2≠[]) (w:World) (s:St c.G c.D c.w0 H w) :
  (callFunc f [Value.slice (some ⟨g,o,none⟩) la ca,.slice (some ⟨g2,o2,none⟩) lb cb].toArray).run c.P w=.ok (.value (.bool false)) w:=by
 have s1:=s.pick h1
 have r1:=(s1.on (.row g t1 0 [] L []) (by simp)).2
 have r2:=(s1.on (.row g2 t2 0 [] L2 []) (by simp [h2])).2
 have hne:g≠g2:=fun e'=>s1.Zr.1 (.row g2 t2 0 [] L2 []) h2 (by simp [Pc.mu]) g (by simp [Pc.F]) (by simp [Pc.F,e'])
 simp only [List.nil_append,List.append_nil] at r1 r2
 rw [he,Lib.run_overlaps_apart w tS tR e hS.u m (fun w=>Ki hS.s w) ⟨g,o,none⟩ ⟨g2,o2,none⟩ la ca lb cb hne t1 t2 L.length L2.length (Abp r1) (Abp r2) (by simpa using hL) (r1.frozen _) (r1.frozen _)]
 rfl
theorem Xx {P M Q d L:List Value} {o:Nat} (hL:L=P++M++Q) (ho:o=P.length) (hd:M.length=d.length):P++d++Q=L.take o++d++L.drop (o+d.length):=by
 subst hL ho
 rw [List.append_assoc P M Q,List.take_left,←hd,←List.append_assoc,←List.length_append,List.drop_left]
theorem Agb {B R:List Value} (m:Nat) (h:m≤R.length):∃X Y,B++R=X++Y++R.drop m∧X.length=m∧Y.length=B.length:=by
 refine ⟨(B++R).take m,((B++R).drop m).take B.length,?_,by simp;omega,by simp;omega⟩
 have:R.drop m=((B++R).drop m).drop B.length:=by rw [List.drop_drop,Nat.add_comm,←List.drop_drop,List.drop_left]
 rw [this,List.append_assoc,List.take_append_drop,List.take_append_drop]
theorem Kj {g t o m:Nat} {L cs:List Value} (h1:.row g t 0 [] L []∈H) (hc:cs=(L.drop o).take m) (w:World) (s:St c.G c.D c.w0 H w):∀j u,cs[j]?=some u→w.cell? ((⟨g,o,none⟩:Addr).add j)=some u:=fun j u hu=>by
 subst hc
 have r1:=(s.on (.row g t 0 [] L []) h1).2
 simp only [List.nil_append,List.append_nil] at r1
 rw [Addr.add_lit,r1.cell]
 rw [List.getElem?_take] at hu
 split at hu
 ·rw [List.getElem?_drop] at hu;exact hu
 ·cases hu
theorem Ajj {P:Program} (w:World) (dT sT ty elem m:TypeId) (b o dLen dCap:Nat) (a:Addr) (sLen sCap:Nat) (cs:List Value)
  (hu:P.underlying dT=some (.slice elem)) (hs:(P.info? elem).map (·.size)=some m) (hn:cs.length=Nat.min sLen dLen * m)
  (hsrc:∀j v,cs[j]?=some v→w.cell? (a.add j)=some v) (hc:∀j,j < cs.length→(w.cell? ⟨b,o+j,none⟩).isSome=true) (hf:∀j,j < cs.length→w.frozen? ⟨b,o+j,none⟩=false) (h1:∀v∈cs,v.oneCell'=true) :
  (Builtin.copy_ #[dT,sT] ty #[.slice (some ⟨b,o,none⟩) dLen dCap,.slice (some a) sLen sCap]).run P w=.ok (goInt (Nat.min sLen dLen:Nat)) (w.setCells b o cs):=by
 have hl:=run_loadCells_list (P:=P) w a cs hsrc
 have hst:=run_storeCells_cells (P:=P) b o cs 0 w (by simpa using hc) (by simpa using hf) h1
 cases hq:P.info? elem with
 | none=>simp [hq] at hs
 | some i =>
  have hi:i.size=m:=by simpa [hq] using hs
  simp [Builtin.copy_,run_underlying hu,Builtin.lenOf,Builtin.firstCells,sizeOf,typeInfo,hq,hi,←hn,hl,hst]
theorem Sc {dT sT e m g t oo dn dc sn sc:Nat} {ad:Addr} {L L' cs:List Value} {S:List Pc} [hS:SlC c.P dT e m] (hd:Nat.blt d c.n=true) (hx:ev fr x=some (.slice (some ⟨g,oo,none⟩) dn dc)) (hy:ev fr y=some (.slice (some ad) sn sc))
  (hsrc:∀w,St c.G c.D c.w0 H w→∀j u,cs[j]?=some u→w.cell? (ad.add j)=some u) (hr:Rpl H (.row g t 0 [] L []) (.row g t 0 [] L' []) S)
  (hL:L'=L.take oo++cs++L.drop (oo+cs.length)) (hn:cs.length=Nat.min sn dn * m) (hfit:oo+cs.length≤L.length) (h1:∀v∈cs,v.oneCell'=true) (h:T c ((d,.int .i64 (Nat.min sn dn:Nat))::fr) S Φ) :
  On c fr H (some d) (.call { callee:=.builtin .copy,args:=#[x,y],argTypes:=#[dT,sT] }) ty Φ:=⟨fun _ _ _=>Ni fun Q a w s ag=>by
 have hP:(Pc.row g t 0 [] L []).P w:=by obtain ⟨R,h1,_⟩:=hr.picks;exact s.on _ h1.mem
 have r1:=hP.2
 simp only [List.nil_append,List.append_nil] at r1
 have hrun:=fun ty=>Ajj (P:=c.P) w dT sT ty e m g oo dn dc ad sn sc cs hS.u hS.s hn (hsrc w s) (fun j hj=>by rw [r1.cell,List.getElem?_eq_getElem (by omega)];rfl) (fun j hj=>r1.frozen _) h1
 have e1:∀pos Cg gd,(execOp a.eval ⟨some d,.call { callee:=.builtin .copy,args:=#[x,y],argTypes:=#[dT,sT] },ty,pos,Cg,gd⟩).run c.P w=.ok (.value (goInt (Nat.min sn dn:Nat))) (w.setCells g oo cs):=by
  intro pos Cg gd
  simp only [execOp,resolve,invoke,builtin,Sem.run_bind,Sem.run_pure,Result.andThen_ok,List.map_toArray,List.map_cons,List.map_nil,ag.ev hx,ag.ev hy,hrun]
 rw [e1]
 have hsplit:L=L.take oo++(L.drop oo).take cs.length++L.drop (oo+cs.length):=by
  rw [←List.drop_drop,List.append_assoc,List.take_append_drop,List.take_append_drop]
 have r2:=r1
 rw [hsplit] at r2
 have r3:=Hm.put cs _ r2 (p:=oo) (by simp;omega) (by simp;omega)
 have hk:=Jk (g:=g) cs w oo
 rw [J9 w g cs w] at r3 hk
 rw [←hL] at r3
 refine h.h _ _ (s.rpl hr rfl (fun b hb=>.inl hb) hk ⟨rfl,by simpa using r3⟩) (ag.put hd)⟩
theorem Afy {t tn e m b g oo n cp k:Nat} {zv:Value} {olds:List Value} {q:Int} [hS:SlC c.P t e m] [hE:ElT c.P e zv m b] [hI:IntC c.P tn .i64] (hd:Nat.blt d c.n=true) (hx:ev fr x=some (.slice (some ⟨g,oo,none⟩) n cp)) (hy:ev fr y=some (.int .i64 q)) (hq:q=(k:Int))
  (hso:∀w,St c.G c.D c.w0 H w→∀j u,olds[j]?=some u→w.cell? ((⟨g,oo,none⟩:Addr).add j)=some u)
  (hlo:olds.length=n * m) (hm:0 < m) (hk:0 < k) (hg:cp < n+k) (h63:n+k≤4294967296) (hby:(n+k) * b≤140737488355328)
  (h:∀g' cp' Z rest,n+k≤cp'→cp'≤9223372036854775807→Z.length=k * m→(olds++Z++rest).length=cp' * m→T c ((d,.slice (some ⟨g',0,none⟩) ((n+k:Nat)) cp')::fr) (.row g' e 0 [] (olds++Z++rest) []::H) Φ) :
  On c fr H (some d) (.call { callee:=.builtin .append,args:=#[x,y],argTypes:=#[t,tn] }) ty Φ:=⟨fun _ _ _=>Ni fun Q a w s ag=>by
 subst hq
 obtain ⟨i,hi,hiz⟩:=Option.map_eq_some_iff.1 hE.i
 simp only [Prod.mk.injEq] at hiz
 obtain ⟨i1,i2,i3⟩:=hiz
 subst i2 i3
 have hold:(Builtin.firstCells i.size n (.slice (some ⟨g,oo,none⟩) n cp)).run c.P w.drew=.ok olds.toArray w.drew:=run_firstCells_some w.drew i.size n ⟨g,oo,none⟩ n cp olds hlo (fun j v hj=>hso w s j v hj)
 have hr:=fun ty=>Lib.run_append_grow_zeros (P:=c.P) w t tn ty e i zv .i64 .i64 hS.u hI.u hi i1 (some ⟨g,oo,none⟩) n cp olds hold k hk hm hg (by omega) (Nat.le_trans (Nat.mul_le_mul_right _ (by omega)) (Nat.le_trans hby (by decide))) (growslice_fits hg hby)
 have e1:∀pos Cg gd,(execOp a.eval ⟨some d,.call { callee:=.builtin .append,args:=#[x,y],argTypes:=#[t,tn] },ty,pos,Cg,gd⟩).run c.P w=.ok (.value (.slice (some ⟨w.heap.size,0,none⟩) (n+k) (grownCap w (n+k) cp e))) (w.drew.alloc (.cells (olds.toArray++Builtin.zeroCells zv.cells k++Builtin.zeroCells zv.cells (grownCap w (n+k) cp e - (n+k))) e)):=by
  intro pos Cg gd
  simp only [execOp,resolve,invoke,builtin,Sem.run_bind,Sem.run_pure,Result.andThen_ok,List.map_toArray,List.map_cons,List.map_nil,ag.ev hx,ag.ev hy,hr]
 rw [e1]
 have hge:=grownCap_ge w (n+k) cp e
 have hle:=grownCap_le_maxLen w (n+k) cp e (by unfold maxLen;omega)
 have hBel:Below w.heap.size w (w.drew.alloc (.cells (olds.toArray++Builtin.zeroCells zv.cells k++Builtin.zeroCells zv.cells (grownCap w (n+k) cp e - (n+k))) e)):=(Ek (Below.refl w.heap.size w) 1).alloc (Nat.le_refl _) _
 have hz:∀q,(Builtin.zeroCells zv.cells q).toList.length=q * i.size:=fun q=>by rw [Kv,hE.s]
 refine (h w.heap.size (grownCap w (n+k) cp e) (Builtin.zeroCells zv.cells k).toList (Builtin.zeroCells zv.cells (grownCap w (n+k) cp e - (n+k))).toList hge (by unfold maxLen at hle;omega) (hz k) ?_).h _ _ (s.add (N:=[.row w.heap.size e 0 [] (olds++(Builtin.zeroCells zv.cells k).toList++(Builtin.zeroCells zv.cells (grownCap w (n+k) cp e - (n+k))).toList) []]) hBel ?_ ⟨by simp,trivial⟩ ?_) (ag.put hd)
 ·rw [List.length_append,List.length_append,hz,hz,hlo,←Nat.add_mul,←Nat.add_mul];congr 1;omega
 ·intro p hp
  rw [List.mem_singleton] at hp;subst hp
  refine ⟨rfl,?_⟩
  have:=Hm.made w.drew e (olds++(Builtin.zeroCells zv.cells k).toList++(Builtin.zeroCells zv.cells (grownCap w (n+k) cp e - (n+k))).toList)
  rw [List.nil_append,List.append_nil]
  have e2:(olds++(Builtin.zeroCells zv.cells k).toList++(Builtin.zeroCells zv.cells (grownCap w (n+k) cp e - (n+k))).toList).toArray=olds.toArray++Builtin.zeroCells zv.cells k++Builtin.zeroCells zv.cells (grownCap w (n+k) cp e - (n+k)):=by apply Array.ext';simp
  rw [e2] at this
  exact this
 ·intro p hp b hb
  rw [List.mem_singleton] at hp;subst hp
  simp [Pc.F] at hb;subst hb
  exact .inl (Nat.le_refl _)⟩
theorem Acm {t e m n cp i:Nat} {a:Option Addr} {q:Int} [hS:SlC c.P t e m] (hd:Nat.blt d c.n=true) (hx:ev fr x=some (.slice a n cp)) (hy:ev fr y=some (.int .i64 q)) (hq:q=(i:Int)) (hi:i≤n) (h:∀v,T c ((d,v)::fr) H Φ) (hlc:n≤cp:=by omega):On c fr H (some d) (.slice t x (some y) none none) ty Φ:=⟨fun _ _ _=>Ni fun Q ac w s g=>by
 subst hq
 have he2:=X4 hS
 obtain ⟨v,h3⟩:∃v,(Instr.sliceAt t (.slice a n cp) (some (.int .i64 (i:Int))) none none).run c.P w=.ok v w:=by
  rw [run_sliceAt_slice (h:=by rw [he2];exact hS.u),run_slice_l (ht:=by rw [he2];exact hS.u) (h0:=by omega) (h1:=by omega),he2,Ki hS.s]
  exact ⟨_,rfl⟩
 have e1:∀pos Cg gd,(execOp ac.eval ⟨some d,.slice t x (some y) none none,ty,pos,Cg,gd⟩).run c.P w=.ok (.value v) w:=by
  intro pos Cg gd
  simp only [execOp,Option.map_none,Option.map_some,g.ev hx,g.ev hy,Sem.run_bind,h3,Result.andThen_ok,Sem.run_pure]
 rw [e1]
 exact (h v).h _ w s (g.put hd)⟩
end
section
variable {P:Program} {n:Nat} {fr:Fr} {H:List Pc} {ty:TypeId}
theorem Arg {f:Nat} {bs caps:List Operand} {us vs:List Value} (hb:Evs fr bs us) (hc:Evs fr caps vs):Yd P n fr H (.makeFunc (.func f) bs.toArray caps.toArray) ty (.func (.func f) us.toArray vs.toArray):=.mk fun c w d pos Cg gd hA _=>by
 simp [execOp,Instr.makeFunc,hA.evs hb,hA.evs hc]
end
section
variable {c:Cx} {fr:Fr} {H:List Pc} {k:List It} {Φ:Gl} {d:Nat} {ty:TypeId} {x:Operand}
theorem Vf {fo:Operand} {f:Nat} {bd caps:List Value} {aS:List Operand} {ts:Array TypeId} {vs:List Value} (hd:Nat.blt d c.n=true) (hf:ev fr fo=some (.func (.func f) bd.toArray caps.toArray)) (hb:Om c.P f=true) (ha:Evs fr aS vs) (h:Cl c fr H d f (bd++vs++caps) Φ):On c fr H (some d) (.call { callee:=.value fo,args:=aS.toArray,argTypes:=ts }) ty Φ:=⟨fun _ _ _=>Ni fun Q a w s g=>by
 have e:∀pos Cg gd,(execOp a.eval ⟨some d,.call { callee:=.value fo,args:=aS.toArray,argTypes:=ts },ty,pos,Cg,gd⟩).run c.P w=(callFunc f (bd++vs++caps).toArray).run c.P w:=by
  intro pos Cg gd
  simp [execOp,resolve,Deferred.ofValue,g.ev hf,invoke,g.evs ha]
 rw [e]
 obtain ⟨R,hc,hk⟩:=h.h w s
 refine (Q6 hb).upon hc fun e w' hR=>?_
 obtain ⟨v,he,hv⟩:=hk e w' hR
 exact ⟨v,he,hv _ (g.put hd)⟩⟩
theorem Acz {α:Type} {E:Bv α} (sc:U1 E) {t n cp:Nat} {a:Option Addr} {xs:List α} {F:List Nat} (h0:xs≠[])
  (h:∀g,a=some ⟨g,0,none⟩→F=[g]→n=xs.length→n≤cp→cp≤9223372036854775807→T c fr H Φ) (hm:.ow E t (.slice a n cp) xs F∈H:=by exact B8):T c fr H Φ:=.mk fun ac w s g'=>by
 obtain ⟨hnd,ho⟩:=s.get hm
 have hF:=ho.scal sc
 rcases ho with ⟨-,h2, -⟩|⟨g,cap,cs,rest,G,h1,h2,h3,h4,h5,h6,h7⟩
 ·exact absurd h2 h0
 ·cases h1
  exact (h g rfl (by simpa [Value.ownBlock] using hF) rfl h3 (by unfold maxLen at h4;omega)).h ac w s g'
theorem Cw.rep0 {α:Type} {E:Bv α} {w:World} {zs:List Value} {z:α} (h:E.Ka w zs z []):∀n,Cw E w (List.replicate n zs).flatten (List.replicate n z) []
 | 0=>⟨rfl,rfl⟩
 | n+1=>⟨zs,(List.replicate n zs).flatten,[],[],by simp [List.replicate_succ],by simp,h,Cw.rep0 h n⟩
theorem Z9 (z:Array Value) (n:Nat):(Builtin.zeroCells z n).toList=(List.replicate n z.toList).flatten:=by
 have:=Lr z n
 exact this
theorem Ag6 {α:Type} {E:Bv α} (sc:U1 E) {t e m b g n cp i:Nat} {zv:Value} {z0:α} [hS:SlC c.P t e m] [hE:ElT c.P e zv m b] (hz:∀w,E.Ka w zv.cells.toList z0 []) (one:∀u∈zv.cells,u.oneCell'=true) (hm:E.sz=m) {xs:List α} {F:List Nat} {S:List Pc}
  (hx:ev fr x=some (.slice (some ⟨g,0+i * m,none⟩) (n - i) (cp - i))) (hi:i < n) (hn:n=xs.length) (hp:C0 H (.ow E e (.slice (some ⟨g,0,none⟩) n cp) xs F) S) (h:T c fr (.ow E e (.slice (some ⟨g,0,none⟩) n cp) (xs.take i++List.replicate (n - i) z0) F::S) Φ) :
  On c fr H none (.call { callee:=.builtin .clear,args:=#[x],argTypes:=#[t] }) ty Φ:=⟨fun _ _ _=>Ni fun Q a w s ag=>by
 subst hm
 have s1:=s.pick hp
 obtain ⟨hnd,ho⟩:=s1.on (.ow E e (.slice (some ⟨g,0,none⟩) n cp) xs F) (by simp)
 have hF:=ho.scal sc
 rcases ho with ⟨h1, -, -⟩|⟨g2,cap,cs,rest,G,h1,h2,h3,h4,h5,h6,h7⟩
 ·cases h1
 cases h1
 have hG:G=[]:=by rw [h7] at hF;simpa [Value.ownBlock] using hF
 subst hG h7
 have hl:=h6.len
 obtain ⟨f1,f2⟩:=h6.cutL i (by omega)
 have hcs:=List.take_append_drop (i * E.sz) cs
 have hd1:(cs.take (i * E.sz)).length=i * E.sz:=by have:=f1.len;rw [List.length_take (l:=xs),Nat.min_eq_left (by omega)] at this;exact this
 have hd2:(cs.drop (i * E.sz)).length=(xs.length - i) * E.sz:=by have:=f2.len;rwa [List.length_drop (l:=xs)] at this
 have hr:=fun ty=>Po (P:=c.P) w t e ty zv hS.u (Ry hE.i) one g (0+i * E.sz) (xs.length - i) (cp - i) (by omega)
  (fun j hj=>by rw [hE.s] at hj;rw [h2.cell,List.getElem?_eq_getElem (by rw [List.length_append,←hcs,List.length_append,hd1,hd2];omega)];rfl) (fun j _=>h2.frozen _)
 have e1:∀pos Cg gd,(execOp a.eval ⟨none,.call { callee:=.builtin .clear,args:=#[x],argTypes:=#[t] },ty,pos,Cg,gd⟩).run c.P w=.ok (.value (.tuple #[])) (w.setCells g (0+i * E.sz) (Builtin.zeroCells zv.cells (xs.length - i)).toList):=by
  intro pos Cg gd
  simp only [execOp,resolve,invoke,builtin,Sem.run_bind,Sem.run_pure,Result.andThen_ok,List.map_toArray,List.map_cons,List.map_nil,ag.ev hx,hr]
 rw [e1]
 have hzl:(Builtin.zeroCells zv.cells (xs.length - i)).toList.length=(xs.length - i) * E.sz:=by rw [Kv,hE.s]
 have R0:Hm w g e (cs.take (i * E.sz)++cs.drop (i * E.sz)++rest):=by rw [hcs];exact h2
 have R1:=Hm.put (Builtin.zeroCells zv.cells (xs.length - i)).toList _ R0 (p:=0+i * E.sz) (by omega) (by rw [hzl,hd2])
 have hk:=Jk (g:=g) (Builtin.zeroCells zv.cells (xs.length - i)).toList w (0+i * E.sz)
 rw [J9 w g] at R1 hk
 have hW:(Pc.ow E e (.slice (some ⟨g,0,none⟩) xs.length cp) (xs.take i++List.replicate (xs.length - i) z0) [g]).P (w.setCells g (0+i * E.sz) (Builtin.zeroCells zv.cells (xs.length - i)).toList):=by
  have hll:(xs.take i++List.replicate (xs.length - i) z0).length=xs.length:=by rw [List.length_append,List.length_take,List.length_replicate];omega
  have hfl:Cw E (w.setCells g (0+i * E.sz) (Builtin.zeroCells zv.cells (xs.length - i)).toList) (cs.take (i * E.sz)++(Builtin.zeroCells zv.cells (xs.length - i)).toList) (xs.take i++List.replicate (xs.length - i) z0) []:=by
   rw [Z9]
   exact (f1.all _).append (Cw.rep0 (hz _) _)
  refine ⟨by simp,.inr ⟨g,cp,cs.take (i * E.sz)++(Builtin.zeroCells zv.cells (xs.length - i)).toList,rest,[],by rw [hll],R1,by rw [hll];exact h3,h4,?_,hfl,rfl⟩⟩
  rw [List.length_append,hzl,hd1,←Nat.add_mul]
  rw [←h5,hl]
  congr 2
  omega
 exact h.h _ _ (St.turn (M:=[.ow E e (.slice (some ⟨g,0,none⟩) xs.length cp) xs [g]]) (N:=[.ow E e (.slice (some ⟨g,0,none⟩) xs.length cp) (xs.take i++List.replicate (xs.length - i) z0) [g]]) s1 (by simpa [List.filter,Pc.mu,fp,Pc.F] using hk) (by intro q hq;rw [List.mem_singleton] at hq;subst hq;exact hW) ⟨by simp,trivial⟩ (by
   intro q hq b hb
   rw [List.mem_singleton] at hq;subst hq
   exact .inr (.inl ⟨_,List.mem_singleton.2 rfl,rfl,hb⟩))) ag⟩
end
theorem Aj9 (fid:FuncId) (bd caps:List Value) (A:List Pc) (hA:A.all (fun p=>!p.mu)=true) (xs:List Int) (a:Option Addr) (c:Nat) (F:List Nat) (p:Int→Bool) (hb:Om prog fid=true) (hl:xs.length≤1000000000)
  (hp:∀x∈xs,∀w,Nf A w→Calls prog fid (bd++[(.int .i64 x:Value)]++caps).toArray w fun e w'=>e=.returned (.bool (p x))∧Below w.heap.size w w') :
  Fn prog 272 [.slice a xs.length c,.func (.func fid) bd.toArray caps.toArray] (.sl Bd (.slice a xs.length c) xs F::A) [] (fun (_:Unit)=>True) (fun _=>.int .i64 (Ox p xs)) (fun _=>[]):=by
 refine enter func272 rfl ntmps272 (fun w0=>?_) rfl (by simpa [Pc.mu] using hA) .nil
 refine go ?_;intros
 refine Dv [0,1,4,7] (fun k:Nat=>[(8,.int .i64 (k:Nat))]) (fun k=>k≤xs.length∧∀j (_:j < k) (hj:j < xs.length),p xs[j]=false) (fun k=>xs.length - k) 0 ⟨Nat.zero_le _,fun j h=>by omega⟩ fun k hk=>?_
 obtain ⟨hk1,hk2⟩:=hk
 refine go ?_;intros
 refine Bg rfl (fun h5=>?_) (fun h5=>?_)
 ·have hh:k < xs.length:=by omega
  refine go ?_;intros
  refine In (xs:=xs) k ?_
  rintro hi b o e
  rw [e]
  refine go ?_;intros
  apply wO
  refine Vf rfl rfl hb Bf ?_
  refine cb (fun w st=>hp xs[k] (List.getElem_mem hh) w (fun q hq=>st.on q (by simp [hq]))) ?_
  cases hpk:p xs[k]
  ·refine go ?_;intros
   refine Rs ?_
   refine Ck (hH:=I6 _) (k+1) ⟨hh,fun j hj h=>?_⟩ (by omega)
   rcases Nat.lt_or_eq_of_le (Nat.lt_succ_iff.1 hj) with h2|rfl
   ·exact hk2 j h2 h
   ·exact hpk
  ·refine go ?_;intros
   refine ret () trivial ?_
   rw [M4 hh hk2 hpk];rfl
 ·obtain rfl:k=xs.length:=by omega
  refine go ?_;intros
  refine ret () trivial ?_
  rw [Ly (fun j hj=>hk2 j hj hj)];rfl
structure Aj4 where
 i:Nat
 j:Nat
 zs:List Int
theorem Ac9 (fid:FuncId) (bd caps:List Value) (A:List Pc) (hA:A.all (fun p=>!p.mu)=true) (xs:List Int) (a:Option Addr) (c:Nat) (F:List Nat) (p:Int→Bool) (hb:Om prog fid=true) (hl:xs.length≤1000000000)
  (hp:∀x∈xs,∀w,Nf A w→Calls prog fid (bd++[(.int .i64 x:Value)]++caps).toArray w fun e w'=>e=.returned (.bool (p x))∧Below w.heap.size w w') :
  Fn prog 243 [.slice a xs.length c,.func (.func fid) bd.toArray caps.toArray] A [.ow Bd 3 (.slice a xs.length c) xs F] (fun (_:Option Addr × Nat × List Nat)=>True)
   (fun z=>.slice z.1 (xs.filter fun x=>!p x).length z.2.1) (fun z=>[.ow Bd 3 (.slice z.1 (xs.filter fun x=>!p x).length z.2.1) (xs.filter fun x=>!p x) z.2.2]):=by
 refine enter func243 rfl ntmps243 (fun w0=>?_) rfl (by simpa [Pc.mu] using hA) (.cons .nil)
 refine go ?_;intros
 refine cb (fun w st=>by
  obtain ⟨Fw, -,hw⟩:=(st.get (p:=.ow Bd 3 (.slice a xs.length c) xs F) (by simp)).2.read
  refine (Aj9 fid bd caps A hA xs a c Fw p hb hl hp).val w ?_ (by simpa [Pc.mu] using hA)
  intro q hq
  rcases List.mem_cons.1 hq with rfl|hq
  ·exact ⟨by decide,hw⟩
  ·exact st.on q (by simp [hq])) ?_
 by_cases hany:xs.any p=true
 ·obtain ⟨i0,hi0,hfx,hpi,hfl⟩:=Td hany
  rw [hfx]
  refine Acz (xs:=xs) Du (by rintro rfl;simp at hi0) ?_
  rintro g rfl rfl - hc1 hc2
  refine go ?_;intros
  refine Cp [0,1,4] (fun s:Aj4=>[(5,.int .i64 (s.i:Nat)),(6,.int .i64 (s.j:Nat))]) (fun s=>[.ow Bd 3 (.slice (some ⟨g,0,none⟩) xs.length c) s.zs [g]]) (fun s=>s.zs.length=xs.length∧s.j≤xs.length∧s.i < s.j∧s.zs.take s.i=(xs.take s.j).filter (fun x=>!p x)∧s.zs.drop s.j=xs.drop s.j) (fun s=>xs.length - s.j) ⟨i0,i0+1,xs⟩ ⟨rfl,hi0,Nat.lt_succ_self _,by rw [C1 hi0 (by simp [hpi]),hfl],rfl⟩ fun s hs=>?_
  obtain ⟨i,j,zs⟩:=s
  obtain ⟨h1,h2,h3,h4,h5⟩:=hs
  dsimp only at h1 h2 h3 h4 h5 ⊢
  refine go ?_;intros
  refine Bg rfl (fun h6=>?_) (fun h6=>?_)
  ·have hj:j < xs.length:=by omega
   have hjz:j < zs.length:=by omega
   have hx:zs[j]=xs[j]:=by
    have a1:=List.drop_eq_getElem_cons hjz
    have a2:=List.drop_eq_getElem_cons hj
    rw [h5,a2] at a1
    exact (List.cons.inj a1).1.symm
   have hdz:zs.drop (j+1)=xs.drop (j+1):=by
    rw [←List.drop_drop,h5,List.drop_drop]
   refine go ?_;intros
   refine N6 (m:=1) Du j ?_ (by repeat (first|exact .here|apply C0.there)) rfl hjz
   rintro _ g2 A2 cs2 B2 e1 e2 hc3 hh
   cases e1
   obtain ⟨rfl, -⟩:=hc3 w0
   refine go ?_;intros
   refine Nd zs[j] hh hc3 ?_
   rw [List.set_getElem_self,hx]
   apply wO
   refine Vf rfl rfl hb Bf ?_
   refine cb (fun w st=>hp xs[j] (List.getElem_mem hj) w (fun q hq=>st.on q (by simp [hq]))) ?_
   cases hpj:p xs[j]
   ·refine go ?_;intros
    refine N6 (m:=1) Du i ?_ (by repeat (first|exact .here|apply C0.there)) rfl (by omega)
    rintro _ g3 A3 cs3 B3 e1 e2 hc4 hh3
    cases e1
    obtain ⟨rfl, -⟩:=hc4 w0
    refine go ?_;intros
    refine Nd xs[j] hh3 (fun w=>⟨rfl,rfl⟩) ?_
    refine Ck (hH:=I6 _) (⟨i+1,j+1,zs.set i xs[j]⟩:Aj4) ⟨by simp [h1],hj,Nat.succ_lt_succ h3,?_,?_⟩ (by dsimp only;omega)
    ·dsimp only
     rw [E5 hj (by simp [hpj]),←h4,List.take_add_one,List.getElem?_set_self (by omega),List.take_set_of_le (Nat.le_refl _)]
     rfl
    ·dsimp only
     rw [List.drop_set_of_lt (by omega),hdz]
   ·refine go ?_;intros
    refine Ck (hH:=I6 _) (⟨i,j+1,zs⟩:Aj4) ⟨h1,hj,Nat.lt_succ_of_lt h3,?_,hdz⟩ (by dsimp only;omega)
    dsimp only
    rw [C1 hj (by simp [hpj]),h4]
  ·obtain rfl:j=xs.length:=by omega
   have h4':zs.take i=xs.filter fun x=>!p x:=by rw [h4,List.take_length]
   have hil:(xs.filter fun x=>!p x).length=i:=by rw [←h4',List.length_take];omega
   refine go ?_;intros
   apply wO;apply oc;rfl;exact Iz (i:=i) rfl rfl rfl (by omega) (by omega) (by omega)
   refine go ?_;intros
   apply wO
   refine Ag6 (z0:=0) (n:=xs.length) (cp:=c) (i:=i) (g:=g) Du (fun w=>⟨rfl,rfl⟩) (by decide) rfl rfl h3 h1.symm (by repeat (first|exact .here|apply C0.there)) ?_
   refine go ?_;intros
   refine Z3 (xs:=zs.take i++List.replicate (xs.length - i) 0) i (fun F2=>?_) (by rw [List.length_append,List.length_take,List.length_replicate];omega)
   rw [List.take_left' (by rw [List.length_take];omega),h4']
   apply wO;apply oc;rfl;exact Mc (i:=i) rfl rfl rfl (by omega) (by omega)
   refine go ?_;intros
   subst hil
   refine ret (_,c,F2) trivial rfl
 ·obtain ⟨hfx,hfl⟩:=U7 hany
  rw [hfx,hfl]
  refine go ?_;intros
  refine ret (a,c,F) trivial rfl
def L6 (x:An) (n:Nat):List Int:=(Od x.next n).filter fun k=>!Hh x k
theorem Abf {t k:Int} {n:Nat} (h:k∈Od t n):0≤k∧k≤65535:=by
 unfold Od at h
 obtain ⟨i, -,rfl⟩:=List.mem_map.1 h
 unfold Cg;omega
theorem Adg (x:An) (k:Int) (n:Nat) (v:Value) (F:List Nat) (h0:0≤x.next) (h1:x.next≤65535) (h2:0≤k) (h3:k≤65535) (hn:gp x.next k=n) :
  Fn prog 289 [v,.int .i64 k] [.isv Bo v x F] [] (fun (_:Option Addr × Nat × List Nat)=>True) (fun s=>.slice s.1 (L6 x n).length s.2.1) (fun s=>[.ow Bd 3 (.slice s.1 (L6 x n).length s.2.1) (L6 x n) s.2.2]):=by
 have hg:=Jb x.next k
 refine enter func289 rfl ntmps289 fun w0=>?_
 refine Co ?_
 rintro a1 c1 F1 rfl l1
 refine go ?_;intros
 refine As [0] [] ?_
 refine dt 0 ?_
 refine dt 1 ?_
 refine dt 2 ?_
 refine dt 3 ?_
 refine dt 4 ?_
 refine dt 7 ?_
 refine dt 8 ?_ (hy:=Arg Bf Bf)
 refine dO 5 (by kernel_rfl) (by rw [List.getElem?_toArray];rfl) ?_
 apply At;rfl;kernel_rfl;exact Bf
 refine ce (fun w s=>Mo _ _ _ (by omega) (by omega) (by omega) (by omega)) ?_
 refine dk ?_
 refine dO 6 (by kernel_rfl) (by rw [List.getElem?_toArray];rfl) ?_
 apply At;rfl;kernel_rfl;exact Bf
 rw [hn]
 refine cf (Aq5 x.next n (by omega) (by omega) (by omega)) fun s _=>?_
 refine Ap ?_
 refine dk ?_
 refine dO 9 (by kernel_rfl) (by rw [List.getElem?_toArray];rfl) ?_
 apply At;rfl;kernel_rfl;exact Bf
 refine cf (Ac9 173 [_] [] [.isv Bo (.agg #[.int .i64 x.next,.slice a1 x.Ao.length c1]) x F] rfl (Od x.next n) s.1 s.2.1 s.2.2 (fun k=>Hh x k) rfl (by rw [Wr];omega) (fun k hk w hw=>?_)) fun q _=>?_
 exact (U0 x k _ F h0 h1 (Abf hk).1 (Abf hk).2).val w hw
 refine Ap ?_
 refine dk ?_
 refine dt 10 ?_
 refine dd ?_
 refine go ?_;intros
 refine ret q trivial rfl
theorem Ai5 {x:An} {k:Nat} (hk:k≤65535) (h:Ic x.Ao k=true):L6 x (k+1)=L6 x k:=by
 have e:Hh x (Cg x.next k)=true:=by unfold Hh;rw [show gp x.next (Cg x.next k)=k by unfold gp Cg;omega,Int.toNat_natCast,h]
 unfold L6;rw [Uo,List.filter_append,List.filter_cons];simp [e]
theorem Aed {x:An} {k:Nat} (hk:k≤65535) (h:Ic x.Ao k=false):L6 x (k+1)=L6 x k++[Cg x.next k]:=by
 have e:Hh x (Cg x.next k)=false:=by unfold Hh;rw [show gp x.next (Cg x.next k)=k by unfold gp Cg;omega,Int.toNat_natCast,h]
 unfold L6;rw [Uo,List.filter_append,List.filter_cons];simp [e]
theorem Wj (x:An) (k:Nat):(L6 x k).length≤k:=by
 unfold L6;have:=List.length_filter_le (fun k=>!Hh x k) (Od x.next k);rw [Wr] at this;exact this
theorem Acf (x:An) (k:Int) (n:Nat) (v:Value) (F:List Nat) (h0:0≤x.next) (h1:x.next≤65535) (h2:0≤k) (h3:k≤65535) (hn:gp x.next k=n) :
  Fn prog 258 [v,.int .i64 k] [.isv Bo v x F] [] (fun (_:Option Addr × Nat × List Nat)=>True) (fun s=>.slice s.1 (L6 x n).length s.2.1) (fun s=>[.ow Bd 3 (.slice s.1 (L6 x n).length s.2.1) (L6 x n) s.2.2]):=by
 have hg:=Jb x.next k
 refine enter func258 rfl ntmps258 fun w0=>?_
 refine Co ?_
 rintro a1 c1 F1 rfl l1
 unfold maxLen at l1
 refine Jm ?_;intros
 refine C9 Bd ?_
 refine go ?_;intros
 refine Cp [1,2,4] (fun s:SpS=>[(5,.slice s.a (L6 x s.k).length s.c),(6,.int .i64 (s.k:Nat))]) (fun s=>[.ow Bd 3 (.slice s.a (L6 x s.k).length s.c) (L6 x s.k) s.F]) (fun s=>s.k≤n) (fun s=>n - s.k) ⟨0,_,_,_⟩ (Nat.zero_le _) fun s hs=>?_
 obtain ⟨j,a,c,F5⟩:=s
 dsimp only at hs ⊢
 have hlk:=Wj x j
 refine go ?_;intros
 refine ce (fun w s=>H8 _ _ _ (by omega) (by omega)) ?_
 rw [hn]
 refine go ?_;intros
 refine Bg rfl (fun h4=>?_) (fun h4=>?_)
 ·refine go ?_;intros
  refine Dc rfl rfl (fun h5=>?_) (fun h5=>?_)
  ·refine go ?_;intros
   refine ce (fun w s=>Fh _ _ _ (by omega) (by omega)) ?_
   refine go ?_;intros
   apply wO
   refine Mf (Rm _) C8 fun a2 c2 F2=>?_
   refine go ?_;intros
   rw [←Aed (by omega) (N8 (by omega))]
   refine Ck ⟨j+1,a2,c2,F2⟩ (by show j+1≤n;omega) (by show n - (j+1) < n - j;omega)
  ·refine M0 (xs:=x.Ao) j ?_
   rintro hi2 b2 o2 e s1
   rw [e]
   refine go ?_;intros
   cases g2:x.Ao[j].Te
   ·refine go ?_;intros
    refine ce (fun w s=>Fh _ _ _ (by omega) (by omega)) ?_
    refine go ?_;intros
    apply wO
    refine Mf (Rm _) C8 fun a2 c2 F2=>?_
    refine go ?_;intros
    rw [←Aed (by omega) (by rw [Jc hi2];exact g2)]
    refine Ck ⟨j+1,a2,c2,F2⟩ (by show j+1≤n;omega) (by show n - (j+1) < n - j;omega)
   ·refine go ?_;intros
    rw [←Ai5 (x:=x) (k:=j) (by omega) (by rw [Jc hi2];exact g2)]
    refine Ck ⟨j+1,a,c,F5⟩ (by show j+1≤n;omega) (by show n - (j+1) < n - j;omega)
 ·obtain rfl:j=n:=by omega
  refine go ?_;intros
  refine ret (a,c,F5) trivial rfl
def Ala (d:Int):Bool:=Ig 1 d 8
def Kn (base:Int) (r:A4):Bool:=B9 r.Ae && decide (gp base r.Ae < 8) && Ig 1 r.Gj 3 && Ig 0 r.Ca 10007 && Ig 0 r.Dn 3
def Aae (l:List A4) (base:Int) (i:Nat):Bool:=match l[i]? with
 | none=>true
 | some r=>Kn base r && (decide (i=0) || match l[i - 1]? with|none=>true|some p=>!decide (gp base r.Ae≤gp base p.Ae))
theorem Q7 {l:List A4} {base:Int} {i:Nat} (h:i < l.length):Aae l base i=(Kn base l[i] && (decide (i=0) || !decide (gp base l[i].Ae≤gp base (l[i - 1]'(by omega)).Ae))):=by
 unfold Aae
 rw [List.getElem?_eq_getElem h,List.getElem?_eq_getElem (show i - 1 < l.length by omega)]
def Jq (l:List A4) (base:Int):Bool:=B9 base && decide ((l.length:Int)≤8) && (List.range l.length).all (Aae l base)
theorem Agt {l:List A4} {base:Int} {i:Nat} (h:i < l.length) (hc:Aae l base i=false):Jq l base=false:=by
 have:(List.range l.length).all (Aae l base)=false:=List.all_eq_false.2 ⟨i,by simpa using h,by simp [hc]⟩
 simp [Jq,this]
theorem Adm {l:List A4} {base:Int} (h1:B9 base=true) (h2:(l.length:Int)≤8) (h:∀j,j < l.length→Aae l base j=true):Jq l base=true:=by
 unfold Jq
 rw [h1,decide_eq_true h2,List.all_eq_true.2 fun j hj=>h j (by simpa using hj)];rfl
theorem Dq {l:List A4} {base:Int}:Jq l base=true↔B9 base=true∧l.length≤8∧(∀r∈l,Kn base r=true)∧l.Pairwise fun a b=>gp base a.Ae < gp base b.Ae:=by
 unfold Jq
 simp only [Bool.and_eq_true,List.all_eq_true,List.mem_range,decide_eq_true_eq]
 constructor
 ·rintro ⟨⟨h1,h2⟩,h4⟩
  refine ⟨h1,by omega,fun r hr=>?_,?_⟩
  ·obtain ⟨i,hi,rfl⟩:=List.getElem_of_mem hr
   have:=h4 i hi
   rw [Q7 hi] at this
   simp only [Bool.and_eq_true] at this
   exact this.1
  ·have step:∀i (hi:i+1 < l.length),gp base l[i].Ae < gp base l[i+1].Ae:=fun i hi=>by
    have:=h4 (i+1) hi
    rw [Q7 hi] at this
    simp only [Bool.and_eq_true,Bool.or_eq_true,decide_eq_true_eq,Bool.not_eq_true',decide_eq_false_iff_not] at this
    have h:=this.2
    rcases h with h|h
    ·omega
    ·simpa using h
   refine List.pairwise_iff_getElem.2 fun i j hi hj hij=>?_
   obtain ⟨d,rfl⟩:∃d,j=i+1+d:=⟨j - i - 1,by omega⟩
   clear hij
   induction d with
   | zero=>exact step i hj
   | succ d ih=>exact Int.lt_trans (ih (by omega)) (step (i+1+d) hj)
 ·rintro ⟨h1,h2,h4,h5⟩
  refine ⟨⟨h1,by omega⟩,fun i hi=>?_⟩
  rw [Q7 hi,h4 l[i] (List.getElem_mem hi)]
  simp only [Bool.true_and,Bool.or_eq_true,decide_eq_true_eq,Bool.not_eq_true',decide_eq_false_iff_not]
  rcases Nat.eq_zero_or_pos i with h0|h0
  ·exact .inl h0
  ·have:=List.pairwise_iff_getElem.1 h5 (i - 1) i (by omega) hi (by omega)
   right;omega
structure Ake (base:Int) (r:A4):Prop where
 n:B9 r.Ae=true
 g:gp base r.Ae < 8
 s0:1≤r.Gj
 s1:r.Gj≤3
 u0:0≤r.Ca
 u1:r.Ca≤10007
 t0:0≤r.Dn
 t1:r.Dn≤3
theorem Eb {base:Int} {r:A4}:Kn base r=true↔Ake base r:=by
 unfold Kn Ig
 simp only [Bool.and_eq_true,decide_eq_true_eq]
 exact ⟨fun ⟨⟨⟨⟨a,b⟩,c,d⟩,e,f⟩,g,h⟩=>⟨a,b,c,d,e,f,g,h⟩,fun ⟨a,b,c,d,e,f,g,h⟩=>⟨⟨⟨⟨a,b⟩,c,d⟩,e,f⟩,g,h⟩⟩
def Mk (r:Bb):Bool:=decide (r.Aa.next=0) && decide (r.Aa.Ao.length=0) && decide (r.Ar.length=0)
def Aaz (r:Bb):Bool:=r.Ar.all fun q=>!Hh r.Aa q.Ae
def Dg (r:Bb):Bool:=Iy r.Ai && (if r.Bh then C6 r.Aa && Jq r.Ar r.Aa.next && Aaz r else Mk r)
def P5 (c d:Int) (r:A4):Option A4:=if c < r.Ca then some r else if r.Dn=3 then none else if r.Gj=1 then some ⟨r.Ae,2,c+3,r.Dn+1⟩ else some ⟨r.Ae,1,c+d,r.Dn⟩
def Nk (c:Int) (r:A4):Option Int:=if c < r.Ca then none else if r.Dn=3 then none else if r.Gj=1 then some r.Ae else none
def Qc (c:Int) (r:A4):Option Int:=if c < r.Ca then none else if r.Dn=3 then some r.Ae else none
def pkR (n k:Int):Av:=⟨3,k,n,n,⟨#[]⟩⟩
def Dd (l:List Int):Int:=Cg (l.getLastD 0) 1
def Hw (w:An) (t:Int):An:=Mv (Hj (Eh w.next t) w)
def Ii (w:An) (t:Int):List ByteArray:=Mp (Eh w.next t) w++Ob (Hj (Eh w.next t) w)
def Tu (l:List A4) (n:Int):List A4:=l.filter fun q=>!Pu q.Ae n
def Dz (l:List A4) (w:An):List A4:=l.filter fun q=>!(Pu q.Ae w.next || Hh w q.Ae) && decide (gp w.next q.Ae < 8)
def Ld (r:Bb) (d:Int):List A4:=r.Ar.filterMap (P5 (r.Ai+1) d)
def Cz (r:Bb):List Int:=r.Ar.filterMap (Qc (r.Ai+1))
def Cv (r:Bb) (d:Int):Bb:=if Cz r=[] then ⟨r.Bh,r.Ai+1,r.Aa,Ld r d⟩ else ⟨r.Bh,r.Ai+1,Hw r.Aa (Dd (Cz r)),Tu (Ld r d) (Hw r.Aa (Dd (Cz r))).next⟩
def En (r:Bb):List Av:=(r.Ar.filterMap (Nk (r.Ai+1))).map (pkR r.Aa.next)
def Fm (r:Bb):List ByteArray:=if Cz r=[] then [] else Ii r.Aa (Dd (Cz r))
def Aj2:Bb:=⟨false,0,⟨0,[]⟩,[]⟩
structure Kk (r:Bb):Prop where
 k0:0≤r.Ai
 k1:r.Ai≤9999
 w:C6 r.Aa=true
 q:Jq r.Ar r.Aa.next=true
 f:∀z∈r.Ar,Hh r.Aa z.Ae=false
 z:r.Bh=false→r.Aa=⟨0,[]⟩∧r.Ar=[]
theorem Gg {r:Bb}:Dg r=true↔Kk r:=by
 have hc:Iy r.Ai=true↔0≤r.Ai∧r.Ai≤9999:=by unfold Iy Ig;simp
 have hf:Aaz r=true↔∀z∈r.Ar,Hh r.Aa z.Ae=false:=by unfold Aaz;simp
 have hz:Mk r=true↔r.Aa=⟨0,[]⟩∧r.Ar=[]:=by
  unfold Mk
  obtain ⟨st,ck,⟨n,s⟩,q⟩:=r
  simp [and_assoc]
 unfold Dg
 constructor
 ·intro h
  rw [Bool.and_eq_true,hc] at h
  obtain ⟨⟨c0,c1⟩,h⟩:=h
  cases hs:r.Bh
  ·rw [hs] at h
   obtain ⟨e1,e2⟩:=hz.1 (by simpa using h)
   refine ⟨c0,c1,by rw [e1];decide,by rw [e1,e2];decide,by rw [e2];simp,fun _=>⟨e1,e2⟩⟩
  ·rw [hs] at h
   simp only [if_true,Bool.and_eq_true] at h
   exact ⟨c0,c1,h.1.1,h.1.2,hf.1 h.2,fun h'=>by rw [hs] at h';cases h'⟩
 ·rintro ⟨c0,c1,h1,h2,h3,h4⟩
  rw [Bool.and_eq_true,hc]
  refine ⟨⟨c0,c1⟩,?_⟩
  cases hs:r.Bh
  ·simpa using hz.2 (h4 hs)
  ·simp [h1,h2,hf.2 h3]
def Bp (p:Av):Bool:=Ig 1 p.Df 5 && B9 p.Ae && B9 p.Al && B9 p.Ec && Oh p.data && decide (gp p.Al p.Ec≤32767) && (decide (p.data=⟨#[]⟩) || decide (p.Df=1) || decide (p.Df=2))
theorem Iv {p:Av} (h:Bp p=true):0≤p.Ae∧p.Ae≤65535:=by
 unfold Bp at h
 simp only [Bool.and_eq_true] at h
 exact A9.1 h.1.1.1.1.1.2
theorem Vw (fid:FuncId) (hbd:Tm prog fid) (caps:Array Value) (v:Value) (xs:List ByteArray) (F:List Nat) (p:ByteArray→Bool) (w:World) (h:Sl Ba w v xs F)
  (hp:∀(k:Nat) (hk:k < xs.length) (wr:World) (u:Value) (G:List Nat),Below w.heap.size w wr→IsC Ba wr u xs[k] G→Calls prog fid (#[u]++caps) wr fun e w'=>e=.returned (.bool (p xs[k]))∧Below wr.heap.size wr w') :
  Calls prog 260 #[v,.func (.func fid) #[] caps] w fun e w'=>e=.returned (.int .i64 (Ox p xs))∧Below w.heap.size w w':=by
 obtain ⟨a,cap,rfl⟩:=h.slice
 have hl:=h.len
 unfold maxLen at hl
 go_enter func260,ntmps260
 go_wp2
 go_loopw [5,8] (fun _ i wr=>∃k:Nat,k≤xs.length∧i=.int .i64 k∧Hid (∀j,j < k→∀hj:j < xs.length,p xs[j]=false)∧Below w.heap.size w wr) (fun _ i _=>xs.length - (intOf i).toNat)
 case atStart=>exact ⟨0,Nat.zero_le _,rfl,fun j hj=>by omega,Below.refl _ _⟩
 case round =>
  obtain ⟨k,hk,rfl,hz,hB⟩:=hrel
  by_cases hlt:k < xs.length
  ·have hz0:=hz;clear hz
   obtain ⟨b,off,_,F1,rfl,hx, -,ja⟩:=(h.below (by decide) hB).at k hlt
   obtain ⟨rfl, -, -⟩:=id hx
   have a0:=ja 0 (by decide)
   simp only [show Ba.sz=1 from rfl,Nat.mul_one,Nat.add_zero,List.getElem?_cons_zero,List.getElem?_cons_succ] at a0
   clear ja
   have hr:=hp k hlt wr _ F1 hB ⟨_,rfl,hx⟩
   have hp:=Lib.hid hp
   cases hpk:p xs[k]
   all_goals
    rw [hpk] at hr
    have hpk:=Lib.hid hpk
    have hr:=Lib.hid hr
    go_wp2_with fail
    refine hbd.upon hr.out ?_
    rintro e w1 ⟨rfl,hb1⟩
    refine ⟨_,rfl,?_⟩
    have hB:=tr hB hb1 (Nat.le_refl _)
    clear hb1
    go_wp2_with fail
   ·exact ⟨⟨k+1,by omega,by go_num,fun j hj hl=>by rcases Nat.lt_or_eq_of_le (Nat.le_of_lt_succ hj) with h|h;exact hz0.out j h hl;subst h;exact hpk.out,hB⟩,by simp [intOf];omega⟩
   ·go_ret
    exact ⟨L4 (M4 hlt hz0.out hpk.out).symm,hB⟩
  ·go_wp2
   go_ret
   exact ⟨L4 (Ly (fun j hj=>hz.out j (by omega) hj)).symm,hB⟩
theorem Tn (fid:FuncId) (hbd:Tm prog fid) (caps:Array Value) (v:Value) (xs:List ByteArray) (F:List Nat) (p:ByteArray→Bool) (w:World) (h:Sl Ba w v xs F)
  (hp:∀(k:Nat) (hk:k < xs.length) (wr:World) (u:Value) (G:List Nat),Below w.heap.size w wr→IsC Ba wr u xs[k] G→Calls prog fid (#[u]++caps) wr fun e w'=>e=.returned (.bool (p xs[k]))∧Below wr.heap.size wr w') :
  Calls prog 221 #[v,.func (.func fid) #[] caps] w fun e w'=>e=.returned (.bool (xs.any p))∧Below w.heap.size w w':=by
 have hp:=Lib.hid hp
 go_enter func221,ntmps221
 go_wp2_with fail
 refine (Vw fid hbd caps v xs F p _ h hp.out).mono ?_
 rintro e w1 ⟨rfl,hb1⟩
 go_wp2_with fail
 go_ret
 exact ⟨Cn (Qk p xs),hb1⟩
theorem Uw (v:Value) (xs:List ByteArray) (F:List Nat) (w:World) (h:Sl Ba w v xs F) (hm:xs.length≤4294967296) :
  Calls prog 191 #[v] w (Vz Ba 9 xs w):=by
 obtain ⟨ao,c,news,Fy,rfl,hl,hfy,hFy,hsrc⟩:=h.src
 have hFl:=hfy.lt
 have he:=fun w (a:Option Addr) (n c:Nat)=>Lib.run_eql_slice_nil (P:=prog) w 27 _ a n c 0 0 underlying27
 go_enter func191,ntmps191
 rcases hsrc with ⟨rfl,rfl,rfl⟩|⟨ad,rfl,hn⟩
 ·go_wp2
  go_ret
  exact ⟨.slice none 0 0,[],rfl,.inl ⟨rfl,rfl,rfl⟩,by simp,by simp,Below.refl _ _⟩
 ·go_wp2_with (at_builtin;refine Nx Ed (by decide) (by rfl) _ _ _ (by rfl) 9 (.string ⟨#[]⟩) 16 underlying27 Ad2 rfl (.slice (some ⟨w.heap.size,0,none⟩) 0 0) [] [w.heap.size] (by rfl) (Ow.empty (Hm.made _ _ _)) (Hd.one _) (some ad) xs c (by rfl) news Fy (hfy.frame fun b hb=>Below.heap_alloc _ _ _ (hFl b hb)) (.inr ⟨ad,rfl,fun j u hu=>kc ((Below.refl _ _).alloc (Nat.le_refl _) _) (hn j u hu)⟩) (fun b hb e=>by have:=hFl b hb;simp [Value.ownBlock] at e;omega) (by simpa using hl) (by unfold maxLen at hl;simp;omega) ?_)
  intro v2 w2 F2 hA
  go_wp2_with fail
  go_ret
  have hB:Below w.heap.size w w2:=((Below.refl _ _).alloc (Nat.le_refl _) _).trans (hA.Ky.below (by simp) (by simp))
  have hs:∀b,v2.ownBlock=some b→w.heap.size≤b:=fun b hb=>by rcases hA.Af8 with e|e <;> rw [e] at hb <;> simp [Value.ownBlock] at hb <;> omega
  refine ⟨v2,F2,rfl,by simpa using hA.ow,hA.ow.scal Hf▸?_,fun b hb=>?_,hB⟩
  ·cases v2.ownBlock <;> simp
  ·rw [hA.ow.scal Hf] at hb;exact hs b (by simpa using hb)
def Dw (x:Az):Bool:=B9 x.Al && Ig 1 x.size 6 && decide ((x.Aj.length:Int)≤x.size) && x.Aj.all Oh
theorem D6 {x:Az}:Dw x=true↔(0≤x.Al∧x.Al≤65535)∧(1≤x.size∧x.size≤6)∧(x.Aj.length:Int)≤x.size∧x.Aj.all Oh=true:=by
 unfold Dw
 simp only [Bool.and_eq_true,A9,Ig,decide_eq_true_eq,and_assoc]
theorem Ab4 (s:ByteArray) (w:World) (hs:s.size≤maxLen) :
  Calls prog 222 #[.string s] w fun e w'=>e=.returned (.bool (!Oh s))∧Below w.heap.size w w':=by
 go_enter func222,ntmps222
 go_wp2_with fail
 refine (Y4 s _ hs).mono ?_
 rintro e w1 ⟨rfl,hb⟩
 go_wp2_with fail
 go_ret
 exact ⟨rfl,hb⟩
theorem Afg (v:Value) (xs:List ByteArray) (F:List Nat) (w:World) (h:Sl Ba w v xs F) :
  Calls prog 164 #[v] w fun e w'=>e=.returned (.bool (xs.all Oh))∧Below w.heap.size w w':=by
 have hq:(!xs.any fun s=>!Oh s)=xs.all Oh:=by rw [List.not_any_eq_all_not];simp
 replace hq:=Lib.hid hq
 go_enter func164,ntmps164
 go_wp2_with fail
 refine (Tn _ (.mk' func222 rfl rfl) _ _ xs F (fun s=>!Oh s) _ h ?_).mono ?_
 ·rintro k hk wr u G hb ⟨_,rfl,hu⟩
  obtain ⟨hu,hsz, -⟩:=hu
  cases hu
  exact Ab4 _ _ hsz
 rintro e w1 ⟨rfl,hb⟩
 go_wp2_with fail
 go_ret
 exact ⟨Cn hq.out,hb⟩
theorem Ol (v:Value) (x:Az) (F:List Nat) (w:World) (h:Pt Bx w v x F) :
  Calls prog 98 #[v] w fun e w'=>e=.returned (.bool (Dw x))∧Below w.heap.size w w':=by
 obtain ⟨_,rfl,v1,rfl,h1⟩:=h
 obtain ⟨a,c,rfl⟩:=h1.slice
 have hl:=h1.len
 unfold maxLen at hl
 have hB0:∀A:Obj,Below w.heap.size w (w.alloc A):=fun A=>(Below.refl _ _).alloc (Nat.le_refl _) _
 go_enter func98,ntmps98
 go_wp2_with fail
 refine (Ih _ _).mono ?_
 rintro e w' ⟨rfl,rfl⟩
 cases g1:B9 x.Al
 ·go_wp2_with fail
  go_ret
  exact ⟨Cn (by simp [Dw,g1]),hB0 _⟩
 go_wp2_with fail
 refine (Ie _ _ _ _).mono ?_
 rintro e w' ⟨rfl,rfl⟩
 cases g2:Ig 1 x.size 6
 ·go_wp2_with fail
  go_ret
  exact ⟨Cn (by simp [Dw,g2]),hB0 _⟩
 by_cases g3:(x.Aj.length:Int)≤x.size
 ·go_wp2_with fail
  refine (Afg _ x.Aj F _ (h1.below (by decide) (hB0 _))).mono ?_
  rintro e w1 ⟨rfl,hb⟩
  go_wp2_with fail
  go_ret
  exact ⟨Cn (by simp [Dw,g1,g2,g3]),tr (hB0 _) hb (Nat.le_refl _)⟩
 ·go_wp2_with fail
  go_ret
  exact ⟨Cn (by simp only [Dw,decide_eq_false (show ¬(x.Aj.length:Int)≤x.size by omega),Bool.and_false,Bool.false_and]),hB0 _⟩
theorem T5 (v:Value) (x:Az) (F:List Nat) (w:World) (h:Pt Bx w v x F) (hm:x.Aj.length≤4294967296) :
  Calls prog 132 #[v] w (Akj N2 x w):=by
 obtain ⟨_,rfl,v1,rfl,h1⟩:=h
 obtain ⟨a,c,rfl⟩:=h1.slice
 have hB0:∀A B:Obj,Below w.heap.size w ((w.alloc A).alloc B):=fun A B=>((Below.refl _ _).alloc (Nat.le_refl _) _).alloc (by simp) _
 go_enter func132,ntmps132
 go_wp2_with fail
 refine (Uw _ x.Aj F _ (h1.below (by decide) (hB0 _ _)) hm).mono ?_
 rintro e w1 ⟨v2,F2,rfl,o,n,g,hb⟩
 obtain ⟨a2,c2,rfl⟩:=o.slice
 have r0:=Hm.below (g:=w.heap.size) (t:=29) (cs:=[.int .i64 x.Al,.int .i64 x.size,.slice a x.Aj.length c]) (by simp [Iq] <;> omega) hb
 have r1:=Hm.below (g:=w.heap.size+1) (t:=29) (cs:=[.int .i64 0,.int .i64 0,.slice none 0 0]) (by simp [Iq] <;> omega) hb
 have hB:=tr (hB0 _ _) hb (Nat.le_refl _)
 have c0:=r0.cells;have f0:=r0.frozens
 have c1:=r1.cells;have f1:=r1.frozens
 clear hb
 replace o:=Lib.hid o
 go_wp2_with fail
 refine bodyPost_ret (v:=.agg #[.int .i64 x.Al,.int .i64 x.size,.slice a2 x.Aj.length c2]) ?_ rfl ?_
 ·simp [results,results132,go_sem,c0,c1,f1]
 ·refine ⟨_,F2,rfl,⟨_,rfl,_,rfl,?_⟩,n,fun b hb=>by have:=g b hb;simp at this;omega,?_⟩
  ·repeat refine Ow.setFar ?_ (fun hm=>by have:=g _ hm;simp at this <;> omega) _
   exact o.out
  ·repeat refine Below.setCell ?_ (by simp <;> omega) _
   exact hB
theorem Aeb (v:Value) (x:Az) (F:List Nat) (w:World) (h:Pt Bx w v x F) :
  Calls prog 149 #[v] w fun e w'=>e=.returned (.bool (Dw x))∧Below w.heap.size w w':=by
 obtain ⟨_,rfl,v1,rfl,h1⟩:=h
 obtain ⟨a,c,rfl⟩:=h1.slice
 have hl:=h1.len
 unfold maxLen at hl
 have hB0:∀A:Obj,Below w.heap.size w (w.alloc A):=fun A=>(Below.refl _ _).alloc (Nat.le_refl _) _
 go_enter func149,ntmps149
 go_wp2_with fail
 refine (Lp _ _).mono ?_
 rintro e w' ⟨rfl,rfl⟩
 cases g1:B9 x.Al
 ·go_wp2_with fail
  go_ret
  exact ⟨Cn (by simp [Dw,g1]),hB0 _⟩
 go_wp2_with fail
 refine (Kg _ _ _ _).mono ?_
 rintro e w' ⟨rfl,rfl⟩
 cases g2:Ig 1 x.size 6
 ·go_wp2_with fail
  go_ret
  exact ⟨Cn (by simp [Dw,g2]),hB0 _⟩
 by_cases g3:x.size < (x.Aj.length:Int)
 ·go_wp2_with fail
  go_ret
  exact ⟨Cn (by simp only [Dw,decide_eq_false (show ¬(x.Aj.length:Int)≤x.size by omega),Bool.and_false,Bool.false_and]),hB0 _⟩
 have hg:Dw x=x.Aj.all Oh:=by unfold Dw;rw [g1,g2,decide_eq_true (by omega)];simp
 replace hg:=Lib.hid hg
 go_wp2_with fail
 have r0:=Hm.made w 29 [.int .i64 x.Al,.int .i64 x.size,.slice a x.Aj.length c]
 have h2:=h1.below (by decide) (hB0 (.cells #[.int .i64 x.Al,.int .i64 x.size,.slice a x.Aj.length c] 29))
 have hB:=hB0 (.cells #[.int .i64 x.Al,.int .i64 x.size,.slice a x.Aj.length c] 29)
 generalize w.alloc (.cells #[.int .i64 x.Al,.int .i64 x.size,.slice a x.Aj.length c] 29)=w1 at *
 have c0:=r0.cells
 go_loop [3] (fun i=>∃k:Nat,k≤x.Aj.length∧i=.int .i64 k∧Hid (∀j,j < k→∀hj:j < x.Aj.length,Oh x.Aj[j]=true)) (fun i=>x.Aj.length - (intOf i).toNat)
 case atStart=>exact ⟨0,Nat.zero_le _,rfl,fun j hj=>by omega⟩
 case round =>
  obtain ⟨k,hk,rfl,hz⟩:=hrel
  by_cases hlt:k < x.Aj.length
  ·obtain ⟨hsz,b,off,rfl,hc⟩:=h2.str.2.2 k hlt
   cases hi:Oh x.Aj[k]
   ·have hi2:(decide ((x.Aj[k].size:Int)≤8) && Rf x.Aj[k].data.toList)=false:=hi
    go_wp2_with fail
    refine (P2 _ _ _ hsz).mono ?_
    rintro e w' ⟨rfl,rfl⟩
    go_wp2_with fail
    go_ret
    refine ⟨Cn ?_,hB⟩
    rw [hg.out]
    exact (List.all_eq_false.2 ⟨x.Aj[k],List.getElem_mem _,by simp [hi]⟩).symm
   ·have hi2:(decide ((x.Aj[k].size:Int)≤8) && Rf x.Aj[k].data.toList)=true:=hi
    go_wp2_with fail
    refine (P2 _ _ _ hsz).mono ?_
    rintro e w' ⟨rfl,rfl⟩
    go_wp2_with fail
    exact ⟨⟨k+1,by omega,by go_num,fun j hj hl=>by rcases Nat.lt_or_eq_of_le (Nat.le_of_lt_succ hj) with h|h;exact hz.out j h hl;subst h;exact hi⟩,by simp [intOf];omega⟩
  ·have hk:k=x.Aj.length:=by omega
   go_wp2_with fail
   go_ret
   refine ⟨Cn ?_,hB⟩
   rw [hg.out]
   refine (List.all_eq_true.2 fun s hs=>?_).symm
   obtain ⟨j,hj,rfl⟩:=List.getElem_of_mem hs
   exact hz.out j (by omega) hj
section
variable {c:Cx} {fr:Fr} {H:List Pc} {Φ:Gl}
theorem Ex {v:Value} {x:Cj} {F:List Nat} (h:∀(a1:Option Addr) (c1:Nat) (F1:List Nat) (a2:Option Addr) (c2:Nat) (F2:List Nat),v=.agg #[.int .i64 x.Aa.Al,.int .i64 x.Aa.size,.slice a1 x.Aa.Aj.length c1,.int .i64 x.Ai,.int .i64 x.quiet,.slice a2 x.holds.length c2]→x.Aa.Aj.length≤maxLen→x.holds.length≤maxLen→T c fr (.sl Ba (.slice a1 x.Aa.Aj.length c1) x.Aa.Aj F1::.sl Bj (.slice a2 x.holds.length c2) x.holds F2::H) Φ) (hm:.isv Dm v x F∈H:=by exact B8):T c fr H Φ:=.mk fun a w s g=>by
 obtain ⟨cs,rfl,v1,v2,G1,G2,rfl,h1,h2,rfl⟩:=s.get hm
 obtain ⟨a1,c1,rfl⟩:=h1.slice;have l1:=h1.len
 obtain ⟨a2,c2,rfl⟩:=h2.slice;have l2:=h2.len
 have t2:=s.ro (p:=.sl Bj (.slice a2 x.holds.length c2) x.holds G2) hm rfl rfl ⟨by decide,h2⟩ (by intro b hb;simp only [Pc.F] at hb ⊢;simp [hb])
 have t1:=t2.ro (p:=.sl Ba (.slice a1 x.Aa.Aj.length c1) x.Aa.Aj G1) (List.mem_cons_of_mem _ hm) rfl rfl ⟨by decide,h1⟩ (by intro b hb;simp only [Pc.F] at hb ⊢;simp [hb])
 exact (h a1 c1 G1 a2 c2 G2 rfl  l1 l2).h a w t1 g
theorem Dr (x:Cj) {a1:Option Addr} {c1:Nat} {F1:List Nat} {a2:Option Addr} {c2:Nat} {F2:List Nat}  (h:T c fr (.isv Dm (.agg #[.int .i64 x.Aa.Al,.int .i64 x.Aa.size,.slice a1 x.Aa.Aj.length c1,.int .i64 x.Ai,.int .i64 x.quiet,.slice a2 x.holds.length c2]) x (F1++F2)::H) Φ) (m1:.sl Ba (.slice a1 x.Aa.Aj.length c1) x.Aa.Aj F1∈H:=by exact B8) (m2:.sl Bj (.slice a2 x.holds.length c2) x.holds F2∈H:=by exact B8):T c fr H Φ:=.mk fun a w s g=>by
 have hP:Pt Dm w (.agg #[.int .i64 x.Aa.Al,.int .i64 x.Aa.size,.slice a1 x.Aa.Aj.length c1,.int .i64 x.Ai,.int .i64 x.quiet,.slice a2 x.holds.length c2]) x (F1++F2):=⟨_,rfl,_,_,_,_,rfl,(s.get m1).2,(s.get m2).2,rfl⟩
 refine h.h a w (s.add (N:=[.isv Dm (.agg #[.int .i64 x.Aa.Al,.int .i64 x.Aa.size,.slice a1 x.Aa.Aj.length c1,.int .i64 x.Ai,.int .i64 x.quiet,.slice a2 x.holds.length c2]) x (F1++F2)]) (Below.refl _ _) (by intro q hq;simp at hq;subst hq;exact hP) ⟨by simp,trivial⟩ fun q hq b hb=>?_) g
 simp at hq;subst hq
 simp only [Pc.F,List.mem_append] at hb
 rcases hb with hb|hb
 ·exact .inr ⟨rfl,_,m1,rfl,hb⟩
 ·exact .inr ⟨rfl,_,m2,rfl,hb⟩
theorem Su {v:Value} {x:Cj} {F:List Nat} {S:List Pc} (h:∀(a1:Option Addr) (c1:Nat) (F1:List Nat) (a2:Option Addr) (c2:Nat) (F2:List Nat),v=.agg #[.int .i64 x.Aa.Al,.int .i64 x.Aa.size,.slice a1 x.Aa.Aj.length c1,.int .i64 x.Ai,.int .i64 x.quiet,.slice a2 x.holds.length c2]→x.Aa.Aj.length≤maxLen→x.holds.length≤maxLen→T c fr (.ow Ba 9 (.slice a1 x.Aa.Aj.length c1) x.Aa.Aj F1::.ow Bj 134 (.slice a2 x.holds.length c2) x.holds F2::S) Φ) (hp:C0 H (.own Ta v x F) S:=by exact D0):T c fr H Φ:=.mk fun a w s g=>by
 have z1:=s.pick hp
 obtain ⟨hn,cs,rfl,v1,v2,G1,G2,rfl,h1,h2,rfl⟩:=z1.on (.own Ta v x F) (by simp)
 obtain ⟨a1,c1,rfl⟩:=h1.slice;have l1:=h1.len
 obtain ⟨a2,c2,rfl⟩:=h2.slice;have l2:=h2.len
 have hn2:=hn;simp only [List.nodup_append,List.mem_append] at hn2
 refine (h a1 c1 G1 a2 c2 G2 rfl  l1 l2).h a w (St.turn (M:=[.own Ta (.agg #[.int .i64 x.Aa.Al,.int .i64 x.Aa.size,.slice a1 x.Aa.Aj.length c1,.int .i64 x.Ai,.int .i64 x.quiet,.slice a2 x.holds.length c2]) x _]) (N:=[.ow Ba 9 (.slice a1 x.Aa.Aj.length c1) x.Aa.Aj G1,.ow Bj 134 (.slice a2 x.holds.length c2) x.holds G2]) z1 (Dy.refl _ w) ?_ ?_ ?_) g
 ·intro q hq;simp only [List.mem_cons,List.not_mem_nil,or_false] at hq
  rcases hq with rfl|rfl
  ·exact ⟨(List.nodup_append.1 hn).1,h1⟩
  ·exact ⟨(List.nodup_append.1 hn).2.1,h2⟩
 ·refine ⟨?_,⟨?_,trivial⟩⟩
  ·intro q hq _ b hb hb2;simp only [List.mem_cons,List.not_mem_nil,or_false] at hq;rcases hq with rfl <;> simp only [Pc.F] at hb hb2 <;> exact Ea hn hb hb2
  ·intro q hq _ b hb hb2;simp at hq
 ·intro q hq b hb;refine .inr (.inl ⟨_,List.mem_singleton.2 rfl,rfl,?_⟩);simp only [List.mem_cons,List.not_mem_nil,or_false] at hq;rcases hq with rfl|rfl <;> simp only [Pc.F] at hb ⊢ <;> simp [hb]
theorem Ab7 (x:Cj) {a1:Option Addr} {c1:Nat} {F1:List Nat} {a2:Option Addr} {c2:Nat} {F2:List Nat} {S1 S2:List Pc}  (h:T c fr (.own Ta (.agg #[.int .i64 x.Aa.Al,.int .i64 x.Aa.size,.slice a1 x.Aa.Aj.length c1,.int .i64 x.Ai,.int .i64 x.quiet,.slice a2 x.holds.length c2]) x (F1++F2)::S2) Φ) (m1:C0 H (.ow Ba 9 (.slice a1 x.Aa.Aj.length c1) x.Aa.Aj F1) S1:=by exact D0) (m2:C0 S1 (.ow Bj 134 (.slice a2 x.holds.length c2) x.holds F2) S2:=by exact D0)  : T c fr H Φ:=.mk fun a w s g=>by
 have z1:St c.G c.D c.w0 ([.ow Ba 9 (.slice a1 x.Aa.Aj.length c1) x.Aa.Aj F1,.ow Bj 134 (.slice a2 x.holds.length c2) x.holds F2]++S2) w:=by simpa using (show Fc H [.ow Ba 9 (.slice a1 x.Aa.Aj.length c1) x.Aa.Aj F1,.ow Bj 134 (.slice a2 x.holds.length c2) x.holds F2] S2 from Fc.cons m1 (Fc.cons m2 (Fc.nil))).st (X:=[]) (by simpa using s)
 obtain ⟨n1,k1⟩:=z1.on (.ow Ba 9 (.slice a1 x.Aa.Aj.length c1) x.Aa.Aj F1) (by simp)
 obtain ⟨n2,k2⟩:=z1.on (.ow Bj 134 (.slice a2 x.holds.length c2) x.holds F2) (by simp)
 have hsp:=z1.Zr
 have p1_2:∀b∈F1,b ∉ F2:=hsp.1 (.ow Bj 134 (.slice a2 x.holds.length c2) x.holds F2) (by simp) rfl
 have hN:(F1++F2).Nodup:=by
  simp only [List.nodup_append,List.mem_append]
  grind
 refine h.h a w (St.turn (M:=[.ow Ba 9 (.slice a1 x.Aa.Aj.length c1) x.Aa.Aj F1,.ow Bj 134 (.slice a2 x.holds.length c2) x.holds F2]) (N:=[.own Ta (.agg #[.int .i64 x.Aa.Al,.int .i64 x.Aa.size,.slice a1 x.Aa.Aj.length c1,.int .i64 x.Ai,.int .i64 x.quiet,.slice a2 x.holds.length c2]) x (F1++F2)]) z1 (Dy.refl _ w) (by intro q hq;simp at hq;subst hq;exact ⟨hN,_,rfl,_,_,_,_,rfl,k1,k2,rfl⟩) ⟨by simp,trivial⟩ fun q hq b hb=>?_) g
 simp at hq;subst hq
 simp only [Pc.F,List.mem_append] at hb
 rcases hb with hb|hb
 ·exact .inr (.inl ⟨.ow Ba 9 (.slice a1 x.Aa.Aj.length c1) x.Aa.Aj F1,by simp,rfl,hb⟩)
 ·exact .inr (.inl ⟨.ow Bj 134 (.slice a2 x.holds.length c2) x.holds F2,by simp,rfl,hb⟩)
end
section
variable {c:Cx} {fr:Fr} {H:List Pc} {Φ:Gl}
theorem Aej {v:Value} {x:Gt} {F:List Nat} (h:∀(_:Unit),v=.agg #[.int .i64 x.Ae,.int .i64 x.Ca]→T c fr (H) Φ) (hm:.isv Bj v x F∈H:=by exact B8):T c fr H Φ:=.mk fun a w s g=>by
 obtain ⟨cs,rfl,rfl,rfl⟩:=s.get hm
 exact (h () rfl  ).h a w s g
theorem P8 {a:Option Addr} {n cp:Nat} {xs:List Gt} {F:List Nat} (i:Nat) (h:∀(hi:i < xs.length) (b o:Nat),a=some ⟨b,o,none⟩→T c fr (.cel b (o+i * 2) [.int .i64 xs[i].Ae,.int .i64 xs[i].Ca]::H) Φ) (hm:.sl Bj (.slice a n cp) xs F∈H:=by exact B8) (hi:i < xs.length:=by omega):T c fr H Φ:=.mk fun ac w s g=>by
 obtain ⟨b,o,cs,G,ha,hrep,hG,hb,hne,hr⟩:=Tw (s.get hm) i hi
 obtain ⟨rfl,rfl⟩:=hrep
 exact (h hi b o  ha  ).h ac w (s.ro hm rfl rfl ⟨hne,hr⟩ (by intro x hx;simp [Pc.F] at hx;subst hx;exact hb)) g
end
section
variable {c:Cx} {fr:Fr} {H:List Pc} {Φ:Gl}
theorem El {v:Value} {x:Az} {F:List Nat} (h:∀(a1:Option Addr) (c1:Nat) (F1:List Nat),v=.agg #[.int .i64 x.Al,.int .i64 x.size,.slice a1 x.Aj.length c1]→x.Aj.length≤maxLen→T c fr (.sl Ba (.slice a1 x.Aj.length c1) x.Aj F1::H) Φ) (hm:.isv Bx v x F∈H:=by exact B8):T c fr H Φ:=.mk fun a w s g=>by
 obtain ⟨cs,rfl,v1,rfl,h1⟩:=s.get hm
 obtain ⟨a1,c1,rfl⟩:=h1.slice;have l1:=h1.len
 have t1:=s.ro (p:=.sl Ba (.slice a1 x.Aj.length c1) x.Aj F) hm rfl rfl ⟨by decide,h1⟩ fun b hb=>hb
 exact (h a1 c1 F rfl  l1).h a w t1 g
theorem Ch (x:Az) {a1:Option Addr} {c1:Nat} {F1:List Nat}  (h:T c fr (.isv Bx (.agg #[.int .i64 x.Al,.int .i64 x.size,.slice a1 x.Aj.length c1]) x (F1)::H) Φ) (m1:.sl Ba (.slice a1 x.Aj.length c1) x.Aj F1∈H:=by exact B8):T c fr H Φ:=.mk fun a w s g=>by
 have hP:Pt Bx w (.agg #[.int .i64 x.Al,.int .i64 x.size,.slice a1 x.Aj.length c1]) x (F1):=⟨_,rfl,_,rfl,(s.get m1).2⟩
 refine h.h a w (s.add (N:=[.isv Bx (.agg #[.int .i64 x.Al,.int .i64 x.size,.slice a1 x.Aj.length c1]) x (F1)]) (Below.refl _ _) (by intro q hq;simp at hq;subst hq;exact hP) ⟨by simp,trivial⟩ fun q hq b hb=>?_) g
 simp at hq;subst hq
 simp only [Pc.F,List.mem_append] at hb
 exact .inr ⟨rfl,_,m1,rfl,hb⟩
theorem Ik {v:Value} {x:Az} {F:List Nat} {S:List Pc} (h:∀(a1:Option Addr) (c1:Nat) (F1:List Nat),v=.agg #[.int .i64 x.Al,.int .i64 x.size,.slice a1 x.Aj.length c1]→x.Aj.length≤maxLen→T c fr (.ow Ba 9 (.slice a1 x.Aj.length c1) x.Aj F1::S) Φ) (hp:C0 H (.own N2 v x F) S:=by exact D0):T c fr H Φ:=.mk fun a w s g=>by
 have z1:=s.pick hp
 obtain ⟨hn,cs,rfl,v1,rfl,h1⟩:=z1.on (.own N2 v x F) (by simp)
 obtain ⟨a1,c1,rfl⟩:=h1.slice;have l1:=h1.len
 refine (h a1 c1 F rfl  l1).h a w (St.turn (M:=[.own N2 (.agg #[.int .i64 x.Al,.int .i64 x.size,.slice a1 x.Aj.length c1]) x _]) (N:=[.ow Ba 9 (.slice a1 x.Aj.length c1) x.Aj F]) z1 (Dy.refl _ w) ?_ ?_ ?_) g
 ·intro q hq;simp at hq;subst hq;exact ⟨hn,h1⟩
 ·exact ⟨by simp,trivial⟩
 ·intro q hq b hb;simp at hq;subst hq;exact .inr (.inl ⟨_,List.mem_singleton.2 rfl,rfl,hb⟩)
end
def Hn (w:Az) (n:Int):Bool:=decide (gp w.Al n < (w.Aj.length:Int))
theorem Ab6 {n:Int} (h:Iy n=true):0≤n∧n≤9999:=by unfold Iy Ig at h;simpa using h
def Aad (x:Cj) (i:Nat):Bool:=match x.holds[i]? with
 | none=>true
 | some h=>B9 h.Ae && Hn x.Aa h.Ae && Ig (x.Ai+1) h.Ca (x.Ai+3) && (decide (i=0) || match x.holds[i - 1]? with|none=>true|some p=>!decide (gp x.Aa.Al h.Ae≤gp x.Aa.Al p.Ae))
theorem M3 {x:Cj} {i:Nat} (h:i < x.holds.length):Aad x i=(B9 x.holds[i].Ae && Hn x.Aa x.holds[i].Ae && Ig (x.Ai+1) x.holds[i].Ca (x.Ai+3) && (decide (i=0) || !decide (gp x.Aa.Al x.holds[i].Ae≤gp x.Aa.Al (x.holds[i - 1]'(by omega)).Ae))):=by
 unfold Aad
 rw [List.getElem?_eq_getElem h,List.getElem?_eq_getElem (show i - 1 < x.holds.length by omega)]
def Cc (x:Cj):Bool:=Dw x.Aa && Iy x.Ai && Ig 0 x.quiet 3 && (List.range x.holds.length).all (Aad x)
theorem Y1 {x:Cj} {i:Nat} (h:i < x.holds.length) (hc:Aad x i=false):Cc x=false:=by
 have:(List.range x.holds.length).all (Aad x)=false:=List.all_eq_false.2 ⟨i,by simpa using h,by simp [hc]⟩
 simp [Cc,this]
theorem Xe {x:Cj} (h1:Dw x.Aa=true) (h2:Iy x.Ai=true) (h3:Ig 0 x.quiet 3=true) (h:∀j,j < x.holds.length→Aad x j=true):Cc x=true:=by
 unfold Cc
 rw [h1,h2,h3,List.all_eq_true.2 fun j hj=>h j (by simpa using hj)];rfl
theorem Sp (x:Az) (n:Int) (v:Value) (F:List Nat) (h0:0≤x.Al) (h1:x.Al≤65535) (h2:0≤n) (h3:n≤65535) :
  Fn prog 101 [v,.int .i64 n] [.isv Bx v x F] [] (fun (_:Unit)=>True) (fun _=>.bool (Hn x n)) (fun _=>[]):=by
 refine enter func101 rfl ntmps101 fun w0=>?_
 refine El ?_
 rintro a1 c1 F1 rfl l1
 refine go ?_;intros
 refine As [0] [] ?_
 refine dt 0 ?_
 refine dt 1 ?_
 refine dt 2 ?_
 refine dt 4 ?_
 refine dt 5 ?_
 refine dt 6 ?_
 refine dO 3 (by kernel_rfl) (by rw [List.getElem?_toArray];rfl) ?_
 apply At;rfl;kernel_rfl;exact Bf
 refine ce (fun w s=>Mo _ _ _ (by omega) (by omega) (by omega) (by omega)) ?_
 refine dk ?_
 refine dt 7 ?_
 refine dt 8 ?_
 refine dd ?_
 refine go ?_;intros
 refine ret () trivial rfl
theorem Th (x:Az) (n:Int) (v:Value) (F:List Nat) (h0:0≤x.Al) (h1:x.Al≤65535) (h2:-1≤n) (h3:n≤65536) :
  Fn prog 152 [v,.int .i64 n] [.isv Bx v x F] [] (fun (_:Unit)=>True) (fun _=>.bool (Hn x n)) (fun _=>[]):=by
 refine enter func152 rfl ntmps152 fun w0=>?_
 refine El ?_
 rintro a1 c1 F1 rfl l1
 refine go ?_;intros
 refine As [0] [] ?_
 refine dt 0 ?_
 refine dt 1 ?_
 refine dt 2 ?_
 refine dt 4 ?_
 refine dt 5 ?_
 refine dt 6 ?_
 refine dO 3 (by kernel_rfl) (by rw [List.getElem?_toArray];rfl) ?_
 apply At;rfl;kernel_rfl;exact Bf
 refine ce (fun w s=>H8 _ _ _ (by omega) (by omega)) ?_
 refine dk ?_
 refine dt 7 ?_
 refine dt 8 ?_
 refine dd ?_
 refine go ?_;intros
 refine ret () trivial rfl
theorem Aec (x:Az) (n:Int) (v:Value) (F:List Nat) (h0:0≤x.Al) (h1:x.Al≤65535) (h2:0≤n) (h3:n≤65535) :
  Fn prog 152 [v,.int .i64 n] [.isv Bx v x F] [] (fun (_:Unit)=>True) (fun _=>.bool (Hn x n)) (fun _=>[]):=Th x n v F h0 h1 (by omega) (by omega)
theorem R9 (x:Cj) (v:Value) (F:List Nat):Fn prog 44 [v] [.isv Dm v x F] [] (fun (_:Unit)=>True) (fun _=>.bool (Cc x)) (fun _=>[]):=by
 refine enter func44 rfl ntmps44 fun w0=>?_
 refine Ex ?_
 rintro a1 c1 F1 a2 c2 F2 rfl l1 l2
 unfold maxLen at l1 l2
 refine Ch x.Aa ?_
 generalize F1=F3
 refine go ?_;intros
 refine cb (fun w st=>Ol _ x.Aa _ w (st.get (p:=.isv Bx (.agg #[.int .i64 x.Aa.Al,.int .i64 x.Aa.size,.slice a1 x.Aa.Aj.length c1]) x.Aa F3) (by simp))) ?_
 cases g1:Dw x.Aa
 ·refine go ?_;intros
  refine ret () trivial ?_
  simp [Cc,g1,Pv]
 obtain ⟨⟨t0,t1⟩, -⟩:=D6.1 g1
 refine go ?_;intros
 refine ce (fun w s=>O3 _ _) ?_
 cases g2:Iy x.Ai
 ·refine go ?_;intros
  refine ret () trivial ?_
  simp [Cc,g2,Pv]
 obtain ⟨k0,k1⟩:=Ab6 g2
 refine go ?_;intros
 refine ce (fun w s=>Ie _ _ _ _) ?_
 cases g3:Ig 0 x.quiet 3
 ·refine go ?_;intros
  refine ret () trivial ?_
  simp [Cc,g3,Pv]
 refine go ?_;intros
 refine Dv [1,2,22,23] (fun k:Nat=>[(24,.int .i64 k)]) (fun k=>k≤x.holds.length∧∀j,j < k→Aad x j=true) (fun k=>x.holds.length - k) 0 ⟨Nat.zero_le _,fun j h=>by omega⟩ fun k hk=>?_
 obtain ⟨hk1,hk2⟩:=hk
 refine go ?_;intros
 refine Bg rfl (fun h3=>?_) (fun h3=>?_)
 ·have hk3:k < x.holds.length:=by omega
  have bad:Aad x k=false→Cc x=false:=fun h=>Y1 hk3 h
  have hck:=M3 hk3
  refine P8 (xs:=x.holds) k ?_
  rintro hi b o e
  rw [e]
  refine go ?_;intros
  refine ce (fun w s=>Ih _ _) ?_
  cases g4:B9 x.holds[k].Ae
  ·refine go ?_;intros
   refine ret () trivial ?_
   rw [bad (by rw [hck,g4];rfl)];rfl
  obtain ⟨m0,m1⟩:=A9.1 g4
  refine go ?_;intros
  refine cb (fun w st=>(Sp x.Aa x.holds[k].Ae _ _ t0 t1 m0 m1).val w (Il (st.get (p:=.isv Bx (.agg #[.int .i64 x.Aa.Al,.int .i64 x.Aa.size,.slice a1 x.Aa.Aj.length c1]) x.Aa F3) (by simp)))) ?_
  cases g5:Hn x.Aa x.holds[k].Ae
  ·refine go ?_;intros
   refine ret () trivial ?_
   rw [bad (by rw [hck,g4,g5];rfl)];rfl
  refine go ?_;intros
  refine ce (fun w s=>Ie _ _ _ _) ?_
  cases g6:Ig (x.Ai+1) x.holds[k].Ca (x.Ai+3)
  ·refine go ?_;intros
   refine ret () trivial ?_
   rw [bad (by rw [hck,g4,g5,g6];rfl)];rfl
  refine go ?_;intros
  by_cases hk0:0 < k
  ·have hk4:k - 1 < x.holds.length:=by omega
   have hp:=hk2 (k - 1) (by omega)
   rw [M3 hk4] at hp
   simp only [Bool.and_eq_true] at hp
   obtain ⟨p0,p1⟩:=A9.1 hp.1.1.1
   rw [←e]
   refine P8 (xs:=x.holds) (k - 1) ?_
   rintro hi5 b5 o5 e5
   rw [e5]
   refine As [0,1,3] [] ?_
   refine dt 0 ?_
   refine dt 1 ?_
   rw [decide_eq_true (show (0:Int) < k by omega)]
   refine dt 2 ?_
   refine Dh 3 ?_
   refine Dh 4 ?_
   refine Dh 5 ?_
   refine Dh 6 ?_
   refine Dh 7 ?_
   refine Dh 8 ?_
   refine Dh 9 ?_
   rw [show (k:Int) - 1=((k - 1:Nat):Int) by omega]
   refine Dh 10 ?_
   refine Dh 11 ?_
   refine Dh 12 ?_
   refine Dh 14 ?_
   refine Dh 15 ?_
   refine Dh 16 ?_
   refine Dh 17 ?_
   refine Dh 18 ?_
   refine d1g 13 ?_
   apply On.h
   apply At;rfl;kernel_rfl;exact Bf
   refine ce (fun w s=>Mo _ _ _ (by omega) (by omega) (by omega) (by omega)) ?_
   refine dk ?_
   refine d1g 19 ?_
   apply On.h
   apply At;rfl;kernel_rfl;exact Bf
   refine ce (fun w s=>Mo _ _ _ (by omega) (by omega) (by omega) (by omega)) ?_
   refine dk ?_
   refine Dh 20 ?_
   refine dt 21 ?_
   refine dd ?_
   refine go ?_;intros
   refine Bg rfl (fun h6=>?_) (fun h6=>?_)
   ·refine go ?_;intros
    refine ret () trivial ?_
    rw [bad (by rw [hck,decide_eq_true h6,decide_eq_false (show ¬k=0 by omega)];simp)];rfl
   ·refine go ?_;intros
    refine Ck (k+1) ⟨by omega,fun j hj=>?_⟩ (by omega)
    rcases Nat.lt_or_eq_of_le (Nat.lt_succ_iff.1 hj) with h|rfl
    ·exact hk2 j h
    ·rw [hck,g4,g5,g6,decide_eq_false h6];simp
  ·have hz:k=0:=by omega
   refine As [0,2] [] ?_
   refine dt 0 ?_
   refine dt 1 ?_
   rw [decide_eq_false (show ¬(0:Int) < k by omega)]
   refine dt 2 ?_
   refine ds 3 ?_
   refine ds 4 ?_
   refine ds 5 ?_
   refine ds 6 ?_
   refine ds 7 ?_
   refine ds 8 ?_
   refine ds 9 ?_
   refine ds 10 ?_
   refine ds 11 ?_
   refine ds 12 ?_
   refine ds 13 ?_
   refine ds 14 ?_
   refine ds 15 ?_
   refine ds 16 ?_
   refine ds 17 ?_
   refine ds 18 ?_
   refine ds 19 ?_
   refine ds 20 ?_
   refine dt 21 ?_
   refine dd ?_
   refine go ?_;intros
   refine Ck (k+1) ⟨by omega,fun j hj=>?_⟩ (by omega)
   rcases Nat.lt_or_eq_of_le (Nat.lt_succ_iff.1 hj) with h|rfl
   ·exact hk2 j h
   ·rw [hck,g4,g5,g6,decide_eq_true hz];simp
 have hkl:k=x.holds.length:=by omega
 refine go ?_;intros
 refine ret () trivial ?_
 rw [Xe g1 g2 g3 (hkl▸hk2)];rfl
theorem Aa9 (x:Cj) (v:Value) (F:List Nat):Fn prog 84 [v] [.isv Dm v x F] [] (fun (_:Unit)=>True) (fun _=>.bool (Cc x)) (fun _=>[]):=by
 refine enter func84 rfl ntmps84 fun w0=>?_
 refine Ex ?_
 rintro a1 c1 F1 a2 c2 F2 rfl l1 l2
 unfold maxLen at l1 l2
 refine Ch x.Aa ?_
 generalize F1=F3
 refine go ?_;intros
 refine cb (fun w st=>Aeb _ x.Aa _ w (st.get (p:=.isv Bx (.agg #[.int .i64 x.Aa.Al,.int .i64 x.Aa.size,.slice a1 x.Aa.Aj.length c1]) x.Aa F3) (by simp))) ?_
 cases g1:Dw x.Aa
 ·refine go ?_;intros
  refine ret () trivial ?_
  simp [Cc,g1,Pv]
 obtain ⟨⟨t0,t1⟩, -⟩:=D6.1 g1
 refine go ?_;intros
 refine ce (fun w s=>Pj _ _) ?_
 cases g2:Iy x.Ai
 ·refine go ?_;intros
  refine ret () trivial ?_
  simp [Cc,g2,Pv]
 obtain ⟨k0,k1⟩:=Ab6 g2
 refine go ?_;intros
 refine ce (fun w s=>Kg _ _ _ _) ?_
 cases g3:Ig 0 x.quiet 3
 ·refine go ?_;intros
  refine ret () trivial ?_
  simp [Cc,g3,Pv]
 refine go ?_;intros
 refine Dv [1,2] (fun k:Nat=>[(3,.int .i64 k)]) (fun k=>k≤x.holds.length∧∀j,j < k→Aad x j=true) (fun k=>x.holds.length - k) 0 ⟨Nat.zero_le _,fun j h=>by omega⟩ fun k hk=>?_
 obtain ⟨hk1,hk2⟩:=hk
 refine go ?_;intros
 refine Bg rfl (fun h3=>?_) (fun h3=>?_)
 ·have hk3:k < x.holds.length:=by omega
  have bad:Aad x k=false→Cc x=false:=fun h=>Y1 hk3 h
  have hck:=M3 hk3
  refine P8 (xs:=x.holds) k ?_
  rintro hi b o e
  rw [e]
  refine go ?_;intros
  refine ce (fun w s=>Lp _ _) ?_
  cases g4:B9 x.holds[k].Ae
  ·refine go ?_;intros
   refine ret () trivial ?_
   rw [bad (by rw [hck,g4];rfl)];rfl
  obtain ⟨m0,m1⟩:=A9.1 g4
  refine go ?_;intros
  refine cb (fun w st=>(Aec x.Aa x.holds[k].Ae _ _ t0 t1 m0 m1).val w (Il (st.get (p:=.isv Bx (.agg #[.int .i64 x.Aa.Al,.int .i64 x.Aa.size,.slice a1 x.Aa.Aj.length c1]) x.Aa F3) (by simp)))) ?_
  cases g5:Hn x.Aa x.holds[k].Ae
  ·refine go ?_;intros
   refine ret () trivial ?_
   rw [bad (by rw [hck,g4,g5];rfl)];rfl
  refine go ?_;intros
  refine ce (fun w s=>Kg _ _ _ _) ?_
  cases g6:Ig (x.Ai+1) x.holds[k].Ca (x.Ai+3)
  ·refine go ?_;intros
   refine ret () trivial ?_
   rw [bad (by rw [hck,g4,g5,g6];rfl)];rfl
  refine go ?_;intros
  by_cases hk0:0 < k
  ·have hk4:k - 1 < x.holds.length:=by omega
   have hp:=hk2 (k - 1) (by omega)
   rw [M3 hk4] at hp
   simp only [Bool.and_eq_true] at hp
   obtain ⟨p0,p1⟩:=A9.1 hp.1.1.1
   rw [←e]
   refine P8 (xs:=x.holds) (k - 1) ?_
   rintro hi5 b5 o5 e5
   rw [e5]
   refine As [0,1,3] [] ?_
   refine dt 0 ?_
   refine dt 1 ?_
   rw [decide_eq_true (show (0:Int) < k by omega)]
   refine dt 2 ?_
   refine Dh 3 ?_
   refine Dh 4 ?_
   refine Dh 5 ?_
   refine Dh 6 ?_
   refine Dh 7 ?_
   refine Dh 8 ?_
   refine Dh 9 ?_
   rw [show (k:Int) - 1=((k - 1:Nat):Int) by omega]
   refine Dh 10 ?_
   refine Dh 11 ?_
   refine Dh 12 ?_
   refine Dh 14 ?_
   refine Dh 15 ?_
   refine Dh 16 ?_
   refine Dh 17 ?_
   refine Dh 18 ?_
   refine d1g 13 ?_
   apply On.h
   apply At;rfl;kernel_rfl;exact Bf
   refine ce (fun w s=>H8 _ _ _ (by omega) (by omega)) ?_
   refine dk ?_
   refine d1g 19 ?_
   apply On.h
   apply At;rfl;kernel_rfl;exact Bf
   refine ce (fun w s=>H8 _ _ _ (by omega) (by omega)) ?_
   refine dk ?_
   refine Dh 20 ?_
   refine dt 21 ?_
   refine dd ?_
   refine go ?_;intros
   refine Bg rfl (fun h6=>?_) (fun h6=>?_)
   ·refine go ?_;intros
    refine ret () trivial ?_
    rw [bad (by rw [hck,decide_eq_true h6,decide_eq_false (show ¬k=0 by omega)];simp)];rfl
   ·refine go ?_;intros
    refine Ck (k+1) ⟨by omega,fun j hj=>?_⟩ (by omega)
    rcases Nat.lt_or_eq_of_le (Nat.lt_succ_iff.1 hj) with h|rfl
    ·exact hk2 j h
    ·rw [hck,g4,g5,g6,decide_eq_false h6];simp
  ·have hz:k=0:=by omega
   refine As [0,2] [] ?_
   refine dt 0 ?_
   refine dt 1 ?_
   rw [decide_eq_false (show ¬(0:Int) < k by omega)]
   refine dt 2 ?_
   refine ds 3 ?_
   refine ds 4 ?_
   refine ds 5 ?_
   refine ds 6 ?_
   refine ds 7 ?_
   refine ds 8 ?_
   refine ds 9 ?_
   refine ds 10 ?_
   refine ds 11 ?_
   refine ds 12 ?_
   refine ds 13 ?_
   refine ds 14 ?_
   refine ds 15 ?_
   refine ds 16 ?_
   refine ds 17 ?_
   refine ds 18 ?_
   refine ds 19 ?_
   refine ds 20 ?_
   refine dt 21 ?_
   refine dd ?_
   refine go ?_;intros
   refine Ck (k+1) ⟨by omega,fun j hj=>?_⟩ (by omega)
   rcases Nat.lt_or_eq_of_le (Nat.lt_succ_iff.1 hj) with h|rfl
   ·exact hk2 j h
   ·rw [hck,g4,g5,g6,decide_eq_true hz];simp
 have hkl:k=x.holds.length:=by omega
 refine go ?_;intros
 refine ret () trivial ?_
 rw [Xe g1 g2 g3 (hkl▸hk2)];rfl
def Eo (l:List Av):Bool:=decide (l.length≤6) && l.all Bp
def Uv (l:List Av):Bool:=l.all fun p=>decide (p.Df=3)
def Kc (e:Bl):Bool:=decide (e.Ai=0) && decide (e.Ah.length=0)
def Pr (r:Bb):Bool:=!r.Bh && decide (r.Ai=0) && Mk r
def Nr (par:List Int) (clk:Int) (i:Nat) (e:Bl) (r:Bb) (d u:List Av):Bool:=Eo d && Eo u && Uv u &&
 (if i=0 then Kc e && Pr r && decide (d.length=0) && decide (u.length=0)
  else if Ev par i then Kc e && Dg r && decide (r.Ai=clk) else Be e && decide (e.Ai=clk) && Pr r)
def Pf (n:D9) (i:Nat):Bool:=match n.Af[i]?,n.Ad[i]?,n.down[i]?,n.up[i]? with
 | some e,some r,some d,some u=>Nr n.Am.Ac n.Ab.Ai i e r d u
 | _,_,_,_=>true
def Je (n:D9):Bool:=decide (n.Af.length=n.Am.Ac.length) && decide (n.Ad.length=n.Am.Ac.length) && decide (n.down.length=n.Am.Ac.length) && decide (n.up.length=n.Am.Ac.length)
def Ax (n:D9):Bool:=Er n.Am && Cc n.Ab && Je n && My (Pf n) n.Am.Ac.length
theorem Tb {n:D9} {i:Nat} (h1:i < n.Af.length) (h2:i < n.Ad.length) (h3:i < n.down.length) (h4:i < n.up.length):Pf n i=Nr n.Am.Ac n.Ab.Ai i n.Af[i] n.Ad[i] n.down[i] n.up[i]:=by
 unfold Pf
 rw [List.getElem?_eq_getElem h1,List.getElem?_eq_getElem h2,List.getElem?_eq_getElem h3,List.getElem?_eq_getElem h4]
theorem Bm {n:D9}:Je n=true↔n.Af.length=n.Am.Ac.length∧n.Ad.length=n.Am.Ac.length∧n.down.length=n.Am.Ac.length∧n.up.length=n.Am.Ac.length:=by
 unfold Je
 simp only [Bool.and_eq_true,decide_eq_true_eq]
 exact ⟨fun ⟨⟨⟨a,b⟩,c⟩,d⟩=>⟨a,b,c,d⟩,fun ⟨a,b,c,d⟩=>⟨⟨⟨a,b⟩,c⟩,d⟩⟩
theorem So {n:D9}:Ax n=true↔Er n.Am=true∧Cc n.Ab=true∧Je n=true∧∀i,i < n.Am.Ac.length→Pf n i=true:=by
 unfold Ax
 simp only [Bool.and_eq_true]
 exact ⟨fun ⟨⟨⟨a,b⟩,c⟩,d⟩=>⟨a,b,c,Ib d⟩,fun ⟨a,b,c,d⟩=>⟨⟨⟨a,b⟩,c⟩,Ip d⟩⟩
theorem Yz {n:D9} {i:Nat} (hi:i < n.Am.Ac.length) (h:Pf n i=false):Ax n=false:=by unfold Ax;rw [Kd hi h,Bool.and_false]
theorem Ae8 {r:Bb} (h:Dg r=true):Pr r=(!r.Bh && decide (r.Ai=0)):=by
 unfold Pr
 cases hs:r.Bh
 ·unfold Dg at h
  rw [hs] at h
  simp only [Bool.and_eq_true,Bool.false_eq_true,if_false] at h
  rw [h.2,Bool.and_true]
 ·rfl
theorem Ra {r:Bb} (h:Pr r=true):Dg r=true:=by
 unfold Pr at h
 simp only [Bool.and_eq_true,Bool.not_eq_true',decide_eq_true_eq] at h
 unfold Dg
 rw [h.1.1,h.2,h.1.2];rfl
theorem Q9 {e:Bl} (h:Kc e=true):Be e=true:=by
 unfold Kc at h
 simp only [Bool.and_eq_true,decide_eq_true_eq] at h
 unfold Be
 rw [h.1,h.2];rfl
def Acu (par:List Int) (clk:Int) (i:Nat) (e:Bl) (r:Bb) (d u:List Av):Bool:=Be e && Dg r && Eo d && (Eo u && Uv u) &&
 (if i=0 then Kc e && (!r.Bh && decide (r.Ai=0)) && decide (d.length+u.length=0)
  else if Ev par i then Kc e && decide (r.Ai=clk) else (!r.Bh && decide (r.Ai=0)) && decide (e.Ai=clk))
theorem Abn (par:List Int) (clk:Int) (i:Nat) (e:Bl) (r:Bb) (d u:List Av):Acu par clk i e r d u=Nr par clk i e r d u:=by
 have hz:(decide (d.length+u.length=0))=(decide (d.length=0) && decide (u.length=0)):=by
  by_cases a:d.length=0 <;> by_cases b:u.length=0 <;> simp [a,b]
 unfold Acu Nr
 rw [hz]
 cases gq:Eo d <;> cases gu:Eo u <;> cases gk:Uv u <;> simp only [Bool.and_false,Bool.false_and,Bool.and_true,Bool.true_and]
 split
 ·cases he:Kc e
  ·simp
  ·rw [Q9 he]
   cases hr:Dg r
   ·cases hr2:Pr r
    ·simp
    ·rw [Ra hr2] at hr;cases hr
   ·rw [Ae8 hr];simp [Bool.and_assoc]
 ·split
  ·cases he:Kc e
   ·simp
   ·rw [Q9 he];simp
  ·cases hr:Dg r
   ·cases hr2:Pr r
    ·simp
    ·rw [Ra hr2] at hr;cases hr
   ·rw [Ae8 hr]
    cases Be e <;> cases (!r.Bh && decide (r.Ai=0)) <;> simp
end Go.Proofs.YtaemjogbahcbcaaGreatDoor
namespace Go.Proofs.YtaemjogbahcbcaaGreatDoor

def Ae9:Cj:=⟨⟨0,0,[]⟩,0,0,[]⟩
end Go.Proofs.YtaemjogbahcbcaaGreatDoor
namespace Go.Proofs.YtaemjogbahcbcaaGreatDoor
open Go.RowKit
def Es (f z:Int):Cj × Bool:=if Cc ⟨⟨f,z,[]⟩,0,0,[]⟩ then (⟨⟨f,z,[]⟩,0,0,[]⟩,true) else (Ae9,false)
theorem Ade (f z:Int):Fn prog 65 [.int .i64 f,.int .i64 z] [] [] (fun (_:List Nat)=>True) (fun _=>.tuple #[.agg #[.int .i64 (Es f z).1.Aa.Al,.int .i64 (Es f z).1.Aa.size,.slice none 0 0,.int .i64 (Es f z).1.Ai,.int .i64 (Es f z).1.quiet,.slice none 0 0],.bool (Es f z).2]) (fun s=>[.isv Dm (.agg #[.int .i64 (Es f z).1.Aa.Al,.int .i64 (Es f z).1.Aa.size,.slice none 0 0,.int .i64 (Es f z).1.Ai,.int .i64 (Es f z).1.quiet,.slice none 0 0]) (Es f z).1 s]):=by
 refine enter func65 rfl ntmps65 fun w0=>?_
 refine Bw Ba (by decide) ?_
 refine Bw Bj (by decide) ?_
 refine Dr Ae9 ?_
 refine Bw Ba (by decide) ?_
 refine Bw Bj (by decide) ?_
 refine Dr ⟨⟨f,z,[]⟩,0,0,[]⟩ ?_
 refine go ?_;intros
 refine cb (fun w st=>(R9 ⟨⟨f,z,[]⟩,0,0,[]⟩ _ ([]++[])).val w (Il (st.get (p:=.isv Dm (.agg #[.int .i64 f,.int .i64 z,.slice none 0 0,.int .i64 0,.int .i64 0,.slice none 0 0]) ⟨⟨f,z,[]⟩,0,0,[]⟩ ([]++[])) (by exact B8)))) ?_
 cases g1:Cc ⟨⟨f,z,[]⟩,0,0,[]⟩
 ·rw [show Es f z=(Ae9,false) by unfold Es;rw [g1];rfl]
  refine go ?_;intros
  refine ret ([]++[]) trivial rfl
 rw [show Es f z=(⟨⟨f,z,[]⟩,0,0,[]⟩,true) by unfold Es;rw [g1];rfl]
 refine go ?_;intros
 refine ret ([]++[]) trivial rfl
theorem Sd (f z:Int):Fn prog 67 [.int .i64 f,.int .i64 z] [] [] (fun (_:List Nat)=>True) (fun _=>.tuple #[.agg #[.int .i64 (Es f z).1.Aa.Al,.int .i64 (Es f z).1.Aa.size,.slice none 0 0,.int .i64 (Es f z).1.Ai,.int .i64 (Es f z).1.quiet,.slice none 0 0],.bool (Es f z).2]) (fun s=>[.isv Dm (.agg #[.int .i64 (Es f z).1.Aa.Al,.int .i64 (Es f z).1.Aa.size,.slice none 0 0,.int .i64 (Es f z).1.Ai,.int .i64 (Es f z).1.quiet,.slice none 0 0]) (Es f z).1 s]):=by
 refine enter func67 rfl ntmps67 fun w0=>?_
 refine Bw Ba (by decide) ?_
 refine Bw Bj (by decide) ?_
 refine Dr Ae9 ?_
 refine Bw Ba (by decide) ?_
 refine Bw Bj (by decide) ?_
 refine Dr ⟨⟨f,z,[]⟩,0,0,[]⟩ ?_
 refine go ?_;intros
 refine cb (fun w st=>(Aa9 ⟨⟨f,z,[]⟩,0,0,[]⟩ _ ([]++[])).val w (Il (st.get (p:=.isv Dm (.agg #[.int .i64 f,.int .i64 z,.slice none 0 0,.int .i64 0,.int .i64 0,.slice none 0 0]) ⟨⟨f,z,[]⟩,0,0,[]⟩ ([]++[])) (by exact B8)))) ?_
 cases g1:Cc ⟨⟨f,z,[]⟩,0,0,[]⟩
 ·rw [show Es f z=(Ae9,false) by unfold Es;rw [g1];rfl]
  refine go ?_;intros
  refine ret ([]++[]) trivial rfl
 rw [show Es f z=(⟨⟨f,z,[]⟩,0,0,[]⟩,true) by unfold Es;rw [g1];rfl]
 refine go ?_;intros
 refine ret ([]++[]) trivial rfl
def Lh:D9:=⟨⟨[]⟩,Ae9,[],[],[],[]⟩
section
variable {c:Cx} {fr:Fr} {H:List Pc} {k:List It} {Φ:Gl} {ops:Array Oper} {o:Op} {ty:TypeId} {pos:String} {Cg:Array Edge} {H0:List Pc} {X:List Nat} {f:Nat} {listed:Array Bool}
theorem C4.many {P:Program} {md:Region.Mode} {Q:Exit→Act→World→Prop} {S:World→Prop} {Y:Nat→Bool} {a:Act} {w:World} (hne:(Region.ready md ops listed).isEmpty=false)
  (h:∀i∈Region.ready md ops listed,∃oi,ops[i]?=some oi∧∀K':Act→World→Prop,Shut (∀a w,(Y i=false→S w)→C4 P md ops Q S Y f (listed.setIfInBounds i true) a w→K' a w)→if Region.wanted oi (yielded ops a.tmps)=true then Oper.wp P oi a w K' Q else K' (a.put oi.dst undef) w) :
  C4 P md ops Q S Y (f+1) listed a w:=by
 refine ⟨fun h0=>(by rw [h0] at hne;cases hne),fun j hj=>?_⟩
 obtain ⟨oi,ho,hh⟩:=h j hj
 exact wpOp_step ho (fun K' hK=>hh K' (fun a w hS hW=>hK a w ⟨hS,hW⟩))
theorem dP (L:List Nat) (hr:(Region.ready .any ops listed).all (fun i=>L.contains i)=true) (hne:(Region.ready .any ops listed).isEmpty=false)
  (h:∀i∈L,listed.getD i true=false→∃o,ops[i]?=some o∧o.guard=none∧Ef c fr H o (.dk i k H0 X ops f (listed.setIfInBounds i true))):T c fr H (.dx k H0 X ops (f+1) listed):=.mk fun a w s g =>
 C4.many hne fun i hi=>by
  obtain ⟨o,ho,hg,he⟩:=h i (by simpa using List.all_eq_true.1 hr i hi) (by have:=(List.mem_filter.1 hi).2;simp only [Bool.and_eq_true,Bool.not_eq_true'] at this;exact this.1)
  refine ⟨o,ho,fun K hK=>?_⟩
  rw [if_pos (by simp [Region.wanted,hg])]
  exact Oper.wp_mono (fun a' w' h'=>hK a' w' h'.1 h'.2) (he.h _ a w s g)
theorem dE (i:Nat) {od:Option Tmp} (ho:ops[i]?=some ⟨od,o,ty,pos,Cg,none⟩) (h:On c fr H od o ty Φ):∃o,ops[i]?=some o∧o.guard=none∧Ef c fr H o Φ:=⟨_,ho,rfl,h.h _ _ _⟩
theorem Rg (z:List Value) (n:Nat):madeCells z.toArray (n * z.length)=((List.replicate n z).flatten).toArray:=by
 have:=Lr z.toArray n
 rw [List.size_toArray] at this
 rw [←Array.toArray_toList (xs:=madeCells z.toArray (n * z.length)),this]
theorem Apw {b:Bool} (h:b=false) (h2:b=true):False:=by rw [h2] at h;cases h
end
section
variable {c:Cx} {fr:Fr} {H:List Pc} {Φ:Gl}
theorem M7 {v:Value} {x:Nl} {F:List Nat} (h:∀(a1:Option Addr) (c1:Nat) (F1:List Nat),v=.agg #[.slice a1 x.Ac.length c1]→x.Ac.length≤maxLen→T c fr (.sl Bd (.slice a1 x.Ac.length c1) x.Ac F1::H) Φ) (hm:.isv Pd v x F∈H:=by exact B8):T c fr H Φ:=.mk fun a w s g=>by
 obtain ⟨cs,rfl,v1,rfl,h1⟩:=s.get hm
 obtain ⟨a1,c1,rfl⟩:=h1.slice;have l1:=h1.len
 have t1:=s.ro (p:=.sl Bd (.slice a1 x.Ac.length c1) x.Ac F) hm rfl rfl ⟨by decide,h1⟩ fun b hb=>hb
 exact (h a1 c1 F rfl  l1).h a w t1 g
theorem Ju (x:Nl) {a1:Option Addr} {c1:Nat} {F1:List Nat}  (h:T c fr (.isv Pd (.agg #[.slice a1 x.Ac.length c1]) x (F1)::H) Φ) (m1:.sl Bd (.slice a1 x.Ac.length c1) x.Ac F1∈H:=by exact B8):T c fr H Φ:=.mk fun a w s g=>by
 have hP:Pt Pd w (.agg #[.slice a1 x.Ac.length c1]) x (F1):=⟨_,rfl,_,rfl,(s.get m1).2⟩
 refine h.h a w (s.add (N:=[.isv Pd (.agg #[.slice a1 x.Ac.length c1]) x (F1)]) (Below.refl _ _) (by intro q hq;simp at hq;subst hq;exact hP) ⟨by simp,trivial⟩ fun q hq b hb=>?_) g
 simp at hq;subst hq
 simp only [Pc.F,List.mem_append] at hb
 exact .inr ⟨rfl,_,m1,rfl,hb⟩
end
theorem Acw:∀(A:List Pc),A.all (fun p=>!p.mu)=true→Px A
 | [],_=>trivial
 | p::A,h=>by
  simp only [List.all_cons,Bool.and_eq_true,Bool.not_eq_true'] at h
  exact ⟨fun q hq hm=>by
   have hq':=List.all_eq_true.1 h.2 q hq
   simp only [Bool.not_eq_true'] at hq'
   rw [h.1,hq'] at hm;simp at hm,Acw A h.2⟩
section
variable {c:Cx} {fr:Fr} {H:List Pc} {d:Nat} {Φ:Gl}
theorem cfr {f:Nat} {vs:List Value} {σ:Type} {C:σ→Prop} {vv:σ→Value} {N:σ→List Pc} (hf:∀w,St c.G c.D c.w0 H w→∃A,Nf A w∧A.all (fun p=>!p.mu)=true∧Fn c.P f vs A [] C vv N)
  (h:∀s,C s→T c ((d,vv s)::fr) (N s++H) Φ) (hN:∀s,(N s).all (·.mu)=true:=by intro s;rfl):Cl c fr H d f vs Φ :=
 Xa (R:=fun w e w'=>∃s,C s∧e=.returned (vv s)∧Nf (N s) w'∧Px (N s)∧Dy [] w w'∧∀p∈N s,∀b∈p.F,w.heap.size≤b)
  (fun w s=>by
   obtain ⟨A,hA,hm,hF⟩:=hf w s
   refine (hF w (by simpa using hA) (by simpa using Acw A hm)).mono fun e w' ⟨z,hz,he,h1,h2,h3,h4⟩=>⟨z,hz,he,h1,h2,h3,fun p hp b hb=>?_⟩
   rcases h4 p hp b hb with h|⟨q,hq, -⟩|⟨hp', -⟩
   ·exact h
   ·cases hq
   ·have:=List.all_eq_true.1 (hN z) p hp
    rw [hp'] at this;cases this)
  (fun w e w' s ⟨z,hz,he,h1,h2,h3,h4⟩=>⟨_,he,fun a g=>(h z hz).h a w' (St.turn (M:=[]) (R:=H) (N:=N z) s h3 h1 h2 fun p hp b hb=>.inl (h4 p hp b hb)) g⟩)
theorem Aml {M A R:List Pc} (hm:M.all (·.mu)=true) (hA:A.all (fun p=>!p.mu)=true) (hb:∀p∈A,∀b∈p.F,∃q∈R,b∈q.F):Px (M++R)→Px (M++A):=by
 induction M with
 | nil=>intro _;exact Acw A hA
 | cons p M ih =>
  simp only [List.all_cons,Bool.and_eq_true] at hm
  intro s
  refine ⟨fun q hq=>?_,ih hm.2 s.2⟩
  rcases List.mem_append.1 hq with h|h
  ·exact s.1 q (by simp [h])
  ·intro _ b hp hq2
   obtain ⟨r,hr,hbr⟩:=hb q h b hq2
   exact s.1 r (by simp [hr]) (by rw [hm.1];rfl) b hp hbr
theorem cfm {f:Nat} {vs:List Value} {M R:List Pc} {σ:Type} {C:σ→Prop} {vv:σ→Value} {N:σ→List Pc} (hM:Fc H M R) (hf:∀w,St c.G c.D c.w0 (M++R) w→∃A,Nf A w∧A.all (fun p=>!p.mu)=true∧(∀p∈A,∀b∈p.F,∃q∈R,b∈q.F)∧Fn c.P f vs A M C vv N)
  (h:∀s,C s→T c ((d,vv s)::fr) (N s++R) Φ) (hmM:M.all (·.mu)=true:=by rfl) (hN:∀s,(N s).all (·.mu)=true:=by intro s;rfl):Cl c fr H d f vs Φ :=
 have hMR:∀w,St c.G c.D c.w0 H w→St c.G c.D c.w0 (M++R) w:=fun w s=>by simpa using hM.st (X:=[]) (by simpa using s)
 have hmu:∀p∈M,p.mu=true:=fun p hp=>List.all_eq_true.1 hmM p hp
 Xa (R:=fun w e w'=>∃s,C s∧e=.returned (vv s)∧Nf (N s) w'∧Px (N s)∧Dy (fp M) w w'∧∀p∈N s,∀b∈p.F,w.heap.size≤b∨∃q∈M,b∈q.F)
  (fun w s=>by
   obtain ⟨A,hA,hm,hb,hF⟩:=hf w (hMR w s)
   have s2:=hMR w s
   refine (hF w (fun p hp=>?_) (Aml hmM hm hb s2.Zr)).mono fun e w' ⟨z,hz,he,h1,h2,h3,h4⟩=>⟨z,hz,he,h1,h2,h3,fun p hp b hb=>?_⟩
   ·rcases List.mem_append.1 hp with hp|hp
    ·exact s2.on p (by simp [hp])
    ·exact hA p hp
   ·rcases h4 p hp b hb with h|h|⟨hp', -⟩
    ·exact .inl h
    ·exact .inr h
    ·have:=List.all_eq_true.1 (hN z) p hp
     rw [hp'] at this;cases this)
  (fun w e w' s ⟨z,hz,he,h1,h2,h3,h4⟩=>⟨_,he,fun a g=>(h z hz).h a w' (St.turn (hMR w s) (by rwa [List.filter_eq_self.2 hmu]) h1 h2 fun p hp b hb=>by
   rcases h4 p hp b hb with h|⟨q,hq,hqb⟩
   ·exact .inl h
   ·exact .inr (.inl ⟨q,hq,hmu q hq,hqb⟩)) g⟩)
theorem Acy {α:Type} {E:Bv α} (Q:α→Prop) (hQ:∀w cs x F,E.Ka w cs x F→Q x) {a:Option Addr} {n cp:Nat} {xs:List α} {F:List Nat} (h:(∀x∈xs,Q x)→T c fr H Φ) (hm:.sl E (.slice a n cp) xs F∈H:=by exact B8):T c fr H Φ:=.mk fun ac w s g =>
 (h fun x hx=>by
  obtain ⟨k,hk,rfl⟩:=List.getElem_of_mem hx
  obtain ⟨-,hs⟩:=s.get hm
  obtain ⟨-, -,cs,F1, -,h1, -, -⟩:=hs.at k hk
  exact hQ _ _ _ _ h1).h ac w s g
theorem Rt {P:Program} {fn:Func} {G D:List Nat} {w0:World} {n:Nat} {R:Ending→World→Prop} (h:T ⟨P,G,D,w0,n,bodyPost P fn R⟩ fr H (.fin .ret)):T ⟨P,G,D,w0,n,bodyPost P fn R⟩ fr H (.norm []):=Ar9 ⟨fun a w s g=>h.h a w s g⟩
end
end Go.Proofs.YtaemjogbahcbcaaGreatDoor
namespace Go.Proofs.YtaemjogbahcbcaaGreatDoor

theorem Sy {α:Type} {p:α→Bool}:∀{xs:List α} {k:Nat},k≤xs.length→(∀j (_:j < k) (h:j < xs.length),p xs[j]=true)→(∀h:k < xs.length,p xs[k]=false)→(xs.takeWhile p).length=k
 | [],k,hk,_,_=>by simp at hk;simp [hk]
 | x::r,0,_,_,h2=>by have:=h2 (by simp);simp at this;simp [this]
 | x::r,k+1,hk,h1,h2=>by
  have hx:p x=true:=h1 0 (by omega) (by simp)
  rw [List.takeWhile_cons_of_pos hx,List.length_cons,Sy (xs:=r) (k:=k) (by simpa using hk) (fun j hj h=>by have:=h1 (j+1) (by omega) (by simpa using h);simpa using this) (fun h=>by have:=h2 (by simpa using h);simpa using this)]
theorem N1 {α:Type} {p:α→Bool}:∀{xs:List α},(xs.takeWhile p).length≤xs.length∧(∀j (_:j < (xs.takeWhile p).length) (h:j < xs.length),p xs[j]=true)∧∀h:(xs.takeWhile p).length < xs.length,p xs[(xs.takeWhile p).length]=false
 | []=>by simp
 | x::r=>by
  cases hx:p x
  ·rw [List.takeWhile_cons_of_neg (by simp [hx])];simp [hx]
  ·rw [List.takeWhile_cons_of_pos hx]
   obtain ⟨h1,h2,h3⟩:=N1 (p:=p) (xs:=r)
   refine ⟨by simpa using h1,fun j hj h=>?_,fun h=>?_⟩
   ·cases j with
    | zero=>simpa using hx
    | succ j=>simpa using h2 j (by simpa using hj) (by simpa using h)
   ·simpa using h3 (by simpa using h)
def An6 {α:Type} (f:α→Int):Option α→Bool
 | some x=>decide (f x=0)
 | none=>false
end Go.Proofs.YtaemjogbahcbcaaGreatDoor
namespace Go.Proofs.YtaemjogbahcbcaaGreatDoor
open Go.RowKit
theorem Qe (v:Value) (xs:List Int) (F:List Nat) (w:World) (h:Sl Bd w v xs F) (hm:xs.length≤4294967296) :
  Calls prog 66 #[v] w (Vz Bd 3 xs w):=by
 obtain ⟨ao,c,news,Fy,rfl,hl,hfy,hFy,hsrc⟩:=h.src
 have hFl:=hfy.lt
 have he:=fun w (a:Option Addr) (n c:Nat)=>Lib.run_eql_slice_nil (P:=prog) w 24 _ a n c 0 0 underlying24
 go_enter func66,ntmps66
 rcases hsrc with ⟨rfl,rfl,rfl⟩|⟨ad,rfl,hn⟩
 ·go_wp2
  go_ret
  exact ⟨.slice none 0 0,[],rfl,.inl ⟨rfl,rfl,rfl⟩,by simp,by simp,Below.refl _ _⟩
 ·go_wp2_with (at_builtin;refine Nx C8 (by decide) (by rfl) _ _ _ (by rfl) 3 (.int .i64 0) 8 underlying24 Ad1 rfl (.slice (some ⟨w.heap.size,0,none⟩) 0 0) [] [w.heap.size] (by rfl) (Ow.empty (Hm.made _ _ _)) (Hd.one _) (some ad) xs c (by rfl) news Fy (hfy.frame fun b hb=>Below.heap_alloc _ _ _ (hFl b hb)) (.inr ⟨ad,rfl,fun j u hu=>kc ((Below.refl _ _).alloc (Nat.le_refl _) _) (hn j u hu)⟩) (fun b hb e=>by have:=hFl b hb;simp [Value.ownBlock] at e;omega) (by simpa using hl) (by unfold maxLen at hl;simp;omega) ?_)
  intro v2 w2 F2 hA
  go_wp2_with fail
  go_ret
  have hB:Below w.heap.size w w2:=((Below.refl _ _).alloc (Nat.le_refl _) _).trans (hA.Ky.below (by simp) (by simp))
  have hs:∀b,v2.ownBlock=some b→w.heap.size≤b:=fun b hb=>by rcases hA.Af8 with e|e <;> rw [e] at hb <;> simp [Value.ownBlock] at hb <;> omega
  refine ⟨v2,F2,rfl,by simpa using hA.ow,hA.ow.scal Du▸?_,fun b hb=>?_,hB⟩
  ·cases v2.ownBlock <;> simp
  ·rw [hA.ow.scal Du] at hb;exact hs b (by simpa using hb)
theorem X7 (v:Value) (xs:List Int) (F:List Nat) (w:World) (h:Sl Bd w v xs F) (hm:xs.length≤4294967296) :
  Calls prog 69 #[v] w (Vz Bd 3 xs w):=by
 obtain ⟨ao,c,news,Fy,rfl,hl,hfy,hFy,hsrc⟩:=h.src
 have hFl:=hfy.lt
 have hsrc2:(ao=none∧c=0∧xs=[])∨∃ad,ao=some ad∧∀j u,news[j]?=some u→(w.alloc (.cells #[] 3)).cell? (ad.add j)=some u:=by
  rcases hsrc with h|⟨ad,h1,h2⟩
  ·exact .inl h
  ·exact .inr ⟨ad,h1,fun j u hu=>kc ((Below.refl _ _).alloc (Nat.le_refl _) _) (h2 j u hu)⟩
 go_enter func69,ntmps69
 go_wp2_with (at_builtin;refine Nx C8 (by decide) (by rfl) _ _ _ (by rfl) 3 (.int .i64 0) 8 underlying24 Ad1 rfl (.slice (some ⟨w.heap.size,0,none⟩) 0 0) [] [w.heap.size] (by rfl) (Ow.empty (Hm.made _ _ _)) (Hd.one _) ao xs c (by rfl) news Fy (hfy.frame fun b hb=>Below.heap_alloc _ _ _ (hFl b hb)) hsrc2 (fun b hb e=>by have:=hFl b hb;simp [Value.ownBlock] at e;omega) (by simpa using hl) (by unfold maxLen at hl;simp;omega) ?_)
 intro v2 w2 F2 hA
 go_wp2_with fail
 go_ret
 have hB:Below w.heap.size w w2:=((Below.refl _ _).alloc (Nat.le_refl _) _).trans (hA.Ky.below (by simp) (by simp))
 have hs:∀b,v2.ownBlock=some b→w.heap.size≤b:=fun b hb=>by rcases hA.Af8 with e|e <;> rw [e] at hb <;> simp [Value.ownBlock] at hb <;> omega
 refine ⟨v2,F2,rfl,by simpa using hA.ow,hA.ow.scal Du▸?_,fun b hb=>?_,hB⟩
 ·cases v2.ownBlock <;> simp
 ·rw [hA.ow.scal Du] at hb;exact hs b (by simpa using hb)
theorem Xw (v:Value) (e:Bl) (F:List Nat) (w:World) (h:Pt Bn w v e F) (hm:e.Ah.length≤4294967296) (hm2:∀x∈e.Ah,x.Bi.length≤4294967296) :
  Calls prog 77 #[v] w (Akj Bt e w):=by
 obtain ⟨_,rfl,v1,rfl,h1⟩:=h
 obtain ⟨a,cap,rfl⟩:=h1.slice
 have hl:=h1.len
 unfold maxLen at hl
 have hB0:∀A B:Obj,Below w.heap.size w ((w.alloc A).alloc B):=fun A B=>((Below.refl _ _).alloc (Nat.le_refl _) _).alloc (by simp) _
 have hFl:=h1.lt (by decide)
 go_enter func77,ntmps77
 go_wp2_with fail
 refine (Ac8 _ e.Ah F _ (h1.below (by decide) (hB0 _ _)) hm).mono ?_
 rintro e' w1 ⟨v2,F2,rfl,ho,hd,hs,hF2,hb1⟩
 obtain ⟨a2,cap2,rfl⟩:=ho.slice
 have r0:=Hm.below (g:=w.heap.size) (t:=77) (cs:=[.int .i64 e.Ai,.slice a e.Ah.length cap]) (by simp [Iq] <;> omega) hb1
 have r1:=Hm.below (g:=w.heap.size+1) (t:=77) (cs:=[.int .i64 0,.slice none 0 0]) (by simp [Iq] <;> omega) hb1
 have hB:=tr (hB0 _ _) hb1 (Nat.le_refl _)
 have hm1:=Lib.hid (Mix.start (O:=Ee) (R:=Da) (B1:=w.heap.size) (B0:=w.heap.size+2) rfl ho (by simpa using hs) (fun b hb=>(hF2 b hb).imp id fun hb=>hFl b hb) hd)
 have c0:=r0.cells;have f0:=r0.frozens
 have f1:=r1.frozens;have c1:=r1.cells
 clear hb1 ho hs hd hF2
 go_wp2_with fail
 have R0:=r0.set 1 (.slice a2 e.Ah.length cap2)
 have R1:=r1.setOther (p:=⟨w.heap.size,1,none⟩) (by simp) (.slice a2 e.Ah.length cap2)
 have M1:=Lib.hid (hm1.out.setFar (p:=⟨w.heap.size,1,none⟩) (Nat.le_refl _) (by simp) (.slice a2 e.Ah.length cap2))
 clear hm1
 go_loopw [3,11] (fun _ i wr=>∃k:Nat,k≤e.Ah.length∧i=.int .i64 k∧Hid (Mix Ee Da 136 w.heap.size (w.heap.size+2) wr (.slice a2 e.Ah.length cap2) e.Ah k)∧Hm wr w.heap.size 77 [.int .i64 e.Ai,.slice a2 e.Ah.length cap2]∧Hm wr (w.heap.size+1) 77 [.int .i64 0,.slice none 0 0]∧Below w.heap.size w wr) (fun _ i _=>e.Ah.length - (intOf i).toNat)
 case atStart=>exact ⟨0,Nat.zero_le _,rfl,M1,by simpa using R0,R1,hB.setCell (Nat.le_refl _) _⟩
 case round =>
  obtain ⟨k,hk,rfl,hM,hr,hr1,hB⟩:=hrel
  have c0:=hr.cells;have f0:=hr.frozens
  have hsz:=hr1.lt
  by_cases hlt:k < e.Ah.length
  ·obtain ⟨g,cap3,A,c,B,Fk,hv,hg,hrow,hA,hcl,hx, -,back⟩:=hM.out.at rfl hlt (by omega) (by omega)
   cases hv
   obtain ⟨u1,rfl,hf⟩:=id hx
   obtain ⟨fa,fc,rfl⟩:=hf.slice
   have a1:=hrow.cellMid (p:=k * 3+1) (j:=1) (by rw [hA];rfl) (by simp)
   simp only [List.getElem?_cons_zero,List.getElem?_cons_succ] at a1
   have hne:¬g=w.heap.size:=by omega
   have hne2:¬w.heap.size=g:=by omega
   have hbk:=Lib.hid back
   clear back
   have hfl:=hm2 e.Ah[k] (List.getElem_mem _)
   go_wp2_with fail
   go_region_law (first|(go_simp;go_at_call 66;refine (Qe _ e.Ah[k].Bi Fk wr.drew (hf.frame fun _ _=>rfl) hfl).mono ?_;rintro e' w2 ⟨v3,F3,rfl,o3,n3,g3,hb2⟩;obtain ⟨d3,p3,rfl⟩:=o3.slice;have z3:=kc hb2 (show wr.drew.cell? ⟨w.heap.size,1,none⟩=some (.slice (some ⟨g,0,none⟩) e.Ah.length cap2) by simpa using c0 1);have z1:=kc hb2 (by simpa using a1);have zf:=((show Hm wr.drew g 136 _ from hrow).below hb2).frozens (k * 3+1)))
   all_goals
    have hr2:=((show Hm wr.drew w.heap.size 77 _ from hr).below hb2).setOther (p:=⟨g,k * 3+1,none⟩) hne (.slice d3 e.Ah[k].Bi.length p3)
    have hr3:=((show Hm wr.drew (w.heap.size+1) 77 _ from hr1).below hb2).setOther (p:=⟨g,k * 3+1,none⟩) (by simp;omega) (.slice d3 e.Ah[k].Bi.length p3)
    have hro:=((show Hm wr.drew g 136 _ from hrow).below hb2).setMid (p:=k * 3+1) (j:=1) (by rw [hA];rfl) (by simp) (.slice d3 e.Ah[k].Bi.length p3)
    have hg3:∀b∈F3,wr.heap.size≤b:=g3
    have hgs:=hrow.lt
    have hMk:=Lib.hid (hbk.out _ _ F3 hro ⟨_,rfl,o3.setFar (fun hm=>by have:=hg3 _ hm;simp at this;omega) _⟩ n3 hg3 (fun b hb hbg=>(Below.heap_setCell _ _ _ _ hbg).trans (hb2.block b hb)))
    have hB3:Below w.heap.size w (w2.setCell ⟨g,k * 3+1,none⟩ (.slice d3 e.Ah[k].Bi.length p3)):=(tr (Ek hB 1) hb2 (Nat.le_refl _)).setCell (by simp;omega) _
    go_wp2_with fail
    exact ⟨⟨k+1,by omega,by go_num,hMk,hr2,hr3,hB3⟩,by simp [intOf];omega⟩
  ·have hk:k=e.Ah.length:=by omega
   subst hk
   obtain ⟨F4,o4,n4,g4⟩:=hM.out.done
   have O4:=Lib.hid o4
   clear hM o4
   have d1:=hr1.cells;have fd:=hr1.frozens
   go_wp2_with fail
   refine bodyPost_ret (v:=.agg #[.int .i64 e.Ai,.slice a2 e.Ah.length cap2]) ?_ rfl ?_
   ·simp [results,results77,go_sem,c0,d1,fd]
   ·refine ⟨_,F4,rfl,⟨_,rfl,_,rfl,?_⟩,n4,fun b hb=>by have:=g4 b hb;omega,?_⟩
    ·repeat refine Ow.setFar ?_ (fun hm=>by have:=g4 _ hm;simp at this <;> omega) _
     exact O4.out
    ·repeat refine Below.setCell ?_ (by simp <;> omega) _
     exact hB
end Go.Proofs.YtaemjogbahcbcaaGreatDoor
